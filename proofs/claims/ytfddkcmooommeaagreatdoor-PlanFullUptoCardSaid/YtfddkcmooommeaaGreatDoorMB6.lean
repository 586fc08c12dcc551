/- PlanFull up to the bulk: the row and its card. -/
import Derived.Test.YtfddkcmooommeaaGreatDoorMB5
section
namespace Go.Proofs.YtfddkcmooommeaaGreatDoor.Gl
open Go.RowKit Go.Shelf
set_option linter.unusedVariables false
set_option linter.unnecessarySimpa false
set_option linter.unusedSimpArgs false
attribute [-simp] List.getD_eq_getElem?_getD
def ltsC (xs : List Lt) : List Value := xs.flatMap LtC
theorem lt_len (l : Lt) : (LtC l).length = 21 := rfl
theorem lts_snoc {xs : List Lt} {x : Lt} {v : Value} {H : Hp} (h : SlAt 21 89 (ltsC xs ++ LtC x) (xs.length + 1) v H) : SlAt 21 89 (ltsC (xs ++ [x])) (xs ++ [x]).length v H := by
  unfold ltsC at h ⊢
  rw [List.flatMap_append, List.length_append]
  simpa using h
theorem SlAt.lts {xs : List Lt} {v : Value} {H : Hp} (h : SlAt 21 89 (ltsC xs) xs.length v H) (w0 : World) : ∃ A c, v = .slice A xs.length c ∧ LtsAt w0 H A xs ∧ xs.length ≤ c := by
  obtain ⟨A, c, h1, h2, h3⟩ := SlAt.flat w0 [] lt_len h
  rw [List.append_nil] at h2
  exact ⟨A, c, h1, h2, h3⟩
theorem LtsAt.mono' {w0 : World} {G G' : Hp} {A : Option Addr} {xs : List Lt} (h : LtsAt w0 G A xs) (hs : ∀ y ∈ G, y ∈ G') : LtsAt w0 G' A xs := fun i x hx => by obtain ⟨b, o, cs, h1, h2, h3⟩ := h i x hx; exact ⟨b, o, cs, h1, h2, h3.mono hs⟩
def fT (p : Lt → Bool) (xs : List Lt) (i : Nat) : List Lt := (xs.take i).filter p
theorem fT_yes {p : Lt → Bool} {xs : List Lt} {i : Nat} {x : Lt} (h : xs[i]? = some x) (hp : p x = true) : fT p xs (i + 1) = fT p xs i ++ [x] := by
  unfold fT
  rw [List.take_add_one, h, List.filter_append]
  simp [hp]
theorem fT_no {p : Lt → Bool} {xs : List Lt} {i : Nat} {x : Lt} (h : xs[i]? = some x) (hp : p x = false) : fT p xs (i + 1) = fT p xs i := by
  unfold fT
  rw [List.take_add_one, h, List.filter_append]
  simp [hp]
theorem fT_all {p : Lt → Bool} {xs : List Lt} {i : Nat} (h : xs.length ≤ i) : fT p xs i = xs.filter p := by unfold fT; rw [List.take_of_length_le h]
theorem fT_zero (p : Lt → Bool) (xs : List Lt) : fT p xs 0 = [] := rfl
theorem fT_le (p : Lt → Bool) (xs : List Lt) (i : Nat) : (fT p xs i).length ≤ i := by
  have h := List.length_filter_le p (xs.take i)
  rw [List.length_take] at h
  unfold fT
  omega
def isMt (l : Lt) : Bool := decide (l.kind = 1)
def isCt (l : Lt) : Bool := decide (l.kind = 3) || decide (l.kind = 4)
def isNt (l : Lt) : Bool := decide (l.kind = 2)
def waitL (body : List Lt) : List Lt := body.filter isCt ++ body.filter isNt
theorem wait_len (body : List Lt) : (waitL body).length ≤ 2 * body.length := by
  have h1 := List.length_filter_le isCt body
  have h2 := List.length_filter_le isNt body
  unfold waitL
  rw [List.length_append]
  omega
def cntZ (order : List Int) (k : Nat) : Nat := order.countP (fun z => decide (z = (k : Int)))
def oneZ (order : List Int) (k : Nat) : Bool := decide ((cntZ order k : Int) = 1)
def goodF (n : Nat) (order : List Int) : Bool := decide ((order.length : Int) = (n : Int)) && (List.range n).all (oneZ order)
def goodTo (n : Nat) (order : List Int) (i : Nat) : Bool := decide ((order.length : Int) = (n : Int)) && (List.range i).all (oneZ order)
theorem goodTo_succ {n i : Nat} {order : List Int} (h : goodTo n order i = true) : goodTo n order (i + 1) = oneZ order i := by
  unfold goodTo at h ⊢
  rw [Bool.and_eq_true] at h
  rw [List.range_succ, List.all_append, h.1, h.2]
  simp
theorem goodTo_end {n i : Nat} {order : List Int} (h : goodTo n order i = false) (hi : i ≤ n) : goodF n order = false := by
  unfold goodTo at h
  unfold goodF
  rw [Bool.and_eq_false_iff] at h ⊢
  rcases h with h | h
  · exact .inl h
  · refine .inr ?_
    rw [List.all_eq_false] at h ⊢
    obtain ⟨k, hk, h2⟩ := h
    exact ⟨k, List.mem_range.2 (by have := List.mem_range.1 hk; omega), h2⟩
theorem cnt_succ {order : List Int} {j : Nat} {z : Int} (k : Nat) (h : order[j]? = some z) : (order.take (j + 1)).countP (fun z => decide (z = (k : Int))) = (order.take j).countP (fun z => decide (z = (k : Int))) + if z = (k : Int) then 1 else 0 := by
  rw [List.take_add_one, h, List.countP_append]
  simp [List.countP_cons]
theorem cnt_le (order : List Int) (j k : Nat) : (order.take j).countP (fun z => decide (z = (k : Int))) ≤ j := by
  have := List.countP_le_length (p := fun z => decide (z = (k : Int))) (l := order.take j)
  rw [List.length_take] at this
  omega
theorem cover (l : List Int) : ∀ n : Nat, (∀ k : Nat, k < n → (k : Int) ∈ l) → ∃ l', l.Perm ((List.range n).map (fun k : Nat => (k : Int)) ++ l')
  | 0, _ => ⟨l, by simp⟩
  | n + 1, h => by
    obtain ⟨l', hl⟩ := cover l n (fun k hk => h k (by omega))
    have hn : (n : Int) ∈ l' := by
      rcases List.mem_append.1 (hl.mem_iff.1 (h n (by omega))) with h1 | h1
      · obtain ⟨k, hk, e⟩ := List.mem_map.1 h1
        have := List.mem_range.1 hk
        omega
      · exact h1
    refine ⟨l'.erase (n : Int), hl.trans ?_⟩
    rw [List.range_succ, List.map_append, List.append_assoc]
    exact List.Perm.append_left _ (List.perm_cons_erase hn)
theorem good_perm {n : Nat} {order : List Int} (h : goodF n order = true) : order.Perm ((List.range n).map (fun k : Nat => (k : Int))) := by
  unfold goodF at h
  rw [Bool.and_eq_true, decide_eq_true_eq, List.all_eq_true] at h
  obtain ⟨h1, h2⟩ := h
  obtain ⟨l', hl⟩ := cover order n (fun k hk => by
    have h3 := h2 k (List.mem_range.2 hk)
    unfold oneZ cntZ at h3
    rw [decide_eq_true_eq] at h3
    obtain ⟨z, hz, e⟩ := List.countP_pos_iff.1 (show 0 < order.countP (fun z => decide (z = (k : Int))) by omega)
    rw [decide_eq_true_eq] at e
    exact e ▸ hz)
  have h4 := hl.length_eq
  rw [List.length_append, List.length_map, List.length_range] at h4
  have h5 : l' = [] := List.length_eq_zero_iff.1 (by omega)
  rw [h5, List.append_nil] at hl
  exact hl
theorem good_range {n : Nat} {order : List Int} (h : goodF n order = true) : order.length = n ∧ ∀ z ∈ order, 0 ≤ z ∧ z < n := by
  have hp := good_perm h
  refine ⟨by rw [hp.length_eq]; simp, fun z hz => ?_⟩
  obtain ⟨k, hk, rfl⟩ := List.mem_map.1 (hp.mem_iff.1 hz)
  have := List.mem_range.1 hk
  omega
structure PS where
  tk : List Lt
  wt : List Lt
  out : List Lt
def zLt : Lt := ⟨0, zPt, zSl, zSl⟩
def mAt (ms : List Lt) (good : Bool) (order : List Int) (p : Nat) : Lt := if good = true then ms.getD (order.getD p 0).toNat zLt else ms.getD p zLt
def flushW (q : PS) : PS := ⟨q.tk, q.wt.filter (fun l => !readyW q.tk l), q.out ++ q.wt.filter (readyW q.tk)⟩
def preW (ms : List Lt) (good : Bool) (order : List Int) (q : PS) : Nat → PS
  | 0 => q
  | p + 1 => ⟨q.tk ++ [mAt ms good order p], q.wt, q.out ++ [mAt ms good order p]⟩
def stW (ms : List Lt) (good : Bool) (order : List Int) (q : PS) : Nat → PS
  | 0 => q
  | i + 1 => flushW (preW ms good order (stW ms good order q i) i)
def partsW (body : List Lt) (order : List Int) : List Lt := (stW (body.filter isMt) (goodF (body.filter isMt).length order) order ⟨[], waitL body, []⟩ ((body.filter isMt).length + 1)).out
theorem pre_wt (ms : List Lt) (good : Bool) (order : List Int) (q : PS) (i : Nat) : (preW ms good order q i).wt = q.wt := by cases i <;> rfl
theorem filter_two (p : Lt → Bool) (l : List Lt) : (l.filter p).length + (l.filter (fun x => !p x)).length = l.length := by
  induction l with
  | nil => rfl
  | cons x l ih =>
    cases h : p x <;> simp [h] <;> omega
theorem st_len (ms : List Lt) (good : Bool) (order : List Int) (q : PS) (h0 : q.tk = []) : ∀ i : Nat, (stW ms good order q i).tk.length ≤ i ∧ (stW ms good order q i).wt.length + (stW ms good order q i).out.length ≤ q.wt.length + q.out.length + i
  | 0 => by simp [stW, h0]
  | i + 1 => by
    obtain ⟨h1, h2⟩ := st_len ms good order q h0 i
    have h4 := filter_two (readyW (preW ms good order (stW ms good order q i) i).tk) (stW ms good order q i).wt
    have h5 : (preW ms good order (stW ms good order q i) i).tk.length ≤ (stW ms good order q i).tk.length + 1 := by cases i <;> simp [preW]
    have h6 : (preW ms good order (stW ms good order q i) i).out.length ≤ (stW ms good order q i).out.length + 1 := by cases i <;> simp [preW]
    refine ⟨?_, ?_⟩
    · show (preW ms good order (stW ms good order q i) i).tk.length ≤ i + 1
      omega
    · show ((preW ms good order (stW ms good order q i) i).wt.filter _).length + ((preW ms good order (stW ms good order q i) i).out ++ (preW ms good order (stW ms good order q i) i).wt.filter _).length ≤ _
      rw [pre_wt, List.length_append]
      omega
theorem Hs.un2 (X A B : Hp) : Hs ((X ++ A) ++ B) (X ++ (A ++ B)) := Hs.eq (List.append_assoc _ _ _)
theorem as2 (X A B : Hp) : X ++ (A ++ B) = (X ++ A) ++ B := (List.append_assoc _ _ _).symm
theorem Hs.left (F O T W R : Hp) : Hs (F ++ (O ++ (T ++ (W ++ R)))) (O ++ (T ++ (F ++ R))) := (Hs.sub ((((List.sublist_append_right W R).append_left T).append_left O).append_left F)).trans (Hs.perm (by
  rw [← List.append_assoc O T R, ← List.append_assoc O T (F ++ R), ← List.append_assoc F, ← List.append_assoc (O ++ T)]
  exact List.Perm.append_right _ List.perm_append_comm))
theorem ref_Parts (w0 : World) (G : Hp) (bA : Option Addr) (body : List Lt) (bc : Nat) (hl : LtsAt w0 G bA body) (hbl : body.length ≤ 1000) (oA : Option Addr) (order : List Int) (oc : Nat) (ho : IntsAt w0 G oA order) (hol : order.length ≤ 1000) : GC Tryz.prog w0 40 #[.slice bA body.length bc, .slice oA order.length oc] (fun v G' => ∃ H, SlAt 21 89 (ltsC (partsW body order)) (partsW body order).length v H ∧ H ++ G = G') G := by
  have hml := List.length_filter_le isMt body
  have hcl := List.length_filter_le isCt body
  have hwl := wait_len body
  refine GC.body (args := [.slice bA body.length bc, .slice oA order.length oc]) Tryz.func40 rfl (by kernel_rfl) rfl ?_
  refine GW.seq ?_
  refine GW.region ?_
  refine R.assign ⟨rfl, rfl, rfl, rfl⟩ rfl ?_
  refine GOps.nil ?_
  refine GW.seq ?_
  refine GW.region ?_
  refine R.assign ⟨rfl, rfl, rfl, rfl⟩ rfl ?_
  refine R.assign ⟨rfl, rfl, rfl, rfl⟩ rfl ?_
  refine R.assign ⟨rfl, rfl, rfl, rfl⟩ rfl ?_
  refine R.assign ⟨rfl, rfl, rfl, rfl⟩ rfl ?_
  refine GOps.nil ?_
  refine GW.seq ?_
  refine GW.seq ?_
  refine GW.region ?_
  refine R.assign ⟨rfl, rfl, rfl, rfl⟩ rfl ?_
  refine GOps.nil ?_
  refine GW.block ?_
  refine GW.loop4 (fun (i : Nat) (vm : Value) (Hm : Hp) (u1 : Unit) => [(0, .slice bA body.length bc), (1, .slice oA order.length oc), (5, vm), (6, .slice none 0 0), (7, .slice none 0 0), (8, .slice none 0 0), (9, .int .i64 i)]) (fun (i : Nat) (vm : Value) (Hm : Hp) (u1 : Unit) => Hm ++ G) (fun i : Nat => body.length - i) (fun (i : Nat) (vm : Value) (Hm : Hp) (u1 : Unit) => i ≤ body.length ∧ SlAt 21 89 (ltsC ((fT isMt body i))) ((fT isMt body i)).length vm Hm) 0 (.slice none 0 0) ([]) (())
    (by repeat (first | exact Keeps.nil _ | refine Keeps.cons rfl ?_)) (Hs.refl _) (⟨Nat.zero_le _, .nil rfl rfl⟩) ?_
  rintro i vm Hm u1 ⟨hi, hM⟩
  have hfl := fT_le isMt body i
  refine GW.seq ?_
  refine GW.seq ?_
  refine GW.region ?_
  refine R.move ⟨rfl, rfl, rfl, rfl⟩ rfl ?_
  refine R.move ⟨rfl, rfl, rfl, rfl⟩ rfl ?_
  refine R.lenS ⟨rfl, rfl, rfl, rfl⟩ rfl rfl Tryz.underlying29 ?_
  refine R.lss ⟨rfl, rfl, rfl, rfl⟩ rfl rfl ?_
  refine GOps.nil ?_
  refine GW.ite rfl (fun hc1 => ?_) (fun hc1 => ?_)
  · try simp only [decide_eq_true_eq, decide_eq_false_iff_not, Bool.not_eq_true', Bool.not_eq_false'] at hc1
    obtain ⟨x, hx⟩ : ∃ x, body[i]? = some x := ⟨_, List.getElem?_eq_getElem (by omega)⟩
    obtain ⟨xb, xo, cs0, rfl, rfl, hrd⟩ := hl i x hx
    refine GW.skip ?_
    refine GW.seq ?_
    refine GW.block ?_
    refine GW.seq ?_
    refine GW.region ?_
    refine R.move ⟨rfl, rfl, rfl, rfl⟩ rfl ?_
    refine R.move ⟨rfl, rfl, rfl, rfl⟩ rfl ?_
    refine R.indexAddrS ⟨rfl, rfl, rfl, rfl⟩ rfl rfl Tryz.underlying29 Tryz.sizeOf89 (by omega) (by omega) ?_
    refine R.fieldAddr ⟨rfl, rfl, rfl, rfl⟩ rfl Tryz.underlying89 rfl Tryz.sizeOf87 ?_   -- "Kind"
    refine R.load1 ⟨rfl, rfl, rfl, rfl⟩ rfl Tryz.underlying87 rfl ((hrd 0 _ rfl).mono (fun y hy => by repeat (first | exact hy | apply List.mem_cons_of_mem | apply List.mem_append_right))) ?_
    refine R.eqI ⟨rfl, rfl, rfl, rfl⟩ rfl rfl ?_
    refine GOps.nil ?_
    refine GW.ite rfl (fun hc2 => ?_) (fun hc2 => ?_)
    · try simp only [decide_eq_true_eq, decide_eq_false_iff_not, Bool.not_eq_true', Bool.not_eq_false'] at hc2
      refine GW.region ?_
      refine R.move ⟨rfl, rfl, rfl, rfl⟩ rfl ?_
      refine R.move ⟨rfl, rfl, rfl, rfl⟩ rfl ?_
      refine R.move ⟨rfl, rfl, rfl, rfl⟩ rfl ?_
      refine R.indexAddrS ⟨rfl, rfl, rfl, rfl⟩ rfl rfl Tryz.underlying29 Tryz.sizeOf89 (by omega) (by omega) ?_
      refine R.loadA ⟨rfl, rfl, rfl, rfl⟩ rfl Tryz.underlying89 rfl Tryz.sizeOf89 (hrd.mono (fun y hy => by repeat (first | exact hy | apply List.mem_cons_of_mem | apply List.mem_append_right))) (by rfl) ?_
      refine R.buildSliceF (sz := 21) (bytes := 288) (vs := [_]) (cs := LtC x) ⟨rfl, rfl, rfl, rfl⟩ rfl Tryz.underlying29 (InfoE.mk (by kernel_rfl)) rfl rfl rfl rfl rfl fun b37 => ?_
      refine R.append (sz := 21) (bytes := 288) (G1 := [_]) (H := Hm) (news := LtC x) ⟨rfl, rfl, rfl, rfl⟩ rfl rfl rfl Tryz.underlying29 (InfoE.mk (by kernel_rfl)) (hM) (rfl) (rfl) (.own (by repeat (first | exact List.mem_cons_self | apply List.mem_cons_of_mem | apply List.mem_append_right | exact List.mem_append_left _ List.mem_cons_self)) 0 _ (fun j v hv => by simpa using hv)) (by omega) (by rfl) (by omega) (by omega) fun v38 H38 hv38 => ?_
      obtain ⟨A38, c38, rfl, hc38⟩ := hv38.split
      refine R.assign ⟨rfl, rfl, rfl, rfl⟩ rfl ?_
      refine GOps.nil ?_
      refine GW.region ?_
      refine R.move ⟨rfl, rfl, rfl, rfl⟩ rfl ?_
      refine R.add (r := (((i + 1) : Nat) : Int)) ⟨rfl, rfl, rfl, rfl⟩ rfl rfl (by rw [wrap64_id (by omega) (by omega)]; omega) ?_
      refine R.assign ⟨rfl, rfl, rfl, rfl⟩ rfl ?_
      refine GOps.nil ?_
      first | exact ⟨i + 1, .slice A38 _ c38, H38, (), by omega, ⟨by omega, by rw [fT_yes hx (by unfold isMt; exact decide_eq_true (by omega))]; exact lts_snoc hv38⟩, rfl, by repeat (first | exact Keeps.nil _ | refine Keeps.cons rfl ?_), Hs.tl _⟩ | exact ⟨i + 1, vm, Hm, (), by omega, ⟨by omega, by rw [fT_no hx (by unfold isMt; exact decide_eq_false (by omega))]; exact hM⟩, rfl, by repeat (first | exact Keeps.nil _ | refine Keeps.cons rfl ?_), Hs.refl _⟩
    · try simp only [decide_eq_true_eq, decide_eq_false_iff_not, Bool.not_eq_true', Bool.not_eq_false'] at hc2
      refine GW.skip ?_
      refine GW.region ?_
      refine R.move ⟨rfl, rfl, rfl, rfl⟩ rfl ?_
      refine R.add (r := (((i + 1) : Nat) : Int)) ⟨rfl, rfl, rfl, rfl⟩ rfl rfl (by rw [wrap64_id (by omega) (by omega)]; omega) ?_
      refine R.assign ⟨rfl, rfl, rfl, rfl⟩ rfl ?_
      refine GOps.nil ?_
      first | exact ⟨i + 1, .slice A38 _ c38, H38, (), by omega, ⟨by omega, by rw [fT_yes hx (by unfold isMt; exact decide_eq_true (by omega))]; exact lts_snoc hv38⟩, rfl, by repeat (first | exact Keeps.nil _ | refine Keeps.cons rfl ?_), Hs.tl _⟩ | exact ⟨i + 1, vm, Hm, (), by omega, ⟨by omega, by rw [fT_no hx (by unfold isMt; exact decide_eq_false (by omega))]; exact hM⟩, rfl, by repeat (first | exact Keeps.nil _ | refine Keeps.cons rfl ?_), Hs.refl _⟩
  · try simp only [decide_eq_true_eq, decide_eq_false_iff_not, Bool.not_eq_true', Bool.not_eq_false'] at hc1
    obtain rfl : i = body.length := by omega
    rw [fT_all (Nat.le_refl _)] at hM
    obtain ⟨Am, cm, rfl, hMt, hcm⟩ := hM.lts w0
    refine GW.exit ?_
    refine GW.seq ?_
    refine GW.seq ?_
    refine GW.region ?_
    refine R.assign ⟨rfl, rfl, rfl, rfl⟩ rfl ?_
    refine GOps.nil ?_
    refine GW.block ?_
    refine GW.loop4 (fun (i : Nat) (vw : Value) (Hw : Hp) (u1 : Unit) => [(0, .slice bA body.length bc), (1, .slice oA order.length oc), (5, .slice Am (body.filter isMt).length cm), (6, vw), (7, .slice none 0 0), (8, .slice none 0 0), (10, .int .i64 i)]) (fun (i : Nat) (vw : Value) (Hw : Hp) (u1 : Unit) => Hw ++ (Hm ++ G)) (fun i : Nat => body.length - i) (fun (i : Nat) (vw : Value) (Hw : Hp) (u1 : Unit) => i ≤ body.length ∧ SlAt 21 89 (ltsC ((fT isCt body i))) ((fT isCt body i)).length vw Hw) 0 (.slice none 0 0) ([]) (())
      (by repeat (first | exact Keeps.nil _ | refine Keeps.cons rfl ?_)) (Hs.refl _) (⟨Nat.zero_le _, .nil rfl rfl⟩) ?_
    rintro i vw Hw u1 ⟨hi, hW⟩
    have hfl := fT_le isCt body i
    refine GW.seq ?_
    refine GW.seq ?_
    refine GW.region ?_
    refine R.move ⟨rfl, rfl, rfl, rfl⟩ rfl ?_
    refine R.move ⟨rfl, rfl, rfl, rfl⟩ rfl ?_
    refine R.lenS ⟨rfl, rfl, rfl, rfl⟩ rfl rfl Tryz.underlying29 ?_
    refine R.lss ⟨rfl, rfl, rfl, rfl⟩ rfl rfl ?_
    refine GOps.nil ?_
    refine GW.ite rfl (fun hc3 => ?_) (fun hc3 => ?_)
    · try simp only [decide_eq_true_eq, decide_eq_false_iff_not, Bool.not_eq_true', Bool.not_eq_false'] at hc3
      obtain ⟨x, hx⟩ : ∃ x, body[i]? = some x := ⟨_, List.getElem?_eq_getElem (by omega)⟩
      obtain ⟨xb, xo, cs0, rfl, rfl, hrd⟩ := hl i x hx
      refine GW.skip ?_
      refine GW.seq ?_
      refine GW.block ?_
      refine GW.seq ?_
      refine GW.region ?_
      refine R.move ⟨rfl, rfl, rfl, rfl⟩ rfl ?_
      refine R.move ⟨rfl, rfl, rfl, rfl⟩ rfl ?_
      refine R.indexAddrS ⟨rfl, rfl, rfl, rfl⟩ rfl rfl Tryz.underlying29 Tryz.sizeOf89 (by omega) (by omega) ?_
      refine R.fieldAddr ⟨rfl, rfl, rfl, rfl⟩ rfl Tryz.underlying89 rfl Tryz.sizeOf87 ?_   -- "Kind"
      refine R.load1 ⟨rfl, rfl, rfl, rfl⟩ rfl Tryz.underlying87 rfl ((hrd 0 _ rfl).mono (fun y hy => by repeat (first | exact hy | apply List.mem_cons_of_mem | apply List.mem_append_right))) ?_
      refine R.eqI ⟨rfl, rfl, rfl, rfl⟩ rfl rfl ?_
      refine R.move ⟨rfl, rfl, rfl, rfl⟩ rfl ?_
      refine GOps.caseB 51 rfl (fun hg4 => ?_) (fun hg4 => ?_)
      · try simp only [decide_eq_true_eq, decide_eq_false_iff_not, Bool.not_eq_true', Bool.not_eq_false'] at hg4
        refine GOps.skip rfl rfl rfl ?_
        refine GOps.skip rfl rfl rfl ?_
        refine GOps.skip rfl rfl rfl ?_
        refine GOps.skip rfl rfl rfl ?_
        refine GOps.skip rfl rfl rfl ?_
        refine GOps.skip rfl rfl rfl ?_
        refine R.pick_t ⟨rfl, rfl, rfl, rfl⟩ rfl rfl ?_
        refine GOps.nil ?_
        refine GW.cond_t rfl ?_
        refine GW.region ?_
        refine R.move ⟨rfl, rfl, rfl, rfl⟩ rfl ?_
        refine R.move ⟨rfl, rfl, rfl, rfl⟩ rfl ?_
        refine R.move ⟨rfl, rfl, rfl, rfl⟩ rfl ?_
        refine R.indexAddrS ⟨rfl, rfl, rfl, rfl⟩ rfl rfl Tryz.underlying29 Tryz.sizeOf89 (by omega) (by omega) ?_
        refine R.loadA ⟨rfl, rfl, rfl, rfl⟩ rfl Tryz.underlying89 rfl Tryz.sizeOf89 (hrd.mono (fun y hy => by repeat (first | exact hy | apply List.mem_cons_of_mem | apply List.mem_append_right))) (by rfl) ?_
        refine R.buildSliceF (sz := 21) (bytes := 288) (vs := [_]) (cs := LtC x) ⟨rfl, rfl, rfl, rfl⟩ rfl Tryz.underlying29 (InfoE.mk (by kernel_rfl)) rfl rfl rfl rfl rfl fun b64 => ?_
        refine R.append (sz := 21) (bytes := 288) (G1 := [_]) (H := Hw) (news := LtC x) ⟨rfl, rfl, rfl, rfl⟩ rfl rfl rfl Tryz.underlying29 (InfoE.mk (by kernel_rfl)) (hW) (rfl) (rfl) (.own (by repeat (first | exact List.mem_cons_self | apply List.mem_cons_of_mem | apply List.mem_append_right | exact List.mem_append_left _ List.mem_cons_self)) 0 _ (fun j v hv => by simpa using hv)) (by omega) (by rfl) (by omega) (by omega) fun v65 H65 hv65 => ?_
        obtain ⟨A65, c65, rfl, hc65⟩ := hv65.split
        refine R.assign ⟨rfl, rfl, rfl, rfl⟩ rfl ?_
        refine GOps.nil ?_
        refine GW.region ?_
        refine R.move ⟨rfl, rfl, rfl, rfl⟩ rfl ?_
        refine R.add (r := (((i + 1) : Nat) : Int)) ⟨rfl, rfl, rfl, rfl⟩ rfl rfl (by rw [wrap64_id (by omega) (by omega)]; omega) ?_
        refine R.assign ⟨rfl, rfl, rfl, rfl⟩ rfl ?_
        refine GOps.nil ?_
        first | exact ⟨i + 1, .slice A65 _ c65, H65, (), by omega, ⟨by omega, by rw [fT_yes hx (by unfold isCt; rw [Bool.or_eq_true, decide_eq_true_eq, decide_eq_true_eq]; omega)]; exact lts_snoc hv65⟩, rfl, by repeat (first | exact Keeps.nil _ | refine Keeps.cons rfl ?_), Hs.tl _⟩ | exact ⟨i + 1, vw, Hw, (), by omega, ⟨by omega, by rw [fT_no hx (by unfold isCt; rw [Bool.or_eq_false_iff, decide_eq_false_iff_not, decide_eq_false_iff_not]; omega)]; exact hW⟩, rfl, by repeat (first | exact Keeps.nil _ | refine Keeps.cons rfl ?_), Hs.refl _⟩
      · try simp only [decide_eq_true_eq, decide_eq_false_iff_not, Bool.not_eq_true', Bool.not_eq_false'] at hg4
        refine R.move ⟨rfl, rfl, rfl, rfl⟩ rfl ?_
        refine R.move ⟨rfl, rfl, rfl, rfl⟩ rfl ?_
        refine R.indexAddrS ⟨rfl, rfl, rfl, rfl⟩ rfl rfl Tryz.underlying29 Tryz.sizeOf89 (by omega) (by omega) ?_
        refine R.fieldAddr ⟨rfl, rfl, rfl, rfl⟩ rfl Tryz.underlying89 rfl Tryz.sizeOf87 ?_   -- "Kind"
        refine R.load1 ⟨rfl, rfl, rfl, rfl⟩ rfl Tryz.underlying87 rfl ((hrd 0 _ rfl).mono (fun y hy => by repeat (first | exact hy | apply List.mem_cons_of_mem | apply List.mem_append_right))) ?_
        refine R.eqI ⟨rfl, rfl, rfl, rfl⟩ rfl rfl ?_
        refine R.pick_f ⟨rfl, rfl, rfl, rfl⟩ rfl rfl ?_
        refine GOps.nil ?_
        refine GW.ite rfl (fun hc5 => ?_) (fun hc5 => ?_)
        · try simp only [decide_eq_true_eq, decide_eq_false_iff_not, Bool.not_eq_true', Bool.not_eq_false'] at hc5
          refine GW.region ?_
          refine R.move ⟨rfl, rfl, rfl, rfl⟩ rfl ?_
          refine R.move ⟨rfl, rfl, rfl, rfl⟩ rfl ?_
          refine R.move ⟨rfl, rfl, rfl, rfl⟩ rfl ?_
          refine R.indexAddrS ⟨rfl, rfl, rfl, rfl⟩ rfl rfl Tryz.underlying29 Tryz.sizeOf89 (by omega) (by omega) ?_
          refine R.loadA ⟨rfl, rfl, rfl, rfl⟩ rfl Tryz.underlying89 rfl Tryz.sizeOf89 (hrd.mono (fun y hy => by repeat (first | exact hy | apply List.mem_cons_of_mem | apply List.mem_append_right))) (by rfl) ?_
          refine R.buildSliceF (sz := 21) (bytes := 288) (vs := [_]) (cs := LtC x) ⟨rfl, rfl, rfl, rfl⟩ rfl Tryz.underlying29 (InfoE.mk (by kernel_rfl)) rfl rfl rfl rfl rfl fun b64 => ?_
          refine R.append (sz := 21) (bytes := 288) (G1 := [_]) (H := Hw) (news := LtC x) ⟨rfl, rfl, rfl, rfl⟩ rfl rfl rfl Tryz.underlying29 (InfoE.mk (by kernel_rfl)) (hW) (rfl) (rfl) (.own (by repeat (first | exact List.mem_cons_self | apply List.mem_cons_of_mem | apply List.mem_append_right | exact List.mem_append_left _ List.mem_cons_self)) 0 _ (fun j v hv => by simpa using hv)) (by omega) (by rfl) (by omega) (by omega) fun v65 H65 hv65 => ?_
          obtain ⟨A65, c65, rfl, hc65⟩ := hv65.split
          refine R.assign ⟨rfl, rfl, rfl, rfl⟩ rfl ?_
          refine GOps.nil ?_
          refine GW.region ?_
          refine R.move ⟨rfl, rfl, rfl, rfl⟩ rfl ?_
          refine R.add (r := (((i + 1) : Nat) : Int)) ⟨rfl, rfl, rfl, rfl⟩ rfl rfl (by rw [wrap64_id (by omega) (by omega)]; omega) ?_
          refine R.assign ⟨rfl, rfl, rfl, rfl⟩ rfl ?_
          refine GOps.nil ?_
          first | exact ⟨i + 1, .slice A65 _ c65, H65, (), by omega, ⟨by omega, by rw [fT_yes hx (by unfold isCt; rw [Bool.or_eq_true, decide_eq_true_eq, decide_eq_true_eq]; omega)]; exact lts_snoc hv65⟩, rfl, by repeat (first | exact Keeps.nil _ | refine Keeps.cons rfl ?_), Hs.tl _⟩ | exact ⟨i + 1, vw, Hw, (), by omega, ⟨by omega, by rw [fT_no hx (by unfold isCt; rw [Bool.or_eq_false_iff, decide_eq_false_iff_not, decide_eq_false_iff_not]; omega)]; exact hW⟩, rfl, by repeat (first | exact Keeps.nil _ | refine Keeps.cons rfl ?_), Hs.refl _⟩
        · try simp only [decide_eq_true_eq, decide_eq_false_iff_not, Bool.not_eq_true', Bool.not_eq_false'] at hc5
          refine GW.skip ?_
          refine GW.region ?_
          refine R.move ⟨rfl, rfl, rfl, rfl⟩ rfl ?_
          refine R.add (r := (((i + 1) : Nat) : Int)) ⟨rfl, rfl, rfl, rfl⟩ rfl rfl (by rw [wrap64_id (by omega) (by omega)]; omega) ?_
          refine R.assign ⟨rfl, rfl, rfl, rfl⟩ rfl ?_
          refine GOps.nil ?_
          first | exact ⟨i + 1, .slice A65 _ c65, H65, (), by omega, ⟨by omega, by rw [fT_yes hx (by unfold isCt; rw [Bool.or_eq_true, decide_eq_true_eq, decide_eq_true_eq]; omega)]; exact lts_snoc hv65⟩, rfl, by repeat (first | exact Keeps.nil _ | refine Keeps.cons rfl ?_), Hs.tl _⟩ | exact ⟨i + 1, vw, Hw, (), by omega, ⟨by omega, by rw [fT_no hx (by unfold isCt; rw [Bool.or_eq_false_iff, decide_eq_false_iff_not, decide_eq_false_iff_not]; omega)]; exact hW⟩, rfl, by repeat (first | exact Keeps.nil _ | refine Keeps.cons rfl ?_), Hs.refl _⟩
    · try simp only [decide_eq_true_eq, decide_eq_false_iff_not, Bool.not_eq_true', Bool.not_eq_false'] at hc3
      obtain rfl : i = body.length := by omega
      rw [fT_all (Nat.le_refl _)] at hW
      refine GW.exit ?_
      refine GW.seq ?_
      refine GW.seq ?_
      refine GW.region ?_
      refine R.assign ⟨rfl, rfl, rfl, rfl⟩ rfl ?_
      refine GOps.nil ?_
      refine GW.block ?_
      refine GW.loop4 (fun (i : Nat) (vw : Value) (Hw : Hp) (u1 : Unit) => [(0, .slice bA body.length bc), (1, .slice oA order.length oc), (5, .slice Am (body.filter isMt).length cm), (6, vw), (7, .slice none 0 0), (8, .slice none 0 0), (11, .int .i64 i)]) (fun (i : Nat) (vw : Value) (Hw : Hp) (u1 : Unit) => Hw ++ (Hm ++ G)) (fun i : Nat => body.length - i) (fun (i : Nat) (vw : Value) (Hw : Hp) (u1 : Unit) => i ≤ body.length ∧ SlAt 21 89 (ltsC ((body.filter isCt ++ fT isNt body i))) ((body.filter isCt ++ fT isNt body i)).length vw Hw) 0 (vw) (Hw) (())
        (by repeat (first | exact Keeps.nil _ | refine Keeps.cons rfl ?_)) (Hs.refl _) (⟨Nat.zero_le _, (by rw [fT_zero, List.append_nil]; exact hW)⟩) ?_
      rintro i vw Hw u1 ⟨hi, hW⟩
      have hfl := fT_le isNt body i
      have hfl2 : (body.filter isCt ++ fT isNt body i).length ≤ body.length + i := by rw [List.length_append]; omega
      refine GW.seq ?_
      refine GW.seq ?_
      refine GW.region ?_
      refine R.move ⟨rfl, rfl, rfl, rfl⟩ rfl ?_
      refine R.move ⟨rfl, rfl, rfl, rfl⟩ rfl ?_
      refine R.lenS ⟨rfl, rfl, rfl, rfl⟩ rfl rfl Tryz.underlying29 ?_
      refine R.lss ⟨rfl, rfl, rfl, rfl⟩ rfl rfl ?_
      refine GOps.nil ?_
      refine GW.ite rfl (fun hc6 => ?_) (fun hc6 => ?_)
      · try simp only [decide_eq_true_eq, decide_eq_false_iff_not, Bool.not_eq_true', Bool.not_eq_false'] at hc6
        obtain ⟨x, hx⟩ : ∃ x, body[i]? = some x := ⟨_, List.getElem?_eq_getElem (by omega)⟩
        obtain ⟨xb, xo, cs0, rfl, rfl, hrd⟩ := hl i x hx
        refine GW.skip ?_
        refine GW.seq ?_
        refine GW.block ?_
        refine GW.seq ?_
        refine GW.region ?_
        refine R.move ⟨rfl, rfl, rfl, rfl⟩ rfl ?_
        refine R.move ⟨rfl, rfl, rfl, rfl⟩ rfl ?_
        refine R.indexAddrS ⟨rfl, rfl, rfl, rfl⟩ rfl rfl Tryz.underlying29 Tryz.sizeOf89 (by omega) (by omega) ?_
        refine R.fieldAddr ⟨rfl, rfl, rfl, rfl⟩ rfl Tryz.underlying89 rfl Tryz.sizeOf87 ?_   -- "Kind"
        refine R.load1 ⟨rfl, rfl, rfl, rfl⟩ rfl Tryz.underlying87 rfl ((hrd 0 _ rfl).mono (fun y hy => by repeat (first | exact hy | apply List.mem_cons_of_mem | apply List.mem_append_right))) ?_
        refine R.eqI ⟨rfl, rfl, rfl, rfl⟩ rfl rfl ?_
        refine GOps.nil ?_
        refine GW.ite rfl (fun hc7 => ?_) (fun hc7 => ?_)
        · try simp only [decide_eq_true_eq, decide_eq_false_iff_not, Bool.not_eq_true', Bool.not_eq_false'] at hc7
          refine GW.region ?_
          refine R.move ⟨rfl, rfl, rfl, rfl⟩ rfl ?_
          refine R.move ⟨rfl, rfl, rfl, rfl⟩ rfl ?_
          refine R.move ⟨rfl, rfl, rfl, rfl⟩ rfl ?_
          refine R.indexAddrS ⟨rfl, rfl, rfl, rfl⟩ rfl rfl Tryz.underlying29 Tryz.sizeOf89 (by omega) (by omega) ?_
          refine R.loadA ⟨rfl, rfl, rfl, rfl⟩ rfl Tryz.underlying89 rfl Tryz.sizeOf89 (hrd.mono (fun y hy => by repeat (first | exact hy | apply List.mem_cons_of_mem | apply List.mem_append_right))) (by rfl) ?_
          refine R.buildSliceF (sz := 21) (bytes := 288) (vs := [_]) (cs := LtC x) ⟨rfl, rfl, rfl, rfl⟩ rfl Tryz.underlying29 (InfoE.mk (by kernel_rfl)) rfl rfl rfl rfl rfl fun b83 => ?_
          refine R.append (sz := 21) (bytes := 288) (G1 := [_]) (H := Hw) (news := LtC x) ⟨rfl, rfl, rfl, rfl⟩ rfl rfl rfl Tryz.underlying29 (InfoE.mk (by kernel_rfl)) (hW) (rfl) (rfl) (.own (by repeat (first | exact List.mem_cons_self | apply List.mem_cons_of_mem | apply List.mem_append_right | exact List.mem_append_left _ List.mem_cons_self)) 0 _ (fun j v hv => by simpa using hv)) (by omega) (by rfl) (by omega) (by omega) fun v84 H84 hv84 => ?_
          obtain ⟨A84, c84, rfl, hc84⟩ := hv84.split
          refine R.assign ⟨rfl, rfl, rfl, rfl⟩ rfl ?_
          refine GOps.nil ?_
          refine GW.region ?_
          refine R.move ⟨rfl, rfl, rfl, rfl⟩ rfl ?_
          refine R.add (r := (((i + 1) : Nat) : Int)) ⟨rfl, rfl, rfl, rfl⟩ rfl rfl (by rw [wrap64_id (by omega) (by omega)]; omega) ?_
          refine R.assign ⟨rfl, rfl, rfl, rfl⟩ rfl ?_
          refine GOps.nil ?_
          first | exact ⟨i + 1, .slice A84 _ c84, H84, (), by omega, ⟨by omega, by rw [fT_yes hx (by unfold isNt; exact decide_eq_true (by omega)), ← List.append_assoc]; exact lts_snoc hv84⟩, rfl, by repeat (first | exact Keeps.nil _ | refine Keeps.cons rfl ?_), Hs.tl _⟩ | exact ⟨i + 1, vw, Hw, (), by omega, ⟨by omega, by rw [fT_no hx (by unfold isNt; exact decide_eq_false (by omega))]; exact hW⟩, rfl, by repeat (first | exact Keeps.nil _ | refine Keeps.cons rfl ?_), Hs.refl _⟩
        · try simp only [decide_eq_true_eq, decide_eq_false_iff_not, Bool.not_eq_true', Bool.not_eq_false'] at hc7
          refine GW.skip ?_
          refine GW.region ?_
          refine R.move ⟨rfl, rfl, rfl, rfl⟩ rfl ?_
          refine R.add (r := (((i + 1) : Nat) : Int)) ⟨rfl, rfl, rfl, rfl⟩ rfl rfl (by rw [wrap64_id (by omega) (by omega)]; omega) ?_
          refine R.assign ⟨rfl, rfl, rfl, rfl⟩ rfl ?_
          refine GOps.nil ?_
          first | exact ⟨i + 1, .slice A84 _ c84, H84, (), by omega, ⟨by omega, by rw [fT_yes hx (by unfold isNt; exact decide_eq_true (by omega)), ← List.append_assoc]; exact lts_snoc hv84⟩, rfl, by repeat (first | exact Keeps.nil _ | refine Keeps.cons rfl ?_), Hs.tl _⟩ | exact ⟨i + 1, vw, Hw, (), by omega, ⟨by omega, by rw [fT_no hx (by unfold isNt; exact decide_eq_false (by omega))]; exact hW⟩, rfl, by repeat (first | exact Keeps.nil _ | refine Keeps.cons rfl ?_), Hs.refl _⟩
      · try simp only [decide_eq_true_eq, decide_eq_false_iff_not, Bool.not_eq_true', Bool.not_eq_false'] at hc6
        obtain rfl : i = body.length := by omega
        rw [fT_all (Nat.le_refl _)] at hW
        replace hW : SlAt 21 89 (ltsC ((waitL body))) ((waitL body)).length vw Hw := hW
        refine GW.exit ?_
        refine GW.seq ?_
        refine GW.region ?_
        refine R.move ⟨rfl, rfl, rfl, rfl⟩ rfl ?_
        refine R.lenS ⟨rfl, rfl, rfl, rfl⟩ rfl rfl Tryz.underlying32 ?_
        refine R.move ⟨rfl, rfl, rfl, rfl⟩ rfl ?_
        refine R.lenS ⟨rfl, rfl, rfl, rfl⟩ rfl rfl Tryz.underlying29 ?_
        refine R.eqI ⟨rfl, rfl, rfl, rfl⟩ rfl rfl ?_
        refine R.assign ⟨rfl, rfl, rfl, rfl⟩ rfl ?_
        refine GOps.nil ?_
        refine GW.cutX (fun a : Unit => [(1, .slice oA order.length oc), (5, .slice Am (body.filter isMt).length cm), (6, vw), (7, .slice none 0 0), (8, .slice none 0 0), (12, .bool (goodF (body.filter isMt).length order))]) (fun a : Unit => Hw ++ (Hm ++ G)) (fun a : Unit => True) ?_ ?_
        · refine GW.seq ?_
          refine GW.region ?_
          refine R.assign ⟨rfl, rfl, rfl, rfl⟩ rfl ?_
          refine GOps.nil ?_
          refine GW.block ?_
          refine GW.loop4 (fun (i : Nat) (g : Bool) (u1 : Unit) (u2 : Unit) => [(1, .slice oA order.length oc), (5, .slice Am (body.filter isMt).length cm), (6, vw), (7, .slice none 0 0), (8, .slice none 0 0), (12, .bool g), (13, .int .i64 i)]) (fun (i : Nat) (g : Bool) (u1 : Unit) (u2 : Unit) => Hw ++ (Hm ++ G)) (fun i : Nat => (body.filter isMt).length - i) (fun (i : Nat) (g : Bool) (u1 : Unit) (u2 : Unit) => i ≤ (body.filter isMt).length ∧ g = goodTo (body.filter isMt).length order i) 0 (decide ((order.length : Int) = ((body.filter isMt).length : Int))) (()) (())
            (by repeat (first | exact Keeps.nil _ | refine Keeps.cons rfl ?_)) (Hs.refl _) (⟨Nat.zero_le _, by simp [goodTo]⟩) ?_
          rintro i g u1 u2 ⟨hi, hg⟩
          refine GW.seq ?_
          refine GW.seq ?_
          refine GW.region ?_
          refine R.move ⟨rfl, rfl, rfl, rfl⟩ rfl ?_
          refine R.move ⟨rfl, rfl, rfl, rfl⟩ rfl ?_
          refine R.lenS ⟨rfl, rfl, rfl, rfl⟩ rfl rfl Tryz.underlying29 ?_
          refine R.lss ⟨rfl, rfl, rfl, rfl⟩ rfl rfl ?_
          refine R.move ⟨rfl, rfl, rfl, rfl⟩ rfl ?_
          refine GOps.caseB 94 rfl (fun hg8 => ?_) (fun hg8 => ?_)
          · try simp only [decide_eq_true_eq, decide_eq_false_iff_not, Bool.not_eq_true', Bool.not_eq_false'] at hg8
            refine R.move ⟨rfl, rfl, rfl, rfl⟩ rfl ?_
            refine R.pick_t ⟨rfl, rfl, rfl, rfl⟩ rfl rfl ?_
            refine GOps.nil ?_
            refine GW.ite rfl (fun hc9 => ?_) (fun hc9 => ?_)
            · try simp only [decide_eq_true_eq, decide_eq_false_iff_not, Bool.not_eq_true', Bool.not_eq_false'] at hc9
              refine GW.skip ?_
              refine GW.seq ?_
              refine GW.block ?_
              refine GW.seq ?_
              refine GW.region ?_
              refine R.assign ⟨rfl, rfl, rfl, rfl⟩ rfl ?_
              refine GOps.nil ?_
              refine GW.seq ?_
              refine GW.seq ?_
              refine GW.region ?_
              refine R.assign ⟨rfl, rfl, rfl, rfl⟩ rfl ?_
              refine GOps.nil ?_
              refine GW.block ?_
              refine GW.loop4 (fun (j : Nat) (mn : Nat) (u1 : Unit) (u2 : Unit) => [(1, .slice oA order.length oc), (5, .slice Am (body.filter isMt).length cm), (6, vw), (7, .slice none 0 0), (8, .slice none 0 0), (13, .int .i64 i), (14, .int .i64 mn), (15, .int .i64 j)]) (fun (j : Nat) (mn : Nat) (u1 : Unit) (u2 : Unit) => Hw ++ (Hm ++ G)) (fun j : Nat => order.length - j) (fun (j : Nat) (mn : Nat) (u1 : Unit) (u2 : Unit) => j ≤ order.length ∧ mn = (order.take j).countP (fun z => decide (z = (i : Int)))) 0 (0) (()) (())
                (by repeat (first | exact Keeps.nil _ | refine Keeps.cons rfl ?_)) (Hs.refl _) (⟨Nat.zero_le _, rfl⟩) ?_
              rintro j mn u1 u2 ⟨hj, hmn⟩
              have hcl2 := cnt_le order j i
              refine GW.seq ?_
              refine GW.seq ?_
              refine GW.region ?_
              refine R.move ⟨rfl, rfl, rfl, rfl⟩ rfl ?_
              refine R.move ⟨rfl, rfl, rfl, rfl⟩ rfl ?_
              refine R.lenS ⟨rfl, rfl, rfl, rfl⟩ rfl rfl Tryz.underlying32 ?_
              refine R.lss ⟨rfl, rfl, rfl, rfl⟩ rfl rfl ?_
              refine GOps.nil ?_
              refine GW.ite rfl (fun hc10 => ?_) (fun hc10 => ?_)
              · try simp only [decide_eq_true_eq, decide_eq_false_iff_not, Bool.not_eq_true', Bool.not_eq_false'] at hc10
                obtain ⟨z, hz⟩ : ∃ z, order[j]? = some z := ⟨_, List.getElem?_eq_getElem (by omega)⟩
                obtain ⟨zb, zo, rfl, hrz⟩ := int_at ho hz
                refine GW.skip ?_
                refine GW.seq ?_
                refine GW.block ?_
                refine GW.seq ?_
                refine GW.region ?_
                refine R.move ⟨rfl, rfl, rfl, rfl⟩ rfl ?_
                refine R.move ⟨rfl, rfl, rfl, rfl⟩ rfl ?_
                refine R.indexAddrS ⟨rfl, rfl, rfl, rfl⟩ rfl rfl Tryz.underlying32 Tryz.sizeOf3 (by omega) (by omega) ?_
                refine R.load1 ⟨rfl, rfl, rfl, rfl⟩ rfl Tryz.underlying3 rfl (hrz.mono (fun y hy => by repeat (first | exact hy | apply List.mem_cons_of_mem | apply List.mem_append_right))) ?_
                refine R.move ⟨rfl, rfl, rfl, rfl⟩ rfl ?_
                refine R.eqI ⟨rfl, rfl, rfl, rfl⟩ rfl rfl ?_
                refine GOps.nil ?_
                refine GW.ite rfl (fun hc11 => ?_) (fun hc11 => ?_)
                · try simp only [decide_eq_true_eq, decide_eq_false_iff_not, Bool.not_eq_true', Bool.not_eq_false'] at hc11
                  refine GW.region ?_
                  refine R.move ⟨rfl, rfl, rfl, rfl⟩ rfl ?_
                  refine R.add (r := ((mn + 1 : Nat) : Int)) ⟨rfl, rfl, rfl, rfl⟩ rfl rfl (by rw [wrap64_id (by omega) (by omega)]; omega) ?_
                  refine R.assign ⟨rfl, rfl, rfl, rfl⟩ rfl ?_
                  refine GOps.nil ?_
                  refine GW.region ?_
                  refine R.move ⟨rfl, rfl, rfl, rfl⟩ rfl ?_
                  refine R.add (r := (((j + 1) : Nat) : Int)) ⟨rfl, rfl, rfl, rfl⟩ rfl rfl (by rw [wrap64_id (by omega) (by omega)]; omega) ?_
                  refine R.assign ⟨rfl, rfl, rfl, rfl⟩ rfl ?_
                  refine GOps.nil ?_
                  first | exact ⟨j + 1, mn + 1, (), (), by omega, ⟨by omega, by rw [cnt_succ i hz, if_pos (by assumption), ← hmn]⟩, rfl, by repeat (first | exact Keeps.nil _ | refine Keeps.cons rfl ?_), Hs.refl _⟩ | exact ⟨j + 1, mn, (), (), by omega, ⟨by omega, by rw [cnt_succ i hz, if_neg (by assumption), ← hmn, Nat.add_zero]⟩, rfl, by repeat (first | exact Keeps.nil _ | refine Keeps.cons rfl ?_), Hs.refl _⟩
                · try simp only [decide_eq_true_eq, decide_eq_false_iff_not, Bool.not_eq_true', Bool.not_eq_false'] at hc11
                  refine GW.skip ?_
                  refine GW.region ?_
                  refine R.move ⟨rfl, rfl, rfl, rfl⟩ rfl ?_
                  refine R.add (r := (((j + 1) : Nat) : Int)) ⟨rfl, rfl, rfl, rfl⟩ rfl rfl (by rw [wrap64_id (by omega) (by omega)]; omega) ?_
                  refine R.assign ⟨rfl, rfl, rfl, rfl⟩ rfl ?_
                  refine GOps.nil ?_
                  first | exact ⟨j + 1, mn + 1, (), (), by omega, ⟨by omega, by rw [cnt_succ i hz, if_pos (by assumption), ← hmn]⟩, rfl, by repeat (first | exact Keeps.nil _ | refine Keeps.cons rfl ?_), Hs.refl _⟩ | exact ⟨j + 1, mn, (), (), by omega, ⟨by omega, by rw [cnt_succ i hz, if_neg (by assumption), ← hmn, Nat.add_zero]⟩, rfl, by repeat (first | exact Keeps.nil _ | refine Keeps.cons rfl ?_), Hs.refl _⟩
              · try simp only [decide_eq_true_eq, decide_eq_false_iff_not, Bool.not_eq_true', Bool.not_eq_false'] at hc10
                refine GW.exit ?_
                refine GW.region ?_
                refine R.move ⟨rfl, rfl, rfl, rfl⟩ rfl ?_
                refine R.eqI ⟨rfl, rfl, rfl, rfl⟩ rfl rfl ?_
                refine R.assign ⟨rfl, rfl, rfl, rfl⟩ rfl ?_
                refine GOps.nil ?_
                refine GW.region ?_
                refine R.move ⟨rfl, rfl, rfl, rfl⟩ rfl ?_
                refine R.add (r := (((i + 1) : Nat) : Int)) ⟨rfl, rfl, rfl, rfl⟩ rfl rfl (by rw [wrap64_id (by omega) (by omega)]; omega) ?_
                refine R.assign ⟨rfl, rfl, rfl, rfl⟩ rfl ?_
                refine GOps.nil ?_
                exact ⟨i + 1, decide ((mn : Int) = 1), (), (), by omega, ⟨by omega, by rw [goodTo_succ (by rw [← hg]; assumption), hmn, List.take_of_length_le (by omega)]; rfl⟩, rfl, by repeat (first | exact Keeps.nil _ | refine Keeps.cons rfl ?_), Hs.refl _⟩
            · try simp only [decide_eq_true_eq, decide_eq_false_iff_not, Bool.not_eq_true', Bool.not_eq_false'] at hc9
              refine GW.exit ?_
              first | (have hgg : g = (goodF (body.filter isMt).length order) := by rw [hg, show i = (body.filter isMt).length by omega]; rfl) | (have hgg : g = (goodF (body.filter isMt).length order) := by rw [show g = false by assumption, goodTo_end (by rw [← hg]; assumption) hi])
              subst hgg
              exact ⟨rfl, rfl, (), trivial, by repeat (first | exact Keeps.nil _ | refine Keeps.cons rfl ?_), Hs.refl _⟩
          · try simp only [decide_eq_true_eq, decide_eq_false_iff_not, Bool.not_eq_true', Bool.not_eq_false'] at hg8
            refine GOps.skip rfl rfl rfl ?_
            refine R.pick_f ⟨rfl, rfl, rfl, rfl⟩ rfl rfl ?_
            refine GOps.nil ?_
            refine GW.cond_f rfl ?_
            refine GW.exit ?_
            first | (have hgg : g = (goodF (body.filter isMt).length order) := by rw [hg, show i = (body.filter isMt).length by omega]; rfl) | (have hgg : g = (goodF (body.filter isMt).length order) := by rw [show g = false by assumption, goodTo_end (by rw [← hg]; assumption) hi])
            subst hgg
            exact ⟨rfl, rfl, (), trivial, by repeat (first | exact Keeps.nil _ | refine Keeps.cons rfl ?_), Hs.refl _⟩
        · intro _ _
          obtain ⟨good, hgd⟩ : ∃ g, g = (goodF (body.filter isMt).length order) := ⟨_, rfl⟩
          rw [← hgd]
          refine GW.seq ?_
          refine GW.seq ?_
          refine GW.region ?_
          refine R.assign ⟨rfl, rfl, rfl, rfl⟩ rfl ?_
          refine GOps.nil ?_
          refine GW.block ?_
          refine GW.loop4 (fun (i : Nat) (q : PS) (h : (Value × Value × Value) × (Hp × Hp × Hp)) (u1 : Unit) => [(1, .slice oA order.length oc), (5, .slice Am (body.filter isMt).length cm), (6, h.1.1), (7, h.1.2.1), (8, h.1.2.2), (12, .bool good), (16, .int .i64 i)]) (fun (i : Nat) (q : PS) (h : (Value × Value × Value) × (Hp × Hp × Hp)) (u1 : Unit) => h.2.2.2 ++ (h.2.2.1 ++ (h.2.1 ++ (Hm ++ G)))) (fun i : Nat => (body.filter isMt).length + 1 - i) (fun (i : Nat) (q : PS) (h : (Value × Value × Value) × (Hp × Hp × Hp)) (u1 : Unit) => i ≤ (body.filter isMt).length + 1 ∧ q = stW (body.filter isMt) good order ⟨[], (waitL body), []⟩ i ∧ SlAt 21 89 (ltsC (q.wt)) (q.wt).length h.1.1 h.2.1 ∧ SlAt 21 89 (ltsC (q.tk)) (q.tk).length h.1.2.1 h.2.2.1 ∧ SlAt 21 89 (ltsC (q.out)) (q.out).length h.1.2.2 h.2.2.2) 0 (⟨[], (waitL body), []⟩) (((vw, .slice none 0 0, .slice none 0 0), (Hw, [], []))) (())
            (by repeat (first | exact Keeps.nil _ | refine Keeps.cons rfl ?_)) (Hs.refl _) (⟨Nat.zero_le _, rfl, hW, .nil rfl rfl, .nil rfl rfl⟩) ?_
          rintro i q h u1 ⟨hi, hq, hW, hT, hO⟩
          obtain ⟨⟨vw, vt, vo⟩, Hw, Ht, Ho⟩ := h
          obtain ⟨hq1, hq3⟩ := st_len (body.filter isMt) good order ⟨[], (waitL body), []⟩ rfl i
          rw [← hq] at hq1 hq3
          simp only [List.length_nil] at hq3
          simp only at hW hT hO
          refine GW.seq ?_
          refine GW.seq ?_
          refine GW.region ?_
          refine R.move ⟨rfl, rfl, rfl, rfl⟩ rfl ?_
          refine R.move ⟨rfl, rfl, rfl, rfl⟩ rfl ?_
          refine R.lenS ⟨rfl, rfl, rfl, rfl⟩ rfl rfl Tryz.underlying29 ?_
          refine R.leq ⟨rfl, rfl, rfl, rfl⟩ rfl rfl ?_
          refine GOps.nil ?_
          refine GW.ite rfl (fun hc12 => ?_) (fun hc12 => ?_)
          · try simp only [decide_eq_true_eq, decide_eq_false_iff_not, Bool.not_eq_true', Bool.not_eq_false'] at hc12
            refine GW.skip ?_
            refine GW.seq ?_
            refine GW.block ?_
            refine GW.cutX (fun a : (Value × Value) × (Hp × Hp) => [(1, .slice oA order.length oc), (5, .slice Am (body.filter isMt).length cm), (6, vw), (7, a.1.1), (8, a.1.2), (12, .bool good), (16, .int .i64 i)]) (fun a : (Value × Value) × (Hp × Hp) => a.2.2 ++ (a.2.1 ++ (Hw ++ (Hm ++ G)))) (fun a : (Value × Value) × (Hp × Hp) => SlAt 21 89 (ltsC ((preW (body.filter isMt) good order q i).tk)) ((preW (body.filter isMt) good order q i).tk).length a.1.1 a.2.1 ∧ SlAt 21 89 (ltsC ((preW (body.filter isMt) good order q i).out)) ((preW (body.filter isMt) good order q i).out).length a.1.2 a.2.2) ?_ ?_
            · refine GW.seq ?_
              refine GW.region ?_
              refine R.move ⟨rfl, rfl, rfl, rfl⟩ rfl ?_
              refine R.gtr ⟨rfl, rfl, rfl, rfl⟩ rfl rfl ?_
              refine GOps.nil ?_
              refine GW.ite rfl (fun hc13 => ?_) (fun hc13 => ?_)
              · try simp only [decide_eq_true_eq, decide_eq_false_iff_not, Bool.not_eq_true', Bool.not_eq_false'] at hc13
                obtain ⟨p, rfl⟩ : ∃ p, i = p + 1 := ⟨i - 1, by omega⟩
                have hmp : (body.filter isMt)[p]? = some ((body.filter isMt).getD p zLt) := by rw [List.getD, List.getElem?_eq_getElem (by omega)]; rfl
                obtain ⟨m1, hm1⟩ : ∃ m1, m1 = (body.filter isMt).getD p zLt := ⟨_, rfl⟩
                rw [← hm1] at hmp
                obtain ⟨mb, mo, cs1, rfl, rfl, hrm⟩ := hMt p _ hmp
                refine GW.seq ?_
                refine GW.region ?_
                refine R.move ⟨rfl, rfl, rfl, rfl⟩ rfl ?_
                refine R.move ⟨rfl, rfl, rfl, rfl⟩ rfl ?_
                refine R.sub (r := ((p : Nat) : Int)) ⟨rfl, rfl, rfl, rfl⟩ rfl rfl (by rw [wrap64_id (by omega) (by omega)]; omega) ?_
                refine R.indexAddrS ⟨rfl, rfl, rfl, rfl⟩ rfl rfl Tryz.underlying29 Tryz.sizeOf89 (by omega) (by omega) ?_
                refine R.loadA ⟨rfl, rfl, rfl, rfl⟩ rfl Tryz.underlying89 rfl Tryz.sizeOf89 (hrm.mono (fun y hy => by repeat (first | exact hy | exact List.mem_append_left _ hy | apply List.mem_cons_of_mem | apply List.mem_append_right))) (by rfl) ?_
                refine R.alloc ⟨rfl, rfl, rfl, rfl⟩ Tryz.zeroValue89 fun b17 => ?_
                refine R.storeAll (G1 := []) rfl rfl rfl rfl rfl Tryz.sizeOf89 rfl rfl rfl rfl ?_
                refine GOps.nil ?_
                refine GW.seq ?_
                refine GW.seq ?_
                refine GW.region ?_
                refine R.move ⟨rfl, rfl, rfl, rfl⟩ rfl ?_
                refine GOps.nil ?_
                refine GW.ite rfl (fun hc14 => ?_) (fun hc14 => ?_)
                · try simp only [decide_eq_true_eq, decide_eq_false_iff_not, Bool.not_eq_true', Bool.not_eq_false'] at hc14
                  obtain ⟨hgl, hgm⟩ := good_range (n := (body.filter isMt).length) (order := order) (by rw [← hgd]; assumption)
                  obtain ⟨z, hz⟩ : ∃ z, order[p]? = some z := ⟨_, List.getElem?_eq_getElem (by omega)⟩
                  have hzm := hgm z (List.mem_of_getElem? hz)
                  have hmz : (body.filter isMt)[z.toNat]? = some ((body.filter isMt).getD z.toNat zLt) := by rw [List.getD, List.getElem?_eq_getElem (by omega)]; rfl
                  have hmA0 : (mAt (body.filter isMt) good order p) = (body.filter isMt).getD z.toNat zLt := by unfold mAt; rw [if_pos (by assumption), show order.getD p 0 = z by rw [List.getD, hz]; rfl]
                  obtain ⟨mm, hm2⟩ : ∃ mm, mm = (body.filter isMt).getD z.toNat zLt := ⟨_, rfl⟩
                  rw [← hm2] at hmz hmA0
                  obtain ⟨zb, zo, rfl, hrz⟩ := int_at ho hz
                  obtain ⟨mb2, mo2, cs2, hE, rfl, hrm2⟩ := hMt z.toNat _ hmz
                  cases hE
                  refine GW.region ?_
                  refine R.move ⟨rfl, rfl, rfl, rfl⟩ rfl ?_
                  refine R.move ⟨rfl, rfl, rfl, rfl⟩ rfl ?_
                  refine R.move ⟨rfl, rfl, rfl, rfl⟩ rfl ?_
                  refine R.sub (r := ((p : Nat) : Int)) ⟨rfl, rfl, rfl, rfl⟩ rfl rfl (by rw [wrap64_id (by omega) (by omega)]; omega) ?_
                  refine R.indexAddrS ⟨rfl, rfl, rfl, rfl⟩ rfl rfl Tryz.underlying32 Tryz.sizeOf3 (by omega) (by omega) ?_
                  refine R.load1 ⟨rfl, rfl, rfl, rfl⟩ rfl Tryz.underlying3 rfl (hrz.mono (fun y hy => by repeat (first | exact hy | apply List.mem_cons_of_mem | apply List.mem_append_right))) ?_
                  refine R.indexAddrS ⟨rfl, rfl, rfl, rfl⟩ rfl rfl Tryz.underlying29 Tryz.sizeOf89 (by omega) (by omega) ?_
                  refine R.loadA ⟨rfl, rfl, rfl, rfl⟩ rfl Tryz.underlying89 rfl Tryz.sizeOf89 (hrm2.mono (fun y hy => by repeat (first | exact hy | exact List.mem_append_left _ hy | apply List.mem_cons_of_mem | apply List.mem_append_right))) (by rfl) ?_
                  refine R.storeAll (G1 := []) rfl rfl rfl rfl rfl Tryz.sizeOf89 rfl rfl rfl rfl ?_
                  refine GOps.nil ?_
                  refine GW.seq ?_
                  refine GW.region ?_
                  refine R.move ⟨rfl, rfl, rfl, rfl⟩ rfl ?_
                  refine R.load_own (cs := LtC mm) ⟨rfl, rfl, rfl, rfl⟩ rfl Tryz.underlying89 rfl Tryz.sizeOf89 (by repeat (first | exact List.mem_cons_self | apply List.mem_cons_of_mem | apply List.mem_append_right)) (by rfl) (by rfl) ?_
                  refine R.buildSliceF (sz := 21) (bytes := 288) (vs := [_]) (cs := LtC mm) ⟨rfl, rfl, rfl, rfl⟩ rfl Tryz.underlying29 (InfoE.mk (by kernel_rfl)) rfl rfl rfl rfl rfl fun b139 => ?_
                  refine R.append (sz := 21) (bytes := 288) (G1 := [_, _] ++ Ho) (H := Ht) (news := LtC mm) ⟨rfl, rfl, rfl, rfl⟩ rfl rfl rfl Tryz.underlying29 (InfoE.mk (by kernel_rfl)) (hT) (as2 [_, _] _ _) (rfl) (.own (by repeat (first | exact List.mem_cons_self | apply List.mem_cons_of_mem | apply List.mem_append_right | exact List.mem_append_left _ List.mem_cons_self)) 0 _ (fun j v hv => by simpa using hv)) (by omega) (by rfl) (by omega) (by omega) fun v140 H140 hv140 => ?_
                  refine GOps.weak (Keeps.refl _) (Hs.un2 [_, _] _ _) ?_
                  obtain ⟨A140, c140, rfl, hc140⟩ := hv140.split
                  refine R.assign ⟨rfl, rfl, rfl, rfl⟩ rfl ?_
                  refine GOps.nil ?_
                  refine GW.region ?_
                  refine R.move ⟨rfl, rfl, rfl, rfl⟩ rfl ?_
                  refine R.load_own (cs := LtC mm) ⟨rfl, rfl, rfl, rfl⟩ rfl Tryz.underlying89 rfl Tryz.sizeOf89 (by repeat (first | exact List.mem_cons_self | apply List.mem_cons_of_mem | apply List.mem_append_right)) (by rfl) (by rfl) ?_
                  refine R.buildSliceF (sz := 21) (bytes := 288) (vs := [_]) (cs := LtC mm) ⟨rfl, rfl, rfl, rfl⟩ rfl Tryz.underlying29 (InfoE.mk (by kernel_rfl)) rfl rfl rfl rfl rfl fun b143 => ?_
                  refine R.append (sz := 21) (bytes := 288) (G1 := [_, _, _]) (H := Ho) (news := LtC mm) ⟨rfl, rfl, rfl, rfl⟩ rfl rfl rfl Tryz.underlying29 (InfoE.mk (by kernel_rfl)) (hO) (rfl) (rfl) (.own (by repeat (first | exact List.mem_cons_self | apply List.mem_cons_of_mem | apply List.mem_append_right | exact List.mem_append_left _ List.mem_cons_self)) 0 _ (fun j v hv => by simpa using hv)) (by omega) (by rfl) (by omega) (by omega) fun v144 H144 hv144 => ?_
                  obtain ⟨A144, c144, rfl, hc144⟩ := hv144.split
                  refine R.assign ⟨rfl, rfl, rfl, rfl⟩ rfl ?_
                  refine GOps.nil ?_
                  first | exact ⟨rfl, rfl, ((vt, vo), (Ht, Ho)), ⟨hT, hO⟩, by repeat (first | exact Keeps.nil _ | refine Keeps.cons rfl ?_), Hs.refl _⟩ | exact ⟨rfl, rfl, ((.slice A140 _ c140, .slice A144 _ c144), (H140, H144)), ⟨(by show SlAt 21 89 (ltsC (q.tk ++ [(mAt (body.filter isMt) good order p)])) (q.tk ++ [(mAt (body.filter isMt) good order p)]).length _ _; rw [hmA0]; exact lts_snoc hv140), (by show SlAt 21 89 (ltsC (q.out ++ [(mAt (body.filter isMt) good order p)])) (q.out ++ [(mAt (body.filter isMt) good order p)]).length _ _; rw [hmA0]; exact lts_snoc hv144)⟩, by repeat (first | exact Keeps.nil _ | refine Keeps.cons rfl ?_), Hs.tl3 _ _ _⟩
                · try simp only [decide_eq_true_eq, decide_eq_false_iff_not, Bool.not_eq_true', Bool.not_eq_false'] at hc14
                  have hmA0 : (mAt (body.filter isMt) good order p) = m1 := by unfold mAt; rw [if_neg (by simp; assumption)]; exact hm1.symm
                  rename Lt => mm
                  refine GW.skip ?_
                  refine GW.seq ?_
                  refine GW.region ?_
                  refine R.move ⟨rfl, rfl, rfl, rfl⟩ rfl ?_
                  refine R.load_own (cs := LtC mm) ⟨rfl, rfl, rfl, rfl⟩ rfl Tryz.underlying89 rfl Tryz.sizeOf89 (by repeat (first | exact List.mem_cons_self | apply List.mem_cons_of_mem | apply List.mem_append_right)) (by rfl) (by rfl) ?_
                  refine R.buildSliceF (sz := 21) (bytes := 288) (vs := [_]) (cs := LtC mm) ⟨rfl, rfl, rfl, rfl⟩ rfl Tryz.underlying29 (InfoE.mk (by kernel_rfl)) rfl rfl rfl rfl rfl fun b139 => ?_
                  refine R.append (sz := 21) (bytes := 288) (G1 := [_, _] ++ Ho) (H := Ht) (news := LtC mm) ⟨rfl, rfl, rfl, rfl⟩ rfl rfl rfl Tryz.underlying29 (InfoE.mk (by kernel_rfl)) (hT) (as2 [_, _] _ _) (rfl) (.own (by repeat (first | exact List.mem_cons_self | apply List.mem_cons_of_mem | apply List.mem_append_right | exact List.mem_append_left _ List.mem_cons_self)) 0 _ (fun j v hv => by simpa using hv)) (by omega) (by rfl) (by omega) (by omega) fun v140 H140 hv140 => ?_
                  refine GOps.weak (Keeps.refl _) (Hs.un2 [_, _] _ _) ?_
                  obtain ⟨A140, c140, rfl, hc140⟩ := hv140.split
                  refine R.assign ⟨rfl, rfl, rfl, rfl⟩ rfl ?_
                  refine GOps.nil ?_
                  refine GW.region ?_
                  refine R.move ⟨rfl, rfl, rfl, rfl⟩ rfl ?_
                  refine R.load_own (cs := LtC mm) ⟨rfl, rfl, rfl, rfl⟩ rfl Tryz.underlying89 rfl Tryz.sizeOf89 (by repeat (first | exact List.mem_cons_self | apply List.mem_cons_of_mem | apply List.mem_append_right)) (by rfl) (by rfl) ?_
                  refine R.buildSliceF (sz := 21) (bytes := 288) (vs := [_]) (cs := LtC mm) ⟨rfl, rfl, rfl, rfl⟩ rfl Tryz.underlying29 (InfoE.mk (by kernel_rfl)) rfl rfl rfl rfl rfl fun b143 => ?_
                  refine R.append (sz := 21) (bytes := 288) (G1 := [_, _, _]) (H := Ho) (news := LtC mm) ⟨rfl, rfl, rfl, rfl⟩ rfl rfl rfl Tryz.underlying29 (InfoE.mk (by kernel_rfl)) (hO) (rfl) (rfl) (.own (by repeat (first | exact List.mem_cons_self | apply List.mem_cons_of_mem | apply List.mem_append_right | exact List.mem_append_left _ List.mem_cons_self)) 0 _ (fun j v hv => by simpa using hv)) (by omega) (by rfl) (by omega) (by omega) fun v144 H144 hv144 => ?_
                  obtain ⟨A144, c144, rfl, hc144⟩ := hv144.split
                  refine R.assign ⟨rfl, rfl, rfl, rfl⟩ rfl ?_
                  refine GOps.nil ?_
                  first | exact ⟨rfl, rfl, ((vt, vo), (Ht, Ho)), ⟨hT, hO⟩, by repeat (first | exact Keeps.nil _ | refine Keeps.cons rfl ?_), Hs.refl _⟩ | exact ⟨rfl, rfl, ((.slice A140 _ c140, .slice A144 _ c144), (H140, H144)), ⟨(by show SlAt 21 89 (ltsC (q.tk ++ [(mAt (body.filter isMt) good order p)])) (q.tk ++ [(mAt (body.filter isMt) good order p)]).length _ _; rw [hmA0]; exact lts_snoc hv140), (by show SlAt 21 89 (ltsC (q.out ++ [(mAt (body.filter isMt) good order p)])) (q.out ++ [(mAt (body.filter isMt) good order p)]).length _ _; rw [hmA0]; exact lts_snoc hv144)⟩, by repeat (first | exact Keeps.nil _ | refine Keeps.cons rfl ?_), Hs.tl3 _ _ _⟩
              · try simp only [decide_eq_true_eq, decide_eq_false_iff_not, Bool.not_eq_true', Bool.not_eq_false'] at hc13
                obtain rfl : i = 0 := by omega
                refine GW.skip ?_
                first | exact ⟨rfl, rfl, ((vt, vo), (Ht, Ho)), ⟨hT, hO⟩, by repeat (first | exact Keeps.nil _ | refine Keeps.cons rfl ?_), Hs.refl _⟩ | exact ⟨rfl, rfl, ((.slice A140 _ c140, .slice A144 _ c144), (H140, H144)), ⟨(by show SlAt 21 89 (ltsC (q.tk ++ [(mAt (body.filter isMt) good order p)])) (q.tk ++ [(mAt (body.filter isMt) good order p)]).length _ _; rw [hmA0]; exact lts_snoc hv140), (by show SlAt 21 89 (ltsC (q.out ++ [(mAt (body.filter isMt) good order p)])) (q.out ++ [(mAt (body.filter isMt) good order p)]).length _ _; rw [hmA0]; exact lts_snoc hv144)⟩, by repeat (first | exact Keeps.nil _ | refine Keeps.cons rfl ?_), Hs.tl3 _ _ _⟩
            · rintro ⟨⟨vt2, vo2⟩, Ht2, Ho2⟩ ⟨hT2, hO2⟩
              simp only at hT2 hO2
              obtain ⟨q2, hq2⟩ : ∃ q2, q2 = (preW (body.filter isMt) good order q i) := ⟨_, rfl⟩
              rw [← hq2] at hT2 hO2
              have hwt : q.wt = q2.wt := by rw [hq2, pre_wt]
              have hq4 : q2.tk.length ≤ q.tk.length + 1 := by rw [hq2]; cases i <;> simp [preW]
              have hq5 : q2.out.length ≤ q.out.length + 1 := by rw [hq2]; cases i <;> simp [preW]
              rw [hwt] at hW hq3
              obtain ⟨Aw, cw, rfl, hWt, hcw⟩ := hW.lts w0
              obtain ⟨At, ct, rfl, hTt, hct⟩ := hT2.lts w0
              refine GW.seq ?_
              refine GW.region ?_
              refine R.assign ⟨rfl, rfl, rfl, rfl⟩ rfl ?_
              refine GOps.nil ?_
              refine GW.seq ?_
              refine GW.seq ?_
              refine GW.region ?_
              refine R.assign ⟨rfl, rfl, rfl, rfl⟩ rfl ?_
              refine GOps.nil ?_
              refine GW.block ?_
              refine GW.loop4 (fun (j : Nat) (h : (Value × Value) × (Hp × Hp)) (u1 : Unit) (u2 : Unit) => [(1, .slice oA order.length oc), (5, .slice Am (body.filter isMt).length cm), (6, .slice Aw q2.wt.length cw), (7, .slice At q2.tk.length ct), (8, h.1.1), (12, .bool good), (16, .int .i64 i), (18, h.1.2), (19, .int .i64 j)]) (fun (j : Nat) (h : (Value × Value) × (Hp × Hp)) (u1 : Unit) (u2 : Unit) => h.2.2 ++ (h.2.1 ++ (Ht2 ++ (Hw ++ (Hm ++ G))))) (fun j : Nat => q2.wt.length - j) (fun (j : Nat) (h : (Value × Value) × (Hp × Hp)) (u1 : Unit) (u2 : Unit) => j ≤ q2.wt.length ∧ SlAt 21 89 (ltsC (q2.out ++ fT (readyW q2.tk) q2.wt j)) (q2.out ++ fT (readyW q2.tk) q2.wt j).length h.1.1 h.2.1 ∧ SlAt 21 89 (ltsC (fT (fun l => !readyW q2.tk l) q2.wt j)) (fT (fun l => !readyW q2.tk l) q2.wt j).length h.1.2 h.2.2) 0 (((vo2, .slice none 0 0), (Ho2, []))) (()) (())
                (by repeat (first | exact Keeps.nil _ | refine Keeps.cons rfl ?_)) (Hs.refl _) (⟨Nat.zero_le _, (by rw [fT_zero, List.append_nil]; exact hO2), .nil rfl rfl⟩) ?_
              rintro j h u1 u2 ⟨hj, hO3, hF⟩
              obtain ⟨⟨vo3, vf⟩, Ho3, Hf⟩ := h
              simp only at hO3 hF
              have hfl := fT_le (readyW q2.tk) q2.wt j
              have hfl2 := fT_le (fun l => !readyW q2.tk l) q2.wt j
              have hfl3 : (q2.out ++ fT (readyW q2.tk) q2.wt j).length ≤ q2.out.length + j := by rw [List.length_append]; omega
              refine GW.seq ?_
              refine GW.seq ?_
              refine GW.region ?_
              refine R.move ⟨rfl, rfl, rfl, rfl⟩ rfl ?_
              refine R.move ⟨rfl, rfl, rfl, rfl⟩ rfl ?_
              refine R.lenS ⟨rfl, rfl, rfl, rfl⟩ rfl rfl Tryz.underlying29 ?_
              refine R.lss ⟨rfl, rfl, rfl, rfl⟩ rfl rfl ?_
              refine GOps.nil ?_
              refine GW.ite rfl (fun hc15 => ?_) (fun hc15 => ?_)
              · try simp only [decide_eq_true_eq, decide_eq_false_iff_not, Bool.not_eq_true', Bool.not_eq_false'] at hc15
                obtain ⟨x, hx⟩ : ∃ x, q2.wt[j]? = some x := ⟨_, List.getElem?_eq_getElem (by omega)⟩
                obtain ⟨wb, wo, cs0, rfl, rfl, hrd⟩ := hWt j x hx
                refine GW.skip ?_
                refine GW.seq ?_
                refine GW.block ?_
                refine GW.seq ?_
                refine GW.region ?_
                refine R.move ⟨rfl, rfl, rfl, rfl⟩ rfl ?_
                refine R.move ⟨rfl, rfl, rfl, rfl⟩ rfl ?_
                refine R.indexAddrS ⟨rfl, rfl, rfl, rfl⟩ rfl rfl Tryz.underlying29 Tryz.sizeOf89 (by omega) (by omega) ?_
                refine R.loadA ⟨rfl, rfl, rfl, rfl⟩ rfl Tryz.underlying89 rfl Tryz.sizeOf89 (hrd.mono (fun y hy => by repeat (first | exact hy | exact List.mem_append_left _ hy | apply List.mem_cons_of_mem | apply List.mem_append_right))) (by rfl) ?_
                refine R.move ⟨rfl, rfl, rfl, rfl⟩ rfl ?_
                refine R.call ⟨rfl, rfl, rfl, rfl⟩ rfl (vs := [_, _]) rfl ((ref_ready _ _ x q2.tk At ct (LtsAt.mono' hTt (fun y hy => by repeat (first | exact hy | exact List.mem_append_left _ hy | apply List.mem_cons_of_mem | apply List.mem_append_right))) (by omega)).mono ?_)
                rintro _ _ ⟨rfl, rfl⟩
                refine GOps.nil ?_
                refine GW.ite rfl (fun hc16 => ?_) (fun hc16 => ?_)
                · try simp only [decide_eq_true_eq, decide_eq_false_iff_not, Bool.not_eq_true', Bool.not_eq_false'] at hc16
                  refine GW.region ?_
                  refine R.move ⟨rfl, rfl, rfl, rfl⟩ rfl ?_
                  refine R.move ⟨rfl, rfl, rfl, rfl⟩ rfl ?_
                  refine R.move ⟨rfl, rfl, rfl, rfl⟩ rfl ?_
                  refine R.indexAddrS ⟨rfl, rfl, rfl, rfl⟩ rfl rfl Tryz.underlying29 Tryz.sizeOf89 (by omega) (by omega) ?_
                  refine R.loadA ⟨rfl, rfl, rfl, rfl⟩ rfl Tryz.underlying89 rfl Tryz.sizeOf89 (hrd.mono (fun y hy => by repeat (first | exact hy | exact List.mem_append_left _ hy | apply List.mem_cons_of_mem | apply List.mem_append_right))) (by rfl) ?_
                  refine R.buildSliceF (sz := 21) (bytes := 288) (vs := [_]) (cs := LtC x) ⟨rfl, rfl, rfl, rfl⟩ rfl Tryz.underlying29 (InfoE.mk (by kernel_rfl)) rfl rfl rfl rfl rfl fun b162 => ?_
                  refine R.append (sz := 21) (bytes := 288) (G1 := [_] ++ Hf) (H := Ho3) (news := LtC x) ⟨rfl, rfl, rfl, rfl⟩ rfl rfl rfl Tryz.underlying29 (InfoE.mk (by kernel_rfl)) (hO3) (as2 [_] _ _) (rfl) (.own (by repeat (first | exact List.mem_cons_self | apply List.mem_cons_of_mem | apply List.mem_append_right | exact List.mem_append_left _ List.mem_cons_self)) 0 _ (fun j v hv => by simpa using hv)) (by omega) (by rfl) (by omega) (by omega) fun v163 H163 hv163 => ?_
                  refine GOps.weak (Keeps.refl _) (Hs.un2 [_] _ _) ?_
                  obtain ⟨A163, c163, rfl, hc163⟩ := hv163.split
                  refine R.assign ⟨rfl, rfl, rfl, rfl⟩ rfl ?_
                  refine GOps.nil ?_
                  refine GW.region ?_
                  refine R.move ⟨rfl, rfl, rfl, rfl⟩ rfl ?_
                  refine R.add (r := (((j + 1) : Nat) : Int)) ⟨rfl, rfl, rfl, rfl⟩ rfl rfl (by rw [wrap64_id (by omega) (by omega)]; omega) ?_
                  refine R.assign ⟨rfl, rfl, rfl, rfl⟩ rfl ?_
                  refine GOps.nil ?_
                  first | exact ⟨j + 1, ((.slice A163 _ c163, vf), (H163, Hf)), (), (), by omega, ⟨by omega, (by rw [fT_yes hx (by assumption), ← List.append_assoc]; exact lts_snoc hv163), (by rw [fT_no hx (by rw [show readyW q2.tk x = true by assumption]; rfl)]; exact hF)⟩, rfl, by repeat (first | exact Keeps.nil _ | refine Keeps.cons rfl ?_), Hs.tl _⟩ | exact ⟨j + 1, ((vo3, .slice A170 _ c170), (Ho3, H170)), (), (), by omega, ⟨by omega, (by rw [fT_no hx (by assumption)]; exact hO3), (by rw [fT_yes hx (by rw [show readyW q2.tk x = false by assumption]; rfl)]; exact lts_snoc hv170)⟩, rfl, by repeat (first | exact Keeps.nil _ | refine Keeps.cons rfl ?_), Hs.tl _⟩
                · try simp only [decide_eq_true_eq, decide_eq_false_iff_not, Bool.not_eq_true', Bool.not_eq_false'] at hc16
                  refine GW.region ?_
                  refine R.move ⟨rfl, rfl, rfl, rfl⟩ rfl ?_
                  refine R.move ⟨rfl, rfl, rfl, rfl⟩ rfl ?_
                  refine R.move ⟨rfl, rfl, rfl, rfl⟩ rfl ?_
                  refine R.indexAddrS ⟨rfl, rfl, rfl, rfl⟩ rfl rfl Tryz.underlying29 Tryz.sizeOf89 (by omega) (by omega) ?_
                  refine R.loadA ⟨rfl, rfl, rfl, rfl⟩ rfl Tryz.underlying89 rfl Tryz.sizeOf89 (hrd.mono (fun y hy => by repeat (first | exact hy | exact List.mem_append_left _ hy | apply List.mem_cons_of_mem | apply List.mem_append_right))) (by rfl) ?_
                  refine R.buildSliceF (sz := 21) (bytes := 288) (vs := [_]) (cs := LtC x) ⟨rfl, rfl, rfl, rfl⟩ rfl Tryz.underlying29 (InfoE.mk (by kernel_rfl)) rfl rfl rfl rfl rfl fun b169 => ?_
                  refine R.append (sz := 21) (bytes := 288) (G1 := [_]) (H := Hf) (news := LtC x) ⟨rfl, rfl, rfl, rfl⟩ rfl rfl rfl Tryz.underlying29 (InfoE.mk (by kernel_rfl)) (hF) (rfl) (rfl) (.own (by repeat (first | exact List.mem_cons_self | apply List.mem_cons_of_mem | apply List.mem_append_right | exact List.mem_append_left _ List.mem_cons_self)) 0 _ (fun j v hv => by simpa using hv)) (by omega) (by rfl) (by omega) (by omega) fun v170 H170 hv170 => ?_
                  obtain ⟨A170, c170, rfl, hc170⟩ := hv170.split
                  refine R.assign ⟨rfl, rfl, rfl, rfl⟩ rfl ?_
                  refine GOps.nil ?_
                  refine GW.region ?_
                  refine R.move ⟨rfl, rfl, rfl, rfl⟩ rfl ?_
                  refine R.add (r := (((j + 1) : Nat) : Int)) ⟨rfl, rfl, rfl, rfl⟩ rfl rfl (by rw [wrap64_id (by omega) (by omega)]; omega) ?_
                  refine R.assign ⟨rfl, rfl, rfl, rfl⟩ rfl ?_
                  refine GOps.nil ?_
                  first | exact ⟨j + 1, ((.slice A163 _ c163, vf), (H163, Hf)), (), (), by omega, ⟨by omega, (by rw [fT_yes hx (by assumption), ← List.append_assoc]; exact lts_snoc hv163), (by rw [fT_no hx (by rw [show readyW q2.tk x = true by assumption]; rfl)]; exact hF)⟩, rfl, by repeat (first | exact Keeps.nil _ | refine Keeps.cons rfl ?_), Hs.tl _⟩ | exact ⟨j + 1, ((vo3, .slice A170 _ c170), (Ho3, H170)), (), (), by omega, ⟨by omega, (by rw [fT_no hx (by assumption)]; exact hO3), (by rw [fT_yes hx (by rw [show readyW q2.tk x = false by assumption]; rfl)]; exact lts_snoc hv170)⟩, rfl, by repeat (first | exact Keeps.nil _ | refine Keeps.cons rfl ?_), Hs.tl _⟩
              · try simp only [decide_eq_true_eq, decide_eq_false_iff_not, Bool.not_eq_true', Bool.not_eq_false'] at hc15
                obtain rfl : j = q2.wt.length := by omega
                rw [fT_all (Nat.le_refl _)] at hO3 hF
                refine GW.exit ?_
                refine GW.region ?_
                refine R.move ⟨rfl, rfl, rfl, rfl⟩ rfl ?_
                refine R.assign ⟨rfl, rfl, rfl, rfl⟩ rfl ?_
                refine GOps.nil ?_
                refine GW.region ?_
                refine R.move ⟨rfl, rfl, rfl, rfl⟩ rfl ?_
                refine R.add (r := (((i + 1) : Nat) : Int)) ⟨rfl, rfl, rfl, rfl⟩ rfl rfl (by rw [wrap64_id (by omega) (by omega)]; omega) ?_
                refine R.assign ⟨rfl, rfl, rfl, rfl⟩ rfl ?_
                refine GOps.nil ?_
                exact ⟨i + 1, flushW q2, ((vf, .slice At q2.tk.length ct, vo3), (Hf, Ht2, Ho3)), (), by omega, ⟨by omega, by rw [hq2, hq]; rfl, hF, hT2, hO3⟩, rfl, by repeat (first | exact Keeps.nil _ | refine Keeps.cons rfl ?_), Hs.left _ _ _ _ _⟩
          · try simp only [decide_eq_true_eq, decide_eq_false_iff_not, Bool.not_eq_true', Bool.not_eq_false'] at hc12
            obtain rfl : i = (body.filter isMt).length + 1 := by omega
            subst hq
            subst hgd
            refine GW.exit ?_
            refine GW.seq ?_
            refine GW.region ?_
            refine R.move ⟨rfl, rfl, rfl, rfl⟩ rfl ?_
            refine R.assign ⟨rfl, rfl, rfl, rfl⟩ rfl ?_
            refine GOps.nil ?_
            exact GW.ret (Out.of (Res.one rfl rfl) (Hs.sub (((List.sublist_append_right Hm G).trans ((List.sublist_append_right Hw _).trans (List.sublist_append_right Ht _))).append_left Ho)) ⟨Ho, hO, rfl⟩)
end Go.Proofs.YtfddkcmooommeaaGreatDoor.Gl
end
section
namespace Go.Proofs.YtfddkcmooommeaaGreatDoor.Gl
open Go.RowKit Go.Shelf
set_option linter.unusedVariables false
set_option linter.unnecessarySimpa false
set_option linter.unusedSimpArgs false
attribute [-simp] List.getD_eq_getElem?_getD
def passW (vars : List ByteArray) (L : List Tm) (body : List Lt) (i : Nat) : List Tm := (body.take i).foldl (fun L l => (stepW vars L l).2) L
theorem passW_succ {vars : List ByteArray} {L : List Tm} {body : List Lt} {i : Nat} {l : Lt} (h : body[i]? = some l) : passW vars L body (i + 1) = (stepW vars (passW vars L body i) l).2 := by
  unfold passW
  rw [List.take_add_one, h, List.foldl_append]
  rfl
theorem passW_len (vars : List ByteArray) (L : List Tm) (body : List Lt) : ∀ i, i ≤ body.length → (passW vars L body i).length ≤ L.length + 3 * i
  | 0, _ => by simp [passW]
  | i + 1, h => by
    have h1 := passW_len vars L body i (by omega)
    rw [passW_succ (List.getElem?_eq_getElem (show i < body.length by omega))]
    have h2 := stepW_len vars (passW vars L body i) body[i]
    omega
def stepStW (vars : List ByteArray) (a : List St × List Tm) (l : Lt) : List St × List Tm := (a.1 ++ [(stepW vars a.2 l).1], (stepW vars a.2 l).2)
def stepsW (vars : List ByteArray) (L : List Tm) (ps : List Lt) (i : Nat) : List St × List Tm := (ps.take i).foldl (stepStW vars) ([], L)
theorem stepsW_succ {vars : List ByteArray} {L : List Tm} {ps : List Lt} {i : Nat} {l : Lt} (h : ps[i]? = some l) : stepsW vars L ps (i + 1) = stepStW vars (stepsW vars L ps i) l := by
  unfold stepsW
  rw [List.take_add_one, h, List.foldl_append]
  rfl
theorem stepsW_len (vars : List ByteArray) (L : List Tm) (ps : List Lt) : ∀ i, i ≤ ps.length → (stepsW vars L ps i).2.length ≤ L.length + 3 * i ∧ (stepsW vars L ps i).1.length = i
  | 0, _ => by simp [stepsW]
  | i + 1, h => by
    obtain ⟨h1, h3⟩ := stepsW_len vars L ps i (by omega)
    rw [stepsW_succ (List.getElem?_eq_getElem (show i < ps.length by omega))]
    have h2 := stepW_len vars (stepsW vars L ps i).2 ps[i]
    unfold stepStW
    simp only [List.length_append, h3]
    exact ⟨by omega, rfl⟩
def bodyW (vars : List ByteArray) (L : List Tm) (body : List Lt) (order : List Int) : List St × List Tm := stepsW vars (passW vars L body body.length) (partsW body order) (partsW body order).length
theorem parts_le (body : List Lt) (order : List Int) : (partsW body order).length ≤ 3 * body.length + 1 := by
  have h := (st_len (body.filter isMt) (goodF (body.filter isMt).length order) order ⟨[], waitL body, []⟩ rfl ((body.filter isMt).length + 1)).2
  have h1 := wait_len body
  have h2 := List.length_filter_le isMt body
  simp only [List.length_nil] at h
  unfold partsW
  omega
theorem Hs.rot (x : Nat × Know) (H L G : Hp) : Hs (H ++ (x :: (L ++ G))) (x :: (L ++ (H ++ G))) := Hs.perm (by
  have h : (H ++ (L ++ G)).Perm (L ++ (H ++ G)) := by
    rw [← List.append_assoc, ← List.append_assoc]
    exact List.Perm.append_right _ List.perm_append_comm
  exact (h.symm.cons x).trans List.perm_middle.symm)
theorem Hs.dropH (x : Nat × Know) (L O H G : Hp) : Hs (x :: (L ++ (O ++ (H ++ G)))) (x :: (L ++ (O ++ G))) := Hs.sub ((((List.sublist_append_right H G).append_left O).append_left L).cons_cons x)
theorem ref_Body (w0 : World) (G : Hp) (L : List Tm) (bW : Nat) (v : Value) (Hl : Hp) (hL : SlAt 3 24 (tmsC (L)) (L).length v Hl) (hm : L.length ≤ 50000) (A : Option Addr) (vars : List ByteArray) (c : Nat) (hv : StAt w0 G A vars) (hvm : vars.length ≤ 100000) (bA : Option Addr) (body : List Lt) (bc : Nat) (hl : LtsAt w0 G bA body) (hbl : body.length ≤ 1000) (oA : Option Addr) (order : List Int) (oc : Nat) (ho : IntsAt w0 G oA order) (hol : order.length ≤ 1000) : GC Tryz.prog w0 17 #[.pointer (some ⟨bW, 0, none⟩), .slice A vars.length c, .slice bA body.length bc, .slice oA order.length oc] (fun r G' => ∃ v' Hl' Ho, (SlAt 11 50 (stsC ((bodyW vars L body order).1)) ((bodyW vars L body order).1).length r Ho ∧ SlAt 3 24 (tmsC ((bodyW vars L body order).2)) ((bodyW vars L body order).2).length v' Hl') ∧ (bW, woC v') :: (Hl' ++ (Ho ++ G)) = G') ((bW, woC v) :: (Hl ++ G)) := by
  have hpl := parts_le body order
  have hpa := passW_len vars L body body.length (Nat.le_refl _)
  refine GC.body (args := [.pointer (some ⟨bW, 0, none⟩), .slice A vars.length c, .slice bA body.length bc, .slice oA order.length oc]) Tryz.func17 rfl (by kernel_rfl) rfl ?_
  refine GW.seq ?_
  refine GW.region ?_
  refine R.assign ⟨rfl, rfl, rfl, rfl⟩ rfl ?_
  refine GOps.nil ?_
  refine GW.seq ?_
  refine GW.seq ?_
  refine GW.region ?_
  refine R.assign ⟨rfl, rfl, rfl, rfl⟩ rfl ?_
  refine GOps.nil ?_
  refine GW.block ?_
  refine GW.loop4 (fun (i : Nat) (h : Value × Hp) (u1 : Unit) (u2 : Unit) => [(0, .pointer (some ⟨bW, 0, none⟩)), (1, .slice A vars.length c), (2, .slice bA body.length bc), (3, .slice oA order.length oc), (9, .int .i64 i)]) (fun (i : Nat) (h : Value × Hp) (u1 : Unit) (u2 : Unit) => (bW, woC h.1) :: (h.2 ++ G)) (fun i : Nat => body.length - i) (fun (i : Nat) (h : Value × Hp) (u1 : Unit) (u2 : Unit) => i ≤ body.length ∧ SlAt 3 24 (tmsC (passW vars L body i)) (passW vars L body i).length h.1 h.2) 0 ((v, Hl)) (()) (())
    (by repeat (first | exact Keeps.nil _ | refine Keeps.cons rfl ?_)) (Hs.refl _) (⟨Nat.zero_le _, hL⟩) ?_
  rintro i h u1 u2 ⟨hi, hL1⟩
  obtain ⟨v1, Hl1⟩ := h
  simp only at hL1
  have hpi := passW_len vars L body i hi
  refine GW.seq ?_
  refine GW.seq ?_
  refine GW.region ?_
  refine R.move ⟨rfl, rfl, rfl, rfl⟩ rfl ?_
  refine R.move ⟨rfl, rfl, rfl, rfl⟩ rfl ?_
  refine R.lenS ⟨rfl, rfl, rfl, rfl⟩ rfl rfl Tryz.underlying29 ?_
  refine R.lss ⟨rfl, rfl, rfl, rfl⟩ rfl rfl ?_
  refine GOps.nil ?_
  refine GW.ite rfl (fun hc1 => ?_) (fun hc1 => ?_)
  · try simp only [decide_eq_true_eq, decide_eq_false_iff_not, Bool.not_eq_true', Bool.not_eq_false'] at hc1
    obtain ⟨l, hx⟩ : ∃ l, body[i]? = some l := ⟨_, List.getElem?_eq_getElem (by omega)⟩
    obtain ⟨xb, xo, cs0, rfl, rfl, hrd⟩ := hl i l hx
    refine GW.skip ?_
    refine GW.seq ?_
    refine GW.block ?_
    refine GW.region ?_
    refine R.move ⟨rfl, rfl, rfl, rfl⟩ rfl ?_
    refine R.move ⟨rfl, rfl, rfl, rfl⟩ rfl ?_
    refine R.move ⟨rfl, rfl, rfl, rfl⟩ rfl ?_
    refine R.move ⟨rfl, rfl, rfl, rfl⟩ rfl ?_
    refine R.indexAddrS ⟨rfl, rfl, rfl, rfl⟩ rfl rfl Tryz.underlying29 Tryz.sizeOf89 (by omega) (by omega) ?_
    refine R.loadA ⟨rfl, rfl, rfl, rfl⟩ rfl Tryz.underlying89 rfl Tryz.sizeOf89 (hrd.mono (fun y hy => by repeat (first | exact hy | apply List.mem_cons_of_mem | apply List.mem_append_right))) (by rfl) ?_
    refine R.call ⟨rfl, rfl, rfl, rfl⟩ rfl (vs := [_, _, _]) rfl ((ref_StepW _ _ (passW vars L body i) bW v1 Hl1 hL1 (by omega) A vars c (hv.mono (fun y hy => by repeat (first | exact hy | apply List.mem_cons_of_mem | apply List.mem_append_right))) hvm l).mono ?_)
    rintro _ _ ⟨v2, Hl2, ⟨rfl, hL2⟩, rfl⟩
    refine GOps.nil ?_
    refine GW.region ?_
    refine R.move ⟨rfl, rfl, rfl, rfl⟩ rfl ?_
    refine R.add (r := (((i + 1) : Nat) : Int)) ⟨rfl, rfl, rfl, rfl⟩ rfl rfl (by rw [wrap64_id (by omega) (by omega)]; omega) ?_
    refine R.assign ⟨rfl, rfl, rfl, rfl⟩ rfl ?_
    refine GOps.nil ?_
    exact ⟨i + 1, (v2, Hl2), (), (), by omega, ⟨by omega, by rw [passW_succ hx]; exact hL2⟩, rfl, by repeat (first | exact Keeps.nil _ | refine Keeps.cons rfl ?_), by first | exact Hs.refl _ | exact Hs.tl _ | exact Hs.tl2 _ _⟩
  · try simp only [decide_eq_true_eq, decide_eq_false_iff_not, Bool.not_eq_true', Bool.not_eq_false'] at hc1
    obtain rfl : i = body.length := by omega
    refine GW.exit ?_
    refine GW.seq ?_
    refine GW.region ?_
    refine R.move ⟨rfl, rfl, rfl, rfl⟩ rfl ?_
    refine R.move ⟨rfl, rfl, rfl, rfl⟩ rfl ?_
    refine R.call ⟨rfl, rfl, rfl, rfl⟩ rfl (vs := [_, _]) rfl ((ref_Parts _ _ bA body bc (LtsAt.mono' hl (fun y hy => by repeat (first | exact hy | apply List.mem_cons_of_mem | apply List.mem_append_right))) hbl oA order oc (ho.mono (fun y hy => by repeat (first | exact hy | apply List.mem_cons_of_mem | apply List.mem_append_right))) hol).mono ?_)
    rintro v28 _ ⟨H28, hP, rfl⟩
    obtain ⟨Ap, cp, rfl, hPt, hcp⟩ := hP.lts w0
    refine GOps.weak (Keeps.refl _) (Hs.rot _ _ _ _) ?_
    refine R.assign ⟨rfl, rfl, rfl, rfl⟩ rfl ?_
    refine GOps.nil ?_
    refine GW.seq ?_
    refine GW.region ?_
    refine R.assign ⟨rfl, rfl, rfl, rfl⟩ rfl ?_
    refine GOps.nil ?_
    refine GW.seq ?_
    refine GW.seq ?_
    refine GW.region ?_
    refine R.assign ⟨rfl, rfl, rfl, rfl⟩ rfl ?_
    refine GOps.nil ?_
    refine GW.block ?_
    refine GW.loop4 (fun (i : Nat) (a : List St × List Tm) (h : (Value × Value) × (Hp × Hp)) (u1 : Unit) => [(0, .pointer (some ⟨bW, 0, none⟩)), (1, .slice A vars.length c), (10, .slice Ap (partsW body order).length cp), (11, h.1.2), (12, .int .i64 i)]) (fun (i : Nat) (a : List St × List Tm) (h : (Value × Value) × (Hp × Hp)) (u1 : Unit) => (bW, woC h.1.1) :: (h.2.1 ++ (h.2.2 ++ (H28 ++ G)))) (fun i : Nat => (partsW body order).length - i) (fun (i : Nat) (a : List St × List Tm) (h : (Value × Value) × (Hp × Hp)) (u1 : Unit) => i ≤ (partsW body order).length ∧ a = stepsW vars (passW vars L body body.length) (partsW body order) i ∧ SlAt 3 24 (tmsC (a.2)) (a.2).length h.1.1 h.2.1 ∧ SlAt 11 50 (stsC (a.1)) (a.1).length h.1.2 h.2.2) 0 (([], passW vars L body body.length)) (((v1, .slice none 0 0), (Hl1, []))) (())
      (by repeat (first | exact Keeps.nil _ | refine Keeps.cons rfl ?_)) (Hs.refl _) (⟨Nat.zero_le _, rfl, hL1, .nil rfl rfl⟩) ?_
    rintro i a h u1 ⟨hi, ha, hL1, hO⟩
    obtain ⟨⟨v1, vo⟩, Hl1, Ho⟩ := h
    simp only at hL1 hO
    obtain ⟨hal, hal2⟩ := stepsW_len vars (passW vars L body body.length) (partsW body order) i hi
    rw [← ha] at hal hal2
    refine GW.seq ?_
    refine GW.seq ?_
    refine GW.region ?_
    refine R.move ⟨rfl, rfl, rfl, rfl⟩ rfl ?_
    refine R.move ⟨rfl, rfl, rfl, rfl⟩ rfl ?_
    refine R.lenS ⟨rfl, rfl, rfl, rfl⟩ rfl rfl Tryz.underlying29 ?_
    refine R.lss ⟨rfl, rfl, rfl, rfl⟩ rfl rfl ?_
    refine GOps.nil ?_
    refine GW.ite rfl (fun hc2 => ?_) (fun hc2 => ?_)
    · try simp only [decide_eq_true_eq, decide_eq_false_iff_not, Bool.not_eq_true', Bool.not_eq_false'] at hc2
      obtain ⟨l, hx⟩ : ∃ l, (partsW body order)[i]? = some l := ⟨_, List.getElem?_eq_getElem (by omega)⟩
      obtain ⟨xb, xo, cs0, rfl, rfl, hrd⟩ := hPt i l hx
      refine GW.skip ?_
      refine GW.seq ?_
      refine GW.block ?_
      refine GW.region ?_
      refine R.move ⟨rfl, rfl, rfl, rfl⟩ rfl ?_
      refine R.move ⟨rfl, rfl, rfl, rfl⟩ rfl ?_
      refine R.move ⟨rfl, rfl, rfl, rfl⟩ rfl ?_
      refine R.move ⟨rfl, rfl, rfl, rfl⟩ rfl ?_
      refine R.move ⟨rfl, rfl, rfl, rfl⟩ rfl ?_
      refine R.indexAddrS ⟨rfl, rfl, rfl, rfl⟩ rfl rfl Tryz.underlying29 Tryz.sizeOf89 (by omega) (by omega) ?_
      refine R.loadA ⟨rfl, rfl, rfl, rfl⟩ rfl Tryz.underlying89 rfl Tryz.sizeOf89 (hrd.mono (fun y hy => by repeat (first | exact hy | exact List.mem_append_left _ hy | apply List.mem_cons_of_mem | apply List.mem_append_right))) (by rfl) ?_
      refine R.call ⟨rfl, rfl, rfl, rfl⟩ rfl (vs := [_, _, _]) rfl ((ref_StepW _ _ a.2 bW v1 Hl1 hL1 (by omega) A vars c (hv.mono (fun y hy => by repeat (first | exact hy | apply List.mem_cons_of_mem | apply List.mem_append_right))) hvm l).mono ?_)
      rintro _ _ ⟨v3, Hl3, ⟨rfl, hL3⟩, rfl⟩
      refine R.buildSliceF (sz := 11) (bytes := 88) (vs := [_]) (cs := StC (stepW vars a.2 l).1) ⟨rfl, rfl, rfl, rfl⟩ rfl Tryz.underlying39 (InfoE.mk (by kernel_rfl)) rfl rfl rfl rfl rfl fun b43 => ?_
      refine R.append (sz := 11) (bytes := 88) (G1 := [_, _] ++ Hl3) (H := Ho) (news := StC (stepW vars a.2 l).1) ⟨rfl, rfl, rfl, rfl⟩ rfl rfl rfl Tryz.underlying39 (InfoE.mk (by kernel_rfl)) (hO) (as2 [_, _] _ _) (rfl) (.own (by repeat (first | exact List.mem_cons_self | apply List.mem_cons_of_mem | apply List.mem_append_right | exact List.mem_append_left _ List.mem_cons_self)) 0 _ (fun j v hv => by simpa using hv)) (by omega) (by rfl) (by omega) (by omega) fun v44 H44 hv44 => ?_
      refine GOps.weak (Keeps.refl _) (Hs.un2 [_, _] _ _) ?_
      obtain ⟨A44, c44, rfl, hc44⟩ := hv44.split
      refine R.assign ⟨rfl, rfl, rfl, rfl⟩ rfl ?_
      refine GOps.nil ?_
      refine GW.region ?_
      refine R.move ⟨rfl, rfl, rfl, rfl⟩ rfl ?_
      refine R.add (r := (((i + 1) : Nat) : Int)) ⟨rfl, rfl, rfl, rfl⟩ rfl rfl (by rw [wrap64_id (by omega) (by omega)]; omega) ?_
      refine R.assign ⟨rfl, rfl, rfl, rfl⟩ rfl ?_
      refine GOps.nil ?_
      exact ⟨i + 1, stepStW vars a l, ((v3, .slice A44 _ c44), (Hl3, H44)), (), by omega, ⟨by omega, by rw [stepsW_succ hx, ← ha], hL3, (by show SlAt 11 50 (stsC (a.1 ++ [(stepW vars a.2 l).1])) (a.1 ++ [(stepW vars a.2 l).1]).length _ _; rw [sts_app, sts_one, List.length_append]; exact hv44)⟩, rfl, by repeat (first | exact Keeps.nil _ | refine Keeps.cons rfl ?_), by first | exact Hs.refl _ | exact Hs.tl _ | exact Hs.tl2 _ _⟩
    · try simp only [decide_eq_true_eq, decide_eq_false_iff_not, Bool.not_eq_true', Bool.not_eq_false'] at hc2
      obtain rfl : i = (partsW body order).length := by omega
      subst ha
      refine GW.exit ?_
      refine GW.seq ?_
      refine GW.region ?_
      refine R.move ⟨rfl, rfl, rfl, rfl⟩ rfl ?_
      refine R.assign ⟨rfl, rfl, rfl, rfl⟩ rfl ?_
      refine GOps.nil ?_
      exact GW.ret (Out.of (Res.one rfl rfl) (Hs.dropH _ _ _ _ _) ⟨v1, Hl1, Ho, ⟨hO, hL1⟩, rfl⟩)
end Go.Proofs.YtfddkcmooommeaaGreatDoor.Gl
end
section
namespace Go.Proofs.YtfddkcmooommeaaGreatDoor.Gl
open Go.RowKit Go.Shelf
set_option linter.unusedVariables false
set_option linter.unnecessarySimpa false
set_option linter.unusedSimpArgs false
attribute [-simp] List.getD_eq_getElem?_getD
def Both (lim : Nat) (L : List Tm) (q : List Tm × Int) : Prop := (q.2 = 0 ∧ q.1 = L ∧ L.length ≤ lim) ∨ (q.2 = 9 ∧ lim < L.length)
def HasV (vars : List ByteArray) (s : Sl) : Prop := emp s.v = false → ∃ i, idxN vars s.v = some i
theorem placeW_v {vars : List ByteArray} {L : List Tm} {s : Sl} {i : Nat} (he : emp s.v = false) (h : idxN vars s.v = some i) : placeW vars L s = (⟨(i : Nat), 0⟩, L) := by
  unfold placeW
  rw [he, cond_false, h]
theorem Both.place {lim : Nat} {vars : List ByteArray} {L : List Tm} {q : List Tm × Int} {s : Sl} (hv : HasV vars s) (h : Both lim L q) : Both lim (placeW vars L s).2 (placeF lim vars q s).2 := by
  cases he : emp s.v with
  | false =>
    obtain ⟨i, hi⟩ := hv he
    rw [placeW_v he hi, placeF_var he]
    exact h
  | true =>
    rw [placeW_t (.inl he)]
    rcases h with ⟨h1, rfl, h3⟩ | ⟨h1, h2⟩
    · rw [placeF_t0 he h1]
      unfold internF numF
      cases idxT q.1 s.t with
      | some n => exact .inl ⟨rfl, rfl, h3⟩
      | none =>
        by_cases hl : lim ≤ q.1.length
        · simp only [if_pos hl]
          exact .inr ⟨rfl, by show lim < (q.1 ++ [s.t]).length; rw [List.length_append]; simp; omega⟩
        · simp only [if_neg hl]
          exact .inl ⟨rfl, rfl, by show (q.1 ++ [s.t]).length ≤ lim; rw [List.length_append]; simp; omega⟩
    · rw [placeF_t1 he (by omega)]
      refine .inr ⟨h1, ?_⟩
      unfold numF
      cases idxT L s.t with
      | some n => exact h2
      | none => show lim < (L ++ [s.t]).length; rw [List.length_append]; omega
theorem Both.row {lim : Nat} {vars : List ByteArray} {L : List Tm} {q : List Tm × Int} {p : Pt} (hv : ∀ s ∈ sl3 p, HasV vars s) (h : Both lim L q) : Both lim (rowW vars L p).2 (rowF lim vars q p).2 := by
  have h0 := h.place (hv p.s0 (by simp [sl3]))
  have h1 := h0.place (hv p.s1 (by simp [sl3]))
  exact h1.place (hv p.s2 (by simp [sl3]))
theorem Both.step {lim : Nat} {vars : List ByteArray} {L : List Tm} {q : List Tm × Int} {l : Lt} (hv : ∀ s ∈ stepSl l, HasV vars s) (h : Both lim L q) : Both lim (stepW vars L l).2 (stepF lim vars q l).2 := by
  unfold stepSl at hv
  by_cases h1 : l.kind = 1
  · rw [if_pos (.inl h1)] at hv
    rw [stepW_1 h1, stepF_1 h1]; exact h.row hv
  by_cases h2 : l.kind = 2
  · rw [if_pos (.inr h2)] at hv
    rw [stepW_2 h1 h2, stepF_2 h1 h2]; exact h.row hv
  rw [if_neg (by omega)] at hv
  have h3 := (h.place (hv l.a (by simp))).place (hv l.b (by simp))
  unfold stepW stepF
  rw [if_neg h1, if_neg h1, if_neg h2, if_neg h2]
  exact h3
theorem bodyStep_q (lim : Nat) (vars : List ByteArray) (a : BS) (l : Lt) : ((bodyStep lim vars a l).ts, (bodyStep lim vars a l).bad) = (stepF lim vars (a.ts, a.bad) l).2 := by
  by_cases h1 : (stepF lim vars (a.ts, a.bad) l).1.kind = 1
  · rw [bodyStep_1 h1]
  by_cases h2 : (stepF lim vars (a.ts, a.bad) l).1.kind = 2
  · rw [bodyStep_2 h1 h2]
  · rw [bodyStep_3 h1 h2]
theorem Both.body {lim : Nat} {vars : List ByteArray} {L : List Tm} {ts : List Tm} {bad : Int} {body : List Lt} (hv : ∀ l ∈ body, ∀ s ∈ stepSl l, HasV vars s) (h : Both lim L (ts, bad)) : ∀ i, i ≤ body.length → Both lim (passW vars L body i) ((bodyTo lim vars ts bad body i).ts, (bodyTo lim vars ts bad body i).bad)
  | 0, _ => h
  | i + 1, hi => by
    have ih := Both.body hv h i (by omega)
    have hx := List.getElem?_eq_getElem (show i < body.length by omega)
    rw [passW_succ hx, bodyTo_succ hx, bodyStep_q]
    exact ih.step (hv _ (List.getElem_mem _))
theorem idxT_mem {L : List Tm} {t : Tm} (h : t ∈ L) : ∃ n, idxT L t = some n := by
  cases e : idxT L t with
  | some n => exact ⟨n, rfl⟩
  | none => exact absurd h (idxT_none e)
theorem numF_in {L : List Tm} {t : Tm} {n : Nat} (h : idxT L t = some n) : numF L t = (n + 1, L) := by unfold numF; rw [h]
theorem numF_pre (L : List Tm) (t : Tm) : L <+: (numF L t).2 := by
  unfold numF
  cases idxT L t with
  | some n => exact List.prefix_refl _
  | none => exact List.prefix_append _ _
theorem numF_mem (L : List Tm) (t : Tm) : idxT (numF L t).2 t = some ((numF L t).1 - 1) ∧ 0 < (numF L t).1 := by
  unfold numF
  cases e : idxT L t with
  | some n => exact ⟨e, Nat.succ_pos _⟩
  | none =>
    refine ⟨?_, Nat.succ_pos _⟩
    have h2 := e
    unfold idxT at e ⊢
    rw [List.findIdx?_append, e]
    simp [List.findIdx?_cons, tmEq_iff.2]
theorem placeW_pre (vars : List ByteArray) (L : List Tm) (s : Sl) : L <+: (placeW vars L s).2 := by
  unfold placeW
  split
  · exact List.prefix_refl _
  · exact numF_pre _ _
theorem rowW_pre (vars : List ByteArray) (L : List Tm) (p : Pt) : L <+: (rowW vars L p).2 := ((placeW_pre _ _ _).trans (placeW_pre _ _ _)).trans (placeW_pre _ _ _)
theorem stepW_pre (vars : List ByteArray) (L : List Tm) (l : Lt) : L <+: (stepW vars L l).2 := by
  unfold stepW
  split
  · exact rowW_pre _ _ _
  · split
    · exact rowW_pre _ _ _
    · exact (placeW_pre _ _ _).trans (placeW_pre _ _ _)
def Got (L : List Tm) (s : Sl) : Prop := emp s.v = true → s.t ∈ L
theorem Got.mono {L L' : List Tm} {s : Sl} (h : Got L s) (hp : L <+: L') : Got L' s := fun he => hp.subset (h he)
theorem placeW_got {vars : List ByteArray} {L : List Tm} {s : Sl} (hv : HasV vars s) (h : Got L s) : (placeW vars L s).2 = L := by
  cases he : emp s.v with
  | false => obtain ⟨i, hi⟩ := hv he; rw [placeW_v he hi]
  | true =>
    obtain ⟨n, hn⟩ := idxT_mem (h he)
    rw [placeW_t (.inl he), numF_in hn]
theorem placeW_puts (vars : List ByteArray) (L : List Tm) (s : Sl) : Got (placeW vars L s).2 s := fun he => by
  rw [placeW_t (.inl he)]
  exact List.mem_of_getElem? (idxT_some (numF_mem L s.t).1)
theorem rowW_got {vars : List ByteArray} {L : List Tm} {p : Pt} (hv : ∀ s ∈ sl3 p, HasV vars s) (h : ∀ s ∈ sl3 p, Got L s) : (rowW vars L p).2 = L := by
  have h0 := placeW_got (hv p.s0 (by simp [sl3])) (h p.s0 (by simp [sl3]))
  have h1 := placeW_got (hv p.s1 (by simp [sl3])) (h p.s1 (by simp [sl3]))
  have h2 := placeW_got (hv p.s2 (by simp [sl3])) (h p.s2 (by simp [sl3]))
  unfold rowW
  simp only
  rw [h0, h1, h2]
theorem rowW_puts {vars : List ByteArray} {L : List Tm} {p : Pt} : ∀ s ∈ sl3 p, Got (rowW vars L p).2 s := by
  intro s hs
  simp only [sl3, List.mem_cons, List.not_mem_nil, or_false] at hs
  rcases hs with rfl | rfl | rfl
  · exact (placeW_puts vars L p.s0).mono ((placeW_pre _ _ _).trans (placeW_pre _ _ _))
  · exact (placeW_puts vars (placeW vars L p.s0).2 p.s1).mono (placeW_pre _ _ _)
  · exact placeW_puts _ _ _
theorem stepW_got {vars : List ByteArray} {L : List Tm} {l : Lt} (hv : ∀ s ∈ stepSl l, HasV vars s) (h : ∀ s ∈ stepSl l, Got L s) : (stepW vars L l).2 = L := by
  unfold stepSl at hv h
  unfold stepW
  by_cases h1 : l.kind = 1
  · rw [if_pos (.inl h1)] at hv h
    rw [if_pos h1]
    exact rowW_got hv h
  by_cases h2 : l.kind = 2
  · rw [if_pos (.inr h2)] at hv h
    rw [if_neg h1, if_pos h2]
    exact rowW_got hv h
  rw [if_neg (by omega)] at hv h
  rw [if_neg h1, if_neg h2]
  have h3 := placeW_got (hv l.a (by simp)) (h l.a (by simp))
  have h4 := placeW_got (hv l.b (by simp)) (h l.b (by simp))
  simp only
  rw [h3, h4]
theorem stepW_puts {vars : List ByteArray} {L : List Tm} {l : Lt} : ∀ s ∈ stepSl l, Got (stepW vars L l).2 s := by
  intro s hs
  unfold stepSl at hs
  unfold stepW
  by_cases h1 : l.kind = 1
  · rw [if_pos (.inl h1)] at hs
    rw [if_pos h1]
    exact rowW_puts s hs
  by_cases h2 : l.kind = 2
  · rw [if_pos (.inr h2)] at hs
    rw [if_neg h1, if_pos h2]
    exact rowW_puts s hs
  rw [if_neg (by omega)] at hs
  rw [if_neg h1, if_neg h2]
  simp only [List.mem_cons, List.not_mem_nil, or_false] at hs
  rcases hs with rfl | rfl
  · exact (placeW_puts vars L l.a).mono (placeW_pre _ _ _)
  · exact placeW_puts _ _ _
theorem passW_pre {vars : List ByteArray} {L : List Tm} {body : List Lt} {i : Nat} (hi : i < body.length) : passW vars L body i <+: passW vars L body (i + 1) := by
  rw [passW_succ (List.getElem?_eq_getElem hi)]
  exact stepW_pre _ _ _
theorem passW_mono {vars : List ByteArray} {L : List Tm} {body : List Lt} {i : Nat} : ∀ (d : Nat), i + d ≤ body.length → passW vars L body i <+: passW vars L body (i + d)
  | 0, _ => List.prefix_refl _
  | d + 1, h => (passW_mono d (by omega)).trans (passW_pre (by omega))
theorem passW_puts {vars : List ByteArray} {L : List Tm} {body : List Lt} : ∀ l ∈ body, ∀ s ∈ stepSl l, Got (passW vars L body body.length) s := by
  intro l hl s hs
  obtain ⟨i, hi, rfl⟩ := List.mem_iff_getElem.1 hl
  have h1 : Got (passW vars L body (i + 1)) s := by
    rw [passW_succ (List.getElem?_eq_getElem hi)]
    exact stepW_puts s hs
  have h2 := passW_mono (vars := vars) (L := L) (body := body) (i := i + 1) (body.length - (i + 1)) (by omega)
  rw [show i + 1 + (body.length - (i + 1)) = body.length by omega] at h2
  exact h1.mono h2
theorem stepsW_got {vars : List ByteArray} {L : List Tm} {ps : List Lt} (hv : ∀ l ∈ ps, ∀ s ∈ stepSl l, HasV vars s) (h : ∀ l ∈ ps, ∀ s ∈ stepSl l, Got L s) : ∀ i, i ≤ ps.length → (stepsW vars L ps i).2 = L ∧ (stepsW vars L ps i).1 = (ps.take i).map (fun l => (stepW vars L l).1)
  | 0, _ => ⟨rfl, rfl⟩
  | i + 1, hi => by
    obtain ⟨h1, h2⟩ := stepsW_got hv h i (by omega)
    have hx := List.getElem?_eq_getElem (show i < ps.length by omega)
    have hm : ps[i] ∈ ps := List.getElem_mem _
    rw [stepsW_succ hx]
    unfold stepStW
    simp only
    rw [h1, h2, List.take_add_one, hx]
    exact ⟨stepW_got (hv _ hm) (h _ hm), by rw [List.map_append]; rfl⟩
theorem mAt_mem {ms : List Lt} {good : Bool} {order : List Int} {p : Nat} (hp : p < ms.length) (hg : good = true → goodF ms.length order = true) : mAt ms good order p ∈ ms := by
  unfold mAt
  split
  · rename_i h
    obtain ⟨h1, h2⟩ := good_range (hg h)
    have hz := List.getElem?_eq_getElem (show p < order.length by omega)
    have h3 := h2 _ (List.getElem_mem (show p < order.length by omega))
    rw [show order.getD p 0 = order[p] by rw [List.getD, hz]; rfl, List.getD, List.getElem?_eq_getElem (show (order[p]).toNat < ms.length by omega)]
    exact List.getElem_mem _
  · rw [List.getD, List.getElem?_eq_getElem hp]
    exact List.getElem_mem _
theorem st_all {P : Lt → Prop} {ms : List Lt} {good : Bool} {order : List Int} {q : PS} (hg : good = true → goodF ms.length order = true) (hm : ∀ l ∈ ms, P l) (hw : ∀ l ∈ q.wt ++ q.out, P l) : ∀ i, i ≤ ms.length + 1 → ∀ l ∈ (stW ms good order q i).wt ++ (stW ms good order q i).out, P l
  | 0, _ => hw
  | i + 1, hi => by
    have ih := st_all hg hm hw i (by omega)
    have h1 : ∀ l ∈ (preW ms good order (stW ms good order q i) i).wt ++ (preW ms good order (stW ms good order q i) i).out, P l := by
      rcases i with _ | p
      · exact ih
      · intro l hl
        simp only [preW, List.mem_append, List.mem_singleton] at hl
        rcases hl with h | h | rfl
        · exact ih l (List.mem_append_left _ h)
        · exact ih l (List.mem_append_right _ h)
        · exact hm _ (mAt_mem (by omega) hg)
    intro l hl
    simp only [stW, flushW, List.mem_append, List.mem_filter] at hl
    rcases hl with h | h | h
    · exact h1 l (List.mem_append_left _ h.1)
    · exact h1 l (List.mem_append_right _ h)
    · exact h1 l (List.mem_append_left _ h.1)
theorem parts_mem {body : List Lt} {order : List Int} : ∀ l ∈ partsW body order, l ∈ body := by
  intro l hl
  refine st_all (P := fun l => l ∈ body) (ms := body.filter isMt) (good := goodF (body.filter isMt).length order) (order := order) (q := ⟨[], waitL body, []⟩) id (fun l h => (List.mem_filter.1 h).1) (fun l h => ?_) _ (Nat.le_refl _) l (List.mem_append_right _ hl)
  simp only [waitL, List.append_nil, List.mem_append, List.mem_filter] at h
  rcases h with h | h <;> exact h.1
theorem bodyW_end {vars : List ByteArray} {L : List Tm} {body : List Lt} {order : List Int} (hv : ∀ l ∈ body, ∀ s ∈ stepSl l, HasV vars s) : (bodyW vars L body order).2 = passW vars L body body.length ∧ (bodyW vars L body order).1 = (partsW body order).map (fun l => (stepW vars (passW vars L body body.length) l).1) := by
  have := stepsW_got (vars := vars) (L := passW vars L body body.length) (ps := partsW body order) (fun l hl => hv l (parts_mem l hl)) (fun l hl => passW_puts l (parts_mem l hl)) _ (Nat.le_refl _)
  rw [List.take_length] at this
  exact this
theorem idxN_in {xs : List ByteArray} {s : ByteArray} (h : inB xs s = true) : ∃ i, idxN xs s = some i := by
  have h1 := idxB_in xs s
  rw [h, decide_eq_true_eq] at h1
  unfold idxB at h1
  cases e : idxN xs s with
  | some n => exact ⟨n, rfl⟩
  | none => rw [e] at h1; simp only at h1; omega
theorem inB_app {xs : List ByteArray} {s y : ByteArray} (h : inB xs s = true) : inB (xs ++ [y]) s = true := by
  unfold inB at h ⊢
  rw [List.any_append, h]
  rfl
theorem dd_has (q : List Sl) : ∀ i, i ≤ q.length → ∀ s ∈ q.take i, emp s.v = false → inB (dd (q.take i)) s.v = true
  | 0, _ => fun s hs => by simp at hs
  | i + 1, hi => by
    have ih := dd_has q i (by omega)
    have hx := List.getElem?_eq_getElem (show i < q.length by omega)
    intro s hs he
    rw [dd_succ hx]
    rw [List.take_add_one, hx] at hs
    have hself : ∀ x : Sl, inB (dd (q.take i) ++ [x.v]) x.v = true := fun x => by
      unfold inB eqB
      rw [List.any_append]
      simp
    rcases List.mem_append.1 hs with h | h
    · have h1 := ih s h he
      cases h2 : emp q[i].v with
      | true => rw [ddStep_no1 h2]; exact h1
      | false =>
        cases h3 : inB (dd (q.take i)) q[i].v with
        | true => rw [ddStep_no2 h3]; exact h1
        | false => rw [ddStep_yes h2 h3]; exact inB_app h1
    · have e : s = q[i] := by simpa using h
      subst e
      cases h3 : inB (dd (q.take i)) q[i].v with
      | true => rw [ddStep_no2 h3]; exact h3
      | false => rw [ddStep_yes he h3]; exact hself _
theorem hasV_of {q : List Sl} {s : Sl} (h : s ∈ q) : HasV (dd q) s := fun he => idxN_in (by
  have := dd_has q q.length (Nat.le_refl _) s (by rw [List.take_length]; exact h) he
  rwa [List.take_length] at this)
theorem stepSl_slots (l : Lt) : stepSl l = slotsOf l := by
  unfold stepSl slotsOf
  by_cases h : l.kind = 1 ∨ l.kind = 2
  · rw [if_pos h]
    have : (decide (l.kind = 1) || decide (l.kind = 2)) = true := by simpa using h
    rw [this]
    rfl
  · rw [if_neg h]
    have : (decide (l.kind = 1) || decide (l.kind = 2)) = false := by simpa using h
    rw [this]
    rfl
theorem head_has (r : Rl) : ∀ s ∈ sl3 r.head, HasV (dd (allSlots r)) s := fun s hs => hasV_of (by
  unfold allSlots allTake
  exact List.mem_append_left _ hs)
theorem body_has (r : Rl) : ∀ l ∈ r.body, ∀ s ∈ stepSl l, HasV (dd (allSlots r)) s := fun l hl s hs => hasV_of (by
  rw [stepSl_slots] at hs
  unfold allSlots allTake
  rw [List.take_length]
  exact List.mem_append_right _ (List.mem_flatMap.2 ⟨l, hl, hs⟩))
theorem plan_full {lim : Nat} {r : Rl} {order srt : List Int} (h0 : ruleE r = 0) : Both lim (bodyW (dd (allSlots r)) (rowW (dd (allSlots r)) [] r.head).2 r.body []).2 ((planRule lim [] r order srt).ts, (planRule lim [] r order srt).e) := by
  rw [(bodyW_end (body_has r)).1]
  have h1 : Both lim [] (([] : List Tm), (0 : Int)) := .inl ⟨rfl, rfl, Nat.zero_le _⟩
  have hr : Both lim (rowW (dd (allSlots r)) [] r.head).2 ((rowF lim (dd (allSlots r)) ([], 0) r.head).2.1, (rowF lim (dd (allSlots r)) ([], 0) r.head).2.2) := h1.row (head_has r)
  have h2 := Both.body (body_has r) hr r.body.length (Nat.le_refl _)
  by_cases h3 : (planSteps lim (dd (allSlots r)) (rowF lim (dd (allSlots r)) ([], 0) r.head).2.1 (rowF lim (dd (allSlots r)) ([], 0) r.head).2.2 r.body order srt).2.2 = 0
  · rw [planRule_ok h0 h3]
    have h4 : (bodyTo lim (dd (allSlots r)) (rowF lim (dd (allSlots r)) ([], 0) r.head).2.1 (rowF lim (dd (allSlots r)) ([], 0) r.head).2.2 r.body r.body.length).bad = 0 := h3
    rw [h4] at h2
    exact h2
  · rw [planRule_full h0 h3]
    exact h2
end Go.Proofs.YtfddkcmooommeaaGreatDoor.Gl
end
section
namespace Go.Proofs.YtfddkcmooommeaaGreatDoor.Gl
open Go.RowKit Go.Shelf
set_option linter.unusedVariables false
set_option linter.unnecessarySimpa false
set_option linter.unusedSimpArgs false
attribute [-simp] List.getD_eq_getElem?_getD
theorem Hs.front (x : Nat × Know) (H R : Hp) : Hs (H ++ (x :: R)) (x :: ([] ++ (H ++ R))) := Hs.perm (by rw [List.nil_append]; exact List.perm_middle.symm)
theorem Hs.dict (x : Nat × Know) (L B V D R : Hp) : Hs (x :: (L ++ (B ++ (V ++ (D ++ R))))) (D ++ (x :: (L ++ R))) := (Hs.sub (G' := x :: (L ++ (D ++ R))) ((((List.sublist_append_right V _).trans (List.sublist_append_right B _)).append_left L).cons_cons x)).trans (Hs.perm (by
  have h : (D ++ (L ++ R)).Perm (L ++ (D ++ R)) := by
    rw [← List.append_assoc, ← List.append_assoc]
    exact List.Perm.append_right _ List.perm_append_comm
  exact List.perm_middle.trans (h.cons x)))
theorem rule_nil (w0 : World) (G : Hp) (r : Rl) (bA : Option Addr) (bc : Nat) : GC Tryz.prog w0 10 #[.pointer none, .agg (RlC r.head (.slice bA r.body.length bc)).toArray, .slice none 0 0] (fun v G' => v = .tuple #[.agg (planC zRw (.slice none 0 0) 0).toArray, .int .i64 1] ∧ G = G') G := by
  refine GC.body (args := [.pointer none, .agg (RlC r.head (.slice bA r.body.length bc)).toArray, .slice none 0 0]) Tryz.func10 rfl (by kernel_rfl) rfl ?_
  refine GW.seq ?_
  refine GW.region ?_
  refine R.box ⟨rfl, rfl, rfl, rfl⟩ rfl fun b4 => ?_
  refine R.alloc ⟨rfl, rfl, rfl, rfl⟩ Tryz.zeroValue41 fun b6 => ?_
  refine R.assign ⟨rfl, rfl, rfl, rfl⟩ rfl ?_
  refine GOps.nil ?_
  refine GW.seq ?_
  refine GW.seq ?_
  refine GW.region ?_
  refine R.move ⟨rfl, rfl, rfl, rfl⟩ rfl ?_
  refine R.build (vs := []) (cells := #[.int .i64 0, .string (ByteArray.mk #[]), .string (ByteArray.mk #[])]) ⟨rfl, rfl, rfl, rfl⟩ rfl (fun w => run_build w 24 _ _ (by kernel_rfl)) ?_
  refine R.call ⟨rfl, rfl, rfl, rfl⟩ rfl (vs := [_, _]) rfl ((int_nil _ _ ⟨0, ByteArray.mk #[], ByteArray.mk #[]⟩).mono ?_)
  rintro _ _ ⟨rfl, rfl⟩
  refine R.move ⟨rfl, rfl, rfl, rfl⟩ rfl ?_
  refine R.extract ⟨rfl, rfl, rfl, rfl⟩ rfl rfl ?_
  refine R.extract ⟨rfl, rfl, rfl, rfl⟩ rfl rfl ?_
  refine R.assign ⟨rfl, rfl, rfl, rfl⟩ rfl ?_
  refine R.assign ⟨rfl, rfl, rfl, rfl⟩ rfl ?_
  refine GOps.nil ?_
  refine GW.seq ?_
  refine GW.region ?_
  refine R.move ⟨rfl, rfl, rfl, rfl⟩ rfl ?_
  refine R.eqI ⟨rfl, rfl, rfl, rfl⟩ rfl rfl ?_
  refine GOps.nil ?_
  refine GW.cond_t rfl ?_
  refine GW.seq ?_
  refine GW.region ?_
  refine R.build (vs := []) (cells := (planC zRw (.slice none 0 0) 0).toArray) ⟨rfl, rfl, rfl, rfl⟩ rfl (fun w => run_build w 41 _ _ (by kernel_rfl)) ?_
  refine R.move ⟨rfl, rfl, rfl, rfl⟩ rfl ?_
  refine R.storeAll (G1 := []) rfl rfl rfl rfl rfl Tryz.sizeOf41 rfl rfl rfl rfl ?_
  refine R.assign ⟨rfl, rfl, rfl, rfl⟩ rfl ?_
  refine GOps.nil ?_
  exact GW.ret (Out.of (resCellTmp rfl rfl rfl Tryz.underlying41 rfl Tryz.sizeOf41 (Rds.own (C := (planC zRw (.slice none 0 0) 0).toArray) (by repeat (first | exact List.mem_cons_self | apply List.mem_cons_of_mem | apply List.mem_append_right | exact List.mem_append_left _ List.mem_cons_self)) 0 (planC zRw (.slice none 0 0) 0) (fun j v hv => by simpa using hv)) rfl) (Hs.tl2 _ _) ⟨rfl, rfl⟩)
theorem query_nil (w0 : World) (G : Hp) : GC Tryz.prog w0 22 #[.pointer none, .agg #[.bool false, .bool false, .slice none 0 0, .slice none 0 0], .slice none 0 0] (fun v G' => v = .tuple #[.agg (planC zRw (.slice none 0 0) 0).toArray, .int .i64 1] ∧ G = G') G := by
  refine GC.body (args := [.pointer none, .agg #[.bool false, .bool false, .slice none 0 0, .slice none 0 0], .slice none 0 0]) Tryz.func22 rfl (by kernel_rfl) rfl ?_
  refine GW.seq ?_
  refine GW.region ?_
  refine R.box ⟨rfl, rfl, rfl, rfl⟩ rfl fun b4 => ?_
  refine R.alloc ⟨rfl, rfl, rfl, rfl⟩ Tryz.zeroValue41 fun b6 => ?_
  refine R.assign ⟨rfl, rfl, rfl, rfl⟩ rfl ?_
  refine GOps.nil ?_
  refine GW.seq ?_
  refine GW.seq ?_
  refine GW.region ?_
  refine R.move ⟨rfl, rfl, rfl, rfl⟩ rfl ?_
  refine R.build (vs := []) (cells := #[.int .i64 0, .string (ByteArray.mk #[]), .string (ByteArray.mk #[])]) ⟨rfl, rfl, rfl, rfl⟩ rfl (fun w => run_build w 24 _ _ (by kernel_rfl)) ?_
  refine R.call ⟨rfl, rfl, rfl, rfl⟩ rfl (vs := [_, _]) rfl ((int_nil _ _ ⟨0, ByteArray.mk #[], ByteArray.mk #[]⟩).mono ?_)
  rintro _ _ ⟨rfl, rfl⟩
  refine R.move ⟨rfl, rfl, rfl, rfl⟩ rfl ?_
  refine R.extract ⟨rfl, rfl, rfl, rfl⟩ rfl rfl ?_
  refine R.extract ⟨rfl, rfl, rfl, rfl⟩ rfl rfl ?_
  refine R.assign ⟨rfl, rfl, rfl, rfl⟩ rfl ?_
  refine R.assign ⟨rfl, rfl, rfl, rfl⟩ rfl ?_
  refine GOps.nil ?_
  refine GW.seq ?_
  refine GW.region ?_
  refine R.move ⟨rfl, rfl, rfl, rfl⟩ rfl ?_
  refine R.eqI ⟨rfl, rfl, rfl, rfl⟩ rfl rfl ?_
  refine GOps.nil ?_
  refine GW.cond_t rfl ?_
  refine GW.seq ?_
  refine GW.region ?_
  refine R.build (vs := []) (cells := (planC zRw (.slice none 0 0) 0).toArray) ⟨rfl, rfl, rfl, rfl⟩ rfl (fun w => run_build w 41 _ _ (by kernel_rfl)) ?_
  refine R.move ⟨rfl, rfl, rfl, rfl⟩ rfl ?_
  refine R.storeAll (G1 := []) rfl rfl rfl rfl rfl Tryz.sizeOf41 rfl rfl rfl rfl ?_
  refine R.assign ⟨rfl, rfl, rfl, rfl⟩ rfl ?_
  refine GOps.nil ?_
  exact GW.ret (Out.of (resCellTmp rfl rfl rfl Tryz.underlying41 rfl Tryz.sizeOf41 (Rds.own (C := (planC zRw (.slice none 0 0) 0).toArray) (by repeat (first | exact List.mem_cons_self | apply List.mem_cons_of_mem | apply List.mem_append_right | exact List.mem_append_left _ List.mem_cons_self)) 0 (planC zRw (.slice none 0 0) 0) (fun j v hv => by simpa using hv)) rfl) (Hs.tl2 _ _) ⟨rfl, rfl⟩)
theorem law_Full (w0 : World) (G : Hp) (r : Rl) (bA : Option Addr) (bc : Nat) (lim : Int) (hl : LtsAt w0 G bA r.body) (hm : r.body.length ≤ 1048576) (hok : RlOk r) : GC Tryz.prog w0 6 #[.agg (RlC r.head (.slice bA r.body.length bc)).toArray, .int .i64 lim] (fun v G' => v = .bool true ∧ G = G') G := by
  refine GC.body (args := [.agg (RlC r.head (.slice bA r.body.length bc)).toArray, .int .i64 lim]) Tryz.func6 rfl (by kernel_rfl) rfl ?_
  refine GW.seq ?_
  refine GW.region ?_
  refine R.box ⟨rfl, rfl, rfl, rfl⟩ rfl fun b2 => ?_
  refine R.assign ⟨rfl, rfl, rfl, rfl⟩ rfl ?_
  refine GOps.nil ?_
  refine GW.seq ?_
  refine GW.cutS 30 (decide (¬ (r.body.length ≤ 20 ∧ ruleE r = 0 ∧ 0 ≤ lim ∧ lim ≤ 50))) [(1, .int .i64 lim), (2, .pointer (some ⟨b2, 0, none⟩))] ?_ ?_
  · refine R.fieldAddr ⟨rfl, rfl, rfl, rfl⟩ rfl Tryz.underlying31 rfl Tryz.sizeOf29 ?_   -- "Body"
    refine R.load1 ⟨rfl, rfl, rfl, rfl⟩ rfl Tryz.underlying29 rfl (.own (by repeat (first | exact List.mem_cons_self | apply List.mem_cons_of_mem | apply List.mem_append_right | exact List.mem_append_left _ List.mem_cons_self)) rfl) ?_
    refine R.lenS ⟨rfl, rfl, rfl, rfl⟩ rfl rfl Tryz.underlying29 ?_
    refine R.gtr ⟨rfl, rfl, rfl, rfl⟩ rfl rfl ?_
    refine R.move ⟨rfl, rfl, rfl, rfl⟩ rfl ?_
    refine GOps.caseB 18 rfl (fun hg1 => ?_) (fun hg1 => ?_)
    · try simp only [decide_eq_true_eq, decide_eq_false_iff_not, Bool.not_eq_true', Bool.not_eq_false'] at hg1
      refine GOps.skip rfl rfl rfl ?_
      refine GOps.skip rfl rfl rfl ?_
      refine GOps.skip rfl rfl rfl ?_
      refine R.pick_t ⟨rfl, rfl, rfl, rfl⟩ rfl rfl ?_
      refine R.move ⟨rfl, rfl, rfl, rfl⟩ rfl ?_
      refine GOps.skip rfl rfl rfl ?_
      refine GOps.skip rfl rfl rfl ?_
      refine R.pick_t ⟨rfl, rfl, rfl, rfl⟩ rfl rfl ?_
      refine R.move ⟨rfl, rfl, rfl, rfl⟩ rfl ?_
      refine GOps.skip rfl rfl rfl ?_
      refine GOps.skip rfl rfl rfl ?_
      refine R.pick_t ⟨rfl, rfl, rfl, rfl⟩ rfl rfl ?_
      refine GOps.nil ?_
      exact ⟨rfl, rfl, by repeat (first | exact Keeps.nil _ | refine Keeps.cons rfl ?_), by first | exact Hs.refl _ | exact Hs.tl _, vbs (by rw [Bool.eq_iff_iff]; simp only [decide_eq_true_eq, decide_eq_false_iff_not, iff_true, true_iff, iff_false, false_iff, Bool.false_eq_true, Bool.true_eq_false] at *; omega)⟩
    · try simp only [decide_eq_true_eq, decide_eq_false_iff_not, Bool.not_eq_true', Bool.not_eq_false'] at hg1
      refine R.load_own (cs := RlC r.head (.slice bA r.body.length bc)) ⟨rfl, rfl, rfl, rfl⟩ rfl Tryz.underlying31 rfl Tryz.sizeOf31 (by repeat (first | exact List.mem_cons_self | apply List.mem_cons_of_mem | apply List.mem_append_right)) (by rfl) (by rfl) ?_
      refine R.call ⟨rfl, rfl, rfl, rfl⟩ rfl (vs := [_]) rfl ((ref_Rule _ _ r bA bc (hl.mono (fun y hy => by repeat (first | exact hy | apply List.mem_cons_of_mem | apply List.mem_append_right))) hm hok).mono ?_)
      rintro _ _ ⟨rfl, rfl⟩
      refine R.neI ⟨rfl, rfl, rfl, rfl⟩ rfl rfl ?_
      refine R.pick_f ⟨rfl, rfl, rfl, rfl⟩ rfl rfl ?_
      refine R.move ⟨rfl, rfl, rfl, rfl⟩ rfl ?_
      refine GOps.caseB 23 rfl (fun hg2 => ?_) (fun hg2 => ?_)
      · try simp only [decide_eq_true_eq, decide_eq_false_iff_not, Bool.not_eq_true', Bool.not_eq_false'] at hg2
        refine GOps.skip rfl rfl rfl ?_
        refine GOps.skip rfl rfl rfl ?_
        refine R.pick_t ⟨rfl, rfl, rfl, rfl⟩ rfl rfl ?_
        refine R.move ⟨rfl, rfl, rfl, rfl⟩ rfl ?_
        refine GOps.skip rfl rfl rfl ?_
        refine GOps.skip rfl rfl rfl ?_
        refine R.pick_t ⟨rfl, rfl, rfl, rfl⟩ rfl rfl ?_
        refine GOps.nil ?_
        exact ⟨rfl, rfl, by repeat (first | exact Keeps.nil _ | refine Keeps.cons rfl ?_), by first | exact Hs.refl _ | exact Hs.tl _, vbs (by rw [Bool.eq_iff_iff]; simp only [decide_eq_true_eq, decide_eq_false_iff_not, iff_true, true_iff, iff_false, false_iff, Bool.false_eq_true, Bool.true_eq_false] at *; omega)⟩
      · try simp only [decide_eq_true_eq, decide_eq_false_iff_not, Bool.not_eq_true', Bool.not_eq_false'] at hg2
        refine R.move ⟨rfl, rfl, rfl, rfl⟩ rfl ?_
        refine R.lss ⟨rfl, rfl, rfl, rfl⟩ rfl rfl ?_
        refine R.pick_f ⟨rfl, rfl, rfl, rfl⟩ rfl rfl ?_
        refine R.move ⟨rfl, rfl, rfl, rfl⟩ rfl ?_
        refine GOps.caseB 27 rfl (fun hg3 => ?_) (fun hg3 => ?_)
        · try simp only [decide_eq_true_eq, decide_eq_false_iff_not, Bool.not_eq_true', Bool.not_eq_false'] at hg3
          refine GOps.skip rfl rfl rfl ?_
          refine GOps.skip rfl rfl rfl ?_
          refine R.pick_t ⟨rfl, rfl, rfl, rfl⟩ rfl rfl ?_
          refine GOps.nil ?_
          exact ⟨rfl, rfl, by repeat (first | exact Keeps.nil _ | refine Keeps.cons rfl ?_), by first | exact Hs.refl _ | exact Hs.tl _, vbs (by rw [Bool.eq_iff_iff]; simp only [decide_eq_true_eq, decide_eq_false_iff_not, iff_true, true_iff, iff_false, false_iff, Bool.false_eq_true, Bool.true_eq_false] at *; omega)⟩
        · try simp only [decide_eq_true_eq, decide_eq_false_iff_not, Bool.not_eq_true', Bool.not_eq_false'] at hg3
          refine R.move ⟨rfl, rfl, rfl, rfl⟩ rfl ?_
          refine R.gtr ⟨rfl, rfl, rfl, rfl⟩ rfl rfl ?_
          refine R.pick_f ⟨rfl, rfl, rfl, rfl⟩ rfl rfl ?_
          refine GOps.nil ?_
          exact ⟨rfl, rfl, by repeat (first | exact Keeps.nil _ | refine Keeps.cons rfl ?_), by first | exact Hs.refl _ | exact Hs.tl _, vbs (by rw [Bool.eq_iff_iff]; simp only [decide_eq_true_eq, decide_eq_false_iff_not, iff_true, true_iff, iff_false, false_iff, Bool.false_eq_true, Bool.true_eq_false] at *; omega)⟩
  · refine GW.ite rfl (fun hc4 => ?_) (fun hc4 => ?_)
    · try simp only [decide_eq_true_eq, decide_eq_false_iff_not, Bool.not_eq_true', Bool.not_eq_false'] at hc4
      refine GW.seq ?_
      refine GW.region ?_
      refine R.call ⟨rfl, rfl, rfl, rfl⟩ rfl (vs := []) rfl ((law_known _ _).mono ?_)
      rintro _ _ ⟨rfl, rfl⟩
      refine R.assign ⟨rfl, rfl, rfl, rfl⟩ rfl ?_
      refine GOps.nil ?_
      refine GW.ret (Out.of (Res.one rfl rfl) (by first | exact Hs.refl _ | exact Hs.tl _ | exact Hs.sub (by repeat (first | exact List.Sublist.refl _ | apply List.Sublist.cons | refine List.Sublist.trans ?_ (List.sublist_append_right _ _)))) ⟨?_, rfl⟩)
      first | rfl | (exfalso; omega) | (exfalso; exact absurd trivial (by assumption)) | (exfalso; exact Bool.noConfusion (hE.symm.trans (show _ = false by assumption)))
    · try simp only [decide_eq_true_eq, decide_eq_false_iff_not, Bool.not_eq_true', Bool.not_eq_false'] at hc4
      obtain ⟨lm, rfl⟩ : ∃ n : Nat, lim = (n : Nat) := ⟨lim.toNat, by omega⟩
      have hvl : (dd (allSlots r)).length ≤ 3 + 3 * r.body.length := Nat.le_trans (dd_len _) (allTake_len r r.body.length).2
      have hrl := rowW_len (dd (allSlots r)) [] r.head
      simp only [List.length_nil] at hrl
      have hF := plan_full (lim := lm) (r := r) (order := []) (srt := []) (by omega)
      have hE : (decide ((planRule lm [] r [] []).e = 0) == decide ((((bodyW (dd (allSlots r)) (rowW (dd (allSlots r)) [] r.head).2 r.body []).2.length : Nat) : Int) ≤ (lm : Int))) = true := by rcases hF with ⟨h1, _, h3⟩ | ⟨h1, h3⟩ <;> simp only at h1 h3 <;> rw [h1] <;> simp <;> omega
      have hE9 : (planRule lm [] r [] []).e = 0 ∨ (planRule lm [] r [] []).e = 9 := by rcases hF with ⟨h1, _⟩ | ⟨h1, _⟩; exact .inl h1; exact .inr h1
      refine GW.skip ?_
      refine GW.seq ?_
      refine GW.region ?_
      refine R.move ⟨rfl, rfl, rfl, rfl⟩ rfl ?_
      refine R.call ⟨rfl, rfl, rfl, rfl⟩ rfl (vs := [_]) rfl ((dict_New _ _ lm (by omega)).mono ?_)
      rintro _ _ ⟨bD, HD, ⟨rfl, hD⟩, rfl⟩
      refine R.build (vs := []) (cells := #[.slice none 0 0]) ⟨rfl, rfl, rfl, rfl⟩ rfl (fun w => run_build w 60 _ _ (by kernel_rfl)) ?_
      refine R.box ⟨rfl, rfl, rfl, rfl⟩ rfl fun b35 => ?_
      refine R.assign ⟨rfl, rfl, rfl, rfl⟩ rfl ?_
      refine R.assign ⟨rfl, rfl, rfl, rfl⟩ rfl ?_
      refine GOps.nil ?_
      refine GW.seq ?_
      refine GW.region ?_
      refine R.load_own (cs := RlC r.head (.slice bA r.body.length bc)) ⟨rfl, rfl, rfl, rfl⟩ rfl Tryz.underlying31 rfl Tryz.sizeOf31 (by repeat (first | exact List.mem_cons_self | apply List.mem_cons_of_mem | apply List.mem_append_right)) (by rfl) (by rfl) ?_
      refine R.call ⟨rfl, rfl, rfl, rfl⟩ rfl (vs := [_]) rfl ((ref_Vars _ _ r bA bc (hl.mono (fun y hy => by repeat (first | exact hy | apply List.mem_cons_of_mem | apply List.mem_append_right))) hm).mono ?_)
      rintro v37 _ ⟨Hv, hv37, rfl⟩
      obtain ⟨Av, cv, rfl, hvs⟩ := hv37.strs w0 []
      refine GOps.weak (Keeps.refl _) (Hs.front _ _ _) ?_
      refine R.assign ⟨rfl, rfl, rfl, rfl⟩ rfl ?_
      refine GOps.nil ?_
      refine GW.seq ?_
      refine GW.region ?_
      refine R.move ⟨rfl, rfl, rfl, rfl⟩ rfl ?_
      refine R.move ⟨rfl, rfl, rfl, rfl⟩ rfl ?_
      refine R.fieldAddr ⟨rfl, rfl, rfl, rfl⟩ rfl Tryz.underlying31 rfl Tryz.sizeOf28 ?_   -- "Head"
      refine R.load_own (cs := PtC r.head) ⟨rfl, rfl, rfl, rfl⟩ rfl Tryz.underlying28 rfl Tryz.sizeOf28 (by repeat (first | exact List.mem_cons_self | apply List.mem_cons_of_mem | apply List.mem_append_right)) (by rfl) (by rfl) ?_
      refine R.call ⟨rfl, rfl, rfl, rfl⟩ rfl (vs := [_, _, _]) rfl ((ref_RowW _ _ [] b35 _ [] (.nil rfl rfl) (by simp) Av (dd (allSlots r)) cv (hvs.mono (fun y hy => by rw [List.append_nil] at hy; repeat (first | exact List.mem_append_left _ hy | apply List.mem_cons_of_mem | apply List.mem_append_right))) (by omega) r.head).mono ?_)
      rintro _ _ ⟨v2, Hl2, ⟨rfl, hL2⟩, rfl⟩
      refine GOps.nil ?_
      refine GW.seq ?_
      refine GW.region ?_
      refine R.move ⟨rfl, rfl, rfl, rfl⟩ rfl ?_
      refine R.move ⟨rfl, rfl, rfl, rfl⟩ rfl ?_
      refine R.fieldAddr ⟨rfl, rfl, rfl, rfl⟩ rfl Tryz.underlying31 rfl Tryz.sizeOf29 ?_   -- "Body"
      refine R.load1 ⟨rfl, rfl, rfl, rfl⟩ rfl Tryz.underlying29 rfl (.own (by repeat (first | exact List.mem_cons_self | apply List.mem_cons_of_mem | apply List.mem_append_right | exact List.mem_append_left _ List.mem_cons_self)) rfl) ?_
      refine R.call ⟨rfl, rfl, rfl, rfl⟩ rfl (vs := [_, _, _, _]) rfl ((ref_Body _ _ (rowW (dd (allSlots r)) [] r.head).2 b35 v2 Hl2 hL2 (by omega) Av (dd (allSlots r)) cv (hvs.mono (fun y hy => by rw [List.append_nil] at hy; repeat (first | exact List.mem_append_left _ hy | apply List.mem_cons_of_mem | apply List.mem_append_right))) (by omega) bA r.body bc (hl.mono (fun y hy => by repeat (first | exact hy | apply List.mem_cons_of_mem | apply List.mem_append_right))) (by omega) none [] 0 (fun i x hx => by simp at hx) (by simp)).mono ?_)
      rintro v47 _ ⟨v3, Hl3, Hb, ⟨hst, hL3⟩, rfl⟩
      refine GOps.weak (Keeps.refl _) (Hs.dict _ _ _ _ _ _) ?_
      obtain ⟨Al, cl, rfl, hcl⟩ := hL3.split
      refine GOps.nil ?_
      refine GW.seq ?_
      refine GW.region ?_
      refine R.move ⟨rfl, rfl, rfl, rfl⟩ rfl ?_
      refine R.load_own (cs := RlC r.head (.slice bA r.body.length bc)) ⟨rfl, rfl, rfl, rfl⟩ rfl Tryz.underlying31 rfl Tryz.sizeOf31 (by repeat (first | exact List.mem_cons_self | apply List.mem_cons_of_mem | apply List.mem_append_right)) (by rfl) (by rfl) ?_
      refine R.call ⟨rfl, rfl, rfl, rfl⟩ rfl (vs := [_, _, _]) rfl ((plan_Rule0 _ _ HD [] lm bD hD r bA bc (hl.mono (fun y hy => by repeat (first | exact hy | apply List.mem_cons_of_mem | apply List.mem_append_right))) (by omega) hok).mono ?_)
      rintro _ _ ⟨vs, Ho, HD2, ⟨rfl, hst2, hD2⟩, rfl⟩
      obtain ⟨As0, cs0, rfl, hcs0⟩ := hst2.split
      refine R.move ⟨rfl, rfl, rfl, rfl⟩ rfl ?_
      refine R.extract ⟨rfl, rfl, rfl, rfl⟩ rfl rfl ?_
      refine R.extract ⟨rfl, rfl, rfl, rfl⟩ rfl rfl ?_
      refine R.alloc ⟨rfl, rfl, rfl, rfl⟩ Tryz.zeroValue41 fun b8 => ?_
      refine R.storeAll (G1 := []) rfl rfl rfl rfl rfl Tryz.sizeOf41 rfl rfl rfl rfl ?_
      refine R.assign ⟨rfl, rfl, rfl, rfl⟩ rfl ?_
      refine GOps.nil ?_
      refine GW.seq ?_
      refine GW.region ?_
      refine R.load_own (cs := RlC r.head (.slice bA r.body.length bc)) ⟨rfl, rfl, rfl, rfl⟩ rfl Tryz.underlying31 rfl Tryz.sizeOf31 (by repeat (first | exact List.mem_cons_self | apply List.mem_cons_of_mem | apply List.mem_append_right)) (by rfl) (by rfl) ?_
      refine R.call ⟨rfl, rfl, rfl, rfl⟩ rfl (vs := [_, _, _]) rfl ((rule_nil _ _ r bA bc).mono ?_)
      rintro _ _ ⟨rfl, rfl⟩
      refine R.move ⟨rfl, rfl, rfl, rfl⟩ rfl ?_
      refine R.extract ⟨rfl, rfl, rfl, rfl⟩ rfl rfl ?_
      refine R.extract ⟨rfl, rfl, rfl, rfl⟩ rfl rfl ?_
      refine R.alloc ⟨rfl, rfl, rfl, rfl⟩ Tryz.zeroValue41 fun b10 => ?_
      refine R.storeAll (G1 := []) rfl rfl rfl rfl rfl Tryz.sizeOf41 rfl rfl rfl rfl ?_
      refine R.assign ⟨rfl, rfl, rfl, rfl⟩ rfl ?_
      refine GOps.nil ?_
      refine GW.seq ?_
      refine GW.region ?_
      refine R.build (vs := []) (cells := #[.bool false, .bool false, .slice none 0 0, .slice none 0 0]) ⟨rfl, rfl, rfl, rfl⟩ rfl (fun w => run_build w 81 _ _ (by kernel_rfl)) ?_
      refine R.call ⟨rfl, rfl, rfl, rfl⟩ rfl (vs := [_, _, _]) rfl ((query_nil _ _).mono ?_)
      rintro _ _ ⟨rfl, rfl⟩
      refine R.move ⟨rfl, rfl, rfl, rfl⟩ rfl ?_
      refine R.extract ⟨rfl, rfl, rfl, rfl⟩ rfl rfl ?_
      refine R.extract ⟨rfl, rfl, rfl, rfl⟩ rfl rfl ?_
      refine R.alloc ⟨rfl, rfl, rfl, rfl⟩ Tryz.zeroValue41 fun b12 => ?_
      refine R.storeAll (G1 := []) rfl rfl rfl rfl rfl Tryz.sizeOf41 rfl rfl rfl rfl ?_
      refine R.assign ⟨rfl, rfl, rfl, rfl⟩ rfl ?_
      refine GOps.nil ?_
      refine GW.seq ?_
      refine GW.region ?_
      refine R.move ⟨rfl, rfl, rfl, rfl⟩ rfl ?_
      refine R.eqI ⟨rfl, rfl, rfl, rfl⟩ rfl rfl ?_
      refine R.move ⟨rfl, rfl, rfl, rfl⟩ rfl ?_
      refine R.nilCheck ⟨rfl, rfl, rfl, rfl⟩ rfl ?_
      refine R.fieldAddr ⟨rfl, rfl, rfl, rfl⟩ rfl Tryz.underlying60 rfl Tryz.sizeOf53 ?_   -- "L"
      refine R.load1 ⟨rfl, rfl, rfl, rfl⟩ rfl Tryz.underlying53 rfl (.own' (by repeat (first | exact List.mem_cons_self | apply List.mem_cons_of_mem | apply List.mem_append_right)) (by rfl)) ?_
      refine R.lenS ⟨rfl, rfl, rfl, rfl⟩ rfl rfl Tryz.underlying53 ?_
      refine R.move ⟨rfl, rfl, rfl, rfl⟩ rfl ?_
      refine R.leq ⟨rfl, rfl, rfl, rfl⟩ rfl rfl ?_
      refine R.eqB ⟨rfl, rfl, rfl, rfl⟩ rfl rfl Tryz.underlying4 ?_
      refine R.move ⟨rfl, rfl, rfl, rfl⟩ rfl ?_
      refine GOps.caseB 74 rfl (fun hg5 => ?_) (fun hg5 => ?_)
      · try simp only [decide_eq_true_eq, decide_eq_false_iff_not, Bool.not_eq_true', Bool.not_eq_false'] at hg5
        refine R.move ⟨rfl, rfl, rfl, rfl⟩ rfl ?_
        refine R.eqI ⟨rfl, rfl, rfl, rfl⟩ rfl rfl ?_
        refine R.move ⟨rfl, rfl, rfl, rfl⟩ rfl ?_
        refine GOps.caseB 77 rfl (fun hg6 => ?_) (fun hg6 => ?_)
        · try simp only [decide_eq_true_eq, decide_eq_false_iff_not, Bool.not_eq_true', Bool.not_eq_false'] at hg6
          refine GOps.skip rfl rfl rfl ?_
          refine GOps.skip rfl rfl rfl ?_
          refine R.pick_t ⟨rfl, rfl, rfl, rfl⟩ rfl rfl ?_
          refine R.pick_t ⟨rfl, rfl, rfl, rfl⟩ rfl rfl ?_
          refine R.move ⟨rfl, rfl, rfl, rfl⟩ rfl ?_
          refine R.move ⟨rfl, rfl, rfl, rfl⟩ rfl ?_
          refine R.eqI ⟨rfl, rfl, rfl, rfl⟩ rfl rfl ?_
          refine R.pick_t ⟨rfl, rfl, rfl, rfl⟩ rfl rfl ?_
          refine R.move ⟨rfl, rfl, rfl, rfl⟩ rfl ?_
          refine GOps.caseB 86 rfl (fun hg7 => ?_) (fun hg7 => ?_)
          · try simp only [decide_eq_true_eq, decide_eq_false_iff_not, Bool.not_eq_true', Bool.not_eq_false'] at hg7
            refine R.move ⟨rfl, rfl, rfl, rfl⟩ rfl ?_
            refine R.eqI ⟨rfl, rfl, rfl, rfl⟩ rfl rfl ?_
            refine R.pick_t ⟨rfl, rfl, rfl, rfl⟩ rfl rfl ?_
            refine R.move ⟨rfl, rfl, rfl, rfl⟩ rfl ?_
            refine GOps.caseB 90 rfl (fun hg8 => ?_) (fun hg8 => ?_)
            · try simp only [decide_eq_true_eq, decide_eq_false_iff_not, Bool.not_eq_true', Bool.not_eq_false'] at hg8
              refine R.call ⟨rfl, rfl, rfl, rfl⟩ rfl (vs := []) rfl ((law_known _ _).mono ?_)
              rintro _ _ ⟨rfl, rfl⟩
              refine R.pick_t ⟨rfl, rfl, rfl, rfl⟩ rfl rfl ?_
              refine R.assign ⟨rfl, rfl, rfl, rfl⟩ rfl ?_
              refine GOps.nil ?_
              refine GW.ret (Out.of (Res.one rfl rfl) (by first | exact Hs.refl _ | exact Hs.tl _ | exact Hs.sub (by repeat (first | exact List.Sublist.refl _ | apply List.Sublist.cons | refine List.Sublist.trans ?_ (List.sublist_append_right _ _)))) ⟨?_, rfl⟩)
              first | rfl | (exfalso; omega) | (exfalso; exact absurd trivial (by assumption)) | (exfalso; exact Bool.noConfusion (hE.symm.trans (show _ = false by assumption)))
            · try simp only [decide_eq_true_eq, decide_eq_false_iff_not, Bool.not_eq_true', Bool.not_eq_false'] at hg8
              refine GOps.skip rfl rfl rfl ?_
              refine R.pick_f ⟨rfl, rfl, rfl, rfl⟩ rfl rfl ?_
              refine R.assign ⟨rfl, rfl, rfl, rfl⟩ rfl ?_
              refine GOps.nil ?_
              refine GW.ret (Out.of (Res.one rfl rfl) (by first | exact Hs.refl _ | exact Hs.tl _ | exact Hs.sub (by repeat (first | exact List.Sublist.refl _ | apply List.Sublist.cons | refine List.Sublist.trans ?_ (List.sublist_append_right _ _)))) ⟨?_, rfl⟩)
              first | rfl | (exfalso; omega) | (exfalso; exact absurd trivial (by assumption)) | (exfalso; exact Bool.noConfusion (hE.symm.trans (show _ = false by assumption)))
          · try simp only [decide_eq_true_eq, decide_eq_false_iff_not, Bool.not_eq_true', Bool.not_eq_false'] at hg7
            refine GOps.skip rfl rfl rfl ?_
            refine GOps.skip rfl rfl rfl ?_
            refine R.pick_f ⟨rfl, rfl, rfl, rfl⟩ rfl rfl ?_
            refine R.move ⟨rfl, rfl, rfl, rfl⟩ rfl ?_
            refine GOps.skip rfl rfl rfl ?_
            refine R.pick_f ⟨rfl, rfl, rfl, rfl⟩ rfl rfl ?_
            refine R.assign ⟨rfl, rfl, rfl, rfl⟩ rfl ?_
            refine GOps.nil ?_
            refine GW.ret (Out.of (Res.one rfl rfl) (by first | exact Hs.refl _ | exact Hs.tl _ | exact Hs.sub (by repeat (first | exact List.Sublist.refl _ | apply List.Sublist.cons | refine List.Sublist.trans ?_ (List.sublist_append_right _ _)))) ⟨?_, rfl⟩)
            first | rfl | (exfalso; omega) | (exfalso; exact absurd trivial (by assumption)) | (exfalso; exact Bool.noConfusion (hE.symm.trans (show _ = false by assumption)))
        · try simp only [decide_eq_true_eq, decide_eq_false_iff_not, Bool.not_eq_true', Bool.not_eq_false'] at hg6
          refine R.move ⟨rfl, rfl, rfl, rfl⟩ rfl ?_
          refine R.eqI ⟨rfl, rfl, rfl, rfl⟩ rfl rfl ?_
          refine R.pick_f ⟨rfl, rfl, rfl, rfl⟩ rfl rfl ?_
          refine R.pick_t ⟨rfl, rfl, rfl, rfl⟩ rfl rfl ?_
          refine R.move ⟨rfl, rfl, rfl, rfl⟩ rfl ?_
          refine GOps.caseB 82 rfl (fun hg9 => ?_) (fun hg9 => ?_)
          · try simp only [decide_eq_true_eq, decide_eq_false_iff_not, Bool.not_eq_true', Bool.not_eq_false'] at hg9
            refine R.move ⟨rfl, rfl, rfl, rfl⟩ rfl ?_
            refine R.eqI ⟨rfl, rfl, rfl, rfl⟩ rfl rfl ?_
            refine R.pick_t ⟨rfl, rfl, rfl, rfl⟩ rfl rfl ?_
            refine R.move ⟨rfl, rfl, rfl, rfl⟩ rfl ?_
            refine GOps.caseB 86 rfl (fun hg10 => ?_) (fun hg10 => ?_)
            · try simp only [decide_eq_true_eq, decide_eq_false_iff_not, Bool.not_eq_true', Bool.not_eq_false'] at hg10
              refine R.move ⟨rfl, rfl, rfl, rfl⟩ rfl ?_
              refine R.eqI ⟨rfl, rfl, rfl, rfl⟩ rfl rfl ?_
              refine R.pick_t ⟨rfl, rfl, rfl, rfl⟩ rfl rfl ?_
              refine R.move ⟨rfl, rfl, rfl, rfl⟩ rfl ?_
              refine GOps.caseB 90 rfl (fun hg11 => ?_) (fun hg11 => ?_)
              · try simp only [decide_eq_true_eq, decide_eq_false_iff_not, Bool.not_eq_true', Bool.not_eq_false'] at hg11
                refine R.call ⟨rfl, rfl, rfl, rfl⟩ rfl (vs := []) rfl ((law_known _ _).mono ?_)
                rintro _ _ ⟨rfl, rfl⟩
                refine R.pick_t ⟨rfl, rfl, rfl, rfl⟩ rfl rfl ?_
                refine R.assign ⟨rfl, rfl, rfl, rfl⟩ rfl ?_
                refine GOps.nil ?_
                refine GW.ret (Out.of (Res.one rfl rfl) (by first | exact Hs.refl _ | exact Hs.tl _ | exact Hs.sub (by repeat (first | exact List.Sublist.refl _ | apply List.Sublist.cons | refine List.Sublist.trans ?_ (List.sublist_append_right _ _)))) ⟨?_, rfl⟩)
                first | rfl | (exfalso; omega) | (exfalso; exact absurd trivial (by assumption)) | (exfalso; exact Bool.noConfusion (hE.symm.trans (show _ = false by assumption)))
              · try simp only [decide_eq_true_eq, decide_eq_false_iff_not, Bool.not_eq_true', Bool.not_eq_false'] at hg11
                refine GOps.skip rfl rfl rfl ?_
                refine R.pick_f ⟨rfl, rfl, rfl, rfl⟩ rfl rfl ?_
                refine R.assign ⟨rfl, rfl, rfl, rfl⟩ rfl ?_
                refine GOps.nil ?_
                refine GW.ret (Out.of (Res.one rfl rfl) (by first | exact Hs.refl _ | exact Hs.tl _ | exact Hs.sub (by repeat (first | exact List.Sublist.refl _ | apply List.Sublist.cons | refine List.Sublist.trans ?_ (List.sublist_append_right _ _)))) ⟨?_, rfl⟩)
                first | rfl | (exfalso; omega) | (exfalso; exact absurd trivial (by assumption)) | (exfalso; exact Bool.noConfusion (hE.symm.trans (show _ = false by assumption)))
            · try simp only [decide_eq_true_eq, decide_eq_false_iff_not, Bool.not_eq_true', Bool.not_eq_false'] at hg10
              refine GOps.skip rfl rfl rfl ?_
              refine GOps.skip rfl rfl rfl ?_
              refine R.pick_f ⟨rfl, rfl, rfl, rfl⟩ rfl rfl ?_
              refine R.move ⟨rfl, rfl, rfl, rfl⟩ rfl ?_
              refine GOps.skip rfl rfl rfl ?_
              refine R.pick_f ⟨rfl, rfl, rfl, rfl⟩ rfl rfl ?_
              refine R.assign ⟨rfl, rfl, rfl, rfl⟩ rfl ?_
              refine GOps.nil ?_
              refine GW.ret (Out.of (Res.one rfl rfl) (by first | exact Hs.refl _ | exact Hs.tl _ | exact Hs.sub (by repeat (first | exact List.Sublist.refl _ | apply List.Sublist.cons | refine List.Sublist.trans ?_ (List.sublist_append_right _ _)))) ⟨?_, rfl⟩)
              first | rfl | (exfalso; omega) | (exfalso; exact absurd trivial (by assumption)) | (exfalso; exact Bool.noConfusion (hE.symm.trans (show _ = false by assumption)))
          · try simp only [decide_eq_true_eq, decide_eq_false_iff_not, Bool.not_eq_true', Bool.not_eq_false'] at hg9
            refine GOps.skip rfl rfl rfl ?_
            refine GOps.skip rfl rfl rfl ?_
            refine R.pick_f ⟨rfl, rfl, rfl, rfl⟩ rfl rfl ?_
            refine R.move ⟨rfl, rfl, rfl, rfl⟩ rfl ?_
            refine GOps.skip rfl rfl rfl ?_
            refine GOps.skip rfl rfl rfl ?_
            refine R.pick_f ⟨rfl, rfl, rfl, rfl⟩ rfl rfl ?_
            refine R.move ⟨rfl, rfl, rfl, rfl⟩ rfl ?_
            refine GOps.skip rfl rfl rfl ?_
            refine R.pick_f ⟨rfl, rfl, rfl, rfl⟩ rfl rfl ?_
            refine R.assign ⟨rfl, rfl, rfl, rfl⟩ rfl ?_
            refine GOps.nil ?_
            refine GW.ret (Out.of (Res.one rfl rfl) (by first | exact Hs.refl _ | exact Hs.tl _ | exact Hs.sub (by repeat (first | exact List.Sublist.refl _ | apply List.Sublist.cons | refine List.Sublist.trans ?_ (List.sublist_append_right _ _)))) ⟨?_, rfl⟩)
            first | rfl | (exfalso; omega) | (exfalso; exact absurd trivial (by assumption)) | (exfalso; exact Bool.noConfusion (hE.symm.trans (show _ = false by assumption)))
      · try simp only [decide_eq_true_eq, decide_eq_false_iff_not, Bool.not_eq_true', Bool.not_eq_false'] at hg5
        refine GOps.skip rfl rfl rfl ?_
        refine GOps.skip rfl rfl rfl ?_
        refine GOps.skip rfl rfl rfl ?_
        refine GOps.skip rfl rfl rfl ?_
        refine GOps.skip rfl rfl rfl ?_
        refine GOps.skip rfl rfl rfl ?_
        refine R.pick_f ⟨rfl, rfl, rfl, rfl⟩ rfl rfl ?_
        refine R.move ⟨rfl, rfl, rfl, rfl⟩ rfl ?_
        refine GOps.skip rfl rfl rfl ?_
        refine GOps.skip rfl rfl rfl ?_
        refine R.pick_f ⟨rfl, rfl, rfl, rfl⟩ rfl rfl ?_
        refine R.move ⟨rfl, rfl, rfl, rfl⟩ rfl ?_
        refine GOps.skip rfl rfl rfl ?_
        refine GOps.skip rfl rfl rfl ?_
        refine R.pick_f ⟨rfl, rfl, rfl, rfl⟩ rfl rfl ?_
        refine R.move ⟨rfl, rfl, rfl, rfl⟩ rfl ?_
        refine GOps.skip rfl rfl rfl ?_
        refine R.pick_f ⟨rfl, rfl, rfl, rfl⟩ rfl rfl ?_
        refine R.assign ⟨rfl, rfl, rfl, rfl⟩ rfl ?_
        refine GOps.nil ?_
        refine GW.ret (Out.of (Res.one rfl rfl) (by first | exact Hs.refl _ | exact Hs.tl _ | exact Hs.sub (by repeat (first | exact List.Sublist.refl _ | apply List.Sublist.cons | refine List.Sublist.trans ?_ (List.sublist_append_right _ _)))) ⟨?_, rfl⟩)
        first | rfl | (exfalso; omega) | (exfalso; exact absurd trivial (by assumption)) | (exfalso; exact Bool.noConfusion (hE.symm.trans (show _ = false by assumption)))
end Go.Proofs.YtfddkcmooommeaaGreatDoor.Gl
end
section
namespace Go.Proofs.YtfddkcmooommeaaGreatDoor.Gl
open Go.ChangeShapes Go.WideShapes Go.ChangeAt Go.RowKit Go.Lib
set_option linter.unusedVariables false
set_option linter.unnecessarySimpa false
set_option linter.unusedSimpArgs false
set_option maxRecDepth 100000 in
theorem contract_Full (H : Type) (enc : TypeId × Value → H) (W : World) (base : Nat) (args : Array Value) (ds gs : List (DataW H)) (before : List MemPlace)
    (hval : ∀ (j : Nat) t v, Tryz.f6.params[j]? = some t → args[j]? = some v → Value.okWide Tryz.prog W .any base t v)
    (hW : DataW.Whole enc Tryz.prog Tryz.f6.params.toList Rows.planFullSpec.vars false W args.toList ds gs before) (hk : Rows.uptoSmall H (ds ++ gs) = true) :
    Calls Tryz.prog 6 args W fun e W' => ∃ v, e = .returned v ∧ Rows.planFullSpec.post enc Tryz.prog Tryz.f6 false true false false W args v W' := by
  have hW' := hW
  obtain ⟨p, q, hA0, hV, rfl, hfz, hnd⟩ := hW
  have hA : DataW.TrodAll enc Tryz.prog W 0 (fun _ => true) true Tryz.f6.params.toList args.toList ds p := hA0
  rw [Tryz.params6] at hA hval
  obtain ⟨v0, v1, d0, d1, p0, p1, rfl, rfl, rfl, h0, g1⟩ := trodAll_two hA
  obtain ⟨i, rfl, rfl, rfl, wi⟩ := open_int Tryz.underlying3 (hval 1 3 v1 (by simp) (by simp)) g1
  obtain ⟨rfl, rfl⟩ := trodVars_none hV
  have hkb := of_decide_eq_true hk
  simp only [List.append_nil, Rows.uptoBulkAll] at hkb
  have h0' := h0
  obtain ⟨fuel, h0'⟩ := h0'
  obtain ⟨r, ⟨bA, bc, e, h1, h2, hl⟩, hok, hbl⟩ := trod_Rl (x := (d0, p0)) (by simp only; omega) h0'
  obtain ⟨cs, rfl, _⟩ := okWide_struct Tryz.underlying31 (hval 0 31 v0 (by simp) (by simp))
  rw [agg_of e] at h0 hW' ⊢
  clear hA0
  simp only [List.append_nil] at hW'
  have walk := calls_of_GC (law_Full W [] r bA bc i hl hbl hok)
  refine walk.mono fun e W' ⟨v, G', he, hs, hv, _⟩ => ?_
  subst hv
  have hlt : ∀ x ∈ p0, x.block < W.heap.size := fun x hx => by simpa using hW'.lt x hx
  refine ⟨_, he, post_of_same (pa := p0) (pv := []) hW' (fun _ _ _ => trodAll_cons_mk (shut_bool Tryz.underlying4 _) trodAll_mk0) (fun sp hsp => ?_) (fun _ _ => rfl) (by simp) (hs.below.frame _) (frozen_same hs) (ok_one (by kernel_rfl) rfl (okWide_bool_mk Tryz.underlying4 _))⟩
  rw [Tryz.params6]
  have h4 := trodAll_mk2 (WideElems.Trod_stays laidOut (by kernel_rfl) (of_decide_eq_true (by kernel_rfl)) h0 (fun x hx => hs.below.same (hlt x hx)) (fun x hx => hsp x hx)) (shut_int (enc := enc) (w := W') (base := 0) (spare := sp) (held := true) Tryz.underlying3 wi)
  simp only [List.append_nil] at h4
  exact h4
theorem reads_Full (os : Os) {H : Type} (enc : TypeId × Value → H) : ∃ places, DataW.whole enc Tryz.prog ((laidWorld os).forCall (fun _ _ => 0) ⟨#[], #[noRule, .int .i64 0], []⟩).memory Tryz.f6.params.toList Rows.planFullSpec.vars false #[noRule, .int .i64 0].toList 8 = some ([noRuleD, .lit (.int .i64 0)], [], places) :=
  ⟨[], by kernel_rfl⟩
set_option maxRecDepth 100000 in
theorem lifted_Full (os : Os) (started : os.Started) (H : Type) (enc : TypeId × Value → H) (F : Stop.Interp) :
    ReturnsInHanded {} Tryz.checked os 6 .any ((Rows.OpenSpec.upto Rows.planFullSpec).preRow enc Tryz.prog Tryz.f6 Rows.planFullUptoRow.domain false Rows.planFullUptoRow.laid) (((Rows.OpenSpec.upto Rows.planFullSpec).at F).post enc Tryz.prog Tryz.f6 false true false false) := by
  obtain ⟨places, hx⟩ := reads_Full os enc
  refine returnsInHanded_of_row (C := Tryz.checked) (s := Rows.OpenSpec.upto Rows.planFullSpec) ownK started (by kernel_rfl) Tryz.func6
    (witness_row_at (enc := enc) (C := Tryz.checked) false (laidWorld os) #[noRule, .int .i64 0] rfl (by kernel_rfl) (by kernel_rfl) (by kernel_rfl)
      (OpenSpec.preRow_of_cond 8 hx (by kernel_rfl) (fun k hk => by cases hk; kernel_rfl) (by kernel_rfl) (laid_met os _))) ?_
  intro W base args ds gs before hval hW _ hcond _ hL _ _
  first
    | exact contract_Full H enc W base args ds gs before hval hW (hcond _ rfl)
    | exact contract_Full H enc W base args ds gs before hval hW (by assumption)
set_option maxRecDepth 100000 in
theorem saidUpto_Full : Rows.PlanFullUptoSaid :=
  OpenClaim.holds_of_cond 6 Tryz.f6 rfl rfl rfl rfl rfl rfl rfl ⟨rfl, rfl, rfl, rfl, rfl⟩ rfl rfl rfl rfl rfl (by kernel_rfl) Tryz.func6 (by kernel_rfl)
    (of_decide_eq_true (by kernel_rfl)) (by unfold Func.isWrapper; first | (rw [if_pos (by decide +kernel)]; kernel_rfl) | (rw [if_neg (by decide +kernel)]; exact ⟨rfl, rfl⟩))
    (fun os started H enc _ F => by rw [OpenClaim.pre_eq_preRow]; exact lifted_Full os started H enc F)
theorem plain_Full (f : FuncId) (fn : Func) (hf : Tryz.pinned.checked.prog.funcNamed "rhizome/rhizomelaw13.PlanFull" = some f) (hfn : Tryz.pinned.checked.prog.funcs[f]? = some fn) :
    false = Tryz.pinned.checked.prog.looks [] ∧ ∀ (j : Nat) t, fn.params[j]? = some t → Tryz.pinned.checked.prog.wantsStandIn t = false := by
  obtain rfl : f = 6 := Option.some.inj ((show Tryz.prog.funcNamed "rhizome/rhizomelaw13.PlanFull" = some 6 by kernel_rfl).symm.trans hf) |>.symm
  obtain rfl : fn = Tryz.f6 := (Option.some.inj (Tryz.func6.symm.trans hfn)).symm
  refine ⟨by kernel_rfl, fun j t ht => ?_⟩
  rw [Tryz.params6] at ht
  have h22 : t = 31 ∨ t = 3 := by simpa using Array.mem_of_getElem? ht
  rcases h22 with rfl | rfl
  · exact (show Tryz.prog.wantsStandIn 31 = false by kernel_rfl)
  · exact (show Tryz.prog.wantsStandIn 3 = false by kernel_rfl)
set_option maxRecDepth 100000 in
theorem cardUpto_Full : Rows.PlanFullUptoCardSaid :=
  Claim7.holds_tied_plain_at .later [] _ _ _ _ saidUpto_Full (fun _ h => by cases h) (by kernel_rfl) (fun _ h => by cases h) planFullUpto_row_tie rfl ⟨rfl, rfl⟩ (by kernel_rfl) rfl plain_Full (by kernel_rfl)
end Go.Proofs.YtfddkcmooommeaaGreatDoor.Gl
end
