/- Part 5 of the proof: Z3 Z4 Z5 Tl Ta Z7 T1 T2 Q2 Q3 Q4 Q5. -/
import Derived.Test.YtfddkcmooommeaaGreatDoorMX4
import Derived.Shelf.Sort.Plain
import Derived.Test.YtfddkcmooommeaaGreatDoorProg
import Derived.Sort.OwnSortedInts
section
namespace Go.Proofs.YtfddkcmooommeaaGreatDoor.Gl
open Go.RowKit Go.Shelf
set_option linter.unusedVariables false
set_option linter.unnecessarySimpa false
set_option linter.unusedSimpArgs false
attribute [-simp] List.getD_eq_getElem?_getD
def ltsC (xs : List Lt) : List Value := xs.flatMap LtC
theorem lt_len (l : Lt) : (LtC l).length = 21 := rfl
theorem lts_snoc {xs : List Lt} {x : Lt} {v : Value} {H : Hp} (h : SlAt 21 89 (ltsC xs ++ LtC x) (xs.length + 1) v H) : SlAt 21 89 (ltsC (xs ++ [x])) (xs ++ [x]).length v H := by
 unfold ltsC at h ⊢
 rw [List.flatMap_append, List.length_append]
 simpa using h
theorem SlAt.lts {xs : List Lt} {v : Value} {H : Hp} (h : SlAt 21 89 (ltsC xs) xs.length v H) (w0 : World) : ∃ A c, v = .slice A xs.length c ∧ LtsAt w0 H A xs ∧ xs.length ≤ c := by
 obtain ⟨A, c, h1, h2, h3⟩ := SlAt.flat w0 [] lt_len h
 rw [List.append_nil] at h2
 exact ⟨A, c, h1, h2, h3⟩
theorem LtsAt.mono' {w0 : World} {G G' : Hp} {A : Option Addr} {xs : List Lt} (h : LtsAt w0 G A xs) (hs : ∀ y ∈ G, y ∈ G') : LtsAt w0 G' A xs := fun i x hx => by obtain ⟨b, o, cs, h1, h2, h3⟩ := h i x hx; exact ⟨b, o, cs, h1, h2, h3.mono hs⟩
def fT (p : Lt → Bool) (xs : List Lt) (i : Nat) : List Lt := (xs.take i).filter p
theorem fT_yes {p : Lt → Bool} {xs : List Lt} {i : Nat} {x : Lt} (h : xs[i]? = some x) (hp : p x = true) : fT p xs (i + 1) = fT p xs i ++ [x] := by
 unfold fT
 rw [List.take_add_one, h, List.filter_append]
 simp [hp]
theorem fT_no {p : Lt → Bool} {xs : List Lt} {i : Nat} {x : Lt} (h : xs[i]? = some x) (hp : p x = false) : fT p xs (i + 1) = fT p xs i := by
 unfold fT
 rw [List.take_add_one, h, List.filter_append]
 simp [hp]
theorem fT_all {p : Lt → Bool} {xs : List Lt} {i : Nat} (h : xs.length ≤ i) : fT p xs i = xs.filter p := by unfold fT; rw [List.take_of_length_le h]
theorem fT_zero (p : Lt → Bool) (xs : List Lt) : fT p xs 0 = [] := rfl
theorem fT_le (p : Lt → Bool) (xs : List Lt) (i : Nat) : (fT p xs i).length ≤ i := by
 have h := List.length_filter_le p (xs.take i)
 rw [List.length_take] at h
 unfold fT
 omega
def isMt (l : Lt) : Bool := decide (l.kind = 1)
def isCt (l : Lt) : Bool := decide (l.kind = 3) || decide (l.kind = 4)
def isNt (l : Lt) : Bool := decide (l.kind = 2)
def waitL (body : List Lt) : List Lt := body.filter isCt ++ body.filter isNt
theorem wait_len (body : List Lt) : (waitL body).length ≤ 2 * body.length := by
 have h1 := List.length_filter_le isCt body
 have h2 := List.length_filter_le isNt body
 unfold waitL
 rw [List.length_append]
 omega
def cntZ (order : List Int) (k : Nat) : Nat := order.countP (fun z => decide (z = (k : Int)))
def oneZ (order : List Int) (k : Nat) : Bool := decide ((cntZ order k : Int) = 1)
def goodF (n : Nat) (order : List Int) : Bool := decide ((order.length : Int) = (n : Int)) && (List.range n).all (oneZ order)
def goodTo (n : Nat) (order : List Int) (i : Nat) : Bool := decide ((order.length : Int) = (n : Int)) && (List.range i).all (oneZ order)
theorem goodTo_succ {n i : Nat} {order : List Int} (h : goodTo n order i = true) : goodTo n order (i + 1) = oneZ order i := by
 unfold goodTo at h ⊢
 rw [Bool.and_eq_true] at h
 rw [List.range_succ, List.all_append, h.1, h.2]
 simp
theorem goodTo_end {n i : Nat} {order : List Int} (h : goodTo n order i = false) (hi : i ≤ n) : goodF n order = false := by
 unfold goodTo at h
 unfold goodF
 rw [Bool.and_eq_false_iff] at h ⊢
 rcases h with h | h
 ·exact .inl h
 ·refine .inr ?_
  rw [List.all_eq_false] at h ⊢
  obtain ⟨k, hk, h2⟩ := h
  exact ⟨k, List.mem_range.2 (by have := List.mem_range.1 hk; omega), h2⟩
theorem cnt_succ {order : List Int} {j : Nat} {z : Int} (k : Nat) (h : order[j]? = some z) : (order.take (j + 1)).countP (fun z => decide (z = (k : Int))) = (order.take j).countP (fun z => decide (z = (k : Int))) + if z = (k : Int) then 1 else 0 := by
 rw [List.take_add_one, h, List.countP_append]
 simp [List.countP_cons]
theorem cnt_le (order : List Int) (j k : Nat) : (order.take j).countP (fun z => decide (z = (k : Int))) ≤ j := by
 have := List.countP_le_length (p := fun z => decide (z = (k : Int))) (l := order.take j)
 rw [List.length_take] at this
 omega
theorem cover (l : List Int) : ∀ n : Nat, (∀ k : Nat, k < n → (k : Int) ∈ l) → ∃ l', l.Perm ((List.range n).map (fun k : Nat => (k : Int)) ++ l')
 | 0, _ => ⟨l, by simp⟩
 | n + 1, h => by
  obtain ⟨l', hl⟩ := cover l n (fun k hk => h k (by omega))
  have hn : (n : Int) ∈ l' := by
   rcases List.mem_append.1 (hl.mem_iff.1 (h n (by omega))) with h1 | h1
   ·obtain ⟨k, hk, e⟩ := List.mem_map.1 h1
    have := List.mem_range.1 hk
    omega
   ·exact h1
  refine ⟨l'.erase (n : Int), hl.trans ?_⟩
  rw [List.range_succ, List.map_append, List.append_assoc]
  exact List.Perm.append_left _ (List.perm_cons_erase hn)
theorem good_perm {n : Nat} {order : List Int} (h : goodF n order = true) : order.Perm ((List.range n).map (fun k : Nat => (k : Int))) := by
 unfold goodF at h
 rw [Bool.and_eq_true, decide_eq_true_eq, List.all_eq_true] at h
 obtain ⟨h1, h2⟩ := h
 obtain ⟨l', hl⟩ := cover order n (fun k hk => by
  have h3 := h2 k (List.mem_range.2 hk)
  unfold oneZ cntZ at h3
  rw [decide_eq_true_eq] at h3
  obtain ⟨z, hz, e⟩ := List.countP_pos_iff.1 (show 0 < order.countP (fun z => decide (z = (k : Int))) by omega)
  rw [decide_eq_true_eq] at e
  exact e ▸ hz)
 have h4 := hl.length_eq
 rw [List.length_append, List.length_map, List.length_range] at h4
 have h5 : l' = [] := List.length_eq_zero_iff.1 (by omega)
 rw [h5, List.append_nil] at hl
 exact hl
theorem good_range {n : Nat} {order : List Int} (h : goodF n order = true) : order.length = n ∧ ∀ z ∈ order, 0 ≤ z ∧ z < n := by
 have hp := good_perm h
 refine ⟨by rw [hp.length_eq]; simp, fun z hz => ?_⟩
 obtain ⟨k, hk, rfl⟩ := List.mem_map.1 (hp.mem_iff.1 hz)
 have := List.mem_range.1 hk
 omega
structure PS where
 tk : List Lt
 wt : List Lt
 out : List Lt
def zLt : Lt := ⟨0, zPt, zSl, zSl⟩
def mAt (ms : List Lt) (good : Bool) (order : List Int) (p : Nat) : Lt := if good = true then ms.getD (order.getD p 0).toNat zLt else ms.getD p zLt
def flushW (q : PS) : PS := ⟨q.tk, q.wt.filter (fun l => !readyW q.tk l), q.out ++ q.wt.filter (readyW q.tk)⟩
def preW (ms : List Lt) (good : Bool) (order : List Int) (q : PS) : Nat → PS
 | 0 => q
 | p + 1 => ⟨q.tk ++ [mAt ms good order p], q.wt, q.out ++ [mAt ms good order p]⟩
def stW (ms : List Lt) (good : Bool) (order : List Int) (q : PS) : Nat → PS
 | 0 => q
 | i + 1 => flushW (preW ms good order (stW ms good order q i) i)
def partsW (body : List Lt) (order : List Int) : List Lt := (stW (body.filter isMt) (goodF (body.filter isMt).length order) order ⟨[], waitL body, []⟩ ((body.filter isMt).length + 1)).out
theorem pre_wt (ms : List Lt) (good : Bool) (order : List Int) (q : PS) (i : Nat) : (preW ms good order q i).wt = q.wt := by cases i <;> rfl
theorem filter_two (p : Lt → Bool) (l : List Lt) : (l.filter p).length + (l.filter (fun x => !p x)).length = l.length := by
 induction l with
 | nil => rfl
 | cons x l ih =>
  cases h : p x <;> simp [h] <;> omega
theorem st_len (ms : List Lt) (good : Bool) (order : List Int) (q : PS) (h0 : q.tk = []) : ∀ i : Nat, (stW ms good order q i).tk.length ≤ i ∧ (stW ms good order q i).wt.length + (stW ms good order q i).out.length ≤ q.wt.length + q.out.length + i
 | 0 => by simp [stW, h0]
 | i + 1 => by
  obtain ⟨h1, h2⟩ := st_len ms good order q h0 i
  have h4 := filter_two (readyW (preW ms good order (stW ms good order q i) i).tk) (stW ms good order q i).wt
  have h5 : (preW ms good order (stW ms good order q i) i).tk.length ≤ (stW ms good order q i).tk.length + 1 := by cases i <;> simp [preW]
  have h6 : (preW ms good order (stW ms good order q i) i).out.length ≤ (stW ms good order q i).out.length + 1 := by cases i <;> simp [preW]
  refine ⟨?_, ?_⟩
  ·show (preW ms good order (stW ms good order q i) i).tk.length ≤ i + 1
   omega
  ·show ((preW ms good order (stW ms good order q i) i).wt.filter _).length + ((preW ms good order (stW ms good order q i) i).out ++ (preW ms good order (stW ms good order q i) i).wt.filter _).length ≤ _
   rw [pre_wt, List.length_append]
   omega
theorem Hs.un2 (X A B : Hp) : Hs ((X ++ A) ++ B) (X ++ (A ++ B)) := Hs.eq (List.append_assoc _ _ _)
theorem as2 (X A B : Hp) : X ++ (A ++ B) = (X ++ A) ++ B := (List.append_assoc _ _ _).symm
theorem Hs.left (F O T W R : Hp) : Hs (F ++ (O ++ (T ++ (W ++ R)))) (O ++ (T ++ (F ++ R))) := (Hs.sub ((((List.sublist_append_right W R).append_left T).append_left O).append_left F)).trans (Hs.perm (by
 rw [← List.append_assoc O T R, ← List.append_assoc O T (F ++ R), ← List.append_assoc F, ← List.append_assoc (O ++ T)]
 exact List.Perm.append_right _ List.perm_append_comm))
theorem ref_Parts (w0 : World) (G : Hp) (bA : Option Addr) (body : List Lt) (bc : Nat) (hl : LtsAt w0 G bA body) (hbl : body.length ≤ 1000) (oA : Option Addr) (order : List Int) (oc : Nat) (ho : IntsAt w0 G oA order) (hol : order.length ≤ 1000) : GC Tryz.prog w0 40 #[.slice bA body.length bc, .slice oA order.length oc] (fun v G' => ∃ H, SlAt 21 89 (ltsC (partsW body order)) (partsW body order).length v H ∧ H ++ G = G') G := by
 have hml := List.length_filter_le isMt body
 have hcl := List.length_filter_le isCt body
 have hwl := wait_len body
 refine GC.body (args := [.slice bA body.length bc, .slice oA order.length oc]) Tryz.func40 rfl (by kernel_rfl) rfl ?_
 refine GW.seq ?_
 refine GW.region ?_
 refine R.assign ⟨Z,Z,Z,Z⟩ Z ?_
 refine GOps.nil ?_
 refine GW.seq ?_
 refine GW.region ?_
 refine R.assign ⟨Z,Z,Z,Z⟩ Z ?_
 refine R.assign ⟨Z,Z,Z,Z⟩ Z ?_
 refine R.assign ⟨Z,Z,Z,Z⟩ Z ?_
 refine R.assign ⟨Z,Z,Z,Z⟩ Z ?_
 refine GOps.nil ?_
 refine GW.seq ?_
 refine GW.seq ?_
 refine GW.region ?_
 refine R.assign ⟨Z,Z,Z,Z⟩ Z ?_
 refine GOps.nil ?_
 refine GW.block ?_
 refine GW.loop4 (fun (i : Nat) (vm : Value) (Hm : Hp) (u1 : Unit) => [(0, .slice bA body.length bc), (1, .slice oA order.length oc), (5, vm), (6, .slice none 0 0), (7, .slice none 0 0), (8, .slice none 0 0), (9, .int .i64 i)]) (fun (i : Nat) (vm : Value) (Hm : Hp) (u1 : Unit) => Hm ++ G) (fun i : Nat => body.length - i) (fun (i : Nat) (vm : Value) (Hm : Hp) (u1 : Unit) => i ≤ body.length ∧ SlAt 21 89 (ltsC ((fT isMt body i))) ((fT isMt body i)).length vm Hm) 0 (.slice none 0 0) ([]) (())
  (keepG) (Hs.refl _) (⟨Nat.zero_le _, .nil rfl rfl⟩) ?_
 rintro i vm Hm u1 ⟨hi, hM⟩
 have hfl := fT_le isMt body i
 refine GW.seq ?_
 refine GW.seq ?_
 refine GW.region ?_
 refine R.move ⟨Z,Z,Z,Z⟩ Z ?_
 refine R.move ⟨Z,Z,Z,Z⟩ Z ?_
 refine R.lenS ⟨Z,Z,Z,Z⟩ Z Z Tryz.underlying29 ?_
 refine R.lss ⟨Z,Z,Z,Z⟩ Z Z ?_
 refine GOps.nil ?_
 refine GW.ite Z (fun hc1 => ?_) (fun hc1 => ?_)
 ·try simp only [dcQ] at hc1
  obtain ⟨x, hx⟩ : ∃ x, body[i]? = some x := ⟨_, List.getElem?_eq_getElem (by omega)⟩
  obtain ⟨xb, xo, cs0, rfl, rfl, hrd⟩ := hl i x hx
  refine GW.skip ?_
  refine GW.seq ?_
  refine GW.block ?_
  refine GW.seq ?_
  refine GW.region ?_
  refine R.move ⟨Z,Z,Z,Z⟩ Z ?_
  refine R.move ⟨Z,Z,Z,Z⟩ Z ?_
  refine R.indexAddrS ⟨Z,Z,Z,Z⟩ Z Z Tryz.underlying29 Tryz.sizeOf89 (by omega) (by omega) ?_
  refine R.fieldAddr ⟨Z,Z,Z,Z⟩ Z Tryz.underlying89 Z Tryz.sizeOf87 ?_
  refine R.load1 ⟨Z,Z,Z,Z⟩ Z Tryz.underlying87 Z ((hrd 0 _ Z).mono (fun y hy => by repeat (first | exact hy | apply List.mem_cons_of_mem | apply List.mem_append_right))) ?_
  refine R.eqI ⟨Z,Z,Z,Z⟩ Z Z ?_
  refine GOps.nil ?_
  refine GW.ite Z (fun hc2 => ?_) (fun hc2 => ?_)
  ·try simp only [dcQ] at hc2
   refine GW.region ?_
   refine R.move ⟨Z,Z,Z,Z⟩ Z ?_
   refine R.move ⟨Z,Z,Z,Z⟩ Z ?_
   refine R.move ⟨Z,Z,Z,Z⟩ Z ?_
   refine R.indexAddrS ⟨Z,Z,Z,Z⟩ Z Z Tryz.underlying29 Tryz.sizeOf89 (by omega) (by omega) ?_
   refine R.loadA ⟨Z,Z,Z,Z⟩ Z Tryz.underlying89 Z Tryz.sizeOf89 (hrd.mono (fun y hy => by repeat (first | exact hy | apply List.mem_cons_of_mem | apply List.mem_append_right))) (by rfl) ?_
   refine R.buildSliceF (sz := 21) (bytes := 288) (vs := [_]) (cs := LtC x) ⟨Z,Z,Z,Z⟩ Z Tryz.underlying29 (InfoE.mk (by kernel_rfl)) Z Z Z Z Z fun b37 => ?_
   refine R.append (sz := 21) (bytes := 288) (G1 := [_]) (H := Hm) (news := LtC x) ⟨Z,Z,Z,Z⟩ Z Z Z Tryz.underlying29 (InfoE.mk (by kernel_rfl)) (hM) (Z) (Z) (.own memH 0 _ (fun j v hv => by simpa using hv)) (by omega) (by rfl) (by omega) (by omega) fun v38 H38 hv38 => ?_
   obtain ⟨A38, c38, rfl, hc38⟩ := hv38.split
   refine R.assign ⟨Z,Z,Z,Z⟩ Z ?_
   refine GOps.nil ?_
   refine GW.region ?_
   refine R.move ⟨Z,Z,Z,Z⟩ Z ?_
   refine R.add (r := (((i + 1) : Nat) : Int)) ⟨Z,Z,Z,Z⟩ Z Z (by rw [wrap64_id (by omega) (by omega)]; omega) ?_
   refine R.assign ⟨Z,Z,Z,Z⟩ Z ?_
   refine GOps.nil ?_
   first | exact ⟨i + 1, .slice A38 _ c38, H38, (), by omega, ⟨by omega, by rw [fT_yes hx (by unfold isMt; exact decide_eq_true (by omega))]; exact lts_snoc hv38⟩, rfl, keepG, Hs.tl _⟩ | exact ⟨i + 1, vm, Hm, (), by omega, ⟨by omega, by rw [fT_no hx (by unfold isMt; exact decide_eq_false (by omega))]; exact hM⟩, rfl, keepG, Hs.refl _⟩
  ·try simp only [dcQ] at hc2
   refine GW.skip ?_
   refine GW.region ?_
   refine R.move ⟨Z,Z,Z,Z⟩ Z ?_
   refine R.add (r := (((i + 1) : Nat) : Int)) ⟨Z,Z,Z,Z⟩ Z Z (by rw [wrap64_id (by omega) (by omega)]; omega) ?_
   refine R.assign ⟨Z,Z,Z,Z⟩ Z ?_
   refine GOps.nil ?_
   first | exact ⟨i + 1, .slice A38 _ c38, H38, (), by omega, ⟨by omega, by rw [fT_yes hx (by unfold isMt; exact decide_eq_true (by omega))]; exact lts_snoc hv38⟩, rfl, keepG, Hs.tl _⟩ | exact ⟨i + 1, vm, Hm, (), by omega, ⟨by omega, by rw [fT_no hx (by unfold isMt; exact decide_eq_false (by omega))]; exact hM⟩, rfl, keepG, Hs.refl _⟩
 ·try simp only [dcQ] at hc1
  obtain rfl : i = body.length := by omega
  rw [fT_all (Nat.le_refl _)] at hM
  obtain ⟨Am, cm, rfl, hMt, hcm⟩ := hM.lts w0
  refine GW.exit ?_
  refine GW.seq ?_
  refine GW.seq ?_
  refine GW.region ?_
  refine R.assign ⟨Z,Z,Z,Z⟩ Z ?_
  refine GOps.nil ?_
  refine GW.block ?_
  refine GW.loop4 (fun (i : Nat) (vw : Value) (Hw : Hp) (u1 : Unit) => [(0, .slice bA body.length bc), (1, .slice oA order.length oc), (5, .slice Am (body.filter isMt).length cm), (6, vw), (7, .slice none 0 0), (8, .slice none 0 0), (10, .int .i64 i)]) (fun (i : Nat) (vw : Value) (Hw : Hp) (u1 : Unit) => Hw ++ (Hm ++ G)) (fun i : Nat => body.length - i) (fun (i : Nat) (vw : Value) (Hw : Hp) (u1 : Unit) => i ≤ body.length ∧ SlAt 21 89 (ltsC ((fT isCt body i))) ((fT isCt body i)).length vw Hw) 0 (.slice none 0 0) ([]) (())
   (keepG) (Hs.refl _) (⟨Nat.zero_le _, .nil rfl rfl⟩) ?_
  rintro i vw Hw u1 ⟨hi, hW⟩
  have hfl := fT_le isCt body i
  refine GW.seq ?_
  refine GW.seq ?_
  refine GW.region ?_
  refine R.move ⟨Z,Z,Z,Z⟩ Z ?_
  refine R.move ⟨Z,Z,Z,Z⟩ Z ?_
  refine R.lenS ⟨Z,Z,Z,Z⟩ Z Z Tryz.underlying29 ?_
  refine R.lss ⟨Z,Z,Z,Z⟩ Z Z ?_
  refine GOps.nil ?_
  refine GW.ite Z (fun hc3 => ?_) (fun hc3 => ?_)
  ·try simp only [dcQ] at hc3
   obtain ⟨x, hx⟩ : ∃ x, body[i]? = some x := ⟨_, List.getElem?_eq_getElem (by omega)⟩
   obtain ⟨xb, xo, cs0, rfl, rfl, hrd⟩ := hl i x hx
   refine GW.skip ?_
   refine GW.seq ?_
   refine GW.block ?_
   refine GW.seq ?_
   refine GW.region ?_
   refine R.move ⟨Z,Z,Z,Z⟩ Z ?_
   refine R.move ⟨Z,Z,Z,Z⟩ Z ?_
   refine R.indexAddrS ⟨Z,Z,Z,Z⟩ Z Z Tryz.underlying29 Tryz.sizeOf89 (by omega) (by omega) ?_
   refine R.fieldAddr ⟨Z,Z,Z,Z⟩ Z Tryz.underlying89 Z Tryz.sizeOf87 ?_
   refine R.load1 ⟨Z,Z,Z,Z⟩ Z Tryz.underlying87 Z ((hrd 0 _ Z).mono (fun y hy => by repeat (first | exact hy | apply List.mem_cons_of_mem | apply List.mem_append_right))) ?_
   refine R.eqI ⟨Z,Z,Z,Z⟩ Z Z ?_
   refine R.move ⟨Z,Z,Z,Z⟩ Z ?_
   refine GOps.caseB 51 Z (fun hg4 => ?_) (fun hg4 => ?_)
   ·try simp only [dcQ] at hg4
    refine GOps.skip Z Z Z ?_
    refine GOps.skip Z Z Z ?_
    refine GOps.skip Z Z Z ?_
    refine GOps.skip Z Z Z ?_
    refine GOps.skip Z Z Z ?_
    refine GOps.skip Z Z Z ?_
    refine R.pick_t ⟨Z,Z,Z,Z⟩ Z Z ?_
    refine GOps.nil ?_
    refine GW.cond_t Z ?_
    refine GW.region ?_
    refine R.move ⟨Z,Z,Z,Z⟩ Z ?_
    refine R.move ⟨Z,Z,Z,Z⟩ Z ?_
    refine R.move ⟨Z,Z,Z,Z⟩ Z ?_
    refine R.indexAddrS ⟨Z,Z,Z,Z⟩ Z Z Tryz.underlying29 Tryz.sizeOf89 (by omega) (by omega) ?_
    refine R.loadA ⟨Z,Z,Z,Z⟩ Z Tryz.underlying89 Z Tryz.sizeOf89 (hrd.mono (fun y hy => by repeat (first | exact hy | apply List.mem_cons_of_mem | apply List.mem_append_right))) (by rfl) ?_
    refine R.buildSliceF (sz := 21) (bytes := 288) (vs := [_]) (cs := LtC x) ⟨Z,Z,Z,Z⟩ Z Tryz.underlying29 (InfoE.mk (by kernel_rfl)) Z Z Z Z Z fun b64 => ?_
    refine R.append (sz := 21) (bytes := 288) (G1 := [_]) (H := Hw) (news := LtC x) ⟨Z,Z,Z,Z⟩ Z Z Z Tryz.underlying29 (InfoE.mk (by kernel_rfl)) (hW) (Z) (Z) (.own memH 0 _ (fun j v hv => by simpa using hv)) (by omega) (by rfl) (by omega) (by omega) fun v65 H65 hv65 => ?_
    obtain ⟨A65, c65, rfl, hc65⟩ := hv65.split
    refine R.assign ⟨Z,Z,Z,Z⟩ Z ?_
    refine GOps.nil ?_
    refine GW.region ?_
    refine R.move ⟨Z,Z,Z,Z⟩ Z ?_
    refine R.add (r := (((i + 1) : Nat) : Int)) ⟨Z,Z,Z,Z⟩ Z Z (by rw [wrap64_id (by omega) (by omega)]; omega) ?_
    refine R.assign ⟨Z,Z,Z,Z⟩ Z ?_
    refine GOps.nil ?_
    first | exact ⟨i + 1, .slice A65 _ c65, H65, (), by omega, ⟨by omega, by rw [fT_yes hx (by unfold isCt; rw [Bool.or_eq_true, decide_eq_true_eq, decide_eq_true_eq]; omega)]; exact lts_snoc hv65⟩, rfl, keepG, Hs.tl _⟩ | exact ⟨i + 1, vw, Hw, (), by omega, ⟨by omega, by rw [fT_no hx (by unfold isCt; rw [Bool.or_eq_false_iff, decide_eq_false_iff_not, decide_eq_false_iff_not]; omega)]; exact hW⟩, rfl, keepG, Hs.refl _⟩
   ·try simp only [dcQ] at hg4
    refine R.move ⟨Z,Z,Z,Z⟩ Z ?_
    refine R.move ⟨Z,Z,Z,Z⟩ Z ?_
    refine R.indexAddrS ⟨Z,Z,Z,Z⟩ Z Z Tryz.underlying29 Tryz.sizeOf89 (by omega) (by omega) ?_
    refine R.fieldAddr ⟨Z,Z,Z,Z⟩ Z Tryz.underlying89 Z Tryz.sizeOf87 ?_
    refine R.load1 ⟨Z,Z,Z,Z⟩ Z Tryz.underlying87 Z ((hrd 0 _ Z).mono (fun y hy => by repeat (first | exact hy | apply List.mem_cons_of_mem | apply List.mem_append_right))) ?_
    refine R.eqI ⟨Z,Z,Z,Z⟩ Z Z ?_
    refine R.pick_f ⟨Z,Z,Z,Z⟩ Z Z ?_
    refine GOps.nil ?_
    refine GW.ite Z (fun hc5 => ?_) (fun hc5 => ?_)
    ·try simp only [dcQ] at hc5
     refine GW.region ?_
     refine R.move ⟨Z,Z,Z,Z⟩ Z ?_
     refine R.move ⟨Z,Z,Z,Z⟩ Z ?_
     refine R.move ⟨Z,Z,Z,Z⟩ Z ?_
     refine R.indexAddrS ⟨Z,Z,Z,Z⟩ Z Z Tryz.underlying29 Tryz.sizeOf89 (by omega) (by omega) ?_
     refine R.loadA ⟨Z,Z,Z,Z⟩ Z Tryz.underlying89 Z Tryz.sizeOf89 (hrd.mono (fun y hy => by repeat (first | exact hy | apply List.mem_cons_of_mem | apply List.mem_append_right))) (by rfl) ?_
     refine R.buildSliceF (sz := 21) (bytes := 288) (vs := [_]) (cs := LtC x) ⟨Z,Z,Z,Z⟩ Z Tryz.underlying29 (InfoE.mk (by kernel_rfl)) Z Z Z Z Z fun b64 => ?_
     refine R.append (sz := 21) (bytes := 288) (G1 := [_]) (H := Hw) (news := LtC x) ⟨Z,Z,Z,Z⟩ Z Z Z Tryz.underlying29 (InfoE.mk (by kernel_rfl)) (hW) (Z) (Z) (.own memH 0 _ (fun j v hv => by simpa using hv)) (by omega) (by rfl) (by omega) (by omega) fun v65 H65 hv65 => ?_
     obtain ⟨A65, c65, rfl, hc65⟩ := hv65.split
     refine R.assign ⟨Z,Z,Z,Z⟩ Z ?_
     refine GOps.nil ?_
     refine GW.region ?_
     refine R.move ⟨Z,Z,Z,Z⟩ Z ?_
     refine R.add (r := (((i + 1) : Nat) : Int)) ⟨Z,Z,Z,Z⟩ Z Z (by rw [wrap64_id (by omega) (by omega)]; omega) ?_
     refine R.assign ⟨Z,Z,Z,Z⟩ Z ?_
     refine GOps.nil ?_
     first | exact ⟨i + 1, .slice A65 _ c65, H65, (), by omega, ⟨by omega, by rw [fT_yes hx (by unfold isCt; rw [Bool.or_eq_true, decide_eq_true_eq, decide_eq_true_eq]; omega)]; exact lts_snoc hv65⟩, rfl, keepG, Hs.tl _⟩ | exact ⟨i + 1, vw, Hw, (), by omega, ⟨by omega, by rw [fT_no hx (by unfold isCt; rw [Bool.or_eq_false_iff, decide_eq_false_iff_not, decide_eq_false_iff_not]; omega)]; exact hW⟩, rfl, keepG, Hs.refl _⟩
    ·try simp only [dcQ] at hc5
     refine GW.skip ?_
     refine GW.region ?_
     refine R.move ⟨Z,Z,Z,Z⟩ Z ?_
     refine R.add (r := (((i + 1) : Nat) : Int)) ⟨Z,Z,Z,Z⟩ Z Z (by rw [wrap64_id (by omega) (by omega)]; omega) ?_
     refine R.assign ⟨Z,Z,Z,Z⟩ Z ?_
     refine GOps.nil ?_
     first | exact ⟨i + 1, .slice A65 _ c65, H65, (), by omega, ⟨by omega, by rw [fT_yes hx (by unfold isCt; rw [Bool.or_eq_true, decide_eq_true_eq, decide_eq_true_eq]; omega)]; exact lts_snoc hv65⟩, rfl, keepG, Hs.tl _⟩ | exact ⟨i + 1, vw, Hw, (), by omega, ⟨by omega, by rw [fT_no hx (by unfold isCt; rw [Bool.or_eq_false_iff, decide_eq_false_iff_not, decide_eq_false_iff_not]; omega)]; exact hW⟩, rfl, keepG, Hs.refl _⟩
  ·try simp only [dcQ] at hc3
   obtain rfl : i = body.length := by omega
   rw [fT_all (Nat.le_refl _)] at hW
   refine GW.exit ?_
   refine GW.seq ?_
   refine GW.seq ?_
   refine GW.region ?_
   refine R.assign ⟨Z,Z,Z,Z⟩ Z ?_
   refine GOps.nil ?_
   refine GW.block ?_
   refine GW.loop4 (fun (i : Nat) (vw : Value) (Hw : Hp) (u1 : Unit) => [(0, .slice bA body.length bc), (1, .slice oA order.length oc), (5, .slice Am (body.filter isMt).length cm), (6, vw), (7, .slice none 0 0), (8, .slice none 0 0), (11, .int .i64 i)]) (fun (i : Nat) (vw : Value) (Hw : Hp) (u1 : Unit) => Hw ++ (Hm ++ G)) (fun i : Nat => body.length - i) (fun (i : Nat) (vw : Value) (Hw : Hp) (u1 : Unit) => i ≤ body.length ∧ SlAt 21 89 (ltsC ((body.filter isCt ++ fT isNt body i))) ((body.filter isCt ++ fT isNt body i)).length vw Hw) 0 (vw) (Hw) (())
    (keepG) (Hs.refl _) (⟨Nat.zero_le _, (by rw [fT_zero, List.append_nil]; exact hW)⟩) ?_
   rintro i vw Hw u1 ⟨hi, hW⟩
   have hfl := fT_le isNt body i
   have hfl2 : (body.filter isCt ++ fT isNt body i).length ≤ body.length + i := by rw [List.length_append]; omega
   refine GW.seq ?_
   refine GW.seq ?_
   refine GW.region ?_
   refine R.move ⟨Z,Z,Z,Z⟩ Z ?_
   refine R.move ⟨Z,Z,Z,Z⟩ Z ?_
   refine R.lenS ⟨Z,Z,Z,Z⟩ Z Z Tryz.underlying29 ?_
   refine R.lss ⟨Z,Z,Z,Z⟩ Z Z ?_
   refine GOps.nil ?_
   refine GW.ite Z (fun hc6 => ?_) (fun hc6 => ?_)
   ·try simp only [dcQ] at hc6
    obtain ⟨x, hx⟩ : ∃ x, body[i]? = some x := ⟨_, List.getElem?_eq_getElem (by omega)⟩
    obtain ⟨xb, xo, cs0, rfl, rfl, hrd⟩ := hl i x hx
    refine GW.skip ?_
    refine GW.seq ?_
    refine GW.block ?_
    refine GW.seq ?_
    refine GW.region ?_
    refine R.move ⟨Z,Z,Z,Z⟩ Z ?_
    refine R.move ⟨Z,Z,Z,Z⟩ Z ?_
    refine R.indexAddrS ⟨Z,Z,Z,Z⟩ Z Z Tryz.underlying29 Tryz.sizeOf89 (by omega) (by omega) ?_
    refine R.fieldAddr ⟨Z,Z,Z,Z⟩ Z Tryz.underlying89 Z Tryz.sizeOf87 ?_
    refine R.load1 ⟨Z,Z,Z,Z⟩ Z Tryz.underlying87 Z ((hrd 0 _ Z).mono (fun y hy => by repeat (first | exact hy | apply List.mem_cons_of_mem | apply List.mem_append_right))) ?_
    refine R.eqI ⟨Z,Z,Z,Z⟩ Z Z ?_
    refine GOps.nil ?_
    refine GW.ite Z (fun hc7 => ?_) (fun hc7 => ?_)
    ·try simp only [dcQ] at hc7
     refine GW.region ?_
     refine R.move ⟨Z,Z,Z,Z⟩ Z ?_
     refine R.move ⟨Z,Z,Z,Z⟩ Z ?_
     refine R.move ⟨Z,Z,Z,Z⟩ Z ?_
     refine R.indexAddrS ⟨Z,Z,Z,Z⟩ Z Z Tryz.underlying29 Tryz.sizeOf89 (by omega) (by omega) ?_
     refine R.loadA ⟨Z,Z,Z,Z⟩ Z Tryz.underlying89 Z Tryz.sizeOf89 (hrd.mono (fun y hy => by repeat (first | exact hy | apply List.mem_cons_of_mem | apply List.mem_append_right))) (by rfl) ?_
     refine R.buildSliceF (sz := 21) (bytes := 288) (vs := [_]) (cs := LtC x) ⟨Z,Z,Z,Z⟩ Z Tryz.underlying29 (InfoE.mk (by kernel_rfl)) Z Z Z Z Z fun b83 => ?_
     refine R.append (sz := 21) (bytes := 288) (G1 := [_]) (H := Hw) (news := LtC x) ⟨Z,Z,Z,Z⟩ Z Z Z Tryz.underlying29 (InfoE.mk (by kernel_rfl)) (hW) (Z) (Z) (.own memH 0 _ (fun j v hv => by simpa using hv)) (by omega) (by rfl) (by omega) (by omega) fun v84 H84 hv84 => ?_
     obtain ⟨A84, c84, rfl, hc84⟩ := hv84.split
     refine R.assign ⟨Z,Z,Z,Z⟩ Z ?_
     refine GOps.nil ?_
     refine GW.region ?_
     refine R.move ⟨Z,Z,Z,Z⟩ Z ?_
     refine R.add (r := (((i + 1) : Nat) : Int)) ⟨Z,Z,Z,Z⟩ Z Z (by rw [wrap64_id (by omega) (by omega)]; omega) ?_
     refine R.assign ⟨Z,Z,Z,Z⟩ Z ?_
     refine GOps.nil ?_
     first | exact ⟨i + 1, .slice A84 _ c84, H84, (), by omega, ⟨by omega, by rw [fT_yes hx (by unfold isNt; exact decide_eq_true (by omega)), ← List.append_assoc]; exact lts_snoc hv84⟩, rfl, keepG, Hs.tl _⟩ | exact ⟨i + 1, vw, Hw, (), by omega, ⟨by omega, by rw [fT_no hx (by unfold isNt; exact decide_eq_false (by omega))]; exact hW⟩, rfl, keepG, Hs.refl _⟩
    ·try simp only [dcQ] at hc7
     refine GW.skip ?_
     refine GW.region ?_
     refine R.move ⟨Z,Z,Z,Z⟩ Z ?_
     refine R.add (r := (((i + 1) : Nat) : Int)) ⟨Z,Z,Z,Z⟩ Z Z (by rw [wrap64_id (by omega) (by omega)]; omega) ?_
     refine R.assign ⟨Z,Z,Z,Z⟩ Z ?_
     refine GOps.nil ?_
     first | exact ⟨i + 1, .slice A84 _ c84, H84, (), by omega, ⟨by omega, by rw [fT_yes hx (by unfold isNt; exact decide_eq_true (by omega)), ← List.append_assoc]; exact lts_snoc hv84⟩, rfl, keepG, Hs.tl _⟩ | exact ⟨i + 1, vw, Hw, (), by omega, ⟨by omega, by rw [fT_no hx (by unfold isNt; exact decide_eq_false (by omega))]; exact hW⟩, rfl, keepG, Hs.refl _⟩
   ·try simp only [dcQ] at hc6
    obtain rfl : i = body.length := by omega
    rw [fT_all (Nat.le_refl _)] at hW
    replace hW : SlAt 21 89 (ltsC ((waitL body))) ((waitL body)).length vw Hw := hW
    refine GW.exit ?_
    refine GW.seq ?_
    refine GW.region ?_
    refine R.move ⟨Z,Z,Z,Z⟩ Z ?_
    refine R.lenS ⟨Z,Z,Z,Z⟩ Z Z Tryz.underlying32 ?_
    refine R.move ⟨Z,Z,Z,Z⟩ Z ?_
    refine R.lenS ⟨Z,Z,Z,Z⟩ Z Z Tryz.underlying29 ?_
    refine R.eqI ⟨Z,Z,Z,Z⟩ Z Z ?_
    refine R.assign ⟨Z,Z,Z,Z⟩ Z ?_
    refine GOps.nil ?_
    refine GW.cutX (fun a : Unit => [(1, .slice oA order.length oc), (5, .slice Am (body.filter isMt).length cm), (6, vw), (7, .slice none 0 0), (8, .slice none 0 0), (12, .bool (goodF (body.filter isMt).length order))]) (fun a : Unit => Hw ++ (Hm ++ G)) (fun a : Unit => True) ?_ ?_
    ·refine GW.seq ?_
     refine GW.region ?_
     refine R.assign ⟨Z,Z,Z,Z⟩ Z ?_
     refine GOps.nil ?_
     refine GW.block ?_
     refine GW.loop4 (fun (i : Nat) (g : Bool) (u1 : Unit) (u2 : Unit) => [(1, .slice oA order.length oc), (5, .slice Am (body.filter isMt).length cm), (6, vw), (7, .slice none 0 0), (8, .slice none 0 0), (12, .bool g), (13, .int .i64 i)]) (fun (i : Nat) (g : Bool) (u1 : Unit) (u2 : Unit) => Hw ++ (Hm ++ G)) (fun i : Nat => (body.filter isMt).length - i) (fun (i : Nat) (g : Bool) (u1 : Unit) (u2 : Unit) => i ≤ (body.filter isMt).length ∧ g = goodTo (body.filter isMt).length order i) 0 (decide ((order.length : Int) = ((body.filter isMt).length : Int))) (()) (())
      (keepG) (Hs.refl _) (⟨Nat.zero_le _, by simp [goodTo]⟩) ?_
     rintro i g u1 u2 ⟨hi, hg⟩
     refine GW.seq ?_
     refine GW.seq ?_
     refine GW.region ?_
     refine R.move ⟨Z,Z,Z,Z⟩ Z ?_
     refine R.move ⟨Z,Z,Z,Z⟩ Z ?_
     refine R.lenS ⟨Z,Z,Z,Z⟩ Z Z Tryz.underlying29 ?_
     refine R.lss ⟨Z,Z,Z,Z⟩ Z Z ?_
     refine R.move ⟨Z,Z,Z,Z⟩ Z ?_
     refine GOps.caseB 94 Z (fun hg8 => ?_) (fun hg8 => ?_)
     ·try simp only [dcQ] at hg8
      refine R.move ⟨Z,Z,Z,Z⟩ Z ?_
      refine R.pick_t ⟨Z,Z,Z,Z⟩ Z Z ?_
      refine GOps.nil ?_
      refine GW.ite Z (fun hc9 => ?_) (fun hc9 => ?_)
      ·try simp only [dcQ] at hc9
       refine GW.skip ?_
       refine GW.seq ?_
       refine GW.block ?_
       refine GW.seq ?_
       refine GW.region ?_
       refine R.assign ⟨Z,Z,Z,Z⟩ Z ?_
       refine GOps.nil ?_
       refine GW.seq ?_
       refine GW.seq ?_
       refine GW.region ?_
       refine R.assign ⟨Z,Z,Z,Z⟩ Z ?_
       refine GOps.nil ?_
       refine GW.block ?_
       refine GW.loop4 (fun (j : Nat) (mn : Nat) (u1 : Unit) (u2 : Unit) => [(1, .slice oA order.length oc), (5, .slice Am (body.filter isMt).length cm), (6, vw), (7, .slice none 0 0), (8, .slice none 0 0), (13, .int .i64 i), (14, .int .i64 mn), (15, .int .i64 j)]) (fun (j : Nat) (mn : Nat) (u1 : Unit) (u2 : Unit) => Hw ++ (Hm ++ G)) (fun j : Nat => order.length - j) (fun (j : Nat) (mn : Nat) (u1 : Unit) (u2 : Unit) => j ≤ order.length ∧ mn = (order.take j).countP (fun z => decide (z = (i : Int)))) 0 (0) (()) (())
        (keepG) (Hs.refl _) (⟨Nat.zero_le _, rfl⟩) ?_
       rintro j mn u1 u2 ⟨hj, hmn⟩
       have hcl2 := cnt_le order j i
       refine GW.seq ?_
       refine GW.seq ?_
       refine GW.region ?_
       refine R.move ⟨Z,Z,Z,Z⟩ Z ?_
       refine R.move ⟨Z,Z,Z,Z⟩ Z ?_
       refine R.lenS ⟨Z,Z,Z,Z⟩ Z Z Tryz.underlying32 ?_
       refine R.lss ⟨Z,Z,Z,Z⟩ Z Z ?_
       refine GOps.nil ?_
       refine GW.ite Z (fun hc10 => ?_) (fun hc10 => ?_)
       ·try simp only [dcQ] at hc10
        obtain ⟨z, hz⟩ : ∃ z, order[j]? = some z := ⟨_, List.getElem?_eq_getElem (by omega)⟩
        obtain ⟨zb, zo, rfl, hrz⟩ := int_at ho hz
        refine GW.skip ?_
        refine GW.seq ?_
        refine GW.block ?_
        refine GW.seq ?_
        refine GW.region ?_
        refine R.move ⟨Z,Z,Z,Z⟩ Z ?_
        refine R.move ⟨Z,Z,Z,Z⟩ Z ?_
        refine R.indexAddrS ⟨Z,Z,Z,Z⟩ Z Z Tryz.underlying32 Tryz.sizeOf3 (by omega) (by omega) ?_
        refine R.load1 ⟨Z,Z,Z,Z⟩ Z Tryz.underlying3 Z (hrz.mono (fun y hy => by repeat (first | exact hy | apply List.mem_cons_of_mem | apply List.mem_append_right))) ?_
        refine R.move ⟨Z,Z,Z,Z⟩ Z ?_
        refine R.eqI ⟨Z,Z,Z,Z⟩ Z Z ?_
        refine GOps.nil ?_
        refine GW.ite Z (fun hc11 => ?_) (fun hc11 => ?_)
        ·try simp only [dcQ] at hc11
         refine GW.region ?_
         refine R.move ⟨Z,Z,Z,Z⟩ Z ?_
         refine R.add (r := ((mn + 1 : Nat) : Int)) ⟨Z,Z,Z,Z⟩ Z Z (by rw [wrap64_id (by omega) (by omega)]; omega) ?_
         refine R.assign ⟨Z,Z,Z,Z⟩ Z ?_
         refine GOps.nil ?_
         refine GW.region ?_
         refine R.move ⟨Z,Z,Z,Z⟩ Z ?_
         refine R.add (r := (((j + 1) : Nat) : Int)) ⟨Z,Z,Z,Z⟩ Z Z (by rw [wrap64_id (by omega) (by omega)]; omega) ?_
         refine R.assign ⟨Z,Z,Z,Z⟩ Z ?_
         refine GOps.nil ?_
         first | exact ⟨j + 1, mn + 1, (), (), by omega, ⟨by omega, by rw [cnt_succ i hz, if_pos (by assumption), ← hmn]⟩, rfl, keepG, Hs.refl _⟩ | exact ⟨j + 1, mn, (), (), by omega, ⟨by omega, by rw [cnt_succ i hz, if_neg (by assumption), ← hmn, Nat.add_zero]⟩, rfl, keepG, Hs.refl _⟩
        ·try simp only [dcQ] at hc11
         refine GW.skip ?_
         refine GW.region ?_
         refine R.move ⟨Z,Z,Z,Z⟩ Z ?_
         refine R.add (r := (((j + 1) : Nat) : Int)) ⟨Z,Z,Z,Z⟩ Z Z (by rw [wrap64_id (by omega) (by omega)]; omega) ?_
         refine R.assign ⟨Z,Z,Z,Z⟩ Z ?_
         refine GOps.nil ?_
         first | exact ⟨j + 1, mn + 1, (), (), by omega, ⟨by omega, by rw [cnt_succ i hz, if_pos (by assumption), ← hmn]⟩, rfl, keepG, Hs.refl _⟩ | exact ⟨j + 1, mn, (), (), by omega, ⟨by omega, by rw [cnt_succ i hz, if_neg (by assumption), ← hmn, Nat.add_zero]⟩, rfl, keepG, Hs.refl _⟩
       ·try simp only [dcQ] at hc10
        refine GW.exit ?_
        refine GW.region ?_
        refine R.move ⟨Z,Z,Z,Z⟩ Z ?_
        refine R.eqI ⟨Z,Z,Z,Z⟩ Z Z ?_
        refine R.assign ⟨Z,Z,Z,Z⟩ Z ?_
        refine GOps.nil ?_
        refine GW.region ?_
        refine R.move ⟨Z,Z,Z,Z⟩ Z ?_
        refine R.add (r := (((i + 1) : Nat) : Int)) ⟨Z,Z,Z,Z⟩ Z Z (by rw [wrap64_id (by omega) (by omega)]; omega) ?_
        refine R.assign ⟨Z,Z,Z,Z⟩ Z ?_
        refine GOps.nil ?_
        exact ⟨i + 1, decide ((mn : Int) = 1), (), (), by omega, ⟨by omega, by rw [goodTo_succ (by rw [← hg]; assumption), hmn, List.take_of_length_le (by omega)]; rfl⟩, rfl, keepG, Hs.refl _⟩
      ·try simp only [dcQ] at hc9
       refine GW.exit ?_
       first | (have hgg : g = (goodF (body.filter isMt).length order) := by rw [hg, show i = (body.filter isMt).length by omega]; rfl) | (have hgg : g = (goodF (body.filter isMt).length order) := by rw [show g = false by assumption, goodTo_end (by rw [← hg]; assumption) hi])
       subst hgg
       exact ⟨rfl, rfl, (), trivial, keepG, Hs.refl _⟩
     ·try simp only [dcQ] at hg8
      refine GOps.skip Z Z Z ?_
      refine R.pick_f ⟨Z,Z,Z,Z⟩ Z Z ?_
      refine GOps.nil ?_
      refine GW.cond_f Z ?_
      refine GW.exit ?_
      first | (have hgg : g = (goodF (body.filter isMt).length order) := by rw [hg, show i = (body.filter isMt).length by omega]; rfl) | (have hgg : g = (goodF (body.filter isMt).length order) := by rw [show g = false by assumption, goodTo_end (by rw [← hg]; assumption) hi])
      subst hgg
      exact ⟨rfl, rfl, (), trivial, keepG, Hs.refl _⟩
    ·intro _ _
     obtain ⟨good, hgd⟩ : ∃ g, g = (goodF (body.filter isMt).length order) := ⟨_, rfl⟩
     rw [← hgd]
     refine GW.seq ?_
     refine GW.seq ?_
     refine GW.region ?_
     refine R.assign ⟨Z,Z,Z,Z⟩ Z ?_
     refine GOps.nil ?_
     refine GW.block ?_
     refine GW.loop4 (fun (i : Nat) (q : PS) (h : (Value × Value × Value) × (Hp × Hp × Hp)) (u1 : Unit) => [(1, .slice oA order.length oc), (5, .slice Am (body.filter isMt).length cm), (6, h.1.1), (7, h.1.2.1), (8, h.1.2.2), (12, .bool good), (16, .int .i64 i)]) (fun (i : Nat) (q : PS) (h : (Value × Value × Value) × (Hp × Hp × Hp)) (u1 : Unit) => h.2.2.2 ++ (h.2.2.1 ++ (h.2.1 ++ (Hm ++ G)))) (fun i : Nat => (body.filter isMt).length + 1 - i) (fun (i : Nat) (q : PS) (h : (Value × Value × Value) × (Hp × Hp × Hp)) (u1 : Unit) => i ≤ (body.filter isMt).length + 1 ∧ q = stW (body.filter isMt) good order ⟨[], (waitL body), []⟩ i ∧ SlAt 21 89 (ltsC (q.wt)) (q.wt).length h.1.1 h.2.1 ∧ SlAt 21 89 (ltsC (q.tk)) (q.tk).length h.1.2.1 h.2.2.1 ∧ SlAt 21 89 (ltsC (q.out)) (q.out).length h.1.2.2 h.2.2.2) 0 (⟨[], (waitL body), []⟩) (((vw, .slice none 0 0, .slice none 0 0), (Hw, [], []))) (())
      (keepG) (Hs.refl _) (⟨Nat.zero_le _, rfl, hW, .nil rfl rfl, .nil rfl rfl⟩) ?_
     rintro i q h u1 ⟨hi, hq, hW, hT, hO⟩
     obtain ⟨⟨vw, vt, vo⟩, Hw, Ht, Ho⟩ := h
     obtain ⟨hq1, hq3⟩ := st_len (body.filter isMt) good order ⟨[], (waitL body), []⟩ rfl i
     rw [← hq] at hq1 hq3
     simp only [List.length_nil] at hq3
     simp only at hW hT hO
     refine GW.seq ?_
     refine GW.seq ?_
     refine GW.region ?_
     refine R.move ⟨Z,Z,Z,Z⟩ Z ?_
     refine R.move ⟨Z,Z,Z,Z⟩ Z ?_
     refine R.lenS ⟨Z,Z,Z,Z⟩ Z Z Tryz.underlying29 ?_
     refine R.leq ⟨Z,Z,Z,Z⟩ Z Z ?_
     refine GOps.nil ?_
     refine GW.ite Z (fun hc12 => ?_) (fun hc12 => ?_)
     ·try simp only [dcQ] at hc12
      refine GW.skip ?_
      refine GW.seq ?_
      refine GW.block ?_
      refine GW.cutX (fun a : (Value × Value) × (Hp × Hp) => [(1, .slice oA order.length oc), (5, .slice Am (body.filter isMt).length cm), (6, vw), (7, a.1.1), (8, a.1.2), (12, .bool good), (16, .int .i64 i)]) (fun a : (Value × Value) × (Hp × Hp) => a.2.2 ++ (a.2.1 ++ (Hw ++ (Hm ++ G)))) (fun a : (Value × Value) × (Hp × Hp) => SlAt 21 89 (ltsC ((preW (body.filter isMt) good order q i).tk)) ((preW (body.filter isMt) good order q i).tk).length a.1.1 a.2.1 ∧ SlAt 21 89 (ltsC ((preW (body.filter isMt) good order q i).out)) ((preW (body.filter isMt) good order q i).out).length a.1.2 a.2.2) ?_ ?_
      ·refine GW.seq ?_
       refine GW.region ?_
       refine R.move ⟨Z,Z,Z,Z⟩ Z ?_
       refine R.gtr ⟨Z,Z,Z,Z⟩ Z Z ?_
       refine GOps.nil ?_
       refine GW.ite Z (fun hc13 => ?_) (fun hc13 => ?_)
       ·try simp only [dcQ] at hc13
        obtain ⟨p, rfl⟩ : ∃ p, i = p + 1 := ⟨i - 1, by omega⟩
        have hmp : (body.filter isMt)[p]? = some ((body.filter isMt).getD p zLt) := by rw [List.getD, List.getElem?_eq_getElem (by omega)]; rfl
        obtain ⟨m1, hm1⟩ : ∃ m1, m1 = (body.filter isMt).getD p zLt := ⟨_, rfl⟩
        rw [← hm1] at hmp
        obtain ⟨mb, mo, cs1, rfl, rfl, hrm⟩ := hMt p _ hmp
        refine GW.seq ?_
        refine GW.region ?_
        refine R.move ⟨Z,Z,Z,Z⟩ Z ?_
        refine R.move ⟨Z,Z,Z,Z⟩ Z ?_
        refine R.sub (r := ((p : Nat) : Int)) ⟨Z,Z,Z,Z⟩ Z Z (by rw [wrap64_id (by omega) (by omega)]; omega) ?_
        refine R.indexAddrS ⟨Z,Z,Z,Z⟩ Z Z Tryz.underlying29 Tryz.sizeOf89 (by omega) (by omega) ?_
        refine R.loadA ⟨Z,Z,Z,Z⟩ Z Tryz.underlying89 Z Tryz.sizeOf89 (hrm.mono (fun y hy => by repeat (first | exact hy | exact List.mem_append_left _ hy | apply List.mem_cons_of_mem | apply List.mem_append_right))) (by rfl) ?_
        refine R.alloc ⟨Z,Z,Z,Z⟩ Tryz.zeroValue89 fun b17 => ?_
        refine R.storeAll (G1 := []) Z Z Z Z Z Tryz.sizeOf89 Z Z Z Z ?_
        refine GOps.nil ?_
        refine GW.seq ?_
        refine GW.seq ?_
        refine GW.region ?_
        refine R.move ⟨Z,Z,Z,Z⟩ Z ?_
        refine GOps.nil ?_
        refine GW.ite Z (fun hc14 => ?_) (fun hc14 => ?_)
        ·try simp only [dcQ] at hc14
         obtain ⟨hgl, hgm⟩ := good_range (n := (body.filter isMt).length) (order := order) (by rw [← hgd]; assumption)
         obtain ⟨z, hz⟩ : ∃ z, order[p]? = some z := ⟨_, List.getElem?_eq_getElem (by omega)⟩
         have hzm := hgm z (List.mem_of_getElem? hz)
         have hmz : (body.filter isMt)[z.toNat]? = some ((body.filter isMt).getD z.toNat zLt) := by rw [List.getD, List.getElem?_eq_getElem (by omega)]; rfl
         have hmA0 : (mAt (body.filter isMt) good order p) = (body.filter isMt).getD z.toNat zLt := by unfold mAt; rw [if_pos (by assumption), show order.getD p 0 = z by rw [List.getD, hz]; rfl]
         obtain ⟨mm, hm2⟩ : ∃ mm, mm = (body.filter isMt).getD z.toNat zLt := ⟨_, rfl⟩
         rw [← hm2] at hmz hmA0
         obtain ⟨zb, zo, rfl, hrz⟩ := int_at ho hz
         obtain ⟨mb2, mo2, cs2, hE, rfl, hrm2⟩ := hMt z.toNat _ hmz
         cases hE
         refine GW.region ?_
         refine R.move ⟨Z,Z,Z,Z⟩ Z ?_
         refine R.move ⟨Z,Z,Z,Z⟩ Z ?_
         refine R.move ⟨Z,Z,Z,Z⟩ Z ?_
         refine R.sub (r := ((p : Nat) : Int)) ⟨Z,Z,Z,Z⟩ Z Z (by rw [wrap64_id (by omega) (by omega)]; omega) ?_
         refine R.indexAddrS ⟨Z,Z,Z,Z⟩ Z Z Tryz.underlying32 Tryz.sizeOf3 (by omega) (by omega) ?_
         refine R.load1 ⟨Z,Z,Z,Z⟩ Z Tryz.underlying3 Z (hrz.mono (fun y hy => by repeat (first | exact hy | apply List.mem_cons_of_mem | apply List.mem_append_right))) ?_
         refine R.indexAddrS ⟨Z,Z,Z,Z⟩ Z Z Tryz.underlying29 Tryz.sizeOf89 (by omega) (by omega) ?_
         refine R.loadA ⟨Z,Z,Z,Z⟩ Z Tryz.underlying89 Z Tryz.sizeOf89 (hrm2.mono (fun y hy => by repeat (first | exact hy | exact List.mem_append_left _ hy | apply List.mem_cons_of_mem | apply List.mem_append_right))) (by rfl) ?_
         refine R.storeAll (G1 := []) Z Z Z Z Z Tryz.sizeOf89 Z Z Z Z ?_
         refine GOps.nil ?_
         refine GW.seq ?_
         refine GW.region ?_
         refine R.move ⟨Z,Z,Z,Z⟩ Z ?_
         refine R.load_own (cs := LtC mm) ⟨Z,Z,Z,Z⟩ Z Tryz.underlying89 Z Tryz.sizeOf89 memG (by rfl) (by rfl) ?_
         refine R.buildSliceF (sz := 21) (bytes := 288) (vs := [_]) (cs := LtC mm) ⟨Z,Z,Z,Z⟩ Z Tryz.underlying29 (InfoE.mk (by kernel_rfl)) Z Z Z Z Z fun b139 => ?_
         refine R.append (sz := 21) (bytes := 288) (G1 := [_, _] ++ Ho) (H := Ht) (news := LtC mm) ⟨Z,Z,Z,Z⟩ Z Z Z Tryz.underlying29 (InfoE.mk (by kernel_rfl)) (hT) (as2 [_, _] _ _) (Z) (.own memH 0 _ (fun j v hv => by simpa using hv)) (by omega) (by rfl) (by omega) (by omega) fun v140 H140 hv140 => ?_
         refine GOps.weak (Keeps.refl _) (Hs.un2 [_, _] _ _) ?_
         obtain ⟨A140, c140, rfl, hc140⟩ := hv140.split
         refine R.assign ⟨Z,Z,Z,Z⟩ Z ?_
         refine GOps.nil ?_
         refine GW.region ?_
         refine R.move ⟨Z,Z,Z,Z⟩ Z ?_
         refine R.load_own (cs := LtC mm) ⟨Z,Z,Z,Z⟩ Z Tryz.underlying89 Z Tryz.sizeOf89 memG (by rfl) (by rfl) ?_
         refine R.buildSliceF (sz := 21) (bytes := 288) (vs := [_]) (cs := LtC mm) ⟨Z,Z,Z,Z⟩ Z Tryz.underlying29 (InfoE.mk (by kernel_rfl)) Z Z Z Z Z fun b143 => ?_
         refine R.append (sz := 21) (bytes := 288) (G1 := [_, _, _]) (H := Ho) (news := LtC mm) ⟨Z,Z,Z,Z⟩ Z Z Z Tryz.underlying29 (InfoE.mk (by kernel_rfl)) (hO) (Z) (Z) (.own memH 0 _ (fun j v hv => by simpa using hv)) (by omega) (by rfl) (by omega) (by omega) fun v144 H144 hv144 => ?_
         obtain ⟨A144, c144, rfl, hc144⟩ := hv144.split
         refine R.assign ⟨Z,Z,Z,Z⟩ Z ?_
         refine GOps.nil ?_
         first | exact ⟨rfl, rfl, ((vt, vo), (Ht, Ho)), ⟨hT, hO⟩, keepG, Hs.refl _⟩ | exact ⟨rfl, rfl, ((.slice A140 _ c140, .slice A144 _ c144), (H140, H144)), ⟨(by show SlAt 21 89 (ltsC (q.tk ++ [(mAt (body.filter isMt) good order p)])) (q.tk ++ [(mAt (body.filter isMt) good order p)]).length _ _; rw [hmA0]; exact lts_snoc hv140), (by show SlAt 21 89 (ltsC (q.out ++ [(mAt (body.filter isMt) good order p)])) (q.out ++ [(mAt (body.filter isMt) good order p)]).length _ _; rw [hmA0]; exact lts_snoc hv144)⟩, keepG, Hs.tl3 _ _ _⟩
        ·try simp only [dcQ] at hc14
         have hmA0 : (mAt (body.filter isMt) good order p) = m1 := by unfold mAt; rw [if_neg (by simp; assumption)]; exact hm1.symm
         rename Lt => mm
         refine GW.skip ?_
         refine GW.seq ?_
         refine GW.region ?_
         refine R.move ⟨Z,Z,Z,Z⟩ Z ?_
         refine R.load_own (cs := LtC mm) ⟨Z,Z,Z,Z⟩ Z Tryz.underlying89 Z Tryz.sizeOf89 memG (by rfl) (by rfl) ?_
         refine R.buildSliceF (sz := 21) (bytes := 288) (vs := [_]) (cs := LtC mm) ⟨Z,Z,Z,Z⟩ Z Tryz.underlying29 (InfoE.mk (by kernel_rfl)) Z Z Z Z Z fun b139 => ?_
         refine R.append (sz := 21) (bytes := 288) (G1 := [_, _] ++ Ho) (H := Ht) (news := LtC mm) ⟨Z,Z,Z,Z⟩ Z Z Z Tryz.underlying29 (InfoE.mk (by kernel_rfl)) (hT) (as2 [_, _] _ _) (Z) (.own memH 0 _ (fun j v hv => by simpa using hv)) (by omega) (by rfl) (by omega) (by omega) fun v140 H140 hv140 => ?_
         refine GOps.weak (Keeps.refl _) (Hs.un2 [_, _] _ _) ?_
         obtain ⟨A140, c140, rfl, hc140⟩ := hv140.split
         refine R.assign ⟨Z,Z,Z,Z⟩ Z ?_
         refine GOps.nil ?_
         refine GW.region ?_
         refine R.move ⟨Z,Z,Z,Z⟩ Z ?_
         refine R.load_own (cs := LtC mm) ⟨Z,Z,Z,Z⟩ Z Tryz.underlying89 Z Tryz.sizeOf89 memG (by rfl) (by rfl) ?_
         refine R.buildSliceF (sz := 21) (bytes := 288) (vs := [_]) (cs := LtC mm) ⟨Z,Z,Z,Z⟩ Z Tryz.underlying29 (InfoE.mk (by kernel_rfl)) Z Z Z Z Z fun b143 => ?_
         refine R.append (sz := 21) (bytes := 288) (G1 := [_, _, _]) (H := Ho) (news := LtC mm) ⟨Z,Z,Z,Z⟩ Z Z Z Tryz.underlying29 (InfoE.mk (by kernel_rfl)) (hO) (Z) (Z) (.own memH 0 _ (fun j v hv => by simpa using hv)) (by omega) (by rfl) (by omega) (by omega) fun v144 H144 hv144 => ?_
         obtain ⟨A144, c144, rfl, hc144⟩ := hv144.split
         refine R.assign ⟨Z,Z,Z,Z⟩ Z ?_
         refine GOps.nil ?_
         first | exact ⟨rfl, rfl, ((vt, vo), (Ht, Ho)), ⟨hT, hO⟩, keepG, Hs.refl _⟩ | exact ⟨rfl, rfl, ((.slice A140 _ c140, .slice A144 _ c144), (H140, H144)), ⟨(by show SlAt 21 89 (ltsC (q.tk ++ [(mAt (body.filter isMt) good order p)])) (q.tk ++ [(mAt (body.filter isMt) good order p)]).length _ _; rw [hmA0]; exact lts_snoc hv140), (by show SlAt 21 89 (ltsC (q.out ++ [(mAt (body.filter isMt) good order p)])) (q.out ++ [(mAt (body.filter isMt) good order p)]).length _ _; rw [hmA0]; exact lts_snoc hv144)⟩, keepG, Hs.tl3 _ _ _⟩
       ·try simp only [dcQ] at hc13
        obtain rfl : i = 0 := by omega
        refine GW.skip ?_
        first | exact ⟨rfl, rfl, ((vt, vo), (Ht, Ho)), ⟨hT, hO⟩, keepG, Hs.refl _⟩ | exact ⟨rfl, rfl, ((.slice A140 _ c140, .slice A144 _ c144), (H140, H144)), ⟨(by show SlAt 21 89 (ltsC (q.tk ++ [(mAt (body.filter isMt) good order p)])) (q.tk ++ [(mAt (body.filter isMt) good order p)]).length _ _; rw [hmA0]; exact lts_snoc hv140), (by show SlAt 21 89 (ltsC (q.out ++ [(mAt (body.filter isMt) good order p)])) (q.out ++ [(mAt (body.filter isMt) good order p)]).length _ _; rw [hmA0]; exact lts_snoc hv144)⟩, keepG, Hs.tl3 _ _ _⟩
      ·rintro ⟨⟨vt2, vo2⟩, Ht2, Ho2⟩ ⟨hT2, hO2⟩
       simp only at hT2 hO2
       obtain ⟨q2, hq2⟩ : ∃ q2, q2 = (preW (body.filter isMt) good order q i) := ⟨_, rfl⟩
       rw [← hq2] at hT2 hO2
       have hwt : q.wt = q2.wt := by rw [hq2, pre_wt]
       have hq4 : q2.tk.length ≤ q.tk.length + 1 := by rw [hq2]; cases i <;> simp [preW]
       have hq5 : q2.out.length ≤ q.out.length + 1 := by rw [hq2]; cases i <;> simp [preW]
       rw [hwt] at hW hq3
       obtain ⟨Aw, cw, rfl, hWt, hcw⟩ := hW.lts w0
       obtain ⟨At, ct, rfl, hTt, hct⟩ := hT2.lts w0
       refine GW.seq ?_
       refine GW.region ?_
       refine R.assign ⟨Z,Z,Z,Z⟩ Z ?_
       refine GOps.nil ?_
       refine GW.seq ?_
       refine GW.seq ?_
       refine GW.region ?_
       refine R.assign ⟨Z,Z,Z,Z⟩ Z ?_
       refine GOps.nil ?_
       refine GW.block ?_
       refine GW.loop4 (fun (j : Nat) (h : (Value × Value) × (Hp × Hp)) (u1 : Unit) (u2 : Unit) => [(1, .slice oA order.length oc), (5, .slice Am (body.filter isMt).length cm), (6, .slice Aw q2.wt.length cw), (7, .slice At q2.tk.length ct), (8, h.1.1), (12, .bool good), (16, .int .i64 i), (18, h.1.2), (19, .int .i64 j)]) (fun (j : Nat) (h : (Value × Value) × (Hp × Hp)) (u1 : Unit) (u2 : Unit) => h.2.2 ++ (h.2.1 ++ (Ht2 ++ (Hw ++ (Hm ++ G))))) (fun j : Nat => q2.wt.length - j) (fun (j : Nat) (h : (Value × Value) × (Hp × Hp)) (u1 : Unit) (u2 : Unit) => j ≤ q2.wt.length ∧ SlAt 21 89 (ltsC (q2.out ++ fT (readyW q2.tk) q2.wt j)) (q2.out ++ fT (readyW q2.tk) q2.wt j).length h.1.1 h.2.1 ∧ SlAt 21 89 (ltsC (fT (fun l => !readyW q2.tk l) q2.wt j)) (fT (fun l => !readyW q2.tk l) q2.wt j).length h.1.2 h.2.2) 0 (((vo2, .slice none 0 0), (Ho2, []))) (()) (())
        (keepG) (Hs.refl _) (⟨Nat.zero_le _, (by rw [fT_zero, List.append_nil]; exact hO2), .nil rfl rfl⟩) ?_
       rintro j h u1 u2 ⟨hj, hO3, hF⟩
       obtain ⟨⟨vo3, vf⟩, Ho3, Hf⟩ := h
       simp only at hO3 hF
       have hfl := fT_le (readyW q2.tk) q2.wt j
       have hfl2 := fT_le (fun l => !readyW q2.tk l) q2.wt j
       have hfl3 : (q2.out ++ fT (readyW q2.tk) q2.wt j).length ≤ q2.out.length + j := by rw [List.length_append]; omega
       refine GW.seq ?_
       refine GW.seq ?_
       refine GW.region ?_
       refine R.move ⟨Z,Z,Z,Z⟩ Z ?_
       refine R.move ⟨Z,Z,Z,Z⟩ Z ?_
       refine R.lenS ⟨Z,Z,Z,Z⟩ Z Z Tryz.underlying29 ?_
       refine R.lss ⟨Z,Z,Z,Z⟩ Z Z ?_
       refine GOps.nil ?_
       refine GW.ite Z (fun hc15 => ?_) (fun hc15 => ?_)
       ·try simp only [dcQ] at hc15
        obtain ⟨x, hx⟩ : ∃ x, q2.wt[j]? = some x := ⟨_, List.getElem?_eq_getElem (by omega)⟩
        obtain ⟨wb, wo, cs0, rfl, rfl, hrd⟩ := hWt j x hx
        refine GW.skip ?_
        refine GW.seq ?_
        refine GW.block ?_
        refine GW.seq ?_
        refine GW.region ?_
        refine R.move ⟨Z,Z,Z,Z⟩ Z ?_
        refine R.move ⟨Z,Z,Z,Z⟩ Z ?_
        refine R.indexAddrS ⟨Z,Z,Z,Z⟩ Z Z Tryz.underlying29 Tryz.sizeOf89 (by omega) (by omega) ?_
        refine R.loadA ⟨Z,Z,Z,Z⟩ Z Tryz.underlying89 Z Tryz.sizeOf89 (hrd.mono (fun y hy => by repeat (first | exact hy | exact List.mem_append_left _ hy | apply List.mem_cons_of_mem | apply List.mem_append_right))) (by rfl) ?_
        refine R.move ⟨Z,Z,Z,Z⟩ Z ?_
        refine R.call ⟨Z,Z,Z,Z⟩ Z (vs := [_, _]) Z ((ref_ready _ _ x q2.tk At ct (LtsAt.mono' hTt (fun y hy => by repeat (first | exact hy | exact List.mem_append_left _ hy | apply List.mem_cons_of_mem | apply List.mem_append_right))) (by omega)).mono ?_)
        rintro _ _ ⟨rfl, rfl⟩
        refine GOps.nil ?_
        refine GW.ite Z (fun hc16 => ?_) (fun hc16 => ?_)
        ·try simp only [dcQ] at hc16
         refine GW.region ?_
         refine R.move ⟨Z,Z,Z,Z⟩ Z ?_
         refine R.move ⟨Z,Z,Z,Z⟩ Z ?_
         refine R.move ⟨Z,Z,Z,Z⟩ Z ?_
         refine R.indexAddrS ⟨Z,Z,Z,Z⟩ Z Z Tryz.underlying29 Tryz.sizeOf89 (by omega) (by omega) ?_
         refine R.loadA ⟨Z,Z,Z,Z⟩ Z Tryz.underlying89 Z Tryz.sizeOf89 (hrd.mono (fun y hy => by repeat (first | exact hy | exact List.mem_append_left _ hy | apply List.mem_cons_of_mem | apply List.mem_append_right))) (by rfl) ?_
         refine R.buildSliceF (sz := 21) (bytes := 288) (vs := [_]) (cs := LtC x) ⟨Z,Z,Z,Z⟩ Z Tryz.underlying29 (InfoE.mk (by kernel_rfl)) Z Z Z Z Z fun b162 => ?_
         refine R.append (sz := 21) (bytes := 288) (G1 := [_] ++ Hf) (H := Ho3) (news := LtC x) ⟨Z,Z,Z,Z⟩ Z Z Z Tryz.underlying29 (InfoE.mk (by kernel_rfl)) (hO3) (as2 [_] _ _) (Z) (.own memH 0 _ (fun j v hv => by simpa using hv)) (by omega) (by rfl) (by omega) (by omega) fun v163 H163 hv163 => ?_
         refine GOps.weak (Keeps.refl _) (Hs.un2 [_] _ _) ?_
         obtain ⟨A163, c163, rfl, hc163⟩ := hv163.split
         refine R.assign ⟨Z,Z,Z,Z⟩ Z ?_
         refine GOps.nil ?_
         refine GW.region ?_
         refine R.move ⟨Z,Z,Z,Z⟩ Z ?_
         refine R.add (r := (((j + 1) : Nat) : Int)) ⟨Z,Z,Z,Z⟩ Z Z (by rw [wrap64_id (by omega) (by omega)]; omega) ?_
         refine R.assign ⟨Z,Z,Z,Z⟩ Z ?_
         refine GOps.nil ?_
         first | exact ⟨j + 1, ((.slice A163 _ c163, vf), (H163, Hf)), (), (), by omega, ⟨by omega, (by rw [fT_yes hx (by assumption), ← List.append_assoc]; exact lts_snoc hv163), (by rw [fT_no hx (by rw [show readyW q2.tk x = true by assumption]; rfl)]; exact hF)⟩, rfl, keepG, Hs.tl _⟩ | exact ⟨j + 1, ((vo3, .slice A170 _ c170), (Ho3, H170)), (), (), by omega, ⟨by omega, (by rw [fT_no hx (by assumption)]; exact hO3), (by rw [fT_yes hx (by rw [show readyW q2.tk x = false by assumption]; rfl)]; exact lts_snoc hv170)⟩, rfl, keepG, Hs.tl _⟩
        ·try simp only [dcQ] at hc16
         refine GW.region ?_
         refine R.move ⟨Z,Z,Z,Z⟩ Z ?_
         refine R.move ⟨Z,Z,Z,Z⟩ Z ?_
         refine R.move ⟨Z,Z,Z,Z⟩ Z ?_
         refine R.indexAddrS ⟨Z,Z,Z,Z⟩ Z Z Tryz.underlying29 Tryz.sizeOf89 (by omega) (by omega) ?_
         refine R.loadA ⟨Z,Z,Z,Z⟩ Z Tryz.underlying89 Z Tryz.sizeOf89 (hrd.mono (fun y hy => by repeat (first | exact hy | exact List.mem_append_left _ hy | apply List.mem_cons_of_mem | apply List.mem_append_right))) (by rfl) ?_
         refine R.buildSliceF (sz := 21) (bytes := 288) (vs := [_]) (cs := LtC x) ⟨Z,Z,Z,Z⟩ Z Tryz.underlying29 (InfoE.mk (by kernel_rfl)) Z Z Z Z Z fun b169 => ?_
         refine R.append (sz := 21) (bytes := 288) (G1 := [_]) (H := Hf) (news := LtC x) ⟨Z,Z,Z,Z⟩ Z Z Z Tryz.underlying29 (InfoE.mk (by kernel_rfl)) (hF) (Z) (Z) (.own memH 0 _ (fun j v hv => by simpa using hv)) (by omega) (by rfl) (by omega) (by omega) fun v170 H170 hv170 => ?_
         obtain ⟨A170, c170, rfl, hc170⟩ := hv170.split
         refine R.assign ⟨Z,Z,Z,Z⟩ Z ?_
         refine GOps.nil ?_
         refine GW.region ?_
         refine R.move ⟨Z,Z,Z,Z⟩ Z ?_
         refine R.add (r := (((j + 1) : Nat) : Int)) ⟨Z,Z,Z,Z⟩ Z Z (by rw [wrap64_id (by omega) (by omega)]; omega) ?_
         refine R.assign ⟨Z,Z,Z,Z⟩ Z ?_
         refine GOps.nil ?_
         first | exact ⟨j + 1, ((.slice A163 _ c163, vf), (H163, Hf)), (), (), by omega, ⟨by omega, (by rw [fT_yes hx (by assumption), ← List.append_assoc]; exact lts_snoc hv163), (by rw [fT_no hx (by rw [show readyW q2.tk x = true by assumption]; rfl)]; exact hF)⟩, rfl, keepG, Hs.tl _⟩ | exact ⟨j + 1, ((vo3, .slice A170 _ c170), (Ho3, H170)), (), (), by omega, ⟨by omega, (by rw [fT_no hx (by assumption)]; exact hO3), (by rw [fT_yes hx (by rw [show readyW q2.tk x = false by assumption]; rfl)]; exact lts_snoc hv170)⟩, rfl, keepG, Hs.tl _⟩
       ·try simp only [dcQ] at hc15
        obtain rfl : j = q2.wt.length := by omega
        rw [fT_all (Nat.le_refl _)] at hO3 hF
        refine GW.exit ?_
        refine GW.region ?_
        refine R.move ⟨Z,Z,Z,Z⟩ Z ?_
        refine R.assign ⟨Z,Z,Z,Z⟩ Z ?_
        refine GOps.nil ?_
        refine GW.region ?_
        refine R.move ⟨Z,Z,Z,Z⟩ Z ?_
        refine R.add (r := (((i + 1) : Nat) : Int)) ⟨Z,Z,Z,Z⟩ Z Z (by rw [wrap64_id (by omega) (by omega)]; omega) ?_
        refine R.assign ⟨Z,Z,Z,Z⟩ Z ?_
        refine GOps.nil ?_
        exact ⟨i + 1, flushW q2, ((vf, .slice At q2.tk.length ct, vo3), (Hf, Ht2, Ho3)), (), by omega, ⟨by omega, by rw [hq2, hq]; rfl, hF, hT2, hO3⟩, rfl, keepG, Hs.left _ _ _ _ _⟩
     ·try simp only [dcQ] at hc12
      obtain rfl : i = (body.filter isMt).length + 1 := by omega
      subst hq
      subst hgd
      refine GW.exit ?_
      refine GW.seq ?_
      refine GW.region ?_
      refine R.move ⟨Z,Z,Z,Z⟩ Z ?_
      refine R.assign ⟨Z,Z,Z,Z⟩ Z ?_
      refine GOps.nil ?_
      exact GW.ret (Out.of (Res.one rfl rfl) (Hs.sub (((List.sublist_append_right Hm G).trans ((List.sublist_append_right Hw _).trans (List.sublist_append_right Ht _))).append_left Ho)) ⟨Ho, hO, rfl⟩)
end Go.Proofs.YtfddkcmooommeaaGreatDoor.Gl
end
section
namespace Go.Proofs.YtfddkcmooommeaaGreatDoor.Gl
open Go.RowKit Go.Shelf
set_option linter.unusedVariables false
set_option linter.unnecessarySimpa false
set_option linter.unusedSimpArgs false
attribute [-simp] List.getD_eq_getElem?_getD
def passW (vars : List ByteArray) (L : List Tm) (body : List Lt) (i : Nat) : List Tm := (body.take i).foldl (fun L l => (stepW vars L l).2) L
theorem passW_succ {vars : List ByteArray} {L : List Tm} {body : List Lt} {i : Nat} {l : Lt} (h : body[i]? = some l) : passW vars L body (i + 1) = (stepW vars (passW vars L body i) l).2 := by
 unfold passW
 rw [List.take_add_one, h, List.foldl_append]
 rfl
theorem passW_len (vars : List ByteArray) (L : List Tm) (body : List Lt) : ∀ i, i ≤ body.length → (passW vars L body i).length ≤ L.length + 3 * i
 | 0, _ => by simp [passW]
 | i + 1, h => by
  have h1 := passW_len vars L body i (by omega)
  rw [passW_succ (List.getElem?_eq_getElem (show i < body.length by omega))]
  have h2 := stepW_len vars (passW vars L body i) body[i]
  omega
def stepStW (vars : List ByteArray) (a : List St × List Tm) (l : Lt) : List St × List Tm := (a.1 ++ [(stepW vars a.2 l).1], (stepW vars a.2 l).2)
def stepsW (vars : List ByteArray) (L : List Tm) (ps : List Lt) (i : Nat) : List St × List Tm := (ps.take i).foldl (stepStW vars) ([], L)
theorem stepsW_succ {vars : List ByteArray} {L : List Tm} {ps : List Lt} {i : Nat} {l : Lt} (h : ps[i]? = some l) : stepsW vars L ps (i + 1) = stepStW vars (stepsW vars L ps i) l := by
 unfold stepsW
 rw [List.take_add_one, h, List.foldl_append]
 rfl
theorem stepsW_len (vars : List ByteArray) (L : List Tm) (ps : List Lt) : ∀ i, i ≤ ps.length → (stepsW vars L ps i).2.length ≤ L.length + 3 * i ∧ (stepsW vars L ps i).1.length = i
 | 0, _ => by simp [stepsW]
 | i + 1, h => by
  obtain ⟨h1, h3⟩ := stepsW_len vars L ps i (by omega)
  rw [stepsW_succ (List.getElem?_eq_getElem (show i < ps.length by omega))]
  have h2 := stepW_len vars (stepsW vars L ps i).2 ps[i]
  unfold stepStW
  simp only [List.length_append, h3]
  exact ⟨by omega, rfl⟩
def bodyW (vars : List ByteArray) (L : List Tm) (body : List Lt) (order : List Int) : List St × List Tm := stepsW vars (passW vars L body body.length) (partsW body order) (partsW body order).length
theorem parts_le (body : List Lt) (order : List Int) : (partsW body order).length ≤ 3 * body.length + 1 := by
 have h := (st_len (body.filter isMt) (goodF (body.filter isMt).length order) order ⟨[], waitL body, []⟩ rfl ((body.filter isMt).length + 1)).2
 have h1 := wait_len body
 have h2 := List.length_filter_le isMt body
 simp only [List.length_nil] at h
 unfold partsW
 omega
theorem Hs.rot (x : Nat × Know) (H L G : Hp) : Hs (H ++ (x :: (L ++ G))) (x :: (L ++ (H ++ G))) := Hs.perm (by
 have h : (H ++ (L ++ G)).Perm (L ++ (H ++ G)) := by
  rw [← List.append_assoc, ← List.append_assoc]
  exact List.Perm.append_right _ List.perm_append_comm
 exact (h.symm.cons x).trans List.perm_middle.symm)
theorem Hs.dropH (x : Nat × Know) (L O H G : Hp) : Hs (x :: (L ++ (O ++ (H ++ G)))) (x :: (L ++ (O ++ G))) := Hs.sub ((((List.sublist_append_right H G).append_left O).append_left L).cons_cons x)
theorem ref_Body (w0 : World) (G : Hp) (L : List Tm) (bW : Nat) (v : Value) (Hl : Hp) (hL : SlAt 3 24 (tmsC (L)) (L).length v Hl) (hm : L.length ≤ 50000) (A : Option Addr) (vars : List ByteArray) (c : Nat) (hv : StAt w0 G A vars) (hvm : vars.length ≤ 100000) (bA : Option Addr) (body : List Lt) (bc : Nat) (hl : LtsAt w0 G bA body) (hbl : body.length ≤ 1000) (oA : Option Addr) (order : List Int) (oc : Nat) (ho : IntsAt w0 G oA order) (hol : order.length ≤ 1000) : GC Tryz.prog w0 17 #[.pointer (some ⟨bW, 0, none⟩), .slice A vars.length c, .slice bA body.length bc, .slice oA order.length oc] (fun r G' => ∃ v' Hl' Ho, (SlAt 11 50 (stsC ((bodyW vars L body order).1)) ((bodyW vars L body order).1).length r Ho ∧ SlAt 3 24 (tmsC ((bodyW vars L body order).2)) ((bodyW vars L body order).2).length v' Hl') ∧ (bW, woC v') :: (Hl' ++ (Ho ++ G)) = G') ((bW, woC v) :: (Hl ++ G)) := by
 have hpl := parts_le body order
 have hpa := passW_len vars L body body.length (Nat.le_refl _)
 refine GC.body (args := [.pointer (some ⟨bW, 0, none⟩), .slice A vars.length c, .slice bA body.length bc, .slice oA order.length oc]) Tryz.func17 rfl (by kernel_rfl) rfl ?_
 refine GW.seq ?_
 refine GW.region ?_
 refine R.assign ⟨Z,Z,Z,Z⟩ Z ?_
 refine GOps.nil ?_
 refine GW.seq ?_
 refine GW.seq ?_
 refine GW.region ?_
 refine R.assign ⟨Z,Z,Z,Z⟩ Z ?_
 refine GOps.nil ?_
 refine GW.block ?_
 refine GW.loop4 (fun (i : Nat) (h : Value × Hp) (u1 : Unit) (u2 : Unit) => [(0, .pointer (some ⟨bW, 0, none⟩)), (1, .slice A vars.length c), (2, .slice bA body.length bc), (3, .slice oA order.length oc), (9, .int .i64 i)]) (fun (i : Nat) (h : Value × Hp) (u1 : Unit) (u2 : Unit) => (bW, woC h.1) :: (h.2 ++ G)) (fun i : Nat => body.length - i) (fun (i : Nat) (h : Value × Hp) (u1 : Unit) (u2 : Unit) => i ≤ body.length ∧ SlAt 3 24 (tmsC (passW vars L body i)) (passW vars L body i).length h.1 h.2) 0 ((v, Hl)) (()) (())
  (keepG) (Hs.refl _) (⟨Nat.zero_le _, hL⟩) ?_
 rintro i h u1 u2 ⟨hi, hL1⟩
 obtain ⟨v1, Hl1⟩ := h
 simp only at hL1
 have hpi := passW_len vars L body i hi
 refine GW.seq ?_
 refine GW.seq ?_
 refine GW.region ?_
 refine R.move ⟨Z,Z,Z,Z⟩ Z ?_
 refine R.move ⟨Z,Z,Z,Z⟩ Z ?_
 refine R.lenS ⟨Z,Z,Z,Z⟩ Z Z Tryz.underlying29 ?_
 refine R.lss ⟨Z,Z,Z,Z⟩ Z Z ?_
 refine GOps.nil ?_
 refine GW.ite Z (fun hc1 => ?_) (fun hc1 => ?_)
 ·try simp only [dcQ] at hc1
  obtain ⟨l, hx⟩ : ∃ l, body[i]? = some l := ⟨_, List.getElem?_eq_getElem (by omega)⟩
  obtain ⟨xb, xo, cs0, rfl, rfl, hrd⟩ := hl i l hx
  refine GW.skip ?_
  refine GW.seq ?_
  refine GW.block ?_
  refine GW.region ?_
  refine R.move ⟨Z,Z,Z,Z⟩ Z ?_
  refine R.move ⟨Z,Z,Z,Z⟩ Z ?_
  refine R.move ⟨Z,Z,Z,Z⟩ Z ?_
  refine R.move ⟨Z,Z,Z,Z⟩ Z ?_
  refine R.indexAddrS ⟨Z,Z,Z,Z⟩ Z Z Tryz.underlying29 Tryz.sizeOf89 (by omega) (by omega) ?_
  refine R.loadA ⟨Z,Z,Z,Z⟩ Z Tryz.underlying89 Z Tryz.sizeOf89 (hrd.mono (fun y hy => by repeat (first | exact hy | apply List.mem_cons_of_mem | apply List.mem_append_right))) (by rfl) ?_
  refine R.call ⟨Z,Z,Z,Z⟩ Z (vs := [_, _, _]) Z ((ref_StepW _ _ (passW vars L body i) bW v1 Hl1 hL1 (by omega) A vars c (hv.mono (fun y hy => by repeat (first | exact hy | apply List.mem_cons_of_mem | apply List.mem_append_right))) hvm l).mono ?_)
  rintro _ _ ⟨v2, Hl2, ⟨rfl, hL2⟩, rfl⟩
  refine GOps.nil ?_
  refine GW.region ?_
  refine R.move ⟨Z,Z,Z,Z⟩ Z ?_
  refine R.add (r := (((i + 1) : Nat) : Int)) ⟨Z,Z,Z,Z⟩ Z Z (by rw [wrap64_id (by omega) (by omega)]; omega) ?_
  refine R.assign ⟨Z,Z,Z,Z⟩ Z ?_
  refine GOps.nil ?_
  exact ⟨i + 1, (v2, Hl2), (), (), by omega, ⟨by omega, by rw [passW_succ hx]; exact hL2⟩, rfl, keepG, by first | exact Hs.refl _ | exact Hs.tl _ | exact Hs.tl2 _ _⟩
 ·try simp only [dcQ] at hc1
  obtain rfl : i = body.length := by omega
  refine GW.exit ?_
  refine GW.seq ?_
  refine GW.region ?_
  refine R.move ⟨Z,Z,Z,Z⟩ Z ?_
  refine R.move ⟨Z,Z,Z,Z⟩ Z ?_
  refine R.call ⟨Z,Z,Z,Z⟩ Z (vs := [_, _]) Z ((ref_Parts _ _ bA body bc (LtsAt.mono' hl (fun y hy => by repeat (first | exact hy | apply List.mem_cons_of_mem | apply List.mem_append_right))) hbl oA order oc (ho.mono (fun y hy => by repeat (first | exact hy | apply List.mem_cons_of_mem | apply List.mem_append_right))) hol).mono ?_)
  rintro v28 _ ⟨H28, hP, rfl⟩
  obtain ⟨Ap, cp, rfl, hPt, hcp⟩ := hP.lts w0
  refine GOps.weak (Keeps.refl _) (Hs.rot _ _ _ _) ?_
  refine R.assign ⟨Z,Z,Z,Z⟩ Z ?_
  refine GOps.nil ?_
  refine GW.seq ?_
  refine GW.region ?_
  refine R.assign ⟨Z,Z,Z,Z⟩ Z ?_
  refine GOps.nil ?_
  refine GW.seq ?_
  refine GW.seq ?_
  refine GW.region ?_
  refine R.assign ⟨Z,Z,Z,Z⟩ Z ?_
  refine GOps.nil ?_
  refine GW.block ?_
  refine GW.loop4 (fun (i : Nat) (a : List St × List Tm) (h : (Value × Value) × (Hp × Hp)) (u1 : Unit) => [(0, .pointer (some ⟨bW, 0, none⟩)), (1, .slice A vars.length c), (10, .slice Ap (partsW body order).length cp), (11, h.1.2), (12, .int .i64 i)]) (fun (i : Nat) (a : List St × List Tm) (h : (Value × Value) × (Hp × Hp)) (u1 : Unit) => (bW, woC h.1.1) :: (h.2.1 ++ (h.2.2 ++ (H28 ++ G)))) (fun i : Nat => (partsW body order).length - i) (fun (i : Nat) (a : List St × List Tm) (h : (Value × Value) × (Hp × Hp)) (u1 : Unit) => i ≤ (partsW body order).length ∧ a = stepsW vars (passW vars L body body.length) (partsW body order) i ∧ SlAt 3 24 (tmsC (a.2)) (a.2).length h.1.1 h.2.1 ∧ SlAt 11 50 (stsC (a.1)) (a.1).length h.1.2 h.2.2) 0 (([], passW vars L body body.length)) (((v1, .slice none 0 0), (Hl1, []))) (())
   (keepG) (Hs.refl _) (⟨Nat.zero_le _, rfl, hL1, .nil rfl rfl⟩) ?_
  rintro i a h u1 ⟨hi, ha, hL1, hO⟩
  obtain ⟨⟨v1, vo⟩, Hl1, Ho⟩ := h
  simp only at hL1 hO
  obtain ⟨hal, hal2⟩ := stepsW_len vars (passW vars L body body.length) (partsW body order) i hi
  rw [← ha] at hal hal2
  refine GW.seq ?_
  refine GW.seq ?_
  refine GW.region ?_
  refine R.move ⟨Z,Z,Z,Z⟩ Z ?_
  refine R.move ⟨Z,Z,Z,Z⟩ Z ?_
  refine R.lenS ⟨Z,Z,Z,Z⟩ Z Z Tryz.underlying29 ?_
  refine R.lss ⟨Z,Z,Z,Z⟩ Z Z ?_
  refine GOps.nil ?_
  refine GW.ite Z (fun hc2 => ?_) (fun hc2 => ?_)
  ·try simp only [dcQ] at hc2
   obtain ⟨l, hx⟩ : ∃ l, (partsW body order)[i]? = some l := ⟨_, List.getElem?_eq_getElem (by omega)⟩
   obtain ⟨xb, xo, cs0, rfl, rfl, hrd⟩ := hPt i l hx
   refine GW.skip ?_
   refine GW.seq ?_
   refine GW.block ?_
   refine GW.region ?_
   refine R.move ⟨Z,Z,Z,Z⟩ Z ?_
   refine R.move ⟨Z,Z,Z,Z⟩ Z ?_
   refine R.move ⟨Z,Z,Z,Z⟩ Z ?_
   refine R.move ⟨Z,Z,Z,Z⟩ Z ?_
   refine R.move ⟨Z,Z,Z,Z⟩ Z ?_
   refine R.indexAddrS ⟨Z,Z,Z,Z⟩ Z Z Tryz.underlying29 Tryz.sizeOf89 (by omega) (by omega) ?_
   refine R.loadA ⟨Z,Z,Z,Z⟩ Z Tryz.underlying89 Z Tryz.sizeOf89 (hrd.mono (fun y hy => by repeat (first | exact hy | exact List.mem_append_left _ hy | apply List.mem_cons_of_mem | apply List.mem_append_right))) (by rfl) ?_
   refine R.call ⟨Z,Z,Z,Z⟩ Z (vs := [_, _, _]) Z ((ref_StepW _ _ a.2 bW v1 Hl1 hL1 (by omega) A vars c (hv.mono (fun y hy => by repeat (first | exact hy | apply List.mem_cons_of_mem | apply List.mem_append_right))) hvm l).mono ?_)
   rintro _ _ ⟨v3, Hl3, ⟨rfl, hL3⟩, rfl⟩
   refine R.buildSliceF (sz := 11) (bytes := 88) (vs := [_]) (cs := StC (stepW vars a.2 l).1) ⟨Z,Z,Z,Z⟩ Z Tryz.underlying39 (InfoE.mk (by kernel_rfl)) Z Z Z Z Z fun b43 => ?_
   refine R.append (sz := 11) (bytes := 88) (G1 := [_, _] ++ Hl3) (H := Ho) (news := StC (stepW vars a.2 l).1) ⟨Z,Z,Z,Z⟩ Z Z Z Tryz.underlying39 (InfoE.mk (by kernel_rfl)) (hO) (as2 [_, _] _ _) (Z) (.own memH 0 _ (fun j v hv => by simpa using hv)) (by omega) (by rfl) (by omega) (by omega) fun v44 H44 hv44 => ?_
   refine GOps.weak (Keeps.refl _) (Hs.un2 [_, _] _ _) ?_
   obtain ⟨A44, c44, rfl, hc44⟩ := hv44.split
   refine R.assign ⟨Z,Z,Z,Z⟩ Z ?_
   refine GOps.nil ?_
   refine GW.region ?_
   refine R.move ⟨Z,Z,Z,Z⟩ Z ?_
   refine R.add (r := (((i + 1) : Nat) : Int)) ⟨Z,Z,Z,Z⟩ Z Z (by rw [wrap64_id (by omega) (by omega)]; omega) ?_
   refine R.assign ⟨Z,Z,Z,Z⟩ Z ?_
   refine GOps.nil ?_
   exact ⟨i + 1, stepStW vars a l, ((v3, .slice A44 _ c44), (Hl3, H44)), (), by omega, ⟨by omega, by rw [stepsW_succ hx, ← ha], hL3, (by show SlAt 11 50 (stsC (a.1 ++ [(stepW vars a.2 l).1])) (a.1 ++ [(stepW vars a.2 l).1]).length _ _; rw [sts_app, sts_one, List.length_append]; exact hv44)⟩, rfl, keepG, by first | exact Hs.refl _ | exact Hs.tl _ | exact Hs.tl2 _ _⟩
  ·try simp only [dcQ] at hc2
   obtain rfl : i = (partsW body order).length := by omega
   subst ha
   refine GW.exit ?_
   refine GW.seq ?_
   refine GW.region ?_
   refine R.move ⟨Z,Z,Z,Z⟩ Z ?_
   refine R.assign ⟨Z,Z,Z,Z⟩ Z ?_
   refine GOps.nil ?_
   exact GW.ret (Out.of (Res.one rfl rfl) (Hs.dropH _ _ _ _ _) ⟨v1, Hl1, Ho, ⟨hO, hL1⟩, rfl⟩)
end Go.Proofs.YtfddkcmooommeaaGreatDoor.Gl
end
section
namespace Go.Proofs.YtfddkcmooommeaaGreatDoor.Gl
open Go.RowKit Go.Shelf
set_option linter.unusedVariables false
set_option linter.unnecessarySimpa false
set_option linter.unusedSimpArgs false
attribute [-simp] List.getD_eq_getElem?_getD
def Both (lim : Nat) (L : List Tm) (q : List Tm × Int) : Prop := (q.2 = 0 ∧ q.1 = L ∧ L.length ≤ lim) ∨ (q.2 = 9 ∧ lim < L.length)
def HasV (vars : List ByteArray) (s : Sl) : Prop := emp s.v = false → ∃ i, idxN vars s.v = some i
theorem placeW_v {vars : List ByteArray} {L : List Tm} {s : Sl} {i : Nat} (he : emp s.v = false) (h : idxN vars s.v = some i) : placeW vars L s = (⟨(i : Nat), 0⟩, L) := by
 unfold placeW
 rw [he, cond_false, h]
theorem idxB_some {vars : List ByteArray} {s : ByteArray} {i : Nat} (h : idxN vars s = some i) : idxB vars s = (i : Nat) := by unfold idxB; rw [h]
theorem Both.place {lim : Nat} {vars : List ByteArray} {L : List Tm} {q : List Tm × Int} {s : Sl} (hv : HasV vars s) (h : Both lim L q) : Both lim (placeW vars L s).2 (placeF lim vars q s).2 := by
 cases he : emp s.v with
 | false =>
  obtain ⟨i, hi⟩ := hv he
  rw [placeW_v he hi, placeF_var he]
  exact h
 | true =>
  rw [placeW_t (.inl he)]
  rcases h with ⟨h1, rfl, h3⟩ | ⟨h1, h2⟩
  ·rw [placeF_t0 he h1]
   unfold internF numF
   cases idxT q.1 s.t with
   | some n => exact .inl ⟨rfl, rfl, h3⟩
   | none =>
    by_cases hl : lim ≤ q.1.length
    ·simp only [if_pos hl]
     exact .inr ⟨rfl, by show lim < (q.1 ++ [s.t]).length; rw [List.length_append]; simp; omega⟩
    ·simp only [if_neg hl]
     exact .inl ⟨rfl, rfl, by show (q.1 ++ [s.t]).length ≤ lim; rw [List.length_append]; simp; omega⟩
  ·rw [placeF_t1 he (by omega)]
   refine .inr ⟨h1, ?_⟩
   unfold numF
   cases idxT L s.t with
   | some n => exact h2
   | none => show lim < (L ++ [s.t]).length; rw [List.length_append]; omega
theorem Both.row {lim : Nat} {vars : List ByteArray} {L : List Tm} {q : List Tm × Int} {p : Pt} (hv : ∀ s ∈ sl3 p, HasV vars s) (h : Both lim L q) : Both lim (rowW vars L p).2 (rowF lim vars q p).2 := by
 have h0 := h.place (hv p.s0 (by simp [sl3]))
 have h1 := h0.place (hv p.s1 (by simp [sl3]))
 exact h1.place (hv p.s2 (by simp [sl3]))
theorem Both.step {lim : Nat} {vars : List ByteArray} {L : List Tm} {q : List Tm × Int} {l : Lt} (hv : ∀ s ∈ stepSl l, HasV vars s) (h : Both lim L q) : Both lim (stepW vars L l).2 (stepF lim vars q l).2 := by
 unfold stepSl at hv
 by_cases h1 : l.kind = 1
 ·rw [if_pos (.inl h1)] at hv
  rw [stepW_1 h1, stepF_1 h1]; exact h.row hv
 by_cases h2 : l.kind = 2
 ·rw [if_pos (.inr h2)] at hv
  rw [stepW_2 h1 h2, stepF_2 h1 h2]; exact h.row hv
 rw [if_neg (by omega)] at hv
 have h3 := (h.place (hv l.a (by simp))).place (hv l.b (by simp))
 unfold stepW stepF
 rw [if_neg h1, if_neg h1, if_neg h2, if_neg h2]
 exact h3
theorem bodyStep_q (lim : Nat) (vars : List ByteArray) (a : BS) (l : Lt) : ((bodyStep lim vars a l).ts, (bodyStep lim vars a l).bad) = (stepF lim vars (a.ts, a.bad) l).2 := by
 by_cases h1 : (stepF lim vars (a.ts, a.bad) l).1.kind = 1
 ·rw [bodyStep_1 h1]
 by_cases h2 : (stepF lim vars (a.ts, a.bad) l).1.kind = 2
 ·rw [bodyStep_2 h1 h2]
 ·rw [bodyStep_3 h1 h2]
theorem Both.body {lim : Nat} {vars : List ByteArray} {L : List Tm} {ts : List Tm} {bad : Int} {body : List Lt} (hv : ∀ l ∈ body, ∀ s ∈ stepSl l, HasV vars s) (h : Both lim L (ts, bad)) : ∀ i, i ≤ body.length → Both lim (passW vars L body i) ((bodyTo lim vars ts bad body i).ts, (bodyTo lim vars ts bad body i).bad)
 | 0, _ => h
 | i + 1, hi => by
  have ih := Both.body hv h i (by omega)
  have hx := List.getElem?_eq_getElem (show i < body.length by omega)
  rw [passW_succ hx, bodyTo_succ hx, bodyStep_q]
  exact ih.step (hv _ (List.getElem_mem _))
theorem idxT_mem {L : List Tm} {t : Tm} (h : t ∈ L) : ∃ n, idxT L t = some n := by
 cases e : idxT L t with
 | some n => exact ⟨n, rfl⟩
 | none => exact absurd h (idxT_none e)
theorem idxT_app {L M : List Tm} {t : Tm} {n : Nat} (h : idxT L t = some n) : idxT (L ++ M) t = some n := by
 unfold idxT at h ⊢
 rw [List.findIdx?_append, h]
 rfl
theorem numF_in {L : List Tm} {t : Tm} {n : Nat} (h : idxT L t = some n) : numF L t = (n + 1, L) := by unfold numF; rw [h]
theorem numF_pre (L : List Tm) (t : Tm) : L <+: (numF L t).2 := by
 unfold numF
 cases idxT L t with
 | some n => exact List.prefix_refl _
 | none => exact List.prefix_append _ _
theorem numF_mem (L : List Tm) (t : Tm) : idxT (numF L t).2 t = some ((numF L t).1 - 1) ∧ 0 < (numF L t).1 := by
 unfold numF
 cases e : idxT L t with
 | some n => exact ⟨e, Nat.succ_pos _⟩
 | none =>
  refine ⟨?_, Nat.succ_pos _⟩
  have h2 := e
  unfold idxT at e ⊢
  rw [List.findIdx?_append, e]
  simp [List.findIdx?_cons, tmEq_iff.2]
theorem placeW_pre (vars : List ByteArray) (L : List Tm) (s : Sl) : L <+: (placeW vars L s).2 := by
 unfold placeW
 split
 ·exact List.prefix_refl _
 ·exact numF_pre _ _
theorem rowW_pre (vars : List ByteArray) (L : List Tm) (p : Pt) : L <+: (rowW vars L p).2 := ((placeW_pre _ _ _).trans (placeW_pre _ _ _)).trans (placeW_pre _ _ _)
theorem stepW_pre (vars : List ByteArray) (L : List Tm) (l : Lt) : L <+: (stepW vars L l).2 := by
 unfold stepW
 split
 ·exact rowW_pre _ _ _
 ·split
  ·exact rowW_pre _ _ _
  ·exact (placeW_pre _ _ _).trans (placeW_pre _ _ _)
def Got (L : List Tm) (s : Sl) : Prop := emp s.v = true → s.t ∈ L
theorem Got.mono {L L' : List Tm} {s : Sl} (h : Got L s) (hp : L <+: L') : Got L' s := fun he => hp.subset (h he)
theorem placeW_got {vars : List ByteArray} {L : List Tm} {s : Sl} (hv : HasV vars s) (h : Got L s) : (placeW vars L s).2 = L := by
 cases he : emp s.v with
 | false => obtain ⟨i, hi⟩ := hv he; rw [placeW_v he hi]
 | true =>
  obtain ⟨n, hn⟩ := idxT_mem (h he)
  rw [placeW_t (.inl he), numF_in hn]
theorem placeW_puts (vars : List ByteArray) (L : List Tm) (s : Sl) : Got (placeW vars L s).2 s := fun he => by
 rw [placeW_t (.inl he)]
 exact List.mem_of_getElem? (idxT_some (numF_mem L s.t).1)
theorem placeW_same {vars : List ByteArray} {L L' : List Tm} {s : Sl} (hp : (placeW vars L s).2 <+: L') : (placeW vars L' s).1 = (placeW vars L s).1 := by
 unfold placeW at hp ⊢
 split at hp
 ·rfl
 ·obtain ⟨M, rfl⟩ := hp
  obtain ⟨h1, h2⟩ := numF_mem L s.t
  simp only at h1 ⊢
  rw [numF_in (idxT_app h1)]
  simp only
  rw [Nat.sub_add_cancel h2]
theorem rowW_got {vars : List ByteArray} {L : List Tm} {p : Pt} (hv : ∀ s ∈ sl3 p, HasV vars s) (h : ∀ s ∈ sl3 p, Got L s) : (rowW vars L p).2 = L := by
 have h0 := placeW_got (hv p.s0 (by simp [sl3])) (h p.s0 (by simp [sl3]))
 have h1 := placeW_got (hv p.s1 (by simp [sl3])) (h p.s1 (by simp [sl3]))
 have h2 := placeW_got (hv p.s2 (by simp [sl3])) (h p.s2 (by simp [sl3]))
 unfold rowW
 simp only
 rw [h0, h1, h2]
theorem rowW_puts {vars : List ByteArray} {L : List Tm} {p : Pt} : ∀ s ∈ sl3 p, Got (rowW vars L p).2 s := by
 intro s hs
 simp only [sl3, List.mem_cons, List.not_mem_nil, or_false] at hs
 rcases hs with rfl | rfl | rfl
 ·exact (placeW_puts vars L p.s0).mono ((placeW_pre _ _ _).trans (placeW_pre _ _ _))
 ·exact (placeW_puts vars (placeW vars L p.s0).2 p.s1).mono (placeW_pre _ _ _)
 ·exact placeW_puts _ _ _
theorem stepW_got {vars : List ByteArray} {L : List Tm} {l : Lt} (hv : ∀ s ∈ stepSl l, HasV vars s) (h : ∀ s ∈ stepSl l, Got L s) : (stepW vars L l).2 = L := by
 unfold stepSl at hv h
 unfold stepW
 by_cases h1 : l.kind = 1
 ·rw [if_pos (.inl h1)] at hv h
  rw [if_pos h1]
  exact rowW_got hv h
 by_cases h2 : l.kind = 2
 ·rw [if_pos (.inr h2)] at hv h
  rw [if_neg h1, if_pos h2]
  exact rowW_got hv h
 rw [if_neg (by omega)] at hv h
 rw [if_neg h1, if_neg h2]
 have h3 := placeW_got (hv l.a (by simp)) (h l.a (by simp))
 have h4 := placeW_got (hv l.b (by simp)) (h l.b (by simp))
 simp only
 rw [h3, h4]
theorem stepW_puts {vars : List ByteArray} {L : List Tm} {l : Lt} : ∀ s ∈ stepSl l, Got (stepW vars L l).2 s := by
 intro s hs
 unfold stepSl at hs
 unfold stepW
 by_cases h1 : l.kind = 1
 ·rw [if_pos (.inl h1)] at hs
  rw [if_pos h1]
  exact rowW_puts s hs
 by_cases h2 : l.kind = 2
 ·rw [if_pos (.inr h2)] at hs
  rw [if_neg h1, if_pos h2]
  exact rowW_puts s hs
 rw [if_neg (by omega)] at hs
 rw [if_neg h1, if_neg h2]
 simp only [List.mem_cons, List.not_mem_nil, or_false] at hs
 rcases hs with rfl | rfl
 ·exact (placeW_puts vars L l.a).mono (placeW_pre _ _ _)
 ·exact placeW_puts _ _ _
theorem passW_pre {vars : List ByteArray} {L : List Tm} {body : List Lt} {i : Nat} (hi : i < body.length) : passW vars L body i <+: passW vars L body (i + 1) := by
 rw [passW_succ (List.getElem?_eq_getElem hi)]
 exact stepW_pre _ _ _
theorem passW_mono {vars : List ByteArray} {L : List Tm} {body : List Lt} {i : Nat} : ∀ (d : Nat), i + d ≤ body.length → passW vars L body i <+: passW vars L body (i + d)
 | 0, _ => List.prefix_refl _
 | d + 1, h => (passW_mono d (by omega)).trans (passW_pre (by omega))
theorem passW_puts {vars : List ByteArray} {L : List Tm} {body : List Lt} : ∀ l ∈ body, ∀ s ∈ stepSl l, Got (passW vars L body body.length) s := by
 intro l hl s hs
 obtain ⟨i, hi, rfl⟩ := List.mem_iff_getElem.1 hl
 have h1 : Got (passW vars L body (i + 1)) s := by
  rw [passW_succ (List.getElem?_eq_getElem hi)]
  exact stepW_puts s hs
 have h2 := passW_mono (vars := vars) (L := L) (body := body) (i := i + 1) (body.length - (i + 1)) (by omega)
 rw [show i + 1 + (body.length - (i + 1)) = body.length by omega] at h2
 exact h1.mono h2
theorem stepsW_got {vars : List ByteArray} {L : List Tm} {ps : List Lt} (hv : ∀ l ∈ ps, ∀ s ∈ stepSl l, HasV vars s) (h : ∀ l ∈ ps, ∀ s ∈ stepSl l, Got L s) : ∀ i, i ≤ ps.length → (stepsW vars L ps i).2 = L ∧ (stepsW vars L ps i).1 = (ps.take i).map (fun l => (stepW vars L l).1)
 | 0, _ => ⟨rfl, rfl⟩
 | i + 1, hi => by
  obtain ⟨h1, h2⟩ := stepsW_got hv h i (by omega)
  have hx := List.getElem?_eq_getElem (show i < ps.length by omega)
  have hm : ps[i] ∈ ps := List.getElem_mem _
  rw [stepsW_succ hx]
  unfold stepStW
  simp only
  rw [h1, h2, List.take_add_one, hx]
  exact ⟨stepW_got (hv _ hm) (h _ hm), by rw [List.map_append]; rfl⟩
theorem mAt_mem {ms : List Lt} {good : Bool} {order : List Int} {p : Nat} (hp : p < ms.length) (hg : good = true → goodF ms.length order = true) : mAt ms good order p ∈ ms := by
 unfold mAt
 split
 ·rename_i h
  obtain ⟨h1, h2⟩ := good_range (hg h)
  have hz := List.getElem?_eq_getElem (show p < order.length by omega)
  have h3 := h2 _ (List.getElem_mem (show p < order.length by omega))
  rw [show order.getD p 0 = order[p] by rw [List.getD, hz]; rfl, List.getD, List.getElem?_eq_getElem (show (order[p]).toNat < ms.length by omega)]
  exact List.getElem_mem _
 ·rw [List.getD, List.getElem?_eq_getElem hp]
  exact List.getElem_mem _
theorem st_all {P : Lt → Prop} {ms : List Lt} {good : Bool} {order : List Int} {q : PS} (hg : good = true → goodF ms.length order = true) (hm : ∀ l ∈ ms, P l) (hw : ∀ l ∈ q.wt ++ q.out, P l) : ∀ i, i ≤ ms.length + 1 → ∀ l ∈ (stW ms good order q i).wt ++ (stW ms good order q i).out, P l
 | 0, _ => hw
 | i + 1, hi => by
  have ih := st_all hg hm hw i (by omega)
  have h1 : ∀ l ∈ (preW ms good order (stW ms good order q i) i).wt ++ (preW ms good order (stW ms good order q i) i).out, P l := by
   rcases i with _ | p
   ·exact ih
   ·intro l hl
    simp only [preW, List.mem_append, List.mem_singleton] at hl
    rcases hl with h | h | rfl
    ·exact ih l (List.mem_append_left _ h)
    ·exact ih l (List.mem_append_right _ h)
    ·exact hm _ (mAt_mem (by omega) hg)
  intro l hl
  simp only [stW, flushW, List.mem_append, List.mem_filter] at hl
  rcases hl with h | h | h
  ·exact h1 l (List.mem_append_left _ h.1)
  ·exact h1 l (List.mem_append_right _ h)
  ·exact h1 l (List.mem_append_left _ h.1)
theorem parts_mem {body : List Lt} {order : List Int} : ∀ l ∈ partsW body order, l ∈ body := by
 intro l hl
 refine st_all (P := fun l => l ∈ body) (ms := body.filter isMt) (good := goodF (body.filter isMt).length order) (order := order) (q := ⟨[], waitL body, []⟩) id (fun l h => (List.mem_filter.1 h).1) (fun l h => ?_) _ (Nat.le_refl _) l (List.mem_append_right _ hl)
 simp only [waitL, List.append_nil, List.mem_append, List.mem_filter] at h
 rcases h with h | h <;> exact h.1
theorem bodyW_end {vars : List ByteArray} {L : List Tm} {body : List Lt} {order : List Int} (hv : ∀ l ∈ body, ∀ s ∈ stepSl l, HasV vars s) : (bodyW vars L body order).2 = passW vars L body body.length ∧ (bodyW vars L body order).1 = (partsW body order).map (fun l => (stepW vars (passW vars L body body.length) l).1) := by
 have := stepsW_got (vars := vars) (L := passW vars L body body.length) (ps := partsW body order) (fun l hl => hv l (parts_mem l hl)) (fun l hl => passW_puts l (parts_mem l hl)) _ (Nat.le_refl _)
 rw [List.take_length] at this
 exact this
theorem idxN_in {xs : List ByteArray} {s : ByteArray} (h : inB xs s = true) : ∃ i, idxN xs s = some i := by
 have h1 := idxB_in xs s
 rw [h, decide_eq_true_eq] at h1
 unfold idxB at h1
 cases e : idxN xs s with
 | some n => exact ⟨n, rfl⟩
 | none => rw [e] at h1; simp only at h1; omega
theorem inB_app {xs : List ByteArray} {s y : ByteArray} (h : inB xs s = true) : inB (xs ++ [y]) s = true := by
 unfold inB at h ⊢
 rw [List.any_append, h]
 rfl
theorem dd_has (q : List Sl) : ∀ i, i ≤ q.length → ∀ s ∈ q.take i, emp s.v = false → inB (dd (q.take i)) s.v = true
 | 0, _ => fun s hs => by simp at hs
 | i + 1, hi => by
  have ih := dd_has q i (by omega)
  have hx := List.getElem?_eq_getElem (show i < q.length by omega)
  intro s hs he
  rw [dd_succ hx]
  rw [List.take_add_one, hx] at hs
  have hself : ∀ x : Sl, inB (dd (q.take i) ++ [x.v]) x.v = true := fun x => by
   unfold inB eqB
   rw [List.any_append]
   simp
  rcases List.mem_append.1 hs with h | h
  ·have h1 := ih s h he
   cases h2 : emp q[i].v with
   | true => rw [ddStep_no1 h2]; exact h1
   | false =>
    cases h3 : inB (dd (q.take i)) q[i].v with
    | true => rw [ddStep_no2 h3]; exact h1
    | false => rw [ddStep_yes h2 h3]; exact inB_app h1
  ·have e : s = q[i] := by simpa using h
   subst e
   cases h3 : inB (dd (q.take i)) q[i].v with
   | true => rw [ddStep_no2 h3]; exact h3
   | false => rw [ddStep_yes he h3]; exact hself _
theorem hasV_of {q : List Sl} {s : Sl} (h : s ∈ q) : HasV (dd q) s := fun he => idxN_in (by
 have := dd_has q q.length (Nat.le_refl _) s (by rw [List.take_length]; exact h) he
 rwa [List.take_length] at this)
theorem stepSl_slots (l : Lt) : stepSl l = slotsOf l := by
 unfold stepSl slotsOf
 by_cases h : l.kind = 1 ∨ l.kind = 2
 ·rw [if_pos h]
  have : (decide (l.kind = 1) || decide (l.kind = 2)) = true := by simpa using h
  rw [this]
  rfl
 ·rw [if_neg h]
  have : (decide (l.kind = 1) || decide (l.kind = 2)) = false := by simpa using h
  rw [this]
  rfl
end Go.Proofs.YtfddkcmooommeaaGreatDoor.Gl
end
section
namespace Go.Proofs.YtfddkcmooommeaaGreatDoor.Gl
open Go.Shelf
set_option linter.unusedVariables false
set_option linter.unnecessarySimpa false
set_option linter.unusedSimpArgs false
def tryzRen189 : Go.Shelf.Ren := ⟨fun | 189 => 88 | 125 => 110 | 257 => 109 | 128 => 134 | 129 => 135 | 294 => 125 | 295 => 126 | 296 => 127 | 297 => 128 | 298 => 129 | 299 => 130 | 216 => 131 | 300 => 132 | 301 => 133 | 328 => 144 | 329 => 145 | 330 => 146 | 331 => 147 | 332 => 148 | 215 => 149 | 343 => 157 | n => n, fun | 28 => 32 | 3 => 3 | 46 => 149 | 0 => 0 | 51 => 35 | 53 => 192 | 4 => 4 | 183 => 183 | 182 => 182 | 131 => 188 | 5 => 5 | 9 => 9 | 218 => 198 | 222 => 202 | 228 => 208 | 229 => 168 | n => n, fun | n => n⟩
theorem Tryz_lays189 : Go.Proofs.Lays.n189 Tryz.prog tryzRen189 := {
 mixed := by kernel_rfl
 f125 := Tryz.func110.trans (congrArg some (by kernel_rfl))
 f128 := Tryz.func134.trans (congrArg some (by kernel_rfl))
 f129 := Tryz.func135.trans (congrArg some (by kernel_rfl))
 f189 := Tryz.func88.trans (congrArg some (by kernel_rfl))
 f215 := Tryz.func149.trans (congrArg some (by kernel_rfl))
 f216 := Tryz.func131.trans (congrArg some (by kernel_rfl))
 f257 := Tryz.func109.trans (congrArg some (by kernel_rfl))
 f294 := Tryz.func125.trans (congrArg some (by kernel_rfl))
 f295 := Tryz.func126.trans (congrArg some (by kernel_rfl))
 f296 := Tryz.func127.trans (congrArg some (by kernel_rfl))
 f297 := Tryz.func128.trans (congrArg some (by kernel_rfl))
 f298 := Tryz.func129.trans (congrArg some (by kernel_rfl))
 f299 := Tryz.func130.trans (congrArg some (by kernel_rfl))
 f300 := Tryz.func132.trans (congrArg some (by kernel_rfl))
 f301 := Tryz.func133.trans (congrArg some (by kernel_rfl))
 f328 := Tryz.func144.trans (congrArg some (by kernel_rfl))
 f329 := Tryz.func145.trans (congrArg some (by kernel_rfl))
 f330 := Tryz.func146.trans (congrArg some (by kernel_rfl))
 f331 := Tryz.func147.trans (congrArg some (by kernel_rfl))
 f332 := Tryz.func148.trans (congrArg some (by kernel_rfl))
 f343 := Tryz.func157.trans (congrArg some (by kernel_rfl))
 t0 := Tryz.underlying0
 a0 := Tryz.isAgg0
 z0 := Tryz.sizeOf0
 v0 := Tryz.zeroValue0
 t3 := Tryz.underlying3
 a3 := Tryz.isAgg3
 z3 := Tryz.sizeOf3
 v3 := Tryz.zeroValue3
 t4 := Tryz.underlying4
 a4 := Tryz.isAgg4
 z4 := Tryz.sizeOf4
 v4 := Tryz.zeroValue4
 t5 := Tryz.underlying5
 a5 := Tryz.isAgg5
 z5 := Tryz.sizeOf5
 v5 := Tryz.zeroValue5
 t9 := Tryz.underlying9
 a9 := Tryz.isAgg9
 z9 := Tryz.sizeOf9
 v9 := Tryz.zeroValue9
 t28 := Tryz.underlying32
 a28 := Tryz.isAgg32
 z28 := Tryz.sizeOf32
 v28 := Tryz.zeroValue32
 t46 := Tryz.underlying149
 a46 := Tryz.isAgg149
 z46 := Tryz.sizeOf149
 v46 := Tryz.zeroValue149
 t51 := Tryz.underlying35
 a51 := Tryz.isAgg35
 z51 := Tryz.sizeOf35
 v51 := Tryz.zeroValue35
 t53 := Tryz.underlying192
 a53 := Tryz.isAgg192
 z53 := Tryz.sizeOf192
 v53 := Tryz.zeroValue192
 t131 := Tryz.underlying188
 a131 := Tryz.isAgg188
 z131 := Tryz.sizeOf188
 v131 := Tryz.zeroValue188
 t182 := Tryz.underlying182
 a182 := Tryz.isAgg182
 z182 := Tryz.sizeOf182
 v182 := Tryz.zeroValue182
 t183 := Tryz.underlying183
 a183 := Tryz.isAgg183
 z183 := Tryz.sizeOf183
 v183 := Tryz.zeroValue183
 t218 := Tryz.underlying198
 a218 := Tryz.isAgg198
 z218 := Tryz.sizeOf198
 v218 := Tryz.zeroValue198
 t222 := Tryz.underlying202
 a222 := Tryz.isAgg202
 z222 := Tryz.sizeOf202
 v222 := Tryz.zeroValue202
 t228 := Tryz.underlying208
 a228 := Tryz.isAgg208
 z228 := Tryz.sizeOf208
 v228 := Tryz.zeroValue208
 t229 := Tryz.underlying168
 a229 := Tryz.isAgg168
 z229 := Tryz.sizeOf168
 v229 := Tryz.zeroValue168 }
end Go.Proofs.YtfddkcmooommeaaGreatDoor.Gl
end
section
namespace Go.Proofs.YtfddkcmooommeaaGreatDoor.Gl
open Go.RowKit Go.Shelf Go.Sort
set_option linter.unusedVariables false
set_option linter.unnecessarySimpa false
set_option linter.unusedSimpArgs false
attribute [-simp] List.getD_eq_getElem?_getD
def srtZ (xs : List Int) : List Int := xs.mergeSort fun x y => decide (x ≤ y)
theorem srtZ_perm (xs : List Int) : (srtZ xs).Perm xs := List.mergeSort_perm _ _
theorem srtZ_len (xs : List Int) : (srtZ xs).length = xs.length := (srtZ_perm xs).length_eq
theorem srtZ_mem {xs : List Int} {z : Int} : z ∈ srtZ xs ↔ z ∈ xs := (srtZ_perm xs).mem_iff
theorem Sat.grow {w0 : World} {G : Hp} {w : World} (h : Sat w0 G w) (os : Array Obj) : Sat w0 G (Sort.grow w os) := by
 have hlt : ∀ i, i < w.heap.size → (Sort.grow w os).heap[i]? = w.heap[i]? := fun i hi => heap_grow_old w os hi
 refine ⟨h.below.trans ⟨rfl, rfl, rfl, by simp, fun i hi => hlt i (by have := h.below.size; omega)⟩, fun b k hm => ?_, h.nodup, fun b o _ _ => trivial⟩
 obtain ⟨h1, h2⟩ := h.own b k hm
 exact ⟨h1, by rw [hlt b (h.lt hm)]; exact h2⟩
theorem zC_at {xs : List Int} {j : Nat} (h : j < xs.length) : (zC xs)[j]? = some (.int .i64 xs.toArray[j]!) := by
 unfold zC
 simp [h]
theorem holds_row {w0 : World} {G : Hp} {w : World} (hs : Sat w0 G w) {b room : Nat} {xs : List Int} (hm : (b, Know.row (zC xs) 3 room) ∈ G) : Holds (Value.int .i64) w b 0 xs.toArray := by
 obtain ⟨_, C, hC, hr, hh⟩ := hs.own b _ hm
 intro j hj
 have hj' : j < xs.length := by simpa using hj
 refine ⟨?_, by simp [World.frozen?, hC]⟩
 have := hh j _ (zC_at hj')
 simp [World.cell?, hC, this]
theorem sort_own (w0 : World) (G : Hp) (b cap room : Nat) (xs : List Int) (hroom : xs.length ≤ room) (hm : xs.length ≤ 100000) :
  GC Tryz.prog w0 88 #[.slice (some ⟨b, 0, none⟩) xs.length cap] (fun v G' => v = .tuple #[] ∧ (b, Know.row (zC (srtZ xs)) 3 room) :: G = G') ((b, .row (zC xs) 3 room) :: G) := by
 refine ⟨enters_of Tryz.func88 (by kernel_rfl) rfl, fun n w hs => ?_⟩
 have hblk : b < w.heap.size := hs.lt List.mem_cons_self
 have hH := holds_row hs List.mem_cons_self
 have h := Any.slices_Sort_int Tryz_lays189 b 0 cap xs w hH hblk (by omega)
 refine (callsIn_wide.2 h).mono ?_
 rintro e w' ⟨rfl, k, os, rfl⟩
 refine ⟨_, _, rfl, ?_, rfl, rfl⟩
 refine Sat.grow ?_ os
 obtain ⟨_, C, hC, hr, hh⟩ := hs.own b _ List.mem_cons_self
 refine Sat.turn (G1 := []) (k := .row (zC xs) 3 room) (w := w) hs rfl rfl rfl (by simp) (fun i hi => ?_) ?_
 ·simp [putRow, mapBlock, Sort.ahead, Array.getElem?_modify, Ne.symm hi]
 ·refine ⟨putCells (Value.int .i64) 0 (srtZ xs).toArray C, ?_, ?_, ?_⟩
  ·simp [putRow, mapBlock, Sort.ahead, Array.getElem?_modify, hC, onCells, srtZ]
  ·simp [putCells, hr]
  ·intro j v hv
   have hj : j < (srtZ xs).length := by
    have := (List.getElem?_eq_some_iff.1 hv).1
    simpa [zC] using this
   rw [zC_at hj] at hv
   cases hv
   have hj2 : j < C.size := by have := srtZ_len xs; omega
   simp [putCells, hj, hj2]
theorem sorted_own (w0 : World) (G : Hp) (A : Option Addr) (xs : List Int) (c b1 : Nat) (hb1 : (b1, Know.exact (.cells #[.slice A xs.length c] 32 (0, 0))) ∈ G) (hx : IntsAt w0 G A xs) (hm : xs.length ≤ 100000) :
  GC Tryz.prog w0 57 #[.func (.func 89) #[] #[.pointer (some ⟨b1, 0, none⟩)]] (fun v G' => ∃ H, SlAt 1 3 (zC (srtZ xs)) (srtZ xs).length v H ∧ H ++ G = G') G := by
 refine GC.body (args := [.func (.func 89) #[] #[.pointer (some ⟨b1, 0, none⟩)]]) Tryz.func57 rfl (by kernel_rfl) rfl ?_
 refine GW.seq ?_
 refine GW.region ?_
 refine R.assign ⟨Z,Z,Z,Z⟩ Z ?_
 refine GOps.nil ?_
 refine GW.seq ?_
 refine GW.region ?_
 refine R.move ⟨Z,Z,Z,Z⟩ Z ?_
 refine R.call ⟨Z,Z,Z,Z⟩ Z (vs := [_]) Z ((sl_Collect _ _ A xs c b1 hb1 hx hm).mono ?_)
 rintro v5 _ ⟨H5, h5, rfl⟩
 refine R.assign ⟨Z,Z,Z,Z⟩ Z ?_
 refine GOps.nil ?_
 refine GW.seq ?_
 refine GW.region ?_
 refine R.move ⟨Z,Z,Z,Z⟩ Z ?_
 rcases Nat.eq_zero_or_pos xs.length with h0 | h0
 ·obtain ⟨rfl, rfl⟩ := h5.2 h0
  obtain rfl := List.length_eq_zero_iff.1 h0
  refine R.call ⟨Z,Z,Z,Z⟩ Z (vs := [_]) Z ((sort_0 _ _).mono ?_)
  rintro _ _ ⟨rfl, rfl⟩
  refine GOps.nil ?_
  refine GW.seq ?_
  refine GW.region ?_
  refine R.move ⟨Z,Z,Z,Z⟩ Z ?_
  refine R.assign ⟨Z,Z,Z,Z⟩ Z ?_
  refine GOps.nil ?_
  exact GW.ret (Out.of (Res.one rfl rfl) (Hs.refl _) ⟨[], .nil (by rw [srtZ_len]; rfl) (by rw [show srtZ [] = [] from List.length_eq_zero_iff.1 (by rw [srtZ_len]; rfl)]; rfl), rfl⟩)
 ·obtain ⟨bn, cn, rfl, rfl, hcn⟩ := h5.1.row_of h0
  refine R.call ⟨Z,Z,Z,Z⟩ Z (vs := [_]) Z ((sort_own _ G bn cn (cn * 1) xs (by omega) hm).mono ?_)
  rintro _ _ ⟨rfl, rfl⟩
  refine GOps.nil ?_
  refine GW.seq ?_
  refine GW.region ?_
  refine R.move ⟨Z,Z,Z,Z⟩ Z ?_
  refine R.assign ⟨Z,Z,Z,Z⟩ Z ?_
  refine GOps.nil ?_
  refine GW.ret (Out.of (Res.one Z Z) (Hs.refl _) ⟨[(bn, .row (zC (srtZ xs)) 3 (cn * 1))], ?_, Z⟩)
  rw [srtZ_len]
  exact .row bn cn (by rw [Nat.mul_one, ← srtZ_len xs]; simp [zC]) hcn
end Go.Proofs.YtfddkcmooommeaaGreatDoor.Gl
end
section
namespace Go.Proofs.YtfddkcmooommeaaGreatDoor.Gl
open Go.RowKit Go.Shelf
set_option linter.unusedVariables false
set_option linter.unnecessarySimpa false
set_option linter.unusedSimpArgs false
attribute [-simp] List.getD_eq_getElem?_getD
theorem pl_bad0 {lim : Nat} {vars : List ByteArray} {q : List Tm × Int} {s : Sl} (h : (placeF lim vars q s).2.2 = 0) : q.2 = 0 := by
 cases he : emp s.v with
 | false => rw [placeF_var he] at h; exact h
 | true =>
  by_cases hq : q.2 = 0
  ·exact hq
  ·rw [placeF_t1 he hq] at h; exact h
theorem place_same {lim : Nat} {vars : List ByteArray} {L : List Tm} {q : List Tm × Int} {s : Sl} (hv : HasV vars s) (h : Both lim L q) (h0 : (placeF lim vars q s).2.2 = 0) : (placeF lim vars q s).1 = (placeW vars L s).1 := by
 cases he : emp s.v with
 | false =>
  obtain ⟨i, hi⟩ := hv he
  rw [placeW_v he hi, placeF_var he, idxB_some hi]
 | true =>
  have hq := pl_bad0 h0
  rw [placeF_t0 he hq] at h0 ⊢
  rw [placeW_t (.inl he)]
  rcases h with ⟨_, rfl, _⟩ | ⟨h1, _⟩
  ·unfold internF at h0 ⊢
   unfold numF
   cases hx : idxT q.1 s.t with
   | some n => rfl
   | none =>
    rw [hx] at h0
    simp only at h0 ⊢
    by_cases hl : lim ≤ q.1.length
    ·rw [if_pos hl] at h0; simp at h0
    ·rw [if_neg hl]
  ·omega
theorem row_same {lim : Nat} {vars : List ByteArray} {L : List Tm} {q : List Tm × Int} {p : Pt} (hv : ∀ s ∈ sl3 p, HasV vars s) (h : Both lim L q) (h0 : (rowF lim vars q p).2.2 = 0) : (rowF lim vars q p).1 = (rowW vars L p).1 := by
 have hv0 := hv p.s0 (by simp [sl3])
 have hv1 := hv p.s1 (by simp [sl3])
 have hv2 := hv p.s2 (by simp [sl3])
 have b2 : (placeF lim vars (placeF lim vars (placeF lim vars q p.s0).2 p.s1).2 p.s2).2.2 = 0 := h0
 have b1 := pl_bad0 b2
 have b0 := pl_bad0 b1
 unfold rowF rowW
 simp only
 rw [place_same hv0 h b0, place_same hv1 (h.place hv0) b1, place_same hv2 ((h.place hv0).place hv1) b2]
theorem row_bad {lim : Nat} {vars : List ByteArray} {q : List Tm × Int} {p : Pt} (h : (rowF lim vars q p).2.2 = 0) : q.2 = 0 := pl_bad0 (pl_bad0 (pl_bad0 h))
def kd (l : Lt) : Prop := l.kind = 1 ∨ l.kind = 2 ∨ l.kind = 3 ∨ l.kind = 4
theorem kd_may {l : Lt} (h : mayLt l = true) : kd l := by
 unfold mayLt at h
 unfold kd
 by_cases h1 : l.kind = 1
 ·exact .inl h1
 by_cases h2 : l.kind = 2
 ·exact .inr (.inl h2)
 by_cases h3 : l.kind = 3
 ·exact .inr (.inr (.inl h3))
 by_cases h4 : l.kind = 4
 ·exact .inr (.inr (.inr h4))
 simp [h1, h2, h3, h4] at h
theorem step_bad {lim : Nat} {vars : List ByteArray} {q : List Tm × Int} {l : Lt} (h : (stepF lim vars q l).2.2 = 0) : q.2 = 0 := by
 by_cases h1 : l.kind = 1
 ·rw [stepF_1 h1] at h; exact row_bad h
 by_cases h2 : l.kind = 2
 ·rw [stepF_2 h1 h2] at h; exact row_bad h
 by_cases h3 : l.kind = 3
 ·rw [stepF_3 h1 h2 h3] at h; exact pl_bad0 (pl_bad0 h)
 ·rw [stepF_4 h1 h2 h3] at h; exact pl_bad0 (pl_bad0 h)
theorem stepSl_r {l : Lt} (h : l.kind = 1 ∨ l.kind = 2) : stepSl l = sl3 l.pat := by unfold stepSl; rw [if_pos h]
theorem stepSl_ab {l : Lt} (h1 : ¬ l.kind = 1) (h2 : ¬ l.kind = 2) : stepSl l = [l.a, l.b] := by unfold stepSl; rw [if_neg (by omega)]
theorem step_same {lim : Nat} {vars : List ByteArray} {L : List Tm} {q : List Tm × Int} {l : Lt} (hk : kd l) (hv : ∀ s ∈ stepSl l, HasV vars s) (h : Both lim L q) (h0 : (stepF lim vars q l).2.2 = 0) : (stepF lim vars q l).1 = (stepW vars L l).1 := by
 by_cases h1 : l.kind = 1
 ·rw [stepSl_r (.inl h1)] at hv
  rw [stepF_1 h1] at h0 ⊢
  rw [stepW_1 h1]
  simp only
  rw [row_same hv h h0]
 by_cases h2 : l.kind = 2
 ·rw [stepSl_r (.inr h2)] at hv
  rw [stepF_2 h1 h2] at h0 ⊢
  rw [stepW_2 h1 h2]
  simp only
  rw [row_same hv h h0]
 rw [stepSl_ab h1 h2] at hv
 have hva := hv l.a (by simp)
 have hvb := hv l.b (by simp)
 by_cases h3 : l.kind = 3
 ·rw [stepF_3 h1 h2 h3] at h0 ⊢
  rw [stepW_3 h1 h2 (by omega)]
  have b1 : (placeF lim vars (placeF lim vars q l.a).2 l.b).2.2 = 0 := h0
  simp only
  rw [place_same hva h (pl_bad0 b1), place_same hvb (h.place hva) b1]
 ·have h4 : l.kind = 4 := by rcases hk with h | h | h | h <;> first | contradiction | exact h
  rw [stepF_4 h1 h2 h3] at h0 ⊢
  rw [stepW_4 h1 h2 h4]
  have b1 : (placeF lim vars (placeF lim vars q l.a).2 l.b).2.2 = 0 := h0
  simp only
  rw [place_same hva h (pl_bad0 b1), place_same hvb (h.place hva) b1]
theorem placeW_got' {vars : List ByteArray} {L L' : List Tm} {s : Sl} (hv : HasV vars s) (hp : (placeW vars L s).2 <+: L') : (placeW vars L' s).2 = L' := placeW_got hv ((placeW_puts vars L s).mono hp)
theorem rowW_same {vars : List ByteArray} {L L' : List Tm} {p : Pt} (hv : ∀ s ∈ sl3 p, HasV vars s) (hp : (rowW vars L p).2 <+: L') : (rowW vars L' p).1 = (rowW vars L p).1 := by
 have hv0 := hv p.s0 (by simp [sl3])
 have hv1 := hv p.s1 (by simp [sl3])
 have hv2 := hv p.s2 (by simp [sl3])
 have c2 : (placeW vars (placeW vars (placeW vars L p.s0).2 p.s1).2 p.s2).2 <+: L' := hp
 have c1 : (placeW vars (placeW vars L p.s0).2 p.s1).2 <+: L' := (placeW_pre _ _ _).trans c2
 have c0 : (placeW vars L p.s0).2 <+: L' := (placeW_pre _ _ _).trans c1
 unfold rowW
 simp only
 rw [placeW_same c0, placeW_got' hv0 c0, placeW_same c1, placeW_got' hv1 c1, placeW_same c2]
theorem stepW_same {vars : List ByteArray} {L L' : List Tm} {l : Lt} (hv : ∀ s ∈ stepSl l, HasV vars s) (hp : (stepW vars L l).2 <+: L') : (stepW vars L' l).1 = (stepW vars L l).1 := by
 by_cases h1 : l.kind = 1
 ·rw [stepSl_r (.inl h1)] at hv
  rw [stepW_1 h1] at hp ⊢
  rw [stepW_1 h1]
  simp only
  rw [rowW_same hv hp]
 by_cases h2 : l.kind = 2
 ·rw [stepSl_r (.inr h2)] at hv
  rw [stepW_2 h1 h2] at hp ⊢
  rw [stepW_2 h1 h2]
  simp only
  rw [rowW_same hv hp]
 rw [stepSl_ab h1 h2] at hv
 have hva := hv l.a (by simp)
 have hvb := hv l.b (by simp)
 by_cases h4 : l.kind = 4
 ·rw [stepW_4 h1 h2 h4] at hp ⊢
  rw [stepW_4 h1 h2 h4]
  have c1 : (placeW vars (placeW vars L l.a).2 l.b).2 <+: L' := hp
  have c0 : (placeW vars L l.a).2 <+: L' := (placeW_pre _ _ _).trans c1
  simp only
  rw [placeW_same c0, placeW_got' hva c0, placeW_same c1]
 ·rw [stepW_3 h1 h2 h4] at hp ⊢
  rw [stepW_3 h1 h2 h4]
  have c1 : (placeW vars (placeW vars L l.a).2 l.b).2 <+: L' := hp
  have c0 : (placeW vars L l.a).2 <+: L' := (placeW_pre _ _ _).trans c1
  simp only
  rw [placeW_same c0, placeW_got' hva c0, placeW_same c1]
def SW (vars : List ByteArray) (L : List Tm) (l : Lt) : St := (stepW vars L l).1
theorem SW_kind {vars : List ByteArray} {L : List Tm} {l : Lt} (hk : kd l) : (SW vars L l).kind = l.kind := by
 unfold SW
 by_cases h1 : l.kind = 1
 ·rw [stepW_1 h1, h1]
 by_cases h2 : l.kind = 2
 ·rw [stepW_2 h1 h2, h2]
 by_cases h4 : l.kind = 4
 ·rw [stepW_4 h1 h2 h4, h4]
 ·rw [stepW_3 h1 h2 h4]
  rcases hk with h | h | h | h <;> first | contradiction | exact h.symm
theorem body_bad {lim : Nat} {vars : List ByteArray} {ts : List Tm} {bad : Int} {body : List Lt} : ∀ (d i : Nat), i + d = body.length → (bodyTo lim vars ts bad body body.length).bad = 0 → (bodyTo lim vars ts bad body i).bad = 0
 | 0, i, h, h0 => by rw [show i = body.length by omega]; exact h0
 | d + 1, i, h, h0 => by
  have ih := body_bad (lim := lim) (vars := vars) (ts := ts) (bad := bad) d (i + 1) (by omega) h0
  rw [bodyTo_succ (List.getElem?_eq_getElem (show i < body.length by omega))] at ih
  have hq := bodyStep_q lim vars (bodyTo lim vars ts bad body i) (body[i]'(by omega))
  have h2 : (stepF lim vars ((bodyTo lim vars ts bad body i).ts, (bodyTo lim vars ts bad body i).bad) (body[i]'(by omega))).2.2 = 0 := by
   rw [← hq]; exact ih
  exact step_bad h2
theorem body_same {lim : Nat} {vars : List ByteArray} {L : List Tm} {ts : List Tm} {bad : Int} {body : List Lt} (hk : ∀ l ∈ body, kd l) (hv : ∀ l ∈ body, ∀ s ∈ stepSl l, HasV vars s) (h : Both lim L (ts, bad)) (h0 : (bodyTo lim vars ts bad body body.length).bad = 0) : ∀ i, i ≤ body.length →
  (bodyTo lim vars ts bad body i).m = (fT isMt body i).map (SW vars (passW vars L body body.length)) ∧ (bodyTo lim vars ts bad body i).w = (fT isCt body i).map (SW vars (passW vars L body body.length)) ∧ (bodyTo lim vars ts bad body i).n = (fT isNt body i).map (SW vars (passW vars L body body.length))
 | 0, _ => ⟨rfl, rfl, rfl⟩
 | i + 1, hi => by
  obtain ⟨i1, i2, i3⟩ := body_same hk hv h h0 i (by omega)
  have hB := Both.body hv h i (by omega)
  have hb := body_bad (body.length - (i + 1)) (i + 1) (by omega) h0
  obtain ⟨l, hl⟩ : ∃ l, body[i]? = some l := ⟨_, List.getElem?_eq_getElem (by omega)⟩
  have hm := List.mem_of_getElem? hl
  have hq := bodyStep_q lim vars (bodyTo lim vars ts bad body i) l
  rw [bodyTo_succ hl] at hb ⊢
  have h2 : (stepF lim vars ((bodyTo lim vars ts bad body i).ts, (bodyTo lim vars ts bad body i).bad) l).2.2 = 0 := by
   rw [← hq]; exact hb
  have hs := step_same (hk l hm) (hv l hm) hB h2
  have hp : (stepW vars (passW vars L body i) l).2 <+: passW vars L body body.length := by
   have := passW_mono (vars := vars) (L := L) (body := body) (i := i + 1) (body.length - (i + 1)) (by omega)
   rw [passW_succ hl, show i + 1 + (body.length - (i + 1)) = body.length by omega] at this
   exact this
  have hs2 : (stepF lim vars ((bodyTo lim vars ts bad body i).ts, (bodyTo lim vars ts bad body i).bad) l).1 = SW vars (passW vars L body body.length) l := by
   rw [hs]; exact (stepW_same (hv l hm) hp).symm
  have hkind := SW_kind (vars := vars) (L := passW vars L body body.length) (hk l hm)
  rw [← hs2] at hkind
  by_cases h1 : l.kind = 1
  ·have e1 : isMt l = true := by simp [isMt, h1]
   have e2 : isCt l = false := by simp [isCt, h1]
   have e3 : isNt l = false := by simp [isNt, h1]
   rw [bodyStep_1 (hkind.trans h1), fT_yes hl e1, fT_no hl e2, fT_no hl e3, List.map_append, hs2]
   exact ⟨by rw [i1]; rfl, i2, i3⟩
  by_cases h2' : l.kind = 2
  ·have e1 : isMt l = false := by simp [isMt, h1]
   have e2 : isCt l = false := by simp [isCt, h2']
   have e3 : isNt l = true := by simp [isNt, h2']
   rw [bodyStep_2 (by rw [hkind]; exact h1) (hkind.trans h2'), fT_no hl e1, fT_no hl e2, fT_yes hl e3, List.map_append, hs2]
   exact ⟨i1, i2, by rw [i3]; rfl⟩
  ·have e1 : isMt l = false := by simp [isMt, h1]
   have e2 : isCt l = true := by
    rcases hk l hm with h | h | h | h <;> first | contradiction | simp [isCt, h]
   have e3 : isNt l = false := by simp [isNt, h2']
   rw [bodyStep_3 (by rw [hkind]; exact h1) (by rw [hkind]; exact h2'), fT_no hl e1, fT_yes hl e2, fT_no hl e3, List.map_append, hs2]
   exact ⟨i1, by rw [i2]; rfl, i3⟩
def KnW (vars : List ByteArray) (kn : List Bool) (tk : List Lt) : Prop := kn.length = vars.length ∧ ∀ (s : ByteArray) i, emp s = false → idxN vars s = some i → kn.getD i false = standsL tk s
theorem idxN_at {vars : List ByteArray} {s : ByteArray} {i : Nat} (h : idxN vars s = some i) : ∃ x, vars[i]? = some x ∧ s.toList = x.toList := by
 unfold idxN at h
 obtain ⟨hi, h1, _⟩ := List.findIdx?_eq_some_iff_getElem.1 h
 exact ⟨_, List.getElem?_eq_getElem hi, by simpa using h1⟩
theorem idxN_congr {vars : List ByteArray} {s t : ByteArray} (h : s.toList = t.toList) : idxN vars s = idxN vars t := by unfold idxN; rw [h]
theorem pl_ok {vars : List ByteArray} {kn : List Bool} {tk : List Lt} (hK : KnW vars kn tk) (L : List Tm) {s : Sl} (hv : HasV vars s) : okPl kn (placeW vars L s).1 = (emp s.v || standsL tk s.v) := by
 cases he : emp s.v with
 | true =>
  rw [placeW_t (.inl he)]
  simp [okPl]
 | false =>
  obtain ⟨i, hi⟩ := hv he
  rw [placeW_v he hi]
  have := hK.2 s.v i he hi
  simp [okPl, this]
theorem ready_same {vars : List ByteArray} {kn : List Bool} {tk : List Lt} (hK : KnW vars kn tk) (L : List Tm) {l : Lt} (hv : ∀ s ∈ stepSl l, HasV vars s) : readyF kn (SW vars L l) = readyW tk l := by
 unfold readyF readyW SW
 rw [← stepSl_slots]
 by_cases h1 : l.kind = 1
 ·rw [stepSl_r (.inl h1)] at hv ⊢
  rw [stepW_1 h1, placesSt_r (.inl rfl)]
  simp only [rowW, sl3, List.all_cons, List.all_nil]
  rw [pl_ok hK _ (hv _ (by simp [sl3])), pl_ok hK _ (hv _ (by simp [sl3])), pl_ok hK _ (hv _ (by simp [sl3]))]
 by_cases h2 : l.kind = 2
 ·rw [stepSl_r (.inr h2)] at hv ⊢
  rw [stepW_2 h1 h2, placesSt_r (.inr rfl)]
  simp only [rowW, sl3, List.all_cons, List.all_nil]
  rw [pl_ok hK _ (hv _ (by simp [sl3])), pl_ok hK _ (hv _ (by simp [sl3])), pl_ok hK _ (hv _ (by simp [sl3]))]
 rw [stepSl_ab h1 h2] at hv ⊢
 by_cases h4 : l.kind = 4
 ·rw [stepW_4 h1 h2 h4, placesSt_ab (by simp) (by simp)]
  simp only [List.all_cons, List.all_nil]
  rw [pl_ok hK _ (hv _ (by simp)), pl_ok hK _ (hv _ (by simp))]
 ·rw [stepW_3 h1 h2 h4, placesSt_ab (by simp) (by simp)]
  simp only [List.all_cons, List.all_nil]
  rw [pl_ok hK _ (hv _ (by simp)), pl_ok hK _ (hv _ (by simp))]
theorem mark_one {vars : List ByteArray} {kn : List Bool} (hn : kn.length = vars.length) (L : List Tm) {t : Sl} (hv : HasV vars t) {s : ByteArray} {i : Nat} (hs : emp s = false) (hi : idxN vars s = some i) :
  (markP kn (placeW vars L t).1).getD i false = (kn.getD i false || t.v.toList == s.toList) := by
 have hil : i < vars.length := by obtain ⟨x, hx, _⟩ := idxN_at hi; exact (List.getElem?_eq_some_iff.1 hx).1
 cases he : emp t.v with
 | true =>
  rw [placeW_t (.inl he)]
  have : (t.v.toList == s.toList) = false := by
   rw [Bool.eq_false_iff]
   intro h
   unfold emp at he hs
   rw [beq_iff_eq] at he h
   rw [← h, he] at hs
   simp at hs
  rw [this, Bool.or_false]
  unfold markP
  rw [if_neg (by simp)]
 | false =>
  obtain ⟨j, hj⟩ := hv he
  rw [placeW_v he hj]
  unfold markP
  simp only
  rw [if_pos (by omega)]
  by_cases hij : i = j
  ·subst hij
   obtain ⟨x, hx, e1⟩ := idxN_at hi
   obtain ⟨y, hy, e2⟩ := idxN_at hj
   rw [hx] at hy
   cases hy
   have : (t.v.toList == s.toList) = true := by rw [beq_iff_eq, e1, e2]
   rw [this, Bool.or_true, List.getD_eq_getElem?_getD]
   simp [hn, hil]
  ·have : (t.v.toList == s.toList) = false := by
    rw [Bool.eq_false_iff]
    intro h
    rw [beq_iff_eq] at h
    rw [idxN_congr h, hi] at hj
    exact hij (Option.some.inj hj)
   rw [this, Bool.or_false, List.getD_eq_getElem?_getD, List.getD_eq_getElem?_getD, List.getElem?_set_ne (by simpa using Ne.symm hij)]
theorem KnW.mark {vars : List ByteArray} {kn : List Bool} {tk : List Lt} (hK : KnW vars kn tk) (L : List Tm) {m : Lt} (h1 : m.kind = 1) (hv : ∀ s ∈ stepSl m, HasV vars s) : KnW vars (markTo kn (SW vars L m).row 3) (tk ++ [m]) := by
 rw [stepSl_r (.inl h1)] at hv
 refine ⟨by rw [markTo_len]; exact hK.1, fun s i hs hi => ?_⟩
 have e : standsL (tk ++ [m]) s = (standsL tk s || (patL m).any (fun q => q.toList == s.toList)) := by simp [standsL]
 rw [e]
 unfold SW markTo
 rw [stepW_1 h1]
 simp only [rowW, row3, List.take, List.foldl, patL, List.any_cons, List.any_nil, Bool.or_false]
 have n0 : (markP kn (placeW vars L m.pat.s0).1).length = vars.length := by rw [markP_len]; exact hK.1
 rw [mark_one (by rw [markP_len]; exact n0) _ (hv _ (by simp [sl3])) hs hi, mark_one n0 _ (hv _ (by simp [sl3])) hs hi, mark_one hK.1 _ (hv _ (by simp [sl3])) hs hi, hK.2 s i hs hi]
 simp only [Bool.or_assoc]
structure RunS (S : Lt → St) (vars : List ByteArray) (q : RS) (p : PS) : Prop where
 w : q.w = p.wt.map S
 o : q.o = p.out.map S
 kn : KnW vars q.kn p.tk
theorem RunS.flush {vars : List ByteArray} {L : List Tm} {q : RS} {p : PS} (h : RunS (SW vars L) vars q p) (hv : ∀ l ∈ p.wt, ∀ s ∈ stepSl l, HasV vars s) : RunS (SW vars L) vars (flushR q) (flushW p) := by
 have e1 : ∀ l ∈ p.wt, readyF q.kn (SW vars L l) = readyW p.tk l := fun l hl => ready_same h.kn L (hv l hl)
 refine ⟨?_, ?_, h.kn⟩
 ·show q.w.filter (fun s => !readyF q.kn s) = (p.wt.filter (fun l => !readyW p.tk l)).map _
  rw [h.w, List.filter_map]
  congr 1
  exact List.filter_congr fun l hl => by simp only [Function.comp_apply, e1 l hl]
 ·show q.o ++ q.w.filter (readyF q.kn) = (p.out ++ p.wt.filter (readyW p.tk)).map _
  rw [h.w, h.o, List.filter_map, List.map_append]
  congr 2
  exact List.filter_congr fun l hl => by simp only [Function.comp_apply, e1 l hl]
theorem RunS.take {vars : List ByteArray} {L : List Tm} {q : RS} {p : PS} {m : Lt} (h : RunS (SW vars L) vars q p) (h1 : m.kind = 1) (hv : ∀ s ∈ stepSl m, HasV vars s) : RunS (SW vars L) vars ⟨markTo q.kn (SW vars L m).row 3, q.w, q.o ++ [SW vars L m]⟩ ⟨p.tk ++ [m], p.wt, p.out ++ [m]⟩ :=
 ⟨h.w, by simp only; rw [h.o, List.map_append]; rfl, h.kn.mark L h1 hv⟩
theorem run_same {vars : List ByteArray} {L : List Tm} {M : List Lt} {good : Bool} {order : List Int} {q : RS} {p : PS} {ord : List Int} (h : RunS (SW vars L) vars q p) (hM : ∀ l ∈ M, l.kind = 1 ∧ ∀ s ∈ stepSl l, HasV vars s) (hwt : ∀ l ∈ p.wt, ∀ s ∈ stepSl l, HasV vars s)
  (hg : good = true → goodF M.length order = true) (ho : ∀ (i : Nat) z, ord[i]? = some z → i < M.length ∧ (M.map (SW vars L)).getD z.toNat zSt = SW vars L (mAt M good order i)) : ∀ i, i ≤ ord.length → RunS (SW vars L) vars (runTo (M.map (SW vars L)) q ord i) (stW M good order p (i + 1))
 | 0, _ => h.flush hwt
 | i + 1, hi => by
  have ih := run_same h hM hwt hg ho i (by omega)
  obtain ⟨z, hz⟩ : ∃ z, ord[i]? = some z := ⟨_, List.getElem?_eq_getElem (by omega)⟩
  obtain ⟨hiM, e⟩ := ho i z hz
  have hm := mAt_mem (order := order) (p := i) hiM hg
  have hw2 : ∀ l ∈ (stW M good order p (i + 1)).wt, ∀ s ∈ stepSl l, HasV vars s := by
   have wsub : ∀ k, ∀ l ∈ (stW M good order p k).wt, l ∈ p.wt := by
    intro k
    induction k with
    | zero => exact fun l hl => hl
    | succ k ihk =>
     intro l hl
     have hl2 : l ∈ ((preW M good order (stW M good order p k) k).wt.filter (fun l => !readyW (preW M good order (stW M good order p k) k).tk l)) := hl
     have := (List.mem_filter.1 hl2).1
     rw [pre_wt] at this
     exact ihk l this
   exact fun l hl => hwt l (wsub _ l hl)
  rw [runTo_succ hz]
  unfold takeR
  rw [e]
  exact (ih.take (hM _ hm).1 (hM _ hm).2).flush hw2
theorem sorted_range (n : Nat) : ((List.range n).map (fun k : Nat => (k : Int))).Pairwise (fun a b => a ≤ b) := by
 rw [List.pairwise_map]
 exact (List.pairwise_lt_range (n := n)).imp (fun {a b} h => by show (a : Int) ≤ (b : Int); omega)
theorem srtZ_sorted (xs : List Int) : (srtZ xs).Pairwise (fun a b => a ≤ b) := by
 have h := List.pairwise_mergeSort (le := fun x y : Int => decide (x ≤ y)) (fun a b c h1 h2 => by simp only [decide_eq_true_eq] at *; omega) (fun a b => by simp only [Bool.or_eq_true, decide_eq_true_eq]; omega) xs
 exact h.imp (fun {a b} h => by simpa using h)
theorem range_count (n k : Nat) (h : k < n) : ((List.range n).map (fun k : Nat => (k : Int))).countP (fun z => decide (z = (k : Int))) = 1 := by
 rw [List.countP_map]
 have e : (List.range n).countP ((fun z : Int => decide (z = (k : Int))) ∘ fun k : Nat => (k : Int)) = (List.range n).count k := by
  unfold List.count
  exact List.countP_congr fun x _ => by simp only [Function.comp_apply, decide_eq_true_eq, beq_iff_eq]; omega
 rw [e]
 rw [List.nodup_range.count, if_pos (List.mem_range.2 h)]
theorem ord_good (n : Nat) (order : List Int) : ((srtZ order).length = n ∧ srtZ order = (List.range n).map (fun k : Nat => (k : Int))) ↔ goodF n order = true := by
 constructor
 ·rintro ⟨h1, h2⟩
  rw [srtZ_len] at h1
  unfold goodF
  rw [Bool.and_eq_true, decide_eq_true_eq, List.all_eq_true]
  refine ⟨by omega, fun k hk => ?_⟩
  unfold oneZ cntZ
  rw [decide_eq_true_eq, ← (srtZ_perm order).countP_eq, h2, range_count n k (List.mem_range.1 hk)]
  rfl
 ·intro h
  have hp := good_perm h
  refine ⟨by rw [srtZ_len, hp.length_eq]; simp, ?_⟩
  exact List.Perm.eq_of_pairwise (le := fun a b : Int => a ≤ b) (fun a b _ _ h1 h2 => by omega) (srtZ_sorted order) (sorted_range n) ((srtZ_perm order).trans hp)
theorem getD_map {S : Lt → St} {M : List Lt} {i : Nat} (h : i < M.length) : (M.map S).getD i zSt = S (M.getD i zLt) := by
 simp [List.getD_eq_getElem?_getD, h]
theorem ord_at {S : Lt → St} {M : List Lt} {order : List Int} : ∀ (i : Nat) z, (ordF M.length order (srtZ order))[i]? = some z → i < M.length ∧ (M.map S).getD z.toNat zSt = S (mAt M (goodF M.length order) order i) := by
 intro i z hz
 cases hg : goodF M.length order with
 | true =>
  unfold ordF at hz
  rw [if_pos ((ord_good _ _).2 hg)] at hz
  obtain ⟨h1, h2⟩ := good_range hg
  have hi := (List.getElem?_eq_some_iff.1 hz).1
  have hzr := h2 z (List.mem_of_getElem? hz)
  refine ⟨by omega, ?_⟩
  unfold mAt
  rw [if_pos rfl, getD_map (by omega), show order.getD i 0 = z by rw [List.getD_eq_getElem?_getD, hz]; rfl]
 | false =>
  unfold ordF at hz
  rw [if_neg (fun h => by rw [(ord_good _ _).1 h] at hg; cases hg)] at hz
  have hi := (List.getElem?_eq_some_iff.1 hz).1
  rw [List.length_map, List.length_range] at hi
  have hzi : z = (i : Nat) := by
   rw [List.getElem?_map, List.getElem?_range hi] at hz
   simpa using hz.symm
  subst hzi
  refine ⟨hi, ?_⟩
  unfold mAt
  rw [if_neg (by simp), show ((i : Nat) : Int).toNat = i by omega, getD_map hi]
theorem ord_len (n : Nat) (order : List Int) : (ordF n order (srtZ order)).length = n := by
 unfold ordF
 split
 ·rename_i h; rw [← srtZ_len]; exact h.1
 ·simp
theorem steps_same {lim : Nat} {vars : List ByteArray} {L : List Tm} {ts : List Tm} {bad : Int} {body : List Lt} (order : List Int) (hk : ∀ l ∈ body, kd l) (hv : ∀ l ∈ body, ∀ s ∈ stepSl l, HasV vars s) (h : Both lim L (ts, bad)) (h0 : (planSteps lim vars ts bad body order (srtZ order)).2.2 = 0) :
  (planSteps lim vars ts bad body order (srtZ order)).1 = (bodyW vars L body order).1 ∧ (planSteps lim vars ts bad body order (srtZ order)).2.1 = (bodyW vars L body order).2 := by
 have h0' : (bodyTo lim vars ts bad body body.length).bad = 0 := h0
 obtain ⟨e1, e2, e3⟩ := body_same hk hv h h0' body.length (Nat.le_refl _)
 rw [fT_all (Nat.le_refl _)] at e1 e2 e3
 have hB := Both.body hv h body.length (Nat.le_refl _)
 obtain ⟨w2, w1⟩ := bodyW_end (order := order) (L := L) hv
 refine ⟨?_, ?_⟩
 ·rw [w1]
  have hq0 : RunS (SW vars (passW vars L body body.length)) vars ⟨List.replicate vars.length false, (bodyTo lim vars ts bad body body.length).w ++ (bodyTo lim vars ts bad body body.length).n, []⟩ ⟨[], waitL body, []⟩ :=
   ⟨by simp only; rw [e2, e3, ← List.map_append]; rfl, rfl, by simp, fun s i _ _ => by rw [List.getD_eq_getElem?_getD, List.getElem?_replicate]; split <;> rfl⟩
  have hM : ∀ l ∈ body.filter isMt, l.kind = 1 ∧ ∀ s ∈ stepSl l, HasV vars s := fun l hl => ⟨by have := (List.mem_filter.1 hl).2; simpa [isMt] using this, hv l (List.mem_filter.1 hl).1⟩
  have hwt : ∀ l ∈ waitL body, ∀ s ∈ stepSl l, HasV vars s := fun l hl => hv l (by
   unfold waitL at hl
   rcases List.mem_append.1 hl with h | h <;> exact (List.mem_filter.1 h).1)
  have hr := run_same (good := goodF (body.filter isMt).length order) (order := order) (ord := ordF (body.filter isMt).length order (srtZ order)) hq0 hM hwt (fun h => h) (fun i z hz => ord_at i z hz) _ (Nat.le_refl _)
  show (runTo (bodyTo lim vars ts bad body body.length).m _ (ordF (bodyTo lim vars ts bad body body.length).m.length order (srtZ order)) _).o = _
  rw [e1, List.length_map, hr.o, ord_len]
  rfl
 ·rw [w2]
  rcases hB with ⟨_, h1, _⟩ | ⟨h1, _⟩
  ·exact h1
  ·simp only at h1; omega
end Go.Proofs.YtfddkcmooommeaaGreatDoor.Gl
end
section
namespace Go.Proofs.YtfddkcmooommeaaGreatDoor.Gl
open Go.RowKit Go.Shelf
set_option linter.unusedVariables false
set_option linter.unnecessarySimpa false
set_option linter.unusedSimpArgs false
attribute [-simp] List.getD_eq_getElem?_getD
section
variable {X : Cx} {Q : Post} {fr : Fr} {ds : List Deferred} {G : Hp} {ops : Array Oper} {o : Oper} {rest : List Oper} {d : Nat}
theorem V.sliceSL {t e : TypeId} {x y : Operand} {k : IntKind} {A : Option Addr} {n c z : Nat} {i : Int} (h : At X ops fr o (.slice t x (some y) none none) d) (hx : evO fr x = some (.slice A n c)) (hy : evO fr y = some (.int k i)) (hu : X.P.underlying t = some (.slice e)) (hz : ∀ w, (sizeOf e).run X.P w = .ok z w)
  (h0 : 0 ≤ i) (h1 : i ≤ n) (h2 : n ≤ c) : GV X ops fr G o d (.slice (cutA A i.toNat z c) (n - i.toNat) (c - i.toNat)) :=
 GV.of h (by simp) (fun ρ w hρ hw => by
  simp only [execOp, h.op, Option.map_some, Option.map_none, hρ _ _ hx, hρ _ _ hy, Instr.sliceAt, Sem.run_bind, run_und hu, Result.andThen_ok, Instr.slice, Instr.sliceBounds, Sem.run_pure, Go.run_sliceBound w k i n _ h0 h1, hz]
  rfl)
theorem V.convBytesA {s t e : TypeId} {x : Operand} {A : Option Addr} {b f n c : Nat} {l : List Nat} {str : ByteArray} (hA : A = some ⟨b, f, none⟩) (hS : strOf l = str) (h : At X ops fr o (.convert s t x) d) (hx : evO fr x = some (.slice A n c)) (hs : X.P.underlying s = some (.slice e)) (he : X.P.underlying e = some (.int .u8)) (ht : X.P.underlying t = some .string)
  (hl : l.length = n) (hr : Rds X.w0 G b f (l.map fun c => Value.int .u8 (c : Nat))) : GV X ops fr G o d (.string str) := by
 subst hA
 subst hS
 exact V.convBytes h hx hs he ht hl hr
end
theorem cut_rd {w0 : World} {G : Hp} {a f c i : Nat} {p : List Nat} (h : Rds w0 G a f (u8C p)) (hc : p.length ≤ c) (hi : i ≤ p.length) : ∃ g, cutA (some ⟨a, f, none⟩) i 1 c = some ⟨a, g, none⟩ ∧ Rds w0 G a g (u8C (p.drop i)) := by
 unfold cutA
 by_cases e : c = i
 ·rw [if_pos e]
  exact ⟨f, rfl, fun j v hv => by rw [List.drop_of_length_le (by omega)] at hv; simp [u8C] at hv⟩
 ·rw [if_neg e, Option.map_some, add_none, Nat.mul_one]
  refine ⟨f + i, rfl, fun j v hv => ?_⟩
  obtain ⟨x, hx, rfl⟩ := u8C_inv hv
  rw [List.getElem?_drop] at hx
  have := h (i + j) _ (u8C_get hx)
  rw [Nat.add_assoc]
  exact this
theorem Rds.left {w0 : World} {G : Hp} {a f : Nat} {p q : List Nat} (h : Rds w0 G a f (u8C (p ++ q))) : Rds w0 G a f (u8C p) := fun j v hv => h j v (by
 rw [u8C_app, List.getElem?_append_left (List.getElem?_eq_some_iff.1 hv).1]
 exact hv)
theorem or256 (x y : Nat) (hx : x < 33554432) (hy : y < 256) : Go.bits .or .i64 ((x * 256 : Nat) : Int) (y : Int) = ((x * 256 + y : Nat) : Int) := by
 rw [bits_join .i64 63 (by decide) (fun n h0 h1 => wrap64_id (by omega) (by omega)) 8 _ _ (by omega) (by omega) (by omega) (by omega) (by omega) (by omega)]
 omega
theorem pack_drop3 (t : Tm) : (packL t).drop 3 = bs t.text ++ bs t.ext := rfl
theorem pack_dropn (t : Tm) : (packL t).drop (3 + t.text.size) = bs t.ext := by
 rw [← List.drop_drop, pack_drop3, List.drop_append_of_le_length (by rw [bs_length]; omega), List.drop_of_length_le (by rw [bs_length]; omega)]
 rfl
theorem dict_unpack (w0 : World) (G : Hp) (t : Tm) (a f c : Nat) (hmay : mayT t = true) (hrd : Rds w0 G a f (u8C (packL t))) (hc : (packL t).length ≤ c) (hcm : c ≤ 100000000) : GC Tryz.prog w0 70 #[.slice (some ⟨a, f, none⟩) (packL t).length c] (fun v G' => v = .agg #[.int .i64 t.kind, .string t.text, .string t.ext] ∧ G = G') G := by
 obtain ⟨h1, h2, h3, h4⟩ := mayT_facts hmay
 have hpl := packL_len t
 obtain ⟨g1, e1, r1⟩ := cut_rd (i := (3 : Int).toNat) hrd hc (by omega)
 obtain ⟨g2, e2, r2⟩ := cut_rd (i := (((3 + t.text.size : Nat)) : Int).toNat) hrd hc (by omega)
 rw [show (3 : Int).toNat = 3 from rfl, pack_drop3] at r1
 rw [Int.toNat_natCast, pack_dropn] at r2
 replace r1 := r1.left
 refine GC.body (args := [.slice (some ⟨a, f, none⟩) (packL t).length c]) Tryz.func70 rfl (by kernel_rfl) rfl ?_
 refine GW.seq ?_
 refine GW.region ?_
 refine R.alloc ⟨Z,Z,Z,Z⟩ Tryz.zeroValue24 fun b2 => ?_
 refine GOps.nil ?_
 refine GW.seq ?_
 refine GW.drawS 11 Z (by kernel_rfl) ?_
 refine GA.w 0 Z (V.move ⟨Z,Z,Z,Z⟩ Z) Z ?_
 refine GA.val 1 Z (V.indexAddrS ⟨Z,Z,Z,Z⟩ Z Z Tryz.underlying101 Tryz.sizeOf5 (by omega) (by omega)) Z (by kernel_rfl) (by kernel_rfl) (by kernel_rfl) ?_
 refine GA.val 2 Z (V.load1 ⟨Z,Z,Z,Z⟩ Z Tryz.underlying5 Z (byte_load (c := t.text.size / 256) (hrd.mono (fun y hy => by repeat (first | exact hy | apply List.mem_cons_of_mem | apply List.mem_append_right))) Z)) Z (by kernel_rfl) (by kernel_rfl) (by kernel_rfl) ?_
 refine GA.w 3 Z (V.conv ⟨Z,Z,Z,Z⟩ Z Tryz.underlying5 Tryz.underlying3 (wrap64_id (by omega) (by omega))) Z ?_
 refine GA.val 4 Z (V.shl (r := ((t.text.size / 256 * 256 : Nat) : Int)) ⟨Z,Z,Z,Z⟩ Z Z (by omega) (by rw [show (min (8 : Int).toNat IntKind.i64.bits) = 8 from Z, wrap64_id (by omega) (by omega)]; omega)) Z (by kernel_rfl) (by kernel_rfl) (by kernel_rfl) ?_
 refine GA.w 5 Z (V.move ⟨Z,Z,Z,Z⟩ Z) Z ?_
 refine GA.val 6 Z (V.indexAddrS ⟨Z,Z,Z,Z⟩ Z Z Tryz.underlying101 Tryz.sizeOf5 (by omega) (by omega)) Z (by kernel_rfl) (by kernel_rfl) (by kernel_rfl) ?_
 refine GA.val 7 Z (V.load1 ⟨Z,Z,Z,Z⟩ Z Tryz.underlying5 Z (byte_load (c := t.text.size % 256) (hrd.mono (fun y hy => by repeat (first | exact hy | apply List.mem_cons_of_mem | apply List.mem_append_right))) Z)) Z (by kernel_rfl) (by kernel_rfl) (by kernel_rfl) ?_
 refine GA.w 8 Z (V.conv ⟨Z,Z,Z,Z⟩ Z Tryz.underlying5 Tryz.underlying3 (wrap64_id (by omega) (by omega))) Z ?_
 refine GA.val 9 Z (V.or (r := ((t.text.size : Nat) : Int)) ⟨Z,Z,Z,Z⟩ Z Z (by rw [or256 _ _ (by omega) (by omega)]; omega)) Z (by kernel_rfl) (by kernel_rfl) (by kernel_rfl) ?_
 refine GA.w 10 Z (V.assign ⟨Z,Z,Z,Z⟩ Z) Z ?_
 refine GA.done hsC (by kernel_rfl) ?_
 refine GW.seq ?_
 refine GW.draw (G) 16 Z (by kernel_rfl) ?_
 refine GA.w 0 Z (V.move ⟨Z,Z,Z,Z⟩ Z) Z ?_
 refine GA.val 1 Z (V.indexAddrS ⟨Z,Z,Z,Z⟩ Z Z Tryz.underlying101 Tryz.sizeOf5 (by omega) (by omega)) Z (by kernel_rfl) (by kernel_rfl) (by kernel_rfl) ?_
 refine GA.val 2 Z (V.load1 ⟨Z,Z,Z,Z⟩ Z Tryz.underlying5 Z (byte_load (c := t.kind.toNat) (hrd.mono (fun y hy => by repeat (first | exact hy | apply List.mem_cons_of_mem | apply List.mem_append_right))) Z)) Z (by kernel_rfl) (by kernel_rfl) (by kernel_rfl) ?_
 refine GA.w 3 Z (V.conv (r := t.kind) ⟨Z,Z,Z,Z⟩ Z Tryz.underlying5 Tryz.underlying22 (by rw [wrap64_id (by omega) (by omega)]; omega)) Z ?_
 refine GA.w 4 Z (V.move ⟨Z,Z,Z,Z⟩ Z) Z ?_
 refine GA.w 5 Z (V.move ⟨Z,Z,Z,Z⟩ Z) Z ?_
 refine GA.val 6 Z (V.add (r := ((3 + t.text.size : Nat) : Int)) ⟨Z,Z,Z,Z⟩ Z Z (by rw [wrap64_id (by omega) (by omega)]; omega)) Z (by kernel_rfl) (by kernel_rfl) (by kernel_rfl) ?_
 refine GA.w 7 Z (V.sliceSLH ⟨Z,Z,Z,Z⟩ Z Z Z Tryz.underlying101 Tryz.sizeOf5 (by omega) (by omega) (by omega)) Z ?_
 refine GA.w 8 Z (V.convBytesA e1 (strOf_bs _) (l := bs t.text) ⟨Z,Z,Z,Z⟩ Z Tryz.underlying101 Tryz.underlying5 Tryz.underlying9 (by rw [bs_length]; omega) (r1.mono (fun y hy => by repeat (first | exact hy | apply List.mem_cons_of_mem | apply List.mem_append_right)))) Z ?_
 refine GA.w 9 Z (V.move ⟨Z,Z,Z,Z⟩ Z) Z ?_
 refine GA.w 10 Z (V.move ⟨Z,Z,Z,Z⟩ Z) Z ?_
 refine GA.val 11 Z (V.add (r := ((3 + t.text.size : Nat) : Int)) ⟨Z,Z,Z,Z⟩ Z Z (by rw [wrap64_id (by omega) (by omega)]; omega)) Z (by kernel_rfl) (by kernel_rfl) (by kernel_rfl) ?_
 refine GA.w 12 Z (V.sliceSL ⟨Z,Z,Z,Z⟩ Z Z Tryz.underlying101 Tryz.sizeOf5 (by omega) (by omega) (by omega)) Z ?_
 refine GA.w 13 Z (V.convBytesA e2 (strOf_bs _) (l := bs t.ext) ⟨Z,Z,Z,Z⟩ Z Tryz.underlying101 Tryz.underlying5 Tryz.underlying9 (by rw [bs_length]; omega) (r2.mono (fun y hy => by repeat (first | exact hy | apply List.mem_cons_of_mem | apply List.mem_append_right)))) Z ?_
 refine GA.val 14 Z (V.build (vs := [(0, _), (1, _), (2, _)]) (cells := (TmC t).toArray) ⟨Z,Z,Z,Z⟩ Z (fun w => run_build w 24 _ _ (by kernel_rfl))) Z (by kernel_rfl) (by kernel_rfl) (by kernel_rfl) ?_
 refine GA.one 15 (by first | exact Hs.drop2 _ _ _ | exact Hs.refl _ | exact Hs.tl _ | exact Hs.tl2 _ _ | exact Hs.tl3 _ _ _ | exact Hs.app _ | exact Hs.sub (by simp)) (by kernel_rfl) Z ?_
 refine R.storeAll (G1 := []) Z Z Z Z Z Tryz.sizeOf24 Z Z Z Z ?_
 refine GOps.nil ?_
 refine GA.done (by first | exact Hs.drop2 _ _ _ | exact Hs.refl _ | exact Hs.tl _ | exact Hs.tl2 _ _ | exact Hs.tl3 _ _ _ | exact Hs.app _ | exact Hs.sub (by simp)) (by kernel_rfl) ?_
 exact GW.ret (Out.of (resCellA rfl rfl Tryz.underlying24 rfl Tryz.sizeOf24 (Rds.own (C := (TmC t).toArray) memH 0 (TmC t) (fun j v hv => by simpa using hv)) rfl) (Hs.tl _) ⟨rfl, rfl⟩)
theorem Hs.tIn (x p q : Nat × Know) (A B G : Hp) : Hs (x :: p :: q :: (A ++ (B ++ G))) (p :: q :: (A ++ (B ++ (x :: G)))) := Hs.perm (by
 have h : (A ++ (B ++ (x :: G))).Perm (x :: (A ++ (B ++ G))) := by
  rw [← List.append_assoc, ← List.append_assoc]
  exact List.perm_middle
 exact ((h.cons q).trans (List.Perm.swap x q _)).cons p |>.trans (List.Perm.swap x p _))
theorem Hs.tOut (x p q : Nat × Know) (A B G : Hp) : Hs (p :: q :: (A ++ (B ++ (x :: G)))) (x :: p :: q :: (A ++ (B ++ G))) := Hs.perm (by
 have h : (A ++ (B ++ (x :: G))).Perm (x :: (A ++ (B ++ G))) := by
  rw [← List.append_assoc, ← List.append_assoc]
  exact List.perm_middle
 exact (((h.cons q).trans (List.Perm.swap x q _)).cons p |>.trans (List.Perm.swap x p _)).symm)
theorem dict_Term0 (w0 : World) (G : Hp) (ts : List Tm) (va ve : Value) (Ha He : Hp) (b bt lim sz : Nat) (tab : List Nat) (n : Nat) (t : Tm) (hr : Raw ts va ve Ha He) (ht : ts[n]? = some t) : GC Tryz.prog w0 41 #[.pointer (some ⟨b, 0, none⟩), .int .u32 ((n + 1 : Nat) : Int)] (fun v G' => v = .tuple #[.agg #[.int .i64 t.kind, .string t.text, .string t.ext], .bool true] ∧ (b, dictC lim va ve bt sz) :: (bt, tabC tab) :: (Ha ++ (He ++ G)) = G') ((b, dictC lim va ve bt sz) :: (bt, tabC tab) :: (Ha ++ (He ++ G))) := by
 have hn := (List.getElem?_eq_some_iff.1 ht).1
 have hmay := hr.may t (List.mem_of_getElem? ht)
 have hmost := hr.most
 obtain ⟨Ae, ce, rfl, hce⟩ := hr.he.split
 have hpl := packL_len t
 obtain ⟨h1, h2, h3, h4⟩ := mayT_facts hmay
 refine GC.body (args := [.pointer (some ⟨b, 0, none⟩), .int .u32 ((n + 1 : Nat) : Int)]) Tryz.func41 rfl (by kernel_rfl) rfl ?_
 refine GW.seq ?_
 refine GW.region ?_
 refine R.alloc ⟨Z,Z,Z,Z⟩ Tryz.zeroValue24 fun b4 => ?_
 refine R.assign ⟨Z,Z,Z,Z⟩ Z ?_
 refine GOps.nil ?_
 refine GW.seq ?_
 refine GW.seq ?_
 refine GW.region ?_
 refine R.move ⟨Z,Z,Z,Z⟩ Z ?_
 refine R.call ⟨Z,Z,Z,Z⟩ Z (vs := [_]) Z ((dict_there _ _ va (.slice Ae ts.length ce) b bt lim sz memH).mono ?_)
 rintro _ _ ⟨rfl, rfl⟩
 refine R.not ⟨Z,Z,Z,Z⟩ Z ?_
 refine R.move ⟨Z,Z,Z,Z⟩ Z ?_
 refine R.move ⟨Z,Z,Z,Z⟩ Z ?_
 refine R.lss ⟨Z,Z,Z,Z⟩ Z Z ?_
 refine R.pick_f ⟨Z,Z,Z,Z⟩ Z Z ?_
 refine R.move ⟨Z,Z,Z,Z⟩ Z ?_
 refine GOps.caseB 13 Z (fun hg1 => ?_) (fun hg1 => ?_)
 ·try simp only [dcQ] at hg1
  exfalso; omega
 ·try simp only [dcQ] at hg1
  refine R.move ⟨Z,Z,Z,Z⟩ Z ?_
  refine R.conv ⟨Z,Z,Z,Z⟩ Z Tryz.underlying35 Tryz.underlying3 (wrap64_id (by omega) (by omega)) ?_
  refine R.move ⟨Z,Z,Z,Z⟩ Z ?_
  refine R.nilCheck ⟨Z,Z,Z,Z⟩ Z ?_
  refine R.fieldAddr ⟨Z,Z,Z,Z⟩ Z Tryz.underlying103 Z Tryz.sizeOf32 ?_
  refine R.load1 ⟨Z,Z,Z,Z⟩ Z Tryz.underlying32 Z (.own' memG (by rfl)) ?_
  refine R.lenS ⟨Z,Z,Z,Z⟩ Z Z Tryz.underlying32 ?_
  refine R.gtr ⟨Z,Z,Z,Z⟩ Z Z ?_
  refine R.pick_f ⟨Z,Z,Z,Z⟩ Z Z ?_
  refine GOps.nil ?_
  refine GW.ite Z (fun hc2 => ?_) (fun hc2 => ?_)
  ·try simp only [dcQ] at hc2
   exfalso; omega
  ·try simp only [dcQ] at hc2
   refine GW.skip ?_
   refine GW.seq ?_
   refine GW.region ?_
   refine R.move ⟨Z,Z,Z,Z⟩ Z ?_
   refine R.move ⟨Z,Z,Z,Z⟩ Z ?_
   refine GOps.weak (Keeps.refl _) (Hs.tIn _ _ _ _ _ _) ?_
   refine R.call ⟨Z,Z,Z,Z⟩ Z (vs := [_, _]) Z ((dict_at _ _ ts va _ Ha He b bt lim sz tab n t hr ht).mono ?_)
   rintro _ _ ⟨a, f, ⟨rfl, hrd⟩, rfl⟩
   refine R.call ⟨Z,Z,Z,Z⟩ Z (vs := [_]) Z ((dict_unpack _ _ t a f _ hmay hrd (Nat.le_refl _) (by omega)).mono ?_)
   rintro _ _ ⟨rfl, rfl⟩
   refine GOps.weak (Keeps.refl _) (Hs.tOut _ _ _ _ _ _) ?_
   refine R.storeAll (G1 := []) Z Z Z Z Z Tryz.sizeOf24 Z Z Z Z ?_
   refine R.assign ⟨Z,Z,Z,Z⟩ Z ?_
   refine GOps.nil ?_
   exact GW.ret (Out.of (resCellTmp rfl rfl rfl Tryz.underlying24 rfl Tryz.sizeOf24 (Rds.own (C := (TmC t).toArray) memH 0 (TmC t) (fun j v hv => by simpa using hv)) rfl) (Hs.tl _) ⟨rfl, rfl⟩)
theorem dict_Term (w0 : World) (G H : Hp) (ts : List Tm) (lim b n : Nat) (t : Tm) (hD : Dic ts lim b H) (ht : ts[n]? = some t) : GC Tryz.prog w0 41 #[.pointer (some ⟨b, 0, none⟩), .int .u32 ((n + 1 : Nat) : Int)] (fun v G' => v = .tuple #[.agg #[.int .i64 t.kind, .string t.text, .string t.ext], .bool true] ∧ H ++ G = G') (H ++ G) := by
 obtain ⟨va, ve, Ha, He, bt, k, tab, rfl, hr, _⟩ := hD
 rw [gg_eq]
 exact dict_Term0 w0 G ts va ve Ha He b bt lim (2 ^ k) tab n t hr ht
theorem dic_len {ts : List Tm} {lim b : Nat} {H : Hp} (hD : Dic ts lim b H) (w0 : World) (G : Hp) (hs : ∀ x ∈ H, x ∈ G) : GC Tryz.prog w0 14 #[.pointer (some ⟨b, 0, none⟩)] (fun v G' => v = .int .i64 (ts.length : Nat) ∧ G = G') G := by
 obtain ⟨va, ve, Ha, He, bt, k, tab, rfl, hr, _⟩ := hD
 obtain ⟨Ae, ce, rfl, hce⟩ := hr.he.split
 exact dict_Len w0 G Ae ts.length ce va b bt lim (2 ^ k) (hs _ List.mem_cons_self)
end Go.Proofs.YtfddkcmooommeaaGreatDoor.Gl
end
section
namespace Go.Proofs.YtfddkcmooommeaaGreatDoor.Gl
open Go.RowKit Go.Shelf
set_option linter.unusedVariables false
set_option linter.unnecessarySimpa false
set_option linter.unusedSimpArgs false
attribute [-simp] List.getD_eq_getElem?_getD
def TmsAt (w0 : World) (G : Hp) (A : Option Addr) (us : List Tm) : Prop := RowAt w0 G 3 (fun t cs => cs = TmC t) A us
theorem TmsAt.mono {w0 : World} {G G' : Hp} {A : Option Addr} {us : List Tm} (h : TmsAt w0 G A us) (hs : ∀ y ∈ G, y ∈ G') : TmsAt w0 G' A us := fun i x hx => by obtain ⟨b, o, cs, h1, h2, h3⟩ := h i x hx; exact ⟨b, o, cs, h1, h2, h3.mono hs⟩
def TmOk (t : Tm) : Prop := t.text.size ≤ 1048576 ∧ t.ext.size ≤ 1048576
def numAll (us : List Tm) : List Tm := us.foldl (fun L t => (numF L t).2) []
theorem numAll_succ {us : List Tm} {i : Nat} {t : Tm} (h : us[i]? = some t) : numAll (us.take (i + 1)) = (numF (numAll (us.take i)) t).2 := by
 unfold numAll
 rw [List.take_add_one, h, List.foldl_append]
 rfl
theorem numAll_le (us : List Tm) : ∀ i, i ≤ us.length → (numAll (us.take i)).length ≤ i
 | 0, _ => by simp [numAll]
 | i + 1, h => by
  have ih := numAll_le us i (by omega)
  rw [numAll_succ (List.getElem?_eq_getElem (show i < us.length by omega))]
  have := numF_len (numAll (us.take i)) us[i]
  omega
theorem intern_num {lim : Nat} {ts : List Tm} {t : Tm} (h : ts.length < lim) : (internF lim ts t).2.2 = (numF ts t).2 := by
 unfold internF numF
 cases idxT ts t with
 | some n => rfl
 | none => simp only [if_neg (show ¬ lim ≤ ts.length by omega)]
theorem Hs.dFront (x : Nat × Know) (L D R : Hp) : Hs (x :: (L ++ (D ++ R))) (D ++ (x :: (L ++ R))) := Hs.perm (by
 have h : (D ++ (L ++ R)).Perm (L ++ (D ++ R)) := by
  rw [← List.append_assoc, ← List.append_assoc]
  exact List.Perm.append_right _ List.perm_append_comm
 exact List.perm_middle.trans (h.cons x))
theorem Hs.dBack (x : Nat × Know) (L D R : Hp) : Hs (D ++ (x :: (L ++ R))) (x :: (L ++ (D ++ R))) := Hs.perm (by
 have h : (D ++ (L ++ R)).Perm (L ++ (D ++ R)) := by
  rw [← List.append_assoc, ← List.append_assoc]
  exact List.Perm.append_right _ List.perm_append_comm
 exact (List.perm_middle.trans (h.cons x)).symm)
theorem all_take_may {us : List Tm} {i : Nat} {t : Tm} (h : us[i]? = some t) (h0 : (us.take i).all mayT = true) (ht : mayT t = true) : (us.take (i + 1)).all mayT = true := by
 rw [List.take_add_one, h, List.all_append, h0]
 simp [ht]
theorem all_not_may {us : List Tm} {i : Nat} {t : Tm} (h : us[i]? = some t) (ht : mayT t = false) : us.all mayT = false := by
 rw [List.all_eq_false]
 exact ⟨t, List.mem_of_getElem? h, by rw [ht]; simp⟩
theorem law_begin (w0 : World) (G : Hp) (uA : Option Addr) (us : List Tm) (uc : Nat) (hu : TmsAt w0 G uA us) (hm : us.length ≤ 30) (hok : ∀ t ∈ us, TmOk t) : GC Tryz.prog w0 12 #[.int .i64 1000, .slice uA us.length uc] (fun v G' => (v = .tuple #[.pointer none, .pointer none, .bool false] ∧ us.all mayT = false ∧ G = G') ∨ ∃ bD HD bW vl Hl, v = .tuple #[.pointer (some ⟨bD, 0, none⟩), .pointer (some ⟨bW, 0, none⟩), .bool true] ∧ us.all mayT = true ∧ (Dic (numAll us) 1000 bD HD ∧ SlAt 3 24 (tmsC (numAll us)) (numAll us).length vl Hl) ∧ (bW, woC vl) :: (Hl ++ (HD ++ G)) = G') G := by
 refine GC.body (args := [.int .i64 1000, .slice uA us.length uc]) Tryz.func12 rfl (by kernel_rfl) rfl ?_
 refine GW.seq ?_
 refine GW.region ?_
 refine R.assign ⟨Z,Z,Z,Z⟩ Z ?_
 refine R.assign ⟨Z,Z,Z,Z⟩ Z ?_
 refine R.assign ⟨Z,Z,Z,Z⟩ Z ?_
 refine GOps.nil ?_
 refine GW.seq ?_
 refine GW.region ?_
 refine R.move ⟨Z,Z,Z,Z⟩ Z ?_
 refine R.call ⟨Z,Z,Z,Z⟩ Z (vs := [_]) Z ((dict_New _ _ 1000 (by decide)).mono ?_)
 rintro _ _ ⟨bD, HD, ⟨rfl, hD⟩, rfl⟩
 refine R.build (vs := []) (cells := #[.slice none 0 0]) ⟨Z,Z,Z,Z⟩ Z (fun w => run_build w 60 _ _ (by kernel_rfl)) ?_
 refine R.box ⟨Z,Z,Z,Z⟩ Z fun b13 => ?_
 refine R.assign ⟨Z,Z,Z,Z⟩ Z ?_
 refine R.assign ⟨Z,Z,Z,Z⟩ Z ?_
 refine GOps.nil ?_
 refine GW.seq ?_
 refine GW.seq ?_
 refine GW.region ?_
 refine R.assign ⟨Z,Z,Z,Z⟩ Z ?_
 refine GOps.nil ?_
 refine GW.block ?_
 refine GW.loop4 (fun (i : Nat) (h : Value × (Hp × Hp)) (u1 : Unit) (u2 : Unit) => [(0, .int .i64 1000), (1, .slice uA us.length uc), (7, .pointer (some ⟨bD, 0, none⟩)), (8, .pointer (some ⟨b13, 0, none⟩)), (9, .int .i64 i)]) (fun (i : Nat) (h : Value × (Hp × Hp)) (u1 : Unit) (u2 : Unit) => (b13, woC h.1) :: (h.2.1 ++ (h.2.2 ++ G))) (fun i : Nat => us.length - i) (fun (i : Nat) (h : Value × (Hp × Hp)) (u1 : Unit) (u2 : Unit) => i ≤ us.length ∧ (us.take i).all mayT = true ∧ SlAt 3 24 (tmsC (numAll (us.take i))) (numAll (us.take i)).length h.1 h.2.1 ∧ Dic (numAll (us.take i)) 1000 bD h.2.2) 0 ((.slice none 0 0, ([], HD))) (()) (())
  (keepG) (Hs.refl _) (⟨Nat.zero_le _, by simp, .nil rfl rfl, hD⟩) ?_
 rintro i h u1 u2 ⟨hi, hA, hL, hD2⟩
 obtain ⟨vl, Hl, HD2⟩ := h
 simp only at hL hD2
 have hnl := numAll_le us i hi
 refine GW.seq ?_
 refine GW.seq ?_
 refine GW.region ?_
 refine R.move ⟨Z,Z,Z,Z⟩ Z ?_
 refine R.move ⟨Z,Z,Z,Z⟩ Z ?_
 refine R.lenS ⟨Z,Z,Z,Z⟩ Z Z Tryz.underlying53 ?_
 refine R.lss ⟨Z,Z,Z,Z⟩ Z Z ?_
 refine GOps.nil ?_
 refine GW.ite Z (fun hc1 => ?_) (fun hc1 => ?_)
 ·try simp only [dcQ] at hc1
  obtain ⟨u, hx⟩ : ∃ u, us[i]? = some u := ⟨_, List.getElem?_eq_getElem (by omega)⟩
  obtain ⟨ub, uo, cs0, rfl, rfl, hrd⟩ := hu i u hx
  have hk := hok u (List.mem_of_getElem? hx)
  refine GW.skip ?_
  refine GW.seq ?_
  refine GW.block ?_
  refine GW.seq ?_
  refine GW.seq ?_
  refine GW.region ?_
  refine R.move ⟨Z,Z,Z,Z⟩ Z ?_
  refine R.move ⟨Z,Z,Z,Z⟩ Z ?_
  refine R.indexAddrS ⟨Z,Z,Z,Z⟩ Z Z Tryz.underlying53 Tryz.sizeOf24 (by omega) (by omega) ?_
  refine R.loadA ⟨Z,Z,Z,Z⟩ Z Tryz.underlying24 Z Tryz.sizeOf24 (hrd.mono (fun y hy => by repeat (first | exact hy | apply List.mem_cons_of_mem | apply List.mem_append_right))) (by rfl) ?_
  refine R.call ⟨Z,Z,Z,Z⟩ Z (vs := [_]) Z ((ref_MayT _ _ u hk.1 hk.2).mono ?_)
  rintro _ _ ⟨rfl, rfl⟩
  refine R.not ⟨Z,Z,Z,Z⟩ Z ?_
  refine GOps.nil ?_
  refine GW.ite Z (fun hc2 => ?_) (fun hc2 => ?_)
  ·try simp only [dcQ] at hc2
   replace hc2 : mayT u = false := hc2
   refine GW.seq ?_
   refine GW.region ?_
   refine R.assign ⟨Z,Z,Z,Z⟩ Z ?_
   refine R.assign ⟨Z,Z,Z,Z⟩ Z ?_
   refine R.assign ⟨Z,Z,Z,Z⟩ Z ?_
   refine GOps.nil ?_
   first | exact GW.ret (Out.of (Res.three rfl rfl rfl rfl) (Hs.sub subG) (.inl ⟨rfl, all_not_may hx hc2, rfl⟩)) | (have he : ((numAll us).length : Int) ≤ 1000 := (by omega); exact GW.ret (Out.of (Res.three rfl rfl rfl rfl) (Hs.refl _) (.inr ⟨bD, HD2, b13, _, Hl, by simp [he], hA, ⟨hD2, hL⟩, rfl⟩)))
  ·try simp only [dcQ] at hc2
   replace hc2 : mayT u = true := hc2
   refine GW.skip ?_
   refine GW.seq ?_
   refine GW.region ?_
   refine R.move ⟨Z,Z,Z,Z⟩ Z ?_
   refine R.move ⟨Z,Z,Z,Z⟩ Z ?_
   refine R.move ⟨Z,Z,Z,Z⟩ Z ?_
   refine R.indexAddrS ⟨Z,Z,Z,Z⟩ Z Z Tryz.underlying53 Tryz.sizeOf24 (by omega) (by omega) ?_
   refine R.loadA ⟨Z,Z,Z,Z⟩ Z Tryz.underlying24 Z Tryz.sizeOf24 (hrd.mono (fun y hy => by repeat (first | exact hy | apply List.mem_cons_of_mem | apply List.mem_append_right))) (by rfl) ?_
   refine GOps.weak (Keeps.refl _) (Hs.dFront _ _ _ _) ?_
   refine R.call ⟨Z,Z,Z,Z⟩ Z (vs := [_, _]) Z ((dict_Intern _ _ HD2 (numAll (us.take i)) 1000 bD u hD2 hc2).mono ?_)
   rintro _ _ ⟨HD3, ⟨rfl, hD3⟩, rfl⟩
   rw [intern_num (by omega), ← numAll_succ hx] at hD3
   refine GOps.weak (Keeps.refl _) (Hs.dBack _ _ _ _) ?_
   refine GOps.nil ?_
   refine GW.region ?_
   refine R.move ⟨Z,Z,Z,Z⟩ Z ?_
   refine R.move ⟨Z,Z,Z,Z⟩ Z ?_
   refine R.move ⟨Z,Z,Z,Z⟩ Z ?_
   refine R.indexAddrS ⟨Z,Z,Z,Z⟩ Z Z Tryz.underlying53 Tryz.sizeOf24 (by omega) (by omega) ?_
   refine R.loadA ⟨Z,Z,Z,Z⟩ Z Tryz.underlying24 Z Tryz.sizeOf24 (hrd.mono (fun y hy => by repeat (first | exact hy | apply List.mem_cons_of_mem | apply List.mem_append_right))) (by rfl) ?_
   refine R.call ⟨Z,Z,Z,Z⟩ Z (vs := [_, _]) Z ((ref_Number _ _ (numAll (us.take i)) b13 vl Hl hL (by omega) u).mono ?_)
   rintro _ _ ⟨vl3, Hl3, ⟨rfl, hL3⟩, rfl⟩
   rw [← numAll_succ hx] at hL3
   refine GOps.nil ?_
   refine GW.region ?_
   refine R.move ⟨Z,Z,Z,Z⟩ Z ?_
   refine R.add (r := (((i + 1) : Nat) : Int)) ⟨Z,Z,Z,Z⟩ Z Z (by rw [wrap64_id (by omega) (by omega)]; omega) ?_
   refine R.assign ⟨Z,Z,Z,Z⟩ Z ?_
   refine GOps.nil ?_
   exact ⟨i + 1, (vl3, (Hl3, HD3)), (), (), by omega, ⟨by omega, all_take_may hx hA hc2, hL3, hD3⟩, rfl, keepG, by first | exact Hs.refl _ | exact Hs.tl _ | exact Hs.tl2 _ _⟩
 ·try simp only [dcQ] at hc1
  obtain rfl : i = us.length := by omega
  rw [List.take_length] at hA hL hD2
  rw [List.take_length] at hnl
  obtain ⟨Al, cl, rfl, hcl⟩ := hL.split
  refine GW.exit ?_
  refine GW.seq ?_
  refine GW.drawS 12 Z (by kernel_rfl) ?_
  refine GA.w 0 Z (V.move ⟨Z,Z,Z,Z⟩ Z) Z ?_
  refine GA.w 1 Z (V.move ⟨Z,Z,Z,Z⟩ Z) Z ?_
  refine GA.w 2 Z (V.move ⟨Z,Z,Z,Z⟩ Z) Z ?_
  refine GA.w 3 Z (V.nilCheck ⟨Z,Z,Z,Z⟩ Z) Z ?_
  refine GA.w 4 Z (V.fieldAddr ⟨Z,Z,Z,Z⟩ Z Tryz.underlying60 Z Tryz.sizeOf53) Z ?_
  refine GA.val 5 Z (V.load1 ⟨Z,Z,Z,Z⟩ Z Tryz.underlying53 Z (.own' memG (by rfl))) Z (by kernel_rfl) (by kernel_rfl) (by kernel_rfl) ?_
  refine GA.w 6 Z (V.lenS ⟨Z,Z,Z,Z⟩ Z Z Tryz.underlying53) Z ?_
  refine GA.w 7 Z (V.move ⟨Z,Z,Z,Z⟩ Z) Z ?_
  refine GA.val 8 Z (V.leq ⟨Z,Z,Z,Z⟩ Z Z) Z (by kernel_rfl) (by kernel_rfl) (by kernel_rfl) ?_
  refine GA.w 9 Z (V.assign ⟨Z,Z,Z,Z⟩ Z) Z ?_
  refine GA.w 10 Z (V.assign ⟨Z,Z,Z,Z⟩ Z) Z ?_
  refine GA.w 11 Z (V.assign ⟨Z,Z,Z,Z⟩ Z) Z ?_
  refine GA.done hsC (by kernel_rfl) ?_
  first | exact GW.ret (Out.of (Res.three rfl rfl rfl rfl) (Hs.sub subG) (.inl ⟨rfl, all_not_may hx hc2, rfl⟩)) | (have he : ((numAll us).length : Int) ≤ 1000 := (by omega); exact GW.ret (Out.of (Res.three rfl rfl rfl rfl) (Hs.refl _) (.inr ⟨bD, HD2, b13, _, Hl, by simp [he], hA, ⟨hD2, hL⟩, rfl⟩)))
def plEq (a b : Pl) : Bool := a.var == b.var && ((a.id : Int) == (b.id : Int) && true)
def rwEq (a b : Rw) : Bool := plEq a.p0 b.p0 && (plEq a.p1 b.p1 && plEq a.p2 b.p2)
def stEq (a b : St) : Bool := a.kind == b.kind && (rwEq a.row b.row && (plEq a.a b.a && (plEq a.b b.b && true)))
theorem run_eqPl (d : Nat) (a b : Pl) (w : World) : (Op.equalIn (d + 2) 37 (.agg (PlC a).toArray) (.agg (PlC b).toArray)).run Tryz.prog w = .ok (plEq a b) w := by
 refine eqA_struct Tryz.underlying37 (by kernel_rfl) ?_
 refine eqF_cons (by rfl) (run_part1 Tryz.underlying3 rfl rfl) (run_part1 Tryz.underlying3 rfl rfl) (run_equalIn_int Tryz.underlying3 _ _ _ _) ?_
 refine eqF_cons (by rfl) (run_part1 Tryz.underlying35 rfl rfl) (run_part1 Tryz.underlying35 rfl rfl) (run_equalIn_int Tryz.underlying35 _ _ _ _) ?_
 exact eqF_nil
theorem run_eqRw (d : Nat) (a b : Rw) (w : World) : (Op.equalIn (d + 3) 38 (.agg (RwC a).toArray) (.agg (RwC b).toArray)).run Tryz.prog w = .ok (rwEq a b) w :=
 eqA_array3 Tryz.underlying38 Tryz.sizeOf37 (run_partA Tryz.underlying37 rfl Tryz.sizeOf37) (run_partA Tryz.underlying37 rfl Tryz.sizeOf37) (run_eqPl d a.p0 b.p0 w)
  (run_partA Tryz.underlying37 rfl Tryz.sizeOf37) (run_partA Tryz.underlying37 rfl Tryz.sizeOf37) (run_eqPl d a.p1 b.p1 w)
  (run_partA Tryz.underlying37 rfl Tryz.sizeOf37) (run_partA Tryz.underlying37 rfl Tryz.sizeOf37) (run_eqPl d a.p2 b.p2 w)
theorem run_eqSt (d : Nat) (a b : St) (w : World) : (Op.equalIn (d + 4) 50 (.agg (StC a).toArray) (.agg (StC b).toArray)).run Tryz.prog w = .ok (stEq a b) w := by
 refine eqA_struct Tryz.underlying50 (by kernel_rfl) ?_
 refine eqF_cons (by rfl) (run_part1 Tryz.underlying48 rfl rfl) (run_part1 Tryz.underlying48 rfl rfl) (run_equalIn_int Tryz.underlying48 _ _ _ _) ?_
 refine eqF_cons (by rfl) (run_partA Tryz.underlying38 rfl Tryz.sizeOf38) (run_partA Tryz.underlying38 rfl Tryz.sizeOf38) (run_eqRw d a.row b.row w) ?_
 refine eqF_cons (by rfl) (run_partA Tryz.underlying37 rfl Tryz.sizeOf37) (run_partA Tryz.underlying37 rfl Tryz.sizeOf37) (run_eqPl (d + 1) a.a b.a w) ?_
 refine eqF_cons (by rfl) (run_partA Tryz.underlying37 rfl Tryz.sizeOf37) (run_partA Tryz.underlying37 rfl Tryz.sizeOf37) (run_eqPl (d + 1) a.b b.b w) ?_
 exact eqF_nil
theorem plEq_self (a : Pl) : plEq a a = true := by simp [plEq]
theorem rwEq_self (a : Rw) : rwEq a a = true := by simp [rwEq, plEq_self]
theorem stEq_self (a : St) : stEq a a = true := by simp [stEq, rwEq_self, plEq_self]
theorem g38 : Tryz.prog.eqGuardType Tryz.prog.depth 38 = false := by kernel_rfl
theorem g50 : Tryz.prog.eqGuardType Tryz.prog.depth 50 = false := by kernel_rfl
theorem ref_SameP0 (w0 : World) (G : Hp) (h : Rw) (n : Nat) (xs : List St) (A B : Option Addr) (c e : Nat) (ha : StsAt w0 G A xs) (hb : StsAt w0 G B xs) (hm : xs.length ≤ 100000) (hx : xs.length ≤ c) (hy : xs.length ≤ e) : GC Tryz.prog w0 13 #[.agg (planC h (.slice A xs.length c) n).toArray, .agg (planC h (.slice B xs.length e) n).toArray] (fun v G' => v = .bool true ∧ G = G') G := by
 refine GC.body (args := [.agg (planC h (.slice A xs.length c) n).toArray, .agg (planC h (.slice B xs.length e) n).toArray]) Tryz.func13 rfl (by kernel_rfl) rfl ?_
 refine GW.seq ?_
 refine GW.region ?_
 refine R.box ⟨Z,Z,Z,Z⟩ Z fun b2 => ?_
 refine R.box ⟨Z,Z,Z,Z⟩ Z fun b3 => ?_
 refine R.assign ⟨Z,Z,Z,Z⟩ Z ?_
 refine GOps.nil ?_
 refine GW.seq ?_
 refine GW.seq ?_
 refine GW.region ?_
 refine R.fieldAddr ⟨Z,Z,Z,Z⟩ Z Tryz.underlying41 Z Tryz.sizeOf3 ?_
 refine R.load1 ⟨Z,Z,Z,Z⟩ Z Tryz.underlying3 Z (.own memH Z) ?_
 refine R.fieldAddr ⟨Z,Z,Z,Z⟩ Z Tryz.underlying41 Z Tryz.sizeOf3 ?_
 refine R.load1 ⟨Z,Z,Z,Z⟩ Z Tryz.underlying3 Z (.own memH Z) ?_
 refine R.neI ⟨Z,Z,Z,Z⟩ Z Z ?_
 refine R.move ⟨Z,Z,Z,Z⟩ Z ?_
 refine GOps.caseB 11 Z (fun hg1 => ?_) (fun hg1 => ?_)
 ·try simp only [dcQ] at hg1
  exact absurd rfl hg1
 ·try simp only [dcQ] at hg1
  refine R.fieldAddr ⟨Z,Z,Z,Z⟩ Z Tryz.underlying41 Z Tryz.sizeOf38 ?_
  refine R.load_own (cs := RwC h) ⟨Z,Z,Z,Z⟩ Z Tryz.underlying38 Z Tryz.sizeOf38 memG (by rfl) (by rfl) ?_
  refine R.fieldAddr ⟨Z,Z,Z,Z⟩ Z Tryz.underlying41 Z Tryz.sizeOf38 ?_
  refine R.load_own (cs := RwC h) ⟨Z,Z,Z,Z⟩ Z Tryz.underlying38 Z Tryz.sizeOf38 memG (by rfl) (by rfl) ?_
  refine R.neA ⟨Z,Z,Z,Z⟩ Z Z (guard_of g38) (equal_of 9990 Z (fun w => run_eqRw 9997 h h w)) ?_
  refine R.pick_f ⟨Z,Z,Z,Z⟩ Z Z ?_
  refine R.move ⟨Z,Z,Z,Z⟩ Z ?_
  refine GOps.caseB 18 Z (fun hg2 => ?_) (fun hg2 => ?_)
  ·try simp only [dcQ] at hg2
   exfalso; rw [rwEq_self] at hg2; simp at hg2
  ·try simp only [dcQ] at hg2
   refine R.fieldAddr ⟨Z,Z,Z,Z⟩ Z Tryz.underlying41 Z Tryz.sizeOf39 ?_
   refine R.load1 ⟨Z,Z,Z,Z⟩ Z Tryz.underlying39 Z (.own memH Z) ?_
   refine R.lenS ⟨Z,Z,Z,Z⟩ Z Z Tryz.underlying39 ?_
   refine R.fieldAddr ⟨Z,Z,Z,Z⟩ Z Tryz.underlying41 Z Tryz.sizeOf39 ?_
   refine R.load1 ⟨Z,Z,Z,Z⟩ Z Tryz.underlying39 Z (.own memH Z) ?_
   refine R.lenS ⟨Z,Z,Z,Z⟩ Z Z Tryz.underlying39 ?_
   refine R.neI ⟨Z,Z,Z,Z⟩ Z Z ?_
   refine R.pick_f ⟨Z,Z,Z,Z⟩ Z Z ?_
   refine GOps.nil ?_
   refine GW.ite Z (fun hc3 => ?_) (fun hc3 => ?_)
   ·try simp only [dcQ] at hc3
    exfalso; omega
   ·try simp only [dcQ] at hc3
    refine GW.skip ?_
    refine GW.seq ?_
    refine GW.seq ?_
    refine GW.region ?_
    refine R.assign ⟨Z,Z,Z,Z⟩ Z ?_
    refine GOps.nil ?_
    refine GW.block ?_
    refine GW.loopI (fun i : Nat => [(2, .pointer (some ⟨b2, 0, none⟩)), (3, .pointer (some ⟨b3, 0, none⟩)), (5, .int .i64 i)]) (fun i => (b3, .exact (.cells (Value.agg (planC h (.slice B xs.length e) n).toArray).cells 41 (0, 0))) :: (b2, .exact (.cells (Value.agg (planC h (.slice A xs.length c) n).toArray).cells 41 (0, 0))) :: G) (fun i => xs.length - i) (fun i => i ≤ xs.length) 0
     (keepG) (Hs.refl _) (Nat.zero_le _) ?_
    rintro i hi
    refine GW.seq ?_
    refine GW.seq ?_
    refine GW.region ?_
    refine R.move ⟨Z,Z,Z,Z⟩ Z ?_
    refine R.fieldAddr ⟨Z,Z,Z,Z⟩ Z Tryz.underlying41 Z Tryz.sizeOf39 ?_
    refine R.load1 ⟨Z,Z,Z,Z⟩ Z Tryz.underlying39 Z (.own memH Z) ?_
    refine R.lenS ⟨Z,Z,Z,Z⟩ Z Z Tryz.underlying39 ?_
    refine R.lss ⟨Z,Z,Z,Z⟩ Z Z ?_
    refine GOps.nil ?_
    refine GW.ite Z (fun hc4 => ?_) (fun hc4 => ?_)
    ·try simp only [dcQ] at hc4
     obtain ⟨s, hs⟩ : ∃ s, xs[i]? = some s := ⟨_, List.getElem?_eq_getElem (by omega)⟩
     obtain ⟨sb, so, cs0, rfl, rfl, hrd⟩ := ha i s hs
     obtain ⟨tb, to, cs1, rfl, rfl, hre⟩ := hb i s hs
     refine GW.skip ?_
     refine GW.seq ?_
     refine GW.block ?_
     refine GW.seq ?_
     refine GW.drawS 11 Z (by kernel_rfl) ?_
     refine GA.w 0 Z (V.fieldAddr ⟨Z,Z,Z,Z⟩ Z Tryz.underlying41 Z Tryz.sizeOf39) Z ?_
     refine GA.val 1 Z (V.load1 ⟨Z,Z,Z,Z⟩ Z Tryz.underlying39 Z (.own memH Z)) Z (by kernel_rfl) (by kernel_rfl) (by kernel_rfl) ?_
     refine GA.w 2 Z (V.move ⟨Z,Z,Z,Z⟩ Z) Z ?_
     refine GA.val 3 Z (V.indexAddrS ⟨Z,Z,Z,Z⟩ Z Z Tryz.underlying39 Tryz.sizeOf50 (by omega) (by omega)) Z (by kernel_rfl) (by kernel_rfl) (by kernel_rfl) ?_
     refine GA.val 4 Z (V.loadA ⟨Z,Z,Z,Z⟩ Z Tryz.underlying50 Z Tryz.sizeOf50 (hrd.mono (fun y hy => by repeat (first | exact hy | apply List.mem_cons_of_mem | apply List.mem_append_right))) (by rfl)) Z (by kernel_rfl) (by kernel_rfl) (by kernel_rfl) ?_
     refine GA.w 5 Z (V.fieldAddr ⟨Z,Z,Z,Z⟩ Z Tryz.underlying41 Z Tryz.sizeOf39) Z ?_
     refine GA.val 6 Z (V.load1 ⟨Z,Z,Z,Z⟩ Z Tryz.underlying39 Z (.own memH Z)) Z (by kernel_rfl) (by kernel_rfl) (by kernel_rfl) ?_
     refine GA.w 7 Z (V.move ⟨Z,Z,Z,Z⟩ Z) Z ?_
     refine GA.val 8 Z (V.indexAddrS ⟨Z,Z,Z,Z⟩ Z Z Tryz.underlying39 Tryz.sizeOf50 (by omega) (by omega)) Z (by kernel_rfl) (by kernel_rfl) (by kernel_rfl) ?_
     refine GA.val 9 Z (V.loadA ⟨Z,Z,Z,Z⟩ Z Tryz.underlying50 Z Tryz.sizeOf50 (hre.mono (fun y hy => by repeat (first | exact hy | apply List.mem_cons_of_mem | apply List.mem_append_right))) (by rfl)) Z (by kernel_rfl) (by kernel_rfl) (by kernel_rfl) ?_
     refine GA.val 10 Z (V.neA ⟨Z,Z,Z,Z⟩ Z Z (guard_of g50) (equal_of 9990 Z (fun w => run_eqSt 9996 s s w))) Z (by kernel_rfl) (by kernel_rfl) (by kernel_rfl) ?_
     refine GA.done hsC (by kernel_rfl) ?_
     refine GW.ite Z (fun hc5 => ?_) (fun hc5 => ?_)
     ·try simp only [dcQ] at hc5
      exfalso; rw [stEq_self] at hc5; simp at hc5
     ·try simp only [dcQ] at hc5
      refine GW.skip ?_
      refine GW.region ?_
      refine R.move ⟨Z,Z,Z,Z⟩ Z ?_
      refine R.add (r := (((i + 1) : Nat) : Int)) ⟨Z,Z,Z,Z⟩ Z Z (by rw [wrap64_id (by omega) (by omega)]; omega) ?_
      refine R.assign ⟨Z,Z,Z,Z⟩ Z ?_
      refine GOps.nil ?_
      exact ⟨i + 1, by omega, by omega, rfl, keepG, by first | exact Hs.refl _ | exact Hs.tl _ | exact Hs.tl2 _ _⟩
    ·try simp only [dcQ] at hc4
     refine GW.exit ?_
     refine GW.seq ?_
     refine GW.region ?_
     refine R.assign ⟨Z,Z,Z,Z⟩ Z ?_
     refine GOps.nil ?_
     exact GW.ret (Out.of (Res.one rfl rfl) (Hs.tl2 _ _) ⟨rfl, rfl⟩)
theorem ref_SameP (w0 : World) (G : Hp) {h h' : Rw} {n n' : Nat} {xs ys : List St} (A B : Option Addr) (c e : Nat) (ha : StsAt w0 G A xs) (hb : StsAt w0 G B ys) (hm : xs.length ≤ 100000) (hx : xs.length ≤ c) (hy : ys.length ≤ e) (e1 : h = h') (e2 : n = n') (e3 : xs = ys) : GC Tryz.prog w0 13 #[.agg (planC h (.slice A xs.length c) n).toArray, .agg (planC h' (.slice B ys.length e) n').toArray] (fun v G' => v = .bool true ∧ G = G') G := by
 subst e1 e2 e3
 exact ref_SameP0 w0 G h n xs A B c e ha hb hm hx hy
theorem law_numbered0 (w0 : World) (G : Hp) (ts : List Tm) (lim bD bW : Nat) (HD : Hp) (vl : Value) (Hl : Hp) (hD : Dic ts lim bD HD) (hL : SlAt 3 24 (tmsC (ts)) (ts).length vl Hl) (hm : ts.length ≤ 100000) : GC Tryz.prog w0 18 #[.pointer (some ⟨bD, 0, none⟩), .pointer (some ⟨bW, 0, none⟩)] (fun v G' => v = .bool true ∧ G = G') ((bW, woC vl) :: (Hl ++ (HD ++ G))) := by
 obtain ⟨Al, cl, rfl, hts, hcl⟩ := SlAt.flat w0 [] tm_len hL
 rw [List.append_nil] at hts
 refine GC.body (args := [.pointer (some ⟨bD, 0, none⟩), .pointer (some ⟨bW, 0, none⟩)]) Tryz.func18 rfl (by kernel_rfl) rfl ?_
 refine GW.seq ?_
 refine GW.region ?_
 refine R.assign ⟨Z,Z,Z,Z⟩ Z ?_
 refine GOps.nil ?_
 refine GW.seq ?_
 refine GW.seq ?_
 refine GW.region ?_
 refine R.assign ⟨Z,Z,Z,Z⟩ Z ?_
 refine GOps.nil ?_
 refine GW.block ?_
 refine GW.loopI (fun i : Nat => [(0, .pointer (some ⟨bD, 0, none⟩)), (1, .pointer (some ⟨bW, 0, none⟩)), (5, .int .i64 i)]) (fun i => (bW, woC (.slice Al ts.length cl)) :: (Hl ++ (HD ++ G))) (fun i => ts.length - i) (fun i => i ≤ ts.length) 0
  (keepG) (Hs.refl _) (Nat.zero_le _) ?_
 rintro i hi
 refine GW.seq ?_
 refine GW.seq ?_
 refine GW.region ?_
 refine R.move ⟨Z,Z,Z,Z⟩ Z ?_
 refine R.move ⟨Z,Z,Z,Z⟩ Z ?_
 refine R.nilCheck ⟨Z,Z,Z,Z⟩ Z ?_
 refine R.fieldAddr ⟨Z,Z,Z,Z⟩ Z Tryz.underlying60 Z Tryz.sizeOf53 ?_
 refine R.load1 ⟨Z,Z,Z,Z⟩ Z Tryz.underlying53 Z (.own memH Z) ?_
 refine R.lenS ⟨Z,Z,Z,Z⟩ Z Z Tryz.underlying53 ?_
 refine R.lss ⟨Z,Z,Z,Z⟩ Z Z ?_
 refine GOps.nil ?_
 refine GW.ite Z (fun hc1 => ?_) (fun hc1 => ?_)
 ·try simp only [dcQ] at hc1
  obtain ⟨t, hx⟩ : ∃ t, ts[i]? = some t := ⟨_, List.getElem?_eq_getElem (by omega)⟩
  obtain ⟨tb, to, cs0, rfl, rfl, hrd⟩ := hts i t hx
  refine GW.skip ?_
  refine GW.seq ?_
  refine GW.block ?_
  refine GW.seq ?_
  refine GW.region ?_
  refine R.move ⟨Z,Z,Z,Z⟩ Z ?_
  refine R.move ⟨Z,Z,Z,Z⟩ Z ?_
  refine R.add (r := (((i + 1) : Nat) : Int)) ⟨Z,Z,Z,Z⟩ Z Z (by rw [wrap64_id (by omega) (by omega)]; omega) ?_
  refine R.conv (r := ((i + 1 : Nat) : Int)) ⟨Z,Z,Z,Z⟩ Z Tryz.underlying3 Tryz.underlying35 (u32_id _ (by omega)) ?_
  refine GOps.weak (Keeps.refl _) (Hs.dFront _ _ _ _) ?_
  refine R.call ⟨Z,Z,Z,Z⟩ Z (vs := [_, _]) Z ((dict_Term _ _ HD ts lim bD i t hD hx).mono ?_)
  rintro _ _ ⟨rfl, rfl⟩
  refine GOps.weak (Keeps.refl _) (Hs.dBack _ _ _ _) ?_
  refine R.move ⟨Z,Z,Z,Z⟩ Z ?_
  refine R.extract ⟨Z,Z,Z,Z⟩ Z Z ?_
  refine R.extract ⟨Z,Z,Z,Z⟩ Z Z ?_
  refine R.alloc ⟨Z,Z,Z,Z⟩ Tryz.zeroValue24 fun b6 => ?_
  refine R.storeAll (G1 := []) Z Z Z Z Z Tryz.sizeOf24 Z Z Z Z ?_
  refine R.assign ⟨Z,Z,Z,Z⟩ Z ?_
  refine GOps.nil ?_
  refine GW.seq ?_
  refine GW.drawS 13 Z (by kernel_rfl) ?_
  refine GA.w 0 Z (V.move ⟨Z,Z,Z,Z⟩ Z) Z ?_
  refine GA.w 1 Z (V.not ⟨Z,Z,Z,Z⟩ Z) Z ?_
  refine GA.w 2 Z (V.move ⟨Z,Z,Z,Z⟩ Z) Z ?_
  refine GA.caseB 27 Z (fun hg2 => ?_) (fun hg2 => ?_)
  ·try simp only [dcQ] at hg2
   exfalso; simp at hg2
  ·try simp only [dcQ] at hg2
   refine GA.val 3 Z (V.load_own (cs := TmC t) ⟨Z,Z,Z,Z⟩ Z Tryz.underlying24 Z Tryz.sizeOf24 memG (by rfl) (by rfl)) Z (by kernel_rfl) (by kernel_rfl) (by kernel_rfl) ?_
   refine GA.w 4 Z (V.move ⟨Z,Z,Z,Z⟩ Z) Z ?_
   refine GA.w 5 Z (V.nilCheck ⟨Z,Z,Z,Z⟩ Z) Z ?_
   refine GA.w 6 Z (V.fieldAddr ⟨Z,Z,Z,Z⟩ Z Tryz.underlying60 Z Tryz.sizeOf53) Z ?_
   refine GA.val 7 Z (V.load1 ⟨Z,Z,Z,Z⟩ Z Tryz.underlying53 Z (.own memH Z)) Z (by kernel_rfl) (by kernel_rfl) (by kernel_rfl) ?_
   refine GA.w 8 Z (V.move ⟨Z,Z,Z,Z⟩ Z) Z ?_
   refine GA.val 9 Z (V.indexAddrS ⟨Z,Z,Z,Z⟩ Z Z Tryz.underlying53 Tryz.sizeOf24 (by omega) (by omega)) Z (by kernel_rfl) (by kernel_rfl) (by kernel_rfl) ?_
   refine GA.val 10 Z (V.loadA ⟨Z,Z,Z,Z⟩ Z Tryz.underlying24 Z Tryz.sizeOf24 (hrd.mono (fun y hy => by repeat (first | exact List.mem_append_left _ hy | exact hy | apply List.mem_cons_of_mem | apply List.mem_append_right))) (by rfl)) Z (by kernel_rfl) (by kernel_rfl) (by kernel_rfl) ?_
   refine GA.val 11 Z (V.neA ⟨Z,Z,Z,Z⟩ Z Z (guard_of g24) (equal_of 9990 Z (fun w => run_eqTm 9998 t t w))) Z (by kernel_rfl) (by kernel_rfl) (by kernel_rfl) ?_
   refine GA.w 12 Z (V.pick_f ⟨Z,Z,Z,Z⟩ Z Z) Z ?_
   refine GA.done hsC (by kernel_rfl) ?_
   refine GW.ite Z (fun hc3 => ?_) (fun hc3 => ?_)
   ·try simp only [dcQ] at hc3
    exfalso; rw [tmEq_iff.2 rfl] at hc3; simp at hc3
   ·try simp only [dcQ] at hc3
    refine GW.skip ?_
    refine GW.region ?_
    refine R.move ⟨Z,Z,Z,Z⟩ Z ?_
    refine R.add (r := (((i + 1) : Nat) : Int)) ⟨Z,Z,Z,Z⟩ Z Z (by rw [wrap64_id (by omega) (by omega)]; omega) ?_
    refine R.assign ⟨Z,Z,Z,Z⟩ Z ?_
    refine GOps.nil ?_
    exact ⟨i + 1, by omega, by omega, rfl, keepG, by first | exact Hs.refl _ | exact Hs.tl _ | exact Hs.tl2 _ _⟩
 ·try simp only [dcQ] at hc1
  refine GW.exit ?_
  refine GW.seq ?_
  refine GW.drawS 9 Z (by kernel_rfl) ?_
  refine GA.w 0 Z (V.move ⟨Z,Z,Z,Z⟩ Z) Z ?_
  refine GA.w 2 Z (V.move ⟨Z,Z,Z,Z⟩ Z) Z ?_
  refine GA.w 3 Z (V.nilCheck ⟨Z,Z,Z,Z⟩ Z) Z ?_
  refine GA.w 4 Z (V.fieldAddr ⟨Z,Z,Z,Z⟩ Z Tryz.underlying60 Z Tryz.sizeOf53) Z ?_
  refine GA.val 5 Z (V.load1 ⟨Z,Z,Z,Z⟩ Z Tryz.underlying53 Z (.own memH Z)) Z (by kernel_rfl) (by kernel_rfl) (by kernel_rfl) ?_
  refine GA.w 6 Z (V.lenS ⟨Z,Z,Z,Z⟩ Z Z Tryz.underlying53) Z ?_
  refine GA.one 1 hsC (by kernel_rfl) Z ?_
  refine R.call ⟨Z,Z,Z,Z⟩ Z (vs := [_]) Z ((dic_len hD _ _ (fun x hx => List.mem_cons_of_mem _ (List.mem_append_right _ (List.mem_append_left _ hx)))).mono ?_)
  rintro _ _ ⟨rfl, rfl⟩
  refine GOps.nil ?_
  refine GA.val 7 Z (V.eqI ⟨Z,Z,Z,Z⟩ Z Z) Z (by kernel_rfl) (by kernel_rfl) (by kernel_rfl) ?_
  refine GA.w 8 Z (V.assign ⟨Z,Z,Z,Z⟩ Z) Z ?_
  refine GA.done hsC (by kernel_rfl) ?_
  exact GW.ret (Out.of (Res.one rfl rfl) (by exact Hs.sub subG) ⟨by simp, rfl⟩)
theorem law_numbered (w0 : World) (G : Hp) {ts L : List Tm} (lim bD bW : Nat) (HD : Hp) (vl : Value) (Hl : Hp) (hD : Dic ts lim bD HD) (hL : SlAt 3 24 (tmsC L) L.length vl Hl) (hm : ts.length ≤ 100000) (e : ts = L) : GC Tryz.prog w0 18 #[.pointer (some ⟨bD, 0, none⟩), .pointer (some ⟨bW, 0, none⟩)] (fun v G' => v = .bool true ∧ G = G') ((bW, woC vl) :: (Hl ++ (HD ++ G))) := by
 subst e
 exact law_numbered0 w0 G ts lim bD bW HD vl Hl hD hL hm
end Go.Proofs.YtfddkcmooommeaaGreatDoor.Gl
end
section
namespace Go.Proofs.YtfddkcmooommeaaGreatDoor.Gl
open Go.RowKit Go.Shelf
set_option linter.unusedVariables false
set_option linter.unnecessarySimpa false
set_option linter.unusedSimpArgs false
attribute [-simp] List.getD_eq_getElem?_getD
theorem lt_pat {w0 : World} {G : Hp} {b : Nat} {l : Lt} (hm : (b, Know.exact (.cells (Value.agg (LtC l).toArray).cells 89 (0, 0))) ∈ G) : Rds w0 G b (0 + 1) (PtC l.pat) := fun j v hv => by
 refine .own hm ?_
 show (LtC l).toArray[0 + 1 + j]? = some v
 rw [Nat.zero_add, Nat.add_comm, List.getElem?_toArray]
 show (Value.int .i64 l.kind :: (PtC l.pat ++ (SlC l.a ++ SlC l.b)))[j + 1]? = some v
 rw [List.getElem?_cons_succ, List.getElem?_append_left (List.getElem?_eq_some_iff.1 hv).1]
 exact hv
theorem lt_a {w0 : World} {G : Hp} {b : Nat} {l : Lt} (hm : (b, Know.exact (.cells (Value.agg (LtC l).toArray).cells 89 (0, 0))) ∈ G) : Rds w0 G b (0 + 13) (SlC l.a) := fun j v hv => by
 refine .own hm ?_
 show (LtC l).toArray[0 + 13 + j]? = some v
 rw [Nat.zero_add, List.getElem?_toArray]
 show ((Value.int .i64 l.kind :: PtC l.pat) ++ (SlC l.a ++ SlC l.b))[13 + j]? = some v
 rw [List.getElem?_append_right (by show 13 ≤ _; omega), show 13 + j - (Value.int .i64 l.kind :: PtC l.pat).length = j by show 13 + j - 13 = j; omega, List.getElem?_append_left (List.getElem?_eq_some_iff.1 hv).1]
 exact hv
theorem lt_b {w0 : World} {G : Hp} {b : Nat} {l : Lt} (hm : (b, Know.exact (.cells (Value.agg (LtC l).toArray).cells 89 (0, 0))) ∈ G) : Rds w0 G b (0 + 17) (SlC l.b) := fun j v hv => by
 refine .own hm ?_
 show (LtC l).toArray[0 + 17 + j]? = some v
 rw [Nat.zero_add, List.getElem?_toArray]
 show ((Value.int .i64 l.kind :: (PtC l.pat ++ SlC l.a)) ++ SlC l.b)[17 + j]? = some v
 rw [List.getElem?_append_right (by show 17 ≤ _; omega), show 17 + j - (Value.int .i64 l.kind :: (PtC l.pat ++ SlC l.a)).length = j by show 17 + j - 17 = j; omega]
 exact hv
theorem rules_pt1 (w0 : World) (G : Hp) (l : Lt) (h : LtOk l) (bL : Nat) (hm : (bL, Know.exact (.cells (Value.agg (LtC l).toArray).cells 89 (0, 0))) ∈ G) : GC Tryz.prog w0 112 (#[] ++ #[] ++ #[.pointer (some ⟨bL, 0, none⟩)]) (fun v G' => ∃ s : ByteArray, v = .string s ∧ s.size ≤ 100000000 ∧ G = G') G := by
 refine GC.body (args := [.pointer (some ⟨bL, 0, none⟩)]) Tryz.func112 rfl (by kernel_rfl) rfl ?_
 refine GW.seq ?_
 refine GW.region ?_
 refine R.assign ⟨Z,Z,Z,Z⟩ Z ?_
 refine GOps.nil ?_
 refine GW.seq ?_
 refine GW.region ?_
 refine R.fieldAddr ⟨Z,Z,Z,Z⟩ Z Tryz.underlying89 Z Tryz.sizeOf28 ?_
 refine R.loadA ⟨Z,Z,Z,Z⟩ Z Tryz.underlying28 Z Tryz.sizeOf28 (lt_pat hm) (by rfl) ?_
 refine R.call ⟨Z,Z,Z,Z⟩ Z (vs := [_]) Z ((rules_patternText _ _ l.pat h.1).mono ?_)
 rintro _ _ ⟨u, rfl, hu, rfl⟩
 refine R.assign ⟨Z,Z,Z,Z⟩ Z ?_
 refine GOps.nil ?_
 exact GW.ret (Out.of (Res.one rfl rfl) (Hs.refl _) ⟨_, rfl, by first | omega | (simp only [ByteArray.size_append, lit_size]; simp; omega), rfl⟩)
theorem rules_pt2 (w0 : World) (G : Hp) (l : Lt) (h : LtOk l) (bL : Nat) (hm : (bL, Know.exact (.cells (Value.agg (LtC l).toArray).cells 89 (0, 0))) ∈ G) : GC Tryz.prog w0 114 (#[] ++ #[] ++ #[.pointer (some ⟨bL, 0, none⟩)]) (fun v G' => ∃ s : ByteArray, v = .string s ∧ s.size ≤ 100000000 ∧ G = G') G := by
 refine GC.body (args := [.pointer (some ⟨bL, 0, none⟩)]) Tryz.func114 rfl (by kernel_rfl) rfl ?_
 refine GW.seq ?_
 refine GW.region ?_
 refine R.assign ⟨Z,Z,Z,Z⟩ Z ?_
 refine GOps.nil ?_
 refine GW.seq ?_
 refine GW.region ?_
 refine R.fieldAddr ⟨Z,Z,Z,Z⟩ Z Tryz.underlying89 Z Tryz.sizeOf28 ?_
 refine R.loadA ⟨Z,Z,Z,Z⟩ Z Tryz.underlying28 Z Tryz.sizeOf28 (lt_pat hm) (by rfl) ?_
 refine R.call ⟨Z,Z,Z,Z⟩ Z (vs := [_]) Z ((rules_patternText _ _ l.pat h.1).mono ?_)
 rintro _ _ ⟨u, rfl, hu, rfl⟩
 refine R.addS ⟨Z,Z,Z,Z⟩ Z Z (by simp only [ByteArray.size_append, lit_size]; simp; omega) ?_
 refine R.assign ⟨Z,Z,Z,Z⟩ Z ?_
 refine GOps.nil ?_
 exact GW.ret (Out.of (Res.one rfl rfl) (Hs.refl _) ⟨_, rfl, by first | omega | (simp only [ByteArray.size_append, lit_size]; simp; omega), rfl⟩)
theorem rules_pt3 (w0 : World) (G : Hp) (l : Lt) (h : LtOk l) (bL : Nat) (hm : (bL, Know.exact (.cells (Value.agg (LtC l).toArray).cells 89 (0, 0))) ∈ G) : GC Tryz.prog w0 115 (#[] ++ #[] ++ #[.pointer (some ⟨bL, 0, none⟩)]) (fun v G' => ∃ s : ByteArray, v = .string s ∧ s.size ≤ 100000000 ∧ G = G') G := by
 refine GC.body (args := [.pointer (some ⟨bL, 0, none⟩)]) Tryz.func115 rfl (by kernel_rfl) rfl ?_
 refine GW.seq ?_
 refine GW.region ?_
 refine R.assign ⟨Z,Z,Z,Z⟩ Z ?_
 refine GOps.nil ?_
 refine GW.seq ?_
 refine GW.drawS 9 Z (by kernel_rfl) ?_
 refine GA.w 0 Z (V.fieldAddr ⟨Z,Z,Z,Z⟩ Z Tryz.underlying89 Z Tryz.sizeOf26) Z ?_
 refine GA.val 1 Z (V.loadA ⟨Z,Z,Z,Z⟩ Z Tryz.underlying26 Z Tryz.sizeOf26 (lt_a hm) (by rfl)) Z (by kernel_rfl) (by kernel_rfl) (by kernel_rfl) ?_
 refine GA.w 4 Z (V.fieldAddr ⟨Z,Z,Z,Z⟩ Z Tryz.underlying89 Z Tryz.sizeOf26) Z ?_
 refine GA.val 5 Z (V.loadA ⟨Z,Z,Z,Z⟩ Z Tryz.underlying26 Z Tryz.sizeOf26 (lt_b hm) (by rfl)) Z (by kernel_rfl) (by kernel_rfl) (by kernel_rfl) ?_
 refine GA.one 2 hsC (by kernel_rfl) Z ?_
 refine R.call ⟨Z,Z,Z,Z⟩ Z (vs := [_]) Z ((rules_slotText _ _ l.a h.2.1).mono ?_)
 rintro _ _ ⟨u1, rfl, hu1, rfl⟩
 refine GOps.nil ?_
 refine GA.w 3 Z (V.addS ⟨Z,Z,Z,Z⟩ Z Z (by simp only [ByteArray.size_append, lit_size]; simp; omega)) Z ?_
 refine GA.one 6 hsC (by kernel_rfl) Z ?_
 refine R.call ⟨Z,Z,Z,Z⟩ Z (vs := [_]) Z ((rules_slotText _ _ l.b h.2.2).mono ?_)
 rintro _ _ ⟨u2, rfl, hu2, rfl⟩
 refine GOps.nil ?_
 refine GA.w 7 Z (V.addS ⟨Z,Z,Z,Z⟩ Z Z (by simp only [ByteArray.size_append, lit_size]; simp; omega)) Z ?_
 refine GA.w 8 Z (V.assign ⟨Z,Z,Z,Z⟩ Z) Z ?_
 refine GA.done hsC (by kernel_rfl) ?_
 exact GW.ret (Out.of (Res.one rfl rfl) (Hs.refl _) ⟨_, rfl, by first | omega | (simp only [ByteArray.size_append, lit_size]; simp; omega), rfl⟩)
theorem rules_pt4 (w0 : World) (G : Hp) (l : Lt) (h : LtOk l) (bL : Nat) (hm : (bL, Know.exact (.cells (Value.agg (LtC l).toArray).cells 89 (0, 0))) ∈ G) : GC Tryz.prog w0 117 (#[] ++ #[] ++ #[.pointer (some ⟨bL, 0, none⟩)]) (fun v G' => ∃ s : ByteArray, v = .string s ∧ s.size ≤ 100000000 ∧ G = G') G := by
 refine GC.body (args := [.pointer (some ⟨bL, 0, none⟩)]) Tryz.func117 rfl (by kernel_rfl) rfl ?_
 refine GW.seq ?_
 refine GW.region ?_
 refine R.assign ⟨Z,Z,Z,Z⟩ Z ?_
 refine GOps.nil ?_
 refine GW.seq ?_
 refine GW.drawS 9 Z (by kernel_rfl) ?_
 refine GA.w 0 Z (V.fieldAddr ⟨Z,Z,Z,Z⟩ Z Tryz.underlying89 Z Tryz.sizeOf26) Z ?_
 refine GA.val 1 Z (V.loadA ⟨Z,Z,Z,Z⟩ Z Tryz.underlying26 Z Tryz.sizeOf26 (lt_a hm) (by rfl)) Z (by kernel_rfl) (by kernel_rfl) (by kernel_rfl) ?_
 refine GA.w 4 Z (V.fieldAddr ⟨Z,Z,Z,Z⟩ Z Tryz.underlying89 Z Tryz.sizeOf26) Z ?_
 refine GA.val 5 Z (V.loadA ⟨Z,Z,Z,Z⟩ Z Tryz.underlying26 Z Tryz.sizeOf26 (lt_b hm) (by rfl)) Z (by kernel_rfl) (by kernel_rfl) (by kernel_rfl) ?_
 refine GA.one 2 hsC (by kernel_rfl) Z ?_
 refine R.call ⟨Z,Z,Z,Z⟩ Z (vs := [_]) Z ((rules_slotText _ _ l.a h.2.1).mono ?_)
 rintro _ _ ⟨u1, rfl, hu1, rfl⟩
 refine GOps.nil ?_
 refine GA.w 3 Z (V.addS ⟨Z,Z,Z,Z⟩ Z Z (by simp only [ByteArray.size_append, lit_size]; simp; omega)) Z ?_
 refine GA.one 6 hsC (by kernel_rfl) Z ?_
 refine R.call ⟨Z,Z,Z,Z⟩ Z (vs := [_]) Z ((rules_slotText _ _ l.b h.2.2).mono ?_)
 rintro _ _ ⟨u2, rfl, hu2, rfl⟩
 refine GOps.nil ?_
 refine GA.w 7 Z (V.addS ⟨Z,Z,Z,Z⟩ Z Z (by simp only [ByteArray.size_append, lit_size]; simp; omega)) Z ?_
 refine GA.w 8 Z (V.assign ⟨Z,Z,Z,Z⟩ Z) Z ?_
 refine GA.done hsC (by kernel_rfl) ?_
 exact GW.ret (Out.of (Res.one rfl rfl) (Hs.refl _) ⟨_, rfl, by first | omega | (simp only [ByteArray.size_append, lit_size]; simp; omega), rfl⟩)
theorem rules_partText (w0 : World) (G : Hp) (l : Lt) (h : LtOk l) (hk : l.kind = 1 ∨ l.kind = 2 ∨ l.kind = 3 ∨ l.kind = 4) : GC Tryz.prog w0 95 #[.agg (LtC l).toArray] (fun v G' => ∃ s : ByteArray, v = .string s ∧ s.size ≤ 100000000 ∧ G = G') G := by
 refine GC.body (args := [.agg (LtC l).toArray]) Tryz.func95 rfl (by kernel_rfl) rfl ?_
 refine GW.seq ?_
 refine GW.region ?_
 refine R.box ⟨Z,Z,Z,Z⟩ Z fun b1 => ?_
 refine R.assign ⟨Z,Z,Z,Z⟩ Z ?_
 refine GOps.nil ?_
 refine GW.seq ?_
 refine GW.region ?_
 refine R.makeMap ⟨Z,Z,Z,Z⟩ fun b3 => ?_
 refine R.makeFunc (vs := []) (us := [_]) ⟨Z,Z,Z,Z⟩ Z Z ?_
 refine R.putNew (G1 := []) (.inr Z) Z Z Z Z Z Tryz.underlying175 Tryz.underlying87 Z Z (Z) ?_
 refine R.makeFunc (vs := []) (us := [_]) ⟨Z,Z,Z,Z⟩ Z Z ?_
 refine R.putNew (G1 := []) (.inr Z) Z Z Z Z Z Tryz.underlying175 Tryz.underlying87 Z Z (Z) ?_
 refine R.makeFunc (vs := []) (us := [_]) ⟨Z,Z,Z,Z⟩ Z Z ?_
 refine R.putNew (G1 := []) (.inr Z) Z Z Z Z Z Tryz.underlying175 Tryz.underlying87 Z Z (Z) ?_
 refine R.makeFunc (vs := []) (us := [_]) ⟨Z,Z,Z,Z⟩ Z Z ?_
 refine R.putNew (G1 := []) (.inr Z) Z Z Z Z Z Tryz.underlying175 Tryz.underlying87 Z Z (Z) ?_
 refine R.move ⟨Z,Z,Z,Z⟩ Z ?_
 refine R.fieldAddr ⟨Z,Z,Z,Z⟩ Z Tryz.underlying89 Z Tryz.sizeOf87 ?_
 refine R.load1 ⟨Z,Z,Z,Z⟩ Z Tryz.underlying87 Z (.own memH Z) ?_
 rcases hk with hk | hk | hk | hk
 ·refine R.lookup (r := some (0, .func (.func 112) #[] #[.pointer (some ⟨b1, 0, none⟩)])) (v := .func (.func 112) #[] #[.pointer (some ⟨b1, 0, none⟩)]) ⟨Z,Z,Z,Z⟩ Z Z Tryz.underlying175 Tryz.underlying87 Z Tryz.zeroValue172 memG (by show Instr.findNow _ (Value.int .i64 l.kind) _ 0 = _; rw [hk]; rfl) (Z) ?_
  refine R.call ⟨Z,Z,Z,Z⟩ Z (vs := []) Z ((rules_pt1 _ _ l h b1 memH).mono ?_)
  rintro _ _ ⟨u, rfl, hu, rfl⟩
  refine R.assign ⟨Z,Z,Z,Z⟩ Z ?_
  refine GOps.nil ?_
  exact GW.ret (Out.of (Res.one rfl rfl) (Hs.tl2 _ _) ⟨u, rfl, by omega, rfl⟩)
 ·refine R.lookup (r := some (1, .func (.func 114) #[] #[.pointer (some ⟨b1, 0, none⟩)])) (v := .func (.func 114) #[] #[.pointer (some ⟨b1, 0, none⟩)]) ⟨Z,Z,Z,Z⟩ Z Z Tryz.underlying175 Tryz.underlying87 Z Tryz.zeroValue172 memG (by show Instr.findNow _ (Value.int .i64 l.kind) _ 0 = _; rw [hk]; rfl) (Z) ?_
  refine R.call ⟨Z,Z,Z,Z⟩ Z (vs := []) Z ((rules_pt2 _ _ l h b1 memH).mono ?_)
  rintro _ _ ⟨u, rfl, hu, rfl⟩
  refine R.assign ⟨Z,Z,Z,Z⟩ Z ?_
  refine GOps.nil ?_
  exact GW.ret (Out.of (Res.one rfl rfl) (Hs.tl2 _ _) ⟨u, rfl, by omega, rfl⟩)
 ·refine R.lookup (r := some (2, .func (.func 115) #[] #[.pointer (some ⟨b1, 0, none⟩)])) (v := .func (.func 115) #[] #[.pointer (some ⟨b1, 0, none⟩)]) ⟨Z,Z,Z,Z⟩ Z Z Tryz.underlying175 Tryz.underlying87 Z Tryz.zeroValue172 memG (by show Instr.findNow _ (Value.int .i64 l.kind) _ 0 = _; rw [hk]; rfl) (Z) ?_
  refine R.call ⟨Z,Z,Z,Z⟩ Z (vs := []) Z ((rules_pt3 _ _ l h b1 memH).mono ?_)
  rintro _ _ ⟨u, rfl, hu, rfl⟩
  refine R.assign ⟨Z,Z,Z,Z⟩ Z ?_
  refine GOps.nil ?_
  exact GW.ret (Out.of (Res.one rfl rfl) (Hs.tl2 _ _) ⟨u, rfl, by omega, rfl⟩)
 ·refine R.lookup (r := some (3, .func (.func 117) #[] #[.pointer (some ⟨b1, 0, none⟩)])) (v := .func (.func 117) #[] #[.pointer (some ⟨b1, 0, none⟩)]) ⟨Z,Z,Z,Z⟩ Z Z Tryz.underlying175 Tryz.underlying87 Z Tryz.zeroValue172 memG (by show Instr.findNow _ (Value.int .i64 l.kind) _ 0 = _; rw [hk]; rfl) (Z) ?_
  refine R.call ⟨Z,Z,Z,Z⟩ Z (vs := []) Z ((rules_pt4 _ _ l h b1 memH).mono ?_)
  rintro _ _ ⟨u, rfl, hu, rfl⟩
  refine R.assign ⟨Z,Z,Z,Z⟩ Z ?_
  refine GOps.nil ?_
  exact GW.ret (Out.of (Res.one rfl rfl) (Hs.tl2 _ _) ⟨u, rfl, by omega, rfl⟩)
theorem rules_PartText (w0 : World) (G : Hp) (l : Lt) (h : LtOk l) : GC Tryz.prog w0 72 #[.agg (LtC l).toArray] (fun v G' => ∃ s : ByteArray, v = .tuple #[.string s, .int .i64 (if mayLt l = true then 0 else 2)] ∧ G = G') G := by
 refine GC.body (args := [.agg (LtC l).toArray]) Tryz.func72 rfl (by kernel_rfl) rfl ?_
 refine GW.seq ?_
 refine GW.region ?_
 refine R.box ⟨Z,Z,Z,Z⟩ Z fun b1 => ?_
 refine R.assign ⟨Z,Z,Z,Z⟩ Z ?_
 refine R.assign ⟨Z,Z,Z,Z⟩ Z ?_
 refine GOps.nil ?_
 refine GW.seq ?_
 refine GW.seq ?_
 refine GW.region ?_
 refine R.load_own (cs := LtC l) ⟨Z,Z,Z,Z⟩ Z Tryz.underlying89 Z Tryz.sizeOf89 memG (by rfl) (by rfl) ?_
 refine R.call ⟨Z,Z,Z,Z⟩ Z (vs := [_]) Z ((rules_part _ _ l h).mono ?_)
 rintro _ _ ⟨rfl, rfl⟩
 refine R.not ⟨Z,Z,Z,Z⟩ Z ?_
 refine GOps.nil ?_
 refine GW.ite Z (fun hc1 => ?_) (fun hc1 => ?_)
 ·try simp only [dcQ] at hc1
  replace hc1 : mayLt l = false := hc1
  refine GW.seq ?_
  refine GW.region ?_
  refine R.assign ⟨Z,Z,Z,Z⟩ Z ?_
  refine R.assign ⟨Z,Z,Z,Z⟩ Z ?_
  refine GOps.nil ?_
  first | exact GW.ret (Out.of (Res.two rfl rfl rfl) (Hs.tl _) ⟨u, by rw [if_pos hc1], rfl⟩) | exact GW.ret (Out.of (Res.two rfl rfl rfl) (Hs.tl _) ⟨_, by rw [if_neg (by rw [hc1]; simp)], rfl⟩)
 ·try simp only [dcQ] at hc1
  replace hc1 : mayLt l = true := hc1
  refine GW.skip ?_
  refine GW.seq ?_
  refine GW.region ?_
  refine R.load_own (cs := LtC l) ⟨Z,Z,Z,Z⟩ Z Tryz.underlying89 Z Tryz.sizeOf89 memG (by rfl) (by rfl) ?_
  refine R.call ⟨Z,Z,Z,Z⟩ Z (vs := [_]) Z ((rules_partText _ _ l h (kd_may hc1)).mono ?_)
  rintro _ _ ⟨u, rfl, hu, rfl⟩
  refine R.assign ⟨Z,Z,Z,Z⟩ Z ?_
  refine R.assign ⟨Z,Z,Z,Z⟩ Z ?_
  refine GOps.nil ?_
  first | exact GW.ret (Out.of (Res.two rfl rfl rfl) (Hs.tl _) ⟨u, by rw [if_pos hc1], rfl⟩) | exact GW.ret (Out.of (Res.two rfl rfl rfl) (Hs.tl _) ⟨_, by rw [if_neg (by rw [hc1]; simp)], rfl⟩)
abbrev slS (v : Value) : Know := .exact (.cells #[v] 61 (0, 0))
theorem dd_snoc (q : List Sl) (s : Sl) : dd (q ++ [s]) = ddStep (dd q) s := by unfold dd; rw [List.foldl_append]; rfl
def bS (body : List Lt) (i : Nat) : List Sl := (body.take i).flatMap slotsOf
theorem bS_succ {body : List Lt} {i : Nat} {x : Lt} (h : body[i]? = some x) : bS body (i + 1) = bS body i ++ slotsOf x := by
 unfold bS
 rw [List.take_add_one, h, List.flatMap_append]
 simp
theorem bS_len (body : List Lt) (i : Nat) : (bS body i).length ≤ 3 * i := by
 unfold bS
 have h : ∀ l : List Lt, (l.flatMap slotsOf).length ≤ 3 * l.length := by
  intro l
  induction l with
  | nil => simp
  | cons x l ih =>
   have := slots_le x
   rw [List.flatMap_cons, List.length_append, List.length_cons]
   omega
 have h1 := h (body.take i)
 have h2 : (body.take i).length ≤ i := by rw [List.length_take]; omega
 omega
theorem Hs.sO (x : Nat × Know) (y : Nat × Know) (H G : Hp) : Hs (x :: y :: (H ++ G)) (y :: (H ++ (x :: G))) := Hs.perm (by
 have h : (y :: (H ++ (x :: G))).Perm (x :: (y :: (H ++ G))) := by
  have := @List.perm_middle _ x (y :: H) G
  simpa only [List.cons_append] using this
 exact h)
theorem bS_slots_r {x : Lt} (h : x.kind = 1 ∨ x.kind = 2) (q : List Sl) : q ++ [x.pat.s0] ++ [x.pat.s1] ++ [x.pat.s2] = q ++ slotsOf x := by rw [slotsOf_t h]; simp
theorem bS_slots_ab {x : Lt} (h1 : ¬ x.kind = 1) (h2 : ¬ x.kind = 2) (q : List Sl) : q ++ [x.a] ++ [x.b] = q ++ slotsOf x := by rw [slotsOf_f h1 h2]; simp
theorem rules_see (w0 : World) (G : Hp) (q : List Sl) (s : Sl) (bO : Nat) (vo : Value) (Ho : Hp) (hO : SlAt 1 9 ((dd (q)).map Value.string) (dd (q)).length vo Ho) (hm : q.length ≤ 10000000) : GC Tryz.prog w0 96 (#[] ++ #[Value.agg (SlC s).toArray] ++ #[.pointer (some ⟨bO, 0, none⟩)]) (fun v G' => ∃ vo' Ho', (v = .tuple #[] ∧ SlAt 1 9 ((dd (q ++ [s])).map Value.string) (dd (q ++ [s])).length vo' Ho') ∧ (bO, slS vo') :: (Ho' ++ G) = G') ((bO, slS vo) :: (Ho ++ G)) := by
 have hdl := dd_len q
 obtain ⟨Ao, co, rfl, hSt⟩ := hO.strs w0 []
 rw [List.append_nil] at hSt
 refine GC.body (args := [.agg (SlC s).toArray, .pointer (some ⟨bO, 0, none⟩)]) Tryz.func96 rfl (by kernel_rfl) rfl ?_
 refine GW.seq ?_
 refine GW.region ?_
 refine R.box ⟨Z,Z,Z,Z⟩ Z fun b2 => ?_
 refine GOps.nil ?_
 refine GW.seq ?_
 refine GW.region ?_
 refine R.fieldAddr ⟨Z,Z,Z,Z⟩ Z Tryz.underlying26 Z Tryz.sizeOf9 ?_
 refine R.load1 ⟨Z,Z,Z,Z⟩ Z Tryz.underlying9 Z (.own (v := .string s.v) memH Z) ?_
 refine R.neS ⟨Z,Z,Z,Z⟩ Z Z ?_
 refine R.move ⟨Z,Z,Z,Z⟩ Z ?_
 refine GOps.caseB 6 Z (fun hg1 => ?_) (fun hg1 => ?_)
 ·try simp only [dcQ] at hg1
  refine R.load1 ⟨Z,Z,Z,Z⟩ Z Tryz.underlying61 Z (.own' memG (by rfl)) ?_
  refine R.fieldAddr ⟨Z,Z,Z,Z⟩ Z Tryz.underlying26 Z Tryz.sizeOf9 ?_
  refine R.load1 ⟨Z,Z,Z,Z⟩ Z Tryz.underlying9 Z (.own (v := .string s.v) memH Z) ?_
  refine R.call ⟨Z,Z,Z,Z⟩ Z (vs := [_, _]) Z ((sl_Contains _ _ Ao (dd q) co s.v (hSt.mono (fun y hy => by repeat (first | exact List.mem_append_left _ hy | exact hy | apply List.mem_cons_of_mem | apply List.mem_append_right))) (by omega)).mono ?_)
  rintro _ _ ⟨rfl, rfl⟩
  refine R.not ⟨Z,Z,Z,Z⟩ Z ?_
  refine R.pick_t ⟨Z,Z,Z,Z⟩ Z Z ?_
  refine GOps.nil ?_
  refine GW.ite Z (fun hc2 => ?_) (fun hc2 => ?_)
  ·try simp only [dcQ] at hc2
   refine GW.region ?_
   refine R.load1 ⟨Z,Z,Z,Z⟩ Z Tryz.underlying61 Z (.own' memG (by rfl)) ?_
   refine R.fieldAddr ⟨Z,Z,Z,Z⟩ Z Tryz.underlying26 Z Tryz.sizeOf9 ?_
   refine R.load1 ⟨Z,Z,Z,Z⟩ Z Tryz.underlying9 Z (.own (v := .string s.v) memH Z) ?_
   refine R.buildSliceF (sz := 1) (bytes := 16) (vs := [_]) (cs := [_]) ⟨Z,Z,Z,Z⟩ Z Tryz.underlying61 (InfoE.mk (by kernel_rfl)) Z Z Z Z Z fun b16 => ?_
   refine R.append (sz := 1) (bytes := 16) (G1 := [_, _, _]) (H := Ho) (news := [.string s.v]) ⟨Z,Z,Z,Z⟩ Z Z Z Tryz.underlying61 (InfoE.mk (by kernel_rfl)) (hO) (Z) (Z) (.own memH 0 _ (fun j v hv => by simpa using hv)) (by omega) (by rfl) (by omega) (by omega) fun v17 H17 hv17 => ?_
   obtain ⟨A17, c17, rfl, hc17⟩ := hv17.split
   refine R.storeAll (G1 := [_, _]) Z Z Z Z Z Tryz.sizeOf61 Z Z Z Z ?_
   refine GOps.nil ?_
   first | refine Out.end_ (Res.none rfl) (Hs.tl2 _ _) ⟨_, _, ⟨rfl, by rw [dd_snoc, ddStep_yes (by assumption) (by assumption)]; exact hv17.snoc⟩, rfl⟩ | refine Out.end_ (Res.none rfl) (Hs.tl _) ⟨_, Ho, ⟨rfl, by rw [dd_snoc, ddStep_no1 (by assumption)]; exact hO⟩, rfl⟩ | refine Out.end_ (Res.none rfl) (Hs.tl _) ⟨_, Ho, ⟨rfl, by rw [dd_snoc, ddStep_no2 (by assumption)]; exact hO⟩, rfl⟩
  ·try simp only [dcQ] at hc2
   refine GW.skip ?_
   first | refine Out.end_ (Res.none rfl) (Hs.tl2 _ _) ⟨_, _, ⟨rfl, by rw [dd_snoc, ddStep_yes (by assumption) (by assumption)]; exact hv17.snoc⟩, rfl⟩ | refine Out.end_ (Res.none rfl) (Hs.tl _) ⟨_, Ho, ⟨rfl, by rw [dd_snoc, ddStep_no1 (by assumption)]; exact hO⟩, rfl⟩ | refine Out.end_ (Res.none rfl) (Hs.tl _) ⟨_, Ho, ⟨rfl, by rw [dd_snoc, ddStep_no2 (by assumption)]; exact hO⟩, rfl⟩
 ·try simp only [dcQ] at hg1
  refine GOps.skip Z Z Z ?_
  refine GOps.skip Z Z Z ?_
  refine GOps.skip Z Z Z ?_
  refine GOps.skip Z Z Z ?_
  refine GOps.skip Z Z Z ?_
  refine R.pick_f ⟨Z,Z,Z,Z⟩ Z Z ?_
  refine GOps.nil ?_
  refine GW.cond_f Z ?_
  refine GW.skip ?_
  first | refine Out.end_ (Res.none rfl) (Hs.tl2 _ _) ⟨_, _, ⟨rfl, by rw [dd_snoc, ddStep_yes (by assumption) (by assumption)]; exact hv17.snoc⟩, rfl⟩ | refine Out.end_ (Res.none rfl) (Hs.tl _) ⟨_, Ho, ⟨rfl, by rw [dd_snoc, ddStep_no1 (by assumption)]; exact hO⟩, rfl⟩ | refine Out.end_ (Res.none rfl) (Hs.tl _) ⟨_, Ho, ⟨rfl, by rw [dd_snoc, ddStep_no2 (by assumption)]; exact hO⟩, rfl⟩
end Go.Proofs.YtfddkcmooommeaaGreatDoor.Gl
end
section
namespace Go.Proofs.YtfddkcmooommeaaGreatDoor.Gl
open Go.RowKit Go.Shelf
set_option linter.unusedVariables false
set_option linter.unnecessarySimpa false
set_option linter.unusedSimpArgs false
attribute [-simp] List.getD_eq_getElem?_getD
def entsLI : Nat → List ByteArray → List MapEntry
 | _, [] => []
 | n, k :: ks => { key := .string k, val := .int .i64 1, born := n } :: entsLI (n + 1) ks
def entriesOfI (ks : List ByteArray) : Array MapEntry := (entsLI 0 ks).toArray
def emapI (ks : List ByteArray) : Know := .exact (.map (entriesOfI ks) ks.length)
theorem entsL_snocI (k : ByteArray) : ∀ (ks : List ByteArray) (n : Nat), entsLI n (ks ++ [k]) = entsLI n ks ++ [{ key := .string k, val := .int .i64 1, born := n + ks.length }]
 | [], n => rfl
 | x :: ks, n => by
  simp only [List.cons_append, entsLI, entsL_snocI k ks (n + 1), List.length_cons]
  rw [show n + 1 + ks.length = n + (ks.length + 1) by omega]
theorem emap_pushI (ks : List ByteArray) (k : ByteArray) : Know.exact (.map ((entriesOfI ks).push { key := .string k, val := .int .i64 1, born := ks.length }) (ks.length + 1)) = emapI (ks ++ [k]) := by
 unfold emapI entriesOfI
 rw [entsL_snocI, List.length_append]
 simp
theorem entsL_getI : ∀ (ks : List ByteArray) (n j : Nat) (k : ByteArray), ks[j]? = some k → (entsLI n ks)[j]? = some { key := .string k, val := .int .i64 1, born := n + j }
 | [], n, j, k, h => by simp at h
 | x :: ks, n, 0, k, h => by
  simp at h
  subst h
  rfl
 | x :: ks, n, j + 1, k, h => by
  have := entsL_getI ks (n + 1) j k (by simpa using h)
  simp only [entsLI, List.getElem?_cons_succ, this]
  rw [show n + 1 + j = n + (j + 1) by omega]
theorem emap_oldI {ks : List ByteArray} {j : Nat} {k : ByteArray} (h : ks[j]? = some k) : Know.exact (.map ((entriesOfI ks).modify j fun e => { e with key := .string k, val := .int .i64 1 }) ks.length) = emapI ks := by
 have e : (entriesOfI ks).modify j (fun e => { e with key := .string k, val := .int .i64 1 }) = entriesOfI ks := by
  apply Array.ext_getElem?
  intro i
  rw [Array.getElem?_modify]
  by_cases hi : j = i
  ·subst hi
   rw [if_pos rfl]
   have := entsL_getI ks 0 j k h
   unfold entriesOfI
   rw [List.getElem?_toArray, this]
   rfl
  ·rw [if_neg hi]
 unfold emapI
 rw [e]
theorem ents_sameI {ks : List ByteArray} {j : Nat} {k : ByteArray} (h : ks[j]? = some k) : Instr.sameBits 10000 ((((entriesOfI ks)[j]?).map (·.key)).getD (.string k)) (.string k) = true := by
 have := entsL_getI ks 0 j k h
 unfold entriesOfI
 rw [List.getElem?_toArray, this]
 simp [Instr.sameBits, beq_toListBytes]
theorem find_entsI (k : ByteArray) : ∀ (ks : List ByteArray) (n i : Nat), (inB ks k = false ∧ Instr.findNow .string (.string k) (entsLI n ks) i = some none) ∨ (inB ks k = true ∧ ∃ j, ks[j]? = some k ∧ Instr.findNow .string (.string k) (entsLI n ks) i = some (some (i + j, .int .i64 1)))
 | [], n, i => .inl ⟨rfl, rfl⟩
 | x :: ks, n, i => by
  have ih := find_entsI k ks (n + 1) (i + 1)
  simp only [entsLI, Instr.findNow, Instr.sameNow, beq_toListBytes, inB, List.any_cons, eqB]
  by_cases h : (k.toList == x.toList) = true
  ·right
   have hx : x = k := by
    rw [toList_beq, beq_iff_eq] at h
    exact (bs_inj h).symm
   subst hx
   refine ⟨by simp, 0, rfl, by simp⟩
  ·have h' : (k.toList == x.toList) = false := by simpa using h
   have h2 : (x.toList == k.toList) = false := by
    rw [toList_beq] at h' ⊢
    simp only [beq_eq_false_iff_ne, ne_eq] at h' ⊢
    exact fun e => h' e.symm
   rw [h', h2]
   rcases ih with ⟨h3, h4⟩ | ⟨h3, j, h4, h5⟩
   ·left
    exact ⟨by simpa [inB, eqB] using h3, h4⟩
   ·right
    refine ⟨by simpa [inB, eqB] using h3, j + 1, by simpa using h4, ?_⟩
    simp only [h5]
    rw [show i + 1 + j = i + (j + 1) by omega]
theorem find_noI {ks : List ByteArray} {k : ByteArray} (h : inB ks k = false) : Instr.findNow .string (.string k) (entriesOfI ks).toList 0 = some none := by
 rcases find_entsI k ks 0 0 with ⟨_, h2⟩ | ⟨h2, _⟩
 ·exact h2
 ·rw [h] at h2; cases h2
theorem find_yesI {ks : List ByteArray} {k : ByteArray} (h : inB ks k = true) : ∃ j, ks[j]? = some k ∧ Instr.findNow .string (.string k) (entriesOfI ks).toList 0 = some (some (j, .int .i64 1)) := by
 rcases find_entsI k ks 0 0 with ⟨h2, _⟩ | ⟨_, j, h2, h3⟩
 ·rw [h] at h2; cases h2
 ·exact ⟨j, h2, by rw [Nat.zero_add] at h3; exact h3⟩
def anyS (q : List Sl) (s : ByteArray) : Bool := q.any (fun t => !emp t.v && eqB s t.v)
theorem inB_snoc (xs : List ByteArray) (y s : ByteArray) : inB (xs ++ [y]) s = (inB xs s || eqB s y) := by simp [inB]
theorem inB_ddStep (xs : List ByteArray) (x : Sl) (s : ByteArray) : inB (ddStep xs x) s = (inB xs s || (!emp x.v && eqB s x.v)) := by
 cases h1 : emp x.v with
 | true => rw [ddStep_no1 h1]; simp
 | false =>
  cases h2 : inB xs x.v with
  | true =>
   rw [ddStep_no2 h2]
   cases h3 : eqB s x.v with
   | false => simp
   | true =>
    have := eqB_iff.1 h3
    rw [← this, h2]
    simp
  | false =>
   rw [ddStep_yes h1 h2, inB_snoc]
   simp
theorem inB_dd : ∀ (q : List Sl) (s : ByteArray), inB (dd q) s = anyS q s := by
 intro q s
 have h : ∀ (q : List Sl) (xs : List ByteArray), inB (q.foldl ddStep xs) s = (inB xs s || anyS q s) := by
  intro q
  induction q with
  | nil => intro xs; simp [anyS]
  | cons x q ih =>
   intro xs
   rw [List.foldl_cons, ih, inB_ddStep]
   simp [anyS, Bool.or_assoc]
 have := h q []
 simpa [dd, inB] using this
def memT (body : List Lt) (i : Nat) (s : ByteArray) : Bool := (body.take i).any (fun l => isMt l && anyS (slotsOf l) s)
theorem memT_succ {body : List Lt} {i : Nat} {x : Lt} (h : body[i]? = some x) (s : ByteArray) : memT body (i + 1) s = (memT body i s || (isMt x && anyS (slotsOf x) s)) := by
 unfold memT
 rw [List.take_add_one, h, List.any_append]
 simp
theorem lts_one {w0 : World} {G : Hp} {b : Nat} {x : Lt} (hm : (b, Know.exact (.cells (LtC x).toArray 89 (0, 0))) ∈ G) : LtsAt w0 G (some ⟨b, 0, none⟩) [x] := by
 intro i y hy
 rcases i with _ | i
 ·obtain rfl : x = y := by simpa using hy
  exact ⟨b, 0, _, rfl, rfl, Rds.own hm _ _ (fun j v hv => by simpa using hv)⟩
 ·simp at hy
theorem bS_one (x : Lt) : bS [x] [x].length = slotsOf x := by simp [bS]
theorem inB_take_succ {xs : List ByteArray} {j : Nat} {y : ByteArray} (h : xs[j]? = some y) (s : ByteArray) : inB (xs.take (j + 1)) s = (inB (xs.take j) s || eqB s y) := by
 rw [List.take_add_one, h]
 simp [inB]
theorem Hs.dropX (x y : Nat × Know) (H G : Hp) : Hs (y :: (H ++ (x :: G))) (y :: (H ++ G)) := Hs.sub (List.Sublist.cons_cons y (List.Sublist.append_left (List.sublist_cons_self x G) H))
theorem rules_Vars (w0 : World) (G : Hp) (A : Option Addr) (body : List Lt) (c : Nat) (hl : LtsAt w0 G A body) (hm : body.length ≤ 1048576) : GC Tryz.prog w0 74 #[.slice A body.length c] (fun v G' => ∃ H, SlAt 1 9 ((dd (bS body body.length)).map Value.string) (dd (bS body body.length)).length v H ∧ H ++ G = G') G := by
 refine GC.body (args := [.slice A body.length c]) Tryz.func74 rfl (by kernel_rfl) rfl ?_
 refine GW.seq ?_
 refine GW.region ?_
 refine R.assign ⟨Z,Z,Z,Z⟩ Z ?_
 refine GOps.nil ?_
 refine GW.seq ?_
 refine GW.region ?_
 refine R.alloc ⟨Z,Z,Z,Z⟩ Tryz.zeroValue61 fun b3 => ?_
 refine GOps.nil ?_
 refine GW.seq ?_
 refine GW.region ?_
 refine R.makeFunc (vs := []) (us := [_]) ⟨Z,Z,Z,Z⟩ Z Z ?_
 refine R.assign ⟨Z,Z,Z,Z⟩ Z ?_
 refine GOps.nil ?_
 refine GW.seq ?_
 refine GW.seq ?_
 refine GW.region ?_
 refine R.move ⟨Z,Z,Z,Z⟩ Z ?_
 refine R.lenS ⟨Z,Z,Z,Z⟩ Z Z Tryz.underlying29 ?_
 refine R.move ⟨Z,Z,Z,Z⟩ Z ?_
 refine GOps.nil ?_
 refine GW.block ?_
 refine GW.loop4 (fun (i : Nat) (h : Value × Hp) (u1 : Unit) (u2 : Unit) => [(3, .pointer (some ⟨b3, 0, none⟩)), (4, .func (.func 96) #[] #[.pointer (some ⟨b3, 0, none⟩)]), (8, .slice A body.length c), (9, .int .i64 body.length), (10, .int .i64 i)]) (fun (i : Nat) (h : Value × Hp) (u1 : Unit) (u2 : Unit) => (b3, slS h.1) :: (h.2 ++ G)) (fun i : Nat => body.length - i) (fun (i : Nat) (h : Value × Hp) (u1 : Unit) (u2 : Unit) => i ≤ body.length ∧ SlAt 1 9 ((dd (bS body i)).map Value.string) (dd (bS body i)).length h.1 h.2) 0 ((.slice none 0 0, [])) (()) (())
  (keepG) (Hs.refl _) (⟨Nat.zero_le _, .nil rfl rfl⟩) ?_
 rintro i h u1 u2 ⟨hi, hO⟩
 obtain ⟨vo, Ho⟩ := h
 simp only at hO
 refine GW.seq ?_
 refine GW.region ?_
 refine R.lss ⟨Z,Z,Z,Z⟩ Z Z ?_
 refine GOps.nil ?_
 refine GW.seq ?_
 refine GW.ite Z (fun hc1 => ?_) (fun hc1 => ?_)
 ·try simp only [dcQ] at hc1
  obtain ⟨x, hx⟩ : ∃ x, body[i]? = some x := ⟨_, List.getElem?_eq_getElem (by omega)⟩
  obtain ⟨xb, xo, cs0, rfl, rfl, hrd⟩ := hl i x hx
  refine GW.skip ?_
  refine GW.seq ?_
  refine GW.block ?_
  refine GW.seq ?_
  refine GW.region ?_
  refine R.indexAddrS ⟨Z,Z,Z,Z⟩ Z Z Tryz.underlying29 Tryz.sizeOf89 (by omega) (by omega) ?_
  refine R.loadA ⟨Z,Z,Z,Z⟩ Z Tryz.underlying89 Z Tryz.sizeOf89 (hrd.mono (fun y hy => by repeat (first | exact hy | apply List.mem_cons_of_mem | apply List.mem_append_right))) (by rfl) ?_
  refine R.alloc ⟨Z,Z,Z,Z⟩ Tryz.zeroValue89 fun b6 => ?_
  refine R.storeAll (G1 := []) Z Z Z Z Z Tryz.sizeOf89 Z Z Z Z ?_
  refine GOps.nil ?_
  refine GW.seq ?_
  refine GW.seq ?_
  refine GW.region ?_
  refine R.fieldAddr ⟨Z,Z,Z,Z⟩ Z Tryz.underlying89 Z Tryz.sizeOf87 ?_
  refine R.load1 ⟨Z,Z,Z,Z⟩ Z Tryz.underlying87 Z (.own (v := .int .i64 x.kind) memH Z) ?_
  refine R.eqI ⟨Z,Z,Z,Z⟩ Z Z ?_
  refine R.move ⟨Z,Z,Z,Z⟩ Z ?_
  refine GOps.caseB 17 Z (fun hg2 => ?_) (fun hg2 => ?_)
  ·try simp only [dcQ] at hg2
   refine GOps.skip Z Z Z ?_
   refine GOps.skip Z Z Z ?_
   refine GOps.skip Z Z Z ?_
   refine R.pick_t ⟨Z,Z,Z,Z⟩ Z Z ?_
   refine GOps.nil ?_
   refine GW.cond_t Z ?_
   refine GW.seq ?_
   refine GW.region ?_
   refine R.move ⟨Z,Z,Z,Z⟩ Z ?_
   refine R.fieldAddr ⟨Z,Z,Z,Z⟩ Z Tryz.underlying89 Z Tryz.sizeOf28 ?_
   refine R.indexAddrA ⟨Z,Z,Z,Z⟩ Z Z Tryz.underlying28 Tryz.sizeOf26 (by omega) (by omega) ?_
   refine R.load_own (cs := SlC x.pat.s0) ⟨Z,Z,Z,Z⟩ Z Tryz.underlying26 Z Tryz.sizeOf26 memG (by rfl) (by rfl) ?_
   refine GOps.weak (Keeps.refl _) (Hs.sO _ _ _ _) ?_
   refine R.call ⟨Z,Z,Z,Z⟩ Z (vs := [_]) Z ((rules_see _ _ (bS body i) (x.pat.s0) b3 vo Ho hO (by have := bS_len body i; simp; omega)).mono ?_)
   rintro _ _ ⟨vo1, Ho1, ⟨rfl, hO1⟩, rfl⟩
   refine GOps.nil ?_
   refine GW.seq ?_
   refine GW.region ?_
   refine R.move ⟨Z,Z,Z,Z⟩ Z ?_
   refine R.fieldAddr ⟨Z,Z,Z,Z⟩ Z Tryz.underlying89 Z Tryz.sizeOf28 ?_
   refine R.indexAddrA ⟨Z,Z,Z,Z⟩ Z Z Tryz.underlying28 Tryz.sizeOf26 (by omega) (by omega) ?_
   refine R.load_own (cs := SlC x.pat.s1) ⟨Z,Z,Z,Z⟩ Z Tryz.underlying26 Z Tryz.sizeOf26 memG (by rfl) (by rfl) ?_
   refine R.call ⟨Z,Z,Z,Z⟩ Z (vs := [_]) Z ((rules_see _ _ (bS body i ++ [x.pat.s0]) (x.pat.s1) b3 vo1 Ho1 hO1 (by have := bS_len body i; simp; omega)).mono ?_)
   rintro _ _ ⟨vo2, Ho2, ⟨rfl, hO2⟩, rfl⟩
   refine GOps.nil ?_
   refine GW.seq ?_
   refine GW.region ?_
   refine R.move ⟨Z,Z,Z,Z⟩ Z ?_
   refine R.fieldAddr ⟨Z,Z,Z,Z⟩ Z Tryz.underlying89 Z Tryz.sizeOf28 ?_
   refine R.indexAddrA ⟨Z,Z,Z,Z⟩ Z Z Tryz.underlying28 Tryz.sizeOf26 (by omega) (by omega) ?_
   refine R.load_own (cs := SlC x.pat.s2) ⟨Z,Z,Z,Z⟩ Z Tryz.underlying26 Z Tryz.sizeOf26 memG (by rfl) (by rfl) ?_
   refine R.call ⟨Z,Z,Z,Z⟩ Z (vs := [_]) Z ((rules_see _ _ (bS body i ++ [x.pat.s0] ++ [x.pat.s1]) (x.pat.s2) b3 vo2 Ho2 hO2 (by have := bS_len body i; simp; omega)).mono ?_)
   rintro _ _ ⟨vo3, Ho3, ⟨rfl, hO3⟩, rfl⟩
   refine GOps.nil ?_
   refine GW.exit ?_
   refine GW.region ?_
   refine R.add (r := (((i + 1) : Nat) : Int)) ⟨Z,Z,Z,Z⟩ Z Z (by rw [wrap64_id (by omega) (by omega)]; omega) ?_
   refine R.move ⟨Z,Z,Z,Z⟩ Z ?_
   refine GOps.nil ?_
   first | exact ⟨i + 1, (vo3, Ho3), (), (), by omega, ⟨by omega, by rw [bS_succ hx, ← bS_slots_r (by omega)]; exact hO3⟩, rfl, keepG, Hs.dropX _ _ _ _⟩ | exact ⟨i + 1, (vo5, Ho5), (), (), by omega, ⟨by omega, by rw [bS_succ hx, ← bS_slots_ab (by assumption) (by assumption)]; exact hO5⟩, rfl, keepG, Hs.dropX _ _ _ _⟩
  ·try simp only [dcQ] at hg2
   refine R.fieldAddr ⟨Z,Z,Z,Z⟩ Z Tryz.underlying89 Z Tryz.sizeOf87 ?_
   refine R.load1 ⟨Z,Z,Z,Z⟩ Z Tryz.underlying87 Z (.own (v := .int .i64 x.kind) memH Z) ?_
   refine R.eqI ⟨Z,Z,Z,Z⟩ Z Z ?_
   refine R.pick_f ⟨Z,Z,Z,Z⟩ Z Z ?_
   refine GOps.nil ?_
   refine GW.ite Z (fun hc3 => ?_) (fun hc3 => ?_)
   ·try simp only [dcQ] at hc3
    refine GW.seq ?_
    refine GW.region ?_
    refine R.move ⟨Z,Z,Z,Z⟩ Z ?_
    refine R.fieldAddr ⟨Z,Z,Z,Z⟩ Z Tryz.underlying89 Z Tryz.sizeOf28 ?_
    refine R.indexAddrA ⟨Z,Z,Z,Z⟩ Z Z Tryz.underlying28 Tryz.sizeOf26 (by omega) (by omega) ?_
    refine R.load_own (cs := SlC x.pat.s0) ⟨Z,Z,Z,Z⟩ Z Tryz.underlying26 Z Tryz.sizeOf26 memG (by rfl) (by rfl) ?_
    refine GOps.weak (Keeps.refl _) (Hs.sO _ _ _ _) ?_
    refine R.call ⟨Z,Z,Z,Z⟩ Z (vs := [_]) Z ((rules_see _ _ (bS body i) (x.pat.s0) b3 vo Ho hO (by have := bS_len body i; simp; omega)).mono ?_)
    rintro _ _ ⟨vo1, Ho1, ⟨rfl, hO1⟩, rfl⟩
    refine GOps.nil ?_
    refine GW.seq ?_
    refine GW.region ?_
    refine R.move ⟨Z,Z,Z,Z⟩ Z ?_
    refine R.fieldAddr ⟨Z,Z,Z,Z⟩ Z Tryz.underlying89 Z Tryz.sizeOf28 ?_
    refine R.indexAddrA ⟨Z,Z,Z,Z⟩ Z Z Tryz.underlying28 Tryz.sizeOf26 (by omega) (by omega) ?_
    refine R.load_own (cs := SlC x.pat.s1) ⟨Z,Z,Z,Z⟩ Z Tryz.underlying26 Z Tryz.sizeOf26 memG (by rfl) (by rfl) ?_
    refine R.call ⟨Z,Z,Z,Z⟩ Z (vs := [_]) Z ((rules_see _ _ (bS body i ++ [x.pat.s0]) (x.pat.s1) b3 vo1 Ho1 hO1 (by have := bS_len body i; simp; omega)).mono ?_)
    rintro _ _ ⟨vo2, Ho2, ⟨rfl, hO2⟩, rfl⟩
    refine GOps.nil ?_
    refine GW.seq ?_
    refine GW.region ?_
    refine R.move ⟨Z,Z,Z,Z⟩ Z ?_
    refine R.fieldAddr ⟨Z,Z,Z,Z⟩ Z Tryz.underlying89 Z Tryz.sizeOf28 ?_
    refine R.indexAddrA ⟨Z,Z,Z,Z⟩ Z Z Tryz.underlying28 Tryz.sizeOf26 (by omega) (by omega) ?_
    refine R.load_own (cs := SlC x.pat.s2) ⟨Z,Z,Z,Z⟩ Z Tryz.underlying26 Z Tryz.sizeOf26 memG (by rfl) (by rfl) ?_
    refine R.call ⟨Z,Z,Z,Z⟩ Z (vs := [_]) Z ((rules_see _ _ (bS body i ++ [x.pat.s0] ++ [x.pat.s1]) (x.pat.s2) b3 vo2 Ho2 hO2 (by have := bS_len body i; simp; omega)).mono ?_)
    rintro _ _ ⟨vo3, Ho3, ⟨rfl, hO3⟩, rfl⟩
    refine GOps.nil ?_
    refine GW.exit ?_
    refine GW.region ?_
    refine R.add (r := (((i + 1) : Nat) : Int)) ⟨Z,Z,Z,Z⟩ Z Z (by rw [wrap64_id (by omega) (by omega)]; omega) ?_
    refine R.move ⟨Z,Z,Z,Z⟩ Z ?_
    refine GOps.nil ?_
    first | exact ⟨i + 1, (vo3, Ho3), (), (), by omega, ⟨by omega, by rw [bS_succ hx, ← bS_slots_r (by omega)]; exact hO3⟩, rfl, keepG, Hs.dropX _ _ _ _⟩ | exact ⟨i + 1, (vo5, Ho5), (), (), by omega, ⟨by omega, by rw [bS_succ hx, ← bS_slots_ab (by assumption) (by assumption)]; exact hO5⟩, rfl, keepG, Hs.dropX _ _ _ _⟩
   ·try simp only [dcQ] at hc3
    refine GW.skip ?_
    refine GW.seq ?_
    refine GW.region ?_
    refine R.move ⟨Z,Z,Z,Z⟩ Z ?_
    refine R.fieldAddr ⟨Z,Z,Z,Z⟩ Z Tryz.underlying89 Z Tryz.sizeOf26 ?_
    refine R.load_own (cs := SlC x.a) ⟨Z,Z,Z,Z⟩ Z Tryz.underlying26 Z Tryz.sizeOf26 memG (by rfl) (by rfl) ?_
    refine GOps.weak (Keeps.refl _) (Hs.sO _ _ _ _) ?_
    refine R.call ⟨Z,Z,Z,Z⟩ Z (vs := [_]) Z ((rules_see _ _ (bS body i) (x.a) b3 vo Ho hO (by have := bS_len body i; simp; omega)).mono ?_)
    rintro _ _ ⟨vo4, Ho4, ⟨rfl, hO4⟩, rfl⟩
    refine GOps.nil ?_
    refine GW.region ?_
    refine R.move ⟨Z,Z,Z,Z⟩ Z ?_
    refine R.fieldAddr ⟨Z,Z,Z,Z⟩ Z Tryz.underlying89 Z Tryz.sizeOf26 ?_
    refine R.load_own (cs := SlC x.b) ⟨Z,Z,Z,Z⟩ Z Tryz.underlying26 Z Tryz.sizeOf26 memG (by rfl) (by rfl) ?_
    refine R.call ⟨Z,Z,Z,Z⟩ Z (vs := [_]) Z ((rules_see _ _ (bS body i ++ [x.a]) (x.b) b3 vo4 Ho4 hO4 (by have := bS_len body i; simp; omega)).mono ?_)
    rintro _ _ ⟨vo5, Ho5, ⟨rfl, hO5⟩, rfl⟩
    refine GOps.nil ?_
    refine GW.region ?_
    refine R.add (r := (((i + 1) : Nat) : Int)) ⟨Z,Z,Z,Z⟩ Z Z (by rw [wrap64_id (by omega) (by omega)]; omega) ?_
    refine R.move ⟨Z,Z,Z,Z⟩ Z ?_
    refine GOps.nil ?_
    first | exact ⟨i + 1, (vo3, Ho3), (), (), by omega, ⟨by omega, by rw [bS_succ hx, ← bS_slots_r (by omega)]; exact hO3⟩, rfl, keepG, Hs.dropX _ _ _ _⟩ | exact ⟨i + 1, (vo5, Ho5), (), (), by omega, ⟨by omega, by rw [bS_succ hx, ← bS_slots_ab (by assumption) (by assumption)]; exact hO5⟩, rfl, keepG, Hs.dropX _ _ _ _⟩
 ·try simp only [dcQ] at hc1
  obtain rfl : i = body.length := by omega
  refine GW.exit ?_
  refine GW.seq ?_
  refine GW.region ?_
  refine R.load1 ⟨Z,Z,Z,Z⟩ Z Tryz.underlying61 Z (.own memH Z) ?_
  refine R.assign ⟨Z,Z,Z,Z⟩ Z ?_
  refine GOps.nil ?_
  exact GW.ret (Out.of (Res.one rfl rfl) (Hs.tl _) ⟨Ho, hO, rfl⟩)
theorem ref06_in (w0 : World) (G : Hp) (A : Option Addr) (xs : List ByteArray) (c : Nat) (s : ByteArray) (hxs : StAt w0 G A xs) (hm : xs.length ≤ 100000000) : GC Tryz.prog w0 78 #[.slice A xs.length c, .string s] (fun v G' => v = .bool (inB xs s) ∧ G = G') G := by
 refine GC.body (args := [.slice A xs.length c, .string s]) Tryz.func78 rfl (by kernel_rfl) rfl ?_
 refine GW.seq ?_
 refine GW.region ?_
 refine R.assign ⟨Z,Z,Z,Z⟩ Z ?_
 refine GOps.nil ?_
 refine GW.seq ?_
 refine GW.seq ?_
 refine GW.region ?_
 refine R.assign ⟨Z,Z,Z,Z⟩ Z ?_
 refine GOps.nil ?_
 refine GW.block ?_
 refine GW.loopI (fun i : Nat => [(0, .slice A xs.length c), (1, .string s), (5, .int .i64 i)]) (fun i => G) (fun i => xs.length - i) (fun i => i ≤ xs.length ∧ (xs.take i).any (eqB s) = false) 0
  (keepG) (Hs.refl _) (⟨Nat.zero_le _, by simp⟩) ?_
 rintro i ⟨hi, h0⟩
 refine GW.seq ?_
 refine GW.seq ?_
 refine GW.region ?_
 refine R.move ⟨Z,Z,Z,Z⟩ Z ?_
 refine R.move ⟨Z,Z,Z,Z⟩ Z ?_
 refine R.lenS ⟨Z,Z,Z,Z⟩ Z Z Tryz.underlying61 ?_
 refine R.lss ⟨Z,Z,Z,Z⟩ Z Z ?_
 refine GOps.nil ?_
 refine GW.ite Z (fun hc1 => ?_) (fun hc1 => ?_)
 ·try simp only [dcQ] at hc1
  obtain ⟨x, hx⟩ : ∃ x, xs[i]? = some x := ⟨_, List.getElem?_eq_getElem (by omega)⟩
  obtain ⟨xb, xo, rfl, hrd⟩ := str_load hxs hx
  refine GW.skip ?_
  refine GW.seq ?_
  refine GW.block ?_
  refine GW.seq ?_
  refine GW.region ?_
  refine R.move ⟨Z,Z,Z,Z⟩ Z ?_
  refine R.move ⟨Z,Z,Z,Z⟩ Z ?_
  refine R.indexAddrS ⟨Z,Z,Z,Z⟩ Z Z Tryz.underlying61 Tryz.sizeOf9 (by omega) (by omega) ?_
  refine R.load1 ⟨Z,Z,Z,Z⟩ Z Tryz.underlying9 Z (hrd.mono (fun y hy => by repeat (first | exact hy | apply List.mem_cons_of_mem | apply List.mem_append_right))) ?_
  refine R.move ⟨Z,Z,Z,Z⟩ Z ?_
  refine R.eqS ⟨Z,Z,Z,Z⟩ Z Z ?_
  refine GOps.nil ?_
  refine GW.ite Z (fun hc2 => ?_) (fun hc2 => ?_)
  ·try simp only [dcQ] at hc2
   refine GW.seq ?_
   refine GW.region ?_
   refine R.assign ⟨Z,Z,Z,Z⟩ Z ?_
   refine GOps.nil ?_
   first | exact GW.ret (Out.of (Res.one rfl rfl) (Hs.refl _) ⟨by unfold inB; rw [h0], rfl⟩) | exact GW.ret (Out.of (Res.one rfl rfl) (Hs.refl _) ⟨by unfold inB; rw [List.any_eq_true.2 ⟨x, List.mem_of_getElem? hx, by assumption⟩], rfl⟩)
  ·try simp only [dcQ] at hc2
   refine GW.skip ?_
   refine GW.region ?_
   refine R.move ⟨Z,Z,Z,Z⟩ Z ?_
   refine R.add (r := (((i + 1) : Nat) : Int)) ⟨Z,Z,Z,Z⟩ Z Z (by rw [wrap64_id (by omega) (by omega)]; omega) ?_
   refine R.assign ⟨Z,Z,Z,Z⟩ Z ?_
   refine GOps.nil ?_
   exact ⟨i + 1, by omega, ⟨by omega, any_take_succ _ xs i x hx h0 (by assumption)⟩, rfl, keepG, by first | exact Hs.refl _ | exact Hs.tl _ | exact Hs.tl2 _ _⟩
 ·try simp only [dcQ] at hc1
  rw [List.take_of_length_le (by omega)] at h0
  refine GW.exit ?_
  refine GW.seq ?_
  refine GW.region ?_
  refine R.assign ⟨Z,Z,Z,Z⟩ Z ?_
  refine GOps.nil ?_
  first | exact GW.ret (Out.of (Res.one rfl rfl) (Hs.refl _) ⟨by unfold inB; rw [h0], rfl⟩) | exact GW.ret (Out.of (Res.one rfl rfl) (Hs.refl _) ⟨by unfold inB; rw [List.any_eq_true.2 ⟨x, List.mem_of_getElem? hx, by assumption⟩], rfl⟩)
theorem ref07_in (w0 : World) (G : Hp) (A : Option Addr) (xs : List ByteArray) (c : Nat) (s : ByteArray) (hxs : StAt w0 G A xs) (hm : xs.length ≤ 100000000) : GC Tryz.prog w0 46 #[.slice A xs.length c, .string s] (fun v G' => v = .bool (inB xs s) ∧ G = G') G := by
 refine GC.body (args := [.slice A xs.length c, .string s]) Tryz.func46 rfl (by kernel_rfl) rfl ?_
 refine GW.seq ?_
 refine GW.region ?_
 refine R.assign ⟨Z,Z,Z,Z⟩ Z ?_
 refine GOps.nil ?_
 refine GW.seq ?_
 refine GW.seq ?_
 refine GW.region ?_
 refine R.assign ⟨Z,Z,Z,Z⟩ Z ?_
 refine GOps.nil ?_
 refine GW.block ?_
 refine GW.loopI (fun i : Nat => [(0, .slice A xs.length c), (1, .string s), (5, .int .i64 i)]) (fun i => G) (fun i => xs.length - i) (fun i => i ≤ xs.length ∧ (xs.take i).any (eqB s) = false) 0
  (keepG) (Hs.refl _) (⟨Nat.zero_le _, by simp⟩) ?_
 rintro i ⟨hi, h0⟩
 refine GW.seq ?_
 refine GW.seq ?_
 refine GW.region ?_
 refine R.move ⟨Z,Z,Z,Z⟩ Z ?_
 refine R.move ⟨Z,Z,Z,Z⟩ Z ?_
 refine R.lenS ⟨Z,Z,Z,Z⟩ Z Z Tryz.underlying61 ?_
 refine R.lss ⟨Z,Z,Z,Z⟩ Z Z ?_
 refine GOps.nil ?_
 refine GW.ite Z (fun hc1 => ?_) (fun hc1 => ?_)
 ·try simp only [dcQ] at hc1
  obtain ⟨x, hx⟩ : ∃ x, xs[i]? = some x := ⟨_, List.getElem?_eq_getElem (by omega)⟩
  obtain ⟨xb, xo, rfl, hrd⟩ := str_load hxs hx
  refine GW.skip ?_
  refine GW.seq ?_
  refine GW.block ?_
  refine GW.seq ?_
  refine GW.region ?_
  refine R.move ⟨Z,Z,Z,Z⟩ Z ?_
  refine R.move ⟨Z,Z,Z,Z⟩ Z ?_
  refine R.indexAddrS ⟨Z,Z,Z,Z⟩ Z Z Tryz.underlying61 Tryz.sizeOf9 (by omega) (by omega) ?_
  refine R.load1 ⟨Z,Z,Z,Z⟩ Z Tryz.underlying9 Z (hrd.mono (fun y hy => by repeat (first | exact hy | apply List.mem_cons_of_mem | apply List.mem_append_right))) ?_
  refine R.move ⟨Z,Z,Z,Z⟩ Z ?_
  refine R.eqS ⟨Z,Z,Z,Z⟩ Z Z ?_
  refine GOps.nil ?_
  refine GW.ite Z (fun hc2 => ?_) (fun hc2 => ?_)
  ·try simp only [dcQ] at hc2
   refine GW.seq ?_
   refine GW.region ?_
   refine R.assign ⟨Z,Z,Z,Z⟩ Z ?_
   refine GOps.nil ?_
   first | exact GW.ret (Out.of (Res.one rfl rfl) (Hs.refl _) ⟨by unfold inB; rw [h0], rfl⟩) | exact GW.ret (Out.of (Res.one rfl rfl) (Hs.refl _) ⟨by unfold inB; rw [List.any_eq_true.2 ⟨x, List.mem_of_getElem? hx, by assumption⟩], rfl⟩)
  ·try simp only [dcQ] at hc2
   refine GW.skip ?_
   refine GW.region ?_
   refine R.move ⟨Z,Z,Z,Z⟩ Z ?_
   refine R.add (r := (((i + 1) : Nat) : Int)) ⟨Z,Z,Z,Z⟩ Z Z (by rw [wrap64_id (by omega) (by omega)]; omega) ?_
   refine R.assign ⟨Z,Z,Z,Z⟩ Z ?_
   refine GOps.nil ?_
   exact ⟨i + 1, by omega, ⟨by omega, any_take_succ _ xs i x hx h0 (by assumption)⟩, rfl, keepG, by first | exact Hs.refl _ | exact Hs.tl _ | exact Hs.tl2 _ _⟩
 ·try simp only [dcQ] at hc1
  rw [List.take_of_length_le (by omega)] at h0
  refine GW.exit ?_
  refine GW.seq ?_
  refine GW.region ?_
  refine R.assign ⟨Z,Z,Z,Z⟩ Z ?_
  refine GOps.nil ?_
  first | exact GW.ret (Out.of (Res.one rfl rfl) (Hs.refl _) ⟨by unfold inB; rw [h0], rfl⟩) | exact GW.ret (Out.of (Res.one rfl rfl) (Hs.refl _) ⟨by unfold inB; rw [List.any_eq_true.2 ⟨x, List.mem_of_getElem? hx, by assumption⟩], rfl⟩)
end Go.Proofs.YtfddkcmooommeaaGreatDoor.Gl
end
section
namespace Go.Proofs.YtfddkcmooommeaaGreatDoor.Gl
open Go.RowKit Go.Shelf
set_option linter.unusedVariables false
set_option linter.unnecessarySimpa false
set_option linter.unusedSimpArgs false
attribute [-simp] List.getD_eq_getElem?_getD
theorem dd_take_snoc {q r : List Sl} {k : Nat} {y : Sl} (h : r[k]? = some y) : dd (q ++ r.take (k + 1)) = ddStep (dd (q ++ r.take k)) y := by
 rw [List.take_add_one, h, ← List.append_assoc]
 exact dd_snoc _ _
theorem lt_sa {w0 : World} {G : Hp} {b o : Nat} {l : Lt} (h : Rds w0 G b o (LtC l)) : Rds w0 G b (o + 13) (SlC l.a) := fun j v hv => by
 have := h (13 + j) v (by
  show ((Value.int .i64 l.kind :: PtC l.pat) ++ (SlC l.a ++ SlC l.b))[13 + j]? = some v
  rw [List.getElem?_append_right (by show 13 ≤ _; omega), show 13 + j - (Value.int .i64 l.kind :: PtC l.pat).length = j by show 13 + j - 13 = j; omega, List.getElem?_append_left (List.getElem?_eq_some_iff.1 hv).1]
  exact hv)
 rwa [← Nat.add_assoc] at this
theorem lt_sb {w0 : World} {G : Hp} {b o : Nat} {l : Lt} (h : Rds w0 G b o (LtC l)) : Rds w0 G b (o + 17) (SlC l.b) := fun j v hv => by
 have := h (17 + j) v (by
  show ((Value.int .i64 l.kind :: (PtC l.pat ++ SlC l.a)) ++ SlC l.b)[17 + j]? = some v
  rw [List.getElem?_append_right (by show 17 ≤ _; omega), show 17 + j - (Value.int .i64 l.kind :: (PtC l.pat ++ SlC l.a)).length = j by show 17 + j - 17 = j; omega]
  exact hv)
 rwa [← Nat.add_assoc] at this
theorem lt_sp {w0 : World} {G : Hp} {b o i : Nat} {l : Lt} {s : Sl} (h : Rds w0 G b o (LtC l)) (hs : (sl3 l.pat)[i]? = some s) : Rds w0 G b (o + 1 + (i : Int).toNat * 4) (SlC s) := fun j v hv => by
 have hi : i < 3 := (List.getElem?_eq_some_iff.1 hs).1
 have hj : j < 4 := (List.getElem?_eq_some_iff.1 hv).1
 have := h (1 + i * 4 + j) v (by
  rcases (by omega : i = 0 ∨ i = 1 ∨ i = 2) with rfl | rfl | rfl <;> (cases hs; rcases (by omega : j = 0 ∨ j = 1 ∨ j = 2 ∨ j = 3) with rfl | rfl | rfl | rfl <;> exact hv))
 rwa [← Nat.add_assoc, ← Nat.add_assoc] at this
theorem Hs.dropM (x : Nat × Know) (H G : Hp) : Hs (x :: (H ++ G)) (x :: G) := Hs.sub ((List.sublist_append_right H G).cons_cons x)
theorem Hs.skipS (x y : Nat × Know) (R : Hp) : Hs (x :: y :: R) (x :: R) := Hs.sub ((List.sublist_cons_self y R).cons_cons x)
theorem Hs.mapUp (x y z : Nat × Know) (H G : Hp) : Hs (H ++ (x :: y :: z :: G)) (z :: (H ++ G)) := Hs.trans (Hs.sub (List.Sublist.append_left ((List.sublist_cons_self y (z :: G)).trans (List.sublist_cons_self x _)) H)) (Hs.perm List.perm_middle.symm)
theorem q_bound (w0 : World) (G : Hp) (A : Option Addr) (body : List Lt) (c : Nat) (hl : LtsAt w0 G A body) (hm : body.length ≤ 1048576) : GC Tryz.prog w0 73 #[.slice A body.length c] (fun v G' => ∃ b ks, (v = .map (some b) ∧ ∀ s, inB ks s = memT body body.length s) ∧ (b, emapI ks) :: G = G') G := by
 refine GC.body (args := [.slice A body.length c]) Tryz.func73 rfl (by kernel_rfl) rfl ?_
 refine GW.seq ?_
 refine GW.region ?_
 refine R.assign ⟨Z,Z,Z,Z⟩ Z ?_
 refine GOps.nil ?_
 refine GW.seq ?_
 refine GW.region ?_
 refine R.makeMap ⟨Z,Z,Z,Z⟩ fun b8 => ?_
 refine R.assign ⟨Z,Z,Z,Z⟩ Z ?_
 refine GOps.nil ?_
 refine GW.seq ?_
 refine GW.seq ?_
 refine GW.region ?_
 refine R.move ⟨Z,Z,Z,Z⟩ Z ?_
 refine R.lenS ⟨Z,Z,Z,Z⟩ Z Z Tryz.underlying29 ?_
 refine R.move ⟨Z,Z,Z,Z⟩ Z ?_
 refine GOps.nil ?_
 refine GW.block ?_
 refine GW.loop4 (fun (i : Nat) (ks : List ByteArray) (u1 : Unit) (u2 : Unit) => [(3, .map (some b8)), (9, .slice A body.length c), (10, .int .i64 body.length), (11, .int .i64 i)]) (fun (i : Nat) (ks : List ByteArray) (u1 : Unit) (u2 : Unit) => (b8, emapI ks) :: G) (fun i : Nat => body.length - i) (fun (i : Nat) (ks : List ByteArray) (u1 : Unit) (u2 : Unit) => i ≤ body.length ∧ ∀ s, inB ks s = memT body i s) 0 ([]) (()) (())
  (keepG) (Hs.refl _) (⟨Nat.zero_le _, fun s => rfl⟩) ?_
 rintro i ks u1 u2 ⟨hi, hK⟩
 refine GW.seq ?_
 refine GW.region ?_
 refine R.lss ⟨Z,Z,Z,Z⟩ Z Z ?_
 refine GOps.nil ?_
 refine GW.seq ?_
 refine GW.ite Z (fun hc1 => ?_) (fun hc1 => ?_)
 ·try simp only [dcQ] at hc1
  obtain ⟨x, hx⟩ : ∃ x, body[i]? = some x := ⟨_, List.getElem?_eq_getElem (by omega)⟩
  obtain ⟨xb, xo, cs0, rfl, rfl, hrd⟩ := hl i x hx
  refine GW.skip ?_
  refine GW.seq ?_
  refine GW.block ?_
  refine GW.seq ?_
  refine GW.region ?_
  refine R.indexAddrS ⟨Z,Z,Z,Z⟩ Z Z Tryz.underlying29 Tryz.sizeOf89 (by omega) (by omega) ?_
  refine R.loadA ⟨Z,Z,Z,Z⟩ Z Tryz.underlying89 Z Tryz.sizeOf89 (hrd.mono (fun y hy => by repeat (first | exact hy | apply List.mem_cons_of_mem | apply List.mem_append_right))) (by rfl) ?_
  refine R.alloc ⟨Z,Z,Z,Z⟩ Tryz.zeroValue89 fun b5 => ?_
  refine R.storeAll (G1 := []) Z Z Z Z Z Tryz.sizeOf89 Z Z Z Z ?_
  refine GOps.nil ?_
  refine GW.seq ?_
  refine GW.region ?_
  refine R.fieldAddr ⟨Z,Z,Z,Z⟩ Z Tryz.underlying89 Z Tryz.sizeOf87 ?_
  refine R.load1 ⟨Z,Z,Z,Z⟩ Z Tryz.underlying87 Z (.own (v := .int .i64 x.kind) memH Z) ?_
  refine R.eqI ⟨Z,Z,Z,Z⟩ Z Z ?_
  refine GOps.nil ?_
  refine GW.ite Z (fun hc2 => ?_) (fun hc2 => ?_)
  ·try simp only [dcQ] at hc2
   refine GW.seq ?_
   refine GW.region ?_
   refine R.load_own (cs := LtC x) ⟨Z,Z,Z,Z⟩ Z Tryz.underlying89 Z Tryz.sizeOf89 memG (by rfl) (by rfl) ?_
   refine R.buildSliceF (sz := 21) (bytes := 288) (vs := [_]) (cs := LtC x) ⟨Z,Z,Z,Z⟩ Z Tryz.underlying29 (InfoE.mk (by kernel_rfl)) Z Z Z Z Z fun b19 => ?_
   refine R.call ⟨Z,Z,Z,Z⟩ Z (vs := [_]) Z ((rules_Vars _ _ (some ⟨b19, 0, none⟩) [x] 1 (lts_one List.mem_cons_self) (by simp)).mono ?_)
   rintro v20 _ ⟨H20, h20, rfl⟩
   rw [bS_one] at h20
   obtain ⟨Av, cv, rfl, hvs⟩ := h20.strs w0 []
   rw [List.append_nil] at hvs
   have hdl := dd_len (slotsOf x)
   have hsl := slots_le x
   refine R.lenS ⟨Z,Z,Z,Z⟩ Z Z Tryz.underlying61 ?_
   refine R.move ⟨Z,Z,Z,Z⟩ Z ?_
   refine GOps.nil ?_
   refine GW.block ?_
   refine GW.loop4 (fun (j : Nat) (ks : List ByteArray) (u1 : Unit) (u2 : Unit) => [(3, .map (some b8)), (9, .slice (some ⟨xb, xo, none⟩) body.length c), (10, .int .i64 body.length), (11, .int .i64 i), (20, .slice Av (dd (slotsOf x)).length cv), (21, .int .i64 (dd (slotsOf x)).length), (22, .int .i64 j)]) (fun (j : Nat) (ks : List ByteArray) (u1 : Unit) (u2 : Unit) => (b8, emapI ks) :: (H20 ++ G)) (fun j : Nat => (dd (slotsOf x)).length - j) (fun (j : Nat) (ks : List ByteArray) (u1 : Unit) (u2 : Unit) => j ≤ (dd (slotsOf x)).length ∧ ∀ s, inB ks s = (memT body i s || inB ((dd (slotsOf x)).take j) s)) 0 (ks) (()) (())
    (keepG) (Hs.mapUp _ _ _ _ _) (⟨Nat.zero_le _, fun s => by rw [hK s]; simp [inB]⟩) ?_
   rintro j ks u1 u2 ⟨hj, hJ⟩
   refine GW.seq ?_
   refine GW.region ?_
   refine R.lss ⟨Z,Z,Z,Z⟩ Z Z ?_
   refine GOps.nil ?_
   refine GW.seq ?_
   refine GW.ite Z (fun hc3 => ?_) (fun hc3 => ?_)
   ·try simp only [dcQ] at hc3
    obtain ⟨y, hy⟩ : ∃ y, (dd (slotsOf x))[j]? = some y := ⟨_, List.getElem?_eq_getElem (by omega)⟩
    obtain ⟨yb, yo, rfl, hyr⟩ := str_load hvs hy
    refine GW.skip ?_
    refine GW.seq ?_
    refine GW.block ?_
    refine GW.seq ?_
    refine GW.region ?_
    refine R.indexAddrS ⟨Z,Z,Z,Z⟩ Z Z Tryz.underlying61 Tryz.sizeOf9 (by omega) (by omega) ?_
    refine R.load1 ⟨Z,Z,Z,Z⟩ Z Tryz.underlying9 Z (hyr.mono (fun y hy => by repeat (first | exact List.mem_append_left _ hy | exact hy | apply List.mem_cons_of_mem | apply List.mem_append_right))) ?_
    refine R.assign ⟨Z,Z,Z,Z⟩ Z ?_
    refine GOps.nil ?_
    refine GW.region ?_
    refine R.move ⟨Z,Z,Z,Z⟩ Z ?_
    rcases Bool.eq_false_or_eq_true (inB ks y) with hk | hk
    ·obtain ⟨j2, hjk, hfk⟩ := find_yesI hk
     refine R.move ⟨Z,Z,Z,Z⟩ Z ?_
     refine R.putOld (key := .string y) (v := .int .i64 1) (G1 := []) (.inl Z) Z Z Z Z Z Tryz.underlying142 Tryz.underlying9 Z Z (hfk) (ents_sameI hjk) ?_
     rw [emap_oldI hjk]
     refine GOps.nil ?_
     refine GW.region ?_
     refine R.add (r := (((j + 1) : Nat) : Int)) ⟨Z,Z,Z,Z⟩ Z Z (by rw [wrap64_id (by omega) (by omega)]; omega) ?_
     refine R.move ⟨Z,Z,Z,Z⟩ Z ?_
     refine GOps.nil ?_
     first | exact ⟨j + 1, ks, (), (), by omega, ⟨by omega, fun s => by rw [inB_take_succ hy, ← Bool.or_assoc, ← hJ s]; cases he : eqB s y with | false => simp | true => rw [← eqB_iff.1 he, hk]; rfl⟩, rfl, keepG, Hs.refl _⟩ | exact ⟨j + 1, ks ++ [y], (), (), by omega, ⟨by omega, fun s => by rw [inB_take_succ hy, ← Bool.or_assoc, ← hJ s]; exact inB_snoc _ _ _⟩, rfl, keepG, Hs.refl _⟩
    ·skip
     refine R.move ⟨Z,Z,Z,Z⟩ Z ?_
     refine R.putNew (key := .string y) (v := .int .i64 1) (G1 := []) (.inl Z) Z Z Z Z Z Tryz.underlying142 Tryz.underlying9 Z Z (find_noI hk) ?_
     rw [emap_pushI]
     refine GOps.nil ?_
     refine GW.region ?_
     refine R.add (r := (((j + 1) : Nat) : Int)) ⟨Z,Z,Z,Z⟩ Z Z (by rw [wrap64_id (by omega) (by omega)]; omega) ?_
     refine R.move ⟨Z,Z,Z,Z⟩ Z ?_
     refine GOps.nil ?_
     first | exact ⟨j + 1, ks, (), (), by omega, ⟨by omega, fun s => by rw [inB_take_succ hy, ← Bool.or_assoc, ← hJ s]; cases he : eqB s y with | false => simp | true => rw [← eqB_iff.1 he, hk]; rfl⟩, rfl, keepG, Hs.refl _⟩ | exact ⟨j + 1, ks ++ [y], (), (), by omega, ⟨by omega, fun s => by rw [inB_take_succ hy, ← Bool.or_assoc, ← hJ s]; exact inB_snoc _ _ _⟩, rfl, keepG, Hs.refl _⟩
   ·try simp only [dcQ] at hc3
    refine GW.exit ?_
    refine GW.region ?_
    refine R.add (r := (((i + 1) : Nat) : Int)) ⟨Z,Z,Z,Z⟩ Z Z (by rw [wrap64_id (by omega) (by omega)]; omega) ?_
    refine R.move ⟨Z,Z,Z,Z⟩ Z ?_
    refine GOps.nil ?_
    first | exact ⟨i + 1, ks, (), (), by omega, ⟨by omega, fun s => by rw [memT_succ hx, show isMt x = true by simp [isMt]; omega, Bool.true_and, ← inB_dd, hJ s, List.take_of_length_le (by omega)]⟩, rfl, keepG, Hs.dropM _ _ _⟩ | exact ⟨i + 1, ks, (), (), by omega, ⟨by omega, fun s => by rw [memT_succ hx, show isMt x = false by simp [isMt]; omega, Bool.false_and, Bool.or_false]; exact hK s⟩, rfl, keepG, Hs.tl _⟩
  ·try simp only [dcQ] at hc2
   refine GW.skip ?_
   refine GW.region ?_
   refine R.add (r := (((i + 1) : Nat) : Int)) ⟨Z,Z,Z,Z⟩ Z Z (by rw [wrap64_id (by omega) (by omega)]; omega) ?_
   refine R.move ⟨Z,Z,Z,Z⟩ Z ?_
   refine GOps.nil ?_
   first | exact ⟨i + 1, ks, (), (), by omega, ⟨by omega, fun s => by rw [memT_succ hx, show isMt x = true by simp [isMt]; omega, Bool.true_and, ← inB_dd, hJ s, List.take_of_length_le (by omega)]⟩, rfl, keepG, Hs.dropM _ _ _⟩ | exact ⟨i + 1, ks, (), (), by omega, ⟨by omega, fun s => by rw [memT_succ hx, show isMt x = false by simp [isMt]; omega, Bool.false_and, Bool.or_false]; exact hK s⟩, rfl, keepG, Hs.tl _⟩
 ·try simp only [dcQ] at hc1
  obtain rfl : i = body.length := by omega
  refine GW.exit ?_
  refine GW.seq ?_
  refine GW.region ?_
  refine R.move ⟨Z,Z,Z,Z⟩ Z ?_
  refine R.assign ⟨Z,Z,Z,Z⟩ Z ?_
  refine GOps.nil ?_
  exact GW.ret (Out.of (Res.one rfl rfl) (Hs.refl _) ⟨b8, ks, ⟨rfl, hK⟩, rfl⟩)
theorem ref06_Vars (w0 : World) (G : Hp) (A : Option Addr) (body : List Lt) (c : Nat) (hl : LtsAt w0 G A body) (hm : body.length ≤ 1048576) : GC Tryz.prog w0 45 #[.slice A body.length c] (fun v G' => ∃ H, SlAt 1 9 ((dd (bS body body.length)).map Value.string) (dd (bS body body.length)).length v H ∧ H ++ G = G') G := by
 refine GC.body (args := [.slice A body.length c]) Tryz.func45 rfl (by kernel_rfl) rfl ?_
 refine GW.seq ?_
 refine GW.region ?_
 refine R.assign ⟨Z,Z,Z,Z⟩ Z ?_
 refine GOps.nil ?_
 refine GW.seq ?_
 refine GW.region ?_
 refine R.assign ⟨Z,Z,Z,Z⟩ Z ?_
 refine GOps.nil ?_
 refine GW.seq ?_
 refine GW.seq ?_
 refine GW.region ?_
 refine R.assign ⟨Z,Z,Z,Z⟩ Z ?_
 refine GOps.nil ?_
 refine GW.block ?_
 refine GW.loop4 (fun (i : Nat) (h : Value × Hp) (u1 : Unit) (u2 : Unit) => [(0, .slice A body.length c), (3, h.1), (4, .int .i64 i)]) (fun (i : Nat) (h : Value × Hp) (u1 : Unit) (u2 : Unit) => h.2 ++ G) (fun i : Nat => body.length - i) (fun (i : Nat) (h : Value × Hp) (u1 : Unit) (u2 : Unit) => i ≤ body.length ∧ SlAt 1 9 ((dd (bS body i)).map Value.string) (dd (bS body i)).length h.1 h.2) 0 ((.slice none 0 0, [])) (()) (())
  (keepG) (Hs.refl _) (⟨Nat.zero_le _, .nil rfl rfl⟩) ?_
 rintro i h u1 u2 ⟨hi, hO⟩
 obtain ⟨vo, Ho⟩ := h
 simp only at hO
 refine GW.seq ?_
 refine GW.seq ?_
 refine GW.region ?_
 refine R.move ⟨Z,Z,Z,Z⟩ Z ?_
 refine R.move ⟨Z,Z,Z,Z⟩ Z ?_
 refine R.lenS ⟨Z,Z,Z,Z⟩ Z Z Tryz.underlying29 ?_
 refine R.lss ⟨Z,Z,Z,Z⟩ Z Z ?_
 refine GOps.nil ?_
 refine GW.ite Z (fun hc1 => ?_) (fun hc1 => ?_)
 ·try simp only [dcQ] at hc1
  obtain ⟨x, hx⟩ : ∃ x, body[i]? = some x := ⟨_, List.getElem?_eq_getElem (by omega)⟩
  obtain ⟨xb, xo, cs0, rfl, rfl, hrd⟩ := hl i x hx
  refine GW.skip ?_
  refine GW.seq ?_
  refine GW.block ?_
  refine GW.seq ?_
  refine GW.draw (G) 12 Z (by kernel_rfl) ?_
  refine GA.w 0 Z (V.move ⟨Z,Z,Z,Z⟩ Z) Z ?_
  refine GA.w 1 Z (V.move ⟨Z,Z,Z,Z⟩ Z) Z ?_
  refine GA.val 2 Z (V.indexAddrS ⟨Z,Z,Z,Z⟩ Z Z Tryz.underlying29 Tryz.sizeOf89 (by omega) (by omega)) Z (by kernel_rfl) (by kernel_rfl) (by kernel_rfl) ?_
  refine GA.w 3 Z (V.fieldAddr ⟨Z,Z,Z,Z⟩ Z Tryz.underlying89 Z Tryz.sizeOf26) Z ?_
  refine GA.val 4 Z (V.loadA ⟨Z,Z,Z,Z⟩ Z Tryz.underlying26 Z Tryz.sizeOf26 (lt_sa (hrd.mono (fun y hy => by repeat (first | exact hy | apply List.mem_cons_of_mem | apply List.mem_append_right)))) (by rfl)) Z (by kernel_rfl) (by kernel_rfl) (by kernel_rfl) ?_
  refine GA.w 5 Z (V.move ⟨Z,Z,Z,Z⟩ Z) Z ?_
  refine GA.w 6 Z (V.move ⟨Z,Z,Z,Z⟩ Z) Z ?_
  refine GA.val 7 Z (V.indexAddrS ⟨Z,Z,Z,Z⟩ Z Z Tryz.underlying29 Tryz.sizeOf89 (by omega) (by omega)) Z (by kernel_rfl) (by kernel_rfl) (by kernel_rfl) ?_
  refine GA.w 8 Z (V.fieldAddr ⟨Z,Z,Z,Z⟩ Z Tryz.underlying89 Z Tryz.sizeOf26) Z ?_
  refine GA.val 9 Z (V.loadA ⟨Z,Z,Z,Z⟩ Z Tryz.underlying26 Z Tryz.sizeOf26 (lt_sb (hrd.mono (fun y hy => by repeat (first | exact hy | apply List.mem_cons_of_mem | apply List.mem_append_right)))) (by rfl)) Z (by kernel_rfl) (by kernel_rfl) (by kernel_rfl) ?_
  refine GA.one 10 hsD (by kernel_rfl) Z ?_
  refine R.buildSliceF (sz := 4) (bytes := 56) (vs := [_, _]) (cs := [x.a, x.b].flatMap SlC) ⟨Z,Z,Z,Z⟩ Z Tryz.underlying106 (InfoE.mk (by kernel_rfl)) Z Z Z Z Z fun b23 => ?_
  refine GOps.nil ?_
  refine GA.w 11 Z (V.assign ⟨Z,Z,Z,Z⟩ Z) Z ?_
  refine GA.done hsD (by kernel_rfl) ?_
  refine GW.cutX (fun b5s : Nat => [(0, .slice (some ⟨xb, xo, none⟩) body.length c), (3, vo), (4, .int .i64 i), (5, .slice (some ⟨b5s, 0, none⟩) (slotsOf x).length (slotsOf x).length)]) (fun b5s : Nat => (b5s, .exact (.cells ((slotsOf x).flatMap SlC).toArray 26 (0, 0))) :: (Ho ++ G)) (fun b5s : Nat => True) ?_ ?_
  ·refine GW.seq ?_
   refine GW.region ?_
   refine R.move ⟨Z,Z,Z,Z⟩ Z ?_
   refine R.move ⟨Z,Z,Z,Z⟩ Z ?_
   refine R.indexAddrS ⟨Z,Z,Z,Z⟩ Z Z Tryz.underlying29 Tryz.sizeOf89 (by omega) (by omega) ?_
   refine R.fieldAddr ⟨Z,Z,Z,Z⟩ Z Tryz.underlying89 Z Tryz.sizeOf87 ?_
   refine R.load1 ⟨Z,Z,Z,Z⟩ Z Tryz.underlying87 Z ((hrd 0 _ Z).mono (fun y hy => by repeat (first | exact hy | apply List.mem_cons_of_mem | apply List.mem_append_right))) ?_
   refine R.eqI ⟨Z,Z,Z,Z⟩ Z Z ?_
   refine R.move ⟨Z,Z,Z,Z⟩ Z ?_
   refine GOps.caseB 30 Z (fun hg2 => ?_) (fun hg2 => ?_)
   ·try simp only [dcQ] at hg2
    refine GOps.skip Z Z Z ?_
    refine GOps.skip Z Z Z ?_
    refine GOps.skip Z Z Z ?_
    refine GOps.skip Z Z Z ?_
    refine GOps.skip Z Z Z ?_
    refine GOps.skip Z Z Z ?_
    refine R.pick_t ⟨Z,Z,Z,Z⟩ Z Z ?_
    refine GOps.nil ?_
    refine GW.cond_t Z ?_
    refine GW.draw (G) 20 Z (by kernel_rfl) ?_
    refine GA.w 0 Z (V.move ⟨Z,Z,Z,Z⟩ Z) Z ?_
    refine GA.w 1 Z (V.move ⟨Z,Z,Z,Z⟩ Z) Z ?_
    refine GA.val 2 Z (V.indexAddrS ⟨Z,Z,Z,Z⟩ Z Z Tryz.underlying29 Tryz.sizeOf89 (by omega) (by omega)) Z (by kernel_rfl) (by kernel_rfl) (by kernel_rfl) ?_
    refine GA.w 3 Z (V.fieldAddr ⟨Z,Z,Z,Z⟩ Z Tryz.underlying89 Z Tryz.sizeOf28) Z ?_
    refine GA.val 4 Z (V.indexAddrA ⟨Z,Z,Z,Z⟩ Z Z Tryz.underlying28 Tryz.sizeOf26 (by omega) (by omega)) Z (by kernel_rfl) (by kernel_rfl) (by kernel_rfl) ?_
    refine GA.val 5 Z (V.loadA ⟨Z,Z,Z,Z⟩ Z Tryz.underlying26 Z Tryz.sizeOf26 (lt_sp (i := 0) (hrd.mono (fun y hy => by repeat (first | exact hy | apply List.mem_cons_of_mem | apply List.mem_append_right))) Z) (by rfl)) Z (by kernel_rfl) (by kernel_rfl) (by kernel_rfl) ?_
    refine GA.w 6 Z (V.move ⟨Z,Z,Z,Z⟩ Z) Z ?_
    refine GA.w 7 Z (V.move ⟨Z,Z,Z,Z⟩ Z) Z ?_
    refine GA.val 8 Z (V.indexAddrS ⟨Z,Z,Z,Z⟩ Z Z Tryz.underlying29 Tryz.sizeOf89 (by omega) (by omega)) Z (by kernel_rfl) (by kernel_rfl) (by kernel_rfl) ?_
    refine GA.w 9 Z (V.fieldAddr ⟨Z,Z,Z,Z⟩ Z Tryz.underlying89 Z Tryz.sizeOf28) Z ?_
    refine GA.val 10 Z (V.indexAddrA ⟨Z,Z,Z,Z⟩ Z Z Tryz.underlying28 Tryz.sizeOf26 (by omega) (by omega)) Z (by kernel_rfl) (by kernel_rfl) (by kernel_rfl) ?_
    refine GA.val 11 Z (V.loadA ⟨Z,Z,Z,Z⟩ Z Tryz.underlying26 Z Tryz.sizeOf26 (lt_sp (i := 1) (hrd.mono (fun y hy => by repeat (first | exact hy | apply List.mem_cons_of_mem | apply List.mem_append_right))) Z) (by rfl)) Z (by kernel_rfl) (by kernel_rfl) (by kernel_rfl) ?_
    refine GA.w 12 Z (V.move ⟨Z,Z,Z,Z⟩ Z) Z ?_
    refine GA.w 13 Z (V.move ⟨Z,Z,Z,Z⟩ Z) Z ?_
    refine GA.val 14 Z (V.indexAddrS ⟨Z,Z,Z,Z⟩ Z Z Tryz.underlying29 Tryz.sizeOf89 (by omega) (by omega)) Z (by kernel_rfl) (by kernel_rfl) (by kernel_rfl) ?_
    refine GA.w 15 Z (V.fieldAddr ⟨Z,Z,Z,Z⟩ Z Tryz.underlying89 Z Tryz.sizeOf28) Z ?_
    refine GA.val 16 Z (V.indexAddrA ⟨Z,Z,Z,Z⟩ Z Z Tryz.underlying28 Tryz.sizeOf26 (by omega) (by omega)) Z (by kernel_rfl) (by kernel_rfl) (by kernel_rfl) ?_
    refine GA.val 17 Z (V.loadA ⟨Z,Z,Z,Z⟩ Z Tryz.underlying26 Z Tryz.sizeOf26 (lt_sp (i := 2) (hrd.mono (fun y hy => by repeat (first | exact hy | apply List.mem_cons_of_mem | apply List.mem_append_right))) Z) (by rfl)) Z (by kernel_rfl) (by kernel_rfl) (by kernel_rfl) ?_
    refine GA.one 18 hsD (by kernel_rfl) Z ?_
    refine R.buildSliceF (sz := 4) (bytes := 56) (vs := [_, _, _]) (cs := [x.pat.s0, x.pat.s1, x.pat.s2].flatMap SlC) ⟨Z,Z,Z,Z⟩ Z Tryz.underlying106 (InfoE.mk (by kernel_rfl)) Z Z Z Z Z fun b56 => ?_
    refine GOps.nil ?_
    refine GA.w 19 Z (V.assign ⟨Z,Z,Z,Z⟩ Z) Z ?_
    refine GA.done hsD (by kernel_rfl) ?_
    first | (rw [slotsOf_t (by omega)]; exact ⟨rfl, rfl, b56, trivial, keepG, Hs.skipS _ _ _⟩) | (rw [slotsOf_f (by omega) (by omega)]; exact ⟨rfl, rfl, b23, trivial, keepG, Hs.refl _⟩)
   ·try simp only [dcQ] at hg2
    refine R.move ⟨Z,Z,Z,Z⟩ Z ?_
    refine R.move ⟨Z,Z,Z,Z⟩ Z ?_
    refine R.indexAddrS ⟨Z,Z,Z,Z⟩ Z Z Tryz.underlying29 Tryz.sizeOf89 (by omega) (by omega) ?_
    refine R.fieldAddr ⟨Z,Z,Z,Z⟩ Z Tryz.underlying89 Z Tryz.sizeOf87 ?_
    refine R.load1 ⟨Z,Z,Z,Z⟩ Z Tryz.underlying87 Z ((hrd 0 _ Z).mono (fun y hy => by repeat (first | exact hy | apply List.mem_cons_of_mem | apply List.mem_append_right))) ?_
    refine R.eqI ⟨Z,Z,Z,Z⟩ Z Z ?_
    refine R.pick_f ⟨Z,Z,Z,Z⟩ Z Z ?_
    refine GOps.nil ?_
    refine GW.ite Z (fun hc3 => ?_) (fun hc3 => ?_)
    ·try simp only [dcQ] at hc3
     refine GW.draw (G) 20 Z (by kernel_rfl) ?_
     refine GA.w 0 Z (V.move ⟨Z,Z,Z,Z⟩ Z) Z ?_
     refine GA.w 1 Z (V.move ⟨Z,Z,Z,Z⟩ Z) Z ?_
     refine GA.val 2 Z (V.indexAddrS ⟨Z,Z,Z,Z⟩ Z Z Tryz.underlying29 Tryz.sizeOf89 (by omega) (by omega)) Z (by kernel_rfl) (by kernel_rfl) (by kernel_rfl) ?_
     refine GA.w 3 Z (V.fieldAddr ⟨Z,Z,Z,Z⟩ Z Tryz.underlying89 Z Tryz.sizeOf28) Z ?_
     refine GA.val 4 Z (V.indexAddrA ⟨Z,Z,Z,Z⟩ Z Z Tryz.underlying28 Tryz.sizeOf26 (by omega) (by omega)) Z (by kernel_rfl) (by kernel_rfl) (by kernel_rfl) ?_
     refine GA.val 5 Z (V.loadA ⟨Z,Z,Z,Z⟩ Z Tryz.underlying26 Z Tryz.sizeOf26 (lt_sp (i := 0) (hrd.mono (fun y hy => by repeat (first | exact hy | apply List.mem_cons_of_mem | apply List.mem_append_right))) Z) (by rfl)) Z (by kernel_rfl) (by kernel_rfl) (by kernel_rfl) ?_
     refine GA.w 6 Z (V.move ⟨Z,Z,Z,Z⟩ Z) Z ?_
     refine GA.w 7 Z (V.move ⟨Z,Z,Z,Z⟩ Z) Z ?_
     refine GA.val 8 Z (V.indexAddrS ⟨Z,Z,Z,Z⟩ Z Z Tryz.underlying29 Tryz.sizeOf89 (by omega) (by omega)) Z (by kernel_rfl) (by kernel_rfl) (by kernel_rfl) ?_
     refine GA.w 9 Z (V.fieldAddr ⟨Z,Z,Z,Z⟩ Z Tryz.underlying89 Z Tryz.sizeOf28) Z ?_
     refine GA.val 10 Z (V.indexAddrA ⟨Z,Z,Z,Z⟩ Z Z Tryz.underlying28 Tryz.sizeOf26 (by omega) (by omega)) Z (by kernel_rfl) (by kernel_rfl) (by kernel_rfl) ?_
     refine GA.val 11 Z (V.loadA ⟨Z,Z,Z,Z⟩ Z Tryz.underlying26 Z Tryz.sizeOf26 (lt_sp (i := 1) (hrd.mono (fun y hy => by repeat (first | exact hy | apply List.mem_cons_of_mem | apply List.mem_append_right))) Z) (by rfl)) Z (by kernel_rfl) (by kernel_rfl) (by kernel_rfl) ?_
     refine GA.w 12 Z (V.move ⟨Z,Z,Z,Z⟩ Z) Z ?_
     refine GA.w 13 Z (V.move ⟨Z,Z,Z,Z⟩ Z) Z ?_
     refine GA.val 14 Z (V.indexAddrS ⟨Z,Z,Z,Z⟩ Z Z Tryz.underlying29 Tryz.sizeOf89 (by omega) (by omega)) Z (by kernel_rfl) (by kernel_rfl) (by kernel_rfl) ?_
     refine GA.w 15 Z (V.fieldAddr ⟨Z,Z,Z,Z⟩ Z Tryz.underlying89 Z Tryz.sizeOf28) Z ?_
     refine GA.val 16 Z (V.indexAddrA ⟨Z,Z,Z,Z⟩ Z Z Tryz.underlying28 Tryz.sizeOf26 (by omega) (by omega)) Z (by kernel_rfl) (by kernel_rfl) (by kernel_rfl) ?_
     refine GA.val 17 Z (V.loadA ⟨Z,Z,Z,Z⟩ Z Tryz.underlying26 Z Tryz.sizeOf26 (lt_sp (i := 2) (hrd.mono (fun y hy => by repeat (first | exact hy | apply List.mem_cons_of_mem | apply List.mem_append_right))) Z) (by rfl)) Z (by kernel_rfl) (by kernel_rfl) (by kernel_rfl) ?_
     refine GA.one 18 hsD (by kernel_rfl) Z ?_
     refine R.buildSliceF (sz := 4) (bytes := 56) (vs := [_, _, _]) (cs := [x.pat.s0, x.pat.s1, x.pat.s2].flatMap SlC) ⟨Z,Z,Z,Z⟩ Z Tryz.underlying106 (InfoE.mk (by kernel_rfl)) Z Z Z Z Z fun b56 => ?_
     refine GOps.nil ?_
     refine GA.w 19 Z (V.assign ⟨Z,Z,Z,Z⟩ Z) Z ?_
     refine GA.done hsD (by kernel_rfl) ?_
     first | (rw [slotsOf_t (by omega)]; exact ⟨rfl, rfl, b56, trivial, keepG, Hs.skipS _ _ _⟩) | (rw [slotsOf_f (by omega) (by omega)]; exact ⟨rfl, rfl, b23, trivial, keepG, Hs.refl _⟩)
    ·try simp only [dcQ] at hc3
     refine GW.skip ?_
     first | (rw [slotsOf_t (by omega)]; exact ⟨rfl, rfl, b56, trivial, keepG, Hs.skipS _ _ _⟩) | (rw [slotsOf_f (by omega) (by omega)]; exact ⟨rfl, rfl, b23, trivial, keepG, Hs.refl _⟩)
  ·rintro b5s _
   have hsl := slots_le x
   have hbl := bS_len body i
   refine GW.seq ?_
   refine GW.region ?_
   refine R.assign ⟨Z,Z,Z,Z⟩ Z ?_
   refine GOps.nil ?_
   refine GW.block ?_
   refine GW.loop4 (fun (k : Nat) (h : Value × Hp) (u1 : Unit) (u2 : Unit) => [(0, .slice (some ⟨xb, xo, none⟩) body.length c), (3, h.1), (4, .int .i64 i), (5, .slice (some ⟨b5s, 0, none⟩) (slotsOf x).length (slotsOf x).length), (6, .int .i64 k)]) (fun (k : Nat) (h : Value × Hp) (u1 : Unit) (u2 : Unit) => (b5s, .exact (.cells ((slotsOf x).flatMap SlC).toArray 26 (0, 0))) :: (h.2 ++ G)) (fun k : Nat => (slotsOf x).length - k) (fun (k : Nat) (h : Value × Hp) (u1 : Unit) (u2 : Unit) => k ≤ (slotsOf x).length ∧ SlAt 1 9 ((dd (bS body i ++ (slotsOf x).take k)).map Value.string) (dd (bS body i ++ (slotsOf x).take k)).length h.1 h.2) 0 ((vo, Ho)) (()) (())
    (keepG) (Hs.refl _) (⟨Nat.zero_le _, by rw [List.take_zero, List.append_nil]; exact hO⟩) ?_
   rintro k h u1 u2 ⟨hk, hO⟩
   obtain ⟨vo, Ho⟩ := h
   simp only at hO
   refine GW.seq ?_
   refine GW.seq ?_
   refine GW.region ?_
   refine R.move ⟨Z,Z,Z,Z⟩ Z ?_
   refine R.move ⟨Z,Z,Z,Z⟩ Z ?_
   refine R.lenS ⟨Z,Z,Z,Z⟩ Z Z Tryz.underlying106 ?_
   refine R.lss ⟨Z,Z,Z,Z⟩ Z Z ?_
   refine GOps.nil ?_
   refine GW.ite Z (fun hc4 => ?_) (fun hc4 => ?_)
   ·try simp only [dcQ] at hc4
    obtain ⟨y, hy⟩ : ∃ y, (slotsOf x)[k]? = some y := ⟨_, List.getElem?_eq_getElem (by omega)⟩
    obtain ⟨Ao, co, rfl, hSt⟩ := hO.strs w0 []
    rw [List.append_nil] at hSt
    have hdl := dd_len (bS body i ++ (slotsOf x).take k)
    rw [List.length_append, List.length_take] at hdl
    refine GW.skip ?_
    refine GW.seq ?_
    refine GW.block ?_
    refine GW.seq ?_
    refine GW.region ?_
    refine R.move ⟨Z,Z,Z,Z⟩ Z ?_
    refine R.move ⟨Z,Z,Z,Z⟩ Z ?_
    refine R.indexAddrS ⟨Z,Z,Z,Z⟩ Z Z Tryz.underlying106 Tryz.sizeOf26 (by omega) (by omega) ?_
    refine R.fieldAddr ⟨Z,Z,Z,Z⟩ Z Tryz.underlying26 Z Tryz.sizeOf9 ?_
    refine R.load1 ⟨Z,Z,Z,Z⟩ Z Tryz.underlying9 Z (.own (k := .exact (.cells ((slotsOf x).flatMap SlC).toArray 26 (0, 0))) memH (slot_cellE hy)) ?_
    refine R.neS ⟨Z,Z,Z,Z⟩ Z Z ?_
    refine R.move ⟨Z,Z,Z,Z⟩ Z ?_
    refine GOps.caseB 69 Z (fun hg5 => ?_) (fun hg5 => ?_)
    ·try simp only [dcQ] at hg5
     refine R.move ⟨Z,Z,Z,Z⟩ Z ?_
     refine R.move ⟨Z,Z,Z,Z⟩ Z ?_
     refine R.move ⟨Z,Z,Z,Z⟩ Z ?_
     refine R.indexAddrS ⟨Z,Z,Z,Z⟩ Z Z Tryz.underlying106 Tryz.sizeOf26 (by omega) (by omega) ?_
     refine R.fieldAddr ⟨Z,Z,Z,Z⟩ Z Tryz.underlying26 Z Tryz.sizeOf9 ?_
     refine R.load1 ⟨Z,Z,Z,Z⟩ Z Tryz.underlying9 Z (.own (k := .exact (.cells ((slotsOf x).flatMap SlC).toArray 26 (0, 0))) memH (slot_cellE hy)) ?_
     refine R.call ⟨Z,Z,Z,Z⟩ Z (vs := [_, _]) Z ((ref06_in _ _ Ao (dd (bS body i ++ (slotsOf x).take k)) co y.v (hSt.mono (fun y hy => by repeat (first | exact List.mem_append_left _ hy | exact hy | apply List.mem_cons_of_mem | apply List.mem_append_right))) (by omega)).mono ?_)
     rintro _ _ ⟨rfl, rfl⟩
     refine R.not ⟨Z,Z,Z,Z⟩ Z ?_
     refine R.pick_t ⟨Z,Z,Z,Z⟩ Z Z ?_
     refine GOps.nil ?_
     refine GW.ite Z (fun hc6 => ?_) (fun hc6 => ?_)
     ·try simp only [dcQ] at hc6
      refine GW.region ?_
      refine R.move ⟨Z,Z,Z,Z⟩ Z ?_
      refine R.move ⟨Z,Z,Z,Z⟩ Z ?_
      refine R.move ⟨Z,Z,Z,Z⟩ Z ?_
      refine R.indexAddrS ⟨Z,Z,Z,Z⟩ Z Z Tryz.underlying106 Tryz.sizeOf26 (by omega) (by omega) ?_
      refine R.fieldAddr ⟨Z,Z,Z,Z⟩ Z Tryz.underlying26 Z Tryz.sizeOf9 ?_
      refine R.load1 ⟨Z,Z,Z,Z⟩ Z Tryz.underlying9 Z (.own (k := .exact (.cells ((slotsOf x).flatMap SlC).toArray 26 (0, 0))) memH (slot_cellE hy)) ?_
      refine R.buildSliceF (sz := 1) (bytes := 16) (vs := [_]) (cs := [_]) ⟨Z,Z,Z,Z⟩ Z Tryz.underlying61 (InfoE.mk (by kernel_rfl)) Z Z Z Z Z fun b85 => ?_
      refine R.append (sz := 1) (bytes := 16) (G1 := [_, _]) (H := Ho) (news := [.string y.v]) ⟨Z,Z,Z,Z⟩ Z Z Z Tryz.underlying61 (InfoE.mk (by kernel_rfl)) (hO) (Z) (Z) (.own memH 0 _ (fun j v hv => by simpa using hv)) (by omega) (by rfl) (by omega) (by omega) fun v86 H86 hv86 => ?_
      obtain ⟨A86, c86, rfl, hc86⟩ := hv86.split
      refine R.assign ⟨Z,Z,Z,Z⟩ Z ?_
      refine GOps.nil ?_
      refine GW.region ?_
      refine R.move ⟨Z,Z,Z,Z⟩ Z ?_
      refine R.add (r := (((k + 1) : Nat) : Int)) ⟨Z,Z,Z,Z⟩ Z Z (by rw [wrap64_id (by omega) (by omega)]; omega) ?_
      refine R.assign ⟨Z,Z,Z,Z⟩ Z ?_
      refine GOps.nil ?_
      first | exact ⟨k + 1, (.slice A86 _ c86, H86), (), (), by omega, ⟨by omega, by rw [dd_take_snoc hy, ddStep_yes (by assumption) (by assumption)]; exact hv86.snoc⟩, rfl, keepG, Hs.tl _⟩ | exact ⟨k + 1, (.slice Ao _ co, Ho), (), (), by omega, ⟨by omega, by rw [dd_take_snoc hy, ddStep_no1 (by assumption)]; exact hO⟩, rfl, keepG, Hs.refl _⟩ | exact ⟨k + 1, (.slice Ao _ co, Ho), (), (), by omega, ⟨by omega, by rw [dd_take_snoc hy, ddStep_no2 (by assumption)]; exact hO⟩, rfl, keepG, Hs.refl _⟩
     ·try simp only [dcQ] at hc6
      refine GW.skip ?_
      refine GW.region ?_
      refine R.move ⟨Z,Z,Z,Z⟩ Z ?_
      refine R.add (r := (((k + 1) : Nat) : Int)) ⟨Z,Z,Z,Z⟩ Z Z (by rw [wrap64_id (by omega) (by omega)]; omega) ?_
      refine R.assign ⟨Z,Z,Z,Z⟩ Z ?_
      refine GOps.nil ?_
      first | exact ⟨k + 1, (.slice A86 _ c86, H86), (), (), by omega, ⟨by omega, by rw [dd_take_snoc hy, ddStep_yes (by assumption) (by assumption)]; exact hv86.snoc⟩, rfl, keepG, Hs.tl _⟩ | exact ⟨k + 1, (.slice Ao _ co, Ho), (), (), by omega, ⟨by omega, by rw [dd_take_snoc hy, ddStep_no1 (by assumption)]; exact hO⟩, rfl, keepG, Hs.refl _⟩ | exact ⟨k + 1, (.slice Ao _ co, Ho), (), (), by omega, ⟨by omega, by rw [dd_take_snoc hy, ddStep_no2 (by assumption)]; exact hO⟩, rfl, keepG, Hs.refl _⟩
    ·try simp only [dcQ] at hg5
     refine GOps.skip Z Z Z ?_
     refine GOps.skip Z Z Z ?_
     refine GOps.skip Z Z Z ?_
     refine GOps.skip Z Z Z ?_
     refine GOps.skip Z Z Z ?_
     refine GOps.skip Z Z Z ?_
     refine GOps.skip Z Z Z ?_
     refine GOps.skip Z Z Z ?_
     refine R.pick_f ⟨Z,Z,Z,Z⟩ Z Z ?_
     refine GOps.nil ?_
     refine GW.cond_f Z ?_
     refine GW.skip ?_
     refine GW.region ?_
     refine R.move ⟨Z,Z,Z,Z⟩ Z ?_
     refine R.add (r := (((k + 1) : Nat) : Int)) ⟨Z,Z,Z,Z⟩ Z Z (by rw [wrap64_id (by omega) (by omega)]; omega) ?_
     refine R.assign ⟨Z,Z,Z,Z⟩ Z ?_
     refine GOps.nil ?_
     first | exact ⟨k + 1, (.slice A86 _ c86, H86), (), (), by omega, ⟨by omega, by rw [dd_take_snoc hy, ddStep_yes (by assumption) (by assumption)]; exact hv86.snoc⟩, rfl, keepG, Hs.tl _⟩ | exact ⟨k + 1, (.slice Ao _ co, Ho), (), (), by omega, ⟨by omega, by rw [dd_take_snoc hy, ddStep_no1 (by assumption)]; exact hO⟩, rfl, keepG, Hs.refl _⟩ | exact ⟨k + 1, (.slice Ao _ co, Ho), (), (), by omega, ⟨by omega, by rw [dd_take_snoc hy, ddStep_no2 (by assumption)]; exact hO⟩, rfl, keepG, Hs.refl _⟩
   ·try simp only [dcQ] at hc4
    refine GW.exit ?_
    refine GW.region ?_
    refine R.move ⟨Z,Z,Z,Z⟩ Z ?_
    refine R.add (r := (((i + 1) : Nat) : Int)) ⟨Z,Z,Z,Z⟩ Z Z (by rw [wrap64_id (by omega) (by omega)]; omega) ?_
    refine R.assign ⟨Z,Z,Z,Z⟩ Z ?_
    refine GOps.nil ?_
    exact ⟨i + 1, (vo, Ho), (), (), by omega, ⟨by omega, by rw [List.take_of_length_le (by omega), ← bS_succ hx] at hO; exact hO⟩, rfl, keepG, by first | exact Hs.refl _ | exact Hs.tl _ | exact Hs.tl2 _ _⟩
 ·try simp only [dcQ] at hc1
  obtain rfl : i = body.length := by omega
  refine GW.exit ?_
  refine GW.seq ?_
  refine GW.region ?_
  refine R.move ⟨Z,Z,Z,Z⟩ Z ?_
  refine R.assign ⟨Z,Z,Z,Z⟩ Z ?_
  refine GOps.nil ?_
  exact GW.ret (Out.of (Res.one rfl rfl) (Hs.refl _) ⟨Ho, hO, rfl⟩)
end Go.Proofs.YtfddkcmooommeaaGreatDoor.Gl
end
section
namespace Go.Proofs.YtfddkcmooommeaaGreatDoor.Gl
open Go.RowKit Go.Shelf
set_option linter.unusedVariables false
set_option linter.unnecessarySimpa false
set_option linter.unusedSimpArgs false
attribute [-simp] List.getD_eq_getElem?_getD
structure Qr where
 ask : Bool
 dis : Bool
 vars : List ByteArray
 body : List Lt
def QrC (q : Qr) (v b : Value) : List Value := [.bool q.ask, .bool q.dis, v, b]
def QrOk (q : Qr) : Prop := (∀ v ∈ q.vars, v.size ≤ 1048576) ∧ ∀ l ∈ q.body, LtOk l
def headQ (q : Qr) : Bool := decide (1 ≤ q.body.length) && (decide (q.body.length ≤ 64) && (decide (q.vars.length ≤ 32) && ((q.ask != decide (0 < q.vars.length)) && !(q.ask && q.dis))))
def partQ (l : Lt) : Bool := mayLt l && !decide (l.kind = 2)
def okV (f : ByteArray → Bool) : List ByteArray → List ByteArray → Bool
 | _, [] => true
 | acc, v :: vs => (f v && !inB acc v) && okV f (acc ++ [v]) vs
theorem okV_snoc (f : ByteArray → Bool) (v : ByteArray) : ∀ (vs acc : List ByteArray), okV f acc (vs ++ [v]) = (okV f acc vs && (f v && !inB (acc ++ vs) v))
 | [], acc => by simp [okV]
 | x :: vs, acc => by
  show ((f x && !inB acc x) && okV f (acc ++ [x]) (vs ++ [v])) = _
  rw [okV_snoc f v vs (acc ++ [x])]
  simp [okV, Bool.and_assoc]
theorem okV_take {f : ByteArray → Bool} {vs : List ByteArray} {j : Nat} {v : ByteArray} (h : vs[j]? = some v) : okV f [] (vs.take (j + 1)) = (okV f [] (vs.take j) && (f v && !inB (vs.take j) v)) := by
 rw [List.take_add_one, h]
 exact okV_snoc f v _ []
theorem okV_no (f : ByteArray → Bool) {vs : List ByteArray} {j : Nat} {v : ByteArray} (h : vs[j]? = some v) (hf : (f v && !inB (vs.take j) v) = false) : okV f [] vs = false := by
 have hm : ∀ (l r : List ByteArray) (acc : List ByteArray), okV f acc l = false → okV f acc (l ++ r) = false := by
  intro l
  induction l with
  | nil => intro r acc h; simp [okV] at h
  | cons x l ih =>
   intro r acc h
   show ((f x && !inB acc x) && okV f (acc ++ [x]) (l ++ r)) = false
   have h' : ((f x && !inB acc x) && okV f (acc ++ [x]) l) = false := h
   cases e : (f x && !inB acc x) with
   | false => rfl
   | true =>
    rw [e, Bool.true_and] at h'
    rw [Bool.true_and]
    exact ih r _ h'
 have h1 := hm (vs.take (j + 1)) (vs.drop (j + 1)) [] (by rw [okV_take h, hf, Bool.and_false])
 rwa [List.take_append_drop] at h1
def mayQ (q : Qr) : Bool := headQ q && (q.body.all partQ && ((dd (bS q.body q.body.length)).all (memT q.body q.body.length) && okV (memT q.body q.body.length) [] q.vars))
theorem mayQ_1 {q : Qr} (h : headQ q = false) : mayQ q = false := by unfold mayQ; rw [h]; rfl
theorem mayQ_2 {q : Qr} {i : Nat} {x : Lt} (hx : q.body[i]? = some x) (h : partQ x = false) : mayQ q = false := by
 have : q.body.all partQ = false := by
  rw [List.all_eq_false]
  exact ⟨x, List.mem_of_getElem? hx, by rw [h]; simp⟩
 unfold mayQ
 rw [this]
 simp
theorem mayQ_3 {q : Qr} {i : Nat} {y : ByteArray} (hy : (dd (bS q.body q.body.length))[i]? = some y) (h : memT q.body q.body.length y = false) : mayQ q = false := by
 have : (dd (bS q.body q.body.length)).all (memT q.body q.body.length) = false := by
  rw [List.all_eq_false]
  exact ⟨y, List.mem_of_getElem? hy, by rw [h]; simp⟩
 unfold mayQ
 rw [this]
 simp
theorem mayQ_4 {q : Qr} {i : Nat} {y : ByteArray} (hy : q.vars[i]? = some y) (h : (memT q.body q.body.length y && !inB (q.vars.take i) y) = false) : mayQ q = false := by
 unfold mayQ
 rw [okV_no _ hy h]
 simp
theorem mayQ_5 {q : Qr} (h1 : headQ q = true) (h2 : q.body.all partQ = true) (h3 : (dd (bS q.body q.body.length)).all (memT q.body q.body.length) = true) (h4 : okV (memT q.body q.body.length) [] q.vars = true) : mayQ q = true := by
 unfold mayQ
 rw [h1, h2, h3, h4]
 rfl
theorem part_no1 {l : Lt} (h : (if mayLt l = true then (0 : Int) else 2) ≠ 0) : partQ l = false := by
 unfold partQ
 cases e : mayLt l with
 | true => rw [e] at h; simp at h
 | false => rfl
theorem part_no2 {l : Lt} (h : l.kind = 2) : partQ l = false := by
 unfold partQ
 rw [h]
 simp
theorem find_anyI (ks : List ByteArray) (k : ByteArray) : ∃ rr, Instr.findNow .string (.string k) (entriesOfI ks).toList 0 = some rr ∧ hit (.int .i64 0) rr = .int .i64 (if inB ks k = true then 1 else 0) := by
 cases h : inB ks k with
 | false => exact ⟨_, find_noI h, rfl⟩
 | true => obtain ⟨j, _, h2⟩ := find_yesI h; exact ⟨_, h2, rfl⟩
theorem one_ne {b : Bool} : ((if b = true then (1 : Int) else 0) = 0) ↔ b = false := by cases b <;> simp
theorem one_gt {b : Bool} : ((if b = true then (1 : Int) else 0) > 0) ↔ b = true := by cases b <;> simp
theorem Hs.keyOn {ks : List ByteArray} {j : Nat} {y : ByteArray} (h : ks[j]? = some y) {b : Nat} (R : Hp) : Hs ((b, emapI (ks.take j ++ [y])) :: R) ((b, emapI (ks.take (j + 1))) :: R) := by
 rw [List.take_add_one, h]
 exact Hs.refl _
theorem part_if {l : Lt} : ¬ (if mayLt l = true then (0 : Int) else 2) ≠ 0 ↔ mayLt l = true := by cases mayLt l <;> simp
theorem q_May (w0 : World) (G : Hp) (q : Qr) (vA bA : Option Addr) (vc bc : Nat) (hv : StAt w0 G vA q.vars) (hl : LtsAt w0 G bA q.body) (hvm : q.vars.length ≤ 1048576) (hbm : q.body.length ≤ 1048576) (hok : QrOk q) : GC Tryz.prog w0 42 #[.agg (QrC q (.slice vA q.vars.length vc) (.slice bA q.body.length bc)).toArray] (fun v G' => v = .bool (mayQ q) ∧ G = G') G := by
 refine GC.body (args := [.agg (QrC q (.slice vA q.vars.length vc) (.slice bA q.body.length bc)).toArray]) Tryz.func42 rfl (by kernel_rfl) rfl ?_
 refine GW.seq ?_
 refine GW.region ?_
 refine R.box ⟨Z,Z,Z,Z⟩ Z fun b1 => ?_
 refine R.assign ⟨Z,Z,Z,Z⟩ Z ?_
 refine GOps.nil ?_
 refine GW.seq ?_
 refine GW.cutS 45 (!headQ q) [(1, .pointer (some ⟨b1, 0, none⟩))] ?_ ?_
 ·refine R.fieldAddr ⟨Z,Z,Z,Z⟩ Z Tryz.underlying81 Z Tryz.sizeOf29 ?_
  refine R.load1 ⟨Z,Z,Z,Z⟩ Z Tryz.underlying29 Z (.own memH Z) ?_
  refine R.lenS ⟨Z,Z,Z,Z⟩ Z Z Tryz.underlying29 ?_
  refine R.lss ⟨Z,Z,Z,Z⟩ Z Z ?_
  refine R.move ⟨Z,Z,Z,Z⟩ Z ?_
  refine GOps.caseB 17 Z (fun hg1 => ?_) (fun hg1 => ?_)
  ·try simp only [dcQ] at hg1
   refine GOps.skip Z Z Z ?_
   refine GOps.skip Z Z Z ?_
   refine GOps.skip Z Z Z ?_
   refine GOps.skip Z Z Z ?_
   refine R.pick_t ⟨Z,Z,Z,Z⟩ Z Z ?_
   refine R.move ⟨Z,Z,Z,Z⟩ Z ?_
   refine GOps.skip Z Z Z ?_
   refine GOps.skip Z Z Z ?_
   refine GOps.skip Z Z Z ?_
   refine GOps.skip Z Z Z ?_
   refine R.pick_t ⟨Z,Z,Z,Z⟩ Z Z ?_
   refine R.move ⟨Z,Z,Z,Z⟩ Z ?_
   refine GOps.skip Z Z Z ?_
   refine GOps.skip Z Z Z ?_
   refine GOps.skip Z Z Z ?_
   refine GOps.skip Z Z Z ?_
   refine GOps.skip Z Z Z ?_
   refine GOps.skip Z Z Z ?_
   refine GOps.skip Z Z Z ?_
   refine R.pick_t ⟨Z,Z,Z,Z⟩ Z Z ?_
   refine R.move ⟨Z,Z,Z,Z⟩ Z ?_
   refine GOps.skip Z Z Z ?_
   refine GOps.skip Z Z Z ?_
   refine GOps.skip Z Z Z ?_
   refine GOps.skip Z Z Z ?_
   refine GOps.skip Z Z Z ?_
   refine GOps.skip Z Z Z ?_
   refine R.pick_t ⟨Z,Z,Z,Z⟩ Z Z ?_
   refine GOps.nil ?_
   exact ⟨rfl, rfl, keepG, by first | exact Hs.refl _ | exact Hs.tl _, vbs (by unfold headQ; cases ha : q.ask <;> cases hd : q.dis <;> by_cases hz : 0 < q.vars.length <;> simp_all <;> (try rw [← List.length_eq_zero_iff]) <;> omega)⟩
  ·try simp only [dcQ] at hg1
   refine R.fieldAddr ⟨Z,Z,Z,Z⟩ Z Tryz.underlying81 Z Tryz.sizeOf29 ?_
   refine R.load1 ⟨Z,Z,Z,Z⟩ Z Tryz.underlying29 Z (.own memH Z) ?_
   refine R.lenS ⟨Z,Z,Z,Z⟩ Z Z Tryz.underlying29 ?_
   refine R.gtr ⟨Z,Z,Z,Z⟩ Z Z ?_
   refine R.pick_f ⟨Z,Z,Z,Z⟩ Z Z ?_
   refine R.move ⟨Z,Z,Z,Z⟩ Z ?_
   refine GOps.caseB 23 Z (fun hg2 => ?_) (fun hg2 => ?_)
   ·try simp only [dcQ] at hg2
    refine GOps.skip Z Z Z ?_
    refine GOps.skip Z Z Z ?_
    refine GOps.skip Z Z Z ?_
    refine GOps.skip Z Z Z ?_
    refine R.pick_t ⟨Z,Z,Z,Z⟩ Z Z ?_
    refine R.move ⟨Z,Z,Z,Z⟩ Z ?_
    refine GOps.skip Z Z Z ?_
    refine GOps.skip Z Z Z ?_
    refine GOps.skip Z Z Z ?_
    refine GOps.skip Z Z Z ?_
    refine GOps.skip Z Z Z ?_
    refine GOps.skip Z Z Z ?_
    refine GOps.skip Z Z Z ?_
    refine R.pick_t ⟨Z,Z,Z,Z⟩ Z Z ?_
    refine R.move ⟨Z,Z,Z,Z⟩ Z ?_
    refine GOps.skip Z Z Z ?_
    refine GOps.skip Z Z Z ?_
    refine GOps.skip Z Z Z ?_
    refine GOps.skip Z Z Z ?_
    refine GOps.skip Z Z Z ?_
    refine GOps.skip Z Z Z ?_
    refine R.pick_t ⟨Z,Z,Z,Z⟩ Z Z ?_
    refine GOps.nil ?_
    exact ⟨rfl, rfl, keepG, by first | exact Hs.refl _ | exact Hs.tl _, vbs (by unfold headQ; cases ha : q.ask <;> cases hd : q.dis <;> by_cases hz : 0 < q.vars.length <;> simp_all <;> (try rw [← List.length_eq_zero_iff]) <;> omega)⟩
   ·try simp only [dcQ] at hg2
    refine R.fieldAddr ⟨Z,Z,Z,Z⟩ Z Tryz.underlying81 Z Tryz.sizeOf61 ?_
    refine R.load1 ⟨Z,Z,Z,Z⟩ Z Tryz.underlying61 Z (.own memH Z) ?_
    refine R.lenS ⟨Z,Z,Z,Z⟩ Z Z Tryz.underlying61 ?_
    refine R.gtr ⟨Z,Z,Z,Z⟩ Z Z ?_
    refine R.pick_f ⟨Z,Z,Z,Z⟩ Z Z ?_
    refine R.move ⟨Z,Z,Z,Z⟩ Z ?_
    refine GOps.caseB 29 Z (fun hg3 => ?_) (fun hg3 => ?_)
    ·try simp only [dcQ] at hg3
     refine GOps.skip Z Z Z ?_
     refine GOps.skip Z Z Z ?_
     refine GOps.skip Z Z Z ?_
     refine GOps.skip Z Z Z ?_
     refine GOps.skip Z Z Z ?_
     refine GOps.skip Z Z Z ?_
     refine GOps.skip Z Z Z ?_
     refine R.pick_t ⟨Z,Z,Z,Z⟩ Z Z ?_
     refine R.move ⟨Z,Z,Z,Z⟩ Z ?_
     refine GOps.skip Z Z Z ?_
     refine GOps.skip Z Z Z ?_
     refine GOps.skip Z Z Z ?_
     refine GOps.skip Z Z Z ?_
     refine GOps.skip Z Z Z ?_
     refine GOps.skip Z Z Z ?_
     refine R.pick_t ⟨Z,Z,Z,Z⟩ Z Z ?_
     refine GOps.nil ?_
     exact ⟨rfl, rfl, keepG, by first | exact Hs.refl _ | exact Hs.tl _, vbs (by unfold headQ; cases ha : q.ask <;> cases hd : q.dis <;> by_cases hz : 0 < q.vars.length <;> simp_all <;> (try rw [← List.length_eq_zero_iff]) <;> omega)⟩
    ·try simp only [dcQ] at hg3
     refine R.fieldAddr ⟨Z,Z,Z,Z⟩ Z Tryz.underlying81 Z Tryz.sizeOf4 ?_
     refine R.load1 ⟨Z,Z,Z,Z⟩ Z Tryz.underlying4 Z (.own (v := .bool q.ask) memH Z) ?_
     refine R.fieldAddr ⟨Z,Z,Z,Z⟩ Z Tryz.underlying81 Z Tryz.sizeOf61 ?_
     refine R.load1 ⟨Z,Z,Z,Z⟩ Z Tryz.underlying61 Z (.own memH Z) ?_
     refine R.lenS ⟨Z,Z,Z,Z⟩ Z Z Tryz.underlying61 ?_
     refine R.gtr ⟨Z,Z,Z,Z⟩ Z Z ?_
     refine R.eqB ⟨Z,Z,Z,Z⟩ Z Z Tryz.underlying4 ?_
     refine R.pick_f ⟨Z,Z,Z,Z⟩ Z Z ?_
     refine R.move ⟨Z,Z,Z,Z⟩ Z ?_
     refine GOps.caseB 38 Z (fun hg4 => ?_) (fun hg4 => ?_)
     ·try simp only [dcQ] at hg4
      refine GOps.skip Z Z Z ?_
      refine GOps.skip Z Z Z ?_
      refine GOps.skip Z Z Z ?_
      refine GOps.skip Z Z Z ?_
      refine GOps.skip Z Z Z ?_
      refine GOps.skip Z Z Z ?_
      refine R.pick_t ⟨Z,Z,Z,Z⟩ Z Z ?_
      refine GOps.nil ?_
      exact ⟨rfl, rfl, keepG, by first | exact Hs.refl _ | exact Hs.tl _, vbs (by unfold headQ; cases ha : q.ask <;> cases hd : q.dis <;> by_cases hz : 0 < q.vars.length <;> simp_all <;> (try rw [← List.length_eq_zero_iff]) <;> omega)⟩
     ·try simp only [dcQ] at hg4
      refine R.fieldAddr ⟨Z,Z,Z,Z⟩ Z Tryz.underlying81 Z Tryz.sizeOf4 ?_
      refine R.load1 ⟨Z,Z,Z,Z⟩ Z Tryz.underlying4 Z (.own (v := .bool q.ask) memH Z) ?_
      refine R.move ⟨Z,Z,Z,Z⟩ Z ?_
      refine GOps.caseB 41 Z (fun hg5 => ?_) (fun hg5 => ?_)
      ·try simp only [dcQ] at hg5
       refine R.fieldAddr ⟨Z,Z,Z,Z⟩ Z Tryz.underlying81 Z Tryz.sizeOf4 ?_
       refine R.load1 ⟨Z,Z,Z,Z⟩ Z Tryz.underlying4 Z (.own (v := .bool q.dis) memH Z) ?_
       refine R.pick_t ⟨Z,Z,Z,Z⟩ Z Z ?_
       refine R.pick_f ⟨Z,Z,Z,Z⟩ Z Z ?_
       refine GOps.nil ?_
       exact ⟨rfl, rfl, keepG, by first | exact Hs.refl _ | exact Hs.tl _, vbs (by unfold headQ; cases ha : q.ask <;> cases hd : q.dis <;> by_cases hz : 0 < q.vars.length <;> simp_all <;> (try rw [← List.length_eq_zero_iff]) <;> omega)⟩
      ·try simp only [dcQ] at hg5
       refine GOps.skip Z Z Z ?_
       refine GOps.skip Z Z Z ?_
       refine R.pick_f ⟨Z,Z,Z,Z⟩ Z Z ?_
       refine R.pick_f ⟨Z,Z,Z,Z⟩ Z Z ?_
       refine GOps.nil ?_
       exact ⟨rfl, rfl, keepG, by first | exact Hs.refl _ | exact Hs.tl _, vbs (by unfold headQ; cases ha : q.ask <;> cases hd : q.dis <;> by_cases hz : 0 < q.vars.length <;> simp_all <;> (try rw [← List.length_eq_zero_iff]) <;> omega)⟩
 ·refine GW.ite Z (fun hc6 => ?_) (fun hc6 => ?_)
  ·try simp only [dcQ] at hc6
   replace hc6 : headQ q = false := by simpa using hc6
   have hmq := mayQ_1 hc6
   refine GW.seq ?_
   refine GW.region ?_
   refine R.assign ⟨Z,Z,Z,Z⟩ Z ?_
   refine GOps.nil ?_
   exact GW.ret (Out.of (Res.one rfl rfl) (by exact Hs.sub subG) ⟨by rw [hmq], rfl⟩)
  ·try simp only [dcQ] at hc6
   replace hc6 : headQ q = true := by simpa using hc6
   refine GW.skip ?_
   refine GW.seq ?_
   refine GW.seq ?_
   refine GW.region ?_
   refine R.fieldAddr ⟨Z,Z,Z,Z⟩ Z Tryz.underlying81 Z Tryz.sizeOf29 ?_
   refine R.load1 ⟨Z,Z,Z,Z⟩ Z Tryz.underlying29 Z (.own memH Z) ?_
   refine R.lenS ⟨Z,Z,Z,Z⟩ Z Z Tryz.underlying29 ?_
   refine R.move ⟨Z,Z,Z,Z⟩ Z ?_
   refine GOps.nil ?_
   refine GW.block ?_
   refine GW.loopI (fun i : Nat => [(1, .pointer (some ⟨b1, 0, none⟩)), (47, .slice bA q.body.length bc), (48, .int .i64 q.body.length), (49, .int .i64 i)]) (fun i => (b1, .exact (.cells (Value.agg (QrC q (.slice vA q.vars.length vc) (.slice bA q.body.length bc)).toArray).cells 81 (0, 0))) :: G) (fun i => q.body.length - i) (fun i => i ≤ q.body.length ∧ (q.body.take i).all partQ = true) 0
    (keepG) (Hs.refl _) (⟨Nat.zero_le _, by simp⟩) ?_
   rintro i ⟨hi, h0⟩
   refine GW.seq ?_
   refine GW.region ?_
   refine R.lss ⟨Z,Z,Z,Z⟩ Z Z ?_
   refine GOps.nil ?_
   refine GW.seq ?_
   refine GW.ite Z (fun hc7 => ?_) (fun hc7 => ?_)
   ·try simp only [dcQ] at hc7
    obtain ⟨x, hx⟩ : ∃ x, q.body[i]? = some x := ⟨_, List.getElem?_eq_getElem (by omega)⟩
    obtain ⟨xb, xo, cs0, rfl, rfl, hrd⟩ := hl i x hx
    have hxo := hok.2 x (List.mem_of_getElem? hx)
    refine GW.skip ?_
    refine GW.seq ?_
    refine GW.block ?_
    refine GW.seq ?_
    refine GW.region ?_
    refine R.indexAddrS ⟨Z,Z,Z,Z⟩ Z Z Tryz.underlying29 Tryz.sizeOf89 (by omega) (by omega) ?_
    refine R.loadA ⟨Z,Z,Z,Z⟩ Z Tryz.underlying89 Z Tryz.sizeOf89 (hrd.mono (fun y hy => by repeat (first | exact hy | apply List.mem_cons_of_mem | apply List.mem_append_right))) (by rfl) ?_
    refine R.alloc ⟨Z,Z,Z,Z⟩ Tryz.zeroValue89 fun b4 => ?_
    refine R.storeAll (G1 := []) Z Z Z Z Z Tryz.sizeOf89 Z Z Z Z ?_
    refine GOps.nil ?_
    refine GW.seq ?_
    refine GW.region ?_
    refine R.load_own (cs := LtC x) ⟨Z,Z,Z,Z⟩ Z Tryz.underlying89 Z Tryz.sizeOf89 memG (by rfl) (by rfl) ?_
    refine R.call ⟨Z,Z,Z,Z⟩ Z (vs := [_]) Z ((rules_PartText _ _ x hxo).mono ?_)
    rintro _ _ ⟨u, rfl, rfl⟩
    refine R.move ⟨Z,Z,Z,Z⟩ Z ?_
    refine R.extract ⟨Z,Z,Z,Z⟩ Z Z ?_
    refine R.extract ⟨Z,Z,Z,Z⟩ Z Z ?_
    refine R.assign ⟨Z,Z,Z,Z⟩ Z ?_
    refine R.assign ⟨Z,Z,Z,Z⟩ Z ?_
    refine GOps.nil ?_
    refine GW.seq ?_
    refine GW.region ?_
    refine R.move ⟨Z,Z,Z,Z⟩ Z ?_
    refine R.neI ⟨Z,Z,Z,Z⟩ Z Z ?_
    refine R.move ⟨Z,Z,Z,Z⟩ Z ?_
    refine GOps.caseB 60 Z (fun hg8 => ?_) (fun hg8 => ?_)
    ·try simp only [dcQ] at hg8
     have hmq := mayQ_2 hx (part_no1 hg8)
     refine GOps.skip Z Z Z ?_
     refine GOps.skip Z Z Z ?_
     refine GOps.skip Z Z Z ?_
     refine R.pick_t ⟨Z,Z,Z,Z⟩ Z Z ?_
     refine GOps.nil ?_
     refine GW.cond_t Z ?_
     refine GW.seq ?_
     refine GW.region ?_
     refine R.assign ⟨Z,Z,Z,Z⟩ Z ?_
     refine GOps.nil ?_
     exact GW.ret (Out.of (Res.one rfl rfl) (by exact Hs.sub subG) ⟨by rw [hmq], rfl⟩)
    ·try simp only [dcQ] at hg8
     refine R.fieldAddr ⟨Z,Z,Z,Z⟩ Z Tryz.underlying89 Z Tryz.sizeOf87 ?_
     refine R.load1 ⟨Z,Z,Z,Z⟩ Z Tryz.underlying87 Z (.own (v := .int .i64 x.kind) memH Z) ?_
     refine R.eqI ⟨Z,Z,Z,Z⟩ Z Z ?_
     refine R.pick_f ⟨Z,Z,Z,Z⟩ Z Z ?_
     refine GOps.nil ?_
     refine GW.ite Z (fun hc9 => ?_) (fun hc9 => ?_)
     ·try simp only [dcQ] at hc9
      have hmq := mayQ_2 hx (part_no2 hc9)
      refine GW.seq ?_
      refine GW.region ?_
      refine R.assign ⟨Z,Z,Z,Z⟩ Z ?_
      refine GOps.nil ?_
      exact GW.ret (Out.of (Res.one rfl rfl) (by exact Hs.sub subG) ⟨by rw [hmq], rfl⟩)
     ·try simp only [dcQ] at hc9
      refine GW.skip ?_
      refine GW.region ?_
      refine R.add (r := (((i + 1) : Nat) : Int)) ⟨Z,Z,Z,Z⟩ Z Z (by rw [wrap64_id (by omega) (by omega)]; omega) ?_
      refine R.move ⟨Z,Z,Z,Z⟩ Z ?_
      refine GOps.nil ?_
      exact ⟨i + 1, by omega, ⟨by omega, all_take_succ partQ q.body i x hx h0 (by unfold partQ; rw [part_if.1 (by assumption)]; simp; omega)⟩, rfl, keepG, by first | exact Hs.refl _ | exact Hs.tl _ | exact Hs.tl2 _ _⟩
   ·try simp only [dcQ] at hc7
    rw [List.take_of_length_le (by omega)] at h0
    refine GW.exit ?_
    refine GW.seq ?_
    refine GW.region ?_
    refine R.fieldAddr ⟨Z,Z,Z,Z⟩ Z Tryz.underlying81 Z Tryz.sizeOf29 ?_
    refine R.load1 ⟨Z,Z,Z,Z⟩ Z Tryz.underlying29 Z (.own memH Z) ?_
    refine R.call ⟨Z,Z,Z,Z⟩ Z (vs := [_]) Z ((q_bound _ _ bA q.body bc (hl.mono (fun y hy => by repeat (first | exact hy | apply List.mem_cons_of_mem | apply List.mem_append_right))) hbm).mono ?_)
    rintro _ _ ⟨bm, ks, ⟨rfl, hK⟩, rfl⟩
    refine R.makeMap ⟨Z,Z,Z,Z⟩ fun b69 => ?_
    refine R.assign ⟨Z,Z,Z,Z⟩ Z ?_
    refine R.assign ⟨Z,Z,Z,Z⟩ Z ?_
    refine GOps.nil ?_
    refine GW.seq ?_
    refine GW.seq ?_
    refine GW.region ?_
    refine R.fieldAddr ⟨Z,Z,Z,Z⟩ Z Tryz.underlying81 Z Tryz.sizeOf29 ?_
    refine R.load1 ⟨Z,Z,Z,Z⟩ Z Tryz.underlying29 Z (.own memH Z) ?_
    refine R.call ⟨Z,Z,Z,Z⟩ Z (vs := [_]) Z ((rules_Vars _ _ bA q.body bc (hl.mono (fun y hy => by repeat (first | exact hy | apply List.mem_cons_of_mem | apply List.mem_append_right))) hbm).mono ?_)
    rintro v72 _ ⟨H72, h72, rfl⟩
    obtain ⟨Av, cv, rfl, hvs⟩ := h72.strs w0 []
    rw [List.append_nil] at hvs
    have hdl := dd_len (bS q.body q.body.length)
    have hbl := bS_len q.body q.body.length
    refine R.lenS ⟨Z,Z,Z,Z⟩ Z Z Tryz.underlying61 ?_
    refine R.move ⟨Z,Z,Z,Z⟩ Z ?_
    refine GOps.nil ?_
    refine GW.block ?_
    refine GW.loopI (fun j : Nat => [(1, .pointer (some ⟨b1, 0, none⟩)), (7, .map (some bm)), (8, .map (some b69)), (72, .slice Av (dd (bS q.body q.body.length)).length cv), (73, .int .i64 (dd (bS q.body q.body.length)).length), (74, .int .i64 j)]) (fun j => H72 ++ ((b69, emapI []) :: (bm, emapI ks) :: (b1, .exact (.cells (Value.agg (QrC q (.slice vA q.vars.length vc) (.slice bA q.body.length bc)).toArray).cells 81 (0, 0))) :: G)) (fun j => (dd (bS q.body q.body.length)).length - j) (fun j => j ≤ (dd (bS q.body q.body.length)).length ∧ ((dd (bS q.body q.body.length)).take j).all (memT q.body q.body.length) = true) 0
     (keepG) (Hs.refl _) (⟨Nat.zero_le _, by simp⟩) ?_
    rintro j ⟨hj, h2⟩
    refine GW.seq ?_
    refine GW.region ?_
    refine R.lss ⟨Z,Z,Z,Z⟩ Z Z ?_
    refine GOps.nil ?_
    refine GW.seq ?_
    refine GW.ite Z (fun hc10 => ?_) (fun hc10 => ?_)
    ·try simp only [dcQ] at hc10
     obtain ⟨y, hy⟩ : ∃ y, (dd (bS q.body q.body.length))[j]? = some y := ⟨_, List.getElem?_eq_getElem (by omega)⟩
     obtain ⟨yb, yo, rfl, hyr⟩ := str_load hvs hy
     obtain ⟨r1, hr1, hr2⟩ := find_anyI ks y
     refine GW.skip ?_
     refine GW.seq ?_
     refine GW.block ?_
     refine GW.seq ?_
     refine GW.region ?_
     refine R.indexAddrS ⟨Z,Z,Z,Z⟩ Z Z Tryz.underlying61 Tryz.sizeOf9 (by omega) (by omega) ?_
     refine R.load1 ⟨Z,Z,Z,Z⟩ Z Tryz.underlying9 Z (hyr.mono (fun y hy => by repeat (first | exact List.mem_append_left _ hy | exact hy | apply List.mem_cons_of_mem | apply List.mem_append_right))) ?_
     refine R.assign ⟨Z,Z,Z,Z⟩ Z ?_
     refine GOps.nil ?_
     refine GW.seq ?_
     refine GW.region ?_
     refine R.move ⟨Z,Z,Z,Z⟩ Z ?_
     refine R.move ⟨Z,Z,Z,Z⟩ Z ?_
     refine R.lookup (r := _) (v := _) ⟨Z,Z,Z,Z⟩ Z Z Tryz.underlying142 Tryz.underlying9 Z Tryz.zeroValue3 memH (hr1) (hr2) ?_
     refine R.eqI ⟨Z,Z,Z,Z⟩ Z Z ?_
     refine GOps.nil ?_
     refine GW.ite Z (fun hc11 => ?_) (fun hc11 => ?_)
     ·try simp only [dcQ] at hc11
      have hmq := mayQ_3 hy (by rw [← hK]; exact one_ne.1 hc11)
      refine GW.seq ?_
      refine GW.region ?_
      refine R.assign ⟨Z,Z,Z,Z⟩ Z ?_
      refine GOps.nil ?_
      exact GW.ret (Out.of (Res.one rfl rfl) (by exact Hs.sub subG) ⟨by rw [hmq], rfl⟩)
     ·try simp only [dcQ] at hc11
      refine GW.skip ?_
      refine GW.region ?_
      refine R.add (r := (((j + 1) : Nat) : Int)) ⟨Z,Z,Z,Z⟩ Z Z (by rw [wrap64_id (by omega) (by omega)]; omega) ?_
      refine R.move ⟨Z,Z,Z,Z⟩ Z ?_
      refine GOps.nil ?_
      exact ⟨j + 1, by omega, ⟨by omega, all_take_succ (memT q.body q.body.length) (dd (bS q.body q.body.length)) j y hy h2 (by rw [← hK]; cases e : inB ks y with | true => rfl | false => exact absurd (one_ne.2 e) (by assumption))⟩, rfl, keepG, by first | exact Hs.refl _ | exact Hs.tl _ | exact Hs.tl2 _ _⟩
    ·try simp only [dcQ] at hc10
     rw [List.take_of_length_le (by omega)] at h2
     refine GW.exit ?_
     refine GW.seq ?_
     refine GW.seq ?_
     refine GW.region ?_
     refine R.fieldAddr ⟨Z,Z,Z,Z⟩ Z Tryz.underlying81 Z Tryz.sizeOf61 ?_
     refine R.load1 ⟨Z,Z,Z,Z⟩ Z Tryz.underlying61 Z (.own memH Z) ?_
     refine R.lenS ⟨Z,Z,Z,Z⟩ Z Z Tryz.underlying61 ?_
     refine R.move ⟨Z,Z,Z,Z⟩ Z ?_
     refine GOps.nil ?_
     refine GW.block ?_
     refine GW.loopI (fun j : Nat => [(7, .map (some bm)), (8, .map (some b69)), (84, .slice vA q.vars.length vc), (85, .int .i64 q.vars.length), (86, .int .i64 j)]) (fun j => (b69, emapI (q.vars.take j)) :: (bm, emapI ks) :: (b1, .exact (.cells (Value.agg (QrC q (.slice vA q.vars.length vc) (.slice bA q.body.length bc)).toArray).cells 81 (0, 0))) :: G) (fun j => q.vars.length - j) (fun j => j ≤ q.vars.length ∧ okV (memT q.body q.body.length) [] (q.vars.take j) = true) 0
      (keepG) (Hs.app _) (⟨Nat.zero_le _, by simp [okV]⟩) ?_
     rintro j ⟨hj, h3⟩
     refine GW.seq ?_
     refine GW.region ?_
     refine R.lss ⟨Z,Z,Z,Z⟩ Z Z ?_
     refine GOps.nil ?_
     refine GW.seq ?_
     refine GW.ite Z (fun hc12 => ?_) (fun hc12 => ?_)
     ·try simp only [dcQ] at hc12
      obtain ⟨y, hy⟩ : ∃ y, q.vars[j]? = some y := ⟨_, List.getElem?_eq_getElem (by omega)⟩
      obtain ⟨yb, yo, rfl, hyr⟩ := str_load hv hy
      obtain ⟨r1, hr1, hr2⟩ := find_anyI ks y
      obtain ⟨s1, hs1, hs2⟩ := find_anyI (q.vars.take j) y
      refine GW.skip ?_
      refine GW.seq ?_
      refine GW.block ?_
      refine GW.seq ?_
      refine GW.region ?_
      refine R.indexAddrS ⟨Z,Z,Z,Z⟩ Z Z Tryz.underlying61 Tryz.sizeOf9 (by omega) (by omega) ?_
      refine R.load1 ⟨Z,Z,Z,Z⟩ Z Tryz.underlying9 Z (hyr.mono (fun y hy => by repeat (first | exact List.mem_append_left _ hy | exact hy | apply List.mem_cons_of_mem | apply List.mem_append_right))) ?_
      refine R.assign ⟨Z,Z,Z,Z⟩ Z ?_
      refine GOps.nil ?_
      refine GW.seq ?_
      refine GW.seq ?_
      refine GW.region ?_
      refine R.move ⟨Z,Z,Z,Z⟩ Z ?_
      refine R.move ⟨Z,Z,Z,Z⟩ Z ?_
      refine R.lookup (r := _) (v := _) ⟨Z,Z,Z,Z⟩ Z Z Tryz.underlying142 Tryz.underlying9 Z Tryz.zeroValue3 memH (hr1) (hr2) ?_
      refine R.eqI ⟨Z,Z,Z,Z⟩ Z Z ?_
      refine R.move ⟨Z,Z,Z,Z⟩ Z ?_
      refine GOps.caseB 94 Z (fun hg13 => ?_) (fun hg13 => ?_)
      ·try simp only [dcQ] at hg13
       have hmq := mayQ_4 hy (by rw [← hK, one_ne.1 hg13]; rfl)
       refine GOps.skip Z Z Z ?_
       refine GOps.skip Z Z Z ?_
       refine GOps.skip Z Z Z ?_
       refine GOps.skip Z Z Z ?_
       refine R.pick_t ⟨Z,Z,Z,Z⟩ Z Z ?_
       refine GOps.nil ?_
       refine GW.cond_t Z ?_
       refine GW.seq ?_
       refine GW.region ?_
       refine R.assign ⟨Z,Z,Z,Z⟩ Z ?_
       refine GOps.nil ?_
       exact GW.ret (Out.of (Res.one rfl rfl) (by exact Hs.sub subG) ⟨by rw [hmq], rfl⟩)
      ·try simp only [dcQ] at hg13
       refine R.move ⟨Z,Z,Z,Z⟩ Z ?_
       refine R.move ⟨Z,Z,Z,Z⟩ Z ?_
       refine R.lookup (r := _) (v := _) ⟨Z,Z,Z,Z⟩ Z Z Tryz.underlying142 Tryz.underlying9 Z Tryz.zeroValue3 memH (hs1) (hs2) ?_
       refine R.gtr ⟨Z,Z,Z,Z⟩ Z Z ?_
       refine R.pick_f ⟨Z,Z,Z,Z⟩ Z Z ?_
       refine GOps.nil ?_
       refine GW.ite Z (fun hc14 => ?_) (fun hc14 => ?_)
       ·try simp only [dcQ] at hc14
        have hmq := mayQ_4 hy (by rw [one_gt.1 hc14]; simp)
        refine GW.seq ?_
        refine GW.region ?_
        refine R.assign ⟨Z,Z,Z,Z⟩ Z ?_
        refine GOps.nil ?_
        exact GW.ret (Out.of (Res.one rfl rfl) (by exact Hs.sub subG) ⟨by rw [hmq], rfl⟩)
       ·try simp only [dcQ] at hc14
        have hn : inB (q.vars.take j) y = false := by rw [← Bool.not_eq_true]; exact fun e => absurd (one_gt.2 e) (by assumption)
        refine GW.skip ?_
        refine GW.region ?_
        refine R.move ⟨Z,Z,Z,Z⟩ Z ?_
        refine R.move ⟨Z,Z,Z,Z⟩ Z ?_
        refine R.putNew (key := .string y) (v := .int .i64 1) (G1 := []) (.inl Z) Z Z Z Z Z Tryz.underlying142 Tryz.underlying9 Z Z (find_noI hn) ?_
        rw [emap_pushI]
        refine GOps.nil ?_
        refine GW.region ?_
        refine R.add (r := (((j + 1) : Nat) : Int)) ⟨Z,Z,Z,Z⟩ Z Z (by rw [wrap64_id (by omega) (by omega)]; omega) ?_
        refine R.move ⟨Z,Z,Z,Z⟩ Z ?_
        refine GOps.nil ?_
        exact ⟨j + 1, by omega, ⟨by omega, by rw [okV_take hy, h3, ← hK]; cases e : inB ks y with | false => exact absurd (one_ne.2 e) (by assumption) | true => rw [hn]; rfl⟩, rfl, keepG, by first | exact Hs.refl _ | exact Hs.tl _ | exact Hs.tl2 _ _ | exact Hs.keyOn hy _⟩
     ·try simp only [dcQ] at hc12
      rw [List.take_of_length_le (by omega)] at h3
      have hmq := mayQ_5 hc6 h0 h2 h3
      refine GW.exit ?_
      refine GW.seq ?_
      refine GW.region ?_
      refine R.assign ⟨Z,Z,Z,Z⟩ Z ?_
      refine GOps.nil ?_
      exact GW.ret (Out.of (Res.one rfl rfl) (by exact Hs.sub subG) ⟨by rw [hmq], rfl⟩)
end Go.Proofs.YtfddkcmooommeaaGreatDoor.Gl
end
