import Derived.Test.YtgjmandjhjfgkaaDoorS13
namespace Go.Proofs.YtgjmandjhjfgkaaDoor.Gl
open Go.RowKit Go.Shelf
set_option linter.unusedVariables false
set_option linter.unnecessarySimpa false
set_option linter.unusedSimpArgs false
attribute [-simp] List.getD_eq_getElem?_getD



theorem slotsOf_cases (l : Lt) : slotsOf l = [l.pat.s0, l.pat.s1, l.pat.s2] ∨ slotsOf l = [l.a, l.b] := by
  unfold slotsOf
  cases (decide (l.kind = 1) || decide (l.kind = 2)) <;> simp
theorem slotsOf_len (l : Lt) : 2 ≤ (slotsOf l).length ∧ (slotsOf l).length ≤ 3 := by rcases slotsOf_cases l with h | h <;> rw [h] <;> simp
theorem flat_len (ss : List Sl) : (ss.flatMap SlC).length = ss.length * 4 := by
  induction ss with
  | nil => rfl
  | cons s ss ih => rw [List.flatMap_cons, List.length_append, ih]; simp [SlC]; omega
theorem flat_get : ∀ (ss : List Sl) (i : Nat) (s : Sl), ss[i]? = some s → ∀ j v, (SlC s)[j]? = some v → (ss.flatMap SlC)[i * 4 + j]? = some v
  | [], i, s, h, _, _, _ => by simp at h
  | t :: ss, 0, s, h, j, v, hv => by
    simp at h
    subst h
    have hj : j < (SlC t).length := (List.getElem?_eq_some_iff.1 hv).1
    rw [List.flatMap_cons, Nat.zero_mul, Nat.zero_add, List.getElem?_append_left hj]
    exact hv
  | t :: ss, i + 1, s, h, j, v, hv => by
    have ih := flat_get ss i s (by simpa using h) j v hv
    rw [List.flatMap_cons, List.getElem?_append_right (by simp [SlC]; omega)]
    have e : (i + 1) * 4 + j - (SlC t).length = i * 4 + j := by simp [SlC]; omega
    rw [e]
    exact ih
theorem slot_cell {q : List Sl} {i : Nat} {y : Sl} {e : TypeId} {n : Nat} (h : q[i]? = some y) : Know.cell (.row (q.flatMap SlC) e n) (0 + (i : Int).toNat * 4 + 0) = some (.string y.v) := by
  have := flat_get q i y h 0 (.string y.v) rfl
  simpa [Know.cell] using this
theorem flat_one (ss : List Sl) : (ss.flatMap SlC).all (·.oneCell') = true := by
  induction ss with
  | nil => rfl
  | cons s ss ih => rw [List.flatMap_cons, List.all_append, ih]; rfl
def allTake (r : Rl) (i : Nat) : List Sl := [r.head.s0, r.head.s1, r.head.s2] ++ (r.body.take i).flatMap slotsOf
def allSlots (r : Rl) : List Sl := allTake r r.body.length
theorem allTake_succ {r : Rl} {i : Nat} {x : Lt} (h : r.body[i]? = some x) : allTake r (i + 1) = allTake r i ++ slotsOf x := by
  unfold allTake
  rw [List.take_add_one, h]
  simp
theorem allTake_len (r : Rl) (i : Nat) : 3 ≤ (allTake r i).length ∧ (allTake r i).length ≤ 3 + 3 * i := by
  unfold allTake
  refine ⟨by simp, ?_⟩
  have h : ∀ l : List Lt, (l.flatMap slotsOf).length ≤ 3 * l.length := by
    intro l
    induction l with
    | nil => simp
    | cons x l ih => have := slotsOf_len x; rw [List.flatMap_cons, List.length_append, List.length_cons]; omega
  have h1 := h (r.body.take i)
  have h2 : (r.body.take i).length ≤ i := by rw [List.length_take]; omega
  rw [List.length_append]
  simp only [List.length_cons, List.length_nil]
  omega
def ddStep (out : List ByteArray) (s : Sl) : List ByteArray := bif (!emp s.v && !inB out s.v) then out ++ [s.v] else out
def dd (q : List Sl) : List ByteArray := q.foldl ddStep []
theorem dd_succ {q : List Sl} {i : Nat} {x : Sl} (h : q[i]? = some x) : dd (q.take (i + 1)) = ddStep (dd (q.take i)) x := by
  unfold dd
  rw [List.take_add_one, h, List.foldl_append]
  rfl
theorem dd_len (q : List Sl) : (dd q).length ≤ q.length := by
  have h : ∀ (q : List Sl) (out : List ByteArray), (q.foldl ddStep out).length ≤ out.length + q.length := by
    intro q
    induction q with
    | nil => intro out; simp
    | cons x q ih =>
      intro out
      have h1 := ih (ddStep out x)
      have h2 : (ddStep out x).length ≤ out.length + 1 := by
        unfold ddStep
        cases (!emp x.v && !inB out x.v) <;> simp
      rw [List.foldl_cons, List.length_cons]
      omega
  have := h q []
  simpa [dd] using this
theorem SlAt.row_of {sz : Nat} {e : TypeId} {cs : List Value} {n : Nat} {v : Value} {H : Hp} (h : SlAt sz e cs n v H) (hn : 0 < n) : ∃ b cap, v = .slice (some ⟨b, 0, none⟩) n cap ∧ H = [(b, .row cs e (cap * sz))] ∧ n ≤ cap := by
  cases h with
  | nil h0 => omega
  | row b cap hl hc => exact ⟨b, cap, rfl, rfl, hc⟩
theorem SlAt.strs {e : TypeId} {xs : List ByteArray} {v : Value} {H : Hp} (w0 : World) (G : Hp) (h : SlAt 1 e (xs.map Value.string) xs.length v H) : ∃ A c, v = .slice A xs.length c ∧ StAt w0 (H ++ G) A xs := by
  generalize hn : xs.length = n at h
  cases h with
  | nil h0 hc =>
    subst h0
    refine ⟨none, 0, rfl, fun i x hx => ?_⟩
    rw [List.length_eq_zero_iff.1 hn] at hx
    cases hx
  | row b cap hl hc =>
    refine ⟨some ⟨b, 0, none⟩, cap, rfl, fun i x hx => ⟨b, 0, _, rfl, rfl, fun j v hv => ?_⟩⟩
    refine .own (List.mem_append_left _ List.mem_cons_self) ?_
    cases j with
    | zero =>
      simp at hv
      subst hv
      simp only [Know.cell, Nat.zero_add, Nat.mul_one, Nat.add_zero]
      rw [List.getElem?_map, hx]
      rfl
    | succ j => simp at hv
theorem toRow {b : Nat} {cs : List Value} {e : TypeId} {n : Nat} (G : Hp) (hn : cs.length = n) : Hs ((b, .exact (.cells cs.toArray e (0, 0))) :: G) ([(b, .row cs e n)] ++ G) := fun w0 w hw =>
  Sat.weakKnow (G1 := []) hw (fun x hx => by
    simp only [Know.holds] at hx ⊢
    exact ⟨_, hx, by simpa using hn, fun j v hv => by simpa using hv⟩)
theorem sub_app {G : Hp} (l : Hp) : ∀ y ∈ G, y ∈ l ++ G := fun _ h => List.mem_append_right _ h
theorem Hs.app2 (H : Hp) (x y : Nat × Know) (G : Hp) : Hs (H ++ ([x] ++ y :: G)) (H ++ G) := Hs.sub (List.Sublist.append (List.Sublist.refl _) ((List.sublist_cons_self y G).trans (List.sublist_cons_self x _)))
theorem ddStep_yes {out : List ByteArray} {x : Sl} (h1 : emp x.v = false) (h2 : inB out x.v = false) : ddStep out x = out ++ [x.v] := by unfold ddStep; rw [h1, h2]; rfl
theorem ddStep_no1 {out : List ByteArray} {x : Sl} (h1 : emp x.v = true) : ddStep out x = out := by unfold ddStep; rw [h1]; rfl
theorem ddStep_no2 {out : List ByteArray} {x : Sl} (h2 : inB out x.v = true) : ddStep out x = out := by unfold ddStep; rw [h2]; simp
theorem SlAt.snoc {out : List ByteArray} {s : ByteArray} {v : Value} {H : Hp} (h : SlAt 1 9 (out.map Value.string ++ [.string s]) (out.length + 1) v H) : SlAt 1 9 ((out ++ [s]).map Value.string) (out ++ [s]).length v H := by
  rw [List.map_append, List.length_append]
  exact h


theorem ref_Vars (w0 : World) (G : Hp) (r : Rl) (A : Option Addr) (c : Nat) (hl : LtsAt w0 G A r.body) (hm : r.body.length ≤ 1048576) : GC Tryd.prog w0 24 #[.agg (RlC r.head (.slice A r.body.length c)).toArray] (fun v G' => ∃ H, SlAt 1 9 ((dd (allSlots r)).map Value.string) (dd (allSlots r)).length v H ∧ H ++ G = G') G := by
  refine GC.body (args := [.agg (RlC r.head (.slice A r.body.length c)).toArray]) Tryd.func24 rfl (by kernel_rfl) rfl ?_
  refine GW.seq ?_
  refine GW.region ?_
  refine R.box ⟨rfl, rfl, rfl, rfl⟩ rfl fun b1 => ?_   -- type 46
  refine R.assign ⟨rfl, rfl, rfl, rfl⟩ rfl ?_
  refine GOps.nil ?_
  refine GW.seq ?_
  refine GW.region ?_
  refine R.assign ⟨rfl, rfl, rfl, rfl⟩ rfl ?_
  refine GOps.nil ?_
  refine GW.seq ?_
  refine GW.region ?_
  refine R.fieldAddr ⟨rfl, rfl, rfl, rfl⟩ rfl Tryd.underlying46 rfl Tryd.sizeOf40 ?_   -- "Head"
  refine R.indexAddrA ⟨rfl, rfl, rfl, rfl⟩ rfl rfl Tryd.underlying40 Tryd.sizeOf37 (by omega) (by omega) ?_   -- ['t7', '0']
  refine R.load_own (cs := SlC r.head.s0) ⟨rfl, rfl, rfl, rfl⟩ rfl Tryd.underlying37 rfl Tryd.sizeOf37 (by repeat (first | exact List.mem_cons_self | apply List.mem_cons_of_mem | apply List.mem_append_right)) (by rfl) (by rfl) ?_   -- load 0 ref.go:39 t8
  refine R.fieldAddr ⟨rfl, rfl, rfl, rfl⟩ rfl Tryd.underlying46 rfl Tryd.sizeOf40 ?_   -- "Head"
  refine R.indexAddrA ⟨rfl, rfl, rfl, rfl⟩ rfl rfl Tryd.underlying40 Tryd.sizeOf37 (by omega) (by omega) ?_   -- ['t10', '1']
  refine R.load_own (cs := SlC r.head.s1) ⟨rfl, rfl, rfl, rfl⟩ rfl Tryd.underlying37 rfl Tryd.sizeOf37 (by repeat (first | exact List.mem_cons_self | apply List.mem_cons_of_mem | apply List.mem_append_right)) (by rfl) (by rfl) ?_   -- load 1 ref.go:39 t11
  refine R.fieldAddr ⟨rfl, rfl, rfl, rfl⟩ rfl Tryd.underlying46 rfl Tryd.sizeOf40 ?_   -- "Head"
  refine R.indexAddrA ⟨rfl, rfl, rfl, rfl⟩ rfl rfl Tryd.underlying40 Tryd.sizeOf37 (by omega) (by omega) ?_   -- ['t13', '2']
  refine R.load_own (cs := SlC r.head.s2) ⟨rfl, rfl, rfl, rfl⟩ rfl Tryd.underlying37 rfl Tryd.sizeOf37 (by repeat (first | exact List.mem_cons_self | apply List.mem_cons_of_mem | apply List.mem_append_right)) (by rfl) (by rfl) ?_   -- load 2 ref.go:39 t14
  refine R.buildSliceF (sz := 4) (bytes := 56) (vs := [_, _, _]) (cs := [r.head.s0, r.head.s1, r.head.s2].flatMap SlC) ⟨rfl, rfl, rfl, rfl⟩ rfl Tryd.underlying68 (InfoE.mk (by kernel_rfl)) rfl rfl rfl rfl rfl fun b16 => ?_   -- build 0 type 68
  refine R.assign ⟨rfl, rfl, rfl, rfl⟩ rfl ?_
  refine GOps.nil ?_
  refine GW.seq ?_
  refine GW.seq ?_
  refine GW.region ?_
  refine R.assign ⟨rfl, rfl, rfl, rfl⟩ rfl ?_
  refine GOps.nil ?_
  refine GW.block ?_
  -- LOOP: live 1:r, 3:out, 4:all, 5:i
  refine GW.loop4 (fun (i : Nat) (va : Value) (Ha : Hp) (u1 : Unit) => [(1, .pointer (some ⟨b1, 0, none⟩)), (3, .slice none 0 0), (4, va), (5, .int .i64 i)]) (fun (i : Nat) (va : Value) (Ha : Hp) (u1 : Unit) => Ha ++ (b1, .exact (.cells (RlC r.head (.slice A r.body.length c)).toArray 46 (0, 0))) :: G) (fun i : Nat => r.body.length - i) (fun (i : Nat) (va : Value) (Ha : Hp) (u1 : Unit) => i ≤ r.body.length ∧ SlAt 4 37 ((allTake r i).flatMap SlC) (allTake r i).length va Ha) 0 (.slice (some ⟨b16, 0, none⟩) 3 3) ([(b16, .row _ 37 12)]) (())
    (by repeat (first | exact Keeps.nil _ | refine Keeps.cons rfl ?_)) (toRow _ rfl) (⟨by omega, SlAt.row _ 3 rfl (Nat.le_refl 3)⟩) ?_
  rintro i va Ha u1 ⟨hi, hS⟩
  refine GW.seq ?_
  refine GW.seq ?_
  refine GW.region ?_
  refine R.move ⟨rfl, rfl, rfl, rfl⟩ rfl ?_
  refine R.fieldAddr ⟨rfl, rfl, rfl, rfl⟩ rfl Tryd.underlying46 rfl Tryd.sizeOf44 ?_   -- "Body"
  refine R.load1 ⟨rfl, rfl, rfl, rfl⟩ rfl Tryd.underlying44 rfl (.own' (by repeat (first | exact List.mem_cons_self | apply List.mem_cons_of_mem | apply List.mem_append_right)) (by rfl)) ?_   -- load 3 ref.go:40 t18
  refine R.lenS ⟨rfl, rfl, rfl, rfl⟩ rfl rfl Tryd.underlying44 ?_
  refine R.lss ⟨rfl, rfl, rfl, rfl⟩ rfl rfl ?_   -- lss ['t17', 't20']
  refine GOps.nil ?_
  refine GW.ite rfl (fun hc1 => ?_) (fun hc1 => ?_)
  · try simp only [decide_eq_true_eq, decide_eq_false_iff_not, Bool.not_eq_true', Bool.not_eq_false'] at hc1
    obtain ⟨x, hx⟩ : ∃ x, r.body[i]? = some x := ⟨_, List.getElem?_eq_getElem (by omega)⟩
    obtain ⟨bb, oo, cs, rfl, rfl, hrd⟩ := hl i x hx
    refine GW.skip ?_
    refine GW.seq ?_
    refine GW.block ?_
    refine GW.region ?_
    refine R.move ⟨rfl, rfl, rfl, rfl⟩ rfl ?_
    refine R.fieldAddr ⟨rfl, rfl, rfl, rfl⟩ rfl Tryd.underlying46 rfl Tryd.sizeOf44 ?_   -- "Body"
    refine R.load1 ⟨rfl, rfl, rfl, rfl⟩ rfl Tryd.underlying44 rfl (.own' (by repeat (first | exact List.mem_cons_self | apply List.mem_cons_of_mem | apply List.mem_append_right)) (by rfl)) ?_   -- load 4 ref.go:41 t25
    refine R.move ⟨rfl, rfl, rfl, rfl⟩ rfl ?_
    refine R.indexAddrS ⟨rfl, rfl, rfl, rfl⟩ rfl rfl Tryd.underlying44 Tryd.sizeOf43 (by omega) (by omega) ?_   -- ['t26', 't27']
    refine R.loadA ⟨rfl, rfl, rfl, rfl⟩ rfl Tryd.underlying43 rfl Tryd.sizeOf43 (Rds.mono (sub_app _) (Rds.mono (sub_cons _) hrd)) (by rfl) ?_   -- load 5 ref.go:41
    refine R.call ⟨rfl, rfl, rfl, rfl⟩ rfl (vs := [_]) rfl ((ref_Slots _ _ x).mono ?_)
    rintro _ _ ⟨b30, rfl, rfl⟩
    have hxl := slotsOf_len x
    have hql := allTake_len r i
    refine R.append (sz := 4) (bytes := 56) (G1 := [_]) (H := Ha) (news := (slotsOf x).flatMap SlC) ⟨rfl, rfl, rfl, rfl⟩ rfl rfl rfl Tryd.underlying68 (InfoE.mk (by kernel_rfl)) (hS) (rfl) (flat_len _) (.own (by repeat (first | exact List.mem_cons_self | apply List.mem_cons_of_mem | apply List.mem_append_right)) 0 _ (fun j v hv => by simpa using hv)) (by omega) (flat_one _) (by omega) (by omega) fun v31 H31 hv31 => ?_
    refine R.assign ⟨rfl, rfl, rfl, rfl⟩ rfl ?_
    refine GOps.nil ?_
    refine GW.region ?_
    refine R.move ⟨rfl, rfl, rfl, rfl⟩ rfl ?_
    refine R.add (r := (((i + 1) : Nat) : Int)) ⟨rfl, rfl, rfl, rfl⟩ rfl rfl (by rw [wrap64_id (by omega) (by omega)]; omega) ?_   -- add ['t22', '1']
    refine R.assign ⟨rfl, rfl, rfl, rfl⟩ rfl ?_
    refine GOps.nil ?_
    exact ⟨i + 1, v31, H31, (), by omega, ⟨by omega, by rw [allTake_succ hx, List.flatMap_append, List.length_append]; exact hv31⟩, rfl, by repeat (first | exact Keeps.nil _ | refine Keeps.cons rfl ?_), by first | exact Hs.refl _ | exact Hs.tl _ | exact Hs.tl2 _ _⟩
  · try simp only [decide_eq_true_eq, decide_eq_false_iff_not, Bool.not_eq_true', Bool.not_eq_false'] at hc1
    obtain rfl : r.body.length = i := by omega
    obtain ⟨ba, capa, rfl, rfl, hca⟩ := hS.row_of (by have := allTake_len r r.body.length; omega)
    have hql := allTake_len r r.body.length
    refine GW.exit ?_
    refine GW.seq ?_
    refine GW.seq ?_
    refine GW.region ?_
    refine R.assign ⟨rfl, rfl, rfl, rfl⟩ rfl ?_
    refine GOps.nil ?_
    refine GW.block ?_
    -- LOOP: live 3:out, 4:all, 6:i
    refine GW.loop4 (fun (i : Nat) (vo : Value) (Ho : Hp) (u1 : Unit) => [(3, vo), (4, .slice (some ⟨ba, 0, none⟩) (allTake r r.body.length).length capa), (6, .int .i64 i)]) (fun (i : Nat) (vo : Value) (Ho : Hp) (u1 : Unit) => Ho ++ ([(ba, .row ((allTake r r.body.length).flatMap SlC) 37 (capa * 4))] ++ (b1, .exact (.cells (RlC r.head (.slice A r.body.length c)).toArray 46 (0, 0))) :: G)) (fun i : Nat => (allTake r r.body.length).length - i) (fun (i : Nat) (vo : Value) (Ho : Hp) (u1 : Unit) => i ≤ (allTake r r.body.length).length ∧ SlAt 1 9 ((dd ((allSlots r).take i)).map Value.string) (dd ((allSlots r).take i)).length vo Ho) 0 (.slice none 0 0) ([]) (())
      (by repeat (first | exact Keeps.nil _ | refine Keeps.cons rfl ?_)) (Hs.refl _) (⟨by omega, .nil rfl rfl⟩) ?_
    rintro i vo Ho u1 ⟨hi, hO⟩
    refine GW.seq ?_
    refine GW.seq ?_
    refine GW.region ?_
    refine R.move ⟨rfl, rfl, rfl, rfl⟩ rfl ?_
    refine R.move ⟨rfl, rfl, rfl, rfl⟩ rfl ?_
    refine R.lenS ⟨rfl, rfl, rfl, rfl⟩ rfl rfl Tryd.underlying68 ?_
    refine R.lss ⟨rfl, rfl, rfl, rfl⟩ rfl rfl ?_   -- lss ['t32', 't34']
    refine GOps.nil ?_
    refine GW.ite rfl (fun hc2 => ?_) (fun hc2 => ?_)
    · try simp only [decide_eq_true_eq, decide_eq_false_iff_not, Bool.not_eq_true', Bool.not_eq_false'] at hc2
      obtain ⟨y, hy⟩ : ∃ y, (allSlots r)[i]? = some y := ⟨_, List.getElem?_eq_getElem (by show i < (allTake r r.body.length).length; omega)⟩
      obtain ⟨Ao, co, rfl, hSt⟩ := hO.strs w0 ([(ba, .row ((allTake r r.body.length).flatMap SlC) 37 (capa * 4))] ++ (b1, .exact (.cells (RlC r.head (.slice A r.body.length c)).toArray 46 (0, 0))) :: G)
      have hdl : (dd ((allSlots r).take i)).length ≤ i := by have := dd_len ((allSlots r).take i); rw [List.length_take] at this; omega
      refine GW.skip ?_
      refine GW.seq ?_
      refine GW.block ?_
      refine GW.seq ?_
      refine GW.region ?_
      refine R.move ⟨rfl, rfl, rfl, rfl⟩ rfl ?_
      refine R.move ⟨rfl, rfl, rfl, rfl⟩ rfl ?_
      refine R.indexAddrS ⟨rfl, rfl, rfl, rfl⟩ rfl rfl Tryd.underlying68 Tryd.sizeOf37 (by omega) (by omega) ?_   -- ['t38', 't39']
      refine R.fieldAddr ⟨rfl, rfl, rfl, rfl⟩ rfl Tryd.underlying37 rfl Tryd.sizeOf9 ?_   -- "Var"
      refine R.load1 ⟨rfl, rfl, rfl, rfl⟩ rfl Tryd.underlying9 rfl (.own (k := .row ((allTake r r.body.length).flatMap SlC) 37 (capa * 4)) (by repeat (first | exact List.mem_cons_self | apply List.mem_cons_of_mem | apply List.mem_append_right)) (slot_cell hy)) ?_   -- load 6 ref.go:44
      refine R.neS ⟨rfl, rfl, rfl, rfl⟩ rfl rfl ?_   -- neq ['t42', 'const']
      refine R.move ⟨rfl, rfl, rfl, rfl⟩ rfl ?_
      refine GOps.caseB 44 rfl (fun hg3 => ?_) (fun hg3 => ?_)
      · try simp only [decide_eq_true_eq, decide_eq_false_iff_not, Bool.not_eq_true', Bool.not_eq_false'] at hg3
        refine R.move ⟨rfl, rfl, rfl, rfl⟩ rfl ?_
        refine R.move ⟨rfl, rfl, rfl, rfl⟩ rfl ?_
        refine R.move ⟨rfl, rfl, rfl, rfl⟩ rfl ?_
        refine R.indexAddrS ⟨rfl, rfl, rfl, rfl⟩ rfl rfl Tryd.underlying68 Tryd.sizeOf37 (by omega) (by omega) ?_   -- ['t46', 't47']
        refine R.fieldAddr ⟨rfl, rfl, rfl, rfl⟩ rfl Tryd.underlying37 rfl Tryd.sizeOf9 ?_   -- "Var"
        refine R.load1 ⟨rfl, rfl, rfl, rfl⟩ rfl Tryd.underlying9 rfl (.own (k := .row ((allTake r r.body.length).flatMap SlC) 37 (capa * 4)) (by repeat (first | exact List.mem_cons_self | apply List.mem_cons_of_mem | apply List.mem_append_right)) (slot_cell hy)) ?_   -- load 7 ref.go:44
        refine R.call ⟨rfl, rfl, rfl, rfl⟩ rfl (vs := [_, _]) rfl ((ref_In _ _ Ao (dd ((allSlots r).take i)) co y.v hSt (by omega)).mono ?_)
        rintro _ _ ⟨rfl, rfl⟩
        refine R.not ⟨rfl, rfl, rfl, rfl⟩ rfl ?_
        refine R.pick_t ⟨rfl, rfl, rfl, rfl⟩ rfl rfl ?_
        refine GOps.nil ?_
        refine GW.ite rfl (fun hc4 => ?_) (fun hc4 => ?_)
        · try simp only [decide_eq_true_eq, decide_eq_false_iff_not, Bool.not_eq_true', Bool.not_eq_false'] at hc4
          refine GW.region ?_
          refine R.move ⟨rfl, rfl, rfl, rfl⟩ rfl ?_
          refine R.move ⟨rfl, rfl, rfl, rfl⟩ rfl ?_
          refine R.move ⟨rfl, rfl, rfl, rfl⟩ rfl ?_
          refine R.indexAddrS ⟨rfl, rfl, rfl, rfl⟩ rfl rfl Tryd.underlying68 Tryd.sizeOf37 (by omega) (by omega) ?_   -- ['t55', 't56']
          refine R.fieldAddr ⟨rfl, rfl, rfl, rfl⟩ rfl Tryd.underlying37 rfl Tryd.sizeOf9 ?_   -- "Var"
          refine R.load1 ⟨rfl, rfl, rfl, rfl⟩ rfl Tryd.underlying9 rfl (.own (k := .row ((allTake r r.body.length).flatMap SlC) 37 (capa * 4)) (by repeat (first | exact List.mem_cons_self | apply List.mem_cons_of_mem | apply List.mem_append_right)) (slot_cell hy)) ?_   -- load 8 ref.go:45
          refine R.buildSliceF (sz := 1) (bytes := 16) (vs := [_]) (cs := [_]) ⟨rfl, rfl, rfl, rfl⟩ rfl Tryd.underlying61 (InfoE.mk (by kernel_rfl)) rfl rfl rfl rfl rfl fun b60 => ?_   -- build 1 type 61
          refine R.append (sz := 1) (bytes := 16) (G1 := [_]) (H := Ho) (news := [.string y.v]) ⟨rfl, rfl, rfl, rfl⟩ rfl rfl rfl Tryd.underlying61 (InfoE.mk (by kernel_rfl)) (hO) (rfl) (rfl) (.own (by repeat (first | exact List.mem_cons_self | apply List.mem_cons_of_mem | apply List.mem_append_right)) 0 _ (fun j v hv => by simpa using hv)) (by omega) (by rfl) (by omega) (by omega) fun v61 H61 hv61 => ?_
          refine R.assign ⟨rfl, rfl, rfl, rfl⟩ rfl ?_
          refine GOps.nil ?_
          refine GW.region ?_
          refine R.move ⟨rfl, rfl, rfl, rfl⟩ rfl ?_
          refine R.add (r := (((i + 1) : Nat) : Int)) ⟨rfl, rfl, rfl, rfl⟩ rfl rfl (by rw [wrap64_id (by omega) (by omega)]; omega) ?_   -- add ['t36', '1']
          refine R.assign ⟨rfl, rfl, rfl, rfl⟩ rfl ?_
          refine GOps.nil ?_
          exact ⟨i + 1, _, _, (), by omega, by first | exact ⟨by omega, by rw [dd_succ hy, ddStep_yes (by assumption) (by assumption)]; exact hv61.snoc⟩ | exact ⟨by omega, by rw [dd_succ hy, ddStep_no1 (by assumption)]; exact hO⟩ | exact ⟨by omega, by rw [dd_succ hy, ddStep_no2 (by assumption)]; exact hO⟩, rfl, by repeat (first | exact Keeps.nil _ | refine Keeps.cons rfl ?_), by first | exact Hs.refl _ | exact Hs.tl _ | exact Hs.tl2 _ _⟩
        · try simp only [decide_eq_true_eq, decide_eq_false_iff_not, Bool.not_eq_true', Bool.not_eq_false'] at hc4
          refine GW.skip ?_
          refine GW.region ?_
          refine R.move ⟨rfl, rfl, rfl, rfl⟩ rfl ?_
          refine R.add (r := (((i + 1) : Nat) : Int)) ⟨rfl, rfl, rfl, rfl⟩ rfl rfl (by rw [wrap64_id (by omega) (by omega)]; omega) ?_   -- add ['t36', '1']
          refine R.assign ⟨rfl, rfl, rfl, rfl⟩ rfl ?_
          refine GOps.nil ?_
          exact ⟨i + 1, _, _, (), by omega, by first | exact ⟨by omega, by rw [dd_succ hy, ddStep_yes (by assumption) (by assumption)]; exact hv61.snoc⟩ | exact ⟨by omega, by rw [dd_succ hy, ddStep_no1 (by assumption)]; exact hO⟩ | exact ⟨by omega, by rw [dd_succ hy, ddStep_no2 (by assumption)]; exact hO⟩, rfl, by repeat (first | exact Keeps.nil _ | refine Keeps.cons rfl ?_), by first | exact Hs.refl _ | exact Hs.tl _ | exact Hs.tl2 _ _⟩
      · try simp only [decide_eq_true_eq, decide_eq_false_iff_not, Bool.not_eq_true', Bool.not_eq_false'] at hg3
        refine GOps.skip rfl rfl rfl ?_
        refine GOps.skip rfl rfl rfl ?_
        refine GOps.skip rfl rfl rfl ?_
        refine GOps.skip rfl rfl rfl ?_
        refine GOps.skip rfl rfl rfl ?_
        refine GOps.skip rfl rfl rfl ?_
        refine GOps.skip rfl rfl rfl ?_
        refine GOps.skip rfl rfl rfl ?_
        refine R.pick_f ⟨rfl, rfl, rfl, rfl⟩ rfl rfl ?_
        refine GOps.nil ?_
        refine GW.cond_f rfl ?_
        refine GW.skip ?_
        refine GW.region ?_
        refine R.move ⟨rfl, rfl, rfl, rfl⟩ rfl ?_
        refine R.add (r := (((i + 1) : Nat) : Int)) ⟨rfl, rfl, rfl, rfl⟩ rfl rfl (by rw [wrap64_id (by omega) (by omega)]; omega) ?_   -- add ['t36', '1']
        refine R.assign ⟨rfl, rfl, rfl, rfl⟩ rfl ?_
        refine GOps.nil ?_
        exact ⟨i + 1, _, _, (), by omega, by first | exact ⟨by omega, by rw [dd_succ hy, ddStep_yes (by assumption) (by assumption)]; exact hv61.snoc⟩ | exact ⟨by omega, by rw [dd_succ hy, ddStep_no1 (by assumption)]; exact hO⟩ | exact ⟨by omega, by rw [dd_succ hy, ddStep_no2 (by assumption)]; exact hO⟩, rfl, by repeat (first | exact Keeps.nil _ | refine Keeps.cons rfl ?_), by first | exact Hs.refl _ | exact Hs.tl _ | exact Hs.tl2 _ _⟩
    · try simp only [decide_eq_true_eq, decide_eq_false_iff_not, Bool.not_eq_true', Bool.not_eq_false'] at hc2
      refine GW.exit ?_
      refine GW.seq ?_
      refine GW.region ?_
      refine R.move ⟨rfl, rfl, rfl, rfl⟩ rfl ?_
      refine R.assign ⟨rfl, rfl, rfl, rfl⟩ rfl ?_
      refine GOps.nil ?_
      refine GW.ret (Out.of (Res.one rfl rfl) (Hs.app2 _ _ _ _) ⟨_, ?_, rfl⟩)
      rw [List.take_of_length_le (by show (allTake r r.body.length).length ≤ i; omega)] at hO
      exact hO

end Go.Proofs.YtgjmandjhjfgkaaDoor.Gl
