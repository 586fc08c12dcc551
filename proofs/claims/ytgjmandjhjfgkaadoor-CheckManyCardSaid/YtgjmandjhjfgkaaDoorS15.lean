import Derived.Test.YtgjmandjhjfgkaaDoorS14
namespace Go.Proofs.YtgjmandjhjfgkaaDoor.Gl
open Go.RowKit Go.Shelf
set_option linter.unusedVariables false
set_option linter.unnecessarySimpa false
set_option linter.unusedSimpArgs false
attribute [-simp] List.getD_eq_getElem?_getD



def patL (l : Lt) : List ByteArray := [l.pat.s0.v, l.pat.s1.v, l.pat.s2.v]
def givenOf (l : Lt) : List ByteArray := if l.kind = 1 then patL l else []
def givenTake (r : Rl) (i : Nat) : List ByteArray := (r.body.take i).flatMap givenOf
def givenL (r : Rl) : List ByteArray := givenTake r r.body.length
theorem givenTake_succ {r : Rl} {i : Nat} {x : Lt} (h : r.body[i]? = some x) : givenTake r (i + 1) = givenTake r i ++ givenOf x := by
  unfold givenTake
  rw [List.take_add_one, h]
  simp
theorem givenTake_len (r : Rl) (i : Nat) : (givenTake r i).length ≤ 3 * i := by
  unfold givenTake
  have h : ∀ l : List Lt, (l.flatMap givenOf).length ≤ 3 * l.length := by
    intro l
    induction l with
    | nil => simp
    | cons x l ih =>
      have h1 : (givenOf x).length ≤ 3 := by unfold givenOf patL; split <;> simp
      rw [List.flatMap_cons, List.length_append, List.length_cons]
      omega
  have h1 := h (r.body.take i)
  have h2 : (r.body.take i).length ≤ i := by rw [List.length_take]; omega
  omega
theorem patL_get {x : Lt} {k : Nat} (h : k < 3) : ∃ s, (patL x)[k]? = some s ∧ (LtC x)[1 + k * 4]? = some (.string s) := by
  rcases (by omega : k = 0 ∨ k = 1 ∨ k = 2) with rfl | rfl | rfl
  · exact ⟨_, rfl, rfl⟩
  · exact ⟨_, rfl, rfl⟩
  · exact ⟨_, rfl, rfl⟩
theorem pat_cell {w0 : World} {G : Hp} {b o k : Nat} {x : Lt} {s : ByteArray} (h : Rds w0 G b o (LtC x)) (hs : (LtC x)[1 + k * 4]? = some (.string s)) : Rd w0 G b (o + 1 + (k : Int).toNat * 4 + 0) (.string s) := by
  have := h _ _ hs
  simpa [Nat.add_assoc] using this
theorem giv_step {r : Rl} {i k : Nat} {x : Lt} {v : Value} {H : Hp} (hx : r.body[i]? = some x) (h1 : x.kind = 1) (hk : k = 3) (hK : SlAt 1 9 ((givenTake r i ++ (patL x).take k).map Value.string) (givenTake r i ++ (patL x).take k).length v H) : SlAt 1 9 ((givenTake r (i + 1)).map Value.string) (givenTake r (i + 1)).length v H := by
  subst hk
  rw [givenTake_succ hx, givenOf, if_pos h1]
  exact hK
def ruleE (r : Rl) : Int := bif mayRl r then (bif (dd (allSlots r)).all (inB (givenL r)) then 0 else 5) else 2


theorem ref_Rule (w0 : World) (G : Hp) (r : Rl) (A : Option Addr) (c : Nat) (hl : LtsAt w0 G A r.body) (hm : r.body.length ≤ 1048576) (h : RlOk r) : GC Tryd.prog w0 17 #[.agg (RlC r.head (.slice A r.body.length c)).toArray] (fun v G' => v = .int .i64 (ruleE r) ∧ G = G') G := by
  refine GC.body (args := [.agg (RlC r.head (.slice A r.body.length c)).toArray]) Tryd.func17 rfl (by kernel_rfl) rfl ?_
  refine GW.seq ?_
  refine GW.region ?_
  refine R.box ⟨rfl, rfl, rfl, rfl⟩ rfl fun b1 => ?_   -- type 46
  refine R.assign ⟨rfl, rfl, rfl, rfl⟩ rfl ?_
  refine GOps.nil ?_
  refine GW.seq ?_
  refine GW.seq ?_
  refine GW.region ?_
  refine R.load_own (cs := RlC r.head (.slice A r.body.length c)) ⟨rfl, rfl, rfl, rfl⟩ rfl Tryd.underlying46 rfl Tryd.sizeOf46 (by repeat (first | exact List.mem_cons_self | apply List.mem_cons_of_mem | apply List.mem_append_right)) (by rfl) (by rfl) ?_   -- load 0 ref.go:53 t1:r
  refine R.call ⟨rfl, rfl, rfl, rfl⟩ rfl (vs := [_]) rfl ((ref_MayRl _ _ r A c (hl.mono (sub_cons _)) hm h).mono ?_)
  rintro _ _ ⟨rfl, rfl⟩
  refine R.not ⟨rfl, rfl, rfl, rfl⟩ rfl ?_
  refine GOps.nil ?_
  refine GW.ite rfl (fun hc1 => ?_) (fun hc1 => ?_)
  · try simp only [decide_eq_true_eq, decide_eq_false_iff_not, Bool.not_eq_true', Bool.not_eq_false'] at hc1
    refine GW.seq ?_
    refine GW.region ?_
    refine R.assign ⟨rfl, rfl, rfl, rfl⟩ rfl ?_
    refine GOps.nil ?_
    refine GW.ret (Out.of (Res.one rfl rfl) (by first | exact Hs.refl _ | exact Hs.tl _ | exact Hs.tl2 _ _ | exact Hs.tl3 _ _ _ | exact (Hs.app _).trans (Hs.tl _) | exact (Hs.app _).trans ((Hs.app _).trans (Hs.tl _))) ⟨?_, rfl⟩)
    unfold ruleE; first | (rw [show mayRl r = false from hc1]; rfl) | (rw [show mayRl r = true from hc1, all_of_get (inB (givenL r)) _ i y hy hc6]; rfl) | (rw [show mayRl r = true from hc1, all_of_take (inB (givenL r)) _ i (by omega) h0]; rfl)
  · try simp only [decide_eq_true_eq, decide_eq_false_iff_not, Bool.not_eq_true', Bool.not_eq_false'] at hc1
    refine GW.skip ?_
    refine GW.seq ?_
    refine GW.region ?_
    refine R.assign ⟨rfl, rfl, rfl, rfl⟩ rfl ?_
    refine GOps.nil ?_
    refine GW.seq ?_
    refine GW.seq ?_
    refine GW.region ?_
    refine R.assign ⟨rfl, rfl, rfl, rfl⟩ rfl ?_
    refine GOps.nil ?_
    refine GW.block ?_
    -- LOOP: live 1:r, 3:given, 4:i
    refine GW.loop4 (fun (i : Nat) (vg : Value) (Hg : Hp) (u1 : Unit) => [(1, .pointer (some ⟨b1, 0, none⟩)), (3, vg), (4, .int .i64 i)]) (fun (i : Nat) (vg : Value) (Hg : Hp) (u1 : Unit) => Hg ++ (b1, .exact (.cells (RlC r.head (.slice A r.body.length c)).toArray 46 (0, 0))) :: G) (fun i : Nat => r.body.length - i) (fun (i : Nat) (vg : Value) (Hg : Hp) (u1 : Unit) => i ≤ r.body.length ∧ SlAt 1 9 ((givenTake r i).map Value.string) (givenTake r i).length vg Hg) 0 (.slice none 0 0) ([]) (())
      (by repeat (first | exact Keeps.nil _ | refine Keeps.cons rfl ?_)) (Hs.refl _) (⟨by omega, .nil rfl rfl⟩) ?_
    rintro i vg Hg u1 ⟨hi, hS⟩
    refine GW.seq ?_
    refine GW.seq ?_
    refine GW.region ?_
    refine R.move ⟨rfl, rfl, rfl, rfl⟩ rfl ?_
    refine R.fieldAddr ⟨rfl, rfl, rfl, rfl⟩ rfl Tryd.underlying46 rfl Tryd.sizeOf44 ?_   -- "Body"
    refine R.load1 ⟨rfl, rfl, rfl, rfl⟩ rfl Tryd.underlying44 rfl (.own' (by repeat (first | exact List.mem_cons_self | apply List.mem_cons_of_mem | apply List.mem_append_right)) (by rfl)) ?_   -- load 1 ref.go:57 t12
    refine R.lenS ⟨rfl, rfl, rfl, rfl⟩ rfl rfl Tryd.underlying44 ?_
    refine R.lss ⟨rfl, rfl, rfl, rfl⟩ rfl rfl ?_   -- lss ['t11', 't14']
    refine GOps.nil ?_
    refine GW.ite rfl (fun hc2 => ?_) (fun hc2 => ?_)
    · try simp only [decide_eq_true_eq, decide_eq_false_iff_not, Bool.not_eq_true', Bool.not_eq_false'] at hc2
      obtain ⟨x, hx⟩ : ∃ x, r.body[i]? = some x := ⟨_, List.getElem?_eq_getElem (by omega)⟩
      obtain ⟨bb, oo, cs, rfl, rfl, hrd⟩ := hl i x hx
      refine GW.skip ?_
      refine GW.seq ?_
      refine GW.block ?_
      refine GW.seq ?_
      refine GW.seq ?_
      refine GW.region ?_
      refine R.fieldAddr ⟨rfl, rfl, rfl, rfl⟩ rfl Tryd.underlying46 rfl Tryd.sizeOf44 ?_   -- "Body"
      refine R.load1 ⟨rfl, rfl, rfl, rfl⟩ rfl Tryd.underlying44 rfl (.own' (by repeat (first | exact List.mem_cons_self | apply List.mem_cons_of_mem | apply List.mem_append_right)) (by rfl)) ?_   -- load 2 ref.go:58 t18
      refine R.move ⟨rfl, rfl, rfl, rfl⟩ rfl ?_
      refine R.indexAddrS ⟨rfl, rfl, rfl, rfl⟩ rfl rfl Tryd.underlying44 Tryd.sizeOf43 (by omega) (by omega) ?_   -- ['t19', 't20']
      refine R.fieldAddr ⟨rfl, rfl, rfl, rfl⟩ rfl Tryd.underlying43 rfl Tryd.sizeOf41 ?_   -- "Kind"
      refine R.load1 ⟨rfl, rfl, rfl, rfl⟩ rfl Tryd.underlying41 rfl (Rd.mono (sub_app _) (Rd.mono (sub_cons _) (hrd 0 _ rfl))) ?_   -- load 3 ref.go:58
      refine R.neI ⟨rfl, rfl, rfl, rfl⟩ rfl rfl ?_   -- neq ['t23', '1']
      refine GOps.nil ?_
      refine GW.ite rfl (fun hc3 => ?_) (fun hc3 => ?_)
      · try simp only [decide_eq_true_eq, decide_eq_false_iff_not, Bool.not_eq_true', Bool.not_eq_false'] at hc3
        refine GW.exit ?_
        refine GW.region ?_
        refine R.move ⟨rfl, rfl, rfl, rfl⟩ rfl ?_
        refine R.add (r := (((i + 1) : Nat) : Int)) ⟨rfl, rfl, rfl, rfl⟩ rfl rfl (by rw [wrap64_id (by omega) (by omega)]; omega) ?_   -- add ['t16', '1']
        refine R.assign ⟨rfl, rfl, rfl, rfl⟩ rfl ?_
        refine GOps.nil ?_
        exact ⟨i + 1, _, _, (), by omega, by first | exact ⟨by omega, by rw [givenTake_succ hx, givenOf, if_neg (by assumption), List.append_nil]; exact hS⟩ | exact ⟨by omega, giv_step hx (by omega) (by omega) hK⟩, rfl, by repeat (first | exact Keeps.nil _ | refine Keeps.cons rfl ?_), by first | exact Hs.refl _ | exact Hs.tl _ | exact Hs.tl2 _ _⟩
      · try simp only [decide_eq_true_eq, decide_eq_false_iff_not, Bool.not_eq_true', Bool.not_eq_false'] at hc3
        refine GW.skip ?_
        refine GW.seq ?_
        refine GW.region ?_
        refine R.assign ⟨rfl, rfl, rfl, rfl⟩ rfl ?_
        refine GOps.nil ?_
        refine GW.block ?_
        -- LOOP: live 1:r, 3:given, 4:i, 5:k
        refine GW.loop4 (fun (k : Nat) (vk : Value) (Hk : Hp) (u1 : Unit) => [(1, .pointer (some ⟨b1, 0, none⟩)), (3, vk), (4, .int .i64 i), (5, .int .i64 k)]) (fun (k : Nat) (vk : Value) (Hk : Hp) (u1 : Unit) => Hk ++ (b1, .exact (.cells (RlC r.head (.slice (some ⟨bb, oo, none⟩) r.body.length c)).toArray 46 (0, 0))) :: G) (fun k : Nat => 3 - k) (fun (k : Nat) (vk : Value) (Hk : Hp) (u1 : Unit) => k ≤ 3 ∧ SlAt 1 9 ((givenTake r i ++ (patL x).take k).map Value.string) (givenTake r i ++ (patL x).take k).length vk Hk) 0 (vg) (Hg) (())
          (by repeat (first | exact Keeps.nil _ | refine Keeps.cons rfl ?_)) (Hs.refl _) (⟨by omega, by simpa using hS⟩) ?_
        rintro k vk Hk u1 ⟨hk, hK⟩
        refine GW.seq ?_
        refine GW.seq ?_
        refine GW.region ?_
        refine R.move ⟨rfl, rfl, rfl, rfl⟩ rfl ?_
        refine R.lss ⟨rfl, rfl, rfl, rfl⟩ rfl rfl ?_   -- lss ['t25', '3']
        refine GOps.nil ?_
        refine GW.ite rfl (fun hc4 => ?_) (fun hc4 => ?_)
        · try simp only [decide_eq_true_eq, decide_eq_false_iff_not, Bool.not_eq_true', Bool.not_eq_false'] at hc4
          obtain ⟨s, hsp, hsc⟩ := patL_get (x := x) (k := k) (by omega)
          have hgl := givenTake_len r i
          have hpl : ((patL x).take k).length ≤ 3 := by rw [List.length_take]; simp [patL]; omega
          have hal : (givenTake r i ++ (patL x).take k).length ≤ 3 * i + 3 := by rw [List.length_append]; omega
          refine GW.skip ?_
          refine GW.seq ?_
          refine GW.block ?_
          refine GW.region ?_
          refine R.move ⟨rfl, rfl, rfl, rfl⟩ rfl ?_
          refine R.fieldAddr ⟨rfl, rfl, rfl, rfl⟩ rfl Tryd.underlying46 rfl Tryd.sizeOf44 ?_   -- "Body"
          refine R.load1 ⟨rfl, rfl, rfl, rfl⟩ rfl Tryd.underlying44 rfl (.own' (by repeat (first | exact List.mem_cons_self | apply List.mem_cons_of_mem | apply List.mem_append_right)) (by rfl)) ?_   -- load 4 ref.go:62 t30
          refine R.move ⟨rfl, rfl, rfl, rfl⟩ rfl ?_
          refine R.move ⟨rfl, rfl, rfl, rfl⟩ rfl ?_
          refine R.indexAddrS ⟨rfl, rfl, rfl, rfl⟩ rfl rfl Tryd.underlying44 Tryd.sizeOf43 (by omega) (by omega) ?_   -- ['t31', 't32']
          refine R.fieldAddr ⟨rfl, rfl, rfl, rfl⟩ rfl Tryd.underlying43 rfl Tryd.sizeOf40 ?_   -- "Pattern"
          refine R.indexAddrA ⟨rfl, rfl, rfl, rfl⟩ rfl rfl Tryd.underlying40 Tryd.sizeOf37 (by omega) (by omega) ?_   -- ['t35', 't33']
          refine R.fieldAddr ⟨rfl, rfl, rfl, rfl⟩ rfl Tryd.underlying37 rfl Tryd.sizeOf9 ?_   -- "Var"
          refine R.load1 ⟨rfl, rfl, rfl, rfl⟩ rfl Tryd.underlying9 rfl (Rd.mono (sub_app _) (Rd.mono (sub_cons _) (pat_cell hrd hsc))) ?_   -- load 5 ref.go:62
          refine R.buildSliceF (sz := 1) (bytes := 16) (vs := [_]) (cs := [_]) ⟨rfl, rfl, rfl, rfl⟩ rfl Tryd.underlying61 (InfoE.mk (by kernel_rfl)) rfl rfl rfl rfl rfl fun b39 => ?_   -- build 0 type 61
          refine R.append (sz := 1) (bytes := 16) (G1 := [_]) (H := Hk) (news := [.string s]) ⟨rfl, rfl, rfl, rfl⟩ rfl rfl rfl Tryd.underlying61 (InfoE.mk (by kernel_rfl)) (hK) (rfl) (rfl) (.own (by repeat (first | exact List.mem_cons_self | apply List.mem_cons_of_mem | apply List.mem_append_right)) 0 _ (fun j v hv => by simpa using hv)) (by omega) (by rfl) (by omega) (by omega) fun v40 H40 hv40 => ?_
          refine R.assign ⟨rfl, rfl, rfl, rfl⟩ rfl ?_
          refine GOps.nil ?_
          refine GW.region ?_
          refine R.move ⟨rfl, rfl, rfl, rfl⟩ rfl ?_
          refine R.add (r := (((k + 1) : Nat) : Int)) ⟨rfl, rfl, rfl, rfl⟩ rfl rfl (by rw [wrap64_id (by omega) (by omega)]; omega) ?_   -- add ['t27', '1']
          refine R.assign ⟨rfl, rfl, rfl, rfl⟩ rfl ?_
          refine GOps.nil ?_
          exact ⟨k + 1, _, _, (), by omega, ⟨by omega, by rw [List.take_add_one, hsp, ← List.append_assoc]; exact hv40.snoc⟩, rfl, by repeat (first | exact Keeps.nil _ | refine Keeps.cons rfl ?_), by first | exact Hs.refl _ | exact Hs.tl _ | exact Hs.tl2 _ _⟩
        · try simp only [decide_eq_true_eq, decide_eq_false_iff_not, Bool.not_eq_true', Bool.not_eq_false'] at hc4
          refine GW.exit ?_
          refine GW.region ?_
          refine R.move ⟨rfl, rfl, rfl, rfl⟩ rfl ?_
          refine R.add (r := (((i + 1) : Nat) : Int)) ⟨rfl, rfl, rfl, rfl⟩ rfl rfl (by rw [wrap64_id (by omega) (by omega)]; omega) ?_   -- add ['t16', '1']
          refine R.assign ⟨rfl, rfl, rfl, rfl⟩ rfl ?_
          refine GOps.nil ?_
          exact ⟨i + 1, _, _, (), by omega, by first | exact ⟨by omega, by rw [givenTake_succ hx, givenOf, if_neg (by assumption), List.append_nil]; exact hS⟩ | exact ⟨by omega, giv_step hx (by omega) (by omega) hK⟩, rfl, by repeat (first | exact Keeps.nil _ | refine Keeps.cons rfl ?_), by first | exact Hs.refl _ | exact Hs.tl _ | exact Hs.tl2 _ _⟩
    · try simp only [decide_eq_true_eq, decide_eq_false_iff_not, Bool.not_eq_true', Bool.not_eq_false'] at hc2
      obtain rfl : r.body.length = i := by omega
      obtain ⟨Ag, cg, rfl, hGt0⟩ := hS.strs w0 ((b1, .exact (.cells (RlC r.head (.slice A r.body.length c)).toArray 46 (0, 0))) :: G)
      refine GW.exit ?_
      refine GW.seq ?_
      refine GW.region ?_
      refine R.load_own (cs := RlC r.head (.slice A r.body.length c)) ⟨rfl, rfl, rfl, rfl⟩ rfl Tryd.underlying46 rfl Tryd.sizeOf46 (by repeat (first | exact List.mem_cons_self | apply List.mem_cons_of_mem | apply List.mem_append_right)) (by rfl) (by rfl) ?_   -- load 6 ref.go:65 t1:r
      refine R.call ⟨rfl, rfl, rfl, rfl⟩ rfl (vs := [_]) rfl ((ref_Vars _ _ r A c ((hl.mono (sub_cons _)).mono (sub_app _)) hm).mono ?_)
      rintro vv _ ⟨Hv, hV, rfl⟩
      have hvl : (dd (allSlots r)).length ≤ 3 + 3 * r.body.length := by have h1 := dd_len (allSlots r); have h2 := allTake_len r r.body.length; have h3 : (allSlots r).length = (allTake r r.body.length).length := rfl; omega
      obtain ⟨Av, cv, rfl, hVt⟩ := hV.strs w0 (Hg ++ (b1, .exact (.cells (RlC r.head (.slice A r.body.length c)).toArray 46 (0, 0))) :: G)
      refine R.assign ⟨rfl, rfl, rfl, rfl⟩ rfl ?_
      refine GOps.nil ?_
      refine GW.seq ?_
      refine GW.seq ?_
      refine GW.region ?_
      refine R.assign ⟨rfl, rfl, rfl, rfl⟩ rfl ?_
      refine GOps.nil ?_
      refine GW.block ?_
      -- LOOP: live 3:given, 6:v, 7:i
      refine GW.loopI (fun i : Nat => [(3, .slice Ag (givenTake r r.body.length).length cg), (6, .slice Av (dd (allSlots r)).length cv), (7, .int .i64 i)]) (fun i => Hv ++ (Hg ++ (b1, .exact (.cells (RlC r.head (.slice A r.body.length c)).toArray 46 (0, 0))) :: G)) (fun i => (dd (allSlots r)).length - i) (fun i => i ≤ (dd (allSlots r)).length ∧ ((dd (allSlots r)).take i).all (inB (givenL r)) = true) 0
        (by repeat (first | exact Keeps.nil _ | refine Keeps.cons rfl ?_)) (Hs.refl _) (⟨by omega, by simp⟩) ?_
      rintro i ⟨hi, h0⟩
      refine GW.seq ?_
      refine GW.seq ?_
      refine GW.region ?_
      refine R.move ⟨rfl, rfl, rfl, rfl⟩ rfl ?_
      refine R.move ⟨rfl, rfl, rfl, rfl⟩ rfl ?_
      refine R.lenS ⟨rfl, rfl, rfl, rfl⟩ rfl rfl Tryd.underlying61 ?_
      refine R.lss ⟨rfl, rfl, rfl, rfl⟩ rfl rfl ?_   -- lss ['t43', 't45']
      refine GOps.nil ?_
      refine GW.ite rfl (fun hc5 => ?_) (fun hc5 => ?_)
      · try simp only [decide_eq_true_eq, decide_eq_false_iff_not, Bool.not_eq_true', Bool.not_eq_false'] at hc5
        have hGt : StAt w0 (Hv ++ (Hg ++ (b1, .exact (.cells (RlC r.head (.slice A r.body.length c)).toArray 46 (0, 0))) :: G)) Ag (givenTake r r.body.length) := RowAt.mono (sub_app _) (fun _ _ h => h) hGt0
        obtain ⟨y, hy⟩ : ∃ y, (dd (allSlots r))[i]? = some y := ⟨_, List.getElem?_eq_getElem (by omega)⟩
        obtain ⟨bv, ov, csv, rfl, rfl, hvd⟩ := hVt i y hy
        refine GW.skip ?_
        refine GW.seq ?_
        refine GW.block ?_
        refine GW.seq ?_
        refine GW.region ?_
        refine R.move ⟨rfl, rfl, rfl, rfl⟩ rfl ?_
        refine R.move ⟨rfl, rfl, rfl, rfl⟩ rfl ?_
        refine R.move ⟨rfl, rfl, rfl, rfl⟩ rfl ?_
        refine R.indexAddrS ⟨rfl, rfl, rfl, rfl⟩ rfl rfl Tryd.underlying61 Tryd.sizeOf9 (by omega) (by omega) ?_   -- ['t50', 't51']
        refine R.load1 ⟨rfl, rfl, rfl, rfl⟩ rfl Tryd.underlying9 rfl (hvd 0 _ rfl) ?_   -- load 7 ref.go:67
        refine R.call ⟨rfl, rfl, rfl, rfl⟩ rfl (vs := [_, _]) rfl ((ref_In _ _ Ag (givenTake r r.body.length) cg y hGt (by have := givenTake_len r r.body.length; omega)).mono ?_)
        rintro _ _ ⟨rfl, rfl⟩
        refine R.not ⟨rfl, rfl, rfl, rfl⟩ rfl ?_
        refine GOps.nil ?_
        refine GW.ite rfl (fun hc6 => ?_) (fun hc6 => ?_)
        · try simp only [decide_eq_true_eq, decide_eq_false_iff_not, Bool.not_eq_true', Bool.not_eq_false'] at hc6
          refine GW.seq ?_
          refine GW.region ?_
          refine R.assign ⟨rfl, rfl, rfl, rfl⟩ rfl ?_
          refine GOps.nil ?_
          refine GW.ret (Out.of (Res.one rfl rfl) (by first | exact Hs.refl _ | exact Hs.tl _ | exact Hs.tl2 _ _ | exact Hs.tl3 _ _ _ | exact (Hs.app _).trans (Hs.tl _) | exact (Hs.app _).trans ((Hs.app _).trans (Hs.tl _))) ⟨?_, rfl⟩)
          unfold ruleE; first | (rw [show mayRl r = false from hc1]; rfl) | (rw [show mayRl r = true from hc1, all_of_get (inB (givenL r)) _ i y hy hc6]; rfl) | (rw [show mayRl r = true from hc1, all_of_take (inB (givenL r)) _ i (by omega) h0]; rfl)
        · try simp only [decide_eq_true_eq, decide_eq_false_iff_not, Bool.not_eq_true', Bool.not_eq_false'] at hc6
          refine GW.skip ?_
          refine GW.region ?_
          refine R.move ⟨rfl, rfl, rfl, rfl⟩ rfl ?_
          refine R.add (r := (((i + 1) : Nat) : Int)) ⟨rfl, rfl, rfl, rfl⟩ rfl rfl (by rw [wrap64_id (by omega) (by omega)]; omega) ?_   -- add ['t47', '1']
          refine R.assign ⟨rfl, rfl, rfl, rfl⟩ rfl ?_
          refine GOps.nil ?_
          exact ⟨i + 1, by omega, ⟨by omega, all_take_succ _ _ i y hy h0 hc6⟩, rfl, by repeat (first | exact Keeps.nil _ | refine Keeps.cons rfl ?_), by first | exact Hs.refl _ | exact Hs.tl _ | exact Hs.tl2 _ _⟩
      · try simp only [decide_eq_true_eq, decide_eq_false_iff_not, Bool.not_eq_true', Bool.not_eq_false'] at hc5
        refine GW.exit ?_
        refine GW.seq ?_
        refine GW.region ?_
        refine R.assign ⟨rfl, rfl, rfl, rfl⟩ rfl ?_
        refine GOps.nil ?_
        refine GW.ret (Out.of (Res.one rfl rfl) (by first | exact Hs.refl _ | exact Hs.tl _ | exact Hs.tl2 _ _ | exact Hs.tl3 _ _ _ | exact (Hs.app _).trans (Hs.tl _) | exact (Hs.app _).trans ((Hs.app _).trans (Hs.tl _))) ⟨?_, rfl⟩)
        unfold ruleE; first | (rw [show mayRl r = false from hc1]; rfl) | (rw [show mayRl r = true from hc1, all_of_get (inB (givenL r)) _ i y hy hc6]; rfl) | (rw [show mayRl r = true from hc1, all_of_take (inB (givenL r)) _ i (by omega) h0]; rfl)

end Go.Proofs.YtgjmandjhjfgkaaDoor.Gl
