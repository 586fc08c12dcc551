import Derived.Test.YtgjmandjhjfgkaaDoorS12
namespace Go.Proofs.YtgjmandjhjfgkaaDoor.Gl
open Go.RowKit Go.Shelf
set_option linter.unusedVariables false
set_option linter.unnecessarySimpa false
set_option linter.unusedSimpArgs false
attribute [-simp] List.getD_eq_getElem?_getD



def StAt (w0 : World) (G : Hp) (A : Option Addr) (xs : List ByteArray) : Prop := RowAt w0 G 1 (fun s cs => cs = [.string s]) A xs
def SsAt (w0 : World) (G : Hp) (A : Option Addr) (xs : List Sl) : Prop := RowAt w0 G 4 (fun s cs => cs = SlC s) A xs
def eqB (s : ByteArray) (x : ByteArray) : Bool := x.toList == s.toList
def inB (xs : List ByteArray) (s : ByteArray) : Bool := xs.any (eqB s)
def slotsOf (l : Lt) : List Sl := bif (decide (l.kind = 1) || decide (l.kind = 2)) then [l.pat.s0, l.pat.s1, l.pat.s2] else [l.a, l.b]
theorem slotsOf_t {l : Lt} (h : l.kind = 1 ∨ l.kind = 2) : slotsOf l = [l.pat.s0, l.pat.s1, l.pat.s2] := by
  unfold slotsOf
  rcases h with h | h <;> rw [h] <;> rfl
theorem slotsOf_f {l : Lt} (h : ¬ l.kind = 1) (h2 : ¬ l.kind = 2) : slotsOf l = [l.a, l.b] := by
  unfold slotsOf
  rw [decide_eq_false h, decide_eq_false h2]; rfl


theorem ref_In (w0 : World) (G : Hp) (A : Option Addr) (xs : List ByteArray) (c : Nat) (s : ByteArray) (hx : StAt w0 G A xs) (hm : xs.length ≤ 100000000) : GC Tryd.prog w0 25 #[.slice A xs.length c, .string s] (fun v G' => v = .bool (inB xs s) ∧ G = G') G := by
  refine GC.body (args := [.slice A xs.length c, .string s]) Tryd.func25 rfl (by kernel_rfl) rfl ?_
  refine GW.seq ?_
  refine GW.region ?_
  refine R.assign ⟨rfl, rfl, rfl, rfl⟩ rfl ?_
  refine GOps.nil ?_
  refine GW.seq ?_
  refine GW.seq ?_
  refine GW.region ?_
  refine R.assign ⟨rfl, rfl, rfl, rfl⟩ rfl ?_
  refine GOps.nil ?_
  refine GW.block ?_
  -- LOOP: live 0:l, 1:s, 5:i
  refine GW.loopI (fun i : Nat => [(0, .slice A xs.length c), (1, .string s), (5, .int .i64 i)]) (fun i => G) (fun i => xs.length - i) (fun i => i ≤ xs.length ∧ (xs.take i).any (eqB s) = false) 0
    (by repeat (first | exact Keeps.nil _ | refine Keeps.cons rfl ?_)) (Hs.refl _) (⟨by omega, by simp⟩) ?_
  rintro i ⟨hi, h0⟩
  refine GW.seq ?_
  refine GW.seq ?_
  refine GW.region ?_
  refine R.move ⟨rfl, rfl, rfl, rfl⟩ rfl ?_
  refine R.move ⟨rfl, rfl, rfl, rfl⟩ rfl ?_
  refine R.lenS ⟨rfl, rfl, rfl, rfl⟩ rfl rfl Tryd.underlying61 ?_
  refine R.lss ⟨rfl, rfl, rfl, rfl⟩ rfl rfl ?_   -- lss ['t6', 't8']
  refine GOps.nil ?_
  refine GW.ite rfl (fun hc1 => ?_) (fun hc1 => ?_)
  · try simp only [decide_eq_true_eq, decide_eq_false_iff_not, Bool.not_eq_true', Bool.not_eq_false'] at hc1
    obtain ⟨x, hx1⟩ : ∃ x, xs[i]? = some x := ⟨_, List.getElem?_eq_getElem (by omega)⟩
    obtain ⟨bb, oo, cs, rfl, rfl, hrd⟩ := hx i x hx1
    refine GW.skip ?_
    refine GW.seq ?_
    refine GW.block ?_
    refine GW.seq ?_
    refine GW.region ?_
    refine R.move ⟨rfl, rfl, rfl, rfl⟩ rfl ?_
    refine R.move ⟨rfl, rfl, rfl, rfl⟩ rfl ?_
    refine R.indexAddrS ⟨rfl, rfl, rfl, rfl⟩ rfl rfl Tryd.underlying61 Tryd.sizeOf9 (by omega) (by omega) ?_   -- ['t12', 't13']
    refine R.load1 ⟨rfl, rfl, rfl, rfl⟩ rfl Tryd.underlying9 rfl (hrd 0 _ rfl) ?_   -- load 0 ref.go:21
    refine R.move ⟨rfl, rfl, rfl, rfl⟩ rfl ?_
    refine R.eqS ⟨rfl, rfl, rfl, rfl⟩ rfl rfl ?_   -- eql ['t15', 't16']
    refine GOps.nil ?_
    refine GW.ite rfl (fun hc2 => ?_) (fun hc2 => ?_)
    · try simp only [decide_eq_true_eq, decide_eq_false_iff_not, Bool.not_eq_true', Bool.not_eq_false'] at hc2
      refine GW.seq ?_
      refine GW.region ?_
      refine R.assign ⟨rfl, rfl, rfl, rfl⟩ rfl ?_
      refine GOps.nil ?_
      refine GW.ret (Out.of (Res.one rfl rfl) (by first | exact Hs.refl _ | exact Hs.tl _ | exact Hs.tl2 _ _ | exact Hs.tl3 _ _ _ | exact (Hs.app _).trans (Hs.tl _) | exact (Hs.app _).trans ((Hs.app _).trans (Hs.tl _))) ⟨?_, rfl⟩)
      refine vb ?_; symm; first | exact any_of_get (eqB s) xs i x hx1 (by assumption) | exact any_of_take (eqB s) xs i (by omega) h0
    · try simp only [decide_eq_true_eq, decide_eq_false_iff_not, Bool.not_eq_true', Bool.not_eq_false'] at hc2
      refine GW.skip ?_
      refine GW.region ?_
      refine R.move ⟨rfl, rfl, rfl, rfl⟩ rfl ?_
      refine R.add (r := (((i + 1) : Nat) : Int)) ⟨rfl, rfl, rfl, rfl⟩ rfl rfl (by rw [wrap64_id (by omega) (by omega)]; omega) ?_   -- add ['t10', '1']
      refine R.assign ⟨rfl, rfl, rfl, rfl⟩ rfl ?_
      refine GOps.nil ?_
      exact ⟨i + 1, by omega, ⟨by omega, any_take_succ (eqB s) xs i x hx1 h0 (by assumption)⟩, rfl, by repeat (first | exact Keeps.nil _ | refine Keeps.cons rfl ?_), by first | exact Hs.refl _ | exact Hs.tl _ | exact Hs.tl2 _ _⟩
  · try simp only [decide_eq_true_eq, decide_eq_false_iff_not, Bool.not_eq_true', Bool.not_eq_false'] at hc1
    refine GW.exit ?_
    refine GW.seq ?_
    refine GW.region ?_
    refine R.assign ⟨rfl, rfl, rfl, rfl⟩ rfl ?_
    refine GOps.nil ?_
    refine GW.ret (Out.of (Res.one rfl rfl) (by first | exact Hs.refl _ | exact Hs.tl _ | exact Hs.tl2 _ _ | exact Hs.tl3 _ _ _ | exact (Hs.app _).trans (Hs.tl _) | exact (Hs.app _).trans ((Hs.app _).trans (Hs.tl _))) ⟨?_, rfl⟩)
    refine vb ?_; symm; first | exact any_of_get (eqB s) xs i x hx1 (by assumption) | exact any_of_take (eqB s) xs i (by omega) h0

theorem ref_Slots (w0 : World) (G : Hp) (l : Lt) : GC Tryd.prog w0 33 #[.agg (LtC l).toArray] (fun v G' => ∃ b, v = .slice (some ⟨b, 0, none⟩) (slotsOf l).length (slotsOf l).length ∧ (b, .exact (.cells ((slotsOf l).flatMap SlC).toArray 37 (0, 0))) :: G = G') G := by
  refine GC.body (args := [.agg (LtC l).toArray]) Tryd.func33 rfl (by kernel_rfl) rfl ?_
  refine GW.seq ?_
  refine GW.region ?_
  refine R.box ⟨rfl, rfl, rfl, rfl⟩ rfl fun b1 => ?_   -- type 43
  refine R.assign ⟨rfl, rfl, rfl, rfl⟩ rfl ?_
  refine GOps.nil ?_
  refine GW.seq ?_
  refine GW.seq ?_
  refine GW.region ?_
  refine R.fieldAddr ⟨rfl, rfl, rfl, rfl⟩ rfl Tryd.underlying43 rfl Tryd.sizeOf41 ?_   -- "Kind"
  refine R.load1 ⟨rfl, rfl, rfl, rfl⟩ rfl Tryd.underlying41 rfl (.own' (by repeat (first | exact List.mem_cons_self | apply List.mem_cons_of_mem | apply List.mem_append_right)) (by rfl)) ?_   -- load 0 ref.go:30 t3
  refine R.eqI ⟨rfl, rfl, rfl, rfl⟩ rfl rfl ?_   -- eql ['t4', '1']
  refine R.move ⟨rfl, rfl, rfl, rfl⟩ rfl ?_
  refine GOps.caseB 6 rfl (fun hg1 => ?_) (fun hg1 => ?_)
  · try simp only [decide_eq_true_eq, decide_eq_false_iff_not, Bool.not_eq_true', Bool.not_eq_false'] at hg1
    refine GOps.skip rfl rfl rfl ?_
    refine GOps.skip rfl rfl rfl ?_
    refine GOps.skip rfl rfl rfl ?_
    refine R.pick_t ⟨rfl, rfl, rfl, rfl⟩ rfl rfl ?_
    refine GOps.nil ?_
    refine GW.cond_t rfl ?_
    refine GW.seq ?_
    refine GW.region ?_
    refine R.fieldAddr ⟨rfl, rfl, rfl, rfl⟩ rfl Tryd.underlying43 rfl Tryd.sizeOf40 ?_   -- "Pattern"
    refine R.indexAddrA ⟨rfl, rfl, rfl, rfl⟩ rfl rfl Tryd.underlying40 Tryd.sizeOf37 (by omega) (by omega) ?_   -- ['t11', '0']
    refine R.load_own (cs := SlC l.pat.s0) ⟨rfl, rfl, rfl, rfl⟩ rfl Tryd.underlying37 rfl Tryd.sizeOf37 (by repeat (first | exact List.mem_cons_self | apply List.mem_cons_of_mem | apply List.mem_append_right)) (by rfl) (by rfl) ?_   -- load 1 ref.go:31 t12
    refine R.fieldAddr ⟨rfl, rfl, rfl, rfl⟩ rfl Tryd.underlying43 rfl Tryd.sizeOf40 ?_   -- "Pattern"
    refine R.indexAddrA ⟨rfl, rfl, rfl, rfl⟩ rfl rfl Tryd.underlying40 Tryd.sizeOf37 (by omega) (by omega) ?_   -- ['t14', '1']
    refine R.load_own (cs := SlC l.pat.s1) ⟨rfl, rfl, rfl, rfl⟩ rfl Tryd.underlying37 rfl Tryd.sizeOf37 (by repeat (first | exact List.mem_cons_self | apply List.mem_cons_of_mem | apply List.mem_append_right)) (by rfl) (by rfl) ?_   -- load 2 ref.go:31 t15
    refine R.fieldAddr ⟨rfl, rfl, rfl, rfl⟩ rfl Tryd.underlying43 rfl Tryd.sizeOf40 ?_   -- "Pattern"
    refine R.indexAddrA ⟨rfl, rfl, rfl, rfl⟩ rfl rfl Tryd.underlying40 Tryd.sizeOf37 (by omega) (by omega) ?_   -- ['t17', '2']
    refine R.load_own (cs := SlC l.pat.s2) ⟨rfl, rfl, rfl, rfl⟩ rfl Tryd.underlying37 rfl Tryd.sizeOf37 (by repeat (first | exact List.mem_cons_self | apply List.mem_cons_of_mem | apply List.mem_append_right)) (by rfl) (by rfl) ?_   -- load 3 ref.go:31 t18
    refine R.buildSliceF (sz := 4) (bytes := 56) (vs := [_, _, _]) (cs := [_, _, _, _, _, _, _, _, _, _, _, _]) ⟨rfl, rfl, rfl, rfl⟩ rfl Tryd.underlying68 (InfoE.mk (by kernel_rfl)) rfl rfl rfl rfl rfl fun b20 => ?_   -- build 0 type 68
    refine R.assign ⟨rfl, rfl, rfl, rfl⟩ rfl ?_
    refine GOps.nil ?_
    first | rw [slotsOf_t (l := l) (by omega)] | rw [slotsOf_f (l := l) (by omega) (by omega)]
    exact GW.ret (Out.of (Res.one rfl rfl) (by first | exact Hs.refl _ | exact Hs.swapDrop _ _ _) ⟨_, rfl, rfl⟩)
  · try simp only [decide_eq_true_eq, decide_eq_false_iff_not, Bool.not_eq_true', Bool.not_eq_false'] at hg1
    refine R.fieldAddr ⟨rfl, rfl, rfl, rfl⟩ rfl Tryd.underlying43 rfl Tryd.sizeOf41 ?_   -- "Kind"
    refine R.load1 ⟨rfl, rfl, rfl, rfl⟩ rfl Tryd.underlying41 rfl (.own' (by repeat (first | exact List.mem_cons_self | apply List.mem_cons_of_mem | apply List.mem_append_right)) (by rfl)) ?_   -- load 4 ref.go:30 t7
    refine R.eqI ⟨rfl, rfl, rfl, rfl⟩ rfl rfl ?_   -- eql ['t8', '2']
    refine R.pick_f ⟨rfl, rfl, rfl, rfl⟩ rfl rfl ?_
    refine GOps.nil ?_
    refine GW.ite rfl (fun hc2 => ?_) (fun hc2 => ?_)
    · try simp only [decide_eq_true_eq, decide_eq_false_iff_not, Bool.not_eq_true', Bool.not_eq_false'] at hc2
      refine GW.seq ?_
      refine GW.region ?_
      refine R.fieldAddr ⟨rfl, rfl, rfl, rfl⟩ rfl Tryd.underlying43 rfl Tryd.sizeOf40 ?_   -- "Pattern"
      refine R.indexAddrA ⟨rfl, rfl, rfl, rfl⟩ rfl rfl Tryd.underlying40 Tryd.sizeOf37 (by omega) (by omega) ?_   -- ['t11', '0']
      refine R.load_own (cs := SlC l.pat.s0) ⟨rfl, rfl, rfl, rfl⟩ rfl Tryd.underlying37 rfl Tryd.sizeOf37 (by repeat (first | exact List.mem_cons_self | apply List.mem_cons_of_mem | apply List.mem_append_right)) (by rfl) (by rfl) ?_   -- load 5 ref.go:31 t12
      refine R.fieldAddr ⟨rfl, rfl, rfl, rfl⟩ rfl Tryd.underlying43 rfl Tryd.sizeOf40 ?_   -- "Pattern"
      refine R.indexAddrA ⟨rfl, rfl, rfl, rfl⟩ rfl rfl Tryd.underlying40 Tryd.sizeOf37 (by omega) (by omega) ?_   -- ['t14', '1']
      refine R.load_own (cs := SlC l.pat.s1) ⟨rfl, rfl, rfl, rfl⟩ rfl Tryd.underlying37 rfl Tryd.sizeOf37 (by repeat (first | exact List.mem_cons_self | apply List.mem_cons_of_mem | apply List.mem_append_right)) (by rfl) (by rfl) ?_   -- load 6 ref.go:31 t15
      refine R.fieldAddr ⟨rfl, rfl, rfl, rfl⟩ rfl Tryd.underlying43 rfl Tryd.sizeOf40 ?_   -- "Pattern"
      refine R.indexAddrA ⟨rfl, rfl, rfl, rfl⟩ rfl rfl Tryd.underlying40 Tryd.sizeOf37 (by omega) (by omega) ?_   -- ['t17', '2']
      refine R.load_own (cs := SlC l.pat.s2) ⟨rfl, rfl, rfl, rfl⟩ rfl Tryd.underlying37 rfl Tryd.sizeOf37 (by repeat (first | exact List.mem_cons_self | apply List.mem_cons_of_mem | apply List.mem_append_right)) (by rfl) (by rfl) ?_   -- load 7 ref.go:31 t18
      refine R.buildSliceF (sz := 4) (bytes := 56) (vs := [_, _, _]) (cs := [_, _, _, _, _, _, _, _, _, _, _, _]) ⟨rfl, rfl, rfl, rfl⟩ rfl Tryd.underlying68 (InfoE.mk (by kernel_rfl)) rfl rfl rfl rfl rfl fun b20 => ?_   -- build 1 type 68
      refine R.assign ⟨rfl, rfl, rfl, rfl⟩ rfl ?_
      refine GOps.nil ?_
      first | rw [slotsOf_t (l := l) (by omega)] | rw [slotsOf_f (l := l) (by omega) (by omega)]
      exact GW.ret (Out.of (Res.one rfl rfl) (by first | exact Hs.refl _ | exact Hs.swapDrop _ _ _) ⟨_, rfl, rfl⟩)
    · try simp only [decide_eq_true_eq, decide_eq_false_iff_not, Bool.not_eq_true', Bool.not_eq_false'] at hc2
      refine GW.skip ?_
      refine GW.seq ?_
      refine GW.region ?_
      refine R.fieldAddr ⟨rfl, rfl, rfl, rfl⟩ rfl Tryd.underlying43 rfl Tryd.sizeOf37 ?_   -- "A"
      refine R.load_own (cs := SlC l.a) ⟨rfl, rfl, rfl, rfl⟩ rfl Tryd.underlying37 rfl Tryd.sizeOf37 (by repeat (first | exact List.mem_cons_self | apply List.mem_cons_of_mem | apply List.mem_append_right)) (by rfl) (by rfl) ?_   -- load 8 ref.go:33 t21
      refine R.fieldAddr ⟨rfl, rfl, rfl, rfl⟩ rfl Tryd.underlying43 rfl Tryd.sizeOf37 ?_   -- "B"
      refine R.load_own (cs := SlC l.b) ⟨rfl, rfl, rfl, rfl⟩ rfl Tryd.underlying37 rfl Tryd.sizeOf37 (by repeat (first | exact List.mem_cons_self | apply List.mem_cons_of_mem | apply List.mem_append_right)) (by rfl) (by rfl) ?_   -- load 9 ref.go:33 t23
      refine R.buildSliceF (sz := 4) (bytes := 56) (vs := [_, _]) (cs := [_, _, _, _, _, _, _, _]) ⟨rfl, rfl, rfl, rfl⟩ rfl Tryd.underlying68 (InfoE.mk (by kernel_rfl)) rfl rfl rfl rfl rfl fun b25 => ?_   -- build 2 type 68
      refine R.assign ⟨rfl, rfl, rfl, rfl⟩ rfl ?_
      refine GOps.nil ?_
      first | rw [slotsOf_t (l := l) (by omega)] | rw [slotsOf_f (l := l) (by omega) (by omega)]
      exact GW.ret (Out.of (Res.one rfl rfl) (by first | exact Hs.refl _ | exact Hs.swapDrop _ _ _) ⟨_, rfl, rfl⟩)

theorem ref_Negates (w0 : World) (G : Hp) (A : Option Addr) (rs : List Rl) (c : Nat) (hr : RlsAt w0 G A rs) (hm : rs.length ≤ 1048576) : GC Tryd.prog w0 10 #[.slice A rs.length c] (fun v G' => v = .bool (negates rs) ∧ G = G') G := by
  refine GC.body (args := [.slice A rs.length c]) Tryd.func10 rfl (by kernel_rfl) rfl ?_
  refine GW.seq ?_
  refine GW.region ?_
  refine R.assign ⟨rfl, rfl, rfl, rfl⟩ rfl ?_
  refine GOps.nil ?_
  refine GW.seq ?_
  refine GW.seq ?_
  refine GW.region ?_
  refine R.assign ⟨rfl, rfl, rfl, rfl⟩ rfl ?_
  refine GOps.nil ?_
  refine GW.block ?_
  -- LOOP: live 0:l, 3:i
  refine GW.loopI (fun i : Nat => [(0, .slice A rs.length c), (3, .int .i64 i)]) (fun i => G) (fun i => rs.length - i) (fun i => i ≤ rs.length ∧ (rs.take i).any negRule = false) 0
    (by repeat (first | exact Keeps.nil _ | refine Keeps.cons rfl ?_)) (Hs.refl _) (⟨by omega, by simp⟩) ?_
  rintro i ⟨hi, h0⟩
  refine GW.seq ?_
  refine GW.seq ?_
  refine GW.region ?_
  refine R.move ⟨rfl, rfl, rfl, rfl⟩ rfl ?_
  refine R.move ⟨rfl, rfl, rfl, rfl⟩ rfl ?_
  refine R.lenS ⟨rfl, rfl, rfl, rfl⟩ rfl rfl Tryd.underlying22 ?_
  refine R.lss ⟨rfl, rfl, rfl, rfl⟩ rfl rfl ?_   -- lss ['t5', 't7']
  refine GOps.nil ?_
  refine GW.ite rfl (fun hc1 => ?_) (fun hc1 => ?_)
  · try simp only [decide_eq_true_eq, decide_eq_false_iff_not, Bool.not_eq_true', Bool.not_eq_false'] at hc1
    obtain ⟨x, hx⟩ : ∃ x, rs[i]? = some x := ⟨_, List.getElem?_eq_getElem (by omega)⟩
    obtain ⟨b, f, cs, rfl, ⟨A', c', rfl, hl', hm', hls⟩, hrd⟩ := hr i x hx
    refine GW.skip ?_
    refine GW.seq ?_
    refine GW.block ?_
    refine GW.seq ?_
    refine GW.region ?_
    refine R.assign ⟨rfl, rfl, rfl, rfl⟩ rfl ?_
    refine GOps.nil ?_
    refine GW.block ?_
    -- LOOP: live 0:l, 3:i, 4:k
    refine GW.loopI (fun k : Nat => [(0, .slice (some ⟨b, f, none⟩) rs.length c), (3, .int .i64 i), (4, .int .i64 k)]) (fun k => G) (fun k => x.body.length - k) (fun k => k ≤ x.body.length ∧ (x.body.take k).any litNot = false) 0
      (by repeat (first | exact Keeps.nil _ | refine Keeps.cons rfl ?_)) (Hs.refl _) (⟨by omega, by simp⟩) ?_
    rintro k ⟨hk, hk0⟩
    refine GW.seq ?_
    refine GW.seq ?_
    refine GW.region ?_
    refine R.move ⟨rfl, rfl, rfl, rfl⟩ rfl ?_
    refine R.move ⟨rfl, rfl, rfl, rfl⟩ rfl ?_
    refine R.move ⟨rfl, rfl, rfl, rfl⟩ rfl ?_
    refine R.indexAddrS ⟨rfl, rfl, rfl, rfl⟩ rfl rfl Tryd.underlying22 Tryd.sizeOf46 (by omega) (by omega) ?_   -- ['t12', 't13']
    refine R.fieldAddr ⟨rfl, rfl, rfl, rfl⟩ rfl Tryd.underlying46 rfl Tryd.sizeOf44 ?_   -- "Body"
    refine R.load1 ⟨rfl, rfl, rfl, rfl⟩ rfl Tryd.underlying44 rfl (hrd 12 _ rfl) ?_   -- load 0 ref.go:77
    refine R.lenS ⟨rfl, rfl, rfl, rfl⟩ rfl rfl Tryd.underlying44 ?_
    refine R.lss ⟨rfl, rfl, rfl, rfl⟩ rfl rfl ?_   -- lss ['t11', 't17']
    refine GOps.nil ?_
    refine GW.ite rfl (fun hc2 => ?_) (fun hc2 => ?_)
    · try simp only [decide_eq_true_eq, decide_eq_false_iff_not, Bool.not_eq_true', Bool.not_eq_false'] at hc2
      obtain ⟨y, hy⟩ : ∃ y, x.body[k]? = some y := ⟨_, List.getElem?_eq_getElem (by omega)⟩
      obtain ⟨bb, oo, cs, rfl, rfl, hrd2⟩ := hls k y hy
      refine GW.skip ?_
      refine GW.seq ?_
      refine GW.block ?_
      refine GW.seq ?_
      refine GW.region ?_
      refine R.move ⟨rfl, rfl, rfl, rfl⟩ rfl ?_
      refine R.move ⟨rfl, rfl, rfl, rfl⟩ rfl ?_
      refine R.indexAddrS ⟨rfl, rfl, rfl, rfl⟩ rfl rfl Tryd.underlying22 Tryd.sizeOf46 (by omega) (by omega) ?_   -- ['t21', 't22']
      refine R.fieldAddr ⟨rfl, rfl, rfl, rfl⟩ rfl Tryd.underlying46 rfl Tryd.sizeOf44 ?_   -- "Body"
      refine R.load1 ⟨rfl, rfl, rfl, rfl⟩ rfl Tryd.underlying44 rfl (hrd 12 _ rfl) ?_   -- load 1 ref.go:78
      refine R.move ⟨rfl, rfl, rfl, rfl⟩ rfl ?_
      refine R.indexAddrS ⟨rfl, rfl, rfl, rfl⟩ rfl rfl Tryd.underlying44 Tryd.sizeOf43 (by omega) (by omega) ?_   -- ['t25', 't26']
      refine R.fieldAddr ⟨rfl, rfl, rfl, rfl⟩ rfl Tryd.underlying43 rfl Tryd.sizeOf41 ?_   -- "Kind"
      refine R.load1 ⟨rfl, rfl, rfl, rfl⟩ rfl Tryd.underlying41 rfl (hrd2 0 _ rfl) ?_   -- load 2 ref.go:78
      refine R.eqI ⟨rfl, rfl, rfl, rfl⟩ rfl rfl ?_   -- eql ['t29', '2']
      refine GOps.nil ?_
      refine GW.ite rfl (fun hc3 => ?_) (fun hc3 => ?_)
      · try simp only [decide_eq_true_eq, decide_eq_false_iff_not, Bool.not_eq_true', Bool.not_eq_false'] at hc3
        refine GW.seq ?_
        refine GW.region ?_
        refine R.assign ⟨rfl, rfl, rfl, rfl⟩ rfl ?_
        refine GOps.nil ?_
        refine GW.ret (Out.of (Res.one rfl rfl) (by first | exact Hs.refl _ | exact Hs.tl _ | exact Hs.tl2 _ _ | exact Hs.tl3 _ _ _ | exact (Hs.app _).trans (Hs.tl _) | exact (Hs.app _).trans ((Hs.app _).trans (Hs.tl _))) ⟨?_, rfl⟩)
        refine vb ?_; symm; first | exact any_of_get negRule rs i x hx (any_of_get litNot x.body k y hy (decide_eq_true (by assumption))) | exact any_of_take negRule rs i (by omega) h0
      · try simp only [decide_eq_true_eq, decide_eq_false_iff_not, Bool.not_eq_true', Bool.not_eq_false'] at hc3
        refine GW.skip ?_
        refine GW.region ?_
        refine R.move ⟨rfl, rfl, rfl, rfl⟩ rfl ?_
        refine R.add (r := (((k + 1) : Nat) : Int)) ⟨rfl, rfl, rfl, rfl⟩ rfl rfl (by rw [wrap64_id (by omega) (by omega)]; omega) ?_   -- add ['t19', '1']
        refine R.assign ⟨rfl, rfl, rfl, rfl⟩ rfl ?_
        refine GOps.nil ?_
        exact ⟨k + 1, by omega, ⟨by omega, any_take_succ litNot x.body k y hy hk0 (decide_eq_false (by assumption))⟩, rfl, by repeat (first | exact Keeps.nil _ | refine Keeps.cons rfl ?_), by first | exact Hs.refl _ | exact Hs.tl _ | exact Hs.tl2 _ _⟩
    · try simp only [decide_eq_true_eq, decide_eq_false_iff_not, Bool.not_eq_true', Bool.not_eq_false'] at hc2
      refine GW.exit ?_
      refine GW.region ?_
      refine R.move ⟨rfl, rfl, rfl, rfl⟩ rfl ?_
      refine R.add (r := (((i + 1) : Nat) : Int)) ⟨rfl, rfl, rfl, rfl⟩ rfl rfl (by rw [wrap64_id (by omega) (by omega)]; omega) ?_   -- add ['t9', '1']
      refine R.assign ⟨rfl, rfl, rfl, rfl⟩ rfl ?_
      refine GOps.nil ?_
      exact ⟨i + 1, by omega, ⟨by omega, any_take_succ negRule rs i x hx h0 (any_of_take litNot x.body k (by omega) hk0)⟩, rfl, by repeat (first | exact Keeps.nil _ | refine Keeps.cons rfl ?_), by first | exact Hs.refl _ | exact Hs.tl _ | exact Hs.tl2 _ _⟩
  · try simp only [decide_eq_true_eq, decide_eq_false_iff_not, Bool.not_eq_true', Bool.not_eq_false'] at hc1
    refine GW.exit ?_
    refine GW.seq ?_
    refine GW.region ?_
    refine R.assign ⟨rfl, rfl, rfl, rfl⟩ rfl ?_
    refine GOps.nil ?_
    refine GW.ret (Out.of (Res.one rfl rfl) (by first | exact Hs.refl _ | exact Hs.tl _ | exact Hs.tl2 _ _ | exact Hs.tl3 _ _ _ | exact (Hs.app _).trans (Hs.tl _) | exact (Hs.app _).trans ((Hs.app _).trans (Hs.tl _))) ⟨?_, rfl⟩)
    refine vb ?_; symm; first | exact any_of_get negRule rs i x hx (any_of_get litNot x.body k y hy (decide_eq_true (by assumption))) | exact any_of_take negRule rs i (by omega) h0

end Go.Proofs.YtgjmandjhjfgkaaDoor.Gl
