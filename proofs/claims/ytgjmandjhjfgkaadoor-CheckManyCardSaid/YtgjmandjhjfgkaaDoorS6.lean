import Derived.Test.YtgjmandjhjfgkaaDoorS5
namespace Go.Proofs.YtgjmandjhjfgkaaDoor.Gl
open Go.RowKit Go.Shelf
set_option linter.unusedVariables false
set_option linter.unnecessarySimpa false
set_option linter.unusedSimpArgs false
attribute [-simp] List.getD_eq_getElem?_getD



theorem getS_take4 (l : List Nat) : getS (l.take 4) = getS l := by
  have h3 := hdM_le (l.getD 0 0)
  have e : ∀ i, i < 4 → (l.take 4).getD i 0 = l.getD i 0 := fun i hi => by simp [List.getD, List.getElem?_take_of_lt hi]
  have e0 := e 0 (by omega)
  have ea : ∀ (r m : Nat), m ≤ 3 → accR (l.take 4) r m = accR l r m := by
    intro r m
    induction m with
    | zero => intro _; rfl
    | succ m ih =>
      intro hm
      simp only [accR]
      rw [ih (by omega), e (m + 1) (by omega)]
  have ec : ∀ m, m ≤ 3 → allTo (fun i => isCont ((l.take 4).getD (i + 1) 0)) m = allTo (fun i => isCont (l.getD (i + 1) 0)) m := by
    intro m hm
    unfold allTo
    rw [Bool.eq_iff_iff, List.all_eq_true, List.all_eq_true]
    constructor
    · intro h x hx
      have := h x hx
      rw [List.mem_range] at hx
      rwa [e (x + 1) (by omega)] at this
    · intro h x hx
      have := h x hx
      rw [List.mem_range] at hx
      rwa [e (x + 1) (by omega)]
  have hm3 : (hdM (l.getD 0 0)).toNat ≤ 3 := by omega
  unfold getS
  simp only [e0, ea _ _ hm3, ec _ hm3, List.length_take]
  by_cases hh : 0 ≤ hdM (l.getD 0 0) ∧ (hdM (l.getD 0 0)).toNat < l.length ∧ allTo (fun i => isCont (l.getD (i + 1) 0)) (hdM (l.getD 0 0)).toNat = true ∧ mayR (accR l (hdR (l.getD 0 0)) (hdM (l.getD 0 0)).toNat) = true ∧ sizeR (accR l (hdR (l.getD 0 0)) (hdM (l.getD 0 0)).toNat) = (hdM (l.getD 0 0)).toNat + 1
  · rw [if_pos hh, if_pos ⟨hh.1, by omega, hh.2.2⟩]
  · rw [if_neg hh, if_neg fun h' => hh ⟨h'.1, by omega, h'.2.2⟩]
theorem nextAt_of4 {s : ByteArray} {k : Nat} {x : Option (Nat × Nat)} (h : k < (bs s).length) (hg : getS (bs (s.extract (k : Int).toNat (min (s.size : Int) ((k + 4 : Nat) : Int)).toNat)) = x) : nextAt (bs s) k = x := by
  have e : getS (bs (s.extract (k : Int).toNat (min (s.size : Int) ((k + 4 : Nat) : Int)).toNat)) = getS ((bs s).drop k) := by
    rw [bs_extract, ← getS_take4 ((bs s).drop k)]
    rw [bs_length] at h
    congr 1
    rcases Nat.lt_or_ge (s.size - k) 4 with h4 | h4
    · rw [List.take_of_length_le (by rw [List.length_drop, bs_length]; omega), List.take_of_length_le (by rw [List.length_drop, bs_length]; omega)]
      rfl
    · congr 1
      omega
  unfold nextAt
  rw [if_pos h, ← e, hg]


theorem ref_Runes (w0 : World) (G : Hp) (s : ByteArray) (hm : s.size ≤ 1000000) : GC Tryd.prog w0 56 #[.string s] (fun v G' => ∃ k vl H, Ahead (bs s) k ∧ nextAt (bs s) k = none ∧ v = .tuple #[vl, .int .i64 (k : Int)] ∧ H ++ G = G') G := by
  refine GC.body (args := [.string s]) Tryd.func56 rfl (by kernel_rfl) rfl ?_
  refine GW.seq ?_
  refine GW.region ?_
  refine R.assign ⟨rfl, rfl, rfl, rfl⟩ rfl ?_
  refine R.assign ⟨rfl, rfl, rfl, rfl⟩ rfl ?_
  refine GOps.nil ?_
  refine GW.seq ?_
  refine GW.region ?_
  refine R.assign ⟨rfl, rfl, rfl, rfl⟩ rfl ?_
  refine GOps.nil ?_
  refine GW.seq ?_
  refine GW.region ?_
  refine R.assign ⟨rfl, rfl, rfl, rfl⟩ rfl ?_
  refine GOps.nil ?_
  refine GW.seq ?_
  refine GW.block ?_
  -- LOOP: live 0:s, 4:l, 5:at
  refine GW.loop4 (fun (k : Nat) (vl : Value) (H : Hp) (q : List Value × Nat) => [(0, .string s), (4, vl), (5, .int .i64 k)]) (fun (k : Nat) (vl : Value) (H : Hp) (q : List Value × Nat) => H ++ G) (fun k : Nat => s.size - k) (fun (k : Nat) (vl : Value) (H : Hp) (q : List Value × Nat) => k ≤ s.size ∧ Ahead (bs s) k ∧ SlAt 2 90 q.1 q.2 vl H ∧ q.2 ≤ k) 0 (.slice none 0 0) ([]) (([], 0))
    (by repeat (first | exact Keeps.nil _ | refine Keeps.cons rfl ?_)) (Hs.refl _) (⟨by omega, Ahead.zero _, .nil rfl rfl, by simp⟩) ?_
  rintro k vl H q ⟨hk, hI, hS, hq⟩
  refine GW.seq ?_
  refine GW.seq ?_
  refine GW.region ?_
  refine R.move ⟨rfl, rfl, rfl, rfl⟩ rfl ?_
  refine R.move ⟨rfl, rfl, rfl, rfl⟩ rfl ?_
  refine R.lenStr ⟨rfl, rfl, rfl, rfl⟩ rfl rfl Tryd.underlying9 ?_
  refine R.lss ⟨rfl, rfl, rfl, rfl⟩ rfl rfl ?_   -- lss ['t8', 't10']
  refine GOps.nil ?_
  refine GW.ite rfl (fun hc1 => ?_) (fun hc1 => ?_)
  · try simp only [decide_eq_true_eq, decide_eq_false_iff_not, Bool.not_eq_true', Bool.not_eq_false'] at hc1
    refine GW.skip ?_
    refine GW.block ?_
    refine GW.seq ?_
    refine GW.region ?_
    refine R.move ⟨rfl, rfl, rfl, rfl⟩ rfl ?_
    refine R.move ⟨rfl, rfl, rfl, rfl⟩ rfl ?_
    refine R.move ⟨rfl, rfl, rfl, rfl⟩ rfl ?_
    refine R.lenStr ⟨rfl, rfl, rfl, rfl⟩ rfl rfl Tryd.underlying9 ?_
    refine R.move ⟨rfl, rfl, rfl, rfl⟩ rfl ?_
    refine R.add (r := (((k + 4) : Nat) : Int)) ⟨rfl, rfl, rfl, rfl⟩ rfl rfl (by rw [wrap64_id (by omega) (by omega)]; omega) ?_   -- add ['t17', '4']
    refine R.minI (r := _) ⟨rfl, rfl, rfl, rfl⟩ rfl rfl (rfl) ?_
    refine R.sliceStrLH ⟨rfl, rfl, rfl, rfl⟩ rfl rfl rfl Tryd.underlying9 (by omega) (by omega) (by omega) ?_
    refine R.call ⟨rfl, rfl, rfl, rfl⟩ rfl (vs := [_]) rfl ((ref_Get _ _ _ (by simp; omega)).mono ?_)
    rintro _ _ ⟨rfl, rfl⟩
    rcases hg : getS (bs (s.extract (k : Int).toNat (min (s.size : Int) ((k + 4 : Nat) : Int)).toNat)) with _ | ⟨r, n⟩
    · have hn0 : nextAt (bs s) k = none := nextAt_of4 (by rw [bs_length]; omega) hg
      refine R.move ⟨rfl, rfl, rfl, rfl⟩ rfl ?_
      refine R.extract ⟨rfl, rfl, rfl, rfl⟩ rfl rfl ?_
      refine R.extract ⟨rfl, rfl, rfl, rfl⟩ rfl rfl ?_
      refine R.assign ⟨rfl, rfl, rfl, rfl⟩ rfl ?_
      refine R.assign ⟨rfl, rfl, rfl, rfl⟩ rfl ?_
      refine GOps.nil ?_
      refine GW.seq ?_
      refine GW.seq ?_
      refine GW.region ?_
      refine R.move ⟨rfl, rfl, rfl, rfl⟩ rfl ?_
      refine R.eqI ⟨rfl, rfl, rfl, rfl⟩ rfl rfl ?_   -- eql ['t24', '0']
      refine GOps.nil ?_
      refine GW.cond_t rfl ?_
      refine GW.exit ?_
      refine GW.seq ?_
      refine GW.region ?_
      refine R.move ⟨rfl, rfl, rfl, rfl⟩ rfl ?_
      refine R.move ⟨rfl, rfl, rfl, rfl⟩ rfl ?_
      refine R.assign ⟨rfl, rfl, rfl, rfl⟩ rfl ?_
      refine R.assign ⟨rfl, rfl, rfl, rfl⟩ rfl ?_
      refine GOps.nil ?_
      exact GW.ret (Out.of (Res.two rfl rfl rfl) (Hs.refl _) ⟨_, _, _, hI, by first | exact hn0 | exact nextAt_ge (by omega), rfl, rfl⟩)
    · have hn1 : nextAt (bs s) k = some (r, n) := nextAt_of4 (by rw [bs_length]; omega) hg
      have hf := nextAt_facts hn1
      rw [bs_length] at hf
      refine R.move ⟨rfl, rfl, rfl, rfl⟩ rfl ?_
      refine R.extract ⟨rfl, rfl, rfl, rfl⟩ rfl rfl ?_
      refine R.extract ⟨rfl, rfl, rfl, rfl⟩ rfl rfl ?_
      refine R.assign ⟨rfl, rfl, rfl, rfl⟩ rfl ?_
      refine R.assign ⟨rfl, rfl, rfl, rfl⟩ rfl ?_
      refine GOps.nil ?_
      refine GW.seq ?_
      refine GW.seq ?_
      refine GW.region ?_
      refine R.move ⟨rfl, rfl, rfl, rfl⟩ rfl ?_
      refine R.eqI ⟨rfl, rfl, rfl, rfl⟩ rfl rfl ?_   -- eql ['t24', '0']
      refine GOps.nil ?_
      refine GW.ite rfl (fun hc2 => ?_) (fun hc2 => ?_)
      · try simp only [decide_eq_true_eq, decide_eq_false_iff_not, Bool.not_eq_true', Bool.not_eq_false'] at hc2
        refine GW.exit ?_
        refine GW.seq ?_
        refine GW.region ?_
        refine R.move ⟨rfl, rfl, rfl, rfl⟩ rfl ?_
        refine R.move ⟨rfl, rfl, rfl, rfl⟩ rfl ?_
        refine R.assign ⟨rfl, rfl, rfl, rfl⟩ rfl ?_
        refine R.assign ⟨rfl, rfl, rfl, rfl⟩ rfl ?_
        refine GOps.nil ?_
        exact GW.ret (Out.of (Res.two rfl rfl rfl) (Hs.refl _) ⟨_, _, _, hI, by first | exact hn0 | exact nextAt_ge (by omega), rfl, rfl⟩)
      · try simp only [decide_eq_true_eq, decide_eq_false_iff_not, Bool.not_eq_true', Bool.not_eq_false'] at hc2
        refine GW.skip ?_
        refine GW.seq ?_
        refine GW.region ?_
        refine R.move ⟨rfl, rfl, rfl, rfl⟩ rfl ?_
        refine R.move ⟨rfl, rfl, rfl, rfl⟩ rfl ?_
        refine R.move ⟨rfl, rfl, rfl, rfl⟩ rfl ?_
        refine R.build (vs := [(0, _), (1, _)]) (cells := #[.int .i64 (k : Int), .int .i64 (r : Int)]) ⟨rfl, rfl, rfl, rfl⟩ rfl (fun w => run_build w 90 _ _ (by kernel_rfl)) ?_   -- build 0 type 90
        refine R.buildSliceF (sz := 2) (bytes := 16) (vs := [_]) (cs := [_, _]) ⟨rfl, rfl, rfl, rfl⟩ rfl Tryd.underlying78 (InfoE.mk (by kernel_rfl)) rfl rfl rfl rfl rfl fun b30 => ?_   -- build 1 type 78
        refine R.append (sz := 2) (bytes := 16) (G1 := [_]) (H := H) (news := [.int .i64 (k : Int), .int .i64 (r : Int)]) ⟨rfl, rfl, rfl, rfl⟩ rfl rfl rfl Tryd.underlying78 (InfoE.mk (by kernel_rfl)) (hS) (rfl) (rfl) (.own (by repeat (first | exact List.mem_cons_self | apply List.mem_cons_of_mem | apply List.mem_append_right)) 0 _ (fun j v hv => by simpa using hv)) (by omega) (by rfl) (by omega) (by omega) fun v31 H31 hv31 => ?_
        refine R.assign ⟨rfl, rfl, rfl, rfl⟩ rfl ?_
        refine GOps.nil ?_
        refine GW.region ?_
        refine R.move ⟨rfl, rfl, rfl, rfl⟩ rfl ?_
        refine R.move ⟨rfl, rfl, rfl, rfl⟩ rfl ?_
        refine R.add (r := (((k + n) : Nat) : Int)) ⟨rfl, rfl, rfl, rfl⟩ rfl rfl (by rw [wrap64_id (by omega) (by omega)]; omega) ?_   -- add ['t32', 't33']
        refine R.assign ⟨rfl, rfl, rfl, rfl⟩ rfl ?_
        refine GOps.nil ?_
        exact ⟨k + n, v31, H31, (_, _), by omega, ⟨by omega, hI.next hn1, hv31, by simp only; omega⟩, rfl, by repeat (first | exact Keeps.nil _ | refine Keeps.cons rfl ?_), by first | exact Hs.refl _ | exact Hs.tl _ | exact Hs.tl2 _ _⟩
  · try simp only [decide_eq_true_eq, decide_eq_false_iff_not, Bool.not_eq_true', Bool.not_eq_false'] at hc1
    refine GW.exit ?_
    refine GW.seq ?_
    refine GW.region ?_
    refine R.move ⟨rfl, rfl, rfl, rfl⟩ rfl ?_
    refine R.move ⟨rfl, rfl, rfl, rfl⟩ rfl ?_
    refine R.assign ⟨rfl, rfl, rfl, rfl⟩ rfl ?_
    refine R.assign ⟨rfl, rfl, rfl, rfl⟩ rfl ?_
    refine GOps.nil ?_
    exact GW.ret (Out.of (Res.two rfl rfl rfl) (Hs.refl _) ⟨_, _, _, hI, by first | exact hn0 | exact nextAt_ge (by omega), rfl, rfl⟩)

theorem ref_Valid (w0 : World) (G : Hp) (s : ByteArray) (hm : s.size ≤ 1000000) : GC Tryd.prog w0 42 #[.string s] (fun v G' => v = .bool (validS (bs s)) ∧ G = G') G := by
  refine GC.body (args := [.string s]) Tryd.func42 rfl (by kernel_rfl) rfl ?_
  refine GW.seq ?_
  refine GW.region ?_
  refine R.assign ⟨rfl, rfl, rfl, rfl⟩ rfl ?_
  refine GOps.nil ?_
  refine GW.seq ?_
  refine GW.region ?_
  refine R.move ⟨rfl, rfl, rfl, rfl⟩ rfl ?_
  refine R.call ⟨rfl, rfl, rfl, rfl⟩ rfl (vs := [_]) rfl ((ref_Runes _ _ _ (by omega)).mono ?_)
  rintro _ _ ⟨k, vl, H, hI, hn, rfl, rfl⟩
  refine R.move ⟨rfl, rfl, rfl, rfl⟩ rfl ?_
  refine R.extract ⟨rfl, rfl, rfl, rfl⟩ rfl rfl ?_
  refine R.extract ⟨rfl, rfl, rfl, rfl⟩ rfl rfl ?_
  refine R.assign ⟨rfl, rfl, rfl, rfl⟩ rfl ?_
  refine R.assign ⟨rfl, rfl, rfl, rfl⟩ rfl ?_
  refine GOps.nil ?_
  refine GW.seq ?_
  refine GW.region ?_
  refine R.move ⟨rfl, rfl, rfl, rfl⟩ rfl ?_
  refine R.move ⟨rfl, rfl, rfl, rfl⟩ rfl ?_
  refine R.lenStr ⟨rfl, rfl, rfl, rfl⟩ rfl rfl Tryd.underlying9 ?_
  refine R.eqI ⟨rfl, rfl, rfl, rfl⟩ rfl rfl ?_   -- eql ['t10', 't12']
  refine R.assign ⟨rfl, rfl, rfl, rfl⟩ rfl ?_
  refine GOps.nil ?_
  refine GW.ret (Out.of (Res.one rfl rfl) (Hs.app _) ⟨?_, rfl⟩)
  refine vb ?_; rw [valid_of hI hn]


def inS (c : Nat) (l : List Nat) : Bool := l.contains c


theorem ref_in (w0 : World) (G : Hp) (c : Nat) (s : ByteArray) (hm : s.size ≤ 9223372036854775807) : GC Tryd.prog w0 57 #[.int .u8 (c : Int), .string s] (fun v G' => v = .bool (!allTo (fun i => !(decide ((bs s).getD i 0 = c))) s.size) ∧ G = G') G := by
  refine GC.body (args := [.int .u8 (c : Int), .string s]) Tryd.func57 rfl (by kernel_rfl) rfl ?_
  refine GW.seq ?_
  refine GW.region ?_
  refine R.assign ⟨rfl, rfl, rfl, rfl⟩ rfl ?_
  refine GOps.nil ?_
  refine GW.seq ?_
  refine GW.seq ?_
  refine GW.region ?_
  refine R.assign ⟨rfl, rfl, rfl, rfl⟩ rfl ?_
  refine GOps.nil ?_
  refine GW.block ?_
  -- LOOP: live 0:c, 1:s, 5:i
  refine GW.loopI (fun i : Nat => [(0, .int .u8 (c : Int)), (1, .string s), (5, .int .i64 i)]) (fun i => G) (fun i => s.size - i) (fun i => i ≤ s.size ∧ allTo (fun i => !(decide ((bs s).getD i 0 = c))) i = true) 0
    (by repeat (first | exact Keeps.nil _ | refine Keeps.cons rfl ?_)) (Hs.refl _) (⟨by omega, rfl⟩) ?_
  rintro i ⟨hi, h0⟩
  refine GW.seq ?_
  refine GW.seq ?_
  refine GW.region ?_
  refine R.move ⟨rfl, rfl, rfl, rfl⟩ rfl ?_
  refine R.move ⟨rfl, rfl, rfl, rfl⟩ rfl ?_
  refine R.lenStr ⟨rfl, rfl, rfl, rfl⟩ rfl rfl Tryd.underlying9 ?_
  refine R.lss ⟨rfl, rfl, rfl, rfl⟩ rfl rfl ?_   -- lss ['t6', 't8']
  refine GOps.nil ?_
  refine GW.ite rfl (fun hc1 => ?_) (fun hc1 => ?_)
  · try simp only [decide_eq_true_eq, decide_eq_false_iff_not, Bool.not_eq_true', Bool.not_eq_false'] at hc1
    refine GW.skip ?_
    refine GW.seq ?_
    refine GW.block ?_
    refine GW.seq ?_
    refine GW.region ?_
    refine R.move ⟨rfl, rfl, rfl, rfl⟩ rfl ?_
    refine R.move ⟨rfl, rfl, rfl, rfl⟩ rfl ?_
    refine R.indexStrA ⟨rfl, rfl, rfl, rfl⟩ rfl rfl Tryd.underlying9 (by omega) (by omega) fun c1 hx1 hb1 => ?_   -- "ref.go:25" ['t12', 't13']
    refine R.move ⟨rfl, rfl, rfl, rfl⟩ rfl ?_
    refine R.eqI ⟨rfl, rfl, rfl, rfl⟩ rfl rfl ?_   -- eql ['t14', 't15']
    refine GOps.nil ?_
    refine GW.ite rfl (fun hc2 => ?_) (fun hc2 => ?_)
    · try simp only [decide_eq_true_eq, decide_eq_false_iff_not, Bool.not_eq_true', Bool.not_eq_false'] at hc2
      refine GW.seq ?_
      refine GW.region ?_
      refine R.assign ⟨rfl, rfl, rfl, rfl⟩ rfl ?_
      refine GOps.nil ?_
      refine GW.ret (Out.of (Res.one rfl rfl) (by first | exact Hs.refl _ | exact Hs.tl _ | exact Hs.tl2 _ _ | exact Hs.tl3 _ _ _ | exact (Hs.app _).trans (Hs.tl _) | exact (Hs.app _).trans ((Hs.app _).trans (Hs.tl _))) ⟨?_, rfl⟩)
      refine vb ?_; first | (rw [show s.size = i from by omega, h0]; rfl) | (rw [allTo_false (f := fun i => !(decide ((bs s).getD i 0 = c))) (i := i) (by omega) (by simp only [getD_of (i := i) hx1]; rw [decide_eq_true (by omega)]; rfl)]; rfl)
    · try simp only [decide_eq_true_eq, decide_eq_false_iff_not, Bool.not_eq_true', Bool.not_eq_false'] at hc2
      refine GW.skip ?_
      refine GW.region ?_
      refine R.move ⟨rfl, rfl, rfl, rfl⟩ rfl ?_
      refine R.add (r := (((i + 1) : Nat) : Int)) ⟨rfl, rfl, rfl, rfl⟩ rfl rfl (by rw [wrap64_id (by omega) (by omega)]; omega) ?_   -- add ['t10', '1']
      refine R.assign ⟨rfl, rfl, rfl, rfl⟩ rfl ?_
      refine GOps.nil ?_
      exact ⟨i + 1, by omega, ⟨by omega, allTo_succ h0 (by simp only [getD_of (i := i) hx1]; rw [decide_eq_false (by omega)]; rfl)⟩, rfl, by repeat (first | exact Keeps.nil _ | refine Keeps.cons rfl ?_), by first | exact Hs.refl _ | exact Hs.tl _ | exact Hs.tl2 _ _⟩
  · try simp only [decide_eq_true_eq, decide_eq_false_iff_not, Bool.not_eq_true', Bool.not_eq_false'] at hc1
    refine GW.exit ?_
    refine GW.seq ?_
    refine GW.region ?_
    refine R.assign ⟨rfl, rfl, rfl, rfl⟩ rfl ?_
    refine GOps.nil ?_
    refine GW.ret (Out.of (Res.one rfl rfl) (by first | exact Hs.refl _ | exact Hs.tl _ | exact Hs.tl2 _ _ | exact Hs.tl3 _ _ _ | exact (Hs.app _).trans (Hs.tl _) | exact (Hs.app _).trans ((Hs.app _).trans (Hs.tl _))) ⟨?_, rfl⟩)
    refine vb ?_; first | (rw [show s.size = i from by omega, h0]; rfl) | (rw [allTo_false (f := fun i => !(decide ((bs s).getD i 0 = c))) (i := i) (by omega) (by simp only [getD_of (i := i) hx1]; rw [decide_eq_true (by omega)]; rfl)]; rfl)


def badSet6 : ByteArray := ⟨#[60, 62, 123, 125, 124, 94]⟩
def badI (c : Nat) : Bool := decide (c ≤ 32) || ((!allTo (fun i => !(decide ((bs badSet6).getD i 0 = c))) badSet6.size) || (decide (c = 34) || (decide (c = 92) || decide (c = 96))))
theorem badI_eq (c : Nat) (h : c < 256) : badI c = badC c := by
  have hh : ∀ c : Fin 256, badI c.val = badC c.val := by decide +kernel
  exact hh ⟨c, h⟩


theorem ref_IRI (w0 : World) (G : Hp) (s : ByteArray) (hm : s.size ≤ 9223372036854775807) : GC Tryd.prog w0 43 #[.string s] (fun v G' => v = .bool (iriS (bs s)) ∧ G = G') G := by
  refine GC.body (args := [.string s]) Tryd.func43 rfl (by kernel_rfl) rfl ?_
  refine GW.seq ?_
  refine GW.region ?_
  refine R.assign ⟨rfl, rfl, rfl, rfl⟩ rfl ?_
  refine GOps.nil ?_
  refine GW.seq ?_
  refine GW.seq ?_
  refine GW.region ?_
  refine R.move ⟨rfl, rfl, rfl, rfl⟩ rfl ?_
  refine R.lenStr ⟨rfl, rfl, rfl, rfl⟩ rfl rfl Tryd.underlying9 ?_
  refine R.lss ⟨rfl, rfl, rfl, rfl⟩ rfl rfl ?_   -- lss ['t5', '1']
  refine R.move ⟨rfl, rfl, rfl, rfl⟩ rfl ?_
  refine GOps.caseB 7 rfl (fun hg1 => ?_) (fun hg1 => ?_)
  · try simp only [decide_eq_true_eq, decide_eq_false_iff_not, Bool.not_eq_true', Bool.not_eq_false'] at hg1
    refine GOps.skip rfl rfl rfl ?_
    refine GOps.skip rfl rfl rfl ?_
    refine GOps.skip rfl rfl rfl ?_
    refine R.pick_t ⟨rfl, rfl, rfl, rfl⟩ rfl rfl ?_
    refine R.move ⟨rfl, rfl, rfl, rfl⟩ rfl ?_
    refine GOps.skip rfl rfl rfl ?_
    refine GOps.skip rfl rfl rfl ?_
    refine GOps.skip rfl rfl rfl ?_
    refine R.pick_t ⟨rfl, rfl, rfl, rfl⟩ rfl rfl ?_
    refine GOps.nil ?_
    refine GW.cond_t rfl ?_
    refine GW.seq ?_
    refine GW.region ?_
    refine R.assign ⟨rfl, rfl, rfl, rfl⟩ rfl ?_
    refine GOps.nil ?_
    refine GW.ret (Out.of (Res.one rfl rfl) (by first | exact Hs.refl _ | exact Hs.tl _ | exact Hs.tl2 _ _ | exact Hs.tl3 _ _ _ | exact (Hs.app _).trans (Hs.tl _) | exact (Hs.app _).trans ((Hs.app _).trans (Hs.tl _))) ⟨?_, rfl⟩)
    refine vb ?_; symm; first | exact iri_no1 (by omega) | exact iri_no2 (by assumption) | exact iri_no3 (i := i) (by omega) (by rw [getD_of (i := i) (hcx (by omega)), ← badI_eq c hcb]; assumption) | exact iri_yes (by omega) (by omega) (by assumption) (by rw [show s.size = i by omega]; exact h0)
  · try simp only [decide_eq_true_eq, decide_eq_false_iff_not, Bool.not_eq_true', Bool.not_eq_false'] at hg1
    refine R.move ⟨rfl, rfl, rfl, rfl⟩ rfl ?_
    refine R.lenStr ⟨rfl, rfl, rfl, rfl⟩ rfl rfl Tryd.underlying9 ?_
    refine R.gtr ⟨rfl, rfl, rfl, rfl⟩ rfl rfl ?_   -- gtr ['t9', '1000']
    refine R.pick_f ⟨rfl, rfl, rfl, rfl⟩ rfl rfl ?_
    refine R.move ⟨rfl, rfl, rfl, rfl⟩ rfl ?_
    refine GOps.caseB 12 rfl (fun hg2 => ?_) (fun hg2 => ?_)
    · try simp only [decide_eq_true_eq, decide_eq_false_iff_not, Bool.not_eq_true', Bool.not_eq_false'] at hg2
      refine GOps.skip rfl rfl rfl ?_
      refine GOps.skip rfl rfl rfl ?_
      refine GOps.skip rfl rfl rfl ?_
      refine R.pick_t ⟨rfl, rfl, rfl, rfl⟩ rfl rfl ?_
      refine GOps.nil ?_
      refine GW.cond_t rfl ?_
      refine GW.seq ?_
      refine GW.region ?_
      refine R.assign ⟨rfl, rfl, rfl, rfl⟩ rfl ?_
      refine GOps.nil ?_
      refine GW.ret (Out.of (Res.one rfl rfl) (by first | exact Hs.refl _ | exact Hs.tl _ | exact Hs.tl2 _ _ | exact Hs.tl3 _ _ _ | exact (Hs.app _).trans (Hs.tl _) | exact (Hs.app _).trans ((Hs.app _).trans (Hs.tl _))) ⟨?_, rfl⟩)
      refine vb ?_; symm; first | exact iri_no1 (by omega) | exact iri_no2 (by assumption) | exact iri_no3 (i := i) (by omega) (by rw [getD_of (i := i) (hcx (by omega)), ← badI_eq c hcb]; assumption) | exact iri_yes (by omega) (by omega) (by assumption) (by rw [show s.size = i by omega]; exact h0)
    · try simp only [decide_eq_true_eq, decide_eq_false_iff_not, Bool.not_eq_true', Bool.not_eq_false'] at hg2
      refine R.move ⟨rfl, rfl, rfl, rfl⟩ rfl ?_
      refine R.call ⟨rfl, rfl, rfl, rfl⟩ rfl (vs := [_]) rfl ((ref_Valid _ _ _ (by omega)).mono ?_)
      rintro _ _ ⟨rfl, rfl⟩
      refine R.not ⟨rfl, rfl, rfl, rfl⟩ rfl ?_
      refine R.pick_f ⟨rfl, rfl, rfl, rfl⟩ rfl rfl ?_
      refine GOps.nil ?_
      refine GW.ite rfl (fun hc3 => ?_) (fun hc3 => ?_)
      · try simp only [decide_eq_true_eq, decide_eq_false_iff_not, Bool.not_eq_true', Bool.not_eq_false'] at hc3
        refine GW.seq ?_
        refine GW.region ?_
        refine R.assign ⟨rfl, rfl, rfl, rfl⟩ rfl ?_
        refine GOps.nil ?_
        refine GW.ret (Out.of (Res.one rfl rfl) (by first | exact Hs.refl _ | exact Hs.tl _ | exact Hs.tl2 _ _ | exact Hs.tl3 _ _ _ | exact (Hs.app _).trans (Hs.tl _) | exact (Hs.app _).trans ((Hs.app _).trans (Hs.tl _))) ⟨?_, rfl⟩)
        refine vb ?_; symm; first | exact iri_no1 (by omega) | exact iri_no2 (by assumption) | exact iri_no3 (i := i) (by omega) (by rw [getD_of (i := i) (hcx (by omega)), ← badI_eq c hcb]; assumption) | exact iri_yes (by omega) (by omega) (by assumption) (by rw [show s.size = i by omega]; exact h0)
      · try simp only [decide_eq_true_eq, decide_eq_false_iff_not, Bool.not_eq_true', Bool.not_eq_false'] at hc3
        refine GW.skip ?_
        refine GW.seq ?_
        refine GW.seq ?_
        refine GW.region ?_
        refine R.assign ⟨rfl, rfl, rfl, rfl⟩ rfl ?_
        refine GOps.nil ?_
        refine GW.block ?_
        -- LOOP: live 0:s, 3:i
        refine GW.loopI (fun i : Nat => [(0, .string s), (3, .int .i64 i)]) (fun i => G) (fun i => s.size - i) (fun i => i ≤ s.size ∧ allTo (fun i => !badC ((bs s).getD i 0)) i = true) 0
          (by repeat (first | exact Keeps.nil _ | refine Keeps.cons rfl ?_)) (Hs.refl _) (⟨by omega, rfl⟩) ?_
        rintro i ⟨hi, h0⟩
        obtain ⟨c, hcx, hcb⟩ : ∃ c, (i < s.size → (bs s)[i]? = some c) ∧ c < 256 := by
          rcases Nat.lt_or_ge i s.size with h | h
          · obtain ⟨c, h1, h2⟩ := bs_some s i h
            exact ⟨c, fun _ => h1, h2⟩
          · exact ⟨0, fun h2 => absurd h2 (by omega), by omega⟩
        refine GW.seq ?_
        refine GW.seq ?_
        refine GW.region ?_
        refine R.move ⟨rfl, rfl, rfl, rfl⟩ rfl ?_
        refine R.move ⟨rfl, rfl, rfl, rfl⟩ rfl ?_
        refine R.lenStr ⟨rfl, rfl, rfl, rfl⟩ rfl rfl Tryd.underlying9 ?_
        refine R.lss ⟨rfl, rfl, rfl, rfl⟩ rfl rfl ?_   -- lss ['t17', 't19']
        refine GOps.nil ?_
        refine GW.ite rfl (fun hc4 => ?_) (fun hc4 => ?_)
        · try simp only [decide_eq_true_eq, decide_eq_false_iff_not, Bool.not_eq_true', Bool.not_eq_false'] at hc4
          refine GW.skip ?_
          refine GW.seq ?_
          refine GW.block ?_
          refine GW.cutB 50 (badI c) [(0, .string s), (3, .int .i64 i)] (G' := G) ?_ ?_
          · refine R.move ⟨rfl, rfl, rfl, rfl⟩ rfl ?_
            refine R.move ⟨rfl, rfl, rfl, rfl⟩ rfl ?_
            refine R.indexStr ⟨rfl, rfl, rfl, rfl⟩ rfl rfl Tryd.underlying9 (by omega) (hcx (by omega)) ?_   -- "ref.go:38" ['t23', 't24']
            refine R.leq ⟨rfl, rfl, rfl, rfl⟩ rfl rfl ?_   -- leq ['t25', '32']
            refine R.move ⟨rfl, rfl, rfl, rfl⟩ rfl ?_
            refine GOps.caseB 27 rfl (fun hg5 => ?_) (fun hg5 => ?_)
            · try simp only [decide_eq_true_eq, decide_eq_false_iff_not, Bool.not_eq_true', Bool.not_eq_false'] at hg5
              refine GOps.skip rfl rfl rfl ?_
              refine GOps.skip rfl rfl rfl ?_
              refine GOps.skip rfl rfl rfl ?_
              refine GOps.skip rfl rfl rfl ?_
              refine R.pick_t ⟨rfl, rfl, rfl, rfl⟩ rfl rfl ?_
              refine R.move ⟨rfl, rfl, rfl, rfl⟩ rfl ?_
              refine GOps.skip rfl rfl rfl ?_
              refine GOps.skip rfl rfl rfl ?_
              refine GOps.skip rfl rfl rfl ?_
              refine GOps.skip rfl rfl rfl ?_
              refine R.pick_t ⟨rfl, rfl, rfl, rfl⟩ rfl rfl ?_
              refine R.move ⟨rfl, rfl, rfl, rfl⟩ rfl ?_
              refine GOps.skip rfl rfl rfl ?_
              refine GOps.skip rfl rfl rfl ?_
              refine GOps.skip rfl rfl rfl ?_
              refine GOps.skip rfl rfl rfl ?_
              refine R.pick_t ⟨rfl, rfl, rfl, rfl⟩ rfl rfl ?_
              refine R.move ⟨rfl, rfl, rfl, rfl⟩ rfl ?_
              refine GOps.skip rfl rfl rfl ?_
              refine GOps.skip rfl rfl rfl ?_
              refine GOps.skip rfl rfl rfl ?_
              refine GOps.skip rfl rfl rfl ?_
              refine R.pick_t ⟨rfl, rfl, rfl, rfl⟩ rfl rfl ?_
              refine GOps.nil ?_
              exact ⟨rfl, rfl, by repeat (first | exact Keeps.nil _ | refine Keeps.cons rfl ?_), by first | exact Hs.refl _ | exact Hs.tl _, vbs (by unfold badI badSet6; (generalize allTo (fun i => !(decide ((bs (ByteArray.mk #[60, 62, 123, 125, 124, 94])).getD i 0 = c))) (ByteArray.mk #[60, 62, 123, 125, 124, 94]).size = b at *); (first | rw [decide_eq_true (show c ≤ 32 by omega)] | rw [decide_eq_false (show ¬ c ≤ 32 by omega)]); first | rfl | (cases b <;> first | rfl | (exfalso; simp_all; done) | (rw [Bool.eq_iff_iff]; simp; omega)))⟩
            · try simp only [decide_eq_true_eq, decide_eq_false_iff_not, Bool.not_eq_true', Bool.not_eq_false'] at hg5
              refine R.move ⟨rfl, rfl, rfl, rfl⟩ rfl ?_
              refine R.move ⟨rfl, rfl, rfl, rfl⟩ rfl ?_
              refine R.indexStr ⟨rfl, rfl, rfl, rfl⟩ rfl rfl Tryd.underlying9 (by omega) (hcx (by omega)) ?_   -- "ref.go:38" ['t28', 't29']
              refine R.call ⟨rfl, rfl, rfl, rfl⟩ rfl (vs := [_, _]) rfl ((ref_in _ _ _ _ (by decide)).mono ?_)
              rintro _ _ ⟨rfl, rfl⟩
              refine R.pick_f ⟨rfl, rfl, rfl, rfl⟩ rfl rfl ?_
              refine R.move ⟨rfl, rfl, rfl, rfl⟩ rfl ?_
              refine GOps.caseB 33 rfl (fun hg6 => ?_) (fun hg6 => ?_)
              · try simp only [decide_eq_true_eq, decide_eq_false_iff_not, Bool.not_eq_true', Bool.not_eq_false'] at hg6
                refine GOps.skip rfl rfl rfl ?_
                refine GOps.skip rfl rfl rfl ?_
                refine GOps.skip rfl rfl rfl ?_
                refine GOps.skip rfl rfl rfl ?_
                refine R.pick_t ⟨rfl, rfl, rfl, rfl⟩ rfl rfl ?_
                refine R.move ⟨rfl, rfl, rfl, rfl⟩ rfl ?_
                refine GOps.skip rfl rfl rfl ?_
                refine GOps.skip rfl rfl rfl ?_
                refine GOps.skip rfl rfl rfl ?_
                refine GOps.skip rfl rfl rfl ?_
                refine R.pick_t ⟨rfl, rfl, rfl, rfl⟩ rfl rfl ?_
                refine R.move ⟨rfl, rfl, rfl, rfl⟩ rfl ?_
                refine GOps.skip rfl rfl rfl ?_
                refine GOps.skip rfl rfl rfl ?_
                refine GOps.skip rfl rfl rfl ?_
                refine GOps.skip rfl rfl rfl ?_
                refine R.pick_t ⟨rfl, rfl, rfl, rfl⟩ rfl rfl ?_
                refine GOps.nil ?_
                exact ⟨rfl, rfl, by repeat (first | exact Keeps.nil _ | refine Keeps.cons rfl ?_), by first | exact Hs.refl _ | exact Hs.tl _, vbs (by unfold badI badSet6; (generalize allTo (fun i => !(decide ((bs (ByteArray.mk #[60, 62, 123, 125, 124, 94])).getD i 0 = c))) (ByteArray.mk #[60, 62, 123, 125, 124, 94]).size = b at *); (first | rw [decide_eq_true (show c ≤ 32 by omega)] | rw [decide_eq_false (show ¬ c ≤ 32 by omega)]); first | rfl | (cases b <;> first | rfl | (exfalso; simp_all; done) | (rw [Bool.eq_iff_iff]; simp; omega)))⟩
              · try simp only [decide_eq_true_eq, decide_eq_false_iff_not, Bool.not_eq_true', Bool.not_eq_false'] at hg6
                refine R.move ⟨rfl, rfl, rfl, rfl⟩ rfl ?_
                refine R.move ⟨rfl, rfl, rfl, rfl⟩ rfl ?_
                refine R.indexStr ⟨rfl, rfl, rfl, rfl⟩ rfl rfl Tryd.underlying9 (by omega) (hcx (by omega)) ?_   -- "ref.go:38" ['t34', 't35']
                refine R.eqI ⟨rfl, rfl, rfl, rfl⟩ rfl rfl ?_   -- eql ['t36', '34']
                refine R.pick_f ⟨rfl, rfl, rfl, rfl⟩ rfl rfl ?_
                refine R.move ⟨rfl, rfl, rfl, rfl⟩ rfl ?_
                refine GOps.caseB 39 rfl (fun hg7 => ?_) (fun hg7 => ?_)
                · try simp only [decide_eq_true_eq, decide_eq_false_iff_not, Bool.not_eq_true', Bool.not_eq_false'] at hg7
                  refine GOps.skip rfl rfl rfl ?_
                  refine GOps.skip rfl rfl rfl ?_
                  refine GOps.skip rfl rfl rfl ?_
                  refine GOps.skip rfl rfl rfl ?_
                  refine R.pick_t ⟨rfl, rfl, rfl, rfl⟩ rfl rfl ?_
                  refine R.move ⟨rfl, rfl, rfl, rfl⟩ rfl ?_
                  refine GOps.skip rfl rfl rfl ?_
                  refine GOps.skip rfl rfl rfl ?_
                  refine GOps.skip rfl rfl rfl ?_
                  refine GOps.skip rfl rfl rfl ?_
                  refine R.pick_t ⟨rfl, rfl, rfl, rfl⟩ rfl rfl ?_
                  refine GOps.nil ?_
                  exact ⟨rfl, rfl, by repeat (first | exact Keeps.nil _ | refine Keeps.cons rfl ?_), by first | exact Hs.refl _ | exact Hs.tl _, vbs (by unfold badI badSet6; (generalize allTo (fun i => !(decide ((bs (ByteArray.mk #[60, 62, 123, 125, 124, 94])).getD i 0 = c))) (ByteArray.mk #[60, 62, 123, 125, 124, 94]).size = b at *); (first | rw [decide_eq_true (show c ≤ 32 by omega)] | rw [decide_eq_false (show ¬ c ≤ 32 by omega)]); first | rfl | (cases b <;> first | rfl | (exfalso; simp_all; done) | (rw [Bool.eq_iff_iff]; simp; omega)))⟩
                · try simp only [decide_eq_true_eq, decide_eq_false_iff_not, Bool.not_eq_true', Bool.not_eq_false'] at hg7
                  refine R.move ⟨rfl, rfl, rfl, rfl⟩ rfl ?_
                  refine R.move ⟨rfl, rfl, rfl, rfl⟩ rfl ?_
                  refine R.indexStr ⟨rfl, rfl, rfl, rfl⟩ rfl rfl Tryd.underlying9 (by omega) (hcx (by omega)) ?_   -- "ref.go:38" ['t40', 't41']
                  refine R.eqI ⟨rfl, rfl, rfl, rfl⟩ rfl rfl ?_   -- eql ['t42', '92']
                  refine R.pick_f ⟨rfl, rfl, rfl, rfl⟩ rfl rfl ?_
                  refine R.move ⟨rfl, rfl, rfl, rfl⟩ rfl ?_
                  refine GOps.caseB 45 rfl (fun hg8 => ?_) (fun hg8 => ?_)
                  · try simp only [decide_eq_true_eq, decide_eq_false_iff_not, Bool.not_eq_true', Bool.not_eq_false'] at hg8
                    refine GOps.skip rfl rfl rfl ?_
                    refine GOps.skip rfl rfl rfl ?_
                    refine GOps.skip rfl rfl rfl ?_
                    refine GOps.skip rfl rfl rfl ?_
                    refine R.pick_t ⟨rfl, rfl, rfl, rfl⟩ rfl rfl ?_
                    refine GOps.nil ?_
                    exact ⟨rfl, rfl, by repeat (first | exact Keeps.nil _ | refine Keeps.cons rfl ?_), by first | exact Hs.refl _ | exact Hs.tl _, vbs (by unfold badI badSet6; (generalize allTo (fun i => !(decide ((bs (ByteArray.mk #[60, 62, 123, 125, 124, 94])).getD i 0 = c))) (ByteArray.mk #[60, 62, 123, 125, 124, 94]).size = b at *); (first | rw [decide_eq_true (show c ≤ 32 by omega)] | rw [decide_eq_false (show ¬ c ≤ 32 by omega)]); first | rfl | (cases b <;> first | rfl | (exfalso; simp_all; done) | (rw [Bool.eq_iff_iff]; simp; omega)))⟩
                  · try simp only [decide_eq_true_eq, decide_eq_false_iff_not, Bool.not_eq_true', Bool.not_eq_false'] at hg8
                    refine R.move ⟨rfl, rfl, rfl, rfl⟩ rfl ?_
                    refine R.move ⟨rfl, rfl, rfl, rfl⟩ rfl ?_
                    refine R.indexStr ⟨rfl, rfl, rfl, rfl⟩ rfl rfl Tryd.underlying9 (by omega) (hcx (by omega)) ?_   -- "ref.go:38" ['t46', 't47']
                    refine R.eqI ⟨rfl, rfl, rfl, rfl⟩ rfl rfl ?_   -- eql ['t48', '96']
                    refine R.pick_f ⟨rfl, rfl, rfl, rfl⟩ rfl rfl ?_
                    refine GOps.nil ?_
                    exact ⟨rfl, rfl, by repeat (first | exact Keeps.nil _ | refine Keeps.cons rfl ?_), by first | exact Hs.refl _ | exact Hs.tl _, vbs (by unfold badI badSet6; (generalize allTo (fun i => !(decide ((bs (ByteArray.mk #[60, 62, 123, 125, 124, 94])).getD i 0 = c))) (ByteArray.mk #[60, 62, 123, 125, 124, 94]).size = b at *); (first | rw [decide_eq_true (show c ≤ 32 by omega)] | rw [decide_eq_false (show ¬ c ≤ 32 by omega)]); first | rfl | (cases b <;> first | rfl | (exfalso; simp_all; done) | (rw [Bool.eq_iff_iff]; simp; omega)))⟩
          · refine GW.ite rfl (fun hc9 => ?_) (fun hc9 => ?_)
            · try simp only [decide_eq_true_eq, decide_eq_false_iff_not, Bool.not_eq_true', Bool.not_eq_false'] at hc9
              refine GW.seq ?_
              refine GW.region ?_
              refine R.assign ⟨rfl, rfl, rfl, rfl⟩ rfl ?_
              refine GOps.nil ?_
              refine GW.ret (Out.of (Res.one rfl rfl) (by first | exact Hs.refl _ | exact Hs.tl _ | exact Hs.tl2 _ _ | exact Hs.tl3 _ _ _ | exact (Hs.app _).trans (Hs.tl _) | exact (Hs.app _).trans ((Hs.app _).trans (Hs.tl _))) ⟨?_, rfl⟩)
              refine vb ?_; symm; first | exact iri_no1 (by omega) | exact iri_no2 (by assumption) | exact iri_no3 (i := i) (by omega) (by rw [getD_of (i := i) (hcx (by omega)), ← badI_eq c hcb]; assumption) | exact iri_yes (by omega) (by omega) (by assumption) (by rw [show s.size = i by omega]; exact h0)
            · try simp only [decide_eq_true_eq, decide_eq_false_iff_not, Bool.not_eq_true', Bool.not_eq_false'] at hc9
              refine GW.skip ?_
              refine GW.region ?_
              refine R.move ⟨rfl, rfl, rfl, rfl⟩ rfl ?_
              refine R.add (r := _) ⟨rfl, rfl, rfl, rfl⟩ rfl rfl (wrap64_id (by omega) (by omega)) ?_   -- add ['t21', '1']
              refine R.assign ⟨rfl, rfl, rfl, rfl⟩ rfl ?_
              refine GOps.nil ?_
              exact ⟨i + 1, by omega, ⟨by omega, allTo_succ h0 (by simp only [getD_of (i := i) (hcx (by omega)), ← badI_eq c hcb]; simpa using (by assumption : badI c = false))⟩, rfl, by repeat (first | exact Keeps.nil _ | refine Keeps.cons rfl ?_), by first | exact Hs.refl _ | exact Hs.tl _ | exact Hs.tl2 _ _⟩
        · try simp only [decide_eq_true_eq, decide_eq_false_iff_not, Bool.not_eq_true', Bool.not_eq_false'] at hc4
          refine GW.exit ?_
          refine GW.seq ?_
          refine GW.region ?_
          refine R.assign ⟨rfl, rfl, rfl, rfl⟩ rfl ?_
          refine GOps.nil ?_
          refine GW.ret (Out.of (Res.one rfl rfl) (by first | exact Hs.refl _ | exact Hs.tl _ | exact Hs.tl2 _ _ | exact Hs.tl3 _ _ _ | exact (Hs.app _).trans (Hs.tl _) | exact (Hs.app _).trans ((Hs.app _).trans (Hs.tl _))) ⟨?_, rfl⟩)
          refine vb ?_; symm; first | exact iri_no1 (by omega) | exact iri_no2 (by assumption) | exact iri_no3 (i := i) (by omega) (by rw [getD_of (i := i) (hcx (by omega)), ← badI_eq c hcb]; assumption) | exact iri_yes (by omega) (by omega) (by assumption) (by rw [show s.size = i by omega]; exact h0)

end Go.Proofs.YtgjmandjhjfgkaaDoor.Gl
