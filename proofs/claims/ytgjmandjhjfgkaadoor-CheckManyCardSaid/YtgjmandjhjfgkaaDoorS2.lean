import Derived.Test.YtgjmandjhjfgkaaDoorS1
import Derived.Test.YtgjmandjhjfgkaaDoorGd
import Derived.Laws.BitsLemmas
namespace Go.Proofs.YtgjmandjhjfgkaaDoor.Gl
open Go.RowKit Go.Shelf
set_option linter.unusedVariables false
set_option linter.unnecessarySimpa false
set_option linter.unusedSimpArgs false



/-! ### plain: runes as bytes -/
theorem str_pos {s : ByteArray} (h : (s.toList == (ByteArray.mk #[]).toList) = false) : 0 < s.size := by
  rcases Nat.eq_zero_or_pos s.size with h0 | h0
  · rw [toList_beq, size_zero.1 h0] at h
    cases h
  · exact h0
theorem str_nil {s : ByteArray} (h : (s.toList == (ByteArray.mk #[]).toList) = true) : bs s = [] := by
  rw [toList_beq, beq_iff_eq] at h
  exact h
def mayR (r : Nat) : Bool := decide (r ≤ 1114111) && (decide (r < 55296) || decide (57343 < r))
def sizeR (r : Nat) : Nat := if r < 128 then 1 else if r < 2048 then 2 else if r < 65536 then 3 else 4
def isCont (c : Nat) : Bool := decide (128 ≤ c) && decide (c < 192)
def hdM (c : Nat) : Int := if c < 128 then 0 else if 194 ≤ c ∧ c < 224 then 1 else if 224 ≤ c ∧ c < 240 then 2 else if 240 ≤ c ∧ c < 245 then 3 else -1
def hdR (c : Nat) : Nat := if c < 128 then c else if 194 ≤ c ∧ c < 224 then c % 32 else if 224 ≤ c ∧ c < 240 then c % 16 else if 240 ≤ c ∧ c < 245 then c % 8 else 0
def accR (l : List Nat) (r : Nat) : Nat → Nat
  | 0 => r
  | i + 1 => accR l r i * 64 + l.getD (i + 1) 0 % 64
def getS (l : List Nat) : Option (Nat × Nat) :=
  let c := l.getD 0 0
  let m := (hdM c).toNat
  let r := accR l (hdR c) m
  if 0 ≤ hdM c ∧ m < l.length ∧ allTo (fun i => isCont (l.getD (i + 1) 0)) m = true ∧ mayR r = true ∧ sizeR r = m + 1 then some (r, m + 1) else none
def getV : Option (Nat × Nat) → Value
  | some (r, n) => .tuple #[.int .i64 (r : Int), .int .i64 (n : Int), .int .i64 0]
  | none => .tuple #[.int .i64 0, .int .i64 0, .int .i64 4]
theorem hdM_le (c : Nat) : hdM c ≤ 3 := by unfold hdM; (repeat' split) <;> omega
theorem hdR_le (c : Nat) : hdR c ≤ 127 := by unfold hdR; (repeat' split) <;> omega
theorem accR_bound (l : List Nat) (r : Nat) (hr : r ≤ 127) : ∀ i, i ≤ 3 → accR l r i < 33554432 := by
  have h1 : ∀ x : Nat, x % 64 < 64 := fun x => Nat.mod_lt _ (by omega)
  intro i hi
  have a1 := h1 (l.getD 1 0)
  have a2 := h1 (l.getD 2 0)
  have a3 := h1 (l.getD 3 0)
  rcases (by omega : i = 0 ∨ i = 1 ∨ i = 2 ∨ i = 3) with rfl | rfl | rfl | rfl <;> simp only [accR] <;> omega
theorem cont_iff (c : Nat) (hc : c < 256) : (Go.bits .and .u8 (c : Int) 192 = 128) ↔ isCont c = true := by
  have h : ∀ c : Fin 256, (Go.bits .and .u8 (c.val : Int) 192 = 128) ↔ isCont c.val = true := by decide +kernel
  exact h ⟨c, hc⟩
theorem or64 (x y : Nat) (hx : x < 33554432) (hy : y < 64) : Go.bits .or .i64 ((x : Int) * 64) (y : Int) = ((x * 64 + y : Nat) : Int) := by
  rw [bits_join .i64 63 (by decide) (fun n h0 h1 => wrap64_id (by omega) (by omega)) 6 _ _ (by omega) (by omega) (by omega) (by omega) (by omega) (by omega)]
  omega
theorem getS_nil : getS [] = none := by simp [getS]
theorem getS_head {l : List Nat} {c : Nat} (hc : l[0]? = some c) (h : hdM c < 0 ∨ (l.length : Int) ≤ hdM c) : getS l = none := by
  unfold getS
  simp only [getD_of hc]
  rw [if_neg]
  omega
theorem getS_cont {l : List Nat} {c i : Nat} (hc : l[0]? = some c) (hi : (i : Int) < hdM c) (h : isCont (l.getD (i + 1) 0) = false) : getS l = none := by
  unfold getS
  simp only [getD_of hc]
  rw [if_neg]
  rintro ⟨_, _, h1, _⟩
  rw [allTo_false (f := fun i => isCont (l.getD (i + 1) 0)) (i := i) (by omega) h] at h1
  cases h1
theorem getS_end {l : List Nat} {c m : Nat} (hc : l[0]? = some c) (h0 : hdM c = m) (hl : m < l.length) (h : allTo (fun i => isCont (l.getD (i + 1) 0)) m = true) :
    getS l = if mayR (accR l (hdR c) m) = true ∧ sizeR (accR l (hdR c) m) = m + 1 then some (accR l (hdR c) m, m + 1) else none := by
  unfold getS
  simp only [getD_of hc, h0, Int.toNat_natCast]
  by_cases hm : mayR (accR l (hdR c) m) = true ∧ sizeR (accR l (hdR c) m) = m + 1
  · rw [if_pos hm, if_pos ⟨by omega, hl, h, hm⟩]
  · rw [if_neg hm, if_neg fun hh => hm hh.2.2.2]


theorem utf_may (w0 : World) (G : Hp) (r : Nat) : GC Tryd.prog w0 73 #[.int .i64 (r : Int)] (fun v G' => v = .bool (mayR r) ∧ G = G') G := by
  refine GC.body (args := [.int .i64 (r : Int)]) Tryd.func73 rfl (by kernel_rfl) rfl ?_
  refine GW.seq ?_
  refine GW.region ?_
  refine R.assign ⟨rfl, rfl, rfl, rfl⟩ rfl ?_
  refine GOps.nil ?_
  refine GW.seq ?_
  refine GW.region ?_
  refine R.move ⟨rfl, rfl, rfl, rfl⟩ rfl ?_
  refine R.geq ⟨rfl, rfl, rfl, rfl⟩ rfl rfl ?_   -- geq ['t3', '0']
  refine R.move ⟨rfl, rfl, rfl, rfl⟩ rfl ?_
  refine GOps.caseB 5 rfl (fun hg1 => ?_) (fun hg1 => ?_)
  · try simp only [decide_eq_true_eq, decide_eq_false_iff_not, Bool.not_eq_true', Bool.not_eq_false'] at hg1
    refine R.move ⟨rfl, rfl, rfl, rfl⟩ rfl ?_
    refine R.leq ⟨rfl, rfl, rfl, rfl⟩ rfl rfl ?_   -- leq ['t6', '1114111']
    refine R.pick_t ⟨rfl, rfl, rfl, rfl⟩ rfl rfl ?_
    refine R.move ⟨rfl, rfl, rfl, rfl⟩ rfl ?_
    refine GOps.caseB 9 rfl (fun hg2 => ?_) (fun hg2 => ?_)
    · try simp only [decide_eq_true_eq, decide_eq_false_iff_not, Bool.not_eq_true', Bool.not_eq_false'] at hg2
      refine R.move ⟨rfl, rfl, rfl, rfl⟩ rfl ?_
      refine R.lss ⟨rfl, rfl, rfl, rfl⟩ rfl rfl ?_   -- lss ['t10', '55296']
      refine R.move ⟨rfl, rfl, rfl, rfl⟩ rfl ?_
      refine GOps.caseB 12 rfl (fun hg3 => ?_) (fun hg3 => ?_)
      · try simp only [decide_eq_true_eq, decide_eq_false_iff_not, Bool.not_eq_true', Bool.not_eq_false'] at hg3
        refine GOps.skip rfl rfl rfl ?_
        refine GOps.skip rfl rfl rfl ?_
        refine R.pick_t ⟨rfl, rfl, rfl, rfl⟩ rfl rfl ?_
        refine R.pick_t ⟨rfl, rfl, rfl, rfl⟩ rfl rfl ?_
        refine R.assign ⟨rfl, rfl, rfl, rfl⟩ rfl ?_
        refine GOps.nil ?_
        refine GW.ret (Out.of (Res.one rfl rfl) (by first | exact Hs.refl _ | exact Hs.tl _ | exact Hs.tl2 _ _ | exact Hs.tl3 _ _ _) ⟨?_, rfl⟩)
        refine vb ?_; rw [Bool.eq_iff_iff]; simp [mayR] at *; try omega
      · try simp only [decide_eq_true_eq, decide_eq_false_iff_not, Bool.not_eq_true', Bool.not_eq_false'] at hg3
        refine R.move ⟨rfl, rfl, rfl, rfl⟩ rfl ?_
        refine R.gtr ⟨rfl, rfl, rfl, rfl⟩ rfl rfl ?_   -- gtr ['t13', '57343']
        refine R.pick_f ⟨rfl, rfl, rfl, rfl⟩ rfl rfl ?_
        refine R.pick_t ⟨rfl, rfl, rfl, rfl⟩ rfl rfl ?_
        refine R.assign ⟨rfl, rfl, rfl, rfl⟩ rfl ?_
        refine GOps.nil ?_
        refine GW.ret (Out.of (Res.one rfl rfl) (by first | exact Hs.refl _ | exact Hs.tl _ | exact Hs.tl2 _ _ | exact Hs.tl3 _ _ _) ⟨?_, rfl⟩)
        refine vb ?_; rw [Bool.eq_iff_iff]; simp [mayR] at *; try omega
    · try simp only [decide_eq_true_eq, decide_eq_false_iff_not, Bool.not_eq_true', Bool.not_eq_false'] at hg2
      refine GOps.skip rfl rfl rfl ?_
      refine GOps.skip rfl rfl rfl ?_
      refine GOps.skip rfl rfl rfl ?_
      refine GOps.skip rfl rfl rfl ?_
      refine GOps.skip rfl rfl rfl ?_
      refine GOps.skip rfl rfl rfl ?_
      refine R.pick_f ⟨rfl, rfl, rfl, rfl⟩ rfl rfl ?_
      refine R.assign ⟨rfl, rfl, rfl, rfl⟩ rfl ?_
      refine GOps.nil ?_
      refine GW.ret (Out.of (Res.one rfl rfl) (by first | exact Hs.refl _ | exact Hs.tl _ | exact Hs.tl2 _ _ | exact Hs.tl3 _ _ _) ⟨?_, rfl⟩)
      refine vb ?_; rw [Bool.eq_iff_iff]; simp [mayR] at *; try omega
  · try simp only [decide_eq_true_eq, decide_eq_false_iff_not, Bool.not_eq_true', Bool.not_eq_false'] at hg1
    refine GOps.skip rfl rfl rfl ?_
    refine GOps.skip rfl rfl rfl ?_
    refine R.pick_f ⟨rfl, rfl, rfl, rfl⟩ rfl rfl ?_
    refine R.move ⟨rfl, rfl, rfl, rfl⟩ rfl ?_
    refine GOps.skip rfl rfl rfl ?_
    refine GOps.skip rfl rfl rfl ?_
    refine GOps.skip rfl rfl rfl ?_
    refine GOps.skip rfl rfl rfl ?_
    refine GOps.skip rfl rfl rfl ?_
    refine GOps.skip rfl rfl rfl ?_
    refine R.pick_f ⟨rfl, rfl, rfl, rfl⟩ rfl rfl ?_
    refine R.assign ⟨rfl, rfl, rfl, rfl⟩ rfl ?_
    refine GOps.nil ?_
    refine GW.ret (Out.of (Res.one rfl rfl) (by first | exact Hs.refl _ | exact Hs.tl _ | exact Hs.tl2 _ _ | exact Hs.tl3 _ _ _) ⟨?_, rfl⟩)
    refine vb ?_; rw [Bool.eq_iff_iff]; simp [mayR] at *; try omega

theorem ref_May (w0 : World) (G : Hp) (r : Nat) : GC Tryd.prog w0 70 #[.int .i64 (r : Int)] (fun v G' => v = .bool (mayR r) ∧ G = G') G := by
  refine GC.body (args := [.int .i64 (r : Int)]) Tryd.func70 rfl (by kernel_rfl) rfl ?_
  refine GW.seq ?_
  refine GW.region ?_
  refine R.assign ⟨rfl, rfl, rfl, rfl⟩ rfl ?_
  refine GOps.nil ?_
  refine GW.seq ?_
  refine GW.region ?_
  refine R.move ⟨rfl, rfl, rfl, rfl⟩ rfl ?_
  refine R.geq ⟨rfl, rfl, rfl, rfl⟩ rfl rfl ?_   -- geq ['t3', '0']
  refine R.move ⟨rfl, rfl, rfl, rfl⟩ rfl ?_
  refine GOps.caseB 5 rfl (fun hg1 => ?_) (fun hg1 => ?_)
  · try simp only [decide_eq_true_eq, decide_eq_false_iff_not, Bool.not_eq_true', Bool.not_eq_false'] at hg1
    refine R.move ⟨rfl, rfl, rfl, rfl⟩ rfl ?_
    refine R.leq ⟨rfl, rfl, rfl, rfl⟩ rfl rfl ?_   -- leq ['t6', '1114111']
    refine R.pick_t ⟨rfl, rfl, rfl, rfl⟩ rfl rfl ?_
    refine R.move ⟨rfl, rfl, rfl, rfl⟩ rfl ?_
    refine GOps.caseB 9 rfl (fun hg2 => ?_) (fun hg2 => ?_)
    · try simp only [decide_eq_true_eq, decide_eq_false_iff_not, Bool.not_eq_true', Bool.not_eq_false'] at hg2
      refine R.move ⟨rfl, rfl, rfl, rfl⟩ rfl ?_
      refine R.lss ⟨rfl, rfl, rfl, rfl⟩ rfl rfl ?_   -- lss ['t10', '55296']
      refine R.move ⟨rfl, rfl, rfl, rfl⟩ rfl ?_
      refine GOps.caseB 12 rfl (fun hg3 => ?_) (fun hg3 => ?_)
      · try simp only [decide_eq_true_eq, decide_eq_false_iff_not, Bool.not_eq_true', Bool.not_eq_false'] at hg3
        refine GOps.skip rfl rfl rfl ?_
        refine GOps.skip rfl rfl rfl ?_
        refine R.pick_t ⟨rfl, rfl, rfl, rfl⟩ rfl rfl ?_
        refine R.pick_t ⟨rfl, rfl, rfl, rfl⟩ rfl rfl ?_
        refine R.assign ⟨rfl, rfl, rfl, rfl⟩ rfl ?_
        refine GOps.nil ?_
        refine GW.ret (Out.of (Res.one rfl rfl) (by first | exact Hs.refl _ | exact Hs.tl _ | exact Hs.tl2 _ _ | exact Hs.tl3 _ _ _) ⟨?_, rfl⟩)
        refine vb ?_; rw [Bool.eq_iff_iff]; simp [mayR] at *; try omega
      · try simp only [decide_eq_true_eq, decide_eq_false_iff_not, Bool.not_eq_true', Bool.not_eq_false'] at hg3
        refine R.move ⟨rfl, rfl, rfl, rfl⟩ rfl ?_
        refine R.gtr ⟨rfl, rfl, rfl, rfl⟩ rfl rfl ?_   -- gtr ['t13', '57343']
        refine R.pick_f ⟨rfl, rfl, rfl, rfl⟩ rfl rfl ?_
        refine R.pick_t ⟨rfl, rfl, rfl, rfl⟩ rfl rfl ?_
        refine R.assign ⟨rfl, rfl, rfl, rfl⟩ rfl ?_
        refine GOps.nil ?_
        refine GW.ret (Out.of (Res.one rfl rfl) (by first | exact Hs.refl _ | exact Hs.tl _ | exact Hs.tl2 _ _ | exact Hs.tl3 _ _ _) ⟨?_, rfl⟩)
        refine vb ?_; rw [Bool.eq_iff_iff]; simp [mayR] at *; try omega
    · try simp only [decide_eq_true_eq, decide_eq_false_iff_not, Bool.not_eq_true', Bool.not_eq_false'] at hg2
      refine GOps.skip rfl rfl rfl ?_
      refine GOps.skip rfl rfl rfl ?_
      refine GOps.skip rfl rfl rfl ?_
      refine GOps.skip rfl rfl rfl ?_
      refine GOps.skip rfl rfl rfl ?_
      refine GOps.skip rfl rfl rfl ?_
      refine R.pick_f ⟨rfl, rfl, rfl, rfl⟩ rfl rfl ?_
      refine R.assign ⟨rfl, rfl, rfl, rfl⟩ rfl ?_
      refine GOps.nil ?_
      refine GW.ret (Out.of (Res.one rfl rfl) (by first | exact Hs.refl _ | exact Hs.tl _ | exact Hs.tl2 _ _ | exact Hs.tl3 _ _ _) ⟨?_, rfl⟩)
      refine vb ?_; rw [Bool.eq_iff_iff]; simp [mayR] at *; try omega
  · try simp only [decide_eq_true_eq, decide_eq_false_iff_not, Bool.not_eq_true', Bool.not_eq_false'] at hg1
    refine GOps.skip rfl rfl rfl ?_
    refine GOps.skip rfl rfl rfl ?_
    refine R.pick_f ⟨rfl, rfl, rfl, rfl⟩ rfl rfl ?_
    refine R.move ⟨rfl, rfl, rfl, rfl⟩ rfl ?_
    refine GOps.skip rfl rfl rfl ?_
    refine GOps.skip rfl rfl rfl ?_
    refine GOps.skip rfl rfl rfl ?_
    refine GOps.skip rfl rfl rfl ?_
    refine GOps.skip rfl rfl rfl ?_
    refine GOps.skip rfl rfl rfl ?_
    refine R.pick_f ⟨rfl, rfl, rfl, rfl⟩ rfl rfl ?_
    refine R.assign ⟨rfl, rfl, rfl, rfl⟩ rfl ?_
    refine GOps.nil ?_
    refine GW.ret (Out.of (Res.one rfl rfl) (by first | exact Hs.refl _ | exact Hs.tl _ | exact Hs.tl2 _ _ | exact Hs.tl3 _ _ _) ⟨?_, rfl⟩)
    refine vb ?_; rw [Bool.eq_iff_iff]; simp [mayR] at *; try omega

theorem utf_size (w0 : World) (G : Hp) (r : Nat) : GC Tryd.prog w0 65 #[.int .i64 (r : Int)] (fun v G' => v = .int .i64 (sizeR r : Nat) ∧ G = G') G := by
  refine GC.body (args := [.int .i64 (r : Int)]) Tryd.func65 rfl (by kernel_rfl) rfl ?_
  refine GW.seq ?_
  refine GW.region ?_
  refine R.assign ⟨rfl, rfl, rfl, rfl⟩ rfl ?_
  refine GOps.nil ?_
  refine GW.seq ?_
  refine GW.block ?_
  refine GW.seq ?_
  refine GW.region ?_
  refine R.move ⟨rfl, rfl, rfl, rfl⟩ rfl ?_
  refine R.lss ⟨rfl, rfl, rfl, rfl⟩ rfl rfl ?_   -- lss ['t4', '128']
  refine R.assign ⟨rfl, rfl, rfl, rfl⟩ rfl ?_
  refine GOps.nil ?_
  refine GW.ite rfl (fun hc1 => ?_) (fun hc1 => ?_)
  · try simp only [decide_eq_true_eq, decide_eq_false_iff_not, Bool.not_eq_true', Bool.not_eq_false'] at hc1
    refine GW.seq ?_
    refine GW.region ?_
    refine R.assign ⟨rfl, rfl, rfl, rfl⟩ rfl ?_
    refine GOps.nil ?_
    refine GW.ret (Out.of (Res.one rfl rfl) (by first | exact Hs.refl _ | exact Hs.tl _ | exact Hs.tl2 _ _ | exact Hs.tl3 _ _ _) ⟨?_, rfl⟩)
    unfold sizeR; repeat (first | rw [if_pos (by omega)] | rw [if_neg (by omega)]); try rfl
  · try simp only [decide_eq_true_eq, decide_eq_false_iff_not, Bool.not_eq_true', Bool.not_eq_false'] at hc1
    refine GW.seq ?_
    refine GW.region ?_
    refine R.move ⟨rfl, rfl, rfl, rfl⟩ rfl ?_
    refine R.lss ⟨rfl, rfl, rfl, rfl⟩ rfl rfl ?_   -- lss ['t7', '2048']
    refine R.assign ⟨rfl, rfl, rfl, rfl⟩ rfl ?_
    refine GOps.nil ?_
    refine GW.ite rfl (fun hc2 => ?_) (fun hc2 => ?_)
    · try simp only [decide_eq_true_eq, decide_eq_false_iff_not, Bool.not_eq_true', Bool.not_eq_false'] at hc2
      refine GW.seq ?_
      refine GW.region ?_
      refine R.assign ⟨rfl, rfl, rfl, rfl⟩ rfl ?_
      refine GOps.nil ?_
      refine GW.ret (Out.of (Res.one rfl rfl) (by first | exact Hs.refl _ | exact Hs.tl _ | exact Hs.tl2 _ _ | exact Hs.tl3 _ _ _) ⟨?_, rfl⟩)
      unfold sizeR; repeat (first | rw [if_pos (by omega)] | rw [if_neg (by omega)]); try rfl
    · try simp only [decide_eq_true_eq, decide_eq_false_iff_not, Bool.not_eq_true', Bool.not_eq_false'] at hc2
      refine GW.seq ?_
      refine GW.region ?_
      refine R.move ⟨rfl, rfl, rfl, rfl⟩ rfl ?_
      refine R.lss ⟨rfl, rfl, rfl, rfl⟩ rfl rfl ?_   -- lss ['t10', '65536']
      refine R.assign ⟨rfl, rfl, rfl, rfl⟩ rfl ?_
      refine GOps.nil ?_
      refine GW.ite rfl (fun hc3 => ?_) (fun hc3 => ?_)
      · try simp only [decide_eq_true_eq, decide_eq_false_iff_not, Bool.not_eq_true', Bool.not_eq_false'] at hc3
        refine GW.seq ?_
        refine GW.region ?_
        refine R.assign ⟨rfl, rfl, rfl, rfl⟩ rfl ?_
        refine GOps.nil ?_
        refine GW.ret (Out.of (Res.one rfl rfl) (by first | exact Hs.refl _ | exact Hs.tl _ | exact Hs.tl2 _ _ | exact Hs.tl3 _ _ _) ⟨?_, rfl⟩)
        unfold sizeR; repeat (first | rw [if_pos (by omega)] | rw [if_neg (by omega)]); try rfl
      · try simp only [decide_eq_true_eq, decide_eq_false_iff_not, Bool.not_eq_true', Bool.not_eq_false'] at hc3
        refine GW.skip ?_
        refine GW.seq ?_
        refine GW.region ?_
        refine R.assign ⟨rfl, rfl, rfl, rfl⟩ rfl ?_
        refine GOps.nil ?_
        refine GW.ret (Out.of (Res.one rfl rfl) (by first | exact Hs.refl _ | exact Hs.tl _ | exact Hs.tl2 _ _ | exact Hs.tl3 _ _ _) ⟨?_, rfl⟩)
        unfold sizeR; repeat (first | rw [if_pos (by omega)] | rw [if_neg (by omega)]); try rfl

theorem utf_head (w0 : World) (G : Hp) (c : Nat) (hc : c < 256) : GC Tryd.prog w0 72 #[.int .u8 (c : Int)] (fun v G' => v = .tuple #[.int .i64 (hdR c : Nat), .int .i64 (hdM c)] ∧ G = G') G := by
  refine GC.body (args := [.int .u8 (c : Int)]) Tryd.func72 rfl (by kernel_rfl) rfl ?_
  refine GW.seq ?_
  refine GW.region ?_
  refine R.assign ⟨rfl, rfl, rfl, rfl⟩ rfl ?_
  refine R.assign ⟨rfl, rfl, rfl, rfl⟩ rfl ?_
  refine GOps.nil ?_
  refine GW.seq ?_
  refine GW.block ?_
  refine GW.seq ?_
  refine GW.region ?_
  refine R.move ⟨rfl, rfl, rfl, rfl⟩ rfl ?_
  refine R.lss ⟨rfl, rfl, rfl, rfl⟩ rfl rfl ?_   -- lss ['t5', '128']
  refine R.assign ⟨rfl, rfl, rfl, rfl⟩ rfl ?_
  refine GOps.nil ?_
  refine GW.ite rfl (fun hc1 => ?_) (fun hc1 => ?_)
  · try simp only [decide_eq_true_eq, decide_eq_false_iff_not, Bool.not_eq_true', Bool.not_eq_false'] at hc1
    refine GW.seq ?_
    refine GW.region ?_
    refine R.move ⟨rfl, rfl, rfl, rfl⟩ rfl ?_
    refine R.conv ⟨rfl, rfl, rfl, rfl⟩ rfl Tryd.underlying5 Tryd.underlying3 (wrap64_id (by omega) (by omega)) ?_
    refine R.assign ⟨rfl, rfl, rfl, rfl⟩ rfl ?_
    refine R.assign ⟨rfl, rfl, rfl, rfl⟩ rfl ?_
    refine GOps.nil ?_
    refine GW.ret (Out.of (Res.two rfl rfl rfl) (by first | exact Hs.refl _ | exact Hs.tl _ | exact Hs.tl2 _ _ | exact Hs.tl3 _ _ _) ⟨?_, rfl⟩)
    first | (exfalso; omega) | skip; unfold hdR hdM; repeat (first | rw [if_pos (by omega)] | rw [if_neg (by omega)]); try rfl
  · try simp only [decide_eq_true_eq, decide_eq_false_iff_not, Bool.not_eq_true', Bool.not_eq_false'] at hc1
    refine GW.seq ?_
    refine GW.region ?_
    refine R.move ⟨rfl, rfl, rfl, rfl⟩ rfl ?_
    refine R.geq ⟨rfl, rfl, rfl, rfl⟩ rfl rfl ?_   -- geq ['t10', '194']
    refine R.move ⟨rfl, rfl, rfl, rfl⟩ rfl ?_
    refine GOps.caseB 12 rfl (fun hg2 => ?_) (fun hg2 => ?_)
    · try simp only [decide_eq_true_eq, decide_eq_false_iff_not, Bool.not_eq_true', Bool.not_eq_false'] at hg2
      refine R.move ⟨rfl, rfl, rfl, rfl⟩ rfl ?_
      refine R.lss ⟨rfl, rfl, rfl, rfl⟩ rfl rfl ?_   -- lss ['t13', '224']
      refine R.pick_t ⟨rfl, rfl, rfl, rfl⟩ rfl rfl ?_
      refine R.assign ⟨rfl, rfl, rfl, rfl⟩ rfl ?_
      refine GOps.nil ?_
      refine GW.ite rfl (fun hc3 => ?_) (fun hc3 => ?_)
      · try simp only [decide_eq_true_eq, decide_eq_false_iff_not, Bool.not_eq_true', Bool.not_eq_false'] at hc3
        refine GW.seq ?_
        refine GW.region ?_
        refine R.move ⟨rfl, rfl, rfl, rfl⟩ rfl ?_
        refine R.and (r := (c : Int) % 32) ⟨rfl, rfl, rfl, rfl⟩ rfl rfl (u8_and31 _ (by omega) (by omega)) ?_   -- and ['t16', '31']
        refine R.conv ⟨rfl, rfl, rfl, rfl⟩ rfl Tryd.underlying5 Tryd.underlying3 (wrap64_id (by omega) (by omega)) ?_
        refine R.assign ⟨rfl, rfl, rfl, rfl⟩ rfl ?_
        refine R.assign ⟨rfl, rfl, rfl, rfl⟩ rfl ?_
        refine GOps.nil ?_
        refine GW.ret (Out.of (Res.two rfl rfl rfl) (by first | exact Hs.refl _ | exact Hs.tl _ | exact Hs.tl2 _ _ | exact Hs.tl3 _ _ _) ⟨?_, rfl⟩)
        first | (exfalso; omega) | skip; unfold hdR hdM; repeat (first | rw [if_pos (by omega)] | rw [if_neg (by omega)]); try rfl
      · try simp only [decide_eq_true_eq, decide_eq_false_iff_not, Bool.not_eq_true', Bool.not_eq_false'] at hc3
        refine GW.seq ?_
        refine GW.region ?_
        refine R.move ⟨rfl, rfl, rfl, rfl⟩ rfl ?_
        refine R.geq ⟨rfl, rfl, rfl, rfl⟩ rfl rfl ?_   -- geq ['t20', '224']
        refine R.move ⟨rfl, rfl, rfl, rfl⟩ rfl ?_
        refine GOps.caseB 22 rfl (fun hg4 => ?_) (fun hg4 => ?_)
        · try simp only [decide_eq_true_eq, decide_eq_false_iff_not, Bool.not_eq_true', Bool.not_eq_false'] at hg4
          refine R.move ⟨rfl, rfl, rfl, rfl⟩ rfl ?_
          refine R.lss ⟨rfl, rfl, rfl, rfl⟩ rfl rfl ?_   -- lss ['t23', '240']
          refine R.pick_t ⟨rfl, rfl, rfl, rfl⟩ rfl rfl ?_
          refine R.assign ⟨rfl, rfl, rfl, rfl⟩ rfl ?_
          refine GOps.nil ?_
          refine GW.ite rfl (fun hc5 => ?_) (fun hc5 => ?_)
          · try simp only [decide_eq_true_eq, decide_eq_false_iff_not, Bool.not_eq_true', Bool.not_eq_false'] at hc5
            refine GW.seq ?_
            refine GW.region ?_
            refine R.move ⟨rfl, rfl, rfl, rfl⟩ rfl ?_
            refine R.and (r := (c : Int) % 16) ⟨rfl, rfl, rfl, rfl⟩ rfl rfl (u8_and15 _ (by omega) (by omega)) ?_   -- and ['t26', '15']
            refine R.conv ⟨rfl, rfl, rfl, rfl⟩ rfl Tryd.underlying5 Tryd.underlying3 (wrap64_id (by omega) (by omega)) ?_
            refine R.assign ⟨rfl, rfl, rfl, rfl⟩ rfl ?_
            refine R.assign ⟨rfl, rfl, rfl, rfl⟩ rfl ?_
            refine GOps.nil ?_
            refine GW.ret (Out.of (Res.two rfl rfl rfl) (by first | exact Hs.refl _ | exact Hs.tl _ | exact Hs.tl2 _ _ | exact Hs.tl3 _ _ _) ⟨?_, rfl⟩)
            first | (exfalso; omega) | skip; unfold hdR hdM; repeat (first | rw [if_pos (by omega)] | rw [if_neg (by omega)]); try rfl
          · try simp only [decide_eq_true_eq, decide_eq_false_iff_not, Bool.not_eq_true', Bool.not_eq_false'] at hc5
            refine GW.seq ?_
            refine GW.region ?_
            refine R.move ⟨rfl, rfl, rfl, rfl⟩ rfl ?_
            refine R.geq ⟨rfl, rfl, rfl, rfl⟩ rfl rfl ?_   -- geq ['t30', '240']
            refine R.move ⟨rfl, rfl, rfl, rfl⟩ rfl ?_
            refine GOps.caseB 32 rfl (fun hg6 => ?_) (fun hg6 => ?_)
            · try simp only [decide_eq_true_eq, decide_eq_false_iff_not, Bool.not_eq_true', Bool.not_eq_false'] at hg6
              refine R.move ⟨rfl, rfl, rfl, rfl⟩ rfl ?_
              refine R.lss ⟨rfl, rfl, rfl, rfl⟩ rfl rfl ?_   -- lss ['t33', '245']
              refine R.pick_t ⟨rfl, rfl, rfl, rfl⟩ rfl rfl ?_
              refine R.assign ⟨rfl, rfl, rfl, rfl⟩ rfl ?_
              refine GOps.nil ?_
              refine GW.ite rfl (fun hc7 => ?_) (fun hc7 => ?_)
              · try simp only [decide_eq_true_eq, decide_eq_false_iff_not, Bool.not_eq_true', Bool.not_eq_false'] at hc7
                refine GW.seq ?_
                refine GW.region ?_
                refine R.move ⟨rfl, rfl, rfl, rfl⟩ rfl ?_
                refine R.and (r := (c : Int) % 8) ⟨rfl, rfl, rfl, rfl⟩ rfl rfl (u8_and7 _ (by omega) (by omega)) ?_   -- and ['t36', '7']
                refine R.conv ⟨rfl, rfl, rfl, rfl⟩ rfl Tryd.underlying5 Tryd.underlying3 (wrap64_id (by omega) (by omega)) ?_
                refine R.assign ⟨rfl, rfl, rfl, rfl⟩ rfl ?_
                refine R.assign ⟨rfl, rfl, rfl, rfl⟩ rfl ?_
                refine GOps.nil ?_
                refine GW.ret (Out.of (Res.two rfl rfl rfl) (by first | exact Hs.refl _ | exact Hs.tl _ | exact Hs.tl2 _ _ | exact Hs.tl3 _ _ _) ⟨?_, rfl⟩)
                first | (exfalso; omega) | skip; unfold hdR hdM; repeat (first | rw [if_pos (by omega)] | rw [if_neg (by omega)]); try rfl
              · try simp only [decide_eq_true_eq, decide_eq_false_iff_not, Bool.not_eq_true', Bool.not_eq_false'] at hc7
                refine GW.skip ?_
                refine GW.seq ?_
                refine GW.region ?_
                refine R.assign ⟨rfl, rfl, rfl, rfl⟩ rfl ?_
                refine R.assign ⟨rfl, rfl, rfl, rfl⟩ rfl ?_
                refine GOps.nil ?_
                refine GW.ret (Out.of (Res.two rfl rfl rfl) (by first | exact Hs.refl _ | exact Hs.tl _ | exact Hs.tl2 _ _ | exact Hs.tl3 _ _ _) ⟨?_, rfl⟩)
                first | (exfalso; omega) | skip; unfold hdR hdM; repeat (first | rw [if_pos (by omega)] | rw [if_neg (by omega)]); try rfl
            · try simp only [decide_eq_true_eq, decide_eq_false_iff_not, Bool.not_eq_true', Bool.not_eq_false'] at hg6
              refine GOps.skip rfl rfl rfl ?_
              refine GOps.skip rfl rfl rfl ?_
              refine R.pick_f ⟨rfl, rfl, rfl, rfl⟩ rfl rfl ?_
              refine R.assign ⟨rfl, rfl, rfl, rfl⟩ rfl ?_
              refine GOps.nil ?_
              refine GW.cond_f rfl ?_
              refine GW.skip ?_
              refine GW.seq ?_
              refine GW.region ?_
              refine R.assign ⟨rfl, rfl, rfl, rfl⟩ rfl ?_
              refine R.assign ⟨rfl, rfl, rfl, rfl⟩ rfl ?_
              refine GOps.nil ?_
              refine GW.ret (Out.of (Res.two rfl rfl rfl) (by first | exact Hs.refl _ | exact Hs.tl _ | exact Hs.tl2 _ _ | exact Hs.tl3 _ _ _) ⟨?_, rfl⟩)
              first | (exfalso; omega) | skip; unfold hdR hdM; repeat (first | rw [if_pos (by omega)] | rw [if_neg (by omega)]); try rfl
        · try simp only [decide_eq_true_eq, decide_eq_false_iff_not, Bool.not_eq_true', Bool.not_eq_false'] at hg4
          refine GOps.skip rfl rfl rfl ?_
          refine GOps.skip rfl rfl rfl ?_
          refine R.pick_f ⟨rfl, rfl, rfl, rfl⟩ rfl rfl ?_
          refine R.assign ⟨rfl, rfl, rfl, rfl⟩ rfl ?_
          refine GOps.nil ?_
          refine GW.cond_f rfl ?_
          refine GW.seq ?_
          refine GW.region ?_
          refine R.move ⟨rfl, rfl, rfl, rfl⟩ rfl ?_
          refine R.geq ⟨rfl, rfl, rfl, rfl⟩ rfl rfl ?_   -- geq ['t30', '240']
          refine R.move ⟨rfl, rfl, rfl, rfl⟩ rfl ?_
          refine GOps.caseB 32 rfl (fun hg8 => ?_) (fun hg8 => ?_)
          · try simp only [decide_eq_true_eq, decide_eq_false_iff_not, Bool.not_eq_true', Bool.not_eq_false'] at hg8
            refine R.move ⟨rfl, rfl, rfl, rfl⟩ rfl ?_
            refine R.lss ⟨rfl, rfl, rfl, rfl⟩ rfl rfl ?_   -- lss ['t33', '245']
            refine R.pick_t ⟨rfl, rfl, rfl, rfl⟩ rfl rfl ?_
            refine R.assign ⟨rfl, rfl, rfl, rfl⟩ rfl ?_
            refine GOps.nil ?_
            refine GW.ite rfl (fun hc9 => ?_) (fun hc9 => ?_)
            · try simp only [decide_eq_true_eq, decide_eq_false_iff_not, Bool.not_eq_true', Bool.not_eq_false'] at hc9
              refine GW.seq ?_
              refine GW.region ?_
              refine R.move ⟨rfl, rfl, rfl, rfl⟩ rfl ?_
              refine R.and (r := (c : Int) % 8) ⟨rfl, rfl, rfl, rfl⟩ rfl rfl (u8_and7 _ (by omega) (by omega)) ?_   -- and ['t36', '7']
              refine R.conv ⟨rfl, rfl, rfl, rfl⟩ rfl Tryd.underlying5 Tryd.underlying3 (wrap64_id (by omega) (by omega)) ?_
              refine R.assign ⟨rfl, rfl, rfl, rfl⟩ rfl ?_
              refine R.assign ⟨rfl, rfl, rfl, rfl⟩ rfl ?_
              refine GOps.nil ?_
              refine GW.ret (Out.of (Res.two rfl rfl rfl) (by first | exact Hs.refl _ | exact Hs.tl _ | exact Hs.tl2 _ _ | exact Hs.tl3 _ _ _) ⟨?_, rfl⟩)
              first | (exfalso; omega) | skip; unfold hdR hdM; repeat (first | rw [if_pos (by omega)] | rw [if_neg (by omega)]); try rfl
            · try simp only [decide_eq_true_eq, decide_eq_false_iff_not, Bool.not_eq_true', Bool.not_eq_false'] at hc9
              refine GW.skip ?_
              refine GW.seq ?_
              refine GW.region ?_
              refine R.assign ⟨rfl, rfl, rfl, rfl⟩ rfl ?_
              refine R.assign ⟨rfl, rfl, rfl, rfl⟩ rfl ?_
              refine GOps.nil ?_
              refine GW.ret (Out.of (Res.two rfl rfl rfl) (by first | exact Hs.refl _ | exact Hs.tl _ | exact Hs.tl2 _ _ | exact Hs.tl3 _ _ _) ⟨?_, rfl⟩)
              first | (exfalso; omega) | skip; unfold hdR hdM; repeat (first | rw [if_pos (by omega)] | rw [if_neg (by omega)]); try rfl
          · try simp only [decide_eq_true_eq, decide_eq_false_iff_not, Bool.not_eq_true', Bool.not_eq_false'] at hg8
            refine GOps.skip rfl rfl rfl ?_
            refine GOps.skip rfl rfl rfl ?_
            refine R.pick_f ⟨rfl, rfl, rfl, rfl⟩ rfl rfl ?_
            refine R.assign ⟨rfl, rfl, rfl, rfl⟩ rfl ?_
            refine GOps.nil ?_
            refine GW.cond_f rfl ?_
            refine GW.skip ?_
            refine GW.seq ?_
            refine GW.region ?_
            refine R.assign ⟨rfl, rfl, rfl, rfl⟩ rfl ?_
            refine R.assign ⟨rfl, rfl, rfl, rfl⟩ rfl ?_
            refine GOps.nil ?_
            refine GW.ret (Out.of (Res.two rfl rfl rfl) (by first | exact Hs.refl _ | exact Hs.tl _ | exact Hs.tl2 _ _ | exact Hs.tl3 _ _ _) ⟨?_, rfl⟩)
            first | (exfalso; omega) | skip; unfold hdR hdM; repeat (first | rw [if_pos (by omega)] | rw [if_neg (by omega)]); try rfl
    · try simp only [decide_eq_true_eq, decide_eq_false_iff_not, Bool.not_eq_true', Bool.not_eq_false'] at hg2
      refine GOps.skip rfl rfl rfl ?_
      refine GOps.skip rfl rfl rfl ?_
      refine R.pick_f ⟨rfl, rfl, rfl, rfl⟩ rfl rfl ?_
      refine R.assign ⟨rfl, rfl, rfl, rfl⟩ rfl ?_
      refine GOps.nil ?_
      refine GW.cond_f rfl ?_
      refine GW.seq ?_
      refine GW.region ?_
      refine R.move ⟨rfl, rfl, rfl, rfl⟩ rfl ?_
      refine R.geq ⟨rfl, rfl, rfl, rfl⟩ rfl rfl ?_   -- geq ['t20', '224']
      refine R.move ⟨rfl, rfl, rfl, rfl⟩ rfl ?_
      refine GOps.caseB 22 rfl (fun hg10 => ?_) (fun hg10 => ?_)
      · try simp only [decide_eq_true_eq, decide_eq_false_iff_not, Bool.not_eq_true', Bool.not_eq_false'] at hg10
        refine R.move ⟨rfl, rfl, rfl, rfl⟩ rfl ?_
        refine R.lss ⟨rfl, rfl, rfl, rfl⟩ rfl rfl ?_   -- lss ['t23', '240']
        refine R.pick_t ⟨rfl, rfl, rfl, rfl⟩ rfl rfl ?_
        refine R.assign ⟨rfl, rfl, rfl, rfl⟩ rfl ?_
        refine GOps.nil ?_
        refine GW.ite rfl (fun hc11 => ?_) (fun hc11 => ?_)
        · try simp only [decide_eq_true_eq, decide_eq_false_iff_not, Bool.not_eq_true', Bool.not_eq_false'] at hc11
          refine GW.seq ?_
          refine GW.region ?_
          refine R.move ⟨rfl, rfl, rfl, rfl⟩ rfl ?_
          refine R.and (r := (c : Int) % 16) ⟨rfl, rfl, rfl, rfl⟩ rfl rfl (u8_and15 _ (by omega) (by omega)) ?_   -- and ['t26', '15']
          refine R.conv ⟨rfl, rfl, rfl, rfl⟩ rfl Tryd.underlying5 Tryd.underlying3 (wrap64_id (by omega) (by omega)) ?_
          refine R.assign ⟨rfl, rfl, rfl, rfl⟩ rfl ?_
          refine R.assign ⟨rfl, rfl, rfl, rfl⟩ rfl ?_
          refine GOps.nil ?_
          refine GW.ret (Out.of (Res.two rfl rfl rfl) (by first | exact Hs.refl _ | exact Hs.tl _ | exact Hs.tl2 _ _ | exact Hs.tl3 _ _ _) ⟨?_, rfl⟩)
          first | (exfalso; omega) | skip; unfold hdR hdM; repeat (first | rw [if_pos (by omega)] | rw [if_neg (by omega)]); try rfl
        · try simp only [decide_eq_true_eq, decide_eq_false_iff_not, Bool.not_eq_true', Bool.not_eq_false'] at hc11
          refine GW.seq ?_
          refine GW.region ?_
          refine R.move ⟨rfl, rfl, rfl, rfl⟩ rfl ?_
          refine R.geq ⟨rfl, rfl, rfl, rfl⟩ rfl rfl ?_   -- geq ['t30', '240']
          refine R.move ⟨rfl, rfl, rfl, rfl⟩ rfl ?_
          refine GOps.caseB 32 rfl (fun hg12 => ?_) (fun hg12 => ?_)
          · try simp only [decide_eq_true_eq, decide_eq_false_iff_not, Bool.not_eq_true', Bool.not_eq_false'] at hg12
            refine R.move ⟨rfl, rfl, rfl, rfl⟩ rfl ?_
            refine R.lss ⟨rfl, rfl, rfl, rfl⟩ rfl rfl ?_   -- lss ['t33', '245']
            refine R.pick_t ⟨rfl, rfl, rfl, rfl⟩ rfl rfl ?_
            refine R.assign ⟨rfl, rfl, rfl, rfl⟩ rfl ?_
            refine GOps.nil ?_
            refine GW.ite rfl (fun hc13 => ?_) (fun hc13 => ?_)
            · try simp only [decide_eq_true_eq, decide_eq_false_iff_not, Bool.not_eq_true', Bool.not_eq_false'] at hc13
              refine GW.seq ?_
              refine GW.region ?_
              refine R.move ⟨rfl, rfl, rfl, rfl⟩ rfl ?_
              refine R.and (r := (c : Int) % 8) ⟨rfl, rfl, rfl, rfl⟩ rfl rfl (u8_and7 _ (by omega) (by omega)) ?_   -- and ['t36', '7']
              refine R.conv ⟨rfl, rfl, rfl, rfl⟩ rfl Tryd.underlying5 Tryd.underlying3 (wrap64_id (by omega) (by omega)) ?_
              refine R.assign ⟨rfl, rfl, rfl, rfl⟩ rfl ?_
              refine R.assign ⟨rfl, rfl, rfl, rfl⟩ rfl ?_
              refine GOps.nil ?_
              refine GW.ret (Out.of (Res.two rfl rfl rfl) (by first | exact Hs.refl _ | exact Hs.tl _ | exact Hs.tl2 _ _ | exact Hs.tl3 _ _ _) ⟨?_, rfl⟩)
              first | (exfalso; omega) | skip; unfold hdR hdM; repeat (first | rw [if_pos (by omega)] | rw [if_neg (by omega)]); try rfl
            · try simp only [decide_eq_true_eq, decide_eq_false_iff_not, Bool.not_eq_true', Bool.not_eq_false'] at hc13
              refine GW.skip ?_
              refine GW.seq ?_
              refine GW.region ?_
              refine R.assign ⟨rfl, rfl, rfl, rfl⟩ rfl ?_
              refine R.assign ⟨rfl, rfl, rfl, rfl⟩ rfl ?_
              refine GOps.nil ?_
              refine GW.ret (Out.of (Res.two rfl rfl rfl) (by first | exact Hs.refl _ | exact Hs.tl _ | exact Hs.tl2 _ _ | exact Hs.tl3 _ _ _) ⟨?_, rfl⟩)
              first | (exfalso; omega) | skip; unfold hdR hdM; repeat (first | rw [if_pos (by omega)] | rw [if_neg (by omega)]); try rfl
          · try simp only [decide_eq_true_eq, decide_eq_false_iff_not, Bool.not_eq_true', Bool.not_eq_false'] at hg12
            refine GOps.skip rfl rfl rfl ?_
            refine GOps.skip rfl rfl rfl ?_
            refine R.pick_f ⟨rfl, rfl, rfl, rfl⟩ rfl rfl ?_
            refine R.assign ⟨rfl, rfl, rfl, rfl⟩ rfl ?_
            refine GOps.nil ?_
            refine GW.cond_f rfl ?_
            refine GW.skip ?_
            refine GW.seq ?_
            refine GW.region ?_
            refine R.assign ⟨rfl, rfl, rfl, rfl⟩ rfl ?_
            refine R.assign ⟨rfl, rfl, rfl, rfl⟩ rfl ?_
            refine GOps.nil ?_
            refine GW.ret (Out.of (Res.two rfl rfl rfl) (by first | exact Hs.refl _ | exact Hs.tl _ | exact Hs.tl2 _ _ | exact Hs.tl3 _ _ _) ⟨?_, rfl⟩)
            first | (exfalso; omega) | skip; unfold hdR hdM; repeat (first | rw [if_pos (by omega)] | rw [if_neg (by omega)]); try rfl
      · try simp only [decide_eq_true_eq, decide_eq_false_iff_not, Bool.not_eq_true', Bool.not_eq_false'] at hg10
        refine GOps.skip rfl rfl rfl ?_
        refine GOps.skip rfl rfl rfl ?_
        refine R.pick_f ⟨rfl, rfl, rfl, rfl⟩ rfl rfl ?_
        refine R.assign ⟨rfl, rfl, rfl, rfl⟩ rfl ?_
        refine GOps.nil ?_
        refine GW.cond_f rfl ?_
        refine GW.seq ?_
        refine GW.region ?_
        refine R.move ⟨rfl, rfl, rfl, rfl⟩ rfl ?_
        refine R.geq ⟨rfl, rfl, rfl, rfl⟩ rfl rfl ?_   -- geq ['t30', '240']
        refine R.move ⟨rfl, rfl, rfl, rfl⟩ rfl ?_
        refine GOps.caseB 32 rfl (fun hg14 => ?_) (fun hg14 => ?_)
        · try simp only [decide_eq_true_eq, decide_eq_false_iff_not, Bool.not_eq_true', Bool.not_eq_false'] at hg14
          refine R.move ⟨rfl, rfl, rfl, rfl⟩ rfl ?_
          refine R.lss ⟨rfl, rfl, rfl, rfl⟩ rfl rfl ?_   -- lss ['t33', '245']
          refine R.pick_t ⟨rfl, rfl, rfl, rfl⟩ rfl rfl ?_
          refine R.assign ⟨rfl, rfl, rfl, rfl⟩ rfl ?_
          refine GOps.nil ?_
          refine GW.ite rfl (fun hc15 => ?_) (fun hc15 => ?_)
          · try simp only [decide_eq_true_eq, decide_eq_false_iff_not, Bool.not_eq_true', Bool.not_eq_false'] at hc15
            refine GW.seq ?_
            refine GW.region ?_
            refine R.move ⟨rfl, rfl, rfl, rfl⟩ rfl ?_
            refine R.and (r := (c : Int) % 8) ⟨rfl, rfl, rfl, rfl⟩ rfl rfl (u8_and7 _ (by omega) (by omega)) ?_   -- and ['t36', '7']
            refine R.conv ⟨rfl, rfl, rfl, rfl⟩ rfl Tryd.underlying5 Tryd.underlying3 (wrap64_id (by omega) (by omega)) ?_
            refine R.assign ⟨rfl, rfl, rfl, rfl⟩ rfl ?_
            refine R.assign ⟨rfl, rfl, rfl, rfl⟩ rfl ?_
            refine GOps.nil ?_
            refine GW.ret (Out.of (Res.two rfl rfl rfl) (by first | exact Hs.refl _ | exact Hs.tl _ | exact Hs.tl2 _ _ | exact Hs.tl3 _ _ _) ⟨?_, rfl⟩)
            first | (exfalso; omega) | skip; unfold hdR hdM; repeat (first | rw [if_pos (by omega)] | rw [if_neg (by omega)]); try rfl
          · try simp only [decide_eq_true_eq, decide_eq_false_iff_not, Bool.not_eq_true', Bool.not_eq_false'] at hc15
            refine GW.skip ?_
            refine GW.seq ?_
            refine GW.region ?_
            refine R.assign ⟨rfl, rfl, rfl, rfl⟩ rfl ?_
            refine R.assign ⟨rfl, rfl, rfl, rfl⟩ rfl ?_
            refine GOps.nil ?_
            refine GW.ret (Out.of (Res.two rfl rfl rfl) (by first | exact Hs.refl _ | exact Hs.tl _ | exact Hs.tl2 _ _ | exact Hs.tl3 _ _ _) ⟨?_, rfl⟩)
            first | (exfalso; omega) | skip; unfold hdR hdM; repeat (first | rw [if_pos (by omega)] | rw [if_neg (by omega)]); try rfl
        · try simp only [decide_eq_true_eq, decide_eq_false_iff_not, Bool.not_eq_true', Bool.not_eq_false'] at hg14
          refine GOps.skip rfl rfl rfl ?_
          refine GOps.skip rfl rfl rfl ?_
          refine R.pick_f ⟨rfl, rfl, rfl, rfl⟩ rfl rfl ?_
          refine R.assign ⟨rfl, rfl, rfl, rfl⟩ rfl ?_
          refine GOps.nil ?_
          refine GW.cond_f rfl ?_
          refine GW.skip ?_
          refine GW.seq ?_
          refine GW.region ?_
          refine R.assign ⟨rfl, rfl, rfl, rfl⟩ rfl ?_
          refine R.assign ⟨rfl, rfl, rfl, rfl⟩ rfl ?_
          refine GOps.nil ?_
          refine GW.ret (Out.of (Res.two rfl rfl rfl) (by first | exact Hs.refl _ | exact Hs.tl _ | exact Hs.tl2 _ _ | exact Hs.tl3 _ _ _) ⟨?_, rfl⟩)
          first | (exfalso; omega) | skip; unfold hdR hdM; repeat (first | rw [if_pos (by omega)] | rw [if_neg (by omega)]); try rfl

theorem utf_Get (w0 : World) (G : Hp) (s : ByteArray) (hm : s.size ≤ 9223372036854775807) : GC Tryd.prog w0 67 #[.string s] (fun v G' => v = getV (getS (bs s)) ∧ G = G') G := by
  refine GC.body (args := [.string s]) Tryd.func67 rfl (by kernel_rfl) rfl ?_
  refine GW.seq ?_
  refine GW.region ?_
  refine R.assign ⟨rfl, rfl, rfl, rfl⟩ rfl ?_
  refine R.assign ⟨rfl, rfl, rfl, rfl⟩ rfl ?_
  refine R.assign ⟨rfl, rfl, rfl, rfl⟩ rfl ?_
  refine GOps.nil ?_
  refine GW.scope 0 (fun fr ds G' => ds = [] ∧ (getS (bs s) = none ∧ Hs G' G)) (by rfl) ?_ ?_
  · refine GW.seq ?_
    refine GW.region ?_
    refine R.assign ⟨rfl, rfl, rfl, rfl⟩ rfl ?_
    refine R.assign ⟨rfl, rfl, rfl, rfl⟩ rfl ?_
    refine GOps.nil ?_
    refine GW.seq ?_
    refine GW.seq ?_
    refine GW.region ?_
    refine R.move ⟨rfl, rfl, rfl, rfl⟩ rfl ?_
    refine R.neS ⟨rfl, rfl, rfl, rfl⟩ rfl rfl ?_   -- neq ['t8', 'const']
    refine GOps.nil ?_
    refine GW.ite rfl (fun hc1 => ?_) (fun hc1 => ?_)
    · try simp only [decide_eq_true_eq, decide_eq_false_iff_not, Bool.not_eq_true', Bool.not_eq_false'] at hc1
      have hpos : 0 < s.size := str_pos hc1
      refine GW.region ?_
      refine R.move ⟨rfl, rfl, rfl, rfl⟩ rfl ?_
      refine R.indexStrA ⟨rfl, rfl, rfl, rfl⟩ rfl rfl Tryd.underlying9 (by omega) (by omega) fun c1 hx1 hb1 => ?_   -- "utf.go:68" ['t11', '0']
      refine R.call ⟨rfl, rfl, rfl, rfl⟩ rfl (vs := [_]) rfl ((utf_head _ _ _ (by assumption)).mono ?_)
      rintro _ _ ⟨rfl, rfl⟩
      refine R.move ⟨rfl, rfl, rfl, rfl⟩ rfl ?_
      refine R.extract ⟨rfl, rfl, rfl, rfl⟩ rfl rfl ?_
      refine R.extract ⟨rfl, rfl, rfl, rfl⟩ rfl rfl ?_
      refine R.assign ⟨rfl, rfl, rfl, rfl⟩ rfl ?_
      refine R.assign ⟨rfl, rfl, rfl, rfl⟩ rfl ?_
      refine GOps.nil ?_
      refine GW.seq ?_
      refine GW.seq ?_
      refine GW.region ?_
      refine R.move ⟨rfl, rfl, rfl, rfl⟩ rfl ?_
      refine R.lss ⟨rfl, rfl, rfl, rfl⟩ rfl rfl ?_   -- lss ['t16', '0']
      refine R.move ⟨rfl, rfl, rfl, rfl⟩ rfl ?_
      refine GOps.caseB 18 rfl (fun hg2 => ?_) (fun hg2 => ?_)
      · try simp only [decide_eq_true_eq, decide_eq_false_iff_not, Bool.not_eq_true', Bool.not_eq_false'] at hg2
        refine GOps.skip rfl rfl rfl ?_
        refine GOps.skip rfl rfl rfl ?_
        refine GOps.skip rfl rfl rfl ?_
        refine GOps.skip rfl rfl rfl ?_
        refine R.pick_t ⟨rfl, rfl, rfl, rfl⟩ rfl rfl ?_
        refine GOps.nil ?_
        refine GW.cond_t rfl ?_
        refine GW.goto ?_
        exact ⟨rfl, rfl, by first | exact getS_head hx1 (.inl (by omega)) | exact getS_head hx1 (.inr (by rw [bs_length]; omega)) | exact getS_cont hx1 (i := i) (by omega) (by rw [getD_of (i := i + 1) hx2, ← Bool.not_eq_true, ← cont_iff _ hb2]; assumption) | (rw [hs0]; exact getS_nil), Hs.refl _⟩
      · try simp only [decide_eq_true_eq, decide_eq_false_iff_not, Bool.not_eq_true', Bool.not_eq_false'] at hg2
        refine R.move ⟨rfl, rfl, rfl, rfl⟩ rfl ?_
        refine R.lenStr ⟨rfl, rfl, rfl, rfl⟩ rfl rfl Tryd.underlying9 ?_
        refine R.move ⟨rfl, rfl, rfl, rfl⟩ rfl ?_
        refine R.leq ⟨rfl, rfl, rfl, rfl⟩ rfl rfl ?_   -- leq ['t20', 't21']
        refine R.pick_f ⟨rfl, rfl, rfl, rfl⟩ rfl rfl ?_
        refine GOps.nil ?_
        refine GW.ite rfl (fun hc3 => ?_) (fun hc3 => ?_)
        · try simp only [decide_eq_true_eq, decide_eq_false_iff_not, Bool.not_eq_true', Bool.not_eq_false'] at hc3
          refine GW.goto ?_
          exact ⟨rfl, rfl, by first | exact getS_head hx1 (.inl (by omega)) | exact getS_head hx1 (.inr (by rw [bs_length]; omega)) | exact getS_cont hx1 (i := i) (by omega) (by rw [getD_of (i := i + 1) hx2, ← Bool.not_eq_true, ← cont_iff _ hb2]; assumption) | (rw [hs0]; exact getS_nil), Hs.refl _⟩
        · try simp only [decide_eq_true_eq, decide_eq_false_iff_not, Bool.not_eq_true', Bool.not_eq_false'] at hc3
          refine GW.skip ?_
          refine GW.seq ?_
          refine GW.seq ?_
          refine GW.region ?_
          refine R.move ⟨rfl, rfl, rfl, rfl⟩ rfl ?_
          refine R.move ⟨rfl, rfl, rfl, rfl⟩ rfl ?_
          refine GOps.nil ?_
          refine GW.block ?_
          -- LOOP: live 0:s, 2, 3, 4, 5:r, 6:more, 24, 25
          refine GW.loopI (fun i : Nat => [(0, .string s), (5, .int .i64 (accR (bs s) (hdR c1) i : Nat)), (6, .int .i64 (hdM c1)), (24, .int .i64 (hdM c1)), (25, .int .i64 i)]) (fun i => G) (fun i => (hdM c1).toNat - i) (fun i => (i : Int) ≤ hdM c1 ∧ allTo (fun i => isCont ((bs s).getD (i + 1) 0)) i = true) 0
            (by repeat (first | exact Keeps.nil _ | refine Keeps.cons rfl ?_)) (Hs.refl _) (⟨by omega, rfl⟩) ?_
          rintro i ⟨hi, h0⟩
          refine GW.seq ?_
          refine GW.region ?_
          refine R.lss ⟨rfl, rfl, rfl, rfl⟩ rfl rfl ?_   -- lss ['t25', 't24']
          refine GOps.nil ?_
          refine GW.seq ?_
          refine GW.ite rfl (fun hc4 => ?_) (fun hc4 => ?_)
          · try simp only [decide_eq_true_eq, decide_eq_false_iff_not, Bool.not_eq_true', Bool.not_eq_false'] at hc4
            refine GW.skip ?_
            refine GW.seq ?_
            refine GW.block ?_
            refine GW.seq ?_
            refine GW.region ?_
            refine R.move ⟨rfl, rfl, rfl, rfl⟩ rfl ?_
            refine R.assign ⟨rfl, rfl, rfl, rfl⟩ rfl ?_
            refine GOps.nil ?_
            refine GW.seq ?_
            refine GW.seq ?_
            refine GW.region ?_
            refine R.move ⟨rfl, rfl, rfl, rfl⟩ rfl ?_
            refine R.move ⟨rfl, rfl, rfl, rfl⟩ rfl ?_
            refine R.add (r := ((i + 1 : Nat) : Int)) ⟨rfl, rfl, rfl, rfl⟩ rfl rfl (by rw [wrap64_id (by omega) (by omega)]; omega) ?_   -- add ['t29', '1']
            refine R.indexStrA ⟨rfl, rfl, rfl, rfl⟩ rfl rfl Tryd.underlying9 (by omega) (by omega) fun c2 hx2 hb2 => ?_   -- "utf.go:74" ['t28', 't30']
            refine R.and ⟨rfl, rfl, rfl, rfl⟩ rfl rfl (rfl) ?_   -- and ['t31', '192']
            refine R.neI ⟨rfl, rfl, rfl, rfl⟩ rfl rfl ?_   -- neq ['t32', '128']
            refine GOps.nil ?_
            refine GW.ite rfl (fun hc5 => ?_) (fun hc5 => ?_)
            · try simp only [decide_eq_true_eq, decide_eq_false_iff_not, Bool.not_eq_true', Bool.not_eq_false'] at hc5
              refine GW.goto ?_
              exact ⟨rfl, rfl, by first | exact getS_head hx1 (.inl (by omega)) | exact getS_head hx1 (.inr (by rw [bs_length]; omega)) | exact getS_cont hx1 (i := i) (by omega) (by rw [getD_of (i := i + 1) hx2, ← Bool.not_eq_true, ← cont_iff _ hb2]; assumption) | (rw [hs0]; exact getS_nil), Hs.refl _⟩
            · try simp only [decide_eq_true_eq, decide_eq_false_iff_not, Bool.not_eq_true', Bool.not_eq_false'] at hc5
              refine GW.skip ?_
              refine GW.region ?_
              refine R.move ⟨rfl, rfl, rfl, rfl⟩ rfl ?_
              refine R.shl (r := ((accR (bs s) (hdR c1) i : Nat) : Int) * 64) ⟨rfl, rfl, rfl, rfl⟩ rfl rfl (by omega) (by have := accR_bound (bs s) (hdR c1) (hdR_le c1) i (by have := hdM_le c1; omega); show IntKind.i64.wrap (_ * 64) = _; exact wrap64_id (by omega) (by omega)) ?_   -- shl ['t34', '6']
              refine R.move ⟨rfl, rfl, rfl, rfl⟩ rfl ?_
              refine R.move ⟨rfl, rfl, rfl, rfl⟩ rfl ?_
              refine R.add (r := ((i + 1 : Nat) : Int)) ⟨rfl, rfl, rfl, rfl⟩ rfl rfl (by rw [wrap64_id (by omega) (by omega)]; omega) ?_   -- add ['t37', '1']
              refine R.indexStrA ⟨rfl, rfl, rfl, rfl⟩ rfl rfl Tryd.underlying9 (by omega) (by omega) fun c3 hx3 hb3 => ?_   -- "utf.go:77" ['t36', 't38']
              refine R.and ⟨rfl, rfl, rfl, rfl⟩ rfl rfl (u8_and63 _ (by omega) (by omega)) ?_   -- and ['t39', '63']
              refine R.conv (r := ((c3 % 64 : Nat) : Int)) ⟨rfl, rfl, rfl, rfl⟩ rfl Tryd.underlying5 Tryd.underlying3 (by rw [wrap64_id (by omega) (by omega)]; omega) ?_
              refine R.or (r := ((accR (bs s) (hdR c1) (i + 1) : Nat) : Int)) ⟨rfl, rfl, rfl, rfl⟩ rfl rfl (by rw [or64 _ _ (accR_bound (bs s) (hdR c1) (hdR_le c1) i (by have := hdM_le c1; omega)) (Nat.mod_lt _ (by omega))]; simp only [accR]; rw [getD_of (i := i + 1) hx3]) ?_   -- or ['t35', 't41']
              refine R.assign ⟨rfl, rfl, rfl, rfl⟩ rfl ?_
              refine GOps.nil ?_
              refine GW.region ?_
              refine R.add (r := ((i + 1 : Nat) : Int)) ⟨rfl, rfl, rfl, rfl⟩ rfl rfl (by rw [wrap64_id (by omega) (by omega)]; omega) ?_   -- add ['t25', '1']
              refine R.move ⟨rfl, rfl, rfl, rfl⟩ rfl ?_
              refine GOps.nil ?_
              exact ⟨i + 1, by omega, ⟨by omega, allTo_succ h0 (by show isCont ((bs s).getD (i + 1) 0) = true; rw [getD_of (i := i + 1) hx2]; exact (cont_iff _ hb2).1 (Classical.not_not.1 hc5))⟩, rfl, by repeat (first | exact Keeps.nil _ | refine Keeps.cons rfl ?_), by first | exact Hs.refl _ | exact Hs.tl _ | exact Hs.tl2 _ _⟩
          · try simp only [decide_eq_true_eq, decide_eq_false_iff_not, Bool.not_eq_true', Bool.not_eq_false'] at hc4
            refine GW.exit ?_
            refine GW.seq ?_
            refine GW.seq ?_
            refine GW.region ?_
            refine R.move ⟨rfl, rfl, rfl, rfl⟩ rfl ?_
            refine R.call ⟨rfl, rfl, rfl, rfl⟩ rfl (vs := [_]) rfl ((utf_may _ _ _).mono ?_)
            rintro _ _ ⟨rfl, rfl⟩
            refine R.move ⟨rfl, rfl, rfl, rfl⟩ rfl ?_
            refine GOps.caseB 46 rfl (fun hg6 => ?_) (fun hg6 => ?_)
            · try simp only [decide_eq_true_eq, decide_eq_false_iff_not, Bool.not_eq_true', Bool.not_eq_false'] at hg6
              refine R.move ⟨rfl, rfl, rfl, rfl⟩ rfl ?_
              refine R.call ⟨rfl, rfl, rfl, rfl⟩ rfl (vs := [_]) rfl ((utf_size _ _ _).mono ?_)
              rintro _ _ ⟨rfl, rfl⟩
              refine R.move ⟨rfl, rfl, rfl, rfl⟩ rfl ?_
              refine R.add (r := _) ⟨rfl, rfl, rfl, rfl⟩ rfl rfl (wrap64_id (by omega) (by omega)) ?_   -- add ['t49', '1']
              refine R.eqI ⟨rfl, rfl, rfl, rfl⟩ rfl rfl ?_   -- eql ['t48', 't50']
              refine R.pick_t ⟨rfl, rfl, rfl, rfl⟩ rfl rfl ?_
              refine GOps.nil ?_
              refine GW.ite rfl (fun hc7 => ?_) (fun hc7 => ?_)
              · try simp only [decide_eq_true_eq, decide_eq_false_iff_not, Bool.not_eq_true', Bool.not_eq_false'] at hc7
                refine GW.seq ?_
                refine GW.region ?_
                refine R.move ⟨rfl, rfl, rfl, rfl⟩ rfl ?_
                refine R.move ⟨rfl, rfl, rfl, rfl⟩ rfl ?_
                refine R.add (r := _) ⟨rfl, rfl, rfl, rfl⟩ rfl rfl (wrap64_id (by omega) (by omega)) ?_   -- add ['t54', '1']
                refine R.assign ⟨rfl, rfl, rfl, rfl⟩ rfl ?_
                refine R.assign ⟨rfl, rfl, rfl, rfl⟩ rfl ?_
                refine R.assign ⟨rfl, rfl, rfl, rfl⟩ rfl ?_
                refine GOps.nil ?_
                refine GW.ret (Out.of (Res.three rfl rfl rfl rfl) (by first | exact Hs.refl _ | exact Hs.tl _ | exact Hs.tl2 _ _ | exact Hs.tl3 _ _ _) ⟨?_, rfl⟩)
                first | (rw [hnone]; rfl) | (rw [getS_end hx1 (m := i) (by omega) (by rw [bs_length]; omega) h0, if_pos ⟨by assumption, by omega⟩]; rw [show hdM c1 = (i : Int) by omega]; rfl) | (rw [getS_end hx1 (m := i) (by omega) (by rw [bs_length]; omega) h0, if_neg (fun hh => by have h1 := hh.1; have h2 := hh.2; first | omega | simp_all)]; rfl)
              · try simp only [decide_eq_true_eq, decide_eq_false_iff_not, Bool.not_eq_true', Bool.not_eq_false'] at hc7
                refine GW.skip ?_
                refine GW.seq ?_
                refine GW.label ?_
                refine GW.seq ?_
                refine GW.region ?_
                refine R.assign ⟨rfl, rfl, rfl, rfl⟩ rfl ?_
                refine R.assign ⟨rfl, rfl, rfl, rfl⟩ rfl ?_
                refine R.assign ⟨rfl, rfl, rfl, rfl⟩ rfl ?_
                refine GOps.nil ?_
                refine GW.ret (Out.of (Res.three rfl rfl rfl rfl) (by first | exact Hs.refl _ | exact Hs.tl _ | exact Hs.tl2 _ _ | exact Hs.tl3 _ _ _) ⟨?_, rfl⟩)
                first | (rw [hnone]; rfl) | (rw [getS_end hx1 (m := i) (by omega) (by rw [bs_length]; omega) h0, if_pos ⟨by assumption, by omega⟩]; rw [show hdM c1 = (i : Int) by omega]; rfl) | (rw [getS_end hx1 (m := i) (by omega) (by rw [bs_length]; omega) h0, if_neg (fun hh => by have h1 := hh.1; have h2 := hh.2; first | omega | simp_all)]; rfl)
            · try simp only [decide_eq_true_eq, decide_eq_false_iff_not, Bool.not_eq_true', Bool.not_eq_false'] at hg6
              refine GOps.skip rfl rfl rfl ?_
              refine GOps.skip rfl rfl rfl ?_
              refine GOps.skip rfl rfl rfl ?_
              refine GOps.skip rfl rfl rfl ?_
              refine GOps.skip rfl rfl rfl ?_
              refine R.pick_f ⟨rfl, rfl, rfl, rfl⟩ rfl rfl ?_
              refine GOps.nil ?_
              refine GW.cond_f rfl ?_
              refine GW.skip ?_
              refine GW.seq ?_
              refine GW.label ?_
              refine GW.seq ?_
              refine GW.region ?_
              refine R.assign ⟨rfl, rfl, rfl, rfl⟩ rfl ?_
              refine R.assign ⟨rfl, rfl, rfl, rfl⟩ rfl ?_
              refine R.assign ⟨rfl, rfl, rfl, rfl⟩ rfl ?_
              refine GOps.nil ?_
              refine GW.ret (Out.of (Res.three rfl rfl rfl rfl) (by first | exact Hs.refl _ | exact Hs.tl _ | exact Hs.tl2 _ _ | exact Hs.tl3 _ _ _) ⟨?_, rfl⟩)
              first | (rw [hnone]; rfl) | (rw [getS_end hx1 (m := i) (by omega) (by rw [bs_length]; omega) h0, if_pos ⟨by assumption, by omega⟩]; rw [show hdM c1 = (i : Int) by omega]; rfl) | (rw [getS_end hx1 (m := i) (by omega) (by rw [bs_length]; omega) h0, if_neg (fun hh => by have h1 := hh.1; have h2 := hh.2; first | omega | simp_all)]; rfl)
    · try simp only [decide_eq_true_eq, decide_eq_false_iff_not, Bool.not_eq_true', Bool.not_eq_false'] at hc1
      have hs0 : bs s = [] := str_nil hc1
      refine GW.skip ?_
      refine GW.seq ?_
      refine GW.seq ?_
      refine GW.region ?_
      refine R.move ⟨rfl, rfl, rfl, rfl⟩ rfl ?_
      refine R.lss ⟨rfl, rfl, rfl, rfl⟩ rfl rfl ?_   -- lss ['t16', '0']
      refine R.move ⟨rfl, rfl, rfl, rfl⟩ rfl ?_
      refine GOps.skip rfl rfl rfl ?_
      refine GOps.skip rfl rfl rfl ?_
      refine GOps.skip rfl rfl rfl ?_
      refine GOps.skip rfl rfl rfl ?_
      refine R.pick_t ⟨rfl, rfl, rfl, rfl⟩ rfl rfl ?_
      refine GOps.nil ?_
      refine GW.cond_t rfl ?_
      refine GW.goto ?_
      exact ⟨rfl, rfl, by first | exact getS_head hx1 (.inl (by omega)) | exact getS_head hx1 (.inr (by rw [bs_length]; omega)) | exact getS_cont hx1 (i := i) (by omega) (by rw [getD_of (i := i + 1) hx2, ← Bool.not_eq_true, ← cont_iff _ hb2]; assumption) | (rw [hs0]; exact getS_nil), Hs.refl _⟩
  · rintro fr ds G1 ⟨rfl, hnone, hG⟩; refine GW.weak (Keeps.nil _) hG ?_
    refine GW.seq ?_
    refine GW.skip ?_
    refine GW.seq ?_
    refine GW.region ?_
    refine R.assign ⟨rfl, rfl, rfl, rfl⟩ rfl ?_
    refine R.assign ⟨rfl, rfl, rfl, rfl⟩ rfl ?_
    refine R.assign ⟨rfl, rfl, rfl, rfl⟩ rfl ?_
    refine GOps.nil ?_
    refine GW.ret (Out.of (Res.three rfl rfl rfl rfl) (by first | exact Hs.refl _ | exact Hs.tl _ | exact Hs.tl2 _ _ | exact Hs.tl3 _ _ _) ⟨?_, rfl⟩)
    first | (rw [hnone]; rfl) | (rw [getS_end hx1 (m := i) (by omega) (by rw [bs_length]; omega) h0, if_pos ⟨by assumption, by omega⟩]; rw [show hdM c1 = (i : Int) by omega]; rfl) | (rw [getS_end hx1 (m := i) (by omega) (by rw [bs_length]; omega) h0, if_neg (fun hh => by have h1 := hh.1; have h2 := hh.2; first | omega | simp_all)]; rfl)

end Go.Proofs.YtgjmandjhjfgkaaDoor.Gl
