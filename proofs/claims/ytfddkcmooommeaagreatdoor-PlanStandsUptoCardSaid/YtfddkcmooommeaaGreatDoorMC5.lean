/- Part 5 of the proof: X7 X8 X9 XA X10 X11 X12 Qa Qc Z1 Z2 Z3 Z4 Z5 Tl Ta Z7 Z8 Y1 Y2 Y3 Y4. -/
import Derived.Test.YtfddkcmooommeaaGreatDoorMC4
import Derived.Test.YtfddkcmooommeaaGreatDoorRows
import Derived.ChangeShapes
import Derived.Deep.Slices
import Derived.Test.YtfddkcmooommeaaGreatDoorCards
import Derived.Test.YtfddkcmooommeaaGreatDoorTie
import Derived.WalkKit
import Derived.ProofKit
import Derived.OpenShut
import Derived.Carry
import Derived.Deep.DeepHandedRow
import Derived.Lib.LaidTab
import Derived.Lib.LaidIn
import Derived.Lib.LaidU8T
import Derived.Shelf.Sort.Plain
import Derived.Test.YtfddkcmooommeaaGreatDoorProg
import Derived.Sort.OwnSortedInts
import Derived.Laws.Cover2
section
namespace Go.Proofs.YtfddkcmooommeaaGreatDoor.Gl
open Go.RowKit Go.Shelf
set_option linter.unusedVariables false
set_option linter.unnecessarySimpa false
set_option linter.unusedSimpArgs false
attribute [-simp] List.getD_eq_getElem?_getD
def zC (xs : List Int) : List Value := xs.map fun z => Value.int .i64 z
def IntsAt (w0 : World) (G : Hp) (A : Option Addr) (xs : List Int) : Prop := RowAt w0 G 1 (fun z cs => cs = [.int .i64 z]) A xs
theorem IntsAt.mono {w0 : World} {G G' : Hp} {A : Option Addr} {xs : List Int} (h : IntsAt w0 G A xs) (hs : ∀ y ∈ G, y ∈ G') : IntsAt w0 G' A xs := fun i x hx => by obtain ⟨b, o, cs, h1, h2, h3⟩ := h i x hx; exact ⟨b, o, cs, h1, h2, h3.mono hs⟩
theorem int_at {w0 : World} {G : Hp} {A : Option Addr} {xs : List Int} {i : Nat} {z : Int} (h : IntsAt w0 G A xs) (hx : xs[i]? = some z) : ∃ b o, A = some ⟨b, o, none⟩ ∧ Rd w0 G b (o + i * 1) (.int .i64 z) := by
  obtain ⟨b, o, cs, hA, rfl, h3⟩ := h i z hx
  exact ⟨b, o, hA, h3 0 _ rfl⟩
theorem SlAt.ints {xs : List Int} {v : Value} {H : Hp} (w0 : World) (G : Hp) (h : SlAt 1 3 (zC xs) xs.length v H) : ∃ A c, v = .slice A xs.length c ∧ IntsAt w0 (H ++ G) A xs ∧ xs.length ≤ c := by
  generalize hn : xs.length = n at h
  cases h with
  | nil h0 hc =>
    subst h0
    rw [List.length_eq_zero_iff] at hn
    subst hn
    exact ⟨none, 0, rfl, fun i x hx => by simp at hx, Nat.le_refl _⟩
  | row b cap hl hc =>
    refine ⟨some ⟨b, 0, none⟩, cap, rfl, fun i x hx => ⟨b, 0, _, rfl, rfl, fun j v hv => ?_⟩, hc⟩
    refine .own (List.mem_append_left _ List.mem_cons_self) ?_
    cases j with
    | zero =>
      simp at hv
      subst hv
      show (zC xs)[0 + i * 1 + 0]? = _
      rw [show 0 + i * 1 + 0 = i by omega]
      simp [zC, hx]
    | succ j => simp at hv
theorem exact_ints {w0 : World} {G : Hp} {b : Nat} {ns : List Nat} (h : (b, Know.exact (.cells (intC ns).toArray 3 (0, 0))) ∈ G) : IntsAt w0 G (some ⟨b, 0, none⟩) (ns.map fun n : Nat => (n : Int)) := by
  intro i x hx
  rw [List.getElem?_map, Option.map_eq_some_iff] at hx
  obtain ⟨n, hn, rfl⟩ := hx
  refine ⟨b, 0, _, rfl, rfl, fun j v hv => ?_⟩
  refine .own h ?_
  cases j with
  | zero =>
    simp at hv
    subst hv
    show (intC ns).toArray[0 + i * 1 + 0]? = _
    rw [show 0 + i * 1 + 0 = i by omega, List.getElem?_toArray]
    exact intC_get hn
  | succ j => simp at hv
def upL (n i : Nat) : List Nat := (List.range n).map fun j => if j < i then j else 0
theorem upL_len (n i : Nat) : (upL n i).length = n := by simp [upL]
theorem upL_all (n : Nat) : upL n n = List.range n := by
  unfold upL
  conv => rhs; rw [← List.map_id (List.range n)]
  refine List.map_congr_left fun j hj => ?_
  rw [if_pos (List.mem_range.1 hj)]
  rfl
theorem upL_set {n i : Nat} (h : i < n) : (upL n i).set i i = upL n (i + 1) := by
  apply List.ext_getElem?
  intro j
  rw [List.getElem?_set, upL_len]
  split
  · rename_i e
    subst e
    simp [upL, h]
  · rename_i e
    unfold upL
    rcases Nat.lt_or_ge j n with hj | hj
    · simp only [List.getElem?_map, List.getElem?_range hj, Option.map_some]
      congr 1
      by_cases h1 : j < i
      · rw [if_pos h1, if_pos (by omega)]
      · rw [if_neg h1, if_neg (by omega)]
    · rw [List.getElem?_eq_none (by simpa using hj), List.getElem?_eq_none (by simpa using hj)]
theorem upL_put {n i : Nat} (h : i < n) : splice (intC (upL n i)).toArray (0 + (i : Int).toNat * 1) (Value.int .i64 (i : Nat)).cells.toList = (intC (upL n (i + 1))).toArray := by
  rw [show 0 + (i : Int).toNat * 1 = i by simp, show (Value.int .i64 (i : Nat)).cells.toList = [Value.int .i64 (i : Nat)] from rfl, splice_one (by rw [intC_len, upL_len]; exact h), ← upL_set h]
  simp [intC, List.map_set]
theorem upL_zero (n : Nat) : (intC (upL n 0)).toArray = (List.replicate n (Value.int .i64 0)).toArray := by
  congr 1
  apply List.ext_getElem?
  intro j
  rcases Nat.lt_or_ge j n with hj | hj
  · simp [intC, upL, hj]
  · rw [List.getElem?_eq_none (by rw [intC_len, upL_len]; exact hj), List.getElem?_eq_none (by simpa using hj)]
theorem Hs.cellsEq {b : Nat} {e : TypeId} {C D : Array Value} (h : C = D) (R : Hp) : Hs ((b, .exact (.cells C e (0, 0))) :: R) ((b, .exact (.cells D e (0, 0))) :: R) := h ▸ Hs.refl _
theorem take_eq_succ {xs ys : List Int} {i : Nat} {x y : Int} (h : xs.take i = ys.take i) (hx : xs[i]? = some x) (hy : ys[i]? = some y) (he : x = y) : xs.take (i + 1) = ys.take (i + 1) := by
  rw [List.take_add_one, List.take_add_one, h, hx, hy, he]
theorem plan_upTo (w0 : World) (G : Hp) (n : Nat) (hn : n ≤ 100000) : GC Tryz.prog w0 60 #[.int .i64 (n : Nat)] (fun v G' => ∃ b, v = .slice (some ⟨b, 0, none⟩) n n ∧ (b, .exact (.cells (intC (List.range n)).toArray 3 (0, 0))) :: G = G') G := by
  refine GC.body (args := [.int .i64 (n : Nat)]) Tryz.func60 rfl (by kernel_rfl) rfl ?_
  refine GW.seq ?_
  refine GW.region ?_
  refine R.assign ⟨rfl, rfl, rfl, rfl⟩ rfl ?_
  refine GOps.nil ?_
  refine GW.seq ?_
  refine GW.region ?_
  refine R.move ⟨rfl, rfl, rfl, rfl⟩ rfl ?_
  refine R.makeZero (n := n) (bytes := 8) (z0 := .int .i64 0) ⟨rfl, rfl, rfl, rfl⟩ (by rfl) (by rfl) Tryz.underlying32 (InfoE.mk (by kernel_rfl)) (InfoZ.mk (by kernel_rfl)) (by omega) (by omega) fun b6 => ?_
  refine R.assign ⟨rfl, rfl, rfl, rfl⟩ rfl ?_
  refine GOps.nil ?_
  refine GW.seq ?_
  refine GW.seq ?_
  refine GW.region ?_
  refine R.move ⟨rfl, rfl, rfl, rfl⟩ rfl ?_
  refine R.lenS ⟨rfl, rfl, rfl, rfl⟩ rfl rfl Tryz.underlying32 ?_
  refine R.move ⟨rfl, rfl, rfl, rfl⟩ rfl ?_
  refine GOps.nil ?_
  refine GW.block ?_
  refine GW.loopI (fun i : Nat => [(3, .slice (some ⟨b6, 0, none⟩) n n), (8, .int .i64 n), (9, .int .i64 i)]) (fun i => (b6, .exact (.cells (intC (upL n i)).toArray 3 (0, 0))) :: G) (fun i => n - i) (fun i => i ≤ n) 0
    (by repeat (first | exact Keeps.nil _ | refine Keeps.cons rfl ?_)) (Hs.cellsEq (upL_zero n).symm _) (Nat.zero_le _) ?_
  rintro i hi
  refine GW.seq ?_
  refine GW.region ?_
  refine R.lss ⟨rfl, rfl, rfl, rfl⟩ rfl rfl ?_
  refine GOps.nil ?_
  refine GW.seq ?_
  refine GW.ite rfl (fun hc1 => ?_) (fun hc1 => ?_)
  · try simp only [decide_eq_true_eq, decide_eq_false_iff_not, Bool.not_eq_true', Bool.not_eq_false'] at hc1
    refine GW.skip ?_
    refine GW.seq ?_
    refine GW.block ?_
    refine GW.seq ?_
    refine GW.region ?_
    refine R.move ⟨rfl, rfl, rfl, rfl⟩ rfl ?_
    refine R.assign ⟨rfl, rfl, rfl, rfl⟩ rfl ?_
    refine GOps.nil ?_
    refine GW.region ?_
    refine R.move ⟨rfl, rfl, rfl, rfl⟩ rfl ?_
    refine R.move ⟨rfl, rfl, rfl, rfl⟩ rfl ?_
    refine R.move ⟨rfl, rfl, rfl, rfl⟩ rfl ?_
    refine R.indexAddrS ⟨rfl, rfl, rfl, rfl⟩ rfl rfl Tryz.underlying32 Tryz.sizeOf3 (by omega) (by omega) ?_
    refine R.store (G1 := []) rfl rfl rfl rfl rfl Tryz.sizeOf3 rfl rfl (rfl) (by simp [intC_len, upL_len]; omega) ?_
    refine GOps.nil ?_
    refine GW.region ?_
    refine R.add (r := (((i + 1) : Nat) : Int)) ⟨rfl, rfl, rfl, rfl⟩ rfl rfl (by rw [wrap64_id (by omega) (by omega)]; omega) ?_
    refine R.move ⟨rfl, rfl, rfl, rfl⟩ rfl ?_
    refine GOps.nil ?_
    exact ⟨i + 1, by omega, by omega, rfl, by repeat (first | exact Keeps.nil _ | refine Keeps.cons rfl ?_), by first | exact Hs.refl _ | exact Hs.tl _ | exact Hs.tl2 _ _ | exact Hs.cellsEq (upL_put (by omega)) _⟩
  · try simp only [decide_eq_true_eq, decide_eq_false_iff_not, Bool.not_eq_true', Bool.not_eq_false'] at hc1
    refine GW.exit ?_
    refine GW.seq ?_
    refine GW.region ?_
    refine R.move ⟨rfl, rfl, rfl, rfl⟩ rfl ?_
    refine R.assign ⟨rfl, rfl, rfl, rfl⟩ rfl ?_
    refine GOps.nil ?_
    obtain rfl : i = n := by omega
    rw [upL_all]
    exact GW.ret (Out.of (Res.one rfl rfl) (Hs.refl _) ⟨b6, rfl, rfl⟩)
theorem sl_EqInt (w0 : World) (G : Hp) (A B : Option Addr) (xs ys : List Int) (c e : Nat) (hx : IntsAt w0 G A xs) (hy : IntsAt w0 G B ys) (hm : xs.length ≤ 100000) (hm2 : ys.length ≤ 100000) : GC Tryz.prog w0 59 #[.slice A xs.length c, .slice B ys.length e] (fun v G' => v = .bool (decide (xs = ys)) ∧ G = G') G := by
  refine GC.body (args := [.slice A xs.length c, .slice B ys.length e]) Tryz.func59 rfl (by kernel_rfl) rfl ?_
  refine GW.seq ?_
  refine GW.region ?_
  refine R.assign ⟨rfl, rfl, rfl, rfl⟩ rfl ?_
  refine GOps.nil ?_
  refine GW.seq ?_
  refine GW.seq ?_
  refine GW.region ?_
  refine R.move ⟨rfl, rfl, rfl, rfl⟩ rfl ?_
  refine R.lenS ⟨rfl, rfl, rfl, rfl⟩ rfl rfl Tryz.underlying32 ?_
  refine R.move ⟨rfl, rfl, rfl, rfl⟩ rfl ?_
  refine R.lenS ⟨rfl, rfl, rfl, rfl⟩ rfl rfl Tryz.underlying32 ?_
  refine R.neI ⟨rfl, rfl, rfl, rfl⟩ rfl rfl ?_
  refine GOps.nil ?_
  refine GW.ite rfl (fun hc1 => ?_) (fun hc1 => ?_)
  · try simp only [decide_eq_true_eq, decide_eq_false_iff_not, Bool.not_eq_true', Bool.not_eq_false'] at hc1
    have hne : xs ≠ ys := fun e0 => by subst e0; omega
    refine GW.seq ?_
    refine GW.region ?_
    refine R.assign ⟨rfl, rfl, rfl, rfl⟩ rfl ?_
    refine GOps.nil ?_
    refine GW.ret (Out.of (Res.one rfl rfl) (by first | exact Hs.refl _ | exact Hs.tl _ | exact Hs.tl2 _ _ | exact Hs.tl3 _ _ _ | exact (Hs.app _).trans (Hs.tl _) | exact (Hs.app _).trans ((Hs.app _).trans (Hs.tl _)) | exact Hs.sub (by repeat (first | exact List.Sublist.refl _ | apply List.Sublist.cons))) ⟨?_, rfl⟩)
    first | rw [decide_eq_false hne] | rw [decide_eq_true heq]
  · try simp only [decide_eq_true_eq, decide_eq_false_iff_not, Bool.not_eq_true', Bool.not_eq_false'] at hc1
    refine GW.skip ?_
    refine GW.seq ?_
    refine GW.seq ?_
    refine GW.region ?_
    refine R.move ⟨rfl, rfl, rfl, rfl⟩ rfl ?_
    refine R.lenS ⟨rfl, rfl, rfl, rfl⟩ rfl rfl Tryz.underlying32 ?_
    refine R.move ⟨rfl, rfl, rfl, rfl⟩ rfl ?_
    refine GOps.nil ?_
    refine GW.block ?_
    refine GW.loopI (fun i : Nat => [(0, .slice A xs.length c), (1, .slice B ys.length e), (12, .int .i64 xs.length), (13, .int .i64 i)]) (fun i => G) (fun i => xs.length - i) (fun i => i ≤ xs.length ∧ xs.take i = ys.take i) 0
      (by repeat (first | exact Keeps.nil _ | refine Keeps.cons rfl ?_)) (Hs.refl _) (⟨by omega, by simp⟩) ?_
    rintro i ⟨hi, h0⟩
    refine GW.seq ?_
    refine GW.region ?_
    refine R.lss ⟨rfl, rfl, rfl, rfl⟩ rfl rfl ?_
    refine GOps.nil ?_
    refine GW.seq ?_
    refine GW.ite rfl (fun hc2 => ?_) (fun hc2 => ?_)
    · try simp only [decide_eq_true_eq, decide_eq_false_iff_not, Bool.not_eq_true', Bool.not_eq_false'] at hc2
      obtain ⟨x, hxi⟩ : ∃ x, xs[i]? = some x := ⟨_, List.getElem?_eq_getElem (by omega)⟩
      obtain ⟨y, hyi⟩ : ∃ y, ys[i]? = some y := ⟨_, List.getElem?_eq_getElem (by omega)⟩
      obtain ⟨xb, xo, rfl, hrx⟩ := int_at hx hxi
      obtain ⟨yb, yo, rfl, hry⟩ := int_at hy hyi
      refine GW.skip ?_
      refine GW.seq ?_
      refine GW.block ?_
      refine GW.seq ?_
      refine GW.region ?_
      refine R.move ⟨rfl, rfl, rfl, rfl⟩ rfl ?_
      refine R.assign ⟨rfl, rfl, rfl, rfl⟩ rfl ?_
      refine GOps.nil ?_
      refine GW.seq ?_
      refine GW.drawS 9 rfl (by kernel_rfl) ?_
      refine GA.val 0 rfl (V.move ⟨rfl, rfl, rfl, rfl⟩ rfl) rfl (by kernel_rfl) (by kernel_rfl) (by kernel_rfl) ?_
      refine GA.val 1 rfl (V.move ⟨rfl, rfl, rfl, rfl⟩ rfl) rfl (by kernel_rfl) (by kernel_rfl) (by kernel_rfl) ?_
      refine GA.val 2 rfl (V.indexAddrS ⟨rfl, rfl, rfl, rfl⟩ rfl rfl Tryz.underlying32 Tryz.sizeOf3 (by omega) (by omega)) rfl (by kernel_rfl) (by kernel_rfl) (by kernel_rfl) ?_
      refine GA.val 3 rfl (V.load1 ⟨rfl, rfl, rfl, rfl⟩ rfl Tryz.underlying3 rfl (hrx)) rfl (by kernel_rfl) (by kernel_rfl) (by kernel_rfl) ?_
      refine GA.val 4 rfl (V.move ⟨rfl, rfl, rfl, rfl⟩ rfl) rfl (by kernel_rfl) (by kernel_rfl) (by kernel_rfl) ?_
      refine GA.val 5 rfl (V.move ⟨rfl, rfl, rfl, rfl⟩ rfl) rfl (by kernel_rfl) (by kernel_rfl) (by kernel_rfl) ?_
      refine GA.val 6 rfl (V.indexAddrS ⟨rfl, rfl, rfl, rfl⟩ rfl rfl Tryz.underlying32 Tryz.sizeOf3 (by omega) (by omega)) rfl (by kernel_rfl) (by kernel_rfl) (by kernel_rfl) ?_
      refine GA.val 7 rfl (V.load1 ⟨rfl, rfl, rfl, rfl⟩ rfl Tryz.underlying3 rfl (hry)) rfl (by kernel_rfl) (by kernel_rfl) (by kernel_rfl) ?_
      refine GA.val 8 rfl (V.neI ⟨rfl, rfl, rfl, rfl⟩ rfl rfl) rfl (by kernel_rfl) (by kernel_rfl) (by kernel_rfl) ?_
      refine GA.done (by first | exact Hs.refl _ | exact Hs.tl _ | exact Hs.tl2 _ _ | exact Hs.tl3 _ _ _ | exact Hs.app _ | exact Hs.sub (by simp)) (by kernel_rfl) ?_
      refine GW.ite rfl (fun hc3 => ?_) (fun hc3 => ?_)
      · try simp only [decide_eq_true_eq, decide_eq_false_iff_not, Bool.not_eq_true', Bool.not_eq_false'] at hc3
        have hne : xs ≠ ys := fun e0 => by subst e0; rw [hxi] at hyi; have := Option.some.inj hyi; omega
        refine GW.seq ?_
        refine GW.region ?_
        refine R.assign ⟨rfl, rfl, rfl, rfl⟩ rfl ?_
        refine GOps.nil ?_
        refine GW.ret (Out.of (Res.one rfl rfl) (by first | exact Hs.refl _ | exact Hs.tl _ | exact Hs.tl2 _ _ | exact Hs.tl3 _ _ _ | exact (Hs.app _).trans (Hs.tl _) | exact (Hs.app _).trans ((Hs.app _).trans (Hs.tl _)) | exact Hs.sub (by repeat (first | exact List.Sublist.refl _ | apply List.Sublist.cons))) ⟨?_, rfl⟩)
        first | rw [decide_eq_false hne] | rw [decide_eq_true heq]
      · try simp only [decide_eq_true_eq, decide_eq_false_iff_not, Bool.not_eq_true', Bool.not_eq_false'] at hc3
        refine GW.skip ?_
        refine GW.region ?_
        refine R.add (r := (((i + 1) : Nat) : Int)) ⟨rfl, rfl, rfl, rfl⟩ rfl rfl (by rw [wrap64_id (by omega) (by omega)]; omega) ?_
        refine R.move ⟨rfl, rfl, rfl, rfl⟩ rfl ?_
        refine GOps.nil ?_
        exact ⟨i + 1, by omega, ⟨by omega, take_eq_succ h0 hxi hyi (by omega)⟩, rfl, by repeat (first | exact Keeps.nil _ | refine Keeps.cons rfl ?_), by first | exact Hs.refl _ | exact Hs.tl _ | exact Hs.tl2 _ _⟩
    · try simp only [decide_eq_true_eq, decide_eq_false_iff_not, Bool.not_eq_true', Bool.not_eq_false'] at hc2
      have heq : xs = ys := by rwa [List.take_of_length_le (by omega), List.take_of_length_le (by omega)] at h0
      refine GW.exit ?_
      refine GW.seq ?_
      refine GW.region ?_
      refine R.assign ⟨rfl, rfl, rfl, rfl⟩ rfl ?_
      refine GOps.nil ?_
      refine GW.ret (Out.of (Res.one rfl rfl) (by first | exact Hs.refl _ | exact Hs.tl _ | exact Hs.tl2 _ _ | exact Hs.tl3 _ _ _ | exact (Hs.app _).trans (Hs.tl _) | exact (Hs.app _).trans ((Hs.app _).trans (Hs.tl _)) | exact Hs.sub (by repeat (first | exact List.Sublist.refl _ | apply List.Sublist.cons))) ⟨?_, rfl⟩)
      first | rw [decide_eq_false hne] | rw [decide_eq_true heq]
theorem sl_Values (w0 : World) (G : Hp) (A : Option Addr) (n c : Nat) : GC Tryz.prog w0 58 #[.slice A n c] (fun v G' => ∃ b, v = .func (.func 89) #[] #[.pointer (some ⟨b, 0, none⟩)] ∧ (b, .exact (.cells #[.slice A n c] 32 (0, 0))) :: G = G') G := by
  refine GC.body (args := [.slice A n c]) Tryz.func58 rfl (by kernel_rfl) rfl ?_
  refine GW.seq ?_
  refine GW.region ?_
  refine R.box ⟨rfl, rfl, rfl, rfl⟩ rfl fun b1 => ?_
  refine R.assign ⟨rfl, rfl, rfl, rfl⟩ rfl ?_
  refine GOps.nil ?_
  refine GW.seq ?_
  refine GW.region ?_
  refine R.makeFunc (vs := []) (us := [_]) ⟨rfl, rfl, rfl, rfl⟩ rfl rfl ?_
  refine R.assign ⟨rfl, rfl, rfl, rfl⟩ rfl ?_
  refine GOps.nil ?_
  exact GW.ret (Out.of (Res.one rfl rfl) (Hs.refl _) ⟨b1, rfl, rfl⟩)
theorem values1 {σ : Type} (w0 : World) (l b1 : Nat) (A : Option Addr) (xs : List Int) (c : Nat) (L : σ → Hp) (I : Nat → σ → Prop) (F : Hp) (x0 : σ) (hm : xs.length ≤ 100000)
    (hR : ∀ x, Rd w0 (L x ++ F) b1 0 (.slice A xs.length c)) (hx : IntsAt w0 F A xs) (h0 : I 0 x0)
    (hy : ∀ j x z, I j x → xs[j]? = some z → GY Tryz.prog w0 l [.int .i64 z] (fun v G' => v = .bool true ∧ ∃ x', I (j + 1) x' ∧ L x' ++ F = G') (L x ++ F)) :
    GC Tryz.prog w0 89 #[.func (.yield l) #[] #[], .pointer (some ⟨b1, 0, none⟩)] (fun v G' => ∃ x, I xs.length x ∧ L x ++ F = G') (L x0 ++ F) := by
  refine GC.body (args := [.func (.yield l) #[] #[], .pointer (some ⟨b1, 0, none⟩)]) Tryz.func89 rfl (by kernel_rfl) rfl ?_
  refine GW.seq ?_
  refine GW.region ?_
  refine R.load1 ⟨rfl, rfl, rfl, rfl⟩ rfl Tryz.underlying32 rfl (hR x0) ?_
  refine R.lenS ⟨rfl, rfl, rfl, rfl⟩ rfl rfl Tryz.underlying32 ?_
  refine R.move ⟨rfl, rfl, rfl, rfl⟩ rfl ?_
  refine GOps.nil ?_
  refine GW.block ?_
  refine GW.loop4 (fun (i : Nat) (x : σ) (u1 : Unit) (u2 : Unit) => [(0, .func (.yield l) #[] #[]), (5, .slice A xs.length c), (6, .int .i64 xs.length), (7, .int .i64 i)]) (fun (i : Nat) (x : σ) (u1 : Unit) (u2 : Unit) => L x ++ F) (fun i : Nat => xs.length - i) (fun (i : Nat) (x : σ) (u1 : Unit) (u2 : Unit) => i ≤ xs.length ∧ I i x) 0 (x0) (()) (())
    (by repeat (first | exact Keeps.nil _ | refine Keeps.cons rfl ?_)) (Hs.refl _) (⟨by omega, h0⟩) ?_
  rintro i x u1 u2 ⟨hi, hI⟩
  refine GW.seq ?_
  refine GW.region ?_
  refine R.lss ⟨rfl, rfl, rfl, rfl⟩ rfl rfl ?_
  refine GOps.nil ?_
  refine GW.seq ?_
  refine GW.ite rfl (fun hc1 => ?_) (fun hc1 => ?_)
  · try simp only [decide_eq_true_eq, decide_eq_false_iff_not, Bool.not_eq_true', Bool.not_eq_false'] at hc1
    obtain ⟨z, hz⟩ : ∃ z, xs[i]? = some z := ⟨_, List.getElem?_eq_getElem (by omega)⟩
    obtain ⟨zb, zo, rfl, hrz⟩ := int_at hx hz
    refine GW.skip ?_
    refine GW.seq ?_
    refine GW.block ?_
    refine GW.seq ?_
    refine GW.region ?_
    refine R.indexAddrS ⟨rfl, rfl, rfl, rfl⟩ rfl rfl Tryz.underlying32 Tryz.sizeOf3 (by omega) (by omega) ?_
    refine R.load1 ⟨rfl, rfl, rfl, rfl⟩ rfl Tryz.underlying3 rfl (hrz.mono (fun y hy => List.mem_append_right _ hy)) ?_
    refine R.assign ⟨rfl, rfl, rfl, rfl⟩ rfl ?_
    refine GOps.nil ?_
    refine GW.seq ?_
    refine GW.region ?_
    refine R.move ⟨rfl, rfl, rfl, rfl⟩ rfl ?_
    refine R.move ⟨rfl, rfl, rfl, rfl⟩ rfl ?_
    refine R.yield ⟨rfl, rfl, rfl, rfl⟩ rfl (vs := [_]) rfl ((hy i x z hI hz).mono ?_)
    rintro v G2 ⟨rfl, x', hI', rfl⟩
    refine R.not ⟨rfl, rfl, rfl, rfl⟩ rfl ?_
    refine GOps.nil ?_
    refine GW.ite rfl (fun hc2 => ?_) (fun hc2 => ?_)
    · try simp only [decide_eq_true_eq, decide_eq_false_iff_not, Bool.not_eq_true', Bool.not_eq_false'] at hc2
      exfalso; simp at hc2
    · try simp only [decide_eq_true_eq, decide_eq_false_iff_not, Bool.not_eq_true', Bool.not_eq_false'] at hc2
      refine GW.skip ?_
      refine GW.region ?_
      refine R.add (r := (((i + 1) : Nat) : Int)) ⟨rfl, rfl, rfl, rfl⟩ rfl rfl (by rw [wrap64_id (by omega) (by omega)]; omega) ?_
      refine R.move ⟨rfl, rfl, rfl, rfl⟩ rfl ?_
      refine GOps.nil ?_
      exact ⟨i + 1, x', (), (), by omega, ⟨by omega, hI'⟩, rfl, by repeat (first | exact Keeps.nil _ | refine Keeps.cons rfl ?_), by first | exact Hs.refl _ | exact Hs.tl _ | exact Hs.tl2 _ _⟩
  · try simp only [decide_eq_true_eq, decide_eq_false_iff_not, Bool.not_eq_true', Bool.not_eq_false'] at hc1
    refine GW.exit ?_
    obtain rfl : i = xs.length := by omega
    refine Out.end_ (Res.none rfl) (Hs.refl _) ⟨x, hI, rfl⟩
end Go.Proofs.YtfddkcmooommeaaGreatDoor.Gl
end
section
namespace Go.Proofs.YtfddkcmooommeaaGreatDoor.Gl
open Go.RowKit Go.Shelf
set_option linter.unusedVariables false
set_option linter.unnecessarySimpa false
set_option linter.unusedSimpArgs false
attribute [-simp] List.getD_eq_getElem?_getD
theorem zC_succ {xs : List Int} {j : Nat} {z : Int} {v : Value} {H : Hp} (h : xs[j]? = some z) (hS : SlAt 1 3 (zC (xs.take j) ++ [.int .i64 z]) (j + 1) v H) : SlAt 1 3 (zC (xs.take (j + 1))) (j + 1) v H := by
  rw [List.take_add_one, h]
  unfold zC at hS ⊢
  rw [List.map_append]
  exact hS
theorem sl_AppendSeq (w0 : World) (G : Hp) (A : Option Addr) (xs : List Int) (c b1 : Nat) (hb1 : (b1, Know.exact (.cells #[.slice A xs.length c] 32 (0, 0))) ∈ G) (hx : IntsAt w0 G A xs) (hm : xs.length ≤ 100000) : GC Tryz.prog w0 108 #[.slice none 0 0, .func (.func 89) #[] #[.pointer (some ⟨b1, 0, none⟩)]] (fun v G' => ∃ H, (SlAt 1 3 (zC xs) xs.length v H ∧ (xs.length = 0 → v = .slice none 0 0 ∧ H = [])) ∧ H ++ G = G') G := by
  refine GC.body (args := [.slice none 0 0, .func (.func 89) #[] #[.pointer (some ⟨b1, 0, none⟩)]]) Tryz.func108 rfl (by kernel_rfl) rfl ?_
  refine GW.seq ?_
  refine GW.region ?_
  refine R.box ⟨rfl, rfl, rfl, rfl⟩ rfl fun b2 => ?_
  refine R.assign ⟨rfl, rfl, rfl, rfl⟩ rfl ?_
  refine GOps.nil ?_
  refine GW.seq ?_
  refine GW.seq ?_
  refine GW.region ?_
  refine R.move ⟨rfl, rfl, rfl, rfl⟩ rfl ?_
  refine GOps.nil ?_
  refine GW.block ?_
  refine GW.rangeFunc rfl fun D0 l0 r0 hp0 ha0 hb0 hfr0 => ?_
  refine GC.mono (values1 w0 l0 b1 A xs c (fun x : Value × Hp => (l0, lrec r0 .ready none) :: (D0, .exact (.deferred (some []))) :: (b2, .exact (.cells #[x.1] 32 (0, 0))) :: x.2) (fun j x => SlAt 1 3 (zC (xs.take j)) j x.1 x.2 ∧ (j = 0 → x.1 = .slice none 0 0 ∧ x.2 = [])) G (.slice none 0 0, []) hm (fun x => .own (List.mem_cons_of_mem _ (List.mem_cons_of_mem _ (List.mem_cons_of_mem _ (List.mem_append_right _ hb1)))) rfl) hx ⟨.nil rfl rfl, fun _ => ⟨rfl, rfl⟩⟩ ?_) ?_
  · rintro j x z ⟨hI, _⟩ hz; obtain ⟨va, Ho⟩ := x; simp only at hI; have hjn := (List.getElem?_eq_some_iff.1 hz).1; show GY _ _ _ _ _ ((l0, lrec r0 .ready none) :: (D0, .exact (.deferred (some []))) :: (b2, .exact (.cells #[va] 32 (0, 0))) :: (Ho ++ G))
    refine GY.intro hfr0 (by rw [hp0]; rfl) (by rw [hp0]; rfl) ?_
    rw [hp0, ha0, hb0]
    refine GW.region ?_
    refine R.assign ⟨rfl, rfl, rfl, rfl⟩ rfl ?_
    refine GOps.nil ?_
    refine ⟨_, Hs.refl _, ?_⟩
    refine GW.block ?_
    refine GW.region ?_
    refine R.load1 ⟨rfl, rfl, rfl, rfl⟩ rfl Tryz.underlying32 rfl (.own' (by repeat (first | exact List.mem_cons_self | apply List.mem_cons_of_mem | apply List.mem_append_right)) (by rfl)) ?_
    refine R.move ⟨rfl, rfl, rfl, rfl⟩ rfl ?_
    refine R.buildSliceF (sz := 1) (bytes := 8) (vs := [_]) (cs := [.int .i64 z]) ⟨rfl, rfl, rfl, rfl⟩ rfl Tryz.underlying32 (InfoE.mk (by kernel_rfl)) rfl rfl rfl rfl rfl fun b10 => ?_
    refine R.append (sz := 1) (bytes := 8) (G1 := [_, _, _, _]) (H := Ho) (news := [.int .i64 z]) ⟨rfl, rfl, rfl, rfl⟩ rfl rfl rfl Tryz.underlying32 (InfoE.mk (by kernel_rfl)) (hI) (rfl) (rfl) (.own (by repeat (first | exact List.mem_cons_self | apply List.mem_cons_of_mem | apply List.mem_append_right | exact List.mem_append_left _ List.mem_cons_self)) 0 _ (fun j v hv => by simpa using hv)) (by omega) (by rfl) (by omega) (by omega) fun v11 H11 hv11 => ?_
    obtain ⟨A11, c11, rfl, hc11⟩ := hv11.split
    refine R.storeAll (G1 := [_, _, _]) rfl rfl rfl rfl rfl Tryz.sizeOf32 rfl rfl rfl rfl ?_
    refine GOps.nil ?_
    exact ⟨_, Hs.sub (by repeat (first | exact List.Sublist.refl _ | apply List.Sublist.cons_cons | apply List.Sublist.cons)), rfl, (.slice A11 _ c11, H11), ⟨zC_succ hz hv11, fun e => absurd e (Nat.succ_ne_zero j)⟩, rfl⟩
  · rintro _ _ ⟨x, hI, rfl⟩
    · obtain ⟨va, Ho⟩ := x
      refine ⟨.ready, none, _, by simp, Hs.refl _, ?_⟩
      show GW _ _ _ _ _ ((D0, .exact (.deferred (some []))) :: (b2, .exact (.cells #[va] 32 (0, 0))) :: (Ho ++ G))
      refine GW.seq ?_
      refine GW.region ?_
      refine R.load1 ⟨rfl, rfl, rfl, rfl⟩ rfl Tryz.underlying32 rfl (.own' (by repeat (first | exact List.mem_cons_self | apply List.mem_cons_of_mem | apply List.mem_append_right)) (by rfl)) ?_
      refine R.assign ⟨rfl, rfl, rfl, rfl⟩ rfl ?_
      refine GOps.nil ?_
      simp only [List.take_length] at hI
      exact GW.ret (Out.of1 (Res.one rfl rfl) (Hs.tl _) ⟨Ho, hI, rfl⟩)
theorem sl_Collect (w0 : World) (G : Hp) (A : Option Addr) (xs : List Int) (c b1 : Nat) (hb1 : (b1, Know.exact (.cells #[.slice A xs.length c] 32 (0, 0))) ∈ G) (hx : IntsAt w0 G A xs) (hm : xs.length ≤ 100000) : GC Tryz.prog w0 87 #[.func (.func 89) #[] #[.pointer (some ⟨b1, 0, none⟩)]] (fun v G' => ∃ H, (SlAt 1 3 (zC xs) xs.length v H ∧ (xs.length = 0 → v = .slice none 0 0 ∧ H = [])) ∧ H ++ G = G') G := by
  refine GC.body (args := [.func (.func 89) #[] #[.pointer (some ⟨b1, 0, none⟩)]]) Tryz.func87 rfl (by kernel_rfl) rfl ?_
  refine GW.seq ?_
  refine GW.region ?_
  refine R.assign ⟨rfl, rfl, rfl, rfl⟩ rfl ?_
  refine GOps.nil ?_
  refine GW.seq ?_
  refine GW.region ?_
  refine R.move ⟨rfl, rfl, rfl, rfl⟩ rfl ?_
  refine R.call ⟨rfl, rfl, rfl, rfl⟩ rfl (vs := [_, _]) rfl ((sl_AppendSeq _ _ A xs c b1 hb1 hx hm).mono ?_)
  rintro v4 _ ⟨H4, h4, rfl⟩
  refine R.assign ⟨rfl, rfl, rfl, rfl⟩ rfl ?_
  refine GOps.nil ?_
  exact GW.ret (Out.of (Res.one rfl rfl) (Hs.refl _) ⟨H4, h4, rfl⟩)
theorem len64_0 (w0 : World) (G : Hp) : GC Tryz.prog w0 135 #[.int .u64 0] (fun v G' => ∃ z, v = .int .i64 z ∧ G = G') G := by
  refine GC.body (args := [.int .u64 0]) Tryz.func135 rfl (by kernel_rfl) rfl ?_
  refine GW.seq ?_
  refine GW.region ?_
  refine R.assign ⟨rfl, rfl, rfl, rfl⟩ rfl ?_
  refine GOps.nil ?_
  refine GW.seq ?_
  refine GW.seq ?_
  refine GW.region ?_
  refine R.move ⟨rfl, rfl, rfl, rfl⟩ rfl ?_
  refine R.geq ⟨rfl, rfl, rfl, rfl⟩ rfl rfl ?_
  refine GOps.nil ?_
  refine GW.cond_f rfl ?_
  refine GW.skip ?_
  refine GW.seq ?_
  refine GW.seq ?_
  refine GW.region ?_
  refine R.move ⟨rfl, rfl, rfl, rfl⟩ rfl ?_
  refine R.geq ⟨rfl, rfl, rfl, rfl⟩ rfl rfl ?_
  refine GOps.nil ?_
  refine GW.cond_f rfl ?_
  refine GW.skip ?_
  refine GW.seq ?_
  refine GW.seq ?_
  refine GW.region ?_
  refine R.move ⟨rfl, rfl, rfl, rfl⟩ rfl ?_
  refine R.geq ⟨rfl, rfl, rfl, rfl⟩ rfl rfl ?_
  refine GOps.nil ?_
  refine GW.cond_f rfl ?_
  refine GW.skip ?_
  refine GW.seq ?_
  refine GW.region ?_
  refine R.move ⟨rfl, rfl, rfl, rfl⟩ rfl ?_
  refine R.move ⟨rfl, rfl, rfl, rfl⟩ rfl ?_
  refine R.conv (r := 0) ⟨rfl, rfl, rfl, rfl⟩ rfl Tryz.underlying192 Tryz.underlying5 (rfl) ?_
  refine R.indexStrA ⟨rfl, rfl, rfl, rfl⟩ rfl rfl Tryz.underlying9 (by decide) (by decide +kernel) fun c1 hx1 hb1 => ?_   -- "bits.go:350" ['const', 't21']
  refine R.conv (r := _) ⟨rfl, rfl, rfl, rfl⟩ rfl Tryz.underlying5 Tryz.underlying3 (rfl) ?_
  refine R.add (r := _) ⟨rfl, rfl, rfl, rfl⟩ rfl rfl (rfl) ?_
  refine R.assign ⟨rfl, rfl, rfl, rfl⟩ rfl ?_
  refine GOps.nil ?_
  exact GW.ret (Out.of (Res.one rfl rfl) (Hs.refl _) ⟨_, rfl, rfl⟩)
theorem len_0 (w0 : World) (G : Hp) : GC Tryz.prog w0 110 #[.int .u64 0] (fun v G' => ∃ z, v = .int .i64 z ∧ G = G') G := by
  refine GC.body (args := [.int .u64 0]) Tryz.func110 rfl (by kernel_rfl) rfl ?_
  refine GW.seq ?_
  refine GW.region ?_
  refine R.assign ⟨rfl, rfl, rfl, rfl⟩ rfl ?_
  refine GOps.nil ?_
  refine GW.seq ?_
  refine GW.ite rfl (fun hc1 => ?_) (fun hc1 => ?_)
  · try simp only [decide_eq_true_eq, decide_eq_false_iff_not, Bool.not_eq_true', Bool.not_eq_false'] at hc1
    exfalso; cases hc1
  · try simp only [decide_eq_true_eq, decide_eq_false_iff_not, Bool.not_eq_true', Bool.not_eq_false'] at hc1
    refine GW.skip ?_
    refine GW.seq ?_
    refine GW.region ?_
    refine R.move ⟨rfl, rfl, rfl, rfl⟩ rfl ?_
    refine R.call ⟨rfl, rfl, rfl, rfl⟩ rfl (vs := [_]) rfl ((len64_0 _ _).mono ?_)
    rintro _ _ ⟨z, rfl, rfl⟩
    refine R.assign ⟨rfl, rfl, rfl, rfl⟩ rfl ?_
    refine GOps.nil ?_
    exact GW.ret (Out.of (Res.one rfl rfl) (Hs.refl _) ⟨_, rfl, rfl⟩)
theorem ins_0 (w0 : World) (G : Hp) : GC Tryz.prog w0 125 #[.slice none 0 0, .int .i64 0, .int .i64 0] (fun v G' => v = .tuple #[] ∧ G = G') G := by
  refine GC.body (args := [.slice none 0 0, .int .i64 0, .int .i64 0]) Tryz.func125 rfl (by kernel_rfl) rfl ?_
  refine GW.seq ?_
  refine GW.region ?_
  refine R.move ⟨rfl, rfl, rfl, rfl⟩ rfl ?_
  refine R.add (r := 1) ⟨rfl, rfl, rfl, rfl⟩ rfl rfl (rfl) ?_
  refine R.assign ⟨rfl, rfl, rfl, rfl⟩ rfl ?_
  refine GOps.nil ?_
  refine GW.block ?_
  refine GW.loopI (fun i : Nat => [(0, .slice none 0 0), (1, .int .i64 0), (2, .int .i64 0), (6, .int .i64 1)]) (fun i => G) (fun i => 1 - i) (fun i => i = 0) 0
    (by repeat (first | exact Keeps.nil _ | refine Keeps.cons rfl ?_)) (Hs.refl _) (rfl) ?_
  rintro i hi
  refine GW.seq ?_
  refine GW.seq ?_
  refine GW.region ?_
  refine R.move ⟨rfl, rfl, rfl, rfl⟩ rfl ?_
  refine R.move ⟨rfl, rfl, rfl, rfl⟩ rfl ?_
  refine R.lss ⟨rfl, rfl, rfl, rfl⟩ rfl rfl ?_
  refine GOps.nil ?_
  refine GW.ite rfl (fun hc1 => ?_) (fun hc1 => ?_)
  · try simp only [decide_eq_true_eq, decide_eq_false_iff_not, Bool.not_eq_true', Bool.not_eq_false'] at hc1
    exfalso; omega
  · try simp only [decide_eq_true_eq, decide_eq_false_iff_not, Bool.not_eq_true', Bool.not_eq_false'] at hc1
    refine GW.exit ?_
    exact Out.end_ (Res.none rfl) (Hs.refl _) ⟨rfl, rfl⟩
theorem pdq_0 (w0 : World) (G : Hp) (z : Int) : GC Tryz.prog w0 109 #[.slice none 0 0, .int .i64 0, .int .i64 0, .int .i64 z] (fun v G' => v = .tuple #[] ∧ G = G') G := by
  refine GC.body (args := [.slice none 0 0, .int .i64 0, .int .i64 0, .int .i64 z]) Tryz.func109 rfl (by kernel_rfl) rfl ?_
  refine GW.seq ?_
  refine GW.region ?_
  refine R.assign ⟨rfl, rfl, rfl, rfl⟩ rfl ?_
  refine GOps.nil ?_
  refine GW.seq ?_
  refine GW.region ?_
  refine R.assign ⟨rfl, rfl, rfl, rfl⟩ rfl ?_
  refine GOps.nil ?_
  refine GW.block ?_
  refine GW.loopI (fun i : Nat => [(0, .slice none 0 0), (1, .int .i64 0), (2, .int .i64 0), (3, .int .i64 z), (8, .bool true), (9, .bool true)]) (fun i => G) (fun i => 1 - i) (fun i => i = 0) 0
    (by repeat (first | exact Keeps.nil _ | refine Keeps.cons rfl ?_)) (Hs.refl _) (rfl) ?_
  rintro i hi
  refine GW.block ?_
  refine GW.seq ?_
  refine GW.region ?_
  refine R.move ⟨rfl, rfl, rfl, rfl⟩ rfl ?_
  refine R.move ⟨rfl, rfl, rfl, rfl⟩ rfl ?_
  refine R.sub (r := 0) ⟨rfl, rfl, rfl, rfl⟩ rfl rfl (rfl) ?_
  refine R.assign ⟨rfl, rfl, rfl, rfl⟩ rfl ?_
  refine GOps.nil ?_
  refine GW.seq ?_
  refine GW.seq ?_
  refine GW.region ?_
  refine R.move ⟨rfl, rfl, rfl, rfl⟩ rfl ?_
  refine R.leq ⟨rfl, rfl, rfl, rfl⟩ rfl rfl ?_
  refine GOps.nil ?_
  refine GW.cond_t rfl ?_
  refine GW.seq ?_
  refine GW.region ?_
  refine R.move ⟨rfl, rfl, rfl, rfl⟩ rfl ?_
  refine R.move ⟨rfl, rfl, rfl, rfl⟩ rfl ?_
  refine R.move ⟨rfl, rfl, rfl, rfl⟩ rfl ?_
  refine R.call ⟨rfl, rfl, rfl, rfl⟩ rfl (vs := [_, _, _]) rfl ((ins_0 _ _).mono ?_)
  rintro _ _ ⟨rfl, rfl⟩
  refine GOps.nil ?_
  exact GW.ret (Out.of (Res.none rfl) (Hs.refl _) ⟨rfl, rfl⟩)
theorem sort_0 (w0 : World) (G : Hp) : GC Tryz.prog w0 88 #[.slice none 0 0] (fun v G' => v = .tuple #[] ∧ G = G') G := by
  refine GC.body (args := [.slice none 0 0]) Tryz.func88 rfl (by kernel_rfl) rfl ?_
  refine GW.seq ?_
  refine GW.region ?_
  refine R.move ⟨rfl, rfl, rfl, rfl⟩ rfl ?_
  refine R.lenS ⟨rfl, rfl, rfl, rfl⟩ rfl rfl Tryz.underlying32 ?_
  refine R.assign ⟨rfl, rfl, rfl, rfl⟩ rfl ?_
  refine GOps.nil ?_
  refine GW.region ?_
  refine R.move ⟨rfl, rfl, rfl, rfl⟩ rfl ?_
  refine R.move ⟨rfl, rfl, rfl, rfl⟩ rfl ?_
  refine R.move ⟨rfl, rfl, rfl, rfl⟩ rfl ?_
  refine R.conv (r := 0) ⟨rfl, rfl, rfl, rfl⟩ rfl Tryz.underlying3 Tryz.underlying149 (rfl) ?_
  refine R.call ⟨rfl, rfl, rfl, rfl⟩ rfl (vs := [_]) rfl ((len_0 _ _).mono ?_)
  rintro _ _ ⟨z, rfl, rfl⟩
  refine R.call ⟨rfl, rfl, rfl, rfl⟩ rfl (vs := [_, _, _, _]) rfl ((pdq_0 _ _ z).mono ?_)
  rintro _ _ ⟨rfl, rfl⟩
  refine GOps.nil ?_
  refine Out.end_ (Res.none rfl) (Hs.refl _) ⟨rfl, rfl⟩
theorem sorted_0 (w0 : World) (G : Hp) (b1 : Nat) (hb1 : (b1, Know.exact (.cells #[.slice none 0 0] 32 (0, 0))) ∈ G) : GC Tryz.prog w0 57 #[.func (.func 89) #[] #[.pointer (some ⟨b1, 0, none⟩)]] (fun v G' => v = .slice none 0 0 ∧ G = G') G := by
  refine GC.body (args := [.func (.func 89) #[] #[.pointer (some ⟨b1, 0, none⟩)]]) Tryz.func57 rfl (by kernel_rfl) rfl ?_
  refine GW.seq ?_
  refine GW.region ?_
  refine R.assign ⟨rfl, rfl, rfl, rfl⟩ rfl ?_
  refine GOps.nil ?_
  refine GW.seq ?_
  refine GW.region ?_
  refine R.move ⟨rfl, rfl, rfl, rfl⟩ rfl ?_
  refine R.call ⟨rfl, rfl, rfl, rfl⟩ rfl (vs := [_]) rfl ((sl_Collect _ _ none [] 0 b1 hb1 (fun i x h => by simp at h) (by simp)).mono ?_)
  rintro v5 _ ⟨H5, h5, rfl⟩
  obtain ⟨rfl, rfl⟩ := h5.2 rfl
  refine R.assign ⟨rfl, rfl, rfl, rfl⟩ rfl ?_
  refine GOps.nil ?_
  refine GW.seq ?_
  refine GW.region ?_
  refine R.move ⟨rfl, rfl, rfl, rfl⟩ rfl ?_
  refine R.call ⟨rfl, rfl, rfl, rfl⟩ rfl (vs := [_]) rfl ((sort_0 _ _).mono ?_)
  rintro _ _ ⟨rfl, rfl⟩
  refine GOps.nil ?_
  refine GW.seq ?_
  refine GW.region ?_
  refine R.move ⟨rfl, rfl, rfl, rfl⟩ rfl ?_
  refine R.assign ⟨rfl, rfl, rfl, rfl⟩ rfl ?_
  refine GOps.nil ?_
  exact GW.ret (Out.of (Res.one rfl rfl) (Hs.refl _) ⟨rfl, rfl⟩)
end Go.Proofs.YtfddkcmooommeaaGreatDoor.Gl
end
section
namespace Go.Proofs.YtfddkcmooommeaaGreatDoor.Gl
open Go.RowKit Go.Shelf
set_option linter.unusedVariables false
set_option linter.unnecessarySimpa false
set_option linter.unusedSimpArgs false
attribute [-simp] List.getD_eq_getElem?_getD
theorem GW.cutX {X : Cx} {x y : Code} {Q : Post} {fr : Fr} {ds : List Deferred} {G : Hp} {α : Type} (FR : α → Fr) (GG : α → Hp) (I : α → Prop) (h1 : GW X x (fun e fr1 ds1 G1 => e = .normal ∧ ds1 = ds ∧ ∃ a, I a ∧ Keeps fr1 (FR a) ∧ Hs G1 (GG a)) fr ds G)
    (h2 : ∀ a, I a → GW X y Q (FR a) ds (GG a)) : GW X (.seq x y) Q fr ds G := by
  refine GW.seq (h1.mono ?_)
  rintro e fr1 ds1 G1 ⟨rfl, rfl, a, hI, hk, hs⟩
  exact GW.weak hk hs (h2 a hI)
structure BS where
  m : List St
  w : List St
  n : List St
  ts : List Tm
  bad : Int
def bodyStep (lim : Nat) (vars : List ByteArray) (a : BS) (l : Lt) : BS :=
  if (stepF lim vars (a.ts, a.bad) l).1.kind = 1 then ⟨a.m ++ [(stepF lim vars (a.ts, a.bad) l).1], a.w, a.n, (stepF lim vars (a.ts, a.bad) l).2.1, (stepF lim vars (a.ts, a.bad) l).2.2⟩
  else if (stepF lim vars (a.ts, a.bad) l).1.kind = 2 then ⟨a.m, a.w, a.n ++ [(stepF lim vars (a.ts, a.bad) l).1], (stepF lim vars (a.ts, a.bad) l).2.1, (stepF lim vars (a.ts, a.bad) l).2.2⟩
  else ⟨a.m, a.w ++ [(stepF lim vars (a.ts, a.bad) l).1], a.n, (stepF lim vars (a.ts, a.bad) l).2.1, (stepF lim vars (a.ts, a.bad) l).2.2⟩
def bodyTo (lim : Nat) (vars : List ByteArray) (ts : List Tm) (bad : Int) (body : List Lt) (i : Nat) : BS := (body.take i).foldl (bodyStep lim vars) ⟨[], [], [], ts, bad⟩
theorem bodyTo_succ {lim : Nat} {vars : List ByteArray} {ts : List Tm} {bad : Int} {body : List Lt} {i : Nat} {l : Lt} (h : body[i]? = some l) : bodyTo lim vars ts bad body (i + 1) = bodyStep lim vars (bodyTo lim vars ts bad body i) l := by
  unfold bodyTo
  rw [List.take_add_one, h, List.foldl_append]
  rfl
theorem bodyStep_1 {lim : Nat} {vars : List ByteArray} {a : BS} {l : Lt} (h : (stepF lim vars (a.ts, a.bad) l).1.kind = 1) : bodyStep lim vars a l = ⟨a.m ++ [(stepF lim vars (a.ts, a.bad) l).1], a.w, a.n, (stepF lim vars (a.ts, a.bad) l).2.1, (stepF lim vars (a.ts, a.bad) l).2.2⟩ := by unfold bodyStep; rw [if_pos h]
theorem bodyStep_2 {lim : Nat} {vars : List ByteArray} {a : BS} {l : Lt} (h1 : ¬ (stepF lim vars (a.ts, a.bad) l).1.kind = 1) (h : (stepF lim vars (a.ts, a.bad) l).1.kind = 2) : bodyStep lim vars a l = ⟨a.m, a.w, a.n ++ [(stepF lim vars (a.ts, a.bad) l).1], (stepF lim vars (a.ts, a.bad) l).2.1, (stepF lim vars (a.ts, a.bad) l).2.2⟩ := by unfold bodyStep; rw [if_neg h1, if_pos h]
theorem bodyStep_3 {lim : Nat} {vars : List ByteArray} {a : BS} {l : Lt} (h1 : ¬ (stepF lim vars (a.ts, a.bad) l).1.kind = 1) (h : ¬ (stepF lim vars (a.ts, a.bad) l).1.kind = 2) : bodyStep lim vars a l = ⟨a.m, a.w ++ [(stepF lim vars (a.ts, a.bad) l).1], a.n, (stepF lim vars (a.ts, a.bad) l).2.1, (stepF lim vars (a.ts, a.bad) l).2.2⟩ := by unfold bodyStep; rw [if_neg h1, if_neg h]
theorem idxB_lt' (xs : List ByteArray) (s : ByteArray) : idxB xs s < xs.length := by
  unfold idxB
  cases e : idxN xs s with
  | some i =>
    unfold idxN at e
    obtain ⟨hi, _⟩ := List.findIdx?_eq_some_iff_getElem.1 e
    simp only
    omega
  | none => simp only; omega
theorem placeF_lt (lim : Nat) (vars : List ByteArray) (q : List Tm × Int) (s : Sl) : (placeF lim vars q s).1.var < vars.length := by
  cases h : emp s.v with
  | true =>
    unfold placeF
    rw [h]
    simp only [cond_true]
    omega
  | false =>
    rw [placeF_var h]
    exact idxB_lt' _ _
theorem stepF_places {lim : Nat} {vars : List ByteArray} {q : List Tm × Int} {l : Lt} : ∀ p ∈ placesSt (stepF lim vars q l).1, p.var < vars.length := by
  intro p hp
  by_cases h1 : l.kind = 1
  · rw [stepF_1 h1, placesSt_r (.inl rfl)] at hp
    simp only [List.mem_cons, List.not_mem_nil, or_false] at hp
    rcases hp with rfl | rfl | rfl <;> exact placeF_lt _ _ _ _
  by_cases h2 : l.kind = 2
  · rw [stepF_2 h1 h2, placesSt_r (.inr rfl)] at hp
    simp only [List.mem_cons, List.not_mem_nil, or_false] at hp
    rcases hp with rfl | rfl | rfl <;> exact placeF_lt _ _ _ _
  by_cases h3 : l.kind = 3
  · rw [stepF_3 h1 h2 h3, placesSt_ab (by simp) (by simp)] at hp
    simp only [List.mem_cons, List.not_mem_nil, or_false] at hp
    rcases hp with rfl | rfl <;> exact placeF_lt _ _ _ _
  · rw [stepF_4 h1 h2 h3, placesSt_ab (by simp) (by simp)] at hp
    simp only [List.mem_cons, List.not_mem_nil, or_false] at hp
    rcases hp with rfl | rfl <;> exact placeF_lt _ _ _ _
structure BOk (nv i : Nat) (a : BS) : Prop where
  len : a.m.length ≤ i ∧ a.w.length ≤ i ∧ a.n.length ≤ i
  m1 : ∀ s ∈ a.m, s.kind = 1
  pl : ∀ s ∈ a.m ++ (a.w ++ a.n), ∀ p ∈ placesSt s, p.var < nv
theorem BOk.zero (nv : Nat) (ts : List Tm) (bad : Int) : BOk nv 0 ⟨[], [], [], ts, bad⟩ := ⟨by simp, by simp, by simp⟩
theorem BOk.step {lim : Nat} {vars : List ByteArray} {a : BS} {l : Lt} {i : Nat} (h : BOk vars.length i a) : BOk vars.length (i + 1) (bodyStep lim vars a l) := by
  have hs : ∀ p ∈ placesSt (stepF lim vars (a.ts, a.bad) l).1, p.var < vars.length := stepF_places
  obtain ⟨⟨l1, l2, l3⟩, hm, hp⟩ := h
  by_cases h1 : (stepF lim vars (a.ts, a.bad) l).1.kind = 1
  · rw [bodyStep_1 h1]
    refine ⟨⟨by simp; omega, by simp; omega, by simp; omega⟩, fun s hs1 => ?_, fun s hs1 => ?_⟩
    · rcases List.mem_append.1 hs1 with h | h
      · exact hm s h
      · rw [List.mem_singleton.1 h]; exact h1
    · simp only [List.append_assoc, List.mem_append, List.mem_singleton, List.singleton_append, List.mem_cons] at hs1
      rcases hs1 with h | rfl | h | h
      · exact hp s (List.mem_append_left _ h)
      · exact hs
      · exact hp s (List.mem_append_right _ (List.mem_append_left _ h))
      · exact hp s (List.mem_append_right _ (List.mem_append_right _ h))
  by_cases h2 : (stepF lim vars (a.ts, a.bad) l).1.kind = 2
  · rw [bodyStep_2 h1 h2]
    refine ⟨⟨by simp; omega, by simp; omega, by simp; omega⟩, hm, fun s hs1 => ?_⟩
    simp only [List.mem_append, List.mem_singleton] at hs1
    rcases hs1 with h | h | h | rfl
    · exact hp s (List.mem_append_left _ h)
    · exact hp s (List.mem_append_right _ (List.mem_append_left _ h))
    · exact hp s (List.mem_append_right _ (List.mem_append_right _ h))
    · exact hs
  · rw [bodyStep_3 h1 h2]
    refine ⟨⟨by simp; omega, by simp; omega, by simp; omega⟩, hm, fun s hs1 => ?_⟩
    simp only [List.mem_append, List.mem_singleton] at hs1
    rcases hs1 with h | (h | rfl) | h
    · exact hp s (List.mem_append_left _ h)
    · exact hp s (List.mem_append_right _ (List.mem_append_left _ h))
    · exact hs
    · exact hp s (List.mem_append_right _ (List.mem_append_right _ h))
theorem BOk.all {lim : Nat} {vars : List ByteArray} {ts : List Tm} {bad : Int} {body : List Lt} : ∀ (i : Nat), i ≤ body.length → BOk vars.length i (bodyTo lim vars ts bad body i)
  | 0, _ => BOk.zero _ _ _
  | i + 1, h => by
    rw [bodyTo_succ (List.getElem?_eq_getElem (show i < body.length by omega))]
    exact (BOk.all i (by omega)).step
structure RS where
  kn : List Bool
  w : List St
  o : List St
def zSt : St := ⟨0, zRw, zPl, zPl⟩
def flushR (q : RS) : RS := ⟨q.kn, q.w.filter (fun s => !readyF q.kn s), q.o ++ q.w.filter (readyF q.kn)⟩
def markP (kn : List Bool) (p : Pl) : List Bool := if p.var ≥ 0 then kn.set p.var.toNat true else kn
def row3 (r : Rw) : List Pl := [r.p0, r.p1, r.p2]
def markTo (kn : List Bool) (r : Rw) (k : Nat) : List Bool := ((row3 r).take k).foldl markP kn
def takeR (ms : List St) (q : RS) (z : Int) : RS := flushR ⟨markTo q.kn (ms.getD z.toNat zSt).row 3, q.w, q.o ++ [ms.getD z.toNat zSt]⟩
def runTo (ms : List St) (q : RS) (ord : List Int) (i : Nat) : RS := (ord.take i).foldl (takeR ms) (flushR q)
theorem runTo_succ {ms : List St} {q : RS} {ord : List Int} {i : Nat} {z : Int} (h : ord[i]? = some z) : runTo ms q ord (i + 1) = takeR ms (runTo ms q ord i) z := by
  unfold runTo
  rw [List.take_add_one, h, List.foldl_append]
  rfl
theorem markTo_succ {kn : List Bool} {r : Rw} {k : Nat} {p : Pl} (h : (row3 r)[k]? = some p) : markTo kn r (k + 1) = markP (markTo kn r k) p := by
  unfold markTo
  rw [List.take_add_one, h, List.foldl_append]
  rfl
theorem markP_len (kn : List Bool) (p : Pl) : (markP kn p).length = kn.length := by
  unfold markP
  split <;> simp
theorem markTo_len (kn : List Bool) (r : Rw) (k : Nat) : (markTo kn r k).length = kn.length := by
  unfold markTo
  generalize (row3 r).take k = l
  induction l generalizing kn with
  | nil => rfl
  | cons p l ih => rw [List.foldl_cons, ih, markP_len]
structure ROk (nv b : Nat) (q : RS) : Prop where
  kn : q.kn.length = nv
  w : ∀ s ∈ q.w, ∀ p ∈ placesSt s, p.var < nv
  wl : q.w.length ≤ b
theorem ROk.flush {nv b : Nat} {q : RS} (h : ROk nv b q) : ROk nv b (flushR q) :=
  ⟨h.kn, fun s hs => h.w s (List.mem_filter.1 hs).1, Nat.le_trans (List.length_filter_le _ _) h.wl⟩
theorem ROk.take {nv b : Nat} {q : RS} {ms : List St} {z : Int} (h : ROk nv b q) : ROk nv b (takeR ms q z) :=
  ROk.flush ⟨by rw [markTo_len]; exact h.kn, h.w, h.wl⟩
theorem flush_size (q : RS) : (flushR q).w.length + (flushR q).o.length = q.w.length + q.o.length := by
  unfold flushR
  simp only [List.length_append]
  have : ∀ l : List St, (l.filter (fun s => !readyF q.kn s)).length + (l.filter (readyF q.kn)).length = l.length := by
    intro l
    induction l with
    | nil => rfl
    | cons s l ih =>
      simp only [List.filter_cons]
      cases readyF q.kn s <;> simp <;> omega
  have := this q.w
  omega
theorem take_size (ms : List St) (q : RS) (z : Int) : (takeR ms q z).w.length + (takeR ms q z).o.length = q.w.length + q.o.length + 1 := by
  unfold takeR
  rw [flush_size]
  simp
  omega
theorem run_ok {nv b : Nat} {q : RS} {ms : List St} {ord : List Int} (h : ROk nv b q) : ∀ i, ROk nv b (runTo ms q ord i) ∧ (i ≤ ord.length → (runTo ms q ord i).w.length + (runTo ms q ord i).o.length = q.w.length + q.o.length + i)
  | 0 => ⟨h.flush, fun _ => by show (flushR q).w.length + (flushR q).o.length = _; rw [flush_size]; rfl⟩
  | i + 1 => by
    obtain ⟨h1, h2⟩ := run_ok (ms := ms) (ord := ord) h i
    rcases Nat.lt_or_ge i ord.length with hi | hi
    · rw [runTo_succ (List.getElem?_eq_getElem hi)]
      refine ⟨h1.take, fun _ => ?_⟩
      rw [take_size, h2 (by omega)]
      omega
    · have e : runTo ms q ord (i + 1) = runTo ms q ord i := by
        unfold runTo
        rw [List.take_of_length_le (by omega), List.take_of_length_le hi]
      rw [e]
      exact ⟨h1, fun h => by omega⟩
def ordF (n : Nat) (order srt : List Int) : List Int := if srt.length = n ∧ srt = (List.range n).map (fun k : Nat => (k : Int)) then order else (List.range n).map (fun k : Nat => (k : Int))
def planSteps (lim : Nat) (vars : List ByteArray) (ts : List Tm) (bad : Int) (body : List Lt) (order srt : List Int) : List St × (List Tm × Int) :=
  let a := bodyTo lim vars ts bad body body.length
  let ord := ordF a.m.length order srt
  ((runTo a.m ⟨List.replicate vars.length false, a.w ++ a.n, []⟩ ord ord.length).o, (a.ts, a.bad))
end Go.Proofs.YtfddkcmooommeaaGreatDoor.Gl
end
section
namespace Go.Proofs.YtfddkcmooommeaaGreatDoor.Gl
open Go.RowKit Go.Shelf
set_option linter.unusedVariables false
set_option linter.unnecessarySimpa false
set_option linter.unusedSimpArgs false
attribute [-simp] List.getD_eq_getElem?_getD
theorem GC.post {P : Program} {w0 : World} {f : FuncId} {args : Array Value} {R R' : Value → Hp → Prop} {G : Hp} (h : GC P w0 f args R G) (hr : ∀ v G1, R v G1 → ∃ G2, Hs G1 G2 ∧ R' v G2) : GC P w0 f args R' G :=
  ⟨h.1, fun n W hw => (h.2 n W hw).mono fun _ _ ⟨v, G', e, hs, hR⟩ => by
    obtain ⟨G2, h1, h2⟩ := hr _ _ hR
    exact ⟨v, G2, e, h1 _ _ hs, h2⟩⟩
theorem GC.pre {P : Program} {w0 : World} {f : FuncId} {args : Array Value} {R : Value → Hp → Prop} {G G' : Hp} (hs : Hs G G') (h : GC P w0 f args R G') : GC P w0 f args R G := ⟨h.1, fun n W hw => h.2 n W (hs _ _ hw)⟩
abbrev knC (kn : List Bool) : Know := .exact (.cells (boolC kn).toArray 4 (0, 0))
abbrev slC1 (v : Value) : Know := .exact (.cells #[v] 39 (0, 0))
abbrev can (bk bW bO : Nat) (kn : List Bool) (vw vo : Value) (Hw Ho R : Hp) : Hp := (bk, knC kn) :: (bW, slC1 vw) :: (bO, slC1 vo) :: (Hw ++ (Ho ++ R))
theorem can_in (k w o : Nat × Know) (W O R : Hp) : (k :: w :: o :: (W ++ (O ++ R))).Perm (w :: o :: (W ++ (O ++ (k :: R)))) := by
  have h : (W ++ (O ++ (k :: R))).Perm (k :: (W ++ (O ++ R))) := by
    rw [← List.append_assoc, ← List.append_assoc]
    exact List.perm_middle
  exact (List.Perm.swap w k _).trans (((List.Perm.swap o k _).trans (h.symm.cons o)).cons w)
theorem flush_can (w0 : World) (R : Hp) (vw vo : Value) (Hw Ho : Hp) (wait out : List St) (bW bR bO bK bk n : Nat) (kn : List Bool) (hn : kn.length = n)
    (hK : (bK, Know.exact (.cells #[.slice (some ⟨bk, 0, none⟩) n n] 47 (0, 0))) ∈ R) (hR : (bR, Know.exact (.cells #[.func (.func 61) #[] #[.pointer (some ⟨bK, 0, none⟩)]] 133 (0, 0))) ∈ R)
    (hw : SlAt 11 50 (stsC wait) wait.length vw Hw) (ho : SlAt 11 50 (stsC out) out.length vo Ho) (hwl : wait.length ≤ 10000) (hol : out.length ≤ 10000)
    (hb : ∀ s ∈ wait, ∀ p ∈ placesSt s, p.var < n) :
    GC Tryz.prog w0 63 (#[] ++ #[] ++ #[.pointer (some ⟨bW, 0, none⟩), .pointer (some ⟨bR, 0, none⟩), .pointer (some ⟨bO, 0, none⟩)]) (fun v G' => ∃ vw' Hw' vo' Ho', (v = .tuple #[] ∧ SlAt 11 50 (stsC (wait.filter fun s => !readyF kn s)) (wait.filter fun s => !readyF kn s).length vw' Hw' ∧ SlAt 11 50 (stsC (out ++ wait.filter (readyF kn))) (out ++ wait.filter (readyF kn)).length vo' Ho') ∧ can bk bW bO kn vw' vo' Hw' Ho' R = G') (can bk bW bO kn vw vo Hw Ho R) := by
  subst hn
  refine GC.pre (Hs.perm (can_in _ _ _ _ _ _).symm) ?_
  refine (steps_flush w0 ((bk, knC kn) :: R) vw vo Hw Ho wait out bW bR bO kn bK bk (List.mem_cons_of_mem _ hK) List.mem_cons_self (List.mem_cons_of_mem _ hR) hw ho hwl hol hb).post ?_
  rintro v G1 ⟨vw', Hw', vo', Ho', h1, rfl⟩
  exact ⟨_, Hs.perm (can_in _ _ _ _ _ _), vw', Hw', vo', Ho', h1, rfl⟩
theorem can_new (a b k o w m : Nat × Know) (D M W X G : Hp) : (a :: b :: k :: o :: w :: m :: (D ++ (M ++ (W ++ (X ++ G))))).Perm (k :: w :: o :: (W ++ ([] ++ (a :: b :: m :: (D ++ (M ++ (X ++ G))))))) := by
  have h : (W ++ (a :: b :: m :: (D ++ (M ++ (X ++ G))))).Perm (a :: b :: m :: (D ++ (M ++ (W ++ (X ++ G))))) := by
    refine (pm3 a b m W _).trans (((List.Perm.cons m ?_).cons b).cons a)
    rw [← List.append_assoc D M, ← List.append_assoc D M (W ++ (X ++ G)), ← List.append_assoc W (D ++ M), ← List.append_assoc (D ++ M) W]
    exact List.Perm.append_right _ List.perm_append_comm
  rw [List.nil_append]
  have h1 : (a :: b :: k :: o :: w :: m :: (D ++ (M ++ (W ++ (X ++ G))))).Perm (k :: w :: o :: a :: b :: m :: (D ++ (M ++ (W ++ (X ++ G))))) := by
    have e1 : (a :: b :: k :: o :: w :: m :: (D ++ (M ++ (W ++ (X ++ G))))) = [a, b] ++ (k :: o :: w :: (m :: (D ++ (M ++ (W ++ (X ++ G)))))) := rfl
    rw [e1]
    refine (pm3 k o w [a, b] _).trans ?_
    exact (List.Perm.swap w o _).cons k
  exact h1.trans (((h.symm.cons o).cons w).cons k)
theorem can_end (k w o a b m : Nat × Know) (W O D M X G : Hp) : Hs (k :: w :: o :: (W ++ (O ++ (a :: b :: m :: (D ++ (M ++ (X ++ G))))))) (m :: (D ++ (O ++ G))) := by
  refine (Hs.sub (G' := O ++ (m :: (D ++ G))) ?_).trans (Hs.perm ?_)
  · have h1 : (m :: (D ++ G)).Sublist (a :: b :: m :: (D ++ (M ++ (X ++ G)))) := ((((List.sublist_append_right X G).trans (List.sublist_append_right M _)).append_left D).cons_cons m |>.cons b).cons a
    exact ((((h1.append_left O).trans (List.sublist_append_right W _)).cons o).cons w).cons k
  · refine List.Perm.trans ?_ (pm1 m O (D ++ G)).symm
    refine List.Perm.cons m ?_
    rw [← List.append_assoc, ← List.append_assoc]
    exact List.Perm.append_right _ List.perm_append_comm
theorem Hs.toRest (k w o : Nat × Know) (W O R : Hp) : Hs (k :: w :: o :: (W ++ (O ++ R))) R := Hs.sub ((((List.sublist_append_right O R).trans (List.sublist_append_right W _)).cons o |>.cons w).cons k)
theorem ord_deep (x p q r : Nat × Know) (A B C G : Hp) : Hs (x :: p :: q :: r :: (A ++ (B ++ (C ++ G)))) (p :: q :: r :: (A ++ (B ++ (C ++ ([x] ++ G))))) := Hs.perm (by
  have h : (A ++ (B ++ (C ++ (x :: G)))).Perm (x :: (A ++ (B ++ (C ++ G)))) := by
    have h0 := @List.perm_middle _ x (A ++ (B ++ C)) G
    simp only [List.append_assoc] at h0
    exact h0
  exact ((h.cons r).cons q |>.cons p).trans (pm3' x p q r _))
  where pm3' (x p q r : Nat × Know) (l : Hp) : (p :: q :: r :: x :: l).Perm (x :: p :: q :: r :: l) := pm1 x [p, q, r] l
theorem sub1 (x : Nat × Know) (H R : Hp) : R.Sublist (H ++ x :: R) := (List.sublist_cons_self x R).trans (List.sublist_append_right H _)
theorem Hs.asc (x1 x2 x3 x4 x5 x6 : Nat × Know) (A B E : Hp) : Hs (x1 :: x2 :: x3 :: x4 :: x5 :: x6 :: (A ++ (B ++ E))) (x1 :: x2 :: x3 :: x4 :: x5 :: x6 :: ((A ++ B) ++ E)) := Hs.eq (by rw [List.append_assoc])
theorem Hs.asc' (x1 x2 x3 x4 x5 x6 : Nat × Know) (A B E : Hp) : Hs (x1 :: x2 :: x3 :: x4 :: x5 :: x6 :: ((A ++ B) ++ E)) (x1 :: x2 :: x3 :: x4 :: x5 :: x6 :: (A ++ (B ++ E))) := Hs.eq (by rw [List.append_assoc])
theorem Hs.asc2 (x1 x2 x3 x4 x5 x6 : Nat × Know) (A B C E : Hp) : Hs (x1 :: x2 :: x3 :: x4 :: x5 :: x6 :: (A ++ (B ++ (C ++ E)))) (x1 :: x2 :: x3 :: x4 :: x5 :: x6 :: ((A ++ (B ++ C)) ++ E)) := Hs.eq (by simp only [List.append_assoc])
theorem Hs.asc2' (x1 x2 x3 x4 x5 x6 : Nat × Know) (A B C E : Hp) : Hs (x1 :: x2 :: x3 :: x4 :: x5 :: x6 :: ((A ++ (B ++ C)) ++ E)) (x1 :: x2 :: x3 :: x4 :: x5 :: x6 :: (A ++ (B ++ (C ++ E)))) := Hs.eq (by simp only [List.append_assoc])
theorem Hs.asc3 (x1 x2 x3 : Nat × Know) (A B E : Hp) : Hs (x1 :: x2 :: x3 :: (A ++ (B ++ E))) (x1 :: x2 :: x3 :: ((A ++ B) ++ E)) := Hs.eq (by rw [List.append_assoc])
theorem Hs.asc3' (x1 x2 x3 : Nat × Know) (A B E : Hp) : Hs (x1 :: x2 :: x3 :: ((A ++ B) ++ E)) (x1 :: x2 :: x3 :: (A ++ (B ++ E))) := Hs.eq (by rw [List.append_assoc])
theorem Hs.drop3 (x1 x2 x3 y : Nat × Know) (A B C G : Hp) : Hs (x1 :: x2 :: x3 :: (A ++ (B ++ (C ++ ([y] ++ G))))) (x1 :: x2 :: x3 :: (A ++ (B ++ (C ++ G)))) := Hs.sub ((((((List.sublist_cons_self y G).append_left C).append_left B).append_left A).cons_cons x3).cons_cons x2 |>.cons_cons x1)
theorem stsC_one (l : List St) : (stsC l).all (·.oneCell') = true := by
  rw [List.all_eq_true]
  intro v hv
  unfold stsC at hv
  obtain ⟨s, _, hs⟩ := List.mem_flatMap.1 hv
  simp only [StC, List.mem_cons, List.not_mem_nil, or_false] at hs
  rcases hs with rfl | rfl | rfl | rfl | rfl | rfl | rfl | rfl | rfl | rfl | rfl <;> rfl
theorem Hs.kn {bk : Nat} {C : Array Value} {kn : List Bool} {R : Hp} (h : C = (boolC kn).toArray) : Hs ((bk, .exact (.cells C 4 (0, 0))) :: R) ((bk, knC kn) :: R) := h ▸ Hs.refl _
theorem kn_zero (n : Nat) : (List.replicate n (Value.bool false)).toArray = (boolC (List.replicate n false)).toArray := by simp [boolC]
theorem getD_some {ms : List St} {i : Nat} (h : i < ms.length) : ms[i]? = some (ms.getD i zSt) := by rw [List.getD, List.getElem?_eq_getElem h]; rfl
theorem rw_index {r : Rw} {k : Nat} (h : k < 3) : ∃ p, (row3 r)[k]? = some p ∧ p ∈ row3 r ∧ ((RwC r).toArray.extract (k * 2) (k * 2 + 2)) = (PlC p).toArray := by
  rcases k with _ | _ | _ | k
  · exact ⟨r.p0, rfl, by simp [row3], rfl⟩
  · exact ⟨r.p1, rfl, by simp [row3], rfl⟩
  · exact ⟨r.p2, rfl, by simp [row3], rfl⟩
  · omega
theorem row_in {w0 : World} {G : Hp} {b o : Nat} {s : St} (h : Rds w0 G b o (StC s)) : Rds w0 G b (o + 1) (RwC s.row) := fun j v hv => by
  have := h (j + 1) v (by
    show (Value.int .i64 s.kind :: (RwC s.row ++ (PlC s.a ++ PlC s.b)))[j + 1]? = some v
    rw [List.getElem?_cons_succ, List.getElem?_append_left (List.getElem?_eq_some_iff.1 hv).1]
    exact hv)
  rwa [show o + (j + 1) = o + 1 + j by omega] at this
theorem mark_put {kn : List Bool} {i : Nat} (h : i < kn.length) : splice (boolC kn).toArray (0 + i * 1) (Value.bool true).cells.toList = (boolC (kn.set i true)).toArray := by
  rw [show 0 + i * 1 = i by omega, show (Value.bool true).cells.toList = [Value.bool true] from rfl, splice_one (by simpa [boolC] using h)]
  simp [boolC, List.map_set]
theorem eq_up (w0 : World) (G : Hp) (A : Option Addr) (xs : List Int) (c b n : Nat) (hx : IntsAt w0 G A xs) (hb : (b, Know.exact (.cells (intC (List.range n)).toArray 3 (0, 0))) ∈ G) (hm : xs.length ≤ 100000) (hm2 : n ≤ 100000) :
    GC Tryz.prog w0 59 #[.slice A xs.length c, .slice (some ⟨b, 0, none⟩) n n] (fun v G' => v = .bool (decide (xs = (List.range n).map (fun k : Nat => (k : Int)))) ∧ G = G') G := by
  have h := sl_EqInt w0 G A (some ⟨b, 0, none⟩) xs ((List.range n).map (fun k : Nat => (k : Int))) c n hx (exact_ints hb) hm (by simpa using hm2)
  simpa using h
theorem ordF_range {n : Nat} {order srt : List Int} (h : ∀ z ∈ order, z ∈ srt) : ∀ z ∈ ordF n order srt, 0 ≤ z ∧ z < n := by
  intro z hz
  unfold ordF at hz
  split at hz
  · rename_i he
    have := h z hz
    rw [he.2] at this
    obtain ⟨k, hk, rfl⟩ := List.mem_map.1 this
    have := List.mem_range.1 hk
    omega
  · obtain ⟨k, hk, rfl⟩ := List.mem_map.1 hz
    have := List.mem_range.1 hk
    omega
theorem ordF_yes {n : Nat} {order srt : List Int} (h1 : srt.length = n) (h2 : srt = (List.range n).map (fun k : Nat => (k : Int))) : ordF n order srt = order := by unfold ordF; rw [if_pos ⟨h1, h2⟩]
theorem ordF_eq {n : Nat} {srt : List Int} (e : srt.length = n) (h : srt = (List.range srt.length).map (fun k : Nat => (k : Int))) : srt = (List.range n).map (fun k : Nat => (k : Int)) := by rw [← e]; exact h
theorem ordF_no {n : Nat} {order srt : List Int} (h : ¬ (srt.length = n ∧ srt = (List.range n).map (fun k : Nat => (k : Int)))) : ordF n order srt = (List.range n).map (fun k : Nat => (k : Int)) := by unfold ordF; rw [if_neg h]
end Go.Proofs.YtfddkcmooommeaaGreatDoor.Gl
end
section
namespace Go.Proofs.YtfddkcmooommeaaGreatDoor.Gl
open Go.RowKit Go.Shelf
set_option linter.unusedVariables false
set_option linter.unnecessarySimpa false
set_option linter.unusedSimpArgs false
attribute [-simp] List.getD_eq_getElem?_getD
theorem plan_steps (w0 : World) (G : Hp) (HD : Hp) (ts : List Tm) (lim bD bM c : Nat) (A : Option Addr) (vars : List ByteArray) (bad : Int) (hD : Dic ts lim bD HD) (hv : StAt w0 G A vars) (hm : vars.length ≤ 100000)
    (bA : Option Addr) (body : List Lt) (bc : Nat) (hl : LtsAt w0 G bA body) (hbl : body.length ≤ 1000) (hterm : ∀ l ∈ body, ∀ s ∈ stepSl l, emp s.v = true → mayT s.t = true)
    (oA : Option Addr) (order srt : List Int) (oc : Nat) (ho : IntsAt w0 G oA order) (hol : order.length ≤ 1000) (hsl : srt.length ≤ 1000) (hmem : ∀ z ∈ order, z ∈ srt)
    (hS : ∀ (b1 : Nat) (G0 : Hp), (b1, Know.exact (.cells #[.slice oA order.length oc] 32 (0, 0))) ∈ G0 → IntsAt w0 G0 oA order → GC Tryz.prog w0 57 #[.func (.func 89) #[] #[.pointer (some ⟨b1, 0, none⟩)]] (fun v G' => ∃ H, SlAt 1 3 (zC srt) srt.length v H ∧ H ++ G0 = G') G0) :
    GC Tryz.prog w0 33 #[.pointer (some ⟨bM, 0, none⟩), .slice bA body.length bc, .slice oA order.length oc] (fun v G' => ∃ HD' Ho, (SlAt 11 50 (stsC (planSteps lim vars ts bad body order srt).1) (planSteps lim vars ts bad body order srt).1.length v Ho ∧ Dic (planSteps lim vars ts bad body order srt).2.1 lim bD HD') ∧ (bM, mkC bD A vars.length c (planSteps lim vars ts bad body order srt).2.2) :: (HD' ++ (Ho ++ G)) = G') ((bM, mkC bD A vars.length c bad) :: (HD ++ G)) := by
  refine GC.body (args := [.pointer (some ⟨bM, 0, none⟩), .slice bA body.length bc, .slice oA order.length oc]) Tryz.func33 rfl (by kernel_rfl) rfl ?_
  refine GW.seq ?_
  refine GW.region ?_
  refine R.assign ⟨rfl, rfl, rfl, rfl⟩ rfl ?_
  refine GOps.nil ?_
  refine GW.seq ?_
  refine GW.region ?_
  refine R.assign ⟨rfl, rfl, rfl, rfl⟩ rfl ?_
  refine R.alloc ⟨rfl, rfl, rfl, rfl⟩ Tryz.zeroValue39 fun b8 => ?_
  refine R.alloc ⟨rfl, rfl, rfl, rfl⟩ Tryz.zeroValue39 fun b9 => ?_
  refine GOps.nil ?_
  refine GW.seq ?_
  refine GW.region ?_
  refine R.assign ⟨rfl, rfl, rfl, rfl⟩ rfl ?_
  refine GOps.nil ?_
  refine GW.seq ?_
  refine GW.seq ?_
  refine GW.region ?_
  refine R.move ⟨rfl, rfl, rfl, rfl⟩ rfl ?_
  refine R.lenS ⟨rfl, rfl, rfl, rfl⟩ rfl rfl Tryz.underlying29 ?_
  refine R.move ⟨rfl, rfl, rfl, rfl⟩ rfl ?_
  refine GOps.nil ?_
  refine GW.block ?_
  refine GW.loop4 (fun (i : Nat) (a : BS) (h : (Value × Value × Value) × (Hp × Hp × Hp × Hp)) (u1 : Unit) => [(0, .pointer (some ⟨bM, 0, none⟩)), (2, .slice oA order.length oc), (7, h.1.1), (8, .pointer (some ⟨b8, 0, none⟩)), (9, .pointer (some ⟨b9, 0, none⟩)), (10, h.1.2.2), (22, .slice bA body.length bc), (23, .int .i64 body.length), (24, .int .i64 i)]) (fun (i : Nat) (a : BS) (h : (Value × Value × Value) × (Hp × Hp × Hp × Hp)) (u1 : Unit) => (b9, slC1 (.slice none 0 0)) :: (b8, slC1 h.1.2.1) :: (bM, mkC bD A vars.length c a.bad) :: (h.2.2.2.2 ++ (h.2.1 ++ (h.2.2.1 ++ (h.2.2.2.1 ++ G))))) (fun i : Nat => body.length - i) (fun (i : Nat) (a : BS) (h : (Value × Value × Value) × (Hp × Hp × Hp × Hp)) (u1 : Unit) => i ≤ body.length ∧ a = bodyTo lim vars ts bad body i ∧ SlAt 11 50 (stsC (a.m)) (a.m).length h.1.1 h.2.1 ∧ SlAt 11 50 (stsC (a.w)) (a.w).length h.1.2.1 h.2.2.1 ∧ SlAt 11 50 (stsC (a.n)) (a.n).length h.1.2.2 h.2.2.2.1 ∧ Dic a.ts lim bD h.2.2.2.2 ∧ (a.n.length = 0 → h.1.2.2 = .slice none 0 0 ∧ h.2.2.2.1 = [])) 0 (⟨[], [], [], ts, bad⟩) (((.slice none 0 0, .slice none 0 0, .slice none 0 0), ([], [], [], HD))) (())
    (by repeat (first | exact Keeps.nil _ | refine Keeps.cons rfl ?_)) (Hs.refl _) (⟨Nat.zero_le _, rfl, .nil rfl rfl, .nil rfl rfl, .nil rfl rfl, hD, fun _ => ⟨rfl, rfl⟩⟩) ?_
  rintro i a h u1 ⟨hi, ha, hM, hW, hN, hD2, hnil⟩
  obtain ⟨⟨vm, vw, vn⟩, Hm, Hw, Hn, HD2⟩ := h
  have hbo : BOk vars.length i a := by rw [ha]; exact BOk.all i hi
  obtain ⟨hbl1, hbl2, hbl3⟩ := hbo.len
  refine GW.seq ?_
  refine GW.region ?_
  refine R.lss ⟨rfl, rfl, rfl, rfl⟩ rfl rfl ?_
  refine GOps.nil ?_
  refine GW.seq ?_
  refine GW.ite rfl (fun hc1 => ?_) (fun hc1 => ?_)
  · try simp only [decide_eq_true_eq, decide_eq_false_iff_not, Bool.not_eq_true', Bool.not_eq_false'] at hc1
    obtain ⟨l, hx⟩ : ∃ l, body[i]? = some l := ⟨_, List.getElem?_eq_getElem (by omega)⟩
    obtain ⟨lb, lo, cs0, rfl, rfl, hrd⟩ := hl i l hx
    refine GW.skip ?_
    refine GW.seq ?_
    refine GW.block ?_
    refine GW.seq ?_
    refine GW.region ?_
    refine R.indexAddrS ⟨rfl, rfl, rfl, rfl⟩ rfl rfl Tryz.underlying29 Tryz.sizeOf89 (by omega) (by omega) ?_
    refine R.loadA ⟨rfl, rfl, rfl, rfl⟩ rfl Tryz.underlying89 rfl Tryz.sizeOf89 (hrd.mono (fun y hy => by repeat (first | exact hy | apply List.mem_cons_of_mem | apply List.mem_append_right))) (by rfl) ?_
    refine R.alloc ⟨rfl, rfl, rfl, rfl⟩ Tryz.zeroValue89 fun b12 => ?_
    refine R.storeAll (G1 := []) rfl rfl rfl rfl rfl Tryz.sizeOf89 rfl rfl rfl rfl ?_
    refine GOps.nil ?_
    refine GW.seq ?_
    refine GW.region ?_
    refine R.move ⟨rfl, rfl, rfl, rfl⟩ rfl ?_
    refine R.load_own (cs := LtC l) ⟨rfl, rfl, rfl, rfl⟩ rfl Tryz.underlying89 rfl Tryz.sizeOf89 (by repeat (first | exact List.mem_cons_self | apply List.mem_cons_of_mem | apply List.mem_append_right)) (by rfl) (by rfl) ?_
    refine GOps.weak (Keeps.refl _) (Hs.toM3 _ _ _ _ _ _) ?_
    refine R.call ⟨rfl, rfl, rfl, rfl⟩ rfl (vs := [_, _]) rfl ((plan_step _ _ HD2 a.ts lim bD bM c A vars a.bad hD2 (hv.mono (fun y hy => by repeat (first | exact hy | apply List.mem_cons_of_mem | apply List.mem_append_right))) (by omega) l (hterm l (List.mem_of_getElem? hx))).mono ?_)
    rintro _ _ ⟨HD3, ⟨rfl, hD3⟩, rfl⟩
    refine GOps.weak (Keeps.refl _) (Hs.fromM3 _ _ _ _ _ _) ?_
    refine R.alloc ⟨rfl, rfl, rfl, rfl⟩ Tryz.zeroValue50 fun b13 => ?_
    refine R.storeAll (G1 := []) rfl rfl rfl rfl rfl Tryz.sizeOf50 rfl rfl rfl rfl ?_
    refine GOps.nil ?_
    refine GW.seq ?_
    refine GW.region ?_
    refine R.fieldAddr ⟨rfl, rfl, rfl, rfl⟩ rfl Tryz.underlying50 rfl Tryz.sizeOf48 ?_   -- "Kind"
    refine R.load1 ⟨rfl, rfl, rfl, rfl⟩ rfl Tryz.underlying48 rfl (.own' (by repeat (first | exact List.mem_cons_self | apply List.mem_cons_of_mem | apply List.mem_append_right)) (by rfl)) ?_
    refine GOps.nil ?_
    refine GW.block ?_
    refine GW.seq ?_
    refine GW.region ?_
    refine R.eqI ⟨rfl, rfl, rfl, rfl⟩ rfl rfl ?_
    refine R.assign ⟨rfl, rfl, rfl, rfl⟩ rfl ?_
    refine GOps.nil ?_
    refine GW.ite rfl (fun hc2 => ?_) (fun hc2 => ?_)
    · try simp only [decide_eq_true_eq, decide_eq_false_iff_not, Bool.not_eq_true', Bool.not_eq_false'] at hc2
      refine GW.region ?_
      refine R.move ⟨rfl, rfl, rfl, rfl⟩ rfl ?_
      refine R.load_own (cs := StC (stepF lim vars (a.ts, a.bad) l).1) ⟨rfl, rfl, rfl, rfl⟩ rfl Tryz.underlying50 rfl Tryz.sizeOf50 (by repeat (first | exact List.mem_cons_self | apply List.mem_cons_of_mem | apply List.mem_append_right)) (by rfl) (by rfl) ?_
      refine R.buildSliceF (sz := 11) (bytes := 88) (vs := [_]) (cs := StC (stepF lim vars (a.ts, a.bad) l).1) ⟨rfl, rfl, rfl, rfl⟩ rfl Tryz.underlying39 (InfoE.mk (by kernel_rfl)) rfl rfl rfl rfl rfl fun b41 => ?_
      refine R.append (sz := 11) (bytes := 88) (G1 := [_, _, _, _, _, _] ++ HD3) (H := Hm) (news := StC (stepF lim vars (a.ts, a.bad) l).1) ⟨rfl, rfl, rfl, rfl⟩ rfl rfl rfl Tryz.underlying39 (InfoE.mk (by kernel_rfl)) (hM) (rfl) (rfl) (.own (by repeat (first | exact List.mem_cons_self | apply List.mem_cons_of_mem | apply List.mem_append_right | exact List.mem_append_left _ List.mem_cons_self)) 0 _ (fun j v hv => by simpa using hv)) (by omega) (by rfl) (by omega) (by omega) fun v42 H42 hv42 => ?_
      obtain ⟨A42, c42, rfl, hc42⟩ := hv42.split
      refine R.assign ⟨rfl, rfl, rfl, rfl⟩ rfl ?_
      refine GOps.nil ?_
      refine GW.region ?_
      refine R.add (r := (((i + 1) : Nat) : Int)) ⟨rfl, rfl, rfl, rfl⟩ rfl rfl (by rw [wrap64_id (by omega) (by omega)]; omega) ?_
      refine R.move ⟨rfl, rfl, rfl, rfl⟩ rfl ?_
      refine GOps.nil ?_
      first | exact ⟨i + 1, ⟨a.m ++ [(stepF lim vars (a.ts, a.bad) l).1], a.w, a.n, (stepF lim vars (a.ts, a.bad) l).2.1, (stepF lim vars (a.ts, a.bad) l).2.2⟩, ((.slice A42 _ c42, vw, vn), (H42, Hw, Hn, HD3)), (), by omega, ⟨by omega, by rw [bodyTo_succ hx, ← ha, bodyStep_1 (by assumption)], (by show SlAt 11 50 (stsC (a.m ++ [(stepF lim vars (a.ts, a.bad) l).1])) (a.m ++ [(stepF lim vars (a.ts, a.bad) l).1]).length _ _; rw [sts_app, sts_one, List.length_append]; exact hv42), hW, hN, hD3, hnil⟩, rfl, by repeat (first | exact Keeps.nil _ | refine Keeps.cons rfl ?_), Hs.tl3 _ _ _⟩ | exact ⟨i + 1, ⟨a.m, a.w, a.n ++ [(stepF lim vars (a.ts, a.bad) l).1], (stepF lim vars (a.ts, a.bad) l).2.1, (stepF lim vars (a.ts, a.bad) l).2.2⟩, ((vm, vw, .slice A48 _ c48), (Hm, Hw, H48, HD3)), (), by omega, ⟨by omega, by rw [bodyTo_succ hx, ← ha, bodyStep_2 (by assumption) (by assumption)], hM, hW, (by show SlAt 11 50 (stsC (a.n ++ [(stepF lim vars (a.ts, a.bad) l).1])) (a.n ++ [(stepF lim vars (a.ts, a.bad) l).1]).length _ _; rw [sts_app, sts_one, List.length_append]; exact hv48), hD3, fun e => by simp at e⟩, rfl, by repeat (first | exact Keeps.nil _ | refine Keeps.cons rfl ?_), Hs.tl3 _ _ _⟩ | exact ⟨i + 1, ⟨a.m, a.w ++ [(stepF lim vars (a.ts, a.bad) l).1], a.n, (stepF lim vars (a.ts, a.bad) l).2.1, (stepF lim vars (a.ts, a.bad) l).2.2⟩, ((vm, .slice A36 _ c36, vn), (Hm, H36, Hn, HD3)), (), by omega, ⟨by omega, by rw [bodyTo_succ hx, ← ha, bodyStep_3 (by assumption) (by assumption)], hM, (by show SlAt 11 50 (stsC (a.w ++ [(stepF lim vars (a.ts, a.bad) l).1])) (a.w ++ [(stepF lim vars (a.ts, a.bad) l).1]).length _ _; rw [sts_app, sts_one, List.length_append]; exact hv36), hN, hD3, hnil⟩, rfl, by repeat (first | exact Keeps.nil _ | refine Keeps.cons rfl ?_), Hs.tl3 _ _ _⟩
    · try simp only [decide_eq_true_eq, decide_eq_false_iff_not, Bool.not_eq_true', Bool.not_eq_false'] at hc2
      refine GW.seq ?_
      refine GW.region ?_
      refine R.eqI ⟨rfl, rfl, rfl, rfl⟩ rfl rfl ?_
      refine R.assign ⟨rfl, rfl, rfl, rfl⟩ rfl ?_
      refine GOps.nil ?_
      refine GW.ite rfl (fun hc3 => ?_) (fun hc3 => ?_)
      · try simp only [decide_eq_true_eq, decide_eq_false_iff_not, Bool.not_eq_true', Bool.not_eq_false'] at hc3
        refine GW.region ?_
        refine R.move ⟨rfl, rfl, rfl, rfl⟩ rfl ?_
        refine R.load_own (cs := StC (stepF lim vars (a.ts, a.bad) l).1) ⟨rfl, rfl, rfl, rfl⟩ rfl Tryz.underlying50 rfl Tryz.sizeOf50 (by repeat (first | exact List.mem_cons_self | apply List.mem_cons_of_mem | apply List.mem_append_right)) (by rfl) (by rfl) ?_
        refine R.buildSliceF (sz := 11) (bytes := 88) (vs := [_]) (cs := StC (stepF lim vars (a.ts, a.bad) l).1) ⟨rfl, rfl, rfl, rfl⟩ rfl Tryz.underlying39 (InfoE.mk (by kernel_rfl)) rfl rfl rfl rfl rfl fun b47 => ?_
        refine GOps.weak (Keeps.refl _) (Hs.asc2 _ _ _ _ _ _ _ _ _ _) ?_
        refine R.append (sz := 11) (bytes := 88) (G1 := [_, _, _, _, _, _] ++ (HD3 ++ (Hm ++ Hw))) (H := Hn) (news := StC (stepF lim vars (a.ts, a.bad) l).1) ⟨rfl, rfl, rfl, rfl⟩ rfl rfl rfl Tryz.underlying39 (InfoE.mk (by kernel_rfl)) (hN) (rfl) (rfl) (.own (by repeat (first | exact List.mem_cons_self | apply List.mem_cons_of_mem | apply List.mem_append_right | exact List.mem_append_left _ List.mem_cons_self)) 0 _ (fun j v hv => by simpa using hv)) (by omega) (by rfl) (by omega) (by omega) fun v48 H48 hv48 => ?_
        refine GOps.weak (Keeps.refl _) (Hs.asc2' _ _ _ _ _ _ HD3 Hm Hw (H48 ++ G)) ?_
        obtain ⟨A48, c48, rfl, hc48⟩ := hv48.split
        refine R.assign ⟨rfl, rfl, rfl, rfl⟩ rfl ?_
        refine GOps.nil ?_
        refine GW.region ?_
        refine R.add (r := (((i + 1) : Nat) : Int)) ⟨rfl, rfl, rfl, rfl⟩ rfl rfl (by rw [wrap64_id (by omega) (by omega)]; omega) ?_
        refine R.move ⟨rfl, rfl, rfl, rfl⟩ rfl ?_
        refine GOps.nil ?_
        first | exact ⟨i + 1, ⟨a.m ++ [(stepF lim vars (a.ts, a.bad) l).1], a.w, a.n, (stepF lim vars (a.ts, a.bad) l).2.1, (stepF lim vars (a.ts, a.bad) l).2.2⟩, ((.slice A42 _ c42, vw, vn), (H42, Hw, Hn, HD3)), (), by omega, ⟨by omega, by rw [bodyTo_succ hx, ← ha, bodyStep_1 (by assumption)], (by show SlAt 11 50 (stsC (a.m ++ [(stepF lim vars (a.ts, a.bad) l).1])) (a.m ++ [(stepF lim vars (a.ts, a.bad) l).1]).length _ _; rw [sts_app, sts_one, List.length_append]; exact hv42), hW, hN, hD3, hnil⟩, rfl, by repeat (first | exact Keeps.nil _ | refine Keeps.cons rfl ?_), Hs.tl3 _ _ _⟩ | exact ⟨i + 1, ⟨a.m, a.w, a.n ++ [(stepF lim vars (a.ts, a.bad) l).1], (stepF lim vars (a.ts, a.bad) l).2.1, (stepF lim vars (a.ts, a.bad) l).2.2⟩, ((vm, vw, .slice A48 _ c48), (Hm, Hw, H48, HD3)), (), by omega, ⟨by omega, by rw [bodyTo_succ hx, ← ha, bodyStep_2 (by assumption) (by assumption)], hM, hW, (by show SlAt 11 50 (stsC (a.n ++ [(stepF lim vars (a.ts, a.bad) l).1])) (a.n ++ [(stepF lim vars (a.ts, a.bad) l).1]).length _ _; rw [sts_app, sts_one, List.length_append]; exact hv48), hD3, fun e => by simp at e⟩, rfl, by repeat (first | exact Keeps.nil _ | refine Keeps.cons rfl ?_), Hs.tl3 _ _ _⟩ | exact ⟨i + 1, ⟨a.m, a.w ++ [(stepF lim vars (a.ts, a.bad) l).1], a.n, (stepF lim vars (a.ts, a.bad) l).2.1, (stepF lim vars (a.ts, a.bad) l).2.2⟩, ((vm, .slice A36 _ c36, vn), (Hm, H36, Hn, HD3)), (), by omega, ⟨by omega, by rw [bodyTo_succ hx, ← ha, bodyStep_3 (by assumption) (by assumption)], hM, (by show SlAt 11 50 (stsC (a.w ++ [(stepF lim vars (a.ts, a.bad) l).1])) (a.w ++ [(stepF lim vars (a.ts, a.bad) l).1]).length _ _; rw [sts_app, sts_one, List.length_append]; exact hv36), hN, hD3, hnil⟩, rfl, by repeat (first | exact Keeps.nil _ | refine Keeps.cons rfl ?_), Hs.tl3 _ _ _⟩
      · try simp only [decide_eq_true_eq, decide_eq_false_iff_not, Bool.not_eq_true', Bool.not_eq_false'] at hc3
        refine GW.region ?_
        refine R.load1 ⟨rfl, rfl, rfl, rfl⟩ rfl Tryz.underlying39 rfl (.own' (by repeat (first | exact List.mem_cons_self | apply List.mem_cons_of_mem | apply List.mem_append_right)) (by rfl)) ?_
        refine R.load_own (cs := StC (stepF lim vars (a.ts, a.bad) l).1) ⟨rfl, rfl, rfl, rfl⟩ rfl Tryz.underlying50 rfl Tryz.sizeOf50 (by repeat (first | exact List.mem_cons_self | apply List.mem_cons_of_mem | apply List.mem_append_right)) (by rfl) (by rfl) ?_
        refine R.buildSliceF (sz := 11) (bytes := 88) (vs := [_]) (cs := StC (stepF lim vars (a.ts, a.bad) l).1) ⟨rfl, rfl, rfl, rfl⟩ rfl Tryz.underlying39 (InfoE.mk (by kernel_rfl)) rfl rfl rfl rfl rfl fun b35 => ?_
        refine GOps.weak (Keeps.refl _) (Hs.asc _ _ _ _ _ _ _ _ _) ?_
        refine R.append (sz := 11) (bytes := 88) (G1 := [_, _, _, _, _, _] ++ (HD3 ++ Hm)) (H := Hw) (news := StC (stepF lim vars (a.ts, a.bad) l).1) ⟨rfl, rfl, rfl, rfl⟩ rfl rfl rfl Tryz.underlying39 (InfoE.mk (by kernel_rfl)) (hW) (rfl) (rfl) (.own (by repeat (first | exact List.mem_cons_self | apply List.mem_cons_of_mem | apply List.mem_append_right | exact List.mem_append_left _ List.mem_cons_self)) 0 _ (fun j v hv => by simpa using hv)) (by omega) (by rfl) (by omega) (by omega) fun v36 H36 hv36 => ?_
        refine GOps.weak (Keeps.refl _) (Hs.asc' _ _ _ _ _ _ HD3 Hm (H36 ++ (Hn ++ G))) ?_
        obtain ⟨A36, c36, rfl, hc36⟩ := hv36.split
        refine R.storeAll (G1 := [_, _, _, _]) rfl rfl rfl rfl rfl Tryz.sizeOf39 rfl rfl rfl rfl ?_
        refine GOps.nil ?_
        refine GW.region ?_
        refine R.add (r := (((i + 1) : Nat) : Int)) ⟨rfl, rfl, rfl, rfl⟩ rfl rfl (by rw [wrap64_id (by omega) (by omega)]; omega) ?_
        refine R.move ⟨rfl, rfl, rfl, rfl⟩ rfl ?_
        refine GOps.nil ?_
        first | exact ⟨i + 1, ⟨a.m ++ [(stepF lim vars (a.ts, a.bad) l).1], a.w, a.n, (stepF lim vars (a.ts, a.bad) l).2.1, (stepF lim vars (a.ts, a.bad) l).2.2⟩, ((.slice A42 _ c42, vw, vn), (H42, Hw, Hn, HD3)), (), by omega, ⟨by omega, by rw [bodyTo_succ hx, ← ha, bodyStep_1 (by assumption)], (by show SlAt 11 50 (stsC (a.m ++ [(stepF lim vars (a.ts, a.bad) l).1])) (a.m ++ [(stepF lim vars (a.ts, a.bad) l).1]).length _ _; rw [sts_app, sts_one, List.length_append]; exact hv42), hW, hN, hD3, hnil⟩, rfl, by repeat (first | exact Keeps.nil _ | refine Keeps.cons rfl ?_), Hs.tl3 _ _ _⟩ | exact ⟨i + 1, ⟨a.m, a.w, a.n ++ [(stepF lim vars (a.ts, a.bad) l).1], (stepF lim vars (a.ts, a.bad) l).2.1, (stepF lim vars (a.ts, a.bad) l).2.2⟩, ((vm, vw, .slice A48 _ c48), (Hm, Hw, H48, HD3)), (), by omega, ⟨by omega, by rw [bodyTo_succ hx, ← ha, bodyStep_2 (by assumption) (by assumption)], hM, hW, (by show SlAt 11 50 (stsC (a.n ++ [(stepF lim vars (a.ts, a.bad) l).1])) (a.n ++ [(stepF lim vars (a.ts, a.bad) l).1]).length _ _; rw [sts_app, sts_one, List.length_append]; exact hv48), hD3, fun e => by simp at e⟩, rfl, by repeat (first | exact Keeps.nil _ | refine Keeps.cons rfl ?_), Hs.tl3 _ _ _⟩ | exact ⟨i + 1, ⟨a.m, a.w ++ [(stepF lim vars (a.ts, a.bad) l).1], a.n, (stepF lim vars (a.ts, a.bad) l).2.1, (stepF lim vars (a.ts, a.bad) l).2.2⟩, ((vm, .slice A36 _ c36, vn), (Hm, H36, Hn, HD3)), (), by omega, ⟨by omega, by rw [bodyTo_succ hx, ← ha, bodyStep_3 (by assumption) (by assumption)], hM, (by show SlAt 11 50 (stsC (a.w ++ [(stepF lim vars (a.ts, a.bad) l).1])) (a.w ++ [(stepF lim vars (a.ts, a.bad) l).1]).length _ _; rw [sts_app, sts_one, List.length_append]; exact hv36), hN, hD3, hnil⟩, rfl, by repeat (first | exact Keeps.nil _ | refine Keeps.cons rfl ?_), Hs.tl3 _ _ _⟩
  · try simp only [decide_eq_true_eq, decide_eq_false_iff_not, Bool.not_eq_true', Bool.not_eq_false'] at hc1
    obtain rfl : i = body.length := by omega
    subst ha
    obtain ⟨Am, cm, rfl, hms, hcm⟩ := hM.sts w0 []
    rw [List.append_nil] at hms
    refine GW.exit ?_
    refine GW.cutX (fun a : Value × Hp => [(0, .pointer (some ⟨bM, 0, none⟩)), (2, .slice oA order.length oc), (7, .slice Am (bodyTo lim vars ts bad body body.length).m.length cm), (8, .pointer (some ⟨b8, 0, none⟩)), (9, .pointer (some ⟨b9, 0, none⟩))]) (fun a : Value × Hp => (b9, slC1 (.slice none 0 0)) :: (b8, slC1 a.1) :: (bM, mkC bD A vars.length c (bodyTo lim vars ts bad body body.length).bad) :: (HD2 ++ (Hm ++ (a.2 ++ G)))) (fun a : Value × Hp => SlAt 11 50 (stsC ((bodyTo lim vars ts bad body body.length).w ++ (bodyTo lim vars ts bad body body.length).n)) ((bodyTo lim vars ts bad body body.length).w ++ (bodyTo lim vars ts bad body body.length).n).length a.1 a.2) ?_ ?_
    · refine GW.region ?_
      refine R.load1 ⟨rfl, rfl, rfl, rfl⟩ rfl Tryz.underlying39 rfl (.own' (by repeat (first | exact List.mem_cons_self | apply List.mem_cons_of_mem | apply List.mem_append_right)) (by rfl)) ?_
      refine R.move ⟨rfl, rfl, rfl, rfl⟩ rfl ?_
      rcases Nat.eq_zero_or_pos (bodyTo lim vars ts bad body body.length).n.length with hn0 | hn0
      · obtain ⟨rfl, rfl⟩ := hnil hn0
        obtain ⟨Aw, cw, rfl, hcw⟩ := hW.split
        refine R.appendNil (sz := 11) (bytes := 88) ⟨rfl, rfl, rfl, rfl⟩ rfl rfl rfl Tryz.underlying39 (InfoE.mk (by kernel_rfl)) (hcw) ?_
        refine R.storeAll (G1 := [_]) rfl rfl rfl rfl rfl Tryz.sizeOf39 rfl rfl rfl rfl ?_
        refine GOps.nil ?_
        first | exact ⟨rfl, rfl, (.slice Aw _ cw, Hw), (by rw [List.length_eq_zero_iff] at hn0; show SlAt 11 50 (stsC ((bodyTo lim vars ts bad body body.length).w ++ (bodyTo lim vars ts bad body body.length).n)) ((bodyTo lim vars ts bad body body.length).w ++ (bodyTo lim vars ts bad body body.length).n).length _ _; rw [hn0, List.append_nil]; exact hW), by repeat (first | exact Keeps.nil _ | refine Keeps.cons rfl ?_), Hs.refl _⟩ | exact ⟨rfl, rfl, (.slice A52 _ c52, H52), (by show SlAt 11 50 (stsC ((bodyTo lim vars ts bad body body.length).w ++ (bodyTo lim vars ts bad body body.length).n)) ((bodyTo lim vars ts bad body body.length).w ++ (bodyTo lim vars ts bad body body.length).n).length _ _; rw [sts_app, List.length_append]; exact hv52), by repeat (first | exact Keeps.nil _ | refine Keeps.cons rfl ?_), Hs.drop3 _ _ _ _ _ _ _ _⟩
      · obtain ⟨bn, cn, rfl, rfl, hcn⟩ := hN.row_of hn0
        refine GOps.weak (Keeps.refl _) (Hs.asc3 _ _ _ _ _ _) ?_
        refine R.append (sz := 11) (bytes := 88) (G1 := [_, _, _] ++ (HD2 ++ Hm)) (H := Hw) (news := stsC (bodyTo lim vars ts bad body body.length).n) ⟨rfl, rfl, rfl, rfl⟩ rfl rfl rfl Tryz.underlying39 (InfoE.mk (by kernel_rfl)) (hW) (rfl) (stsC_len _) (row_rds (by repeat (first | exact List.mem_cons_self | apply List.mem_cons_of_mem | apply List.mem_append_right | exact List.mem_append_left _ List.mem_cons_self))) (by omega) (stsC_one _) (by omega) (by omega) fun v52 H52 hv52 => ?_
        refine GOps.weak (Keeps.refl _) (Hs.asc3' _ _ _ HD2 Hm (H52 ++ _)) ?_
        obtain ⟨A52, c52, rfl, hc52⟩ := hv52.split
        refine R.storeAll (G1 := [_]) rfl rfl rfl rfl rfl Tryz.sizeOf39 rfl rfl rfl rfl ?_
        refine GOps.nil ?_
        first | exact ⟨rfl, rfl, (.slice Aw _ cw, Hw), (by rw [List.length_eq_zero_iff] at hn0; show SlAt 11 50 (stsC ((bodyTo lim vars ts bad body body.length).w ++ (bodyTo lim vars ts bad body body.length).n)) ((bodyTo lim vars ts bad body body.length).w ++ (bodyTo lim vars ts bad body body.length).n).length _ _; rw [hn0, List.append_nil]; exact hW), by repeat (first | exact Keeps.nil _ | refine Keeps.cons rfl ?_), Hs.refl _⟩ | exact ⟨rfl, rfl, (.slice A52 _ c52, H52), (by show SlAt 11 50 (stsC ((bodyTo lim vars ts bad body body.length).w ++ (bodyTo lim vars ts bad body body.length).n)) ((bodyTo lim vars ts bad body body.length).w ++ (bodyTo lim vars ts bad body body.length).n).length _ _; rw [sts_app, List.length_append]; exact hv52), by repeat (first | exact Keeps.nil _ | refine Keeps.cons rfl ?_), Hs.drop3 _ _ _ _ _ _ _ _⟩
    · rintro ⟨vw2, Hw2⟩ hW2
      simp only at hW2
      refine GW.cutX (fun a : (Option Addr × Nat × Nat) × Hp => [(0, .pointer (some ⟨bM, 0, none⟩)), (2, .slice a.1.1 a.1.2.1 a.1.2.2), (7, .slice Am (bodyTo lim vars ts bad body body.length).m.length cm), (8, .pointer (some ⟨b8, 0, none⟩)), (9, .pointer (some ⟨b9, 0, none⟩))]) (fun a : (Option Addr × Nat × Nat) × Hp => (b9, slC1 (.slice none 0 0)) :: (b8, slC1 vw2) :: (bM, mkC bD A vars.length c (bodyTo lim vars ts bad body body.length).bad) :: (HD2 ++ (Hm ++ (Hw2 ++ (a.2 ++ G))))) (fun a : (Option Addr × Nat × Nat) × Hp => a.1.2.1 = (ordF (bodyTo lim vars ts bad body body.length).m.length order srt).length ∧ IntsAt w0 (a.2 ++ G) a.1.1 (ordF (bodyTo lim vars ts bad body body.length).m.length order srt) ∧ (ordF (bodyTo lim vars ts bad body body.length).m.length order srt).length ≤ 1000) ?_ ?_
      · refine GW.seq ?_
        refine GW.region ?_
        refine R.move ⟨rfl, rfl, rfl, rfl⟩ rfl ?_
        refine R.call ⟨rfl, rfl, rfl, rfl⟩ rfl (vs := [_]) rfl ((sl_Values _ _ oA order.length oc).mono ?_)
        rintro _ _ ⟨b54, rfl, rfl⟩
        refine R.call ⟨rfl, rfl, rfl, rfl⟩ rfl (vs := [_]) rfl ((hS b54 _ List.mem_cons_self (ho.mono (fun y hy => by repeat (first | exact hy | apply List.mem_cons_of_mem | apply List.mem_append_right)))).mono ?_)
        rintro v55 _ ⟨H55, h55, rfl⟩
        obtain ⟨As, cs, rfl, hsr, hcs⟩ := h55.ints w0 []
        rw [List.append_nil] at hsr
        refine R.assign ⟨rfl, rfl, rfl, rfl⟩ rfl ?_
        refine GOps.nil ?_
        refine GW.seq ?_
        refine GW.region ?_
        refine R.move ⟨rfl, rfl, rfl, rfl⟩ rfl ?_
        refine R.lenS ⟨rfl, rfl, rfl, rfl⟩ rfl rfl Tryz.underlying32 ?_
        refine R.move ⟨rfl, rfl, rfl, rfl⟩ rfl ?_
        refine R.lenS ⟨rfl, rfl, rfl, rfl⟩ rfl rfl Tryz.underlying39 ?_
        refine R.neI ⟨rfl, rfl, rfl, rfl⟩ rfl rfl ?_
        refine R.move ⟨rfl, rfl, rfl, rfl⟩ rfl ?_
        refine GOps.caseB 61 rfl (fun hg4 => ?_) (fun hg4 => ?_)
        · try simp only [decide_eq_true_eq, decide_eq_false_iff_not, Bool.not_eq_true', Bool.not_eq_false'] at hg4
          refine GOps.skip rfl rfl rfl ?_
          refine GOps.skip rfl rfl rfl ?_
          refine GOps.skip rfl rfl rfl ?_
          refine GOps.skip rfl rfl rfl ?_
          refine GOps.skip rfl rfl rfl ?_
          refine GOps.skip rfl rfl rfl ?_
          refine R.pick_t ⟨rfl, rfl, rfl, rfl⟩ rfl rfl ?_
          refine GOps.nil ?_
          refine GW.cond_t rfl ?_
          refine GW.region ?_
          refine R.move ⟨rfl, rfl, rfl, rfl⟩ rfl ?_
          refine R.lenS ⟨rfl, rfl, rfl, rfl⟩ rfl rfl Tryz.underlying39 ?_
          refine R.call ⟨rfl, rfl, rfl, rfl⟩ rfl (vs := [_]) rfl ((plan_upTo _ _ (bodyTo lim vars ts bad body body.length).m.length (by omega)).mono ?_)
          rintro _ _ ⟨b71, rfl, rfl⟩
          refine R.assign ⟨rfl, rfl, rfl, rfl⟩ rfl ?_
          refine GOps.nil ?_
          first | exact ⟨rfl, rfl, ((some ⟨b71, 0, none⟩, (bodyTo lim vars ts bad body body.length).m.length, (bodyTo lim vars ts bad body body.length).m.length), [(b71, .exact (.cells (intC (List.range (bodyTo lim vars ts bad body body.length).m.length)).toArray 3 (0, 0)))]), ⟨(by rw [ordF_no (by rintro ⟨e1, e2⟩; first | omega | (rw [← e1] at e2; exact hc5 e2)), List.length_map, List.length_range]), (by rw [ordF_no (by rintro ⟨e1, e2⟩; first | omega | (rw [← e1] at e2; exact hc5 e2))]; exact exact_ints (List.mem_append_left _ List.mem_cons_self)), (by rw [ordF_no (by rintro ⟨e1, e2⟩; first | omega | (rw [← e1] at e2; exact hc5 e2)), List.length_map, List.length_range]; omega)⟩, by repeat (first | exact Keeps.nil _ | refine Keeps.cons rfl ?_), (Hs.sub (by first | exact (sub1 _ _ _).cons_cons _ | exact ((sub1 _ _ _).cons _).cons_cons _)).trans (ord_deep _ _ _ _ _ _ _ _)⟩ | exact ⟨rfl, rfl, ((oA, order.length, oc), []), ⟨(by rw [ordF_yes (by omega) (ordF_eq (by omega) hc5)]), (by rw [ordF_yes (by omega) (ordF_eq (by omega) hc5)]; exact ho), (by rw [ordF_yes (by omega) (ordF_eq (by omega) hc5)]; exact hol)⟩, by repeat (first | exact Keeps.nil _ | refine Keeps.cons rfl ?_), Hs.sub ((sub1 _ _ _).cons _)⟩
        · try simp only [decide_eq_true_eq, decide_eq_false_iff_not, Bool.not_eq_true', Bool.not_eq_false'] at hg4
          refine R.move ⟨rfl, rfl, rfl, rfl⟩ rfl ?_
          refine R.move ⟨rfl, rfl, rfl, rfl⟩ rfl ?_
          refine R.lenS ⟨rfl, rfl, rfl, rfl⟩ rfl rfl Tryz.underlying32 ?_
          refine R.call ⟨rfl, rfl, rfl, rfl⟩ rfl (vs := [_]) rfl ((plan_upTo _ _ srt.length (by omega)).mono ?_)
          rintro _ _ ⟨b65, rfl, rfl⟩
          refine R.call ⟨rfl, rfl, rfl, rfl⟩ rfl (vs := [_, _]) rfl ((eq_up _ _ As srt cs b65 srt.length (hsr.mono (fun y hy => List.mem_cons_of_mem _ (List.mem_append_left _ hy))) List.mem_cons_self (by omega) (by omega)).mono ?_)
          rintro _ _ ⟨rfl, rfl⟩
          refine R.not ⟨rfl, rfl, rfl, rfl⟩ rfl ?_
          refine R.pick_f ⟨rfl, rfl, rfl, rfl⟩ rfl rfl ?_
          refine GOps.nil ?_
          refine GW.ite rfl (fun hc5 => ?_) (fun hc5 => ?_)
          · try simp only [decide_eq_true_eq, decide_eq_false_iff_not, Bool.not_eq_true', Bool.not_eq_false'] at hc5
            refine GW.region ?_
            refine R.move ⟨rfl, rfl, rfl, rfl⟩ rfl ?_
            refine R.lenS ⟨rfl, rfl, rfl, rfl⟩ rfl rfl Tryz.underlying39 ?_
            refine R.call ⟨rfl, rfl, rfl, rfl⟩ rfl (vs := [_]) rfl ((plan_upTo _ _ (bodyTo lim vars ts bad body body.length).m.length (by omega)).mono ?_)
            rintro _ _ ⟨b71, rfl, rfl⟩
            refine R.assign ⟨rfl, rfl, rfl, rfl⟩ rfl ?_
            refine GOps.nil ?_
            first | exact ⟨rfl, rfl, ((some ⟨b71, 0, none⟩, (bodyTo lim vars ts bad body body.length).m.length, (bodyTo lim vars ts bad body body.length).m.length), [(b71, .exact (.cells (intC (List.range (bodyTo lim vars ts bad body body.length).m.length)).toArray 3 (0, 0)))]), ⟨(by rw [ordF_no (by rintro ⟨e1, e2⟩; first | omega | (rw [← e1] at e2; exact hc5 e2)), List.length_map, List.length_range]), (by rw [ordF_no (by rintro ⟨e1, e2⟩; first | omega | (rw [← e1] at e2; exact hc5 e2))]; exact exact_ints (List.mem_append_left _ List.mem_cons_self)), (by rw [ordF_no (by rintro ⟨e1, e2⟩; first | omega | (rw [← e1] at e2; exact hc5 e2)), List.length_map, List.length_range]; omega)⟩, by repeat (first | exact Keeps.nil _ | refine Keeps.cons rfl ?_), (Hs.sub (by first | exact (sub1 _ _ _).cons_cons _ | exact ((sub1 _ _ _).cons _).cons_cons _)).trans (ord_deep _ _ _ _ _ _ _ _)⟩ | exact ⟨rfl, rfl, ((oA, order.length, oc), []), ⟨(by rw [ordF_yes (by omega) (ordF_eq (by omega) hc5)]), (by rw [ordF_yes (by omega) (ordF_eq (by omega) hc5)]; exact ho), (by rw [ordF_yes (by omega) (ordF_eq (by omega) hc5)]; exact hol)⟩, by repeat (first | exact Keeps.nil _ | refine Keeps.cons rfl ?_), Hs.sub ((sub1 _ _ _).cons _)⟩
          · try simp only [decide_eq_true_eq, decide_eq_false_iff_not, Bool.not_eq_true', Bool.not_eq_false'] at hc5
            refine GW.skip ?_
            first | exact ⟨rfl, rfl, ((some ⟨b71, 0, none⟩, (bodyTo lim vars ts bad body body.length).m.length, (bodyTo lim vars ts bad body body.length).m.length), [(b71, .exact (.cells (intC (List.range (bodyTo lim vars ts bad body body.length).m.length)).toArray 3 (0, 0)))]), ⟨(by rw [ordF_no (by rintro ⟨e1, e2⟩; first | omega | (rw [← e1] at e2; exact hc5 e2)), List.length_map, List.length_range]), (by rw [ordF_no (by rintro ⟨e1, e2⟩; first | omega | (rw [← e1] at e2; exact hc5 e2))]; exact exact_ints (List.mem_append_left _ List.mem_cons_self)), (by rw [ordF_no (by rintro ⟨e1, e2⟩; first | omega | (rw [← e1] at e2; exact hc5 e2)), List.length_map, List.length_range]; omega)⟩, by repeat (first | exact Keeps.nil _ | refine Keeps.cons rfl ?_), (Hs.sub (by first | exact (sub1 _ _ _).cons_cons _ | exact ((sub1 _ _ _).cons _).cons_cons _)).trans (ord_deep _ _ _ _ _ _ _ _)⟩ | exact ⟨rfl, rfl, ((oA, order.length, oc), []), ⟨(by rw [ordF_yes (by omega) (ordF_eq (by omega) hc5)]), (by rw [ordF_yes (by omega) (ordF_eq (by omega) hc5)]; exact ho), (by rw [ordF_yes (by omega) (ordF_eq (by omega) hc5)]; exact hol)⟩, by repeat (first | exact Keeps.nil _ | refine Keeps.cons rfl ?_), Hs.sub ((sub1 _ _ _).cons _)⟩
      · rintro ⟨⟨Ax, nx, cx⟩, Hx⟩ ⟨rfl, hox, hoxl⟩
        simp only at hox
        refine GW.seq ?_
        refine GW.region ?_
        refine R.move ⟨rfl, rfl, rfl, rfl⟩ rfl ?_
        refine R.nilCheck ⟨rfl, rfl, rfl, rfl⟩ rfl ?_
        refine R.fieldAddr ⟨rfl, rfl, rfl, rfl⟩ rfl Tryz.underlying97 rfl Tryz.sizeOf61 ?_   -- "vars"
        refine R.load1 ⟨rfl, rfl, rfl, rfl⟩ rfl Tryz.underlying61 rfl (.own' (by repeat (first | exact List.mem_cons_self | apply List.mem_cons_of_mem | apply List.mem_append_right)) (by rfl)) ?_
        refine R.lenS ⟨rfl, rfl, rfl, rfl⟩ rfl rfl Tryz.underlying61 ?_
        refine R.makeZero (n := vars.length) (bytes := 1) (z0 := .bool false) ⟨rfl, rfl, rfl, rfl⟩ (by rfl) (by rfl) Tryz.underlying47 (InfoE.mk (by kernel_rfl)) (InfoZ.mk (by kernel_rfl)) (by omega) (by omega) fun b77 => ?_
        refine R.alloc ⟨rfl, rfl, rfl, rfl⟩ Tryz.zeroValue47 fun b15 => ?_
        refine R.storeAll (G1 := []) rfl rfl rfl rfl rfl Tryz.sizeOf47 rfl rfl rfl rfl ?_
        refine GOps.nil ?_
        refine GW.seq ?_
        refine GW.region ?_
        refine R.makeFunc (vs := []) (us := [_]) ⟨rfl, rfl, rfl, rfl⟩ rfl rfl ?_
        refine R.alloc ⟨rfl, rfl, rfl, rfl⟩ Tryz.zeroValue133 fun b16 => ?_
        refine R.storeAll (G1 := []) rfl rfl rfl rfl rfl Tryz.sizeOf133 rfl rfl rfl rfl ?_
        refine GOps.nil ?_
        refine GW.cutX (fun a : Unit => [(2, .slice Ax (ordF (bodyTo lim vars ts bad body body.length).m.length order srt).length cx), (7, .slice Am (bodyTo lim vars ts bad body body.length).m.length cm), (9, .pointer (some ⟨b9, 0, none⟩)), (15, .pointer (some ⟨b15, 0, none⟩)), (17, .func (.func 63) #[] #[.pointer (some ⟨b8, 0, none⟩), .pointer (some ⟨b16, 0, none⟩), .pointer (some ⟨b9, 0, none⟩)])]) (fun a : Unit => can b77 b8 b9 (List.replicate vars.length false) (vw2) (.slice none 0 0) (Hw2) ([]) ((b16, .exact (.cells #[.func (.func 61) #[] #[.pointer (some ⟨b15, 0, none⟩)]] 133 (0, 0))) :: (b15, .exact (.cells #[.slice (some ⟨b77, 0, none⟩) vars.length vars.length] 47 (0, 0))) :: (bM, mkC bD A vars.length c (bodyTo lim vars ts bad body body.length).bad) :: (HD2 ++ (Hm ++ (Hx ++ G))))) (fun a : Unit => True) ?_ ?_
        · refine GW.region ?_
          refine R.makeFunc (vs := []) (us := [_, _, _]) ⟨rfl, rfl, rfl, rfl⟩ rfl rfl ?_
          refine R.assign ⟨rfl, rfl, rfl, rfl⟩ rfl ?_
          refine GOps.nil ?_
          exact ⟨rfl, rfl, (), trivial, by repeat (first | exact Keeps.nil _ | refine Keeps.cons rfl ?_), (Hs.perm (can_new _ _ _ _ _ _ _ _ _ _ _).symm).trans (Hs.kn (kn_zero _))⟩
        · intro _ _
          have hbo := BOk.all (lim := lim) (vars := vars) (ts := ts) (bad := bad) (body := body) body.length (Nat.le_refl _)
          have hwp : ∀ s ∈ (bodyTo lim vars ts bad body body.length).w ++ (bodyTo lim vars ts bad body body.length).n, ∀ p ∈ placesSt s, p.var < vars.length := fun s hs => hbo.pl s (List.mem_append_right _ hs)
          have hq0 : ROk vars.length 2000 ⟨List.replicate vars.length false, (bodyTo lim vars ts bad body body.length).w ++ (bodyTo lim vars ts bad body body.length).n, []⟩ := ⟨by simp, hwp, by simp; have := hbo.len; omega⟩
          refine GW.seq ?_
          refine GW.region ?_
          refine R.move ⟨rfl, rfl, rfl, rfl⟩ rfl ?_
          refine R.call ⟨rfl, rfl, rfl, rfl⟩ rfl (vs := []) rfl ((flush_can _ _ _ _ _ _ ((bodyTo lim vars ts bad body body.length).w ++ (bodyTo lim vars ts bad body body.length).n) [] b8 b16 b9 b15 b77 vars.length (List.replicate vars.length false) (by simp) (by show _ ∈ (_ :: _ :: _ :: (_ ++ (_ ++ _))); repeat (first | exact List.mem_cons_self | apply List.mem_cons_of_mem | apply List.mem_append_right)) (by show _ ∈ (_ :: _ :: _ :: (_ ++ (_ ++ _))); repeat (first | exact List.mem_cons_self | apply List.mem_cons_of_mem | apply List.mem_append_right)) hW2 (.nil rfl rfl) (by simp; omega) (by simp) hwp).mono ?_)
          rintro _ _ ⟨vw3, Hw3, vo3, Ho3, ⟨rfl, hW3, hO3⟩, rfl⟩
          refine GOps.nil ?_
          refine GW.seq ?_
          refine GW.seq ?_
          refine GW.region ?_
          refine R.move ⟨rfl, rfl, rfl, rfl⟩ rfl ?_
          refine R.lenS ⟨rfl, rfl, rfl, rfl⟩ rfl rfl Tryz.underlying32 ?_
          refine R.move ⟨rfl, rfl, rfl, rfl⟩ rfl ?_
          refine GOps.nil ?_
          refine GW.block ?_
          refine GW.loop4 (fun (i : Nat) (q : RS) (h : (Value × Value) × (Hp × Hp)) (u1 : Unit) => [(7, .slice Am (bodyTo lim vars ts bad body body.length).m.length cm), (9, .pointer (some ⟨b9, 0, none⟩)), (15, .pointer (some ⟨b15, 0, none⟩)), (17, .func (.func 63) #[] #[.pointer (some ⟨b8, 0, none⟩), .pointer (some ⟨b16, 0, none⟩), .pointer (some ⟨b9, 0, none⟩)]), (82, .slice Ax (ordF (bodyTo lim vars ts bad body body.length).m.length order srt).length cx), (83, .int .i64 (ordF (bodyTo lim vars ts bad body body.length).m.length order srt).length), (84, .int .i64 i)]) (fun (i : Nat) (q : RS) (h : (Value × Value) × (Hp × Hp)) (u1 : Unit) => can b77 b8 b9 (q.kn) (h.1.1) (h.1.2) (h.2.1) (h.2.2) ((b16, .exact (.cells #[.func (.func 61) #[] #[.pointer (some ⟨b15, 0, none⟩)]] 133 (0, 0))) :: (b15, .exact (.cells #[.slice (some ⟨b77, 0, none⟩) vars.length vars.length] 47 (0, 0))) :: (bM, mkC bD A vars.length c (bodyTo lim vars ts bad body body.length).bad) :: (HD2 ++ (Hm ++ (Hx ++ G))))) (fun i : Nat => (ordF (bodyTo lim vars ts bad body body.length).m.length order srt).length - i) (fun (i : Nat) (q : RS) (h : (Value × Value) × (Hp × Hp)) (u1 : Unit) => i ≤ (ordF (bodyTo lim vars ts bad body body.length).m.length order srt).length ∧ q = runTo (bodyTo lim vars ts bad body body.length).m ⟨List.replicate vars.length false, (bodyTo lim vars ts bad body body.length).w ++ (bodyTo lim vars ts bad body body.length).n, []⟩ (ordF (bodyTo lim vars ts bad body body.length).m.length order srt) i ∧ SlAt 11 50 (stsC (q.w)) (q.w).length h.1.1 h.2.1 ∧ SlAt 11 50 (stsC (q.o)) (q.o).length h.1.2 h.2.2) 0 (flushR ⟨List.replicate vars.length false, (bodyTo lim vars ts bad body body.length).w ++ (bodyTo lim vars ts bad body body.length).n, []⟩) (((vw3, vo3), (Hw3, Ho3))) (())
            (by repeat (first | exact Keeps.nil _ | refine Keeps.cons rfl ?_)) (Hs.refl _) (⟨Nat.zero_le _, rfl, hW3, hO3⟩) ?_
          rintro i q h u1 ⟨hi, hq, hWq, hOq⟩
          obtain ⟨⟨vw, vo⟩, Hw, Ho⟩ := h
          obtain ⟨hq1, hq2⟩ := run_ok (ms := (bodyTo lim vars ts bad body body.length).m) (ord := (ordF (bodyTo lim vars ts bad body body.length).m.length order srt)) hq0 i
          rw [← hq] at hq1 hq2
          have hq3 := hq2 hi
          have hq4 : q.o.length ≤ 4000 := by simp only [List.length_append, List.length_nil] at hq3; have := hbo.len; omega
          refine GW.seq ?_
          refine GW.region ?_
          refine R.lss ⟨rfl, rfl, rfl, rfl⟩ rfl rfl ?_
          refine GOps.nil ?_
          refine GW.seq ?_
          refine GW.ite rfl (fun hc6 => ?_) (fun hc6 => ?_)
          · try simp only [decide_eq_true_eq, decide_eq_false_iff_not, Bool.not_eq_true', Bool.not_eq_false'] at hc6
            obtain ⟨z, hz⟩ : ∃ z, (ordF (bodyTo lim vars ts bad body body.length).m.length order srt)[i]? = some z := ⟨_, List.getElem?_eq_getElem (by omega)⟩
            obtain ⟨zb, zo, rfl, hrz⟩ := int_at hox hz
            have hzr := ordF_range hmem z (List.mem_of_getElem? hz)
            have hzx := getD_some (ms := (bodyTo lim vars ts bad body body.length).m) (i := z.toNat) (by omega)
            obtain ⟨sb, so, cs1, rfl, rfl, hrs⟩ := hms z.toNat _ hzx
            have hsm := List.mem_of_getElem? hzx
            refine GW.skip ?_
            refine GW.seq ?_
            refine GW.block ?_
            refine GW.seq ?_
            refine GW.region ?_
            refine R.indexAddrS ⟨rfl, rfl, rfl, rfl⟩ rfl rfl Tryz.underlying32 Tryz.sizeOf3 (by omega) (by omega) ?_
            refine R.load1 ⟨rfl, rfl, rfl, rfl⟩ rfl Tryz.underlying3 rfl (hrz.mono (by intro y hy; show _ ∈ (_ :: _ :: _ :: (_ ++ (_ ++ (_ :: _ :: _ :: (_ ++ (_ ++ _)))))); repeat (first | exact hy | apply List.mem_cons_of_mem | apply List.mem_append_right))) ?_
            refine R.assign ⟨rfl, rfl, rfl, rfl⟩ rfl ?_
            refine GOps.nil ?_
            refine GW.cutX (fun a : Value × Hp => [(7, .slice (some ⟨sb, so, none⟩) (bodyTo lim vars ts bad body body.length).m.length cm), (9, .pointer (some ⟨b9, 0, none⟩)), (15, .pointer (some ⟨b15, 0, none⟩)), (17, .func (.func 63) #[] #[.pointer (some ⟨b8, 0, none⟩), .pointer (some ⟨b16, 0, none⟩), .pointer (some ⟨b9, 0, none⟩)]), (19, .int .i64 z), (82, .slice (some ⟨zb, zo, none⟩) (ordF (bodyTo lim vars ts bad body body.length).m.length order srt).length cx), (83, .int .i64 (ordF (bodyTo lim vars ts bad body body.length).m.length order srt).length), (84, .int .i64 i)]) (fun a : Value × Hp => can b77 b8 b9 (q.kn) (vw) (a.1) (Hw) (a.2) ((b16, .exact (.cells #[.func (.func 61) #[] #[.pointer (some ⟨b15, 0, none⟩)]] 133 (0, 0))) :: (b15, .exact (.cells #[.slice (some ⟨b77, 0, none⟩) vars.length vars.length] 47 (0, 0))) :: (bM, mkC bD A vars.length c (bodyTo lim vars ts bad body body.length).bad) :: (HD2 ++ (Hm ++ (Hx ++ G))))) (fun a : Value × Hp => SlAt 11 50 (stsC (q.o ++ [((bodyTo lim vars ts bad body body.length).m.getD z.toNat zSt)])) (q.o ++ [((bodyTo lim vars ts bad body body.length).m.getD z.toNat zSt)]).length a.1 a.2) ?_ ?_
            · refine GW.draw ((b16, .exact (.cells #[.func (.func 61) #[] #[.pointer (some ⟨b15, 0, none⟩)]] 133 (0, 0))) :: (b15, .exact (.cells #[.slice (some ⟨b77, 0, none⟩) vars.length vars.length] 47 (0, 0))) :: (bM, mkC bD A vars.length c (bodyTo lim vars ts bad body body.length).bad) :: (HD2 ++ (Hm ++ (Hx ++ G)))) 8 rfl (by kernel_rfl) ?_
              refine GA.val 1 rfl (V.move ⟨rfl, rfl, rfl, rfl⟩ rfl) rfl (by kernel_rfl) (by kernel_rfl) (by kernel_rfl) ?_
              refine GA.val 2 rfl (V.move ⟨rfl, rfl, rfl, rfl⟩ rfl) rfl (by kernel_rfl) (by kernel_rfl) (by kernel_rfl) ?_
              refine GA.val 3 rfl (V.indexAddrS ⟨rfl, rfl, rfl, rfl⟩ rfl rfl Tryz.underlying39 Tryz.sizeOf50 (by omega) (by omega)) rfl (by kernel_rfl) (by kernel_rfl) (by kernel_rfl) ?_
              refine GA.val 4 rfl (V.loadA ⟨rfl, rfl, rfl, rfl⟩ rfl Tryz.underlying50 rfl Tryz.sizeOf50 (hrs.mono (by intro y hy; repeat (first | exact List.mem_append_left _ hy | apply List.mem_cons_of_mem | apply List.mem_append_right))) (by rfl)) rfl (by kernel_rfl) (by kernel_rfl) (by kernel_rfl) ?_
              refine GA.two 0 5 (by first | exact Hs.toRest _ _ _ _ _ _ | exact Hs.sub (by repeat (first | exact List.Sublist.refl _ | apply List.Sublist.cons | refine List.Sublist.trans ?_ (List.sublist_append_right _ _))) | exact Hs.refl _ | exact Hs.tl _ | exact Hs.tl2 _ _ | exact Hs.tl3 _ _ _ | exact Hs.app _ | exact Hs.sub (by simp)) (by kernel_rfl) rfl rfl ?_ ?_
              · refine R.load1 ⟨rfl, rfl, rfl, rfl⟩ rfl Tryz.underlying39 rfl (.own' (by repeat (first | exact List.mem_cons_self | apply List.mem_cons_of_mem | apply List.mem_append_right)) (by rfl)) ?_
                refine GOps.nil ?_
                refine GA.one 5 (by first | exact Hs.toRest _ _ _ _ _ _ | exact Hs.sub (by repeat (first | exact List.Sublist.refl _ | apply List.Sublist.cons | refine List.Sublist.trans ?_ (List.sublist_append_right _ _))) | exact Hs.refl _ | exact Hs.tl _ | exact Hs.tl2 _ _ | exact Hs.tl3 _ _ _ | exact Hs.app _ | exact Hs.sub (by simp)) (by kernel_rfl) rfl ?_
                refine R.buildSliceF (sz := 11) (bytes := 88) (vs := [_]) (cs := StC ((bodyTo lim vars ts bad body body.length).m.getD z.toNat zSt)) ⟨rfl, rfl, rfl, rfl⟩ rfl Tryz.underlying39 (InfoE.mk (by kernel_rfl)) rfl rfl rfl rfl rfl fun b93 => ?_
                refine GOps.nil ?_
                refine GA.one 6 (by first | exact Hs.toRest _ _ _ _ _ _ | exact Hs.sub (by repeat (first | exact List.Sublist.refl _ | apply List.Sublist.cons | refine List.Sublist.trans ?_ (List.sublist_append_right _ _))) | exact Hs.refl _ | exact Hs.tl _ | exact Hs.tl2 _ _ | exact Hs.tl3 _ _ _ | exact Hs.app _ | exact Hs.sub (by simp)) (by kernel_rfl) rfl ?_
                refine R.append (sz := 11) (bytes := 88) (G1 := [_, _, _, _] ++ Hw) (H := Ho) (news := StC ((bodyTo lim vars ts bad body body.length).m.getD z.toNat zSt)) ⟨rfl, rfl, rfl, rfl⟩ rfl rfl rfl Tryz.underlying39 (InfoE.mk (by kernel_rfl)) (hOq) (rfl) (rfl) (.own (by repeat (first | exact List.mem_cons_self | apply List.mem_cons_of_mem | apply List.mem_append_right | exact List.mem_append_left _ List.mem_cons_self)) 0 _ (fun j v hv => by simpa using hv)) (by omega) (by rfl) (by omega) (by omega) fun v94 H94 hv94 => ?_
                obtain ⟨A94, c94, rfl, hc94⟩ := hv94.split
                refine GOps.nil ?_
                refine GA.one 7 (by first | exact Hs.toRest _ _ _ _ _ _ | exact Hs.sub (by repeat (first | exact List.Sublist.refl _ | apply List.Sublist.cons | refine List.Sublist.trans ?_ (List.sublist_append_right _ _))) | exact Hs.refl _ | exact Hs.tl _ | exact Hs.tl2 _ _ | exact Hs.tl3 _ _ _ | exact Hs.app _ | exact Hs.sub (by simp)) (by kernel_rfl) rfl ?_
                refine R.storeAll (G1 := [_, _, _]) rfl rfl rfl rfl rfl Tryz.sizeOf39 rfl rfl rfl rfl ?_
                refine GOps.nil ?_
                refine GA.done (by first | exact Hs.toRest _ _ _ _ _ _ | exact Hs.sub (by repeat (first | exact List.Sublist.refl _ | apply List.Sublist.cons | refine List.Sublist.trans ?_ (List.sublist_append_right _ _))) | exact Hs.refl _ | exact Hs.tl _ | exact Hs.tl2 _ _ | exact Hs.tl3 _ _ _ | exact Hs.app _ | exact Hs.sub (by simp)) (by kernel_rfl) ?_
                exact ⟨rfl, rfl, (.slice A94 _ c94, H94), (by show SlAt 11 50 (stsC (q.o ++ [((bodyTo lim vars ts bad body body.length).m.getD z.toNat zSt)])) (q.o ++ [((bodyTo lim vars ts bad body body.length).m.getD z.toNat zSt)]).length _ _; rw [sts_app, sts_one, List.length_append]; exact hv94), by repeat (first | exact Keeps.nil _ | refine Keeps.cons rfl ?_), Hs.tl _⟩
              · refine R.buildSliceF (sz := 11) (bytes := 88) (vs := [_]) (cs := StC ((bodyTo lim vars ts bad body body.length).m.getD z.toNat zSt)) ⟨rfl, rfl, rfl, rfl⟩ rfl Tryz.underlying39 (InfoE.mk (by kernel_rfl)) rfl rfl rfl rfl rfl fun b93 => ?_
                refine GOps.nil ?_
                refine GA.one 0 (by first | exact Hs.toRest _ _ _ _ _ _ | exact Hs.sub (by repeat (first | exact List.Sublist.refl _ | apply List.Sublist.cons | refine List.Sublist.trans ?_ (List.sublist_append_right _ _))) | exact Hs.refl _ | exact Hs.tl _ | exact Hs.tl2 _ _ | exact Hs.tl3 _ _ _ | exact Hs.app _ | exact Hs.sub (by simp)) (by kernel_rfl) rfl ?_
                refine R.load1 ⟨rfl, rfl, rfl, rfl⟩ rfl Tryz.underlying39 rfl (.own' (by repeat (first | exact List.mem_cons_self | apply List.mem_cons_of_mem | apply List.mem_append_right)) (by rfl)) ?_
                refine GOps.nil ?_
                refine GA.one 6 (by first | exact Hs.toRest _ _ _ _ _ _ | exact Hs.sub (by repeat (first | exact List.Sublist.refl _ | apply List.Sublist.cons | refine List.Sublist.trans ?_ (List.sublist_append_right _ _))) | exact Hs.refl _ | exact Hs.tl _ | exact Hs.tl2 _ _ | exact Hs.tl3 _ _ _ | exact Hs.app _ | exact Hs.sub (by simp)) (by kernel_rfl) rfl ?_
                refine R.append (sz := 11) (bytes := 88) (G1 := [_, _, _, _] ++ Hw) (H := Ho) (news := StC ((bodyTo lim vars ts bad body body.length).m.getD z.toNat zSt)) ⟨rfl, rfl, rfl, rfl⟩ rfl rfl rfl Tryz.underlying39 (InfoE.mk (by kernel_rfl)) (hOq) (rfl) (rfl) (.own (by repeat (first | exact List.mem_cons_self | apply List.mem_cons_of_mem | apply List.mem_append_right | exact List.mem_append_left _ List.mem_cons_self)) 0 _ (fun j v hv => by simpa using hv)) (by omega) (by rfl) (by omega) (by omega) fun v94 H94 hv94 => ?_
                obtain ⟨A94, c94, rfl, hc94⟩ := hv94.split
                refine GOps.nil ?_
                refine GA.one 7 (by first | exact Hs.toRest _ _ _ _ _ _ | exact Hs.sub (by repeat (first | exact List.Sublist.refl _ | apply List.Sublist.cons | refine List.Sublist.trans ?_ (List.sublist_append_right _ _))) | exact Hs.refl _ | exact Hs.tl _ | exact Hs.tl2 _ _ | exact Hs.tl3 _ _ _ | exact Hs.app _ | exact Hs.sub (by simp)) (by kernel_rfl) rfl ?_
                refine R.storeAll (G1 := [_, _, _]) rfl rfl rfl rfl rfl Tryz.sizeOf39 rfl rfl rfl rfl ?_
                refine GOps.nil ?_
                refine GA.done (by first | exact Hs.toRest _ _ _ _ _ _ | exact Hs.sub (by repeat (first | exact List.Sublist.refl _ | apply List.Sublist.cons | refine List.Sublist.trans ?_ (List.sublist_append_right _ _))) | exact Hs.refl _ | exact Hs.tl _ | exact Hs.tl2 _ _ | exact Hs.tl3 _ _ _ | exact Hs.app _ | exact Hs.sub (by simp)) (by kernel_rfl) ?_
                exact ⟨rfl, rfl, (.slice A94 _ c94, H94), (by show SlAt 11 50 (stsC (q.o ++ [((bodyTo lim vars ts bad body body.length).m.getD z.toNat zSt)])) (q.o ++ [((bodyTo lim vars ts bad body body.length).m.getD z.toNat zSt)]).length _ _; rw [sts_app, sts_one, List.length_append]; exact hv94), by repeat (first | exact Keeps.nil _ | refine Keeps.cons rfl ?_), Hs.tl _⟩
            · rintro ⟨vo2, Ho2⟩ hO2
              simp only at hO2
              refine GW.seq ?_
              refine GW.seq ?_
              refine GW.region ?_
              refine R.move ⟨rfl, rfl, rfl, rfl⟩ rfl ?_
              refine R.move ⟨rfl, rfl, rfl, rfl⟩ rfl ?_
              refine R.indexAddrS ⟨rfl, rfl, rfl, rfl⟩ rfl rfl Tryz.underlying39 Tryz.sizeOf50 (by omega) (by omega) ?_
              refine R.fieldAddr ⟨rfl, rfl, rfl, rfl⟩ rfl Tryz.underlying50 rfl Tryz.sizeOf38 ?_   -- "Row"
              refine R.loadA ⟨rfl, rfl, rfl, rfl⟩ rfl Tryz.underlying38 rfl Tryz.sizeOf38 (row_in (hrs.mono (by intro y hy; show _ ∈ (_ :: _ :: _ :: (_ ++ (_ ++ (_ :: _ :: _ :: (_ ++ (_ ++ _)))))); repeat (first | exact List.mem_append_left _ hy | apply List.mem_cons_of_mem | apply List.mem_append_right)))) (by rfl) ?_
              refine R.move ⟨rfl, rfl, rfl, rfl⟩ rfl ?_
              refine GOps.nil ?_
              refine GW.block ?_
              refine GW.loopI (fun k : Nat => [(7, .slice (some ⟨sb, so, none⟩) (bodyTo lim vars ts bad body body.length).m.length cm), (9, .pointer (some ⟨b9, 0, none⟩)), (15, .pointer (some ⟨b15, 0, none⟩)), (17, .func (.func 63) #[] #[.pointer (some ⟨b8, 0, none⟩), .pointer (some ⟨b16, 0, none⟩), .pointer (some ⟨b9, 0, none⟩)]), (82, .slice (some ⟨zb, zo, none⟩) (ordF (bodyTo lim vars ts bad body body.length).m.length order srt).length cx), (83, .int .i64 (ordF (bodyTo lim vars ts bad body body.length).m.length order srt).length), (84, .int .i64 i), (99, .agg (RwC ((bodyTo lim vars ts bad body body.length).m.getD z.toNat zSt).row).toArray), (100, .int .i64 k)]) (fun k => can b77 b8 b9 (markTo q.kn ((bodyTo lim vars ts bad body body.length).m.getD z.toNat zSt).row k) (vw) (vo2) (Hw) (Ho2) ((b16, .exact (.cells #[.func (.func 61) #[] #[.pointer (some ⟨b15, 0, none⟩)]] 133 (0, 0))) :: (b15, .exact (.cells #[.slice (some ⟨b77, 0, none⟩) vars.length vars.length] 47 (0, 0))) :: (bM, mkC bD A vars.length c (bodyTo lim vars ts bad body body.length).bad) :: (HD2 ++ (Hm ++ (Hx ++ G))))) (fun k => 3 - k) (fun k => k ≤ 3) 0
                (by repeat (first | exact Keeps.nil _ | refine Keeps.cons rfl ?_)) (Hs.refl _) (Nat.zero_le _) ?_
              rintro k hk
              refine GW.seq ?_
              refine GW.region ?_
              refine R.lss ⟨rfl, rfl, rfl, rfl⟩ rfl rfl ?_
              refine GOps.nil ?_
              refine GW.seq ?_
              refine GW.ite rfl (fun hc7 => ?_) (fun hc7 => ?_)
              · try simp only [decide_eq_true_eq, decide_eq_false_iff_not, Bool.not_eq_true', Bool.not_eq_false'] at hc7
                obtain ⟨p, hp, hpm, hpe⟩ := rw_index (r := ((bodyTo lim vars ts bad body body.length).m.getD z.toNat zSt).row) (k := k) (by omega)
                have hpv : p.var < vars.length := hbo.pl _ (List.mem_append_left _ hsm) p (by rw [placesSt_r (.inl (hbo.m1 _ hsm))]; exact hpm)
                refine GW.skip ?_
                refine GW.seq ?_
                refine GW.block ?_
                refine GW.seq ?_
                refine GW.region ?_
                refine R.indexArr (es := (PlC p).toArray) ⟨rfl, rfl, rfl, rfl⟩ rfl rfl Tryz.underlying38 Tryz.underlying37 rfl Tryz.sizeOf37 (by omega) (by omega) (hpe) ?_
                refine R.alloc ⟨rfl, rfl, rfl, rfl⟩ Tryz.zeroValue37 fun b21 => ?_
                refine R.storeAll (G1 := []) rfl rfl rfl rfl rfl Tryz.sizeOf37 rfl rfl rfl rfl ?_
                refine GOps.nil ?_
                refine GW.seq ?_
                refine GW.region ?_
                refine R.fieldAddr ⟨rfl, rfl, rfl, rfl⟩ rfl Tryz.underlying37 rfl Tryz.sizeOf3 ?_   -- "Var"
                refine R.load1 ⟨rfl, rfl, rfl, rfl⟩ rfl Tryz.underlying3 rfl (.own' (by repeat (first | exact List.mem_cons_self | apply List.mem_cons_of_mem | apply List.mem_append_right)) (by rfl)) ?_
                refine R.geq ⟨rfl, rfl, rfl, rfl⟩ rfl rfl ?_
                refine GOps.nil ?_
                refine GW.ite rfl (fun hc8 => ?_) (fun hc8 => ?_)
                · try simp only [decide_eq_true_eq, decide_eq_false_iff_not, Bool.not_eq_true', Bool.not_eq_false'] at hc8
                  refine GW.region ?_
                  refine R.load1 ⟨rfl, rfl, rfl, rfl⟩ rfl Tryz.underlying47 rfl (.own' (by repeat (first | exact List.mem_cons_self | apply List.mem_cons_of_mem | apply List.mem_append_right)) (by rfl)) ?_
                  refine R.fieldAddr ⟨rfl, rfl, rfl, rfl⟩ rfl Tryz.underlying37 rfl Tryz.sizeOf3 ?_   -- "Var"
                  refine R.load1 ⟨rfl, rfl, rfl, rfl⟩ rfl Tryz.underlying3 rfl (.own' (by repeat (first | exact List.mem_cons_self | apply List.mem_cons_of_mem | apply List.mem_append_right)) (by rfl)) ?_
                  refine R.indexAddrS ⟨rfl, rfl, rfl, rfl⟩ rfl rfl Tryz.underlying47 Tryz.sizeOf4 (by omega) (by omega) ?_
                  refine R.store (G1 := [_]) rfl rfl rfl rfl rfl Tryz.sizeOf4 rfl rfl (rfl) (by simp [boolC, markTo_len, hq1.kn]; omega) ?_
                  refine GOps.nil ?_
                  refine GW.region ?_
                  refine R.add (r := (((k + 1) : Nat) : Int)) ⟨rfl, rfl, rfl, rfl⟩ rfl rfl (by rw [wrap64_id (by omega) (by omega)]; omega) ?_
                  refine R.move ⟨rfl, rfl, rfl, rfl⟩ rfl ?_
                  refine GOps.nil ?_
                  first | exact ⟨k + 1, by omega, by omega, rfl, by repeat (first | exact Keeps.nil _ | refine Keeps.cons rfl ?_), (Hs.tl _).trans (Hs.kn (by rw [markTo_succ hp, markP, if_pos (by omega)]; exact mark_put (by rw [markTo_len, hq1.kn]; omega)))⟩ | exact ⟨k + 1, by omega, by omega, rfl, by repeat (first | exact Keeps.nil _ | refine Keeps.cons rfl ?_), (Hs.tl _).trans (Hs.kn (by rw [markTo_succ hp, markP, if_neg (by omega)]))⟩
                · try simp only [decide_eq_true_eq, decide_eq_false_iff_not, Bool.not_eq_true', Bool.not_eq_false'] at hc8
                  refine GW.skip ?_
                  refine GW.region ?_
                  refine R.add (r := (((k + 1) : Nat) : Int)) ⟨rfl, rfl, rfl, rfl⟩ rfl rfl (by rw [wrap64_id (by omega) (by omega)]; omega) ?_
                  refine R.move ⟨rfl, rfl, rfl, rfl⟩ rfl ?_
                  refine GOps.nil ?_
                  first | exact ⟨k + 1, by omega, by omega, rfl, by repeat (first | exact Keeps.nil _ | refine Keeps.cons rfl ?_), (Hs.tl _).trans (Hs.kn (by rw [markTo_succ hp, markP, if_pos (by omega)]; exact mark_put (by rw [markTo_len, hq1.kn]; omega)))⟩ | exact ⟨k + 1, by omega, by omega, rfl, by repeat (first | exact Keeps.nil _ | refine Keeps.cons rfl ?_), (Hs.tl _).trans (Hs.kn (by rw [markTo_succ hp, markP, if_neg (by omega)]))⟩
              · try simp only [decide_eq_true_eq, decide_eq_false_iff_not, Bool.not_eq_true', Bool.not_eq_false'] at hc7
                obtain rfl : k = 3 := by omega
                refine GW.exit ?_
                refine GW.region ?_
                refine R.move ⟨rfl, rfl, rfl, rfl⟩ rfl ?_
                refine R.call ⟨rfl, rfl, rfl, rfl⟩ rfl (vs := []) rfl ((flush_can _ _ _ _ _ _ q.w (q.o ++ [((bodyTo lim vars ts bad body body.length).m.getD z.toNat zSt)]) b8 b16 b9 b15 b77 vars.length (markTo q.kn ((bodyTo lim vars ts bad body body.length).m.getD z.toNat zSt).row 3) (by rw [markTo_len]; exact hq1.kn) (by show _ ∈ (_ :: _ :: _ :: (_ ++ (_ ++ _))); repeat (first | exact List.mem_cons_self | apply List.mem_cons_of_mem | apply List.mem_append_right)) (by show _ ∈ (_ :: _ :: _ :: (_ ++ (_ ++ _))); repeat (first | exact List.mem_cons_self | apply List.mem_cons_of_mem | apply List.mem_append_right)) hWq hO2 (by have := hq1.wl; omega) (by simp; omega) hq1.w).mono ?_)
                rintro _ _ ⟨vw4, Hw4, vo4, Ho4, ⟨rfl, hW4, hO4⟩, rfl⟩
                refine GOps.nil ?_
                refine GW.region ?_
                refine R.add (r := (((i + 1) : Nat) : Int)) ⟨rfl, rfl, rfl, rfl⟩ rfl rfl (by rw [wrap64_id (by omega) (by omega)]; omega) ?_
                refine R.move ⟨rfl, rfl, rfl, rfl⟩ rfl ?_
                refine GOps.nil ?_
                exact ⟨i + 1, takeR (bodyTo lim vars ts bad body body.length).m q z, ((vw4, vo4), (Hw4, Ho4)), (), by omega, ⟨by omega, by rw [runTo_succ hz, ← hq], hW4, hO4⟩, rfl, by repeat (first | exact Keeps.nil _ | refine Keeps.cons rfl ?_), Hs.refl _⟩
          · try simp only [decide_eq_true_eq, decide_eq_false_iff_not, Bool.not_eq_true', Bool.not_eq_false'] at hc6
            obtain rfl : i = (ordF (bodyTo lim vars ts bad body body.length).m.length order srt).length := by omega
            subst hq
            refine GW.exit ?_
            refine GW.seq ?_
            refine GW.region ?_
            refine R.load1 ⟨rfl, rfl, rfl, rfl⟩ rfl Tryz.underlying39 rfl (.own' (by repeat (first | exact List.mem_cons_self | apply List.mem_cons_of_mem | apply List.mem_append_right)) (by rfl)) ?_
            refine R.assign ⟨rfl, rfl, rfl, rfl⟩ rfl ?_
            refine GOps.nil ?_
            exact GW.ret (Out.of (Res.one rfl rfl) (can_end _ _ _ _ _ _ _ _ _ _ _ _) ⟨HD2, Ho, ⟨hOq, hD2⟩, rfl⟩)
end Go.Proofs.YtfddkcmooommeaaGreatDoor.Gl
end
section
namespace Go.Proofs.YtfddkcmooommeaaGreatDoor.Gl
open Go.RowKit Go.Shelf
set_option linter.unusedVariables false
set_option linter.unnecessarySimpa false
set_option linter.unusedSimpArgs false
attribute [-simp] List.getD_eq_getElem?_getD
def planC (h : Rw) (v : Value) (n : Nat) : List Value := [.int .i64 h.p0.var, .int .u32 (h.p0.id : Nat), .int .i64 h.p1.var, .int .u32 (h.p1.id : Nat), .int .i64 h.p2.var, .int .u32 (h.p2.id : Nat), v, .int .i64 (n : Nat)]
structure PRes where
  head : Rw
  steps : List St
  vars : Nat
  e : Int
  ts : List Tm
def planRule (lim : Nat) (ts : List Tm) (r : Rl) (order srt : List Int) : PRes :=
  if ruleE r = 0 then
    if (planSteps lim (dd (allSlots r)) (rowF lim (dd (allSlots r)) (ts, 0) r.head).2.1 (rowF lim (dd (allSlots r)) (ts, 0) r.head).2.2 r.body order srt).2.2 = 0 then ⟨(rowF lim (dd (allSlots r)) (ts, 0) r.head).1, (planSteps lim (dd (allSlots r)) (rowF lim (dd (allSlots r)) (ts, 0) r.head).2.1 (rowF lim (dd (allSlots r)) (ts, 0) r.head).2.2 r.body order srt).1, (dd (allSlots r)).length, 0, (planSteps lim (dd (allSlots r)) (rowF lim (dd (allSlots r)) (ts, 0) r.head).2.1 (rowF lim (dd (allSlots r)) (ts, 0) r.head).2.2 r.body order srt).2.1⟩ else ⟨zRw, [], 0, (planSteps lim (dd (allSlots r)) (rowF lim (dd (allSlots r)) (ts, 0) r.head).2.1 (rowF lim (dd (allSlots r)) (ts, 0) r.head).2.2 r.body order srt).2.2, (planSteps lim (dd (allSlots r)) (rowF lim (dd (allSlots r)) (ts, 0) r.head).2.1 (rowF lim (dd (allSlots r)) (ts, 0) r.head).2.2 r.body order srt).2.1⟩
  else ⟨zRw, [], 0, 2, ts⟩
theorem planRule_bad {lim : Nat} {ts : List Tm} {r : Rl} {order srt : List Int} (h : ¬ ruleE r = 0) : planRule lim ts r order srt = ⟨zRw, [], 0, 2, ts⟩ := by unfold planRule; rw [if_neg h]
theorem planRule_full {lim : Nat} {ts : List Tm} {r : Rl} {order srt : List Int} (h : ruleE r = 0) (h2 : ¬ (planSteps lim (dd (allSlots r)) (rowF lim (dd (allSlots r)) (ts, 0) r.head).2.1 (rowF lim (dd (allSlots r)) (ts, 0) r.head).2.2 r.body order srt).2.2 = 0) : planRule lim ts r order srt = ⟨zRw, [], 0, (planSteps lim (dd (allSlots r)) (rowF lim (dd (allSlots r)) (ts, 0) r.head).2.1 (rowF lim (dd (allSlots r)) (ts, 0) r.head).2.2 r.body order srt).2.2, (planSteps lim (dd (allSlots r)) (rowF lim (dd (allSlots r)) (ts, 0) r.head).2.1 (rowF lim (dd (allSlots r)) (ts, 0) r.head).2.2 r.body order srt).2.1⟩ := by unfold planRule; rw [if_pos h, if_neg h2]
theorem planRule_ok {lim : Nat} {ts : List Tm} {r : Rl} {order srt : List Int} (h : ruleE r = 0) (h2 : (planSteps lim (dd (allSlots r)) (rowF lim (dd (allSlots r)) (ts, 0) r.head).2.1 (rowF lim (dd (allSlots r)) (ts, 0) r.head).2.2 r.body order srt).2.2 = 0) : planRule lim ts r order srt = ⟨(rowF lim (dd (allSlots r)) (ts, 0) r.head).1, (planSteps lim (dd (allSlots r)) (rowF lim (dd (allSlots r)) (ts, 0) r.head).2.1 (rowF lim (dd (allSlots r)) (ts, 0) r.head).2.2 r.body order srt).1, (dd (allSlots r)).length, 0, (planSteps lim (dd (allSlots r)) (rowF lim (dd (allSlots r)) (ts, 0) r.head).2.1 (rowF lim (dd (allSlots r)) (ts, 0) r.head).2.2 r.body order srt).2.1⟩ := by unfold planRule; rw [if_pos h, if_pos h2]
theorem Dic.mem {ts : List Tm} {lim b : Nat} {H : Hp} (h : Dic ts lim b H) : ∃ va ve bt n, (b, dictC lim va ve bt n) ∈ H := by
  obtain ⟨va, ve, Ha, He, bt, k, tab, rfl, _⟩ := h
  exact ⟨va, ve, bt, _, List.mem_cons_self⟩
theorem rule_may {r : Rl} (h : ruleE r = 0) : mayRl r = true := by
  unfold ruleE at h
  cases hm : mayRl r with
  | true => rfl
  | false => rw [hm] at h; cases h
theorem may_slot {s : Sl} (h : maySl s = true) : emp s.v = true → mayT s.t = true := fun he => by
  unfold maySl at h
  rw [he] at h
  exact h
theorem may_pt {p : Pt} (h : mayPt p = true) : ∀ s ∈ sl3 p, emp s.v = true → mayT s.t = true := by
  unfold mayPt at h
  simp only [Bool.and_eq_true] at h
  intro s hs
  simp only [sl3, List.mem_cons, List.not_mem_nil, or_false] at hs
  rcases hs with rfl | rfl | rfl
  · exact may_slot h.1
  · exact may_slot h.2.1
  · exact may_slot h.2.2
theorem may_lt {l : Lt} (h : mayLt l = true) : ∀ s ∈ stepSl l, emp s.v = true → mayT s.t = true := by
  intro s hs
  unfold stepSl at hs
  unfold mayLt at h
  by_cases h1 : l.kind = 1 ∨ l.kind = 2
  · rw [if_pos h1] at hs
    have : (decide (l.kind = 1) || decide (l.kind = 2)) = true := by simpa using h1
    rw [this, cond_true, Bool.and_eq_true] at h
    exact may_pt h.1 s hs
  · rw [if_neg h1] at hs
    have : (decide (l.kind = 1) || decide (l.kind = 2)) = false := by simpa using h1
    rw [this, cond_false] at h
    cases h2 : (decide (l.kind = 3) || decide (l.kind = 4)) with
    | false => rw [h2] at h; cases h
    | true =>
      rw [h2, cond_true, Bool.and_eq_true, Bool.and_eq_true] at h
      simp only [List.mem_cons, List.not_mem_nil, or_false] at hs
      rcases hs with rfl | rfl
      · exact may_slot h.2.1
      · exact may_slot h.2.2
theorem may_head {r : Rl} (h : ruleE r = 0) : ∀ s ∈ sl3 r.head, emp s.v = true → mayT s.t = true := by
  have := rule_may h
  unfold mayRl at this
  rw [Bool.and_eq_true] at this
  exact may_pt this.1
theorem may_body {r : Rl} (h : ruleE r = 0) : ∀ l ∈ r.body, ∀ s ∈ stepSl l, emp s.v = true → mayT s.t = true := by
  have := rule_may h
  unfold mayRl at this
  simp only [Bool.and_eq_true, List.all_eq_true] at this
  exact fun l hl => may_lt (this.2.2 l hl)
theorem Hs.toM1 (x m : Nat × Know) (H G : Hp) : Hs (x :: m :: (H ++ G)) (m :: (H ++ (x :: G))) := Hs.perm (((pm1 x H G).cons m).trans (List.Perm.swap x m _))
theorem Hs.fromM1 (x m : Nat × Know) (H G : Hp) : Hs (m :: (H ++ (x :: G))) (x :: m :: (H ++ G)) := Hs.perm (((pm1 x H G).cons m).trans (List.Perm.swap x m _)).symm
theorem Hs.fromM1o (x m : Nat × Know) (H O G : Hp) : Hs (m :: (H ++ (O ++ (x :: G)))) (x :: m :: (H ++ (O ++ G))) := Hs.perm (by
  have h : (H ++ (O ++ (x :: G))).Perm (x :: (H ++ (O ++ G))) := by
    have h0 := @List.perm_middle _ x (H ++ O) G
    simp only [List.append_assoc] at h0
    exact h0
  exact ((h.cons m).trans (List.Perm.swap x m _)).symm)
theorem Hs.mkRow {bM bD n c : Nat} {A : Option Addr} {bad : Int} (G1 G2 : Hp) : Hs (G1 ++ (bM, mkC bD A n c bad) :: G2) (G1 ++ (bM, .row [.pointer (some ⟨bD, 0, none⟩), .slice A n c] 97 3) :: G2) := fun w0 w hw => Sat.weakKnow hw (fun x hx => by
  simp only [Know.holds] at hx ⊢
  refine ⟨_, hx, rfl, fun j v hv => ?_⟩
  rcases j with _ | _ | j
  · exact hv
  · exact hv
  · simp at hv)
theorem Hs.newMk (m x y : Nat × Know) (V D G : Hp) : Hs (m :: (V ++ (x :: y :: (D ++ G)))) (m :: (D ++ (V ++ (x :: y :: G)))) := Hs.perm (List.Perm.cons m (by
  have h1 : (V ++ (x :: y :: (D ++ G))).Perm (x :: y :: (V ++ (D ++ G))) := pm2 x y V _
  have h2 : (D ++ (V ++ (x :: y :: G))).Perm (x :: y :: (D ++ (V ++ G))) := by
    have := pm2 x y (D ++ V) G
    simp only [List.append_assoc] at this
    exact this
  refine h2.trans ((List.Perm.cons y ?_).cons x |>.trans h1.symm)
  rw [← List.append_assoc, ← List.append_assoc]
  exact List.Perm.append_right _ List.perm_append_comm))
theorem Hs.deep6 (x m y z : Nat × Know) (D O V G : Hp) : Hs (x :: m :: (D ++ (O ++ (V ++ (y :: z :: G))))) (y :: x :: m :: (D ++ (O ++ (V ++ (z :: G))))) := Hs.perm (by
  have h : (D ++ (O ++ (V ++ (y :: z :: G)))).Perm (y :: (D ++ (O ++ (V ++ (z :: G))))) := by
    have h0 := @List.perm_middle _ y (D ++ (O ++ V)) (z :: G)
    simp only [List.append_assoc] at h0
    exact h0
  exact (((h.cons m).trans (List.Perm.swap y m _)).cons x |>.trans (List.Perm.swap y x _)).symm)
theorem Hs.gj11 (y x m : Nat × Know) (D G : Hp) : Hs (y :: x :: m :: (D ++ G)) (m :: G) := Hs.sub ((((List.sublist_append_right D G).cons_cons m).cons x).cons y)
theorem Hs.endY (x m y z : Nat × Know) (D O V G : Hp) : Hs (y :: x :: m :: (D ++ (O ++ (V ++ (z :: G))))) (D ++ (O ++ G)) := Hs.sub ((((((List.Sublist.refl G).cons z).trans (List.sublist_append_right V _)).append_left O).append_left D).cons m |>.cons x |>.cons y)
theorem Hs.endY0 (x m y z : Nat × Know) (D O V G : Hp) : Hs (y :: x :: m :: (D ++ (O ++ (V ++ (z :: G))))) (D ++ ([] ++ G)) := (Hs.endY x m y z D O V G).trans (Hs.sub ((List.sublist_append_right O G).append_left D))
theorem plan_Names (w0 : World) (G : Hp) (r : Rl) (A : Option Addr) (c : Nat) (hl : LtsAt w0 G A r.body) (hm : r.body.length ≤ 100000) : GC Tryz.prog w0 31 #[.agg (RlC r.head (.slice A r.body.length c)).toArray] (fun v G' => ∃ H, SlAt 1 9 ((dd (allSlots r)).map Value.string) (dd (allSlots r)).length v H ∧ H ++ G = G') G := by
  refine GC.body (args := [.agg (RlC r.head (.slice A r.body.length c)).toArray]) Tryz.func31 rfl (by kernel_rfl) rfl ?_
  refine GW.seq ?_
  refine GW.region ?_
  refine R.box ⟨rfl, rfl, rfl, rfl⟩ rfl fun b1 => ?_
  refine R.assign ⟨rfl, rfl, rfl, rfl⟩ rfl ?_
  refine GOps.nil ?_
  refine GW.seq ?_
  refine GW.region ?_
  refine R.load_own (cs := RlC r.head (.slice A r.body.length c)) ⟨rfl, rfl, rfl, rfl⟩ rfl Tryz.underlying31 rfl Tryz.sizeOf31 (by repeat (first | exact List.mem_cons_self | apply List.mem_cons_of_mem | apply List.mem_append_right)) (by rfl) (by rfl) ?_
  refine R.call ⟨rfl, rfl, rfl, rfl⟩ rfl (vs := [_]) rfl ((check_Vars _ _ r A c (hl.mono (sub_cons _)) hm).mono ?_)
  rintro v4 _ ⟨H4, h4, rfl⟩
  refine R.assign ⟨rfl, rfl, rfl, rfl⟩ rfl ?_
  refine GOps.nil ?_
  exact GW.ret (Out.of (Res.one rfl rfl) (Hs.app1 _ _ _) ⟨H4, h4, rfl⟩)
theorem plan_Rule (w0 : World) (G : Hp) (HD : Hp) (ts : List Tm) (lim bD : Nat) (hD : Dic ts lim bD HD) (r : Rl) (bA : Option Addr) (bc : Nat) (hl : LtsAt w0 G bA r.body) (hbl : r.body.length ≤ 1000) (hok : RlOk r)
    (oA : Option Addr) (order srt : List Int) (oc : Nat) (ho : IntsAt w0 G oA order) (hol : order.length ≤ 1000) (hsl : srt.length ≤ 1000) (hmem : ∀ z ∈ order, z ∈ srt)
    (hS : ∀ (b1 : Nat) (G0 : Hp), (b1, Know.exact (.cells #[.slice oA order.length oc] 32 (0, 0))) ∈ G0 → IntsAt w0 G0 oA order → GC Tryz.prog w0 57 #[.func (.func 89) #[] #[.pointer (some ⟨b1, 0, none⟩)]] (fun v G' => ∃ H, SlAt 1 3 (zC srt) srt.length v H ∧ H ++ G0 = G') G0) :
    GC Tryz.prog w0 10 #[.pointer (some ⟨bD, 0, none⟩), .agg (RlC r.head (.slice bA r.body.length bc)).toArray, .slice oA order.length oc] (fun v G' => ∃ vs Ho HD', (v = .tuple #[.agg (planC (planRule lim ts r order srt).head vs (planRule lim ts r order srt).vars).toArray, .int .i64 (planRule lim ts r order srt).e] ∧ SlAt 11 50 (stsC (planRule lim ts r order srt).steps) (planRule lim ts r order srt).steps.length vs Ho ∧ Dic (planRule lim ts r order srt).ts lim bD HD') ∧ HD' ++ (Ho ++ G) = G') (HD ++ G) := by
  obtain ⟨va, ve, bt, nk, hmD⟩ := hD.mem
  have hvl : (dd (allSlots r)).length ≤ 3 + 3 * r.body.length := Nat.le_trans (dd_len _) (allTake_len r r.body.length).2
  refine GC.body (args := [.pointer (some ⟨bD, 0, none⟩), .agg (RlC r.head (.slice bA r.body.length bc)).toArray, .slice oA order.length oc]) Tryz.func10 rfl (by kernel_rfl) rfl ?_
  refine GW.seq ?_
  refine GW.region ?_
  refine R.box ⟨rfl, rfl, rfl, rfl⟩ rfl fun b4 => ?_
  refine R.alloc ⟨rfl, rfl, rfl, rfl⟩ Tryz.zeroValue41 fun b6 => ?_
  refine R.assign ⟨rfl, rfl, rfl, rfl⟩ rfl ?_
  refine GOps.nil ?_
  refine GW.seq ?_
  refine GW.seq ?_
  refine GW.region ?_
  refine R.move ⟨rfl, rfl, rfl, rfl⟩ rfl ?_
  refine R.build (vs := []) (cells := #[.int .i64 0, .string (ByteArray.mk #[]), .string (ByteArray.mk #[])]) ⟨rfl, rfl, rfl, rfl⟩ rfl (fun w => run_build w 24 _ _ (by kernel_rfl)) ?_
  refine R.call ⟨rfl, rfl, rfl, rfl⟩ rfl (vs := [_, _]) rfl ((int_zero _ _ va ve bD bt lim nk (List.mem_cons_of_mem _ (List.mem_cons_of_mem _ (List.mem_append_left _ hmD)))).mono ?_)
  rintro _ _ ⟨rfl, rfl⟩
  refine R.move ⟨rfl, rfl, rfl, rfl⟩ rfl ?_
  refine R.extract ⟨rfl, rfl, rfl, rfl⟩ rfl rfl ?_
  refine R.extract ⟨rfl, rfl, rfl, rfl⟩ rfl rfl ?_
  refine R.assign ⟨rfl, rfl, rfl, rfl⟩ rfl ?_
  refine R.assign ⟨rfl, rfl, rfl, rfl⟩ rfl ?_
  refine GOps.nil ?_
  refine GW.seq ?_
  refine GW.region ?_
  refine R.move ⟨rfl, rfl, rfl, rfl⟩ rfl ?_
  refine R.eqI ⟨rfl, rfl, rfl, rfl⟩ rfl rfl ?_
  refine GOps.nil ?_
  refine GW.cond_f rfl ?_
  refine GW.skip ?_
  refine GW.seq ?_
  refine GW.seq ?_
  refine GW.region ?_
  refine R.load_own (cs := RlC r.head (.slice bA r.body.length bc)) ⟨rfl, rfl, rfl, rfl⟩ rfl Tryz.underlying31 rfl Tryz.sizeOf31 (by repeat (first | exact List.mem_cons_self | apply List.mem_cons_of_mem | apply List.mem_append_right)) (by rfl) (by rfl) ?_
  refine R.call ⟨rfl, rfl, rfl, rfl⟩ rfl (vs := [_]) rfl ((check_Rule _ _ r bA bc (hl.mono (fun y hy => by repeat (first | exact hy | apply List.mem_cons_of_mem | apply List.mem_append_right))) (by omega) hok).mono ?_)
  rintro _ _ ⟨rfl, rfl⟩
  rw [chk_eq]
  refine R.neI ⟨rfl, rfl, rfl, rfl⟩ rfl rfl ?_
  refine GOps.nil ?_
  refine GW.ite rfl (fun hc1 => ?_) (fun hc1 => ?_)
  · try simp only [decide_eq_true_eq, decide_eq_false_iff_not, Bool.not_eq_true', Bool.not_eq_false'] at hc1
    have hr0 : ¬ ruleE r = 0 := hc1
    refine GW.seq ?_
    refine GW.region ?_
    refine R.build (vs := []) (cells := (planC zRw (.slice none 0 0) 0).toArray) ⟨rfl, rfl, rfl, rfl⟩ rfl (fun w => run_build w 41 _ _ (by kernel_rfl)) ?_
    refine R.storeAll (G1 := []) rfl rfl rfl rfl rfl Tryz.sizeOf41 rfl rfl rfl rfl ?_
    refine R.assign ⟨rfl, rfl, rfl, rfl⟩ rfl ?_
    refine GOps.nil ?_
    first | (rw [planRule_bad hr0]; exact GW.ret (Out.of (resCellTmp rfl rfl rfl Tryz.underlying41 rfl Tryz.sizeOf41 (Rds.own (C := (planC zRw (.slice none 0 0) 0).toArray) (by repeat (first | exact List.mem_cons_self | apply List.mem_cons_of_mem | apply List.mem_append_right | exact List.mem_append_left _ List.mem_cons_self)) 0 (planC zRw (.slice none 0 0) 0) (fun j v hv => by simpa using hv)) rfl) (Hs.tl2 _ _) ⟨.slice none 0 0, [], HD, ⟨rfl, .nil rfl rfl, hD⟩, rfl⟩)) | (rw [planRule_full hr0 (by first | assumption | omega)]; exact GW.ret (Out.of (resCellTmp rfl rfl rfl Tryz.underlying41 rfl Tryz.sizeOf41 (Rds.own (C := (planC zRw (.slice none 0 0) 0).toArray) (by repeat (first | exact List.mem_cons_self | apply List.mem_cons_of_mem | apply List.mem_append_right | exact List.mem_append_left _ List.mem_cons_self)) 0 (planC zRw (.slice none 0 0) 0) (fun j v hv => by simpa using hv)) rfl) (Hs.endY0 _ _ _ _ _ _ _ _) ⟨.slice none 0 0, [], HD3, ⟨rfl, .nil rfl rfl, hD3⟩, rfl⟩)) | (rw [planRule_ok hr0 (by first | assumption | omega)]; exact GW.ret (Out.of (resCellTmp rfl rfl rfl Tryz.underlying41 rfl Tryz.sizeOf41 (Rds.own (C := (planC (rowF lim (dd (allSlots r)) (ts, 0) r.head).1 (.slice A48 (planSteps lim (dd (allSlots r)) (rowF lim (dd (allSlots r)) (ts, 0) r.head).2.1 (rowF lim (dd (allSlots r)) (ts, 0) r.head).2.2 r.body order srt).1.length c48) (dd (allSlots r)).length).toArray) (by repeat (first | exact List.mem_cons_self | apply List.mem_cons_of_mem | apply List.mem_append_right | exact List.mem_append_left _ List.mem_cons_self)) 0 (planC (rowF lim (dd (allSlots r)) (ts, 0) r.head).1 (.slice A48 (planSteps lim (dd (allSlots r)) (rowF lim (dd (allSlots r)) (ts, 0) r.head).2.1 (rowF lim (dd (allSlots r)) (ts, 0) r.head).2.2 r.body order srt).1.length c48) (dd (allSlots r)).length) (fun j v hv => by simpa using hv)) rfl) (Hs.endY _ _ _ _ _ _ _ _) ⟨.slice A48 _ c48, Ho, HD3, ⟨rfl, hst, hD3⟩, rfl⟩))
  · try simp only [decide_eq_true_eq, decide_eq_false_iff_not, Bool.not_eq_true', Bool.not_eq_false'] at hc1
    have hr0 : ruleE r = 0 := by omega
    refine GW.skip ?_
    refine GW.cutX (fun a : (Option Addr × Nat × Nat) × Hp => [(2, .slice oA order.length oc), (4, .pointer (some ⟨b4, 0, none⟩)), (6, .pointer (some ⟨b6, 0, none⟩)), (10, .pointer (some ⟨a.1.2.1, 0, none⟩))]) (fun a : (Option Addr × Nat × Nat) × Hp => (a.1.2.1, mkC bD a.1.1 (dd (allSlots r)).length a.1.2.2 0) :: (HD ++ (a.2 ++ ((b6, .exact (.cells (planC zRw (.slice none 0 0) 0).toArray 41 (0, 0))) :: (b4, .exact (.cells (Value.agg (RlC r.head (.slice bA r.body.length bc)).toArray).cells 31 (0, 0))) :: G)))) (fun a : (Option Addr × Nat × Nat) × Hp => StAt w0 (a.2 ++ []) a.1.1 (dd (allSlots r))) ?_ ?_
    · refine GW.region ?_
      refine R.move ⟨rfl, rfl, rfl, rfl⟩ rfl ?_
      refine R.load_own (cs := RlC r.head (.slice bA r.body.length bc)) ⟨rfl, rfl, rfl, rfl⟩ rfl Tryz.underlying31 rfl Tryz.sizeOf31 (by repeat (first | exact List.mem_cons_self | apply List.mem_cons_of_mem | apply List.mem_append_right)) (by rfl) (by rfl) ?_
      refine R.call ⟨rfl, rfl, rfl, rfl⟩ rfl (vs := [_]) rfl ((plan_Names _ _ r bA bc (hl.mono (fun y hy => by repeat (first | exact hy | apply List.mem_cons_of_mem | apply List.mem_append_right))) (by omega)).mono ?_)
      rintro v29 _ ⟨Hv, hv29, rfl⟩
      obtain ⟨Av, cv, rfl, hvs⟩ := hv29.strs w0 []
      refine R.build (vs := [(0, _), (1, _)]) (cells := #[.pointer (some ⟨bD, 0, none⟩), .slice Av (dd (allSlots r)).length cv, .int .i64 0]) ⟨rfl, rfl, rfl, rfl⟩ rfl (fun w => run_build w 97 _ _ (by kernel_rfl)) ?_
      refine R.box ⟨rfl, rfl, rfl, rfl⟩ rfl fun b31 => ?_
      refine R.assign ⟨rfl, rfl, rfl, rfl⟩ rfl ?_
      refine GOps.nil ?_
      exact ⟨rfl, rfl, ((Av, b31, cv), Hv), hvs, by repeat (first | exact Keeps.nil _ | refine Keeps.cons rfl ?_), Hs.newMk _ _ _ _ _ _⟩
    · rintro ⟨⟨Av, b31, cv⟩, Hv⟩ hvs
      simp only at hvs
      refine GW.seq ?_
      refine GW.region ?_
      refine R.move ⟨rfl, rfl, rfl, rfl⟩ rfl ?_
      refine R.makeFunc (vs := [_]) (us := []) ⟨rfl, rfl, rfl, rfl⟩ rfl rfl ?_
      refine R.assign ⟨rfl, rfl, rfl, rfl⟩ rfl ?_
      refine GOps.nil ?_
      refine GW.cutX (fun a : Nat × Hp => [(2, .slice oA order.length oc), (4, .pointer (some ⟨b4, 0, none⟩)), (6, .pointer (some ⟨b6, 0, none⟩)), (10, .pointer (some ⟨b31, 0, none⟩)), (12, .pointer (some ⟨a.1, 0, none⟩))]) (fun a : Nat × Hp => (a.1, .exact (.cells (planC (rowF lim (dd (allSlots r)) (ts, 0) r.head).1 (.slice none 0 0) (dd (allSlots r)).length).toArray 41 (0, 0))) :: (b31, mkC bD Av (dd (allSlots r)).length cv (rowF lim (dd (allSlots r)) (ts, 0) r.head).2.2) :: (a.2 ++ (Hv ++ ((b6, .exact (.cells (planC zRw (.slice none 0 0) 0).toArray 41 (0, 0))) :: (b4, .exact (.cells (Value.agg (RlC r.head (.slice bA r.body.length bc)).toArray).cells 31 (0, 0))) :: G)))) (fun a : Nat × Hp => Dic (rowF lim (dd (allSlots r)) (ts, 0) r.head).2.1 lim bD a.2) ?_ ?_
      · refine GW.draw ((b31, .row [.pointer (some ⟨bD, 0, none⟩), .slice Av (dd (allSlots r)).length cv] 97 3) :: (Hv ++ ((b6, .exact (.cells (planC zRw (.slice none 0 0) 0).toArray 41 (0, 0))) :: (b4, .exact (.cells (Value.agg (RlC r.head (.slice bA r.body.length bc)).toArray).cells 31 (0, 0))) :: G))) 12 rfl (by kernel_rfl) ?_
        refine GA.val 0 rfl (V.move ⟨rfl, rfl, rfl, rfl⟩ rfl) rfl (by kernel_rfl) (by kernel_rfl) (by kernel_rfl) ?_
        refine GA.val 1 rfl (V.fieldAddr ⟨rfl, rfl, rfl, rfl⟩ rfl Tryz.underlying31 rfl Tryz.sizeOf28) rfl (by kernel_rfl) (by kernel_rfl) (by kernel_rfl) ?_   -- "Head"
        refine GA.val 2 rfl (V.load_own (cs := PtC r.head) ⟨rfl, rfl, rfl, rfl⟩ rfl Tryz.underlying28 rfl Tryz.sizeOf28 (by repeat (first | exact List.mem_cons_self | apply List.mem_cons_of_mem | apply List.mem_append_right)) (by rfl) (by rfl)) rfl (by kernel_rfl) (by kernel_rfl) (by kernel_rfl) ?_
        refine GA.val 4 rfl (V.move ⟨rfl, rfl, rfl, rfl⟩ rfl) rfl (by kernel_rfl) (by kernel_rfl) (by kernel_rfl) ?_
        refine GA.val 5 rfl (V.nilCheck ⟨rfl, rfl, rfl, rfl⟩ rfl) rfl (by kernel_rfl) (by kernel_rfl) (by kernel_rfl) ?_
        refine GA.val 6 rfl (V.fieldAddr ⟨rfl, rfl, rfl, rfl⟩ rfl Tryz.underlying97 rfl Tryz.sizeOf61) rfl (by kernel_rfl) (by kernel_rfl) (by kernel_rfl) ?_   -- "vars"
        refine GA.val 7 rfl (V.load1 ⟨rfl, rfl, rfl, rfl⟩ rfl Tryz.underlying61 rfl (.own (by repeat (first | exact List.mem_cons_self | apply List.mem_cons_of_mem | apply List.mem_append_right | exact List.mem_append_left _ List.mem_cons_self)) rfl)) rfl (by kernel_rfl) (by kernel_rfl) (by kernel_rfl) ?_
        refine GA.val 8 rfl (V.lenS ⟨rfl, rfl, rfl, rfl⟩ rfl rfl Tryz.underlying61) rfl (by kernel_rfl) (by kernel_rfl) (by kernel_rfl) ?_
        refine GA.two 3 10 (by first | exact (Hs.mkRow [] _).trans (Hs.sub ((List.sublist_append_right _ _).cons_cons _)) | exact (Hs.tl _).trans ((Hs.mkRow [] _).trans (Hs.sub ((List.sublist_append_right _ _).cons_cons _))) | exact Hs.gj11 _ _ _ _ _ | exact Hs.refl _ | exact Hs.tl _ | exact Hs.tl2 _ _ | exact Hs.tl3 _ _ _ | exact Hs.app _ | exact Hs.sub (by simp)) (by kernel_rfl) rfl rfl ?_ ?_
        · first | refine GOps.weak (Keeps.refl _) (Hs.toM1 _ _ _ _) ?_ | skip
          refine R.call ⟨rfl, rfl, rfl, rfl⟩ rfl (vs := [_]) rfl ((plan_row _ _ HD ts lim bD b31 cv Av (dd (allSlots r)) 0 hD (hvs.mono (fun y hy => by rw [List.append_nil] at hy; repeat (first | exact List.mem_append_left _ hy | apply List.mem_cons_of_mem | apply List.mem_append_right))) (by omega) r.head (may_head hr0)).mono ?_)
          rintro _ _ ⟨HD2, ⟨rfl, hD2⟩, rfl⟩
          first | refine GOps.weak (Keeps.refl _) (Hs.fromM1 _ _ _ _) ?_ | skip
          refine GOps.nil ?_
          refine GA.val 9 rfl (V.build (vs := [(0, _), (2, _)]) (cells := (planC (rowF lim (dd (allSlots r)) (ts, 0) r.head).1 (.slice none 0 0) (dd (allSlots r)).length).toArray) ⟨rfl, rfl, rfl, rfl⟩ rfl (fun w => run_build w 41 _ _ (by kernel_rfl))) rfl (by kernel_rfl) (by kernel_rfl) (by kernel_rfl) ?_
          refine GA.one 10 (by first | exact (Hs.mkRow [] _).trans (Hs.sub ((List.sublist_append_right _ _).cons_cons _)) | exact (Hs.tl _).trans ((Hs.mkRow [] _).trans (Hs.sub ((List.sublist_append_right _ _).cons_cons _))) | exact Hs.gj11 _ _ _ _ _ | exact Hs.refl _ | exact Hs.tl _ | exact Hs.tl2 _ _ | exact Hs.tl3 _ _ _ | exact Hs.app _ | exact Hs.sub (by simp)) (by kernel_rfl) rfl ?_
          refine R.alloc ⟨rfl, rfl, rfl, rfl⟩ Tryz.zeroValue41 fun b12 => ?_
          refine GOps.nil ?_
          refine GA.one 11 (by first | exact (Hs.mkRow [] _).trans (Hs.sub ((List.sublist_append_right _ _).cons_cons _)) | exact (Hs.tl _).trans ((Hs.mkRow [] _).trans (Hs.sub ((List.sublist_append_right _ _).cons_cons _))) | exact Hs.gj11 _ _ _ _ _ | exact Hs.refl _ | exact Hs.tl _ | exact Hs.tl2 _ _ | exact Hs.tl3 _ _ _ | exact Hs.app _ | exact Hs.sub (by simp)) (by kernel_rfl) rfl ?_
          refine R.storeAll (G1 := []) rfl rfl rfl rfl rfl Tryz.sizeOf41 rfl rfl rfl rfl ?_
          refine GOps.nil ?_
          refine GA.done (by first | exact (Hs.mkRow [] _).trans (Hs.sub ((List.sublist_append_right _ _).cons_cons _)) | exact (Hs.tl _).trans ((Hs.mkRow [] _).trans (Hs.sub ((List.sublist_append_right _ _).cons_cons _))) | exact Hs.gj11 _ _ _ _ _ | exact Hs.refl _ | exact Hs.tl _ | exact Hs.tl2 _ _ | exact Hs.tl3 _ _ _ | exact Hs.app _ | exact Hs.sub (by simp)) (by kernel_rfl) ?_
          exact ⟨rfl, rfl, (b12, HD2), hD2, by repeat (first | exact Keeps.nil _ | refine Keeps.cons rfl ?_), Hs.refl _⟩
        · refine R.alloc ⟨rfl, rfl, rfl, rfl⟩ Tryz.zeroValue41 fun b12 => ?_
          refine GOps.nil ?_
          refine GA.one 3 (by first | exact (Hs.mkRow [] _).trans (Hs.sub ((List.sublist_append_right _ _).cons_cons _)) | exact (Hs.tl _).trans ((Hs.mkRow [] _).trans (Hs.sub ((List.sublist_append_right _ _).cons_cons _))) | exact Hs.gj11 _ _ _ _ _ | exact Hs.refl _ | exact Hs.tl _ | exact Hs.tl2 _ _ | exact Hs.tl3 _ _ _ | exact Hs.app _ | exact Hs.sub (by simp)) (by kernel_rfl) rfl ?_
          first | refine GOps.weak (Keeps.refl _) (Hs.toM1 _ _ _ _) ?_ | skip
          refine R.call ⟨rfl, rfl, rfl, rfl⟩ rfl (vs := [_]) rfl ((plan_row _ _ HD ts lim bD b31 cv Av (dd (allSlots r)) 0 hD (hvs.mono (fun y hy => by rw [List.append_nil] at hy; repeat (first | exact List.mem_append_left _ hy | apply List.mem_cons_of_mem | apply List.mem_append_right))) (by omega) r.head (may_head hr0)).mono ?_)
          rintro _ _ ⟨HD2, ⟨rfl, hD2⟩, rfl⟩
          first | refine GOps.weak (Keeps.refl _) (Hs.fromM1 _ _ _ _) ?_ | skip
          refine GOps.nil ?_
          refine GA.val 9 rfl (V.build (vs := [(0, _), (2, _)]) (cells := (planC (rowF lim (dd (allSlots r)) (ts, 0) r.head).1 (.slice none 0 0) (dd (allSlots r)).length).toArray) ⟨rfl, rfl, rfl, rfl⟩ rfl (fun w => run_build w 41 _ _ (by kernel_rfl))) rfl (by kernel_rfl) (by kernel_rfl) (by kernel_rfl) ?_
          refine GA.one 11 (by first | exact (Hs.mkRow [] _).trans (Hs.sub ((List.sublist_append_right _ _).cons_cons _)) | exact (Hs.tl _).trans ((Hs.mkRow [] _).trans (Hs.sub ((List.sublist_append_right _ _).cons_cons _))) | exact Hs.gj11 _ _ _ _ _ | exact Hs.refl _ | exact Hs.tl _ | exact Hs.tl2 _ _ | exact Hs.tl3 _ _ _ | exact Hs.app _ | exact Hs.sub (by simp)) (by kernel_rfl) rfl ?_
          refine R.storeAll (G1 := []) rfl rfl rfl rfl rfl Tryz.sizeOf41 rfl rfl rfl rfl ?_
          refine GOps.nil ?_
          refine GA.done (by first | exact (Hs.mkRow [] _).trans (Hs.sub ((List.sublist_append_right _ _).cons_cons _)) | exact (Hs.tl _).trans ((Hs.mkRow [] _).trans (Hs.sub ((List.sublist_append_right _ _).cons_cons _))) | exact Hs.gj11 _ _ _ _ _ | exact Hs.refl _ | exact Hs.tl _ | exact Hs.tl2 _ _ | exact Hs.tl3 _ _ _ | exact Hs.app _ | exact Hs.sub (by simp)) (by kernel_rfl) ?_
          exact ⟨rfl, rfl, (b12, HD2), hD2, by repeat (first | exact Keeps.nil _ | refine Keeps.cons rfl ?_), Hs.refl _⟩
      · rintro ⟨b12, HD2⟩ hD2
        simp only at hD2
        refine GW.seq ?_
        refine GW.region ?_
        refine R.move ⟨rfl, rfl, rfl, rfl⟩ rfl ?_
        refine R.fieldAddr ⟨rfl, rfl, rfl, rfl⟩ rfl Tryz.underlying31 rfl Tryz.sizeOf29 ?_   -- "Body"
        refine R.load1 ⟨rfl, rfl, rfl, rfl⟩ rfl Tryz.underlying29 rfl (.own (by repeat (first | exact List.mem_cons_self | apply List.mem_cons_of_mem | apply List.mem_append_right | exact List.mem_append_left _ List.mem_cons_self)) rfl) ?_
        refine R.move ⟨rfl, rfl, rfl, rfl⟩ rfl ?_
        refine GOps.weak (Keeps.refl _) (Hs.toM1 _ _ _ _) ?_
        refine R.call ⟨rfl, rfl, rfl, rfl⟩ rfl (vs := [_, _, _]) rfl ((plan_steps _ _ HD2 (rowF lim (dd (allSlots r)) (ts, 0) r.head).2.1 lim bD b31 cv Av (dd (allSlots r)) (rowF lim (dd (allSlots r)) (ts, 0) r.head).2.2 hD2 (hvs.mono (fun y hy => by rw [List.append_nil] at hy; repeat (first | exact List.mem_append_left _ hy | apply List.mem_cons_of_mem | apply List.mem_append_right))) (by omega) bA r.body bc (hl.mono (fun y hy => by repeat (first | exact hy | apply List.mem_cons_of_mem | apply List.mem_append_right))) hbl (may_body hr0) oA order srt oc (ho.mono (fun y hy => by repeat (first | exact hy | apply List.mem_cons_of_mem | apply List.mem_append_right))) hol hsl hmem hS).mono ?_)
        rintro v48 _ ⟨HD3, Ho, ⟨hst, hD3⟩, rfl⟩
        refine GOps.weak (Keeps.refl _) (Hs.fromM1o _ _ _ _ _) ?_
        obtain ⟨A48, c48, rfl, hc48⟩ := hst.split
        refine R.fieldAddr ⟨rfl, rfl, rfl, rfl⟩ rfl Tryz.underlying41 rfl Tryz.sizeOf39 ?_   -- "Steps"
        refine R.store (G1 := []) rfl rfl rfl rfl rfl Tryz.sizeOf39 rfl rfl (rfl) (Nat.le_of_ble_eq_true rfl) ?_
        refine GOps.nil ?_
        refine GW.seq ?_
        refine GW.seq ?_
        refine GW.region ?_
        refine R.move ⟨rfl, rfl, rfl, rfl⟩ rfl ?_
        refine R.nilCheck ⟨rfl, rfl, rfl, rfl⟩ rfl ?_
        refine R.fieldAddr ⟨rfl, rfl, rfl, rfl⟩ rfl Tryz.underlying97 rfl Tryz.sizeOf42 ?_   -- "bad"
        refine R.load1 ⟨rfl, rfl, rfl, rfl⟩ rfl Tryz.underlying42 rfl (.own' (by repeat (first | exact List.mem_cons_self | apply List.mem_cons_of_mem | apply List.mem_append_right)) (by rfl)) ?_
        refine R.neI ⟨rfl, rfl, rfl, rfl⟩ rfl rfl ?_
        refine GOps.nil ?_
        refine GW.ite rfl (fun hc2 => ?_) (fun hc2 => ?_)
        · try simp only [decide_eq_true_eq, decide_eq_false_iff_not, Bool.not_eq_true', Bool.not_eq_false'] at hc2
          refine GW.weak (Keeps.refl _) (Hs.deep6 _ _ _ _ _ _ _ _) ?_
          refine GW.seq ?_
          refine GW.draw ((b31, mkC bD Av (dd (allSlots r)).length cv (planSteps lim (dd (allSlots r)) (rowF lim (dd (allSlots r)) (ts, 0) r.head).2.1 (rowF lim (dd (allSlots r)) (ts, 0) r.head).2.2 r.body order srt).2.2) :: (Ho ++ (Hv ++ ((b4, .exact (.cells (Value.agg (RlC r.head (.slice bA r.body.length bc)).toArray).cells 31 (0, 0))) :: G)))) 7 rfl (by kernel_rfl) ?_
          refine GA.val 0 rfl (V.build (vs := []) (cells := (planC zRw (.slice none 0 0) 0).toArray) ⟨rfl, rfl, rfl, rfl⟩ rfl (fun w => run_build w 41 _ _ (by kernel_rfl))) rfl (by kernel_rfl) (by kernel_rfl) (by kernel_rfl) ?_
          refine GA.val 1 rfl (V.move ⟨rfl, rfl, rfl, rfl⟩ rfl) rfl (by kernel_rfl) (by kernel_rfl) (by kernel_rfl) ?_
          refine GA.val 2 rfl (V.nilCheck ⟨rfl, rfl, rfl, rfl⟩ rfl) rfl (by kernel_rfl) (by kernel_rfl) (by kernel_rfl) ?_
          refine GA.val 3 rfl (V.fieldAddr ⟨rfl, rfl, rfl, rfl⟩ rfl Tryz.underlying97 rfl Tryz.sizeOf42) rfl (by kernel_rfl) (by kernel_rfl) (by kernel_rfl) ?_   -- "bad"
          refine GA.val 4 rfl (V.load1 ⟨rfl, rfl, rfl, rfl⟩ rfl Tryz.underlying42 rfl (.own' (by repeat (first | exact List.mem_cons_self | apply List.mem_cons_of_mem | apply List.mem_append_right)) (by rfl))) rfl (by kernel_rfl) (by kernel_rfl) (by kernel_rfl) ?_
          refine GA.one 5 (by first | exact (Hs.mkRow [] _).trans (Hs.sub ((List.sublist_append_right _ _).cons_cons _)) | exact (Hs.tl _).trans ((Hs.mkRow [] _).trans (Hs.sub ((List.sublist_append_right _ _).cons_cons _))) | exact Hs.gj11 _ _ _ _ _ | exact Hs.refl _ | exact Hs.tl _ | exact Hs.tl2 _ _ | exact Hs.tl3 _ _ _ | exact Hs.app _ | exact Hs.sub (by simp)) (by kernel_rfl) rfl ?_
          refine R.storeAll (G1 := []) rfl rfl rfl rfl rfl Tryz.sizeOf41 rfl rfl rfl rfl ?_
          refine GOps.nil ?_
          refine GA.val 6 rfl (V.assign ⟨rfl, rfl, rfl, rfl⟩ rfl) rfl (by kernel_rfl) (by kernel_rfl) (by kernel_rfl) ?_
          refine GA.done (by first | exact (Hs.mkRow [] _).trans (Hs.sub ((List.sublist_append_right _ _).cons_cons _)) | exact (Hs.tl _).trans ((Hs.mkRow [] _).trans (Hs.sub ((List.sublist_append_right _ _).cons_cons _))) | exact Hs.gj11 _ _ _ _ _ | exact Hs.refl _ | exact Hs.tl _ | exact Hs.tl2 _ _ | exact Hs.tl3 _ _ _ | exact Hs.app _ | exact Hs.sub (by simp)) (by kernel_rfl) ?_
          first | (rw [planRule_bad hr0]; exact GW.ret (Out.of (resCellTmp rfl rfl rfl Tryz.underlying41 rfl Tryz.sizeOf41 (Rds.own (C := (planC zRw (.slice none 0 0) 0).toArray) (by repeat (first | exact List.mem_cons_self | apply List.mem_cons_of_mem | apply List.mem_append_right | exact List.mem_append_left _ List.mem_cons_self)) 0 (planC zRw (.slice none 0 0) 0) (fun j v hv => by simpa using hv)) rfl) (Hs.tl2 _ _) ⟨.slice none 0 0, [], HD, ⟨rfl, .nil rfl rfl, hD⟩, rfl⟩)) | (rw [planRule_full hr0 (by first | assumption | omega)]; exact GW.ret (Out.of (resCellTmp rfl rfl rfl Tryz.underlying41 rfl Tryz.sizeOf41 (Rds.own (C := (planC zRw (.slice none 0 0) 0).toArray) (by repeat (first | exact List.mem_cons_self | apply List.mem_cons_of_mem | apply List.mem_append_right | exact List.mem_append_left _ List.mem_cons_self)) 0 (planC zRw (.slice none 0 0) 0) (fun j v hv => by simpa using hv)) rfl) (Hs.endY0 _ _ _ _ _ _ _ _) ⟨.slice none 0 0, [], HD3, ⟨rfl, .nil rfl rfl, hD3⟩, rfl⟩)) | (rw [planRule_ok hr0 (by first | assumption | omega)]; exact GW.ret (Out.of (resCellTmp rfl rfl rfl Tryz.underlying41 rfl Tryz.sizeOf41 (Rds.own (C := (planC (rowF lim (dd (allSlots r)) (ts, 0) r.head).1 (.slice A48 (planSteps lim (dd (allSlots r)) (rowF lim (dd (allSlots r)) (ts, 0) r.head).2.1 (rowF lim (dd (allSlots r)) (ts, 0) r.head).2.2 r.body order srt).1.length c48) (dd (allSlots r)).length).toArray) (by repeat (first | exact List.mem_cons_self | apply List.mem_cons_of_mem | apply List.mem_append_right | exact List.mem_append_left _ List.mem_cons_self)) 0 (planC (rowF lim (dd (allSlots r)) (ts, 0) r.head).1 (.slice A48 (planSteps lim (dd (allSlots r)) (rowF lim (dd (allSlots r)) (ts, 0) r.head).2.1 (rowF lim (dd (allSlots r)) (ts, 0) r.head).2.2 r.body order srt).1.length c48) (dd (allSlots r)).length) (fun j v hv => by simpa using hv)) rfl) (Hs.endY _ _ _ _ _ _ _ _) ⟨.slice A48 _ c48, Ho, HD3, ⟨rfl, hst, hD3⟩, rfl⟩))
        · try simp only [decide_eq_true_eq, decide_eq_false_iff_not, Bool.not_eq_true', Bool.not_eq_false'] at hc2
          refine GW.weak (Keeps.refl _) (Hs.deep6 _ _ _ _ _ _ _ _) ?_
          refine GW.skip ?_
          refine GW.seq ?_
          refine GW.region ?_
          refine R.load_own (cs := planC (rowF lim (dd (allSlots r)) (ts, 0) r.head).1 (.slice A48 (planSteps lim (dd (allSlots r)) (rowF lim (dd (allSlots r)) (ts, 0) r.head).2.1 (rowF lim (dd (allSlots r)) (ts, 0) r.head).2.2 r.body order srt).1.length c48) (dd (allSlots r)).length) ⟨rfl, rfl, rfl, rfl⟩ rfl Tryz.underlying41 rfl Tryz.sizeOf41 (by repeat (first | exact List.mem_cons_self | apply List.mem_cons_of_mem | apply List.mem_append_right)) (by rfl) (by rfl) ?_
          refine R.storeAll (G1 := []) rfl rfl rfl rfl rfl Tryz.sizeOf41 rfl rfl rfl rfl ?_
          refine R.assign ⟨rfl, rfl, rfl, rfl⟩ rfl ?_
          refine GOps.nil ?_
          first | (rw [planRule_bad hr0]; exact GW.ret (Out.of (resCellTmp rfl rfl rfl Tryz.underlying41 rfl Tryz.sizeOf41 (Rds.own (C := (planC zRw (.slice none 0 0) 0).toArray) (by repeat (first | exact List.mem_cons_self | apply List.mem_cons_of_mem | apply List.mem_append_right | exact List.mem_append_left _ List.mem_cons_self)) 0 (planC zRw (.slice none 0 0) 0) (fun j v hv => by simpa using hv)) rfl) (Hs.tl2 _ _) ⟨.slice none 0 0, [], HD, ⟨rfl, .nil rfl rfl, hD⟩, rfl⟩)) | (rw [planRule_full hr0 (by first | assumption | omega)]; exact GW.ret (Out.of (resCellTmp rfl rfl rfl Tryz.underlying41 rfl Tryz.sizeOf41 (Rds.own (C := (planC zRw (.slice none 0 0) 0).toArray) (by repeat (first | exact List.mem_cons_self | apply List.mem_cons_of_mem | apply List.mem_append_right | exact List.mem_append_left _ List.mem_cons_self)) 0 (planC zRw (.slice none 0 0) 0) (fun j v hv => by simpa using hv)) rfl) (Hs.endY0 _ _ _ _ _ _ _ _) ⟨.slice none 0 0, [], HD3, ⟨rfl, .nil rfl rfl, hD3⟩, rfl⟩)) | (rw [planRule_ok hr0 (by first | assumption | omega)]; exact GW.ret (Out.of (resCellTmp rfl rfl rfl Tryz.underlying41 rfl Tryz.sizeOf41 (Rds.own (C := (planC (rowF lim (dd (allSlots r)) (ts, 0) r.head).1 (.slice A48 (planSteps lim (dd (allSlots r)) (rowF lim (dd (allSlots r)) (ts, 0) r.head).2.1 (rowF lim (dd (allSlots r)) (ts, 0) r.head).2.2 r.body order srt).1.length c48) (dd (allSlots r)).length).toArray) (by repeat (first | exact List.mem_cons_self | apply List.mem_cons_of_mem | apply List.mem_append_right | exact List.mem_append_left _ List.mem_cons_self)) 0 (planC (rowF lim (dd (allSlots r)) (ts, 0) r.head).1 (.slice A48 (planSteps lim (dd (allSlots r)) (rowF lim (dd (allSlots r)) (ts, 0) r.head).2.1 (rowF lim (dd (allSlots r)) (ts, 0) r.head).2.2 r.body order srt).1.length c48) (dd (allSlots r)).length) (fun j v hv => by simpa using hv)) rfl) (Hs.endY _ _ _ _ _ _ _ _) ⟨.slice A48 _ c48, Ho, HD3, ⟨rfl, hst, hD3⟩, rfl⟩))
end Go.Proofs.YtfddkcmooommeaaGreatDoor.Gl
end
section
namespace Go.Proofs.YtfddkcmooommeaaGreatDoor.Gl
open Go.RowKit Go.Shelf
set_option linter.unusedVariables false
set_option linter.unnecessarySimpa false
set_option linter.unusedSimpArgs false
attribute [-simp] List.getD_eq_getElem?_getD
section
variable {X : Cx} {Q : Post} {fr : Fr} {ds : List Deferred} {G : Hp} {ops : Array Oper} {o : Oper} {rest : List Oper} {d : Nat}
theorem R.addS {t u : TypeId} {x y : Operand} {m n : ByteArray} (h : At X ops fr o (.binOp .add t x y u) d) (hx : evO fr x = some (.string m)) (hy : evO fr y = some (.string n)) (hz : m.size + n.size ≤ 9223372036854775807)
    (K : GOps X ops Q rest ((d, .string (m ++ n)) :: fr) ds G) : GOps X ops Q (o :: rest) fr ds G :=
  R.bin h hx hy (fun w _ => by rw [Sem.run_bind, run_guard_string]; simp [binOp, Op.stringOp]; omega) K
end
def kV (s : ByteArray) : Sl := ⟨s, zTm⟩
def kH : ByteArray := ⟨#[104, 116, 116, 112, 58, 47, 47]⟩
def pS (s : ByteArray) : Sl := ⟨ByteArray.empty, ⟨1, kH ++ s, ByteArray.empty⟩⟩
def c1 (n : UInt8) : ByteArray := ⟨#[n]⟩
def k1 : Lt := ⟨1, ⟨kV (c1 121), pS (c1 113), kV (c1 120)⟩, zSl, zSl⟩
def k2 : Lt := ⟨4, zPt, kV (c1 120), kV (c1 121)⟩
def k3 : Lt := ⟨1, ⟨kV (c1 120), pS (c1 114), kV (c1 122)⟩, zSl, zSl⟩
def k13 : Rl := ⟨⟨kV (c1 120), pS (c1 112), kV (c1 121)⟩, [k1, k2, k3]⟩
theorem k_slV (n : UInt8) : SlOk (kV (c1 n)) := ⟨by show 1 ≤ 1048576; decide, Nat.zero_le _, Nat.zero_le _⟩
theorem k_slP (n : UInt8) : SlOk (pS (c1 n)) := ⟨Nat.zero_le _, by show (kH ++ c1 n).size ≤ 1048576; rw [ByteArray.size_append]; exact Nat.le_of_ble_eq_true rfl, Nat.zero_le _⟩
theorem z_sl : SlOk zSl := ⟨Nat.zero_le _, Nat.zero_le _, Nat.zero_le _⟩
theorem k13_ok : RlOk k13 := ⟨⟨k_slV _, k_slP _, k_slV _⟩, fun l hl => by
  simp only [k13, List.mem_cons, List.not_mem_nil, or_false] at hl
  rcases hl with rfl | rfl | rfl
  · exact ⟨⟨k_slV _, k_slP _, k_slV _⟩, z_sl, z_sl⟩
  · exact ⟨⟨z_sl, z_sl, z_sl⟩, k_slV _, k_slV _⟩
  · exact ⟨⟨k_slV _, k_slP _, k_slV _⟩, z_sl, z_sl⟩⟩
def k13B : Bool := match planRule 100 [] k13 [] [] with
  | ⟨_, [s0, s1, s2], 3, 0, _⟩ => decide (s0.kind = 1) && (decide (s1.kind = 4) && decide (s2.row.p1.id = 3))
  | _ => false
theorem k13B_true : k13B = true := by decide +kernel
theorem k13_plan : ∃ h s0 s1 s2 ts', planRule 100 [] k13 [] [] = ⟨h, [s0, s1, s2], 3, 0, ts'⟩ ∧ s0.kind = 1 ∧ s1.kind = 4 ∧ s2.row.p1.id = 3 := by
  have h := k13B_true
  unfold k13B at h
  split at h
  · rename_i hh s0 s1 s2 ts' e
    simp only [Bool.and_eq_true, decide_eq_true_eq] at h
    exact ⟨hh, s0, s1, s2, ts', e, h.1, h.2.1, h.2.2⟩
  · cases h
theorem sorted_hS (w0 : World) : ∀ (b1 : Nat) (G0 : Hp), (b1, Know.exact (.cells #[.slice none ([] : List Int).length 0] 32 (0, 0))) ∈ G0 → IntsAt w0 G0 none ([] : List Int) → GC Tryz.prog w0 57 #[.func (.func 89) #[] #[.pointer (some ⟨b1, 0, none⟩)]] (fun v G' => ∃ H, SlAt 1 3 (zC ([] : List Int)) ([] : List Int).length v H ∧ H ++ G0 = G') G0 := fun b1 G0 hm _ =>
  (sorted_0 w0 G0 b1 hm).mono (by rintro v G' ⟨rfl, rfl⟩; exact ⟨[], .nil rfl rfl, rfl⟩)
theorem plan_Rule0 (w0 : World) (G : Hp) (HD : Hp) (ts : List Tm) (lim bD : Nat) (hD : Dic ts lim bD HD) (r : Rl) (bA : Option Addr) (bc : Nat) (hl : LtsAt w0 G bA r.body) (hbl : r.body.length ≤ 1000) (hok : RlOk r) :
    GC Tryz.prog w0 10 #[.pointer (some ⟨bD, 0, none⟩), .agg (RlC r.head (.slice bA r.body.length bc)).toArray, .slice none 0 0] (fun v G' => ∃ vs Ho HD', (v = .tuple #[.agg (planC (planRule lim ts r [] []).head vs (planRule lim ts r [] []).vars).toArray, .int .i64 (planRule lim ts r [] []).e] ∧ SlAt 11 50 (stsC (planRule lim ts r [] []).steps) (planRule lim ts r [] []).steps.length vs Ho ∧ Dic (planRule lim ts r [] []).ts lim bD HD') ∧ HD' ++ (Ho ++ G) = G') (HD ++ G) :=
  plan_Rule w0 G HD ts lim bD hD r bA bc hl hbl hok none [] [] 0 (fun i x h => by simp at h) (by simp) (by simp) (by simp) (sorted_hS w0)
theorem k13_lts {w0 : World} {G : Hp} {b : Nat} (h : (b, Know.exact (.cells (LtC k1 ++ (LtC k2 ++ LtC k3)).toArray 89 (0, 0))) ∈ G) : LtsAt w0 G (some ⟨b, 0, none⟩) k13.body := by
  intro i x hx
  rcases i with _ | _ | _ | i
  · have : k1 = x := by simpa [k13] using hx
    subst this
    exact ⟨b, 0, _, rfl, rfl, fun j v hv => .own' h (by rw [List.getElem?_toArray, show 0 + 0 * 21 + j = j by omega, List.getElem?_append_left (List.getElem?_eq_some_iff.1 hv).1]; exact hv)⟩
  · have : k2 = x := by simpa [k13] using hx
    subst this
    exact ⟨b, 0, _, rfl, rfl, fun j v hv => .own' h (by rw [List.getElem?_toArray, show 0 + (0 + 1) * 21 + j = 21 + j by omega, List.getElem?_append_right (by show 21 ≤ _; omega), show 21 + j - (LtC k1).length = j by show 21 + j - 21 = j; omega, List.getElem?_append_left (List.getElem?_eq_some_iff.1 hv).1]; exact hv)⟩
  · have : k3 = x := by simpa [k13] using hx
    subst this
    exact ⟨b, 0, _, rfl, rfl, fun j v hv => .own' h (by rw [List.getElem?_toArray, show 0 + (0 + 1 + 1) * 21 + j = 42 + j by omega, List.getElem?_append_right (by show 21 ≤ _; omega), show 42 + j - (LtC k1).length = 21 + j by show 42 + j - 21 = 21 + j; omega, List.getElem?_append_right (by show 21 ≤ _; omega), show 21 + j - (LtC k2).length = j by show 21 + j - 21 = j; omega]; exact hv)⟩
  · simp [k13] at hx
theorem known_plan (w0 : World) (G : Hp) (HD : Hp) (bD b37 : Nat) (hD : Dic [] 100 bD HD) (hb : (b37, Know.exact (.cells (LtC k1 ++ (LtC k2 ++ LtC k3)).toArray 89 (0, 0))) ∈ G) :
    GC Tryz.prog w0 10 #[.pointer (some ⟨bD, 0, none⟩), .agg (RlC k13.head (.slice (some ⟨b37, 0, none⟩) 3 3)).toArray, .slice none 0 0] (fun v G' => ∃ h s0 s1 s2 bs cap HD', (v = .tuple #[.agg (planC h (.slice (some ⟨bs, 0, none⟩) 3 cap) 3).toArray, .int .i64 0] ∧ s0.kind = 1 ∧ s1.kind = 4 ∧ s2.row.p1.id = 3) ∧ HD' ++ ((bs, .row (stsC [s0, s1, s2]) 50 (cap * 11)) :: G) = G') (HD ++ G) := by
  refine (plan_Rule0 w0 G HD [] 100 bD hD k13 (some ⟨b37, 0, none⟩) 3 (k13_lts hb) (by decide) k13_ok).mono ?_
  rintro v G' ⟨vs, Ho, HD', ⟨rfl, hS, hD'⟩, rfl⟩
  obtain ⟨h, s0, s1, s2, ts', e, e0, e1, e2⟩ := k13_plan
  rw [e] at hS ⊢
  obtain ⟨bs, cap, rfl, rfl, _⟩ := hS.row_of (Nat.succ_pos 2)
  exact ⟨h, s0, s1, s2, bs, cap, HD', ⟨rfl, e0, e1, e2⟩, rfl⟩
theorem known_end (x p q : Nat × Know) (D G : Hp) : Hs (x :: (D ++ (p :: q :: G))) G := Hs.sub ((((List.Sublist.refl G).cons q).cons p |>.trans (List.sublist_append_right D _)).cons x)
theorem known1 (w0 : World) (G : Hp) (s : ByteArray) : GC Tryz.prog w0 27 #[.string s] (fun v G' => v = .agg (SlC (kV s)).toArray ∧ G = G') G := by
  refine GC.body (args := [.string s]) Tryz.func27 rfl (by kernel_rfl) rfl ?_
  refine GW.seq ?_
  refine GW.region ?_
  refine R.alloc ⟨rfl, rfl, rfl, rfl⟩ Tryz.zeroValue26 fun b2 => ?_
  refine GOps.nil ?_
  refine GW.seq ?_
  refine GW.region ?_
  refine R.move ⟨rfl, rfl, rfl, rfl⟩ rfl ?_
  refine R.build (vs := [(0, _)]) (cells := (SlC (kV s)).toArray) ⟨rfl, rfl, rfl, rfl⟩ rfl (fun w => run_build w 26 _ _ (by kernel_rfl)) ?_
  refine R.storeAll (G1 := []) rfl rfl rfl rfl rfl Tryz.sizeOf26 rfl rfl rfl rfl ?_
  refine GOps.nil ?_
  exact GW.ret (Out.of (resCellA rfl rfl Tryz.underlying26 rfl Tryz.sizeOf26 (Rds.own (C := (SlC (kV s)).toArray) List.mem_cons_self 0 (SlC (kV s)) (fun j v hv => by simpa using hv)) rfl) (Hs.tl _) ⟨rfl, rfl⟩)
theorem known2 (w0 : World) (G : Hp) (s : ByteArray) (hs : s.size ≤ 1000) : GC Tryz.prog w0 28 #[.string s] (fun v G' => v = .agg (SlC (pS s)).toArray ∧ G = G') G := by
  refine GC.body (args := [.string s]) Tryz.func28 rfl (by kernel_rfl) rfl ?_
  refine GW.seq ?_
  refine GW.region ?_
  refine R.alloc ⟨rfl, rfl, rfl, rfl⟩ Tryz.zeroValue26 fun b2 => ?_
  refine GOps.nil ?_
  refine GW.seq ?_
  refine GW.region ?_
  refine R.move ⟨rfl, rfl, rfl, rfl⟩ rfl ?_
  refine R.addS ⟨rfl, rfl, rfl, rfl⟩ rfl rfl (by show 7 + s.size ≤ _; omega) ?_
  refine R.build (vs := [(0, _), (1, _)]) (cells := (TmC (pS s).t).toArray) ⟨rfl, rfl, rfl, rfl⟩ rfl (fun w => run_build w 24 _ _ (by kernel_rfl)) ?_
  refine R.build (vs := [(1, _)]) (cells := (SlC (pS s)).toArray) ⟨rfl, rfl, rfl, rfl⟩ rfl (fun w => run_build w 26 _ _ (by kernel_rfl)) ?_
  refine R.storeAll (G1 := []) rfl rfl rfl rfl rfl Tryz.sizeOf26 rfl rfl rfl rfl ?_
  refine GOps.nil ?_
  exact GW.ret (Out.of (resCellA rfl rfl Tryz.underlying26 rfl Tryz.sizeOf26 (Rds.own (C := (SlC (pS s)).toArray) List.mem_cons_self 0 (SlC (pS s)) (fun j v hv => by simpa using hv)) rfl) (Hs.tl _) ⟨rfl, rfl⟩)
theorem law_known (w0 : World) (G : Hp) : GC Tryz.prog w0 9 #[] (fun v G' => v = .bool true ∧ G = G') G := by
  refine GC.body (args := []) Tryz.func9 rfl (by kernel_rfl) rfl ?_
  refine GW.seq ?_
  refine GW.region ?_
  refine R.assign ⟨rfl, rfl, rfl, rfl⟩ rfl ?_
  refine GOps.nil ?_
  refine GW.seq ?_
  refine GW.region ?_
  refine R.call ⟨rfl, rfl, rfl, rfl⟩ rfl (vs := [_]) rfl ((dict_New _ _ 100 (by decide)).mono ?_)
  rintro _ _ ⟨bD, HD, ⟨rfl, hD⟩, rfl⟩
  refine R.assign ⟨rfl, rfl, rfl, rfl⟩ rfl ?_
  refine GOps.nil ?_
  refine GW.seq ?_
  refine GW.region ?_
  refine R.assign ⟨rfl, rfl, rfl, rfl⟩ rfl ?_
  refine GOps.nil ?_
  refine GW.seq ?_
  refine GW.region ?_
  refine R.assign ⟨rfl, rfl, rfl, rfl⟩ rfl ?_
  refine GOps.nil ?_
  refine GW.seq ?_
  refine GW.region ?_
  refine R.move ⟨rfl, rfl, rfl, rfl⟩ rfl ?_
  refine R.move ⟨rfl, rfl, rfl, rfl⟩ rfl ?_
  refine R.call ⟨rfl, rfl, rfl, rfl⟩ rfl (vs := [_]) rfl ((known1 _ _ (c1 120)).mono ?_)
  rintro _ _ ⟨rfl, rfl⟩
  refine R.move ⟨rfl, rfl, rfl, rfl⟩ rfl ?_
  refine R.call ⟨rfl, rfl, rfl, rfl⟩ rfl (vs := [_]) rfl ((known2 _ _ (c1 112) (by decide)).mono ?_)
  rintro _ _ ⟨rfl, rfl⟩
  refine R.move ⟨rfl, rfl, rfl, rfl⟩ rfl ?_
  refine R.call ⟨rfl, rfl, rfl, rfl⟩ rfl (vs := [_]) rfl ((known1 _ _ (c1 121)).mono ?_)
  rintro _ _ ⟨rfl, rfl⟩
  refine R.build (vs := [(0, _), (1, _), (2, _)]) (cells := (PtC k13.head).toArray) ⟨rfl, rfl, rfl, rfl⟩ rfl (fun w => run_build w 28 _ _ (by kernel_rfl)) ?_
  refine R.move ⟨rfl, rfl, rfl, rfl⟩ rfl ?_
  refine R.call ⟨rfl, rfl, rfl, rfl⟩ rfl (vs := [_]) rfl ((known1 _ _ (c1 121)).mono ?_)
  rintro _ _ ⟨rfl, rfl⟩
  refine R.move ⟨rfl, rfl, rfl, rfl⟩ rfl ?_
  refine R.call ⟨rfl, rfl, rfl, rfl⟩ rfl (vs := [_]) rfl ((known2 _ _ (c1 113) (by decide)).mono ?_)
  rintro _ _ ⟨rfl, rfl⟩
  refine R.move ⟨rfl, rfl, rfl, rfl⟩ rfl ?_
  refine R.call ⟨rfl, rfl, rfl, rfl⟩ rfl (vs := [_]) rfl ((known1 _ _ (c1 120)).mono ?_)
  rintro _ _ ⟨rfl, rfl⟩
  refine R.build (vs := [(0, _), (1, _), (2, _)]) (cells := (PtC k1.pat).toArray) ⟨rfl, rfl, rfl, rfl⟩ rfl (fun w => run_build w 28 _ _ (by kernel_rfl)) ?_
  refine R.build (vs := [(0, _), (1, _)]) (cells := (LtC k1).toArray) ⟨rfl, rfl, rfl, rfl⟩ rfl (fun w => run_build w 89 _ _ (by kernel_rfl)) ?_
  refine R.move ⟨rfl, rfl, rfl, rfl⟩ rfl ?_
  refine R.call ⟨rfl, rfl, rfl, rfl⟩ rfl (vs := [_]) rfl ((known1 _ _ (c1 120)).mono ?_)
  rintro _ _ ⟨rfl, rfl⟩
  refine R.move ⟨rfl, rfl, rfl, rfl⟩ rfl ?_
  refine R.call ⟨rfl, rfl, rfl, rfl⟩ rfl (vs := [_]) rfl ((known1 _ _ (c1 121)).mono ?_)
  rintro _ _ ⟨rfl, rfl⟩
  refine R.build (vs := [(0, _), (2, _), (3, _)]) (cells := (LtC k2).toArray) ⟨rfl, rfl, rfl, rfl⟩ rfl (fun w => run_build w 89 _ _ (by kernel_rfl)) ?_
  refine R.move ⟨rfl, rfl, rfl, rfl⟩ rfl ?_
  refine R.call ⟨rfl, rfl, rfl, rfl⟩ rfl (vs := [_]) rfl ((known1 _ _ (c1 120)).mono ?_)
  rintro _ _ ⟨rfl, rfl⟩
  refine R.move ⟨rfl, rfl, rfl, rfl⟩ rfl ?_
  refine R.call ⟨rfl, rfl, rfl, rfl⟩ rfl (vs := [_]) rfl ((known2 _ _ (c1 114) (by decide)).mono ?_)
  rintro _ _ ⟨rfl, rfl⟩
  refine R.move ⟨rfl, rfl, rfl, rfl⟩ rfl ?_
  refine R.call ⟨rfl, rfl, rfl, rfl⟩ rfl (vs := [_]) rfl ((known1 _ _ (c1 122)).mono ?_)
  rintro _ _ ⟨rfl, rfl⟩
  refine R.build (vs := [(0, _), (1, _), (2, _)]) (cells := (PtC k3.pat).toArray) ⟨rfl, rfl, rfl, rfl⟩ rfl (fun w => run_build w 28 _ _ (by kernel_rfl)) ?_
  refine R.build (vs := [(0, _), (1, _)]) (cells := (LtC k3).toArray) ⟨rfl, rfl, rfl, rfl⟩ rfl (fun w => run_build w 89 _ _ (by kernel_rfl)) ?_
  refine R.buildSliceF (sz := 21) (bytes := 288) (vs := [_, _, _]) (cs := LtC k1 ++ (LtC k2 ++ LtC k3)) ⟨rfl, rfl, rfl, rfl⟩ rfl Tryz.underlying29 (InfoE.mk (by kernel_rfl)) rfl rfl rfl rfl rfl fun b37 => ?_
  refine R.build (vs := [(0, _), (1, _)]) (cells := (RlC k13.head (.slice (some ⟨b37, 0, none⟩) 3 3)).toArray) ⟨rfl, rfl, rfl, rfl⟩ rfl (fun w => run_build w 31 _ _ (by kernel_rfl)) ?_
  refine GOps.weak (Keeps.refl _) (Hs.perm (pm1 _ _ _)) ?_
  refine R.call ⟨rfl, rfl, rfl, rfl⟩ rfl (vs := [_, _, _]) rfl ((known_plan _ _ HD bD b37 hD List.mem_cons_self).mono ?_)
  rintro _ _ ⟨h, s0, s1, s2, bs, cap, HD2, ⟨rfl, e0, e1, e2⟩, rfl⟩
  refine R.move ⟨rfl, rfl, rfl, rfl⟩ rfl ?_
  refine R.extract ⟨rfl, rfl, rfl, rfl⟩ rfl rfl ?_
  refine R.extract ⟨rfl, rfl, rfl, rfl⟩ rfl rfl ?_
  refine R.alloc ⟨rfl, rfl, rfl, rfl⟩ Tryz.zeroValue41 fun b4 => ?_
  refine R.storeAll (G1 := []) rfl rfl rfl rfl rfl Tryz.sizeOf41 rfl rfl rfl rfl ?_
  refine R.assign ⟨rfl, rfl, rfl, rfl⟩ rfl ?_
  refine GOps.nil ?_
  refine GW.seq ?_
  refine GW.region ?_
  refine R.move ⟨rfl, rfl, rfl, rfl⟩ rfl ?_
  refine R.eqI ⟨rfl, rfl, rfl, rfl⟩ rfl rfl ?_
  refine R.move ⟨rfl, rfl, rfl, rfl⟩ rfl ?_
  refine R.fieldAddr ⟨rfl, rfl, rfl, rfl⟩ rfl Tryz.underlying41 rfl Tryz.sizeOf3 ?_   -- "Vars"
  refine R.load1 ⟨rfl, rfl, rfl, rfl⟩ rfl Tryz.underlying3 rfl (.own' (by repeat (first | exact List.mem_cons_self | apply List.mem_cons_of_mem | apply List.mem_append_right)) (by rfl)) ?_
  refine R.eqI ⟨rfl, rfl, rfl, rfl⟩ rfl rfl ?_
  refine R.pick_t ⟨rfl, rfl, rfl, rfl⟩ rfl rfl ?_
  refine R.move ⟨rfl, rfl, rfl, rfl⟩ rfl ?_
  refine R.fieldAddr ⟨rfl, rfl, rfl, rfl⟩ rfl Tryz.underlying41 rfl Tryz.sizeOf39 ?_   -- "Steps"
  refine R.load1 ⟨rfl, rfl, rfl, rfl⟩ rfl Tryz.underlying39 rfl (.own' (by repeat (first | exact List.mem_cons_self | apply List.mem_cons_of_mem | apply List.mem_append_right)) (by rfl)) ?_
  refine R.lenS ⟨rfl, rfl, rfl, rfl⟩ rfl rfl Tryz.underlying39 ?_
  refine R.eqI ⟨rfl, rfl, rfl, rfl⟩ rfl rfl ?_
  refine R.pick_t ⟨rfl, rfl, rfl, rfl⟩ rfl rfl ?_
  refine R.move ⟨rfl, rfl, rfl, rfl⟩ rfl ?_
  refine R.fieldAddr ⟨rfl, rfl, rfl, rfl⟩ rfl Tryz.underlying41 rfl Tryz.sizeOf39 ?_   -- "Steps"
  refine R.load1 ⟨rfl, rfl, rfl, rfl⟩ rfl Tryz.underlying39 rfl (.own' (by repeat (first | exact List.mem_cons_self | apply List.mem_cons_of_mem | apply List.mem_append_right)) (by rfl)) ?_
  refine R.indexAddrS ⟨rfl, rfl, rfl, rfl⟩ rfl rfl Tryz.underlying39 Tryz.sizeOf50 (by omega) (by omega) ?_
  refine R.fieldAddr ⟨rfl, rfl, rfl, rfl⟩ rfl Tryz.underlying50 rfl Tryz.sizeOf48 ?_   -- "Kind"
  refine R.load1 ⟨rfl, rfl, rfl, rfl⟩ rfl Tryz.underlying48 rfl (st_load (ss := [s0, s1, s2]) (i := 0) (by repeat (first | exact List.mem_cons_self | apply List.mem_cons_of_mem | apply List.mem_append_right | exact List.mem_append_left _ List.mem_cons_self)) rfl 0 _ rfl) ?_
  refine R.eqI ⟨rfl, rfl, rfl, rfl⟩ rfl rfl ?_
  refine R.pick_t ⟨rfl, rfl, rfl, rfl⟩ rfl rfl ?_
  refine R.move ⟨rfl, rfl, rfl, rfl⟩ rfl ?_
  refine GOps.caseB 63 rfl (fun hg1 => ?_) (fun hg1 => ?_)
  · try simp only [decide_eq_true_eq, decide_eq_false_iff_not, Bool.not_eq_true', Bool.not_eq_false'] at hg1
    refine R.fieldAddr ⟨rfl, rfl, rfl, rfl⟩ rfl Tryz.underlying41 rfl Tryz.sizeOf39 ?_   -- "Steps"
    refine R.load1 ⟨rfl, rfl, rfl, rfl⟩ rfl Tryz.underlying39 rfl (.own' (by repeat (first | exact List.mem_cons_self | apply List.mem_cons_of_mem | apply List.mem_append_right)) (by rfl)) ?_
    refine R.indexAddrS ⟨rfl, rfl, rfl, rfl⟩ rfl rfl Tryz.underlying39 Tryz.sizeOf50 (by omega) (by omega) ?_
    refine R.fieldAddr ⟨rfl, rfl, rfl, rfl⟩ rfl Tryz.underlying50 rfl Tryz.sizeOf48 ?_   -- "Kind"
    refine R.load1 ⟨rfl, rfl, rfl, rfl⟩ rfl Tryz.underlying48 rfl (st_load (ss := [s0, s1, s2]) (i := 1) (by repeat (first | exact List.mem_cons_self | apply List.mem_cons_of_mem | apply List.mem_append_right | exact List.mem_append_left _ List.mem_cons_self)) rfl 0 _ rfl) ?_
    refine R.eqI ⟨rfl, rfl, rfl, rfl⟩ rfl rfl ?_
    refine R.pick_t ⟨rfl, rfl, rfl, rfl⟩ rfl rfl ?_
    refine R.move ⟨rfl, rfl, rfl, rfl⟩ rfl ?_
    refine GOps.caseB 71 rfl (fun hg2 => ?_) (fun hg2 => ?_)
    · try simp only [decide_eq_true_eq, decide_eq_false_iff_not, Bool.not_eq_true', Bool.not_eq_false'] at hg2
      refine R.fieldAddr ⟨rfl, rfl, rfl, rfl⟩ rfl Tryz.underlying41 rfl Tryz.sizeOf39 ?_   -- "Steps"
      refine R.load1 ⟨rfl, rfl, rfl, rfl⟩ rfl Tryz.underlying39 rfl (.own' (by repeat (first | exact List.mem_cons_self | apply List.mem_cons_of_mem | apply List.mem_append_right)) (by rfl)) ?_
      refine R.indexAddrS ⟨rfl, rfl, rfl, rfl⟩ rfl rfl Tryz.underlying39 Tryz.sizeOf50 (by omega) (by omega) ?_
      refine R.fieldAddr ⟨rfl, rfl, rfl, rfl⟩ rfl Tryz.underlying50 rfl Tryz.sizeOf38 ?_   -- "Row"
      refine R.indexAddrA ⟨rfl, rfl, rfl, rfl⟩ rfl rfl Tryz.underlying38 Tryz.sizeOf37 (by omega) (by omega) ?_
      refine R.fieldAddr ⟨rfl, rfl, rfl, rfl⟩ rfl Tryz.underlying37 rfl Tryz.sizeOf35 ?_   -- "ID"
      refine R.load1 ⟨rfl, rfl, rfl, rfl⟩ rfl Tryz.underlying35 rfl (st_load (ss := [s0, s1, s2]) (i := 2) (by repeat (first | exact List.mem_cons_self | apply List.mem_cons_of_mem | apply List.mem_append_right | exact List.mem_append_left _ List.mem_cons_self)) rfl 4 _ rfl) ?_
      refine R.eqI ⟨rfl, rfl, rfl, rfl⟩ rfl rfl ?_
      refine R.pick_t ⟨rfl, rfl, rfl, rfl⟩ rfl rfl ?_
      refine R.assign ⟨rfl, rfl, rfl, rfl⟩ rfl ?_
      refine GOps.nil ?_
      refine GW.ret (Out.of (Res.one rfl rfl) (known_end _ _ _ _ _) ⟨?_, rfl⟩)
      first | (rw [e2]; rfl) | (exfalso; omega) | (exfalso; simp_all; done)
    · try simp only [decide_eq_true_eq, decide_eq_false_iff_not, Bool.not_eq_true', Bool.not_eq_false'] at hg2
      refine GOps.skip rfl rfl rfl ?_
      refine GOps.skip rfl rfl rfl ?_
      refine GOps.skip rfl rfl rfl ?_
      refine GOps.skip rfl rfl rfl ?_
      refine GOps.skip rfl rfl rfl ?_
      refine GOps.skip rfl rfl rfl ?_
      refine GOps.skip rfl rfl rfl ?_
      refine GOps.skip rfl rfl rfl ?_
      refine R.pick_f ⟨rfl, rfl, rfl, rfl⟩ rfl rfl ?_
      refine R.assign ⟨rfl, rfl, rfl, rfl⟩ rfl ?_
      refine GOps.nil ?_
      refine GW.ret (Out.of (Res.one rfl rfl) (known_end _ _ _ _ _) ⟨?_, rfl⟩)
      first | (rw [e2]; rfl) | (exfalso; omega) | (exfalso; simp_all; done)
  · try simp only [decide_eq_true_eq, decide_eq_false_iff_not, Bool.not_eq_true', Bool.not_eq_false'] at hg1
    refine GOps.skip rfl rfl rfl ?_
    refine GOps.skip rfl rfl rfl ?_
    refine GOps.skip rfl rfl rfl ?_
    refine GOps.skip rfl rfl rfl ?_
    refine GOps.skip rfl rfl rfl ?_
    refine GOps.skip rfl rfl rfl ?_
    refine R.pick_f ⟨rfl, rfl, rfl, rfl⟩ rfl rfl ?_
    refine R.move ⟨rfl, rfl, rfl, rfl⟩ rfl ?_
    refine GOps.skip rfl rfl rfl ?_
    refine GOps.skip rfl rfl rfl ?_
    refine GOps.skip rfl rfl rfl ?_
    refine GOps.skip rfl rfl rfl ?_
    refine GOps.skip rfl rfl rfl ?_
    refine GOps.skip rfl rfl rfl ?_
    refine GOps.skip rfl rfl rfl ?_
    refine GOps.skip rfl rfl rfl ?_
    refine R.pick_f ⟨rfl, rfl, rfl, rfl⟩ rfl rfl ?_
    refine R.assign ⟨rfl, rfl, rfl, rfl⟩ rfl ?_
    refine GOps.nil ?_
    refine GW.ret (Out.of (Res.one rfl rfl) (known_end _ _ _ _ _) ⟨?_, rfl⟩)
    first | (rw [e2]; rfl) | (exfalso; omega) | (exfalso; simp_all; done)
end Go.Proofs.YtfddkcmooommeaaGreatDoor.Gl
end
section
namespace Go.Proofs.YtfddkcmooommeaaGreatDoor.Gl
open Go.RowKit Go.Shelf
set_option linter.unusedVariables false
set_option linter.unnecessarySimpa false
set_option linter.unusedSimpArgs false
section
variable {H : Type} {enc : TypeId × Value → H} {P : Program} {w : World} {base : Nat} {spare : Nat → Bool} {held : Bool} {fuel : Nat} {t : TypeId} {cs : List Value} {x : DataW H × List MemPlace}
theorem trod_string (hu : P.underlying t = some .string) (h : DataW.trod enc P w base spare held fuel t cs = some x) : ∃ s : ByteArray, cs = [.string s] ∧ x.1 = .lit (.string s.data.toList) := by
  cases fuel with
  | zero => simp [DataW.trod] at h
  | succ fuel =>
    simp only [DataW.trod, hu] at h
    split at h <;> first | contradiction | skip
    all_goals simp_all
    all_goals first | (obtain ⟨_, rfl⟩ := h; rfl) | skip
theorem trod_int {k : IntKind} (hu : P.underlying t = some (.int k)) (h : DataW.trod enc P w base spare held fuel t cs = some x) : ∃ n : Int, cs = [.int k n] ∧ x.1 = .lit (.int k n) := by
  cases fuel with
  | zero => simp [DataW.trod] at h
  | succ fuel =>
    simp only [DataW.trod, hu] at h
    split at h <;> first | contradiction | skip
    all_goals simp_all
    all_goals first | (obtain ⟨_, rfl⟩ := h; rfl) | skip
theorem trod_struct {fs : Array Field} (hu : P.underlying t = some (.struct fs)) (h : DataW.trod enc P w base spare held fuel t cs = some x) : cs.length = P.cellsOf t ∧ ∃ (fuel' : Nat) (xs : List (DataW H × List MemPlace)), (fs.toList.mapM fun f => DataW.trod enc P w base spare held fuel' f.type ((cs.drop f.offset).take (P.cellsOf f.type))) = some xs ∧ x.1 = .agg (xs.map (·.1)) := by
  cases fuel with
  | zero => simp [DataW.trod] at h
  | succ fuel =>
    simp only [DataW.trod, hu] at h
    split at h <;> first | contradiction | skip
    all_goals simp_all
    all_goals (obtain ⟨xs, h2, h3⟩ := h; exact ⟨fuel, xs, h2, by rw [← h3]⟩)
theorem trod_array {n : Nat} {e : TypeId} (hu : P.underlying t = some (.array n e)) (h : DataW.trod enc P w base spare held fuel t cs = some x) : cs.length = P.cellsOf t ∧ ∃ (fuel' : Nat) (xs : List (DataW H × List MemPlace)), ((List.range n).mapM fun i => DataW.trod enc P w base spare held fuel' e ((cs.drop (i * P.cellsOf e)).take (P.cellsOf e))) = some xs ∧ x.1 = .agg (xs.map (·.1)) := by
  cases fuel with
  | zero => simp [DataW.trod] at h
  | succ fuel =>
    simp only [DataW.trod, hu] at h
    split at h <;> first | contradiction | skip
    all_goals simp_all
    all_goals (obtain ⟨xs, h2, h3⟩ := h; exact ⟨fuel, xs, h2, by rw [← h3]⟩)
theorem seg_app (cs : List Value) (o n m : Nat) : (cs.drop o).take (n + m) = (cs.drop o).take n ++ (cs.drop (o + n)).take m := by
  rw [List.take_add, List.drop_drop]
end
section
open _root_.Go.Proofs.YtfddkcmooommeaaGreatDoor.Rows
variable {H : Type} {enc : TypeId × Value → H} {w : World} {base : Nat} {spare : Nat → Bool} {held : Bool} {fuel : Nat} {cs : List Value} {x : DataW H × List MemPlace}
theorem c9 : Tryz.prog.cellsOf 9 = 1 := by kernel_rfl
theorem c33 : Tryz.prog.cellsOf 22 = 1 := by kernel_rfl
theorem c35 : Tryz.prog.cellsOf 24 = 3 := by kernel_rfl
theorem c37 : Tryz.prog.cellsOf 26 = 4 := by kernel_rfl
theorem c40 : Tryz.prog.cellsOf 28 = 12 := by kernel_rfl
theorem c41 : Tryz.prog.cellsOf 87 = 1 := by kernel_rfl
theorem c43 : Tryz.prog.cellsOf 89 = 21 := by kernel_rfl
theorem c44 : Tryz.prog.cellsOf 29 = 1 := by kernel_rfl
theorem c46 : Tryz.prog.cellsOf 31 = 13 := by kernel_rfl
theorem trod_Tm (h : DataW.trod enc Tryz.prog w base spare held fuel 24 cs = some x) : ∃ t : Tm, cs = TmC t ∧ t.text.size ≤ uptoBulk x.1 ∧ t.ext.size ≤ uptoBulk x.1 := by
  obtain ⟨hl, f', xs, hm, hx⟩ := trod_struct Tryz.underlying24 h
  rw [c35] at hl
  simp only [List.mapM_cons, List.mapM_nil, c33, c9, Option.bind_eq_bind, Option.bind_eq_some_iff, Option.pure_def, Option.some.injEq] at hm
  obtain ⟨a, ha, _, ⟨b, hb, _, ⟨c, hc, _, rfl, rfl⟩, rfl⟩, rfl⟩ := hm
  obtain ⟨n, e1, d1⟩ := trod_int Tryz.underlying22 ha
  obtain ⟨s, e2, d2⟩ := trod_string Tryz.underlying9 hb
  obtain ⟨u, e3, d3⟩ := trod_string Tryz.underlying9 hc
  refine ⟨⟨n, s, u⟩, ?_, ?_, ?_⟩
  · have e : cs = (cs.drop 0).take (1 + (1 + 1)) := by rw [List.drop_zero, List.take_of_length_le (by omega)]
    rw [e, seg_app, seg_app, e1, e2, e3]
    rfl
  · rw [hx]
    simp [uptoBulk, uptoBulkAll, d1, d2, d3]
    have : s.data.size = s.size := rfl
    omega
  · rw [hx]
    simp [uptoBulk, uptoBulkAll, d1, d2, d3]
    have : u.data.size = u.size := rfl
    omega
theorem bulk_agg (ps : List (DataW H)) : uptoBulk (.agg ps) = uptoBulkAll ps + 1 := by simp [uptoBulk]
theorem bulk_mem : ∀ (ps : List (DataW H)) (d : DataW H), d ∈ ps → uptoBulk d ≤ uptoBulkAll ps
  | [], d, h => by simp at h
  | p :: ps, d, h => by
    simp only [uptoBulkAll]
    rcases List.mem_cons.1 h with rfl | h
    · omega
    · have := bulk_mem ps d h; omega
theorem bulk_pos (d : DataW H) : 1 ≤ uptoBulk d := by
  cases d with
  | lit l => cases l <;> simp [uptoBulk]
  | _ => simp [uptoBulk]
theorem bulk_len : ∀ (ps : List (DataW H)), ps.length ≤ uptoBulkAll ps
  | [] => by simp [uptoBulkAll]
  | p :: ps => by have := bulk_len ps; have := bulk_pos p; simp only [uptoBulkAll, List.length_cons]; omega
theorem trod_Sl (hb : uptoBulk x.1 ≤ 1048576) (h : DataW.trod enc Tryz.prog w base spare held fuel 26 cs = some x) : ∃ s : Sl, cs = SlC s ∧ SlOk s := by
  obtain ⟨hl, f', xs, hm, hx⟩ := trod_struct Tryz.underlying26 h
  rw [c37] at hl
  simp only [List.mapM_cons, List.mapM_nil, c35, c9, Option.bind_eq_bind, Option.bind_eq_some_iff, Option.pure_def, Option.some.injEq] at hm
  obtain ⟨a, ha, _, ⟨b, hb2, _, rfl, rfl⟩, rfl⟩ := hm
  obtain ⟨s, e1, d1⟩ := trod_string Tryz.underlying9 ha
  obtain ⟨t, e2, b1, b2⟩ := trod_Tm hb2
  rw [hx, bulk_agg] at hb
  have m1 := bulk_mem (List.map (fun x => x.1) [a, b]) a.1 (by simp)
  have m2 := bulk_mem (List.map (fun x => x.1) [a, b]) b.1 (by simp)
  refine ⟨⟨s, t⟩, ?_, ?_, by simp only; omega, by simp only; omega⟩
  · have e : cs = (cs.drop 0).take (1 + 3) := by rw [List.drop_zero, List.take_of_length_le (by omega)]
    rw [e, seg_app, e1, e2]
    rfl
  · rw [d1] at m1
    simp only [uptoBulk] at m1
    have : s.data.toList.length = s.size := by rw [Array.length_toList]; rfl
    simp only
    omega
theorem trod_Pt (hb : uptoBulk x.1 ≤ 1048576) (h : DataW.trod enc Tryz.prog w base spare held fuel 28 cs = some x) : ∃ p : Pt, cs = PtC p ∧ PtOk p := by
  obtain ⟨hl, f', xs, hm, hx⟩ := trod_array Tryz.underlying28 h
  rw [c40] at hl
  rw [range3] at hm
  simp only [List.mapM_cons, List.mapM_nil, c37, Option.bind_eq_bind, Option.bind_eq_some_iff, Option.pure_def, Option.some.injEq] at hm
  obtain ⟨a, ha, _, ⟨b, hb2, _, ⟨c, hc, _, rfl, rfl⟩, rfl⟩, rfl⟩ := hm
  rw [hx, bulk_agg] at hb
  have m1 := bulk_mem (List.map (fun x => x.1) [a, b, c]) a.1 (by simp)
  have m2 := bulk_mem (List.map (fun x => x.1) [a, b, c]) b.1 (by simp)
  have m3 := bulk_mem (List.map (fun x => x.1) [a, b, c]) c.1 (by simp)
  obtain ⟨s0, e0, o0⟩ := trod_Sl (by omega) ha
  obtain ⟨s1, e1, o1⟩ := trod_Sl (by omega) hb2
  obtain ⟨s2, e2, o2⟩ := trod_Sl (by omega) hc
  refine ⟨⟨s0, s1, s2⟩, ?_, o0, o1, o2⟩
  have e : cs = (cs.drop 0).take (4 + (4 + 4)) := by rw [List.drop_zero, List.take_of_length_le (by omega)]
  rw [e, seg_app, seg_app, show cs.drop 0 = cs.drop (0 * 4) from rfl, e0, show (0 + 4) = 1 * 4 from rfl, e1, show (1 * 4 + 4) = 2 * 4 from rfl, e2]
  rfl
theorem trod_Lt (hb : uptoBulk x.1 ≤ 1048576) (h : DataW.trod enc Tryz.prog w base spare held fuel 89 cs = some x) : ∃ l : Lt, cs = LtC l ∧ LtOk l := by
  obtain ⟨hl, f', xs, hm, hx⟩ := trod_struct Tryz.underlying89 h
  rw [c43] at hl
  simp only [List.mapM_cons, List.mapM_nil, c41, c40, c37, Option.bind_eq_bind, Option.bind_eq_some_iff, Option.pure_def, Option.some.injEq] at hm
  obtain ⟨a, ha, _, ⟨b, hb2, _, ⟨c, hc, _, ⟨d, hd, _, rfl, rfl⟩, rfl⟩, rfl⟩, rfl⟩ := hm
  rw [hx, bulk_agg] at hb
  have m2 := bulk_mem (List.map (fun x => x.1) [a, b, c, d]) b.1 (by simp)
  have m3 := bulk_mem (List.map (fun x => x.1) [a, b, c, d]) c.1 (by simp)
  have m4 := bulk_mem (List.map (fun x => x.1) [a, b, c, d]) d.1 (by simp)
  obtain ⟨k, e0, d0⟩ := trod_int Tryz.underlying87 ha
  obtain ⟨p, e1, o1⟩ := trod_Pt (by omega) hb2
  obtain ⟨s, e2, o2⟩ := trod_Sl (by omega) hc
  obtain ⟨u, e3, o3⟩ := trod_Sl (by omega) hd
  refine ⟨⟨k, p, s, u⟩, ?_, o1, o2, o3⟩
  have e : cs = (cs.drop 0).take (1 + (12 + (4 + 4))) := by rw [List.drop_zero, List.take_of_length_le (by omega)]
  rw [e, seg_app, seg_app, seg_app, e0, e1, e2, e3]
  rfl
theorem list_choose {α : Type} (p : Nat → α → Prop) : ∀ n, (∀ i, i < n → ∃ a, p i a) → ∃ l : List α, l.length = n ∧ ∀ (i : Nat) a, l[i]? = some a → p i a
  | 0, _ => ⟨[], rfl, fun i a h => by simp at h⟩
  | n + 1, h => by
    obtain ⟨l, hl, hp⟩ := list_choose p n (fun i hi => h i (by omega))
    obtain ⟨a, ha⟩ := h n (by omega)
    refine ⟨l ++ [a], by simp [hl], fun i b hb => ?_⟩
    rcases Nat.lt_or_ge i l.length with hi | hi
    · rw [List.getElem?_append_left hi] at hb
      exact hp i b hb
    · have : i = n := by
        have := (List.getElem?_eq_some_iff.1 hb).1
        simp at this
        omega
      subst this
      rw [List.getElem?_append_right (by omega), hl, Nat.sub_self] at hb
      simp at hb
      subst hb
      exact ha
theorem trod_row {α : Type} {t e : TypeId} {sz : Nat} (C : α → List Value → Prop) (ht : Tryz.prog.underlying t = some (.slice e)) (hc : Tryz.prog.cellsOf e = sz) (hsz : 0 < sz) (hb : uptoBulk x.1 ≤ 1048576) (h : DataW.trod enc Tryz.prog w base spare held fuel t cs = some x)
    (hel : ∀ (n : Nat) (cs' : List Value) (y : DataW H × List MemPlace), uptoBulk y.1 ≤ 1048576 → DataW.trod enc Tryz.prog w base spare held n e cs' = some y → ∃ a, C a cs') :
    ∃ (A : Option Addr) (as_ : List α) (c : Nat), cs = [.slice A as_.length c] ∧ as_.length ≤ c ∧ c ≤ 9223372036854775807 ∧ as_.length ≤ 1048576 ∧ RowAt w [] sz C A as_ := by
  rcases Go.Deep.open_slice ht h with ⟨rfl, _⟩ | ⟨a, len, cap, m, n, D, Pl, rfl, _, hl, hm, hmm, hx, hall⟩
  · exact ⟨Option.none, [], 0, rfl, by simp, by omega, by simp, fun i y hy => by simp at hy⟩
  · have hlm : len ≤ m := by rw [hmm]; split <;> omega
    have hx1 : x.1 = .slice ((List.range len).map D) ((List.range (m - len)).map fun j => D (len + j)) := by rw [hx]
    rw [hx1] at hb
    simp only [uptoBulk] at hb
    have hlen := bulk_len ((List.range len).map D)
    rw [List.length_map, List.length_range] at hlen
    obtain ⟨l, hl2, hp⟩ := list_choose (fun i y => ∃ cs', w.cells? base (a.add (i * sz)) sz = some cs' ∧ C y cs') len (fun i hi => by
      obtain ⟨cs', h1, h2⟩ := hall i (by omega)
      rw [hc] at h1
      have hbi := bulk_mem ((List.range len).map D) (D i) (List.mem_map.2 ⟨i, List.mem_range.2 hi, rfl⟩)
      obtain ⟨y, hy⟩ := hel n cs' (D i, Pl i) (by simp only; omega) h2
      exact ⟨y, cs', h1, hy⟩)
    subst hl2
    refine ⟨some a, l, cap, rfl, hl, hm, by omega, fun i y hy => ?_⟩
    obtain ⟨cs', h1, h2⟩ := hp i y hy
    obtain ⟨_, hlen2, hcell⟩ := World.cells?_some h1
    have hspot : a.spot = Option.none := by
      have hil : 0 < l.length := by have := (List.getElem?_eq_some_iff.1 hy).1; omega
      obtain ⟨cs0, g1, g2⟩ := hp 0 l[0] (List.getElem?_eq_getElem hil)
      obtain ⟨_, glen, gcell⟩ := World.cells?_some g1
      have h0 := gcell 0 (by omega)
      rw [List.getElem?_eq_getElem (by omega)] at h0
      have := World.cell?_spot h0
      rw [Nat.zero_mul] at this
      simpa [Addr.add] using this
    obtain ⟨b, o, sp⟩ := a
    simp only at hspot
    subst hspot
    refine ⟨b, o, cs', rfl, h2, fun j v hv => .old ?_⟩
    have hj : j < sz := by rw [← hlen2]; exact (List.getElem?_eq_some_iff.1 hv).1
    have := hcell j hj
    rw [hv, add_none, add_none] at this
    exact this
theorem row_all {α : Type} {sz : Nat} {C : α → List Value → Prop} {ok : α → Prop} {G : Hp} {A : Option Addr} {xs : List α} (h : RowAt w G sz (fun a c => C a c ∧ ok a) A xs) : RowAt w G sz C A xs ∧ ∀ a ∈ xs, ok a :=
  ⟨fun i a hi => by obtain ⟨b, o, cs, h1, h2, h3⟩ := h i a hi; exact ⟨b, o, cs, h1, h2.1, h3⟩, fun a ha => by
    obtain ⟨i, hi, rfl⟩ := List.mem_iff_getElem.1 ha
    obtain ⟨b, o, cs, h1, h2, h3⟩ := h i _ (List.getElem?_eq_getElem hi)
    exact h2.2⟩
theorem trod_Rl (hb : uptoBulk x.1 ≤ 1048576) (h : DataW.trod enc Tryz.prog w base spare held fuel 31 cs = some x) : ∃ r : Rl, RlIs w [] r cs ∧ RlOk r ∧ r.body.length ≤ 1048576 := by
  obtain ⟨hl, f', xs, hm, hx⟩ := trod_struct Tryz.underlying31 h
  rw [c46] at hl
  simp only [List.mapM_cons, List.mapM_nil, c40, c44, Option.bind_eq_bind, Option.bind_eq_some_iff, Option.pure_def, Option.some.injEq] at hm
  obtain ⟨a, ha, _, ⟨b, hb2, _, rfl, rfl⟩, rfl⟩ := hm
  rw [hx, bulk_agg] at hb
  have m1 := bulk_mem (List.map (fun x => x.1) [a, b]) a.1 (by simp)
  have m2 := bulk_mem (List.map (fun x => x.1) [a, b]) b.1 (by simp)
  obtain ⟨p, e1, o1⟩ := trod_Pt (by omega) ha
  obtain ⟨A, ls, c, e2, h1, h2, h3, hr⟩ := trod_row (fun l cs => cs = LtC l ∧ LtOk l) Tryz.underlying29 c43 (by omega) (by omega) hb2 (fun n cs' y hy hz => trod_Lt hy hz)
  obtain ⟨hr1, hr2⟩ := row_all hr
  refine ⟨⟨p, ls⟩, ⟨A, c, ?_, h1, h2, hr1⟩, ⟨o1, hr2⟩, h3⟩
  have e : cs = (cs.drop 0).take (12 + 1) := by rw [List.drop_zero, List.take_of_length_le (by omega)]
  rw [e, seg_app, e1, e2]
  rfl
end
end Go.Proofs.YtfddkcmooommeaaGreatDoor.Gl
end
section
namespace Go.Proofs.YtfddkcmooommeaaGreatDoor.Gl
open Go.ChangeShapes Go.WideShapes Go.ChangeAt Go.RowKit Go.Lib
set_option linter.unusedVariables false
set_option linter.unnecessarySimpa false
set_option linter.unusedSimpArgs false
theorem laidOut : laidOutB Tryz.prog = true := by kernel_rfl
theorem sat_self (W : World) : Sat W [] W :=
  ⟨Below.refl _ _, fun _ _ h => by simp at h, by simp, fun b o hb h => by rw [Array.getElem?_eq_none hb] at h; cases h⟩
theorem post_old {H : Type} {enc : TypeId × Value → H} {P : Program} {f : Func} {s : ChangeSpec} {apart fresh handsOn again : Bool} {W W' : World} {args : Array Value} {v : Value} {ds gs : List (DataW H)} {before pa pv : List MemPlace}
    (hW : DataW.Whole enc P f.params.toList s.vars apart W args.toList ds gs before)
    (hres : ∀ (b : Nat) (sp : Nat → Bool) (hd : Bool), DataW.TrodAll enc P W' b sp hd f.resultTypes.toList (v.resultList f.resultTypes.size) (s.fn H (ds ++ gs)).results [])
    (hargs : ∀ sp : Nat → Bool, (∀ p ∈ before, sp p.block = true) → DataW.TrodAll enc P W' 0 sp true f.params.toList args.toList (s.fn H (ds ++ gs)).args pa)
    (hvars : ∀ sp : Nat → Bool, (∀ p ∈ before, sp p.block = true) → DataW.TrodVars enc P W' sp s.vars (s.fn H (ds ++ gs)).vars pv)
    (hps : before = pa ++ pv) (hb : Below W.heap.size W W')
    (hok : ∀ (j : Nat) (t : TypeId) (r : Value), f.resultTypes[j]? = some t → (v.resultList f.resultTypes.size)[j]? = some r → Value.okWide P W' .any 0 t r) :
    s.post enc P f apart fresh handsOn again W args v W' := by
  have hold : ∀ p ∈ before, (fun b => decide (b < W.heap.size)) p.block = true := fun p hp => by simpa using hW.lt p hp
  have hkeep : W.keptBut W' (· ∈ before) := hb.frame _
  refine ⟨ds, gs, before, [], pa, pv, hW, hres _ _ _, hargs _ hold, hvars _ hold, World.keptBut_mono (fun p hp => ⟨hp, .inr (by rw [hps, List.mem_append] at hp; exact hp)⟩) hkeep, fun _ => ?_⟩
  have hlt := hW.lt
  obtain ⟨_, _, _, _, _, hz, hn⟩ := hW
  have e0 : ([] ++ pa) ++ pv = before := by rw [List.nil_append]; exact hps.symm
  refine ⟨hok, _, _, ([] ++ pa) ++ pv, ⟨[] ++ pa, pv, trodAll_append (hargs _ (fun _ _ => rfl)) (hres _ _ _), hvars _ (fun _ _ => rfl), rfl, fun b off hp => ?_, fun ha => ?_⟩, fun p hp _ => ?_⟩
  · rw [e0] at hp
    have hl : b < W.heap.size := hlt _ hp
    exact (hb.frozen hl).trans (hz b off hp)
  · have := hn ha
    rw [← e0] at this
    exact this
  · rw [e0] at hp
    exact hp
theorem calls_of_GC {W : World} {f : FuncId} {args : Array Value} {R : Value → Hp → Prop} (h : GC Tryz.prog W f args R []) : Calls Tryz.prog f args W fun e W' => ∃ v G', e = .returned v ∧ Sat W G' W' ∧ R v G' :=
  (callsIn_wide (n := 0)).1 (h.2 0 W (sat_self W))
theorem agg_of {cs : Array Value} {l : List Value} (h : (Value.agg cs).cells.toList = l) : Value.agg cs = .agg l.toArray := by
  have : cs.toList = l := h
  rw [← this]
theorem ownK : ownKnob Tryz.prog.godebug = Option.none := by kernel_rfl
noncomputable def laidWorld (os : Os) : World :=
  let w0 := World.holding Tryz.prog os ⟨#[], #[], []⟩
  let put (h : Array Obj) (g : Nat) (cs : Array Value) : Array Obj := h.modify g fun
    | .cells _ t frozen => .cells cs t frozen
    | o => o
  let h1 := put w0.heap 1 (Lib.firstTab.map fun z => Value.int .u8 z).toArray
  let h2 := put h1 2 ((List.range 16).flatMap fun i => [Value.int .u8 (Lib.accLo i), Value.int .u8 (Lib.accHi i)]).toArray
  { w0 with heap := h2 }
theorem laid_met (os : Os) (args : Array Value) : laidMet Tryz.prog Rows.planFullUptoRow.laid ((laidWorld os).forCall (fun _ _ => 0) ⟨#[], args, []⟩).memory :=
  (LaidIn.of_run (l := [("unicode/utf8.acceptRanges", Rows.laid_unicode_utf8_acceptRanges), ("unicode/utf8.first", Rows.laid_unicode_utf8_first)]) [2, 1] 8 (by kernel_rfl) (by kernel_rfl) (by kernel_rfl) (by kernel_rfl)).met
def noRule : Value := .agg #[.string "".toUTF8, .int .i64 0, .string "".toUTF8, .string "".toUTF8, .string "".toUTF8, .int .i64 0, .string "".toUTF8, .string "".toUTF8, .string "".toUTF8, .int .i64 0, .string "".toUTF8, .string "".toUTF8, .slice Option.none 0 0]
def noSl {H : Type} : DataW H := .agg [.lit (.string []), .agg [.lit (.int .i64 0), .lit (.string []), .lit (.string [])]]
def noRuleD {H : Type} : DataW H := .agg [.agg [noSl, noSl, noSl], .nil]
theorem trod_Zs {w : World} {H : Type} {enc : TypeId × Value → H} {base : Nat} {spare : Nat → Bool} {held : Bool} {fuel : Nat} {cs : List Value} {x : DataW H × List MemPlace} (hb : Rows.uptoBulk x.1 ≤ 1048576) (h : DataW.trod enc Tryz.prog w base spare held fuel 32 cs = some x) :
    ∃ (A : Option Addr) (zs : List Int) (c : Nat), cs = [.slice A zs.length c] ∧ zs.length ≤ c ∧ c ≤ 9223372036854775807 ∧ zs.length ≤ 1048576 ∧ IntsAt w [] A zs :=
  trod_row (sz := 1) (fun z cs => cs = [.int .i64 z]) Tryz.underlying32 (by kernel_rfl) (by omega) hb h (fun n cs' y _ hz => by
    obtain ⟨z, e, _⟩ := trod_int Tryz.underlying3 hz
    exact ⟨z, e⟩)
end Go.Proofs.YtfddkcmooommeaaGreatDoor.Gl
end
section
namespace Go.Proofs.YtfddkcmooommeaaGreatDoor.Gl
open Go.RowKit Go.Shelf
set_option linter.unusedVariables false
set_option linter.unnecessarySimpa false
set_option linter.unusedSimpArgs false
attribute [-simp] List.getD_eq_getElem?_getD
section
variable {α : Type} {C : α → List Value} {sz : Nat}
end
def numF (L : List Tm) (t : Tm) : Nat × List Tm := match idxT L t with
  | some n => (n + 1, L)
  | none => (L.length + 1, L ++ [t])
def placeW (vars : List ByteArray) (L : List Tm) (s : Sl) : Pl × List Tm := match (bif emp s.v then none else idxN vars s.v) with
  | some i => (⟨(i : Nat), 0⟩, L)
  | none => (⟨-1, (numF L s.t).1⟩, (numF L s.t).2)
theorem placeW_t {vars : List ByteArray} {L : List Tm} {s : Sl} (h : emp s.v = true ∨ vars.any (fun x => s.v.toList == x.toList) = false) : placeW vars L s = (⟨-1, (numF L s.t).1⟩, (numF L s.t).2) := by
  have : (bif emp s.v then none else idxN vars s.v) = none := by
    rcases h with h | h
    · rw [h]; rfl
    · cases emp s.v
      · rw [cond_false]
        unfold idxN
        rw [List.findIdx?_eq_none_iff]
        intro x hx
        rw [List.any_eq_false] at h
        have := h x hx
        simpa using this
      · rfl
  unfold placeW
  rw [this]
def rowW (vars : List ByteArray) (L : List Tm) (p : Pt) : Rw × List Tm :=
  (⟨(placeW vars L p.s0).1, (placeW vars (placeW vars L p.s0).2 p.s1).1, (placeW vars (placeW vars (placeW vars L p.s0).2 p.s1).2 p.s2).1⟩, (placeW vars (placeW vars (placeW vars L p.s0).2 p.s1).2 p.s2).2)
def stepW (vars : List ByteArray) (L : List Tm) (l : Lt) : St × List Tm :=
  if l.kind = 1 then (⟨1, (rowW vars L l.pat).1, zPl, zPl⟩, (rowW vars L l.pat).2)
  else if l.kind = 2 then (⟨2, (rowW vars L l.pat).1, zPl, zPl⟩, (rowW vars L l.pat).2)
  else (⟨if l.kind = 4 then 4 else 3, zRw, (placeW vars L l.a).1, (placeW vars (placeW vars L l.a).2 l.b).1⟩, (placeW vars (placeW vars L l.a).2 l.b).2)
theorem stepW_1 {vars : List ByteArray} {L : List Tm} {l : Lt} (h : l.kind = 1) : stepW vars L l = (⟨1, (rowW vars L l.pat).1, zPl, zPl⟩, (rowW vars L l.pat).2) := by unfold stepW; rw [if_pos h]
theorem stepW_2 {vars : List ByteArray} {L : List Tm} {l : Lt} (h1 : ¬ l.kind = 1) (h : l.kind = 2) : stepW vars L l = (⟨2, (rowW vars L l.pat).1, zPl, zPl⟩, (rowW vars L l.pat).2) := by unfold stepW; rw [if_neg h1, if_pos h]
theorem stepW_4 {vars : List ByteArray} {L : List Tm} {l : Lt} (h1 : ¬ l.kind = 1) (h2 : ¬ l.kind = 2) (h : l.kind = 4) : stepW vars L l = (⟨4, zRw, (placeW vars L l.a).1, (placeW vars (placeW vars L l.a).2 l.b).1⟩, (placeW vars (placeW vars L l.a).2 l.b).2) := by unfold stepW; rw [if_neg h1, if_neg h2, if_pos h]
theorem stepW_3 {vars : List ByteArray} {L : List Tm} {l : Lt} (h1 : ¬ l.kind = 1) (h2 : ¬ l.kind = 2) (h : ¬ l.kind = 4) : stepW vars L l = (⟨3, zRw, (placeW vars L l.a).1, (placeW vars (placeW vars L l.a).2 l.b).1⟩, (placeW vars (placeW vars L l.a).2 l.b).2) := by unfold stepW; rw [if_neg h1, if_neg h2, if_neg h]
end Go.Proofs.YtfddkcmooommeaaGreatDoor.Gl
end
section
namespace Go.Proofs.YtfddkcmooommeaaGreatDoor.Gl
open Go.RowKit Go.Shelf
set_option linter.unusedVariables false
set_option linter.unnecessarySimpa false
set_option linter.unusedSimpArgs false
attribute [-simp] List.getD_eq_getElem?_getD
def standsL (k : List Lt) (s : ByteArray) : Bool := k.any (fun t => (patL t).any (fun q => q.toList == s.toList))
def readyW (taken : List Lt) (l : Lt) : Bool := (slotsOf l).all (fun s => emp s.v || standsL taken s.v)
end Go.Proofs.YtfddkcmooommeaaGreatDoor.Gl
end
section
namespace Go.Proofs.YtfddkcmooommeaaGreatDoor.Gl
open Go.RowKit Go.Shelf
set_option linter.unusedVariables false
set_option linter.unnecessarySimpa false
set_option linter.unusedSimpArgs false
attribute [-simp] List.getD_eq_getElem?_getD
def fT (p : Lt → Bool) (xs : List Lt) (i : Nat) : List Lt := (xs.take i).filter p
theorem fT_yes {p : Lt → Bool} {xs : List Lt} {i : Nat} {x : Lt} (h : xs[i]? = some x) (hp : p x = true) : fT p xs (i + 1) = fT p xs i ++ [x] := by
  unfold fT
  rw [List.take_add_one, h, List.filter_append]
  simp [hp]
theorem fT_no {p : Lt → Bool} {xs : List Lt} {i : Nat} {x : Lt} (h : xs[i]? = some x) (hp : p x = false) : fT p xs (i + 1) = fT p xs i := by
  unfold fT
  rw [List.take_add_one, h, List.filter_append]
  simp [hp]
theorem fT_all {p : Lt → Bool} {xs : List Lt} {i : Nat} (h : xs.length ≤ i) : fT p xs i = xs.filter p := by unfold fT; rw [List.take_of_length_le h]
def isMt (l : Lt) : Bool := decide (l.kind = 1)
def isCt (l : Lt) : Bool := decide (l.kind = 3) || decide (l.kind = 4)
def isNt (l : Lt) : Bool := decide (l.kind = 2)
def waitL (body : List Lt) : List Lt := body.filter isCt ++ body.filter isNt
def cntZ (order : List Int) (k : Nat) : Nat := order.countP (fun z => decide (z = (k : Int)))
def oneZ (order : List Int) (k : Nat) : Bool := decide ((cntZ order k : Int) = 1)
def goodF (n : Nat) (order : List Int) : Bool := decide ((order.length : Int) = (n : Int)) && (List.range n).all (oneZ order)
theorem cover (l : List Int) : ∀ n : Nat, (∀ k : Nat, k < n → (k : Int) ∈ l) → ∃ l', l.Perm ((List.range n).map (fun k : Nat => (k : Int)) ++ l')
  | 0, _ => ⟨l, by simp⟩
  | n + 1, h => by
    obtain ⟨l', hl⟩ := cover l n (fun k hk => h k (by omega))
    have hn : (n : Int) ∈ l' := by
      rcases List.mem_append.1 (hl.mem_iff.1 (h n (by omega))) with h1 | h1
      · obtain ⟨k, hk, e⟩ := List.mem_map.1 h1
        have := List.mem_range.1 hk
        omega
      · exact h1
    refine ⟨l'.erase (n : Int), hl.trans ?_⟩
    rw [List.range_succ, List.map_append, List.append_assoc]
    exact List.Perm.append_left _ (List.perm_cons_erase hn)
theorem good_perm {n : Nat} {order : List Int} (h : goodF n order = true) : order.Perm ((List.range n).map (fun k : Nat => (k : Int))) := by
  unfold goodF at h
  rw [Bool.and_eq_true, decide_eq_true_eq, List.all_eq_true] at h
  obtain ⟨h1, h2⟩ := h
  obtain ⟨l', hl⟩ := cover order n (fun k hk => by
    have h3 := h2 k (List.mem_range.2 hk)
    unfold oneZ cntZ at h3
    rw [decide_eq_true_eq] at h3
    obtain ⟨z, hz, e⟩ := List.countP_pos_iff.1 (show 0 < order.countP (fun z => decide (z = (k : Int))) by omega)
    rw [decide_eq_true_eq] at e
    exact e ▸ hz)
  have h4 := hl.length_eq
  rw [List.length_append, List.length_map, List.length_range] at h4
  have h5 : l' = [] := List.length_eq_zero_iff.1 (by omega)
  rw [h5, List.append_nil] at hl
  exact hl
theorem good_range {n : Nat} {order : List Int} (h : goodF n order = true) : order.length = n ∧ ∀ z ∈ order, 0 ≤ z ∧ z < n := by
  have hp := good_perm h
  refine ⟨by rw [hp.length_eq]; simp, fun z hz => ?_⟩
  obtain ⟨k, hk, rfl⟩ := List.mem_map.1 (hp.mem_iff.1 hz)
  have := List.mem_range.1 hk
  omega
structure PS where
  tk : List Lt
  wt : List Lt
  out : List Lt
def zLt : Lt := ⟨0, zPt, zSl, zSl⟩
def mAt (ms : List Lt) (good : Bool) (order : List Int) (p : Nat) : Lt := if good = true then ms.getD (order.getD p 0).toNat zLt else ms.getD p zLt
def flushW (q : PS) : PS := ⟨q.tk, q.wt.filter (fun l => !readyW q.tk l), q.out ++ q.wt.filter (readyW q.tk)⟩
def preW (ms : List Lt) (good : Bool) (order : List Int) (q : PS) : Nat → PS
  | 0 => q
  | p + 1 => ⟨q.tk ++ [mAt ms good order p], q.wt, q.out ++ [mAt ms good order p]⟩
def stW (ms : List Lt) (good : Bool) (order : List Int) (q : PS) : Nat → PS
  | 0 => q
  | i + 1 => flushW (preW ms good order (stW ms good order q i) i)
def partsW (body : List Lt) (order : List Int) : List Lt := (stW (body.filter isMt) (goodF (body.filter isMt).length order) order ⟨[], waitL body, []⟩ ((body.filter isMt).length + 1)).out
theorem pre_wt (ms : List Lt) (good : Bool) (order : List Int) (q : PS) (i : Nat) : (preW ms good order q i).wt = q.wt := by cases i <;> rfl
theorem filter_two (p : Lt → Bool) (l : List Lt) : (l.filter p).length + (l.filter (fun x => !p x)).length = l.length := by
  induction l with
  | nil => rfl
  | cons x l ih =>
    cases h : p x <;> simp [h] <;> omega
theorem Hs.left (F O T W R : Hp) : Hs (F ++ (O ++ (T ++ (W ++ R)))) (O ++ (T ++ (F ++ R))) := (Hs.sub ((((List.sublist_append_right W R).append_left T).append_left O).append_left F)).trans (Hs.perm (by
  rw [← List.append_assoc O T R, ← List.append_assoc O T (F ++ R), ← List.append_assoc F, ← List.append_assoc (O ++ T)]
  exact List.Perm.append_right _ List.perm_append_comm))
end Go.Proofs.YtfddkcmooommeaaGreatDoor.Gl
end
section
namespace Go.Proofs.YtfddkcmooommeaaGreatDoor.Gl
open Go.RowKit Go.Shelf
set_option linter.unusedVariables false
set_option linter.unnecessarySimpa false
set_option linter.unusedSimpArgs false
attribute [-simp] List.getD_eq_getElem?_getD
def passW (vars : List ByteArray) (L : List Tm) (body : List Lt) (i : Nat) : List Tm := (body.take i).foldl (fun L l => (stepW vars L l).2) L
theorem passW_succ {vars : List ByteArray} {L : List Tm} {body : List Lt} {i : Nat} {l : Lt} (h : body[i]? = some l) : passW vars L body (i + 1) = (stepW vars (passW vars L body i) l).2 := by
  unfold passW
  rw [List.take_add_one, h, List.foldl_append]
  rfl
end Go.Proofs.YtfddkcmooommeaaGreatDoor.Gl
end
section
namespace Go.Proofs.YtfddkcmooommeaaGreatDoor.Gl
open Go.RowKit Go.Shelf
set_option linter.unusedVariables false
set_option linter.unnecessarySimpa false
set_option linter.unusedSimpArgs false
attribute [-simp] List.getD_eq_getElem?_getD
def Both (lim : Nat) (L : List Tm) (q : List Tm × Int) : Prop := (q.2 = 0 ∧ q.1 = L ∧ L.length ≤ lim) ∨ (q.2 = 9 ∧ lim < L.length)
def HasV (vars : List ByteArray) (s : Sl) : Prop := emp s.v = false → ∃ i, idxN vars s.v = some i
theorem placeW_v {vars : List ByteArray} {L : List Tm} {s : Sl} {i : Nat} (he : emp s.v = false) (h : idxN vars s.v = some i) : placeW vars L s = (⟨(i : Nat), 0⟩, L) := by
  unfold placeW
  rw [he, cond_false, h]
theorem idxB_some {vars : List ByteArray} {s : ByteArray} {i : Nat} (h : idxN vars s = some i) : idxB vars s = (i : Nat) := by unfold idxB; rw [h]
theorem Both.place {lim : Nat} {vars : List ByteArray} {L : List Tm} {q : List Tm × Int} {s : Sl} (hv : HasV vars s) (h : Both lim L q) : Both lim (placeW vars L s).2 (placeF lim vars q s).2 := by
  cases he : emp s.v with
  | false =>
    obtain ⟨i, hi⟩ := hv he
    rw [placeW_v he hi, placeF_var he]
    exact h
  | true =>
    rw [placeW_t (.inl he)]
    rcases h with ⟨h1, rfl, h3⟩ | ⟨h1, h2⟩
    · rw [placeF_t0 he h1]
      unfold internF numF
      cases idxT q.1 s.t with
      | some n => exact .inl ⟨rfl, rfl, h3⟩
      | none =>
        by_cases hl : lim ≤ q.1.length
        · simp only [if_pos hl]
          exact .inr ⟨rfl, by show lim < (q.1 ++ [s.t]).length; rw [List.length_append]; simp; omega⟩
        · simp only [if_neg hl]
          exact .inl ⟨rfl, rfl, by show (q.1 ++ [s.t]).length ≤ lim; rw [List.length_append]; simp; omega⟩
    · rw [placeF_t1 he (by omega)]
      refine .inr ⟨h1, ?_⟩
      unfold numF
      cases idxT L s.t with
      | some n => exact h2
      | none => show lim < (L ++ [s.t]).length; rw [List.length_append]; omega
theorem Both.row {lim : Nat} {vars : List ByteArray} {L : List Tm} {q : List Tm × Int} {p : Pt} (hv : ∀ s ∈ sl3 p, HasV vars s) (h : Both lim L q) : Both lim (rowW vars L p).2 (rowF lim vars q p).2 := by
  have h0 := h.place (hv p.s0 (by simp [sl3]))
  have h1 := h0.place (hv p.s1 (by simp [sl3]))
  exact h1.place (hv p.s2 (by simp [sl3]))
theorem Both.step {lim : Nat} {vars : List ByteArray} {L : List Tm} {q : List Tm × Int} {l : Lt} (hv : ∀ s ∈ stepSl l, HasV vars s) (h : Both lim L q) : Both lim (stepW vars L l).2 (stepF lim vars q l).2 := by
  unfold stepSl at hv
  by_cases h1 : l.kind = 1
  · rw [if_pos (.inl h1)] at hv
    rw [stepW_1 h1, stepF_1 h1]; exact h.row hv
  by_cases h2 : l.kind = 2
  · rw [if_pos (.inr h2)] at hv
    rw [stepW_2 h1 h2, stepF_2 h1 h2]; exact h.row hv
  rw [if_neg (by omega)] at hv
  have h3 := (h.place (hv l.a (by simp))).place (hv l.b (by simp))
  unfold stepW stepF
  rw [if_neg h1, if_neg h1, if_neg h2, if_neg h2]
  exact h3
theorem bodyStep_q (lim : Nat) (vars : List ByteArray) (a : BS) (l : Lt) : ((bodyStep lim vars a l).ts, (bodyStep lim vars a l).bad) = (stepF lim vars (a.ts, a.bad) l).2 := by
  by_cases h1 : (stepF lim vars (a.ts, a.bad) l).1.kind = 1
  · rw [bodyStep_1 h1]
  by_cases h2 : (stepF lim vars (a.ts, a.bad) l).1.kind = 2
  · rw [bodyStep_2 h1 h2]
  · rw [bodyStep_3 h1 h2]
theorem Both.body {lim : Nat} {vars : List ByteArray} {L : List Tm} {ts : List Tm} {bad : Int} {body : List Lt} (hv : ∀ l ∈ body, ∀ s ∈ stepSl l, HasV vars s) (h : Both lim L (ts, bad)) : ∀ i, i ≤ body.length → Both lim (passW vars L body i) ((bodyTo lim vars ts bad body i).ts, (bodyTo lim vars ts bad body i).bad)
  | 0, _ => h
  | i + 1, hi => by
    have ih := Both.body hv h i (by omega)
    have hx := List.getElem?_eq_getElem (show i < body.length by omega)
    rw [passW_succ hx, bodyTo_succ hx, bodyStep_q]
    exact ih.step (hv _ (List.getElem_mem _))
theorem idxT_mem {L : List Tm} {t : Tm} (h : t ∈ L) : ∃ n, idxT L t = some n := by
  cases e : idxT L t with
  | some n => exact ⟨n, rfl⟩
  | none => exact absurd h (idxT_none e)
theorem idxT_app {L M : List Tm} {t : Tm} {n : Nat} (h : idxT L t = some n) : idxT (L ++ M) t = some n := by
  unfold idxT at h ⊢
  rw [List.findIdx?_append, h]
  rfl
theorem numF_in {L : List Tm} {t : Tm} {n : Nat} (h : idxT L t = some n) : numF L t = (n + 1, L) := by unfold numF; rw [h]
theorem numF_pre (L : List Tm) (t : Tm) : L <+: (numF L t).2 := by
  unfold numF
  cases idxT L t with
  | some n => exact List.prefix_refl _
  | none => exact List.prefix_append _ _
theorem numF_mem (L : List Tm) (t : Tm) : idxT (numF L t).2 t = some ((numF L t).1 - 1) ∧ 0 < (numF L t).1 := by
  unfold numF
  cases e : idxT L t with
  | some n => exact ⟨e, Nat.succ_pos _⟩
  | none =>
    refine ⟨?_, Nat.succ_pos _⟩
    have h2 := e
    unfold idxT at e ⊢
    rw [List.findIdx?_append, e]
    simp [List.findIdx?_cons, tmEq_iff.2]
theorem placeW_pre (vars : List ByteArray) (L : List Tm) (s : Sl) : L <+: (placeW vars L s).2 := by
  unfold placeW
  split
  · exact List.prefix_refl _
  · exact numF_pre _ _
theorem rowW_pre (vars : List ByteArray) (L : List Tm) (p : Pt) : L <+: (rowW vars L p).2 := ((placeW_pre _ _ _).trans (placeW_pre _ _ _)).trans (placeW_pre _ _ _)
theorem stepW_pre (vars : List ByteArray) (L : List Tm) (l : Lt) : L <+: (stepW vars L l).2 := by
  unfold stepW
  split
  · exact rowW_pre _ _ _
  · split
    · exact rowW_pre _ _ _
    · exact (placeW_pre _ _ _).trans (placeW_pre _ _ _)
def Got (L : List Tm) (s : Sl) : Prop := emp s.v = true → s.t ∈ L
theorem Got.mono {L L' : List Tm} {s : Sl} (h : Got L s) (hp : L <+: L') : Got L' s := fun he => hp.subset (h he)
theorem placeW_got {vars : List ByteArray} {L : List Tm} {s : Sl} (hv : HasV vars s) (h : Got L s) : (placeW vars L s).2 = L := by
  cases he : emp s.v with
  | false => obtain ⟨i, hi⟩ := hv he; rw [placeW_v he hi]
  | true =>
    obtain ⟨n, hn⟩ := idxT_mem (h he)
    rw [placeW_t (.inl he), numF_in hn]
theorem placeW_puts (vars : List ByteArray) (L : List Tm) (s : Sl) : Got (placeW vars L s).2 s := fun he => by
  rw [placeW_t (.inl he)]
  exact List.mem_of_getElem? (idxT_some (numF_mem L s.t).1)
theorem placeW_same {vars : List ByteArray} {L L' : List Tm} {s : Sl} (hp : (placeW vars L s).2 <+: L') : (placeW vars L' s).1 = (placeW vars L s).1 := by
  unfold placeW at hp ⊢
  split at hp
  · rfl
  · obtain ⟨M, rfl⟩ := hp
    obtain ⟨h1, h2⟩ := numF_mem L s.t
    simp only at h1 ⊢
    rw [numF_in (idxT_app h1)]
    simp only
    rw [Nat.sub_add_cancel h2]
theorem passW_pre {vars : List ByteArray} {L : List Tm} {body : List Lt} {i : Nat} (hi : i < body.length) : passW vars L body i <+: passW vars L body (i + 1) := by
  rw [passW_succ (List.getElem?_eq_getElem hi)]
  exact stepW_pre _ _ _
theorem passW_mono {vars : List ByteArray} {L : List Tm} {body : List Lt} {i : Nat} : ∀ (d : Nat), i + d ≤ body.length → passW vars L body i <+: passW vars L body (i + d)
  | 0, _ => List.prefix_refl _
  | d + 1, h => (passW_mono d (by omega)).trans (passW_pre (by omega))
theorem mAt_mem {ms : List Lt} {good : Bool} {order : List Int} {p : Nat} (hp : p < ms.length) (hg : good = true → goodF ms.length order = true) : mAt ms good order p ∈ ms := by
  unfold mAt
  split
  · rename_i h
    obtain ⟨h1, h2⟩ := good_range (hg h)
    have hz := List.getElem?_eq_getElem (show p < order.length by omega)
    have h3 := h2 _ (List.getElem_mem (show p < order.length by omega))
    rw [show order.getD p 0 = order[p] by rw [List.getD, hz]; rfl, List.getD, List.getElem?_eq_getElem (show (order[p]).toNat < ms.length by omega)]
    exact List.getElem_mem _
  · rw [List.getD, List.getElem?_eq_getElem hp]
    exact List.getElem_mem _
theorem st_all {P : Lt → Prop} {ms : List Lt} {good : Bool} {order : List Int} {q : PS} (hg : good = true → goodF ms.length order = true) (hm : ∀ l ∈ ms, P l) (hw : ∀ l ∈ q.wt ++ q.out, P l) : ∀ i, i ≤ ms.length + 1 → ∀ l ∈ (stW ms good order q i).wt ++ (stW ms good order q i).out, P l
  | 0, _ => hw
  | i + 1, hi => by
    have ih := st_all hg hm hw i (by omega)
    have h1 : ∀ l ∈ (preW ms good order (stW ms good order q i) i).wt ++ (preW ms good order (stW ms good order q i) i).out, P l := by
      rcases i with _ | p
      · exact ih
      · intro l hl
        simp only [preW, List.mem_append, List.mem_singleton] at hl
        rcases hl with h | h | rfl
        · exact ih l (List.mem_append_left _ h)
        · exact ih l (List.mem_append_right _ h)
        · exact hm _ (mAt_mem (by omega) hg)
    intro l hl
    simp only [stW, flushW, List.mem_append, List.mem_filter] at hl
    rcases hl with h | h | h
    · exact h1 l (List.mem_append_left _ h.1)
    · exact h1 l (List.mem_append_right _ h)
    · exact h1 l (List.mem_append_left _ h.1)
theorem parts_mem {body : List Lt} {order : List Int} : ∀ l ∈ partsW body order, l ∈ body := by
  intro l hl
  refine st_all (P := fun l => l ∈ body) (ms := body.filter isMt) (good := goodF (body.filter isMt).length order) (order := order) (q := ⟨[], waitL body, []⟩) id (fun l h => (List.mem_filter.1 h).1) (fun l h => ?_) _ (Nat.le_refl _) l (List.mem_append_right _ hl)
  simp only [waitL, List.append_nil, List.mem_append, List.mem_filter] at h
  rcases h with h | h <;> exact h.1
theorem idxN_in {xs : List ByteArray} {s : ByteArray} (h : inB xs s = true) : ∃ i, idxN xs s = some i := by
  have h1 := idxB_in xs s
  rw [h, decide_eq_true_eq] at h1
  unfold idxB at h1
  cases e : idxN xs s with
  | some n => exact ⟨n, rfl⟩
  | none => rw [e] at h1; simp only at h1; omega
theorem inB_app {xs : List ByteArray} {s y : ByteArray} (h : inB xs s = true) : inB (xs ++ [y]) s = true := by
  unfold inB at h ⊢
  rw [List.any_append, h]
  rfl
theorem dd_has (q : List Sl) : ∀ i, i ≤ q.length → ∀ s ∈ q.take i, emp s.v = false → inB (dd (q.take i)) s.v = true
  | 0, _ => fun s hs => by simp at hs
  | i + 1, hi => by
    have ih := dd_has q i (by omega)
    have hx := List.getElem?_eq_getElem (show i < q.length by omega)
    intro s hs he
    rw [dd_succ hx]
    rw [List.take_add_one, hx] at hs
    have hself : ∀ x : Sl, inB (dd (q.take i) ++ [x.v]) x.v = true := fun x => by
      unfold inB eqB
      rw [List.any_append]
      simp
    rcases List.mem_append.1 hs with h | h
    · have h1 := ih s h he
      cases h2 : emp q[i].v with
      | true => rw [ddStep_no1 h2]; exact h1
      | false =>
        cases h3 : inB (dd (q.take i)) q[i].v with
        | true => rw [ddStep_no2 h3]; exact h1
        | false => rw [ddStep_yes h2 h3]; exact inB_app h1
    · have e : s = q[i] := by simpa using h
      subst e
      cases h3 : inB (dd (q.take i)) q[i].v with
      | true => rw [ddStep_no2 h3]; exact h3
      | false => rw [ddStep_yes he h3]; exact hself _
theorem hasV_of {q : List Sl} {s : Sl} (h : s ∈ q) : HasV (dd q) s := fun he => idxN_in (by
  have := dd_has q q.length (Nat.le_refl _) s (by rw [List.take_length]; exact h) he
  rwa [List.take_length] at this)
theorem stepSl_slots (l : Lt) : stepSl l = slotsOf l := by
  unfold stepSl slotsOf
  by_cases h : l.kind = 1 ∨ l.kind = 2
  · rw [if_pos h]
    have : (decide (l.kind = 1) || decide (l.kind = 2)) = true := by simpa using h
    rw [this]
    rfl
  · rw [if_neg h]
    have : (decide (l.kind = 1) || decide (l.kind = 2)) = false := by simpa using h
    rw [this]
    rfl
theorem head_has (r : Rl) : ∀ s ∈ sl3 r.head, HasV (dd (allSlots r)) s := fun s hs => hasV_of (by
  unfold allSlots allTake
  exact List.mem_append_left _ hs)
theorem body_has (r : Rl) : ∀ l ∈ r.body, ∀ s ∈ stepSl l, HasV (dd (allSlots r)) s := fun l hl s hs => hasV_of (by
  rw [stepSl_slots] at hs
  unfold allSlots allTake
  rw [List.take_length]
  exact List.mem_append_right _ (List.mem_flatMap.2 ⟨l, hl, hs⟩))
end Go.Proofs.YtfddkcmooommeaaGreatDoor.Gl
end
section
namespace Go.Proofs.YtfddkcmooommeaaGreatDoor.Gl
open Go.Shelf
set_option linter.unusedVariables false
set_option linter.unnecessarySimpa false
set_option linter.unusedSimpArgs false
def tryzRen189 : Go.Shelf.Ren := ⟨fun | 189 => 88 | 125 => 110 | 257 => 109 | 128 => 134 | 129 => 135 | 294 => 125 | 295 => 126 | 296 => 127 | 297 => 128 | 298 => 129 | 299 => 130 | 216 => 131 | 300 => 132 | 301 => 133 | 328 => 144 | 329 => 145 | 330 => 146 | 331 => 147 | 332 => 148 | 215 => 149 | 343 => 157 | n => n, fun | 28 => 32 | 3 => 3 | 46 => 149 | 0 => 0 | 51 => 35 | 53 => 192 | 4 => 4 | 183 => 183 | 182 => 182 | 131 => 188 | 5 => 5 | 9 => 9 | 218 => 198 | 222 => 202 | 228 => 208 | 229 => 168 | n => n, fun | n => n⟩
theorem Tryz_lays189 : Go.Proofs.Lays.n189 Tryz.prog tryzRen189 := {
  mixed := by kernel_rfl
  f125 := Tryz.func110.trans (congrArg some (by kernel_rfl))
  f128 := Tryz.func134.trans (congrArg some (by kernel_rfl))
  f129 := Tryz.func135.trans (congrArg some (by kernel_rfl))
  f189 := Tryz.func88.trans (congrArg some (by kernel_rfl))
  f215 := Tryz.func149.trans (congrArg some (by kernel_rfl))
  f216 := Tryz.func131.trans (congrArg some (by kernel_rfl))
  f257 := Tryz.func109.trans (congrArg some (by kernel_rfl))
  f294 := Tryz.func125.trans (congrArg some (by kernel_rfl))
  f295 := Tryz.func126.trans (congrArg some (by kernel_rfl))
  f296 := Tryz.func127.trans (congrArg some (by kernel_rfl))
  f297 := Tryz.func128.trans (congrArg some (by kernel_rfl))
  f298 := Tryz.func129.trans (congrArg some (by kernel_rfl))
  f299 := Tryz.func130.trans (congrArg some (by kernel_rfl))
  f300 := Tryz.func132.trans (congrArg some (by kernel_rfl))
  f301 := Tryz.func133.trans (congrArg some (by kernel_rfl))
  f328 := Tryz.func144.trans (congrArg some (by kernel_rfl))
  f329 := Tryz.func145.trans (congrArg some (by kernel_rfl))
  f330 := Tryz.func146.trans (congrArg some (by kernel_rfl))
  f331 := Tryz.func147.trans (congrArg some (by kernel_rfl))
  f332 := Tryz.func148.trans (congrArg some (by kernel_rfl))
  f343 := Tryz.func157.trans (congrArg some (by kernel_rfl))
  t0 := Tryz.underlying0
  a0 := Tryz.isAgg0
  z0 := Tryz.sizeOf0
  v0 := Tryz.zeroValue0
  t3 := Tryz.underlying3
  a3 := Tryz.isAgg3
  z3 := Tryz.sizeOf3
  v3 := Tryz.zeroValue3
  t4 := Tryz.underlying4
  a4 := Tryz.isAgg4
  z4 := Tryz.sizeOf4
  v4 := Tryz.zeroValue4
  t5 := Tryz.underlying5
  a5 := Tryz.isAgg5
  z5 := Tryz.sizeOf5
  v5 := Tryz.zeroValue5
  t9 := Tryz.underlying9
  a9 := Tryz.isAgg9
  z9 := Tryz.sizeOf9
  v9 := Tryz.zeroValue9
  t28 := Tryz.underlying32
  a28 := Tryz.isAgg32
  z28 := Tryz.sizeOf32
  v28 := Tryz.zeroValue32
  t46 := Tryz.underlying149
  a46 := Tryz.isAgg149
  z46 := Tryz.sizeOf149
  v46 := Tryz.zeroValue149
  t51 := Tryz.underlying35
  a51 := Tryz.isAgg35
  z51 := Tryz.sizeOf35
  v51 := Tryz.zeroValue35
  t53 := Tryz.underlying192
  a53 := Tryz.isAgg192
  z53 := Tryz.sizeOf192
  v53 := Tryz.zeroValue192
  t131 := Tryz.underlying188
  a131 := Tryz.isAgg188
  z131 := Tryz.sizeOf188
  v131 := Tryz.zeroValue188
  t182 := Tryz.underlying182
  a182 := Tryz.isAgg182
  z182 := Tryz.sizeOf182
  v182 := Tryz.zeroValue182
  t183 := Tryz.underlying183
  a183 := Tryz.isAgg183
  z183 := Tryz.sizeOf183
  v183 := Tryz.zeroValue183
  t218 := Tryz.underlying198
  a218 := Tryz.isAgg198
  z218 := Tryz.sizeOf198
  v218 := Tryz.zeroValue198
  t222 := Tryz.underlying202
  a222 := Tryz.isAgg202
  z222 := Tryz.sizeOf202
  v222 := Tryz.zeroValue202
  t228 := Tryz.underlying208
  a228 := Tryz.isAgg208
  z228 := Tryz.sizeOf208
  v228 := Tryz.zeroValue208
  t229 := Tryz.underlying168
  a229 := Tryz.isAgg168
  z229 := Tryz.sizeOf168
  v229 := Tryz.zeroValue168 }
end Go.Proofs.YtfddkcmooommeaaGreatDoor.Gl
end
section
namespace Go.Proofs.YtfddkcmooommeaaGreatDoor.Gl
open Go.RowKit Go.Shelf Go.Sort
set_option linter.unusedVariables false
set_option linter.unnecessarySimpa false
set_option linter.unusedSimpArgs false
attribute [-simp] List.getD_eq_getElem?_getD
def srtZ (xs : List Int) : List Int := xs.mergeSort fun x y => decide (x ≤ y)
theorem srtZ_perm (xs : List Int) : (srtZ xs).Perm xs := List.mergeSort_perm _ _
theorem srtZ_len (xs : List Int) : (srtZ xs).length = xs.length := (srtZ_perm xs).length_eq
theorem srtZ_mem {xs : List Int} {z : Int} : z ∈ srtZ xs ↔ z ∈ xs := (srtZ_perm xs).mem_iff
theorem Sat.grow {w0 : World} {G : Hp} {w : World} (h : Sat w0 G w) (os : Array Obj) : Sat w0 G (Sort.grow w os) := by
  have hlt : ∀ i, i < w.heap.size → (Sort.grow w os).heap[i]? = w.heap[i]? := fun i hi => heap_grow_old w os hi
  refine ⟨h.below.trans ⟨rfl, rfl, rfl, by simp, fun i hi => hlt i (by have := h.below.size; omega)⟩, fun b k hm => ?_, h.nodup, fun b o _ _ => trivial⟩
  obtain ⟨h1, h2⟩ := h.own b k hm
  exact ⟨h1, by rw [hlt b (h.lt hm)]; exact h2⟩
theorem zC_at {xs : List Int} {j : Nat} (h : j < xs.length) : (zC xs)[j]? = some (.int .i64 xs.toArray[j]!) := by
  unfold zC
  simp [h]
theorem holds_row {w0 : World} {G : Hp} {w : World} (hs : Sat w0 G w) {b room : Nat} {xs : List Int} (hm : (b, Know.row (zC xs) 3 room) ∈ G) : Holds (Value.int .i64) w b 0 xs.toArray := by
  obtain ⟨_, C, hC, hr, hh⟩ := hs.own b _ hm
  intro j hj
  have hj' : j < xs.length := by simpa using hj
  refine ⟨?_, by simp [World.frozen?, hC]⟩
  have := hh j _ (zC_at hj')
  simp [World.cell?, hC, this]
theorem sort_own (w0 : World) (G : Hp) (b cap room : Nat) (xs : List Int) (hroom : xs.length ≤ room) (hm : xs.length ≤ 100000) :
    GC Tryz.prog w0 88 #[.slice (some ⟨b, 0, none⟩) xs.length cap] (fun v G' => v = .tuple #[] ∧ (b, Know.row (zC (srtZ xs)) 3 room) :: G = G') ((b, .row (zC xs) 3 room) :: G) := by
  refine ⟨enters_of Tryz.func88 (by kernel_rfl) rfl, fun n w hs => ?_⟩
  have hblk : b < w.heap.size := hs.lt List.mem_cons_self
  have hH := holds_row hs List.mem_cons_self
  have h := Any.slices_Sort_int Tryz_lays189 b 0 cap xs w hH hblk (by omega)
  refine (callsIn_wide.2 h).mono ?_
  rintro e w' ⟨rfl, k, os, rfl⟩
  refine ⟨_, _, rfl, ?_, rfl, rfl⟩
  refine Sat.grow ?_ os
  obtain ⟨_, C, hC, hr, hh⟩ := hs.own b _ List.mem_cons_self
  refine Sat.turn (G1 := []) (k := .row (zC xs) 3 room) (w := w) hs rfl rfl rfl (by simp) (fun i hi => ?_) ?_
  · simp [putRow, mapBlock, Sort.ahead, Array.getElem?_modify, Ne.symm hi]
  · refine ⟨putCells (Value.int .i64) 0 (srtZ xs).toArray C, ?_, ?_, ?_⟩
    · simp [putRow, mapBlock, Sort.ahead, Array.getElem?_modify, hC, onCells, srtZ]
    · simp [putCells, hr]
    · intro j v hv
      have hj : j < (srtZ xs).length := by
        have := (List.getElem?_eq_some_iff.1 hv).1
        simpa [zC] using this
      rw [zC_at hj] at hv
      cases hv
      have hj2 : j < C.size := by have := srtZ_len xs; omega
      simp [putCells, hj, hj2]
theorem sorted_own (w0 : World) (G : Hp) (A : Option Addr) (xs : List Int) (c b1 : Nat) (hb1 : (b1, Know.exact (.cells #[.slice A xs.length c] 32 (0, 0))) ∈ G) (hx : IntsAt w0 G A xs) (hm : xs.length ≤ 100000) :
    GC Tryz.prog w0 57 #[.func (.func 89) #[] #[.pointer (some ⟨b1, 0, none⟩)]] (fun v G' => ∃ H, SlAt 1 3 (zC (srtZ xs)) (srtZ xs).length v H ∧ H ++ G = G') G := by
  refine GC.body (args := [.func (.func 89) #[] #[.pointer (some ⟨b1, 0, none⟩)]]) Tryz.func57 rfl (by kernel_rfl) rfl ?_
  refine GW.seq ?_
  refine GW.region ?_
  refine R.assign ⟨rfl, rfl, rfl, rfl⟩ rfl ?_
  refine GOps.nil ?_
  refine GW.seq ?_
  refine GW.region ?_
  refine R.move ⟨rfl, rfl, rfl, rfl⟩ rfl ?_
  refine R.call ⟨rfl, rfl, rfl, rfl⟩ rfl (vs := [_]) rfl ((sl_Collect _ _ A xs c b1 hb1 hx hm).mono ?_)
  rintro v5 _ ⟨H5, h5, rfl⟩
  refine R.assign ⟨rfl, rfl, rfl, rfl⟩ rfl ?_
  refine GOps.nil ?_
  refine GW.seq ?_
  refine GW.region ?_
  refine R.move ⟨rfl, rfl, rfl, rfl⟩ rfl ?_
  rcases Nat.eq_zero_or_pos xs.length with h0 | h0
  · obtain ⟨rfl, rfl⟩ := h5.2 h0
    obtain rfl := List.length_eq_zero_iff.1 h0
    refine R.call ⟨rfl, rfl, rfl, rfl⟩ rfl (vs := [_]) rfl ((sort_0 _ _).mono ?_)
    rintro _ _ ⟨rfl, rfl⟩
    refine GOps.nil ?_
    refine GW.seq ?_
    refine GW.region ?_
    refine R.move ⟨rfl, rfl, rfl, rfl⟩ rfl ?_
    refine R.assign ⟨rfl, rfl, rfl, rfl⟩ rfl ?_
    refine GOps.nil ?_
    exact GW.ret (Out.of (Res.one rfl rfl) (Hs.refl _) ⟨[], .nil (by rw [srtZ_len]; rfl) (by rw [show srtZ [] = [] from List.length_eq_zero_iff.1 (by rw [srtZ_len]; rfl)]; rfl), rfl⟩)
  · obtain ⟨bn, cn, rfl, rfl, hcn⟩ := h5.1.row_of h0
    refine R.call ⟨rfl, rfl, rfl, rfl⟩ rfl (vs := [_]) rfl ((sort_own _ G bn cn (cn * 1) xs (by omega) hm).mono ?_)
    rintro _ _ ⟨rfl, rfl⟩
    refine GOps.nil ?_
    refine GW.seq ?_
    refine GW.region ?_
    refine R.move ⟨rfl, rfl, rfl, rfl⟩ rfl ?_
    refine R.assign ⟨rfl, rfl, rfl, rfl⟩ rfl ?_
    refine GOps.nil ?_
    refine GW.ret (Out.of (Res.one rfl rfl) (Hs.refl _) ⟨[(bn, .row (zC (srtZ xs)) 3 (cn * 1))], ?_, rfl⟩)
    rw [srtZ_len]
    exact .row bn cn (by rw [Nat.mul_one, ← srtZ_len xs]; simp [zC]) hcn
end Go.Proofs.YtfddkcmooommeaaGreatDoor.Gl
end
section
namespace Go.Proofs.YtfddkcmooommeaaGreatDoor.Gl
open Go.RowKit Go.Shelf
set_option linter.unusedVariables false
set_option linter.unnecessarySimpa false
set_option linter.unusedSimpArgs false
attribute [-simp] List.getD_eq_getElem?_getD
theorem pl_bad0 {lim : Nat} {vars : List ByteArray} {q : List Tm × Int} {s : Sl} (h : (placeF lim vars q s).2.2 = 0) : q.2 = 0 := by
  cases he : emp s.v with
  | false => rw [placeF_var he] at h; exact h
  | true =>
    by_cases hq : q.2 = 0
    · exact hq
    · rw [placeF_t1 he hq] at h; exact h
theorem place_same {lim : Nat} {vars : List ByteArray} {L : List Tm} {q : List Tm × Int} {s : Sl} (hv : HasV vars s) (h : Both lim L q) (h0 : (placeF lim vars q s).2.2 = 0) : (placeF lim vars q s).1 = (placeW vars L s).1 := by
  cases he : emp s.v with
  | false =>
    obtain ⟨i, hi⟩ := hv he
    rw [placeW_v he hi, placeF_var he, idxB_some hi]
  | true =>
    have hq := pl_bad0 h0
    rw [placeF_t0 he hq] at h0 ⊢
    rw [placeW_t (.inl he)]
    rcases h with ⟨_, rfl, _⟩ | ⟨h1, _⟩
    · unfold internF at h0 ⊢
      unfold numF
      cases hx : idxT q.1 s.t with
      | some n => rfl
      | none =>
        rw [hx] at h0
        simp only at h0 ⊢
        by_cases hl : lim ≤ q.1.length
        · rw [if_pos hl] at h0; simp at h0
        · rw [if_neg hl]
    · omega
theorem row_same {lim : Nat} {vars : List ByteArray} {L : List Tm} {q : List Tm × Int} {p : Pt} (hv : ∀ s ∈ sl3 p, HasV vars s) (h : Both lim L q) (h0 : (rowF lim vars q p).2.2 = 0) : (rowF lim vars q p).1 = (rowW vars L p).1 := by
  have hv0 := hv p.s0 (by simp [sl3])
  have hv1 := hv p.s1 (by simp [sl3])
  have hv2 := hv p.s2 (by simp [sl3])
  have b2 : (placeF lim vars (placeF lim vars (placeF lim vars q p.s0).2 p.s1).2 p.s2).2.2 = 0 := h0
  have b1 := pl_bad0 b2
  have b0 := pl_bad0 b1
  unfold rowF rowW
  simp only
  rw [place_same hv0 h b0, place_same hv1 (h.place hv0) b1, place_same hv2 ((h.place hv0).place hv1) b2]
theorem row_bad {lim : Nat} {vars : List ByteArray} {q : List Tm × Int} {p : Pt} (h : (rowF lim vars q p).2.2 = 0) : q.2 = 0 := pl_bad0 (pl_bad0 (pl_bad0 h))
def kd (l : Lt) : Prop := l.kind = 1 ∨ l.kind = 2 ∨ l.kind = 3 ∨ l.kind = 4
theorem kd_may {l : Lt} (h : mayLt l = true) : kd l := by
  unfold mayLt at h
  unfold kd
  by_cases h1 : l.kind = 1
  · exact .inl h1
  by_cases h2 : l.kind = 2
  · exact .inr (.inl h2)
  by_cases h3 : l.kind = 3
  · exact .inr (.inr (.inl h3))
  by_cases h4 : l.kind = 4
  · exact .inr (.inr (.inr h4))
  simp [h1, h2, h3, h4] at h
theorem step_bad {lim : Nat} {vars : List ByteArray} {q : List Tm × Int} {l : Lt} (h : (stepF lim vars q l).2.2 = 0) : q.2 = 0 := by
  by_cases h1 : l.kind = 1
  · rw [stepF_1 h1] at h; exact row_bad h
  by_cases h2 : l.kind = 2
  · rw [stepF_2 h1 h2] at h; exact row_bad h
  by_cases h3 : l.kind = 3
  · rw [stepF_3 h1 h2 h3] at h; exact pl_bad0 (pl_bad0 h)
  · rw [stepF_4 h1 h2 h3] at h; exact pl_bad0 (pl_bad0 h)
theorem stepSl_r {l : Lt} (h : l.kind = 1 ∨ l.kind = 2) : stepSl l = sl3 l.pat := by unfold stepSl; rw [if_pos h]
theorem stepSl_ab {l : Lt} (h1 : ¬ l.kind = 1) (h2 : ¬ l.kind = 2) : stepSl l = [l.a, l.b] := by unfold stepSl; rw [if_neg (by omega)]
theorem step_same {lim : Nat} {vars : List ByteArray} {L : List Tm} {q : List Tm × Int} {l : Lt} (hk : kd l) (hv : ∀ s ∈ stepSl l, HasV vars s) (h : Both lim L q) (h0 : (stepF lim vars q l).2.2 = 0) : (stepF lim vars q l).1 = (stepW vars L l).1 := by
  by_cases h1 : l.kind = 1
  · rw [stepSl_r (.inl h1)] at hv
    rw [stepF_1 h1] at h0 ⊢
    rw [stepW_1 h1]
    simp only
    rw [row_same hv h h0]
  by_cases h2 : l.kind = 2
  · rw [stepSl_r (.inr h2)] at hv
    rw [stepF_2 h1 h2] at h0 ⊢
    rw [stepW_2 h1 h2]
    simp only
    rw [row_same hv h h0]
  rw [stepSl_ab h1 h2] at hv
  have hva := hv l.a (by simp)
  have hvb := hv l.b (by simp)
  by_cases h3 : l.kind = 3
  · rw [stepF_3 h1 h2 h3] at h0 ⊢
    rw [stepW_3 h1 h2 (by omega)]
    have b1 : (placeF lim vars (placeF lim vars q l.a).2 l.b).2.2 = 0 := h0
    simp only
    rw [place_same hva h (pl_bad0 b1), place_same hvb (h.place hva) b1]
  · have h4 : l.kind = 4 := by rcases hk with h | h | h | h <;> first | contradiction | exact h
    rw [stepF_4 h1 h2 h3] at h0 ⊢
    rw [stepW_4 h1 h2 h4]
    have b1 : (placeF lim vars (placeF lim vars q l.a).2 l.b).2.2 = 0 := h0
    simp only
    rw [place_same hva h (pl_bad0 b1), place_same hvb (h.place hva) b1]
theorem placeW_got' {vars : List ByteArray} {L L' : List Tm} {s : Sl} (hv : HasV vars s) (hp : (placeW vars L s).2 <+: L') : (placeW vars L' s).2 = L' := placeW_got hv ((placeW_puts vars L s).mono hp)
theorem rowW_same {vars : List ByteArray} {L L' : List Tm} {p : Pt} (hv : ∀ s ∈ sl3 p, HasV vars s) (hp : (rowW vars L p).2 <+: L') : (rowW vars L' p).1 = (rowW vars L p).1 := by
  have hv0 := hv p.s0 (by simp [sl3])
  have hv1 := hv p.s1 (by simp [sl3])
  have hv2 := hv p.s2 (by simp [sl3])
  have c2 : (placeW vars (placeW vars (placeW vars L p.s0).2 p.s1).2 p.s2).2 <+: L' := hp
  have c1 : (placeW vars (placeW vars L p.s0).2 p.s1).2 <+: L' := (placeW_pre _ _ _).trans c2
  have c0 : (placeW vars L p.s0).2 <+: L' := (placeW_pre _ _ _).trans c1
  unfold rowW
  simp only
  rw [placeW_same c0, placeW_got' hv0 c0, placeW_same c1, placeW_got' hv1 c1, placeW_same c2]
theorem stepW_same {vars : List ByteArray} {L L' : List Tm} {l : Lt} (hv : ∀ s ∈ stepSl l, HasV vars s) (hp : (stepW vars L l).2 <+: L') : (stepW vars L' l).1 = (stepW vars L l).1 := by
  by_cases h1 : l.kind = 1
  · rw [stepSl_r (.inl h1)] at hv
    rw [stepW_1 h1] at hp ⊢
    rw [stepW_1 h1]
    simp only
    rw [rowW_same hv hp]
  by_cases h2 : l.kind = 2
  · rw [stepSl_r (.inr h2)] at hv
    rw [stepW_2 h1 h2] at hp ⊢
    rw [stepW_2 h1 h2]
    simp only
    rw [rowW_same hv hp]
  rw [stepSl_ab h1 h2] at hv
  have hva := hv l.a (by simp)
  have hvb := hv l.b (by simp)
  by_cases h4 : l.kind = 4
  · rw [stepW_4 h1 h2 h4] at hp ⊢
    rw [stepW_4 h1 h2 h4]
    have c1 : (placeW vars (placeW vars L l.a).2 l.b).2 <+: L' := hp
    have c0 : (placeW vars L l.a).2 <+: L' := (placeW_pre _ _ _).trans c1
    simp only
    rw [placeW_same c0, placeW_got' hva c0, placeW_same c1]
  · rw [stepW_3 h1 h2 h4] at hp ⊢
    rw [stepW_3 h1 h2 h4]
    have c1 : (placeW vars (placeW vars L l.a).2 l.b).2 <+: L' := hp
    have c0 : (placeW vars L l.a).2 <+: L' := (placeW_pre _ _ _).trans c1
    simp only
    rw [placeW_same c0, placeW_got' hva c0, placeW_same c1]
def SW (vars : List ByteArray) (L : List Tm) (l : Lt) : St := (stepW vars L l).1
theorem SW_kind {vars : List ByteArray} {L : List Tm} {l : Lt} (hk : kd l) : (SW vars L l).kind = l.kind := by
  unfold SW
  by_cases h1 : l.kind = 1
  · rw [stepW_1 h1, h1]
  by_cases h2 : l.kind = 2
  · rw [stepW_2 h1 h2, h2]
  by_cases h4 : l.kind = 4
  · rw [stepW_4 h1 h2 h4, h4]
  · rw [stepW_3 h1 h2 h4]
    rcases hk with h | h | h | h <;> first | contradiction | exact h.symm
theorem body_bad {lim : Nat} {vars : List ByteArray} {ts : List Tm} {bad : Int} {body : List Lt} : ∀ (d i : Nat), i + d = body.length → (bodyTo lim vars ts bad body body.length).bad = 0 → (bodyTo lim vars ts bad body i).bad = 0
  | 0, i, h, h0 => by rw [show i = body.length by omega]; exact h0
  | d + 1, i, h, h0 => by
    have ih := body_bad (lim := lim) (vars := vars) (ts := ts) (bad := bad) d (i + 1) (by omega) h0
    rw [bodyTo_succ (List.getElem?_eq_getElem (show i < body.length by omega))] at ih
    have hq := bodyStep_q lim vars (bodyTo lim vars ts bad body i) (body[i]'(by omega))
    have h2 : (stepF lim vars ((bodyTo lim vars ts bad body i).ts, (bodyTo lim vars ts bad body i).bad) (body[i]'(by omega))).2.2 = 0 := by
      rw [← hq]; exact ih
    exact step_bad h2
theorem body_same {lim : Nat} {vars : List ByteArray} {L : List Tm} {ts : List Tm} {bad : Int} {body : List Lt} (hk : ∀ l ∈ body, kd l) (hv : ∀ l ∈ body, ∀ s ∈ stepSl l, HasV vars s) (h : Both lim L (ts, bad)) (h0 : (bodyTo lim vars ts bad body body.length).bad = 0) : ∀ i, i ≤ body.length →
    (bodyTo lim vars ts bad body i).m = (fT isMt body i).map (SW vars (passW vars L body body.length)) ∧ (bodyTo lim vars ts bad body i).w = (fT isCt body i).map (SW vars (passW vars L body body.length)) ∧ (bodyTo lim vars ts bad body i).n = (fT isNt body i).map (SW vars (passW vars L body body.length))
  | 0, _ => ⟨rfl, rfl, rfl⟩
  | i + 1, hi => by
    obtain ⟨i1, i2, i3⟩ := body_same hk hv h h0 i (by omega)
    have hB := Both.body hv h i (by omega)
    have hb := body_bad (body.length - (i + 1)) (i + 1) (by omega) h0
    obtain ⟨l, hl⟩ : ∃ l, body[i]? = some l := ⟨_, List.getElem?_eq_getElem (by omega)⟩
    have hm := List.mem_of_getElem? hl
    have hq := bodyStep_q lim vars (bodyTo lim vars ts bad body i) l
    rw [bodyTo_succ hl] at hb ⊢
    have h2 : (stepF lim vars ((bodyTo lim vars ts bad body i).ts, (bodyTo lim vars ts bad body i).bad) l).2.2 = 0 := by
      rw [← hq]; exact hb
    have hs := step_same (hk l hm) (hv l hm) hB h2
    have hp : (stepW vars (passW vars L body i) l).2 <+: passW vars L body body.length := by
      have := passW_mono (vars := vars) (L := L) (body := body) (i := i + 1) (body.length - (i + 1)) (by omega)
      rw [passW_succ hl, show i + 1 + (body.length - (i + 1)) = body.length by omega] at this
      exact this
    have hs2 : (stepF lim vars ((bodyTo lim vars ts bad body i).ts, (bodyTo lim vars ts bad body i).bad) l).1 = SW vars (passW vars L body body.length) l := by
      rw [hs]; exact (stepW_same (hv l hm) hp).symm
    have hkind := SW_kind (vars := vars) (L := passW vars L body body.length) (hk l hm)
    rw [← hs2] at hkind
    by_cases h1 : l.kind = 1
    · have e1 : isMt l = true := by simp [isMt, h1]
      have e2 : isCt l = false := by simp [isCt, h1]
      have e3 : isNt l = false := by simp [isNt, h1]
      rw [bodyStep_1 (hkind.trans h1), fT_yes hl e1, fT_no hl e2, fT_no hl e3, List.map_append, hs2]
      exact ⟨by rw [i1]; rfl, i2, i3⟩
    by_cases h2' : l.kind = 2
    · have e1 : isMt l = false := by simp [isMt, h1]
      have e2 : isCt l = false := by simp [isCt, h2']
      have e3 : isNt l = true := by simp [isNt, h2']
      rw [bodyStep_2 (by rw [hkind]; exact h1) (hkind.trans h2'), fT_no hl e1, fT_no hl e2, fT_yes hl e3, List.map_append, hs2]
      exact ⟨i1, i2, by rw [i3]; rfl⟩
    · have e1 : isMt l = false := by simp [isMt, h1]
      have e2 : isCt l = true := by
        rcases hk l hm with h | h | h | h <;> first | contradiction | simp [isCt, h]
      have e3 : isNt l = false := by simp [isNt, h2']
      rw [bodyStep_3 (by rw [hkind]; exact h1) (by rw [hkind]; exact h2'), fT_no hl e1, fT_yes hl e2, fT_no hl e3, List.map_append, hs2]
      exact ⟨i1, by rw [i2]; rfl, i3⟩
def KnW (vars : List ByteArray) (kn : List Bool) (tk : List Lt) : Prop := kn.length = vars.length ∧ ∀ (s : ByteArray) i, emp s = false → idxN vars s = some i → kn.getD i false = standsL tk s
theorem idxN_at {vars : List ByteArray} {s : ByteArray} {i : Nat} (h : idxN vars s = some i) : ∃ x, vars[i]? = some x ∧ s.toList = x.toList := by
  unfold idxN at h
  obtain ⟨hi, h1, _⟩ := List.findIdx?_eq_some_iff_getElem.1 h
  exact ⟨_, List.getElem?_eq_getElem hi, by simpa using h1⟩
theorem idxN_congr {vars : List ByteArray} {s t : ByteArray} (h : s.toList = t.toList) : idxN vars s = idxN vars t := by unfold idxN; rw [h]
theorem pl_ok {vars : List ByteArray} {kn : List Bool} {tk : List Lt} (hK : KnW vars kn tk) (L : List Tm) {s : Sl} (hv : HasV vars s) : okPl kn (placeW vars L s).1 = (emp s.v || standsL tk s.v) := by
  cases he : emp s.v with
  | true =>
    rw [placeW_t (.inl he)]
    simp [okPl]
  | false =>
    obtain ⟨i, hi⟩ := hv he
    rw [placeW_v he hi]
    have := hK.2 s.v i he hi
    simp [okPl, this]
theorem ready_same {vars : List ByteArray} {kn : List Bool} {tk : List Lt} (hK : KnW vars kn tk) (L : List Tm) {l : Lt} (hv : ∀ s ∈ stepSl l, HasV vars s) : readyF kn (SW vars L l) = readyW tk l := by
  unfold readyF readyW SW
  rw [← stepSl_slots]
  by_cases h1 : l.kind = 1
  · rw [stepSl_r (.inl h1)] at hv ⊢
    rw [stepW_1 h1, placesSt_r (.inl rfl)]
    simp only [rowW, sl3, List.all_cons, List.all_nil]
    rw [pl_ok hK _ (hv _ (by simp [sl3])), pl_ok hK _ (hv _ (by simp [sl3])), pl_ok hK _ (hv _ (by simp [sl3]))]
  by_cases h2 : l.kind = 2
  · rw [stepSl_r (.inr h2)] at hv ⊢
    rw [stepW_2 h1 h2, placesSt_r (.inr rfl)]
    simp only [rowW, sl3, List.all_cons, List.all_nil]
    rw [pl_ok hK _ (hv _ (by simp [sl3])), pl_ok hK _ (hv _ (by simp [sl3])), pl_ok hK _ (hv _ (by simp [sl3]))]
  rw [stepSl_ab h1 h2] at hv ⊢
  by_cases h4 : l.kind = 4
  · rw [stepW_4 h1 h2 h4, placesSt_ab (by simp) (by simp)]
    simp only [List.all_cons, List.all_nil]
    rw [pl_ok hK _ (hv _ (by simp)), pl_ok hK _ (hv _ (by simp))]
  · rw [stepW_3 h1 h2 h4, placesSt_ab (by simp) (by simp)]
    simp only [List.all_cons, List.all_nil]
    rw [pl_ok hK _ (hv _ (by simp)), pl_ok hK _ (hv _ (by simp))]
theorem mark_one {vars : List ByteArray} {kn : List Bool} (hn : kn.length = vars.length) (L : List Tm) {t : Sl} (hv : HasV vars t) {s : ByteArray} {i : Nat} (hs : emp s = false) (hi : idxN vars s = some i) :
    (markP kn (placeW vars L t).1).getD i false = (kn.getD i false || t.v.toList == s.toList) := by
  have hil : i < vars.length := by obtain ⟨x, hx, _⟩ := idxN_at hi; exact (List.getElem?_eq_some_iff.1 hx).1
  cases he : emp t.v with
  | true =>
    rw [placeW_t (.inl he)]
    have : (t.v.toList == s.toList) = false := by
      rw [Bool.eq_false_iff]
      intro h
      unfold emp at he hs
      rw [beq_iff_eq] at he h
      rw [← h, he] at hs
      simp at hs
    rw [this, Bool.or_false]
    unfold markP
    rw [if_neg (by simp)]
  | false =>
    obtain ⟨j, hj⟩ := hv he
    rw [placeW_v he hj]
    unfold markP
    simp only
    rw [if_pos (by omega)]
    by_cases hij : i = j
    · subst hij
      obtain ⟨x, hx, e1⟩ := idxN_at hi
      obtain ⟨y, hy, e2⟩ := idxN_at hj
      rw [hx] at hy
      cases hy
      have : (t.v.toList == s.toList) = true := by rw [beq_iff_eq, e1, e2]
      rw [this, Bool.or_true, List.getD_eq_getElem?_getD]
      simp [hn, hil]
    · have : (t.v.toList == s.toList) = false := by
        rw [Bool.eq_false_iff]
        intro h
        rw [beq_iff_eq] at h
        rw [idxN_congr h, hi] at hj
        exact hij (Option.some.inj hj)
      rw [this, Bool.or_false, List.getD_eq_getElem?_getD, List.getD_eq_getElem?_getD, List.getElem?_set_ne (by simpa using Ne.symm hij)]
theorem KnW.mark {vars : List ByteArray} {kn : List Bool} {tk : List Lt} (hK : KnW vars kn tk) (L : List Tm) {m : Lt} (h1 : m.kind = 1) (hv : ∀ s ∈ stepSl m, HasV vars s) : KnW vars (markTo kn (SW vars L m).row 3) (tk ++ [m]) := by
  rw [stepSl_r (.inl h1)] at hv
  refine ⟨by rw [markTo_len]; exact hK.1, fun s i hs hi => ?_⟩
  have e : standsL (tk ++ [m]) s = (standsL tk s || (patL m).any (fun q => q.toList == s.toList)) := by simp [standsL]
  rw [e]
  unfold SW markTo
  rw [stepW_1 h1]
  simp only [rowW, row3, List.take, List.foldl, patL, List.any_cons, List.any_nil, Bool.or_false]
  have n0 : (markP kn (placeW vars L m.pat.s0).1).length = vars.length := by rw [markP_len]; exact hK.1
  rw [mark_one (by rw [markP_len]; exact n0) _ (hv _ (by simp [sl3])) hs hi, mark_one n0 _ (hv _ (by simp [sl3])) hs hi, mark_one hK.1 _ (hv _ (by simp [sl3])) hs hi, hK.2 s i hs hi]
  simp only [Bool.or_assoc]
structure RunS (S : Lt → St) (vars : List ByteArray) (q : RS) (p : PS) : Prop where
  w : q.w = p.wt.map S
  o : q.o = p.out.map S
  kn : KnW vars q.kn p.tk
theorem RunS.flush {vars : List ByteArray} {L : List Tm} {q : RS} {p : PS} (h : RunS (SW vars L) vars q p) (hv : ∀ l ∈ p.wt, ∀ s ∈ stepSl l, HasV vars s) : RunS (SW vars L) vars (flushR q) (flushW p) := by
  have e1 : ∀ l ∈ p.wt, readyF q.kn (SW vars L l) = readyW p.tk l := fun l hl => ready_same h.kn L (hv l hl)
  refine ⟨?_, ?_, h.kn⟩
  · show q.w.filter (fun s => !readyF q.kn s) = (p.wt.filter (fun l => !readyW p.tk l)).map _
    rw [h.w, List.filter_map]
    congr 1
    exact List.filter_congr fun l hl => by simp only [Function.comp_apply, e1 l hl]
  · show q.o ++ q.w.filter (readyF q.kn) = (p.out ++ p.wt.filter (readyW p.tk)).map _
    rw [h.w, h.o, List.filter_map, List.map_append]
    congr 2
    exact List.filter_congr fun l hl => by simp only [Function.comp_apply, e1 l hl]
theorem RunS.take {vars : List ByteArray} {L : List Tm} {q : RS} {p : PS} {m : Lt} (h : RunS (SW vars L) vars q p) (h1 : m.kind = 1) (hv : ∀ s ∈ stepSl m, HasV vars s) : RunS (SW vars L) vars ⟨markTo q.kn (SW vars L m).row 3, q.w, q.o ++ [SW vars L m]⟩ ⟨p.tk ++ [m], p.wt, p.out ++ [m]⟩ :=
  ⟨h.w, by simp only; rw [h.o, List.map_append]; rfl, h.kn.mark L h1 hv⟩
theorem run_same {vars : List ByteArray} {L : List Tm} {M : List Lt} {good : Bool} {order : List Int} {q : RS} {p : PS} {ord : List Int} (h : RunS (SW vars L) vars q p) (hM : ∀ l ∈ M, l.kind = 1 ∧ ∀ s ∈ stepSl l, HasV vars s) (hwt : ∀ l ∈ p.wt, ∀ s ∈ stepSl l, HasV vars s)
    (hg : good = true → goodF M.length order = true) (ho : ∀ (i : Nat) z, ord[i]? = some z → i < M.length ∧ (M.map (SW vars L)).getD z.toNat zSt = SW vars L (mAt M good order i)) : ∀ i, i ≤ ord.length → RunS (SW vars L) vars (runTo (M.map (SW vars L)) q ord i) (stW M good order p (i + 1))
  | 0, _ => h.flush hwt
  | i + 1, hi => by
    have ih := run_same h hM hwt hg ho i (by omega)
    obtain ⟨z, hz⟩ : ∃ z, ord[i]? = some z := ⟨_, List.getElem?_eq_getElem (by omega)⟩
    obtain ⟨hiM, e⟩ := ho i z hz
    have hm := mAt_mem (order := order) (p := i) hiM hg
    have hw2 : ∀ l ∈ (stW M good order p (i + 1)).wt, ∀ s ∈ stepSl l, HasV vars s := by
      have wsub : ∀ k, ∀ l ∈ (stW M good order p k).wt, l ∈ p.wt := by
        intro k
        induction k with
        | zero => exact fun l hl => hl
        | succ k ihk =>
          intro l hl
          have hl2 : l ∈ ((preW M good order (stW M good order p k) k).wt.filter (fun l => !readyW (preW M good order (stW M good order p k) k).tk l)) := hl
          have := (List.mem_filter.1 hl2).1
          rw [pre_wt] at this
          exact ihk l this
      exact fun l hl => hwt l (wsub _ l hl)
    rw [runTo_succ hz]
    unfold takeR
    rw [e]
    exact (ih.take (hM _ hm).1 (hM _ hm).2).flush hw2
theorem sorted_range (n : Nat) : ((List.range n).map (fun k : Nat => (k : Int))).Pairwise (fun a b => a ≤ b) := by
  rw [List.pairwise_map]
  exact (List.pairwise_lt_range (n := n)).imp (fun {a b} h => by show (a : Int) ≤ (b : Int); omega)
theorem srtZ_sorted (xs : List Int) : (srtZ xs).Pairwise (fun a b => a ≤ b) := by
  have h := List.pairwise_mergeSort (le := fun x y : Int => decide (x ≤ y)) (fun a b c h1 h2 => by simp only [decide_eq_true_eq] at *; omega) (fun a b => by simp only [Bool.or_eq_true, decide_eq_true_eq]; omega) xs
  exact h.imp (fun {a b} h => by simpa using h)
theorem range_count (n k : Nat) (h : k < n) : ((List.range n).map (fun k : Nat => (k : Int))).countP (fun z => decide (z = (k : Int))) = 1 := by
  rw [List.countP_map]
  have e : (List.range n).countP ((fun z : Int => decide (z = (k : Int))) ∘ fun k : Nat => (k : Int)) = (List.range n).count k := by
    unfold List.count
    exact List.countP_congr fun x _ => by simp only [Function.comp_apply, decide_eq_true_eq, beq_iff_eq]; omega
  rw [e]
  rw [List.nodup_range.count, if_pos (List.mem_range.2 h)]
theorem ord_good (n : Nat) (order : List Int) : ((srtZ order).length = n ∧ srtZ order = (List.range n).map (fun k : Nat => (k : Int))) ↔ goodF n order = true := by
  constructor
  · rintro ⟨h1, h2⟩
    rw [srtZ_len] at h1
    unfold goodF
    rw [Bool.and_eq_true, decide_eq_true_eq, List.all_eq_true]
    refine ⟨by omega, fun k hk => ?_⟩
    unfold oneZ cntZ
    rw [decide_eq_true_eq, ← (srtZ_perm order).countP_eq, h2, range_count n k (List.mem_range.1 hk)]
    rfl
  · intro h
    have hp := good_perm h
    refine ⟨by rw [srtZ_len, hp.length_eq]; simp, ?_⟩
    exact List.Perm.eq_of_pairwise (le := fun a b : Int => a ≤ b) (fun a b _ _ h1 h2 => by omega) (srtZ_sorted order) (sorted_range n) ((srtZ_perm order).trans hp)
theorem getD_map {S : Lt → St} {M : List Lt} {i : Nat} (h : i < M.length) : (M.map S).getD i zSt = S (M.getD i zLt) := by
  simp [List.getD_eq_getElem?_getD, h]
theorem ord_at {S : Lt → St} {M : List Lt} {order : List Int} : ∀ (i : Nat) z, (ordF M.length order (srtZ order))[i]? = some z → i < M.length ∧ (M.map S).getD z.toNat zSt = S (mAt M (goodF M.length order) order i) := by
  intro i z hz
  cases hg : goodF M.length order with
  | true =>
    unfold ordF at hz
    rw [if_pos ((ord_good _ _).2 hg)] at hz
    obtain ⟨h1, h2⟩ := good_range hg
    have hi := (List.getElem?_eq_some_iff.1 hz).1
    have hzr := h2 z (List.mem_of_getElem? hz)
    refine ⟨by omega, ?_⟩
    unfold mAt
    rw [if_pos rfl, getD_map (by omega), show order.getD i 0 = z by rw [List.getD_eq_getElem?_getD, hz]; rfl]
  | false =>
    unfold ordF at hz
    rw [if_neg (fun h => by rw [(ord_good _ _).1 h] at hg; cases hg)] at hz
    have hi := (List.getElem?_eq_some_iff.1 hz).1
    rw [List.length_map, List.length_range] at hi
    have hzi : z = (i : Nat) := by
      rw [List.getElem?_map, List.getElem?_range hi] at hz
      simpa using hz.symm
    subst hzi
    refine ⟨hi, ?_⟩
    unfold mAt
    rw [if_neg (by simp), show ((i : Nat) : Int).toNat = i by omega, getD_map hi]
theorem ord_len (n : Nat) (order : List Int) : (ordF n order (srtZ order)).length = n := by
  unfold ordF
  split
  · rename_i h; rw [← srtZ_len]; exact h.1
  · simp
theorem rule_kd {r : Rl} (h : ruleE r = 0) : ∀ l ∈ r.body, kd l := fun l hl => by
  have hm := rule_may h
  unfold mayRl at hm
  rw [Bool.and_eq_true, Bool.and_eq_true, List.all_eq_true] at hm
  exact kd_may (hm.2.2 l hl)
end Go.Proofs.YtfddkcmooommeaaGreatDoor.Gl
end
section
namespace Go.Proofs.YtfddkcmooommeaaGreatDoor.Gl
open Go.RowKit Go.Shelf
set_option linter.unusedVariables false
set_option linter.unnecessarySimpa false
set_option linter.unusedSimpArgs false
attribute [-simp] List.getD_eq_getElem?_getD
def mkS (g : List Bool) (s : St) : List Bool := if s.kind = 1 then markTo g s.row 3 else g
def mkA (g : List Bool) (o : List St) : List Bool := o.foldl mkS g
def chk : List Bool → List St → Prop
  | _, [] => True
  | g, s :: o => (¬ s.kind = 1 → readyF g s = true) ∧ chk (mkS g s) o
theorem mkA_app (g : List Bool) (o o' : List St) : mkA g (o ++ o') = mkA (mkA g o) o' := List.foldl_append
theorem chk_app : ∀ (o : List St) (g : List Bool) (o' : List St), chk g o → chk (mkA g o) o' → chk g (o ++ o')
  | [], _, _, _, h => h
  | s :: o, g, o', h1, h2 => ⟨h1.1, chk_app o (mkS g s) o' h1.2 h2⟩
theorem chk_ready : ∀ (o : List St) (g : List Bool), (∀ s ∈ o, ¬ s.kind = 1 ∧ readyF g s = true) → chk g o ∧ mkA g o = g
  | [], _, _ => ⟨trivial, rfl⟩
  | s :: o, g, h => by
    have hs := h s List.mem_cons_self
    have e : mkS g s = g := if_neg hs.1
    obtain ⟨h1, h2⟩ := chk_ready o g (fun t ht => h t (List.mem_cons_of_mem _ ht))
    exact ⟨⟨fun _ => hs.2, by rw [e]; exact h1⟩, by show mkA (mkS g s) o = g; rw [e]; exact h2⟩
theorem chk_at : ∀ (o : List St) (g : List Bool) (i : Nat) (s : St), chk g o → o[i]? = some s → ¬ s.kind = 1 → readyF (mkA g (o.take i)) s = true
  | [], _, _, _, _, hs, _ => by simp at hs
  | t :: o, g, 0, s, h, hs, hk => by
    simp at hs
    subst hs
    exact h.1 hk
  | t :: o, g, i + 1, s, h, hs, hk => chk_at o (mkS g t) i s h.2 (by simpa using hs) hk
structure ChkQ (g0 : List Bool) (q : RS) : Prop where
  c : chk g0 q.o
  k : mkA g0 q.o = q.kn
  w : ∀ s ∈ q.w, ¬ s.kind = 1
theorem ChkQ.flush {g0 : List Bool} {q : RS} (h : ChkQ g0 q) : ChkQ g0 (flushR q) := by
  have hr := chk_ready (q.w.filter (readyF q.kn)) q.kn (fun s hs => ⟨h.w s (List.mem_filter.1 hs).1, (List.mem_filter.1 hs).2⟩)
  refine ⟨?_, ?_, fun s hs => h.w s (List.mem_filter.1 hs).1⟩
  · show chk g0 (q.o ++ q.w.filter (readyF q.kn))
    exact chk_app _ _ _ h.c (by rw [h.k]; exact hr.1)
  · show mkA g0 (q.o ++ q.w.filter (readyF q.kn)) = q.kn
    rw [mkA_app, h.k, hr.2]
theorem ChkQ.take {g0 : List Bool} {q : RS} {ms : List St} {z : Int} (h : ChkQ g0 q) (hm : (ms.getD z.toNat zSt).kind = 1) : ChkQ g0 (takeR ms q z) := by
  refine ChkQ.flush ⟨?_, ?_, h.w⟩
  · exact chk_app _ _ _ h.c ⟨fun hk => absurd hm hk, trivial⟩
  · show mkA g0 (q.o ++ [ms.getD z.toNat zSt]) = markTo q.kn (ms.getD z.toNat zSt).row 3
    rw [mkA_app, h.k]
    exact if_pos hm
theorem ChkQ.run {g0 : List Bool} {ms : List St} {q : RS} {ord : List Int} (h : ChkQ g0 q) (hm : ∀ z ∈ ord, (ms.getD z.toNat zSt).kind = 1) : ∀ i, i ≤ ord.length → ChkQ g0 (runTo ms q ord i)
  | 0, _ => h.flush
  | i + 1, hi => by
    obtain ⟨z, hz⟩ : ∃ z, ord[i]? = some z := ⟨_, List.getElem?_eq_getElem (by omega)⟩
    rw [runTo_succ hz]
    exact (ChkQ.run h hm i (by omega)).take (hm z (List.mem_of_getElem? hz))
theorem stands_mem {tk : List Lt} {m : Lt} {s : ByteArray} (h : m ∈ tk) (h2 : ∃ y ∈ patL m, y.toList = s.toList) : standsL tk s = true := by
  unfold standsL
  rw [List.any_eq_true]
  obtain ⟨y, hy, e⟩ := h2
  exact ⟨m, h, by rw [List.any_eq_true]; exact ⟨y, hy, by rw [beq_iff_eq]; exact e⟩⟩
theorem safe_slot {r : Rl} (h0 : ruleE r = 0) {s : Sl} (hs : s ∈ allSlots r) (he : emp s.v = false) : ∃ m ∈ r.body, m.kind = 1 ∧ ∃ y ∈ patL m, y.toList = s.v.toList := by
  have h1 : (dd (allSlots r)).all (inB (givenL r)) = true := by
    unfold ruleE at h0
    cases e : (dd (allSlots r)).all (inB (givenL r)) with
    | true => rfl
    | false =>
      rw [e] at h0
      cases e2 : mayRl r <;> rw [e2] at h0 <;> simp at h0
  have h2 := dd_has (allSlots r) (allSlots r).length (Nat.le_refl _) s (by rw [List.take_length]; exact hs) he
  rw [List.take_length] at h2
  unfold inB at h2
  rw [List.any_eq_true] at h2
  obtain ⟨x, hx, e1⟩ := h2
  rw [List.all_eq_true] at h1
  have h3 := h1 x hx
  unfold inB at h3
  rw [List.any_eq_true] at h3
  obtain ⟨y, hy, e2⟩ := h3
  unfold eqB at e1 e2
  rw [beq_iff_eq] at e1 e2
  unfold givenL givenTake at hy
  rw [List.take_length, List.mem_flatMap] at hy
  obtain ⟨m, hm, hym⟩ := hy
  unfold givenOf at hym
  by_cases hk : m.kind = 1
  · rw [if_pos hk] at hym
    exact ⟨m, hm, hk, y, hym, by rw [e2, e1]⟩
  · rw [if_neg hk] at hym
    simp at hym
theorem st_tk (M : List Lt) (good : Bool) (order : List Int) (q : PS) : ∀ i : Nat, (stW M good order q (i + 1)).tk = q.tk ++ (List.range i).map (mAt M good order)
  | 0 => by simp [stW, preW, flushW]
  | i + 1 => by
    have ih := st_tk M good order q i
    show (preW M good order (stW M good order q (i + 1)) (i + 1)).tk = _
    show (stW M good order q (i + 1)).tk ++ [mAt M good order i] = _
    rw [ih, List.range_succ, List.map_append, List.append_assoc]
    rfl
theorem st_cnt (M : List Lt) (good : Bool) (order : List Int) (q : PS) : ∀ i : Nat, (stW M good order q (i + 1)).wt.length + (stW M good order q (i + 1)).out.length = q.wt.length + q.out.length + i
  | 0 => by
    have h4 := filter_two (readyW q.tk) q.wt
    have e1 : (stW M good order q (0 + 1)).wt.length = (q.wt.filter (fun l => !readyW q.tk l)).length := rfl
    have e2 : (stW M good order q (0 + 1)).out.length = (q.out ++ q.wt.filter (readyW q.tk)).length := rfl
    rw [List.length_append] at e2
    omega
  | i + 1 => by
    have ih := st_cnt M good order q i
    have h4 := filter_two (readyW (preW M good order (stW M good order q (i + 1)) (i + 1)).tk) (stW M good order q (i + 1)).wt
    have e1 : (stW M good order q (i + 1 + 1)).wt.length = ((stW M good order q (i + 1)).wt.filter (fun l => !readyW (preW M good order (stW M good order q (i + 1)) (i + 1)).tk l)).length := rfl
    have e2 : (stW M good order q (i + 1 + 1)).out.length = ((stW M good order q (i + 1)).out ++ [mAt M good order i] ++ (stW M good order q (i + 1)).wt.filter (readyW (preW M good order (stW M good order q (i + 1)) (i + 1)).tk)).length := rfl
    rw [List.length_append, List.length_append, List.length_singleton] at e2
    omega
theorem all_taken {M : List Lt} {order : List Int} {m : Lt} (h : m ∈ M) : m ∈ (List.range M.length).map (mAt M (goodF M.length order) order) := by
  obtain ⟨j, hj, e⟩ := List.mem_iff_getElem.1 h
  rw [List.mem_map]
  cases hg : goodF M.length order with
  | false =>
    refine ⟨j, List.mem_range.2 hj, ?_⟩
    unfold mAt
    rw [if_neg (by simp), List.getD_eq_getElem?_getD, List.getElem?_eq_getElem hj]
    exact e
  | true =>
    have hp := good_perm hg
    have hm : (j : Int) ∈ order := hp.mem_iff.2 (List.mem_map.2 ⟨j, List.mem_range.2 hj, rfl⟩)
    obtain ⟨i, hi, ei⟩ := List.mem_iff_getElem.1 hm
    have hl := hp.length_eq
    rw [List.length_map, List.length_range] at hl
    refine ⟨i, List.mem_range.2 (by omega), ?_⟩
    unfold mAt
    rw [if_pos rfl, List.getD_eq_getElem?_getD (l := order), List.getElem?_eq_getElem hi, ei]
    rw [List.getD_eq_getElem?_getD, show ((some (j : Int)).getD 0).toNat = j from Int.toNat_natCast j, List.getElem?_eq_getElem hj]
    exact e
theorem kinds_sum : ∀ (l : List Lt), (∀ x ∈ l, kd x) → (l.filter isMt).length + (waitL l).length = l.length
  | [], _ => rfl
  | x :: l, h => by
    have ih := kinds_sum l (fun y hy => h y (List.mem_cons_of_mem _ hy))
    unfold waitL at ih ⊢
    rw [List.length_append] at ih ⊢
    rcases h x List.mem_cons_self with e | e | e | e <;> simp [List.filter_cons, isMt, isCt, isNt, e] at ih ⊢ <;> omega
theorem wait_mem {body : List Lt} {l : Lt} (h : l ∈ waitL body) : l ∈ body ∧ ¬ l.kind = 1 := by
  unfold waitL at h
  rcases List.mem_append.1 h with h | h
  · obtain ⟨h1, h2⟩ := List.mem_filter.1 h
    refine ⟨h1, fun e => ?_⟩
    simp [isCt, e] at h2
  · obtain ⟨h1, h2⟩ := List.mem_filter.1 h
    refine ⟨h1, fun e => ?_⟩
    simp [isNt, e] at h2
theorem placeW_lt (vars : List ByteArray) (L : List Tm) (s : Sl) : (placeW vars L s).1.var < vars.length := by
  unfold placeW
  split
  · rename_i i h
    cases he : emp s.v with
    | true => rw [he] at h; cases h
    | false =>
      rw [he, cond_false] at h
      obtain ⟨x, hx, _⟩ := idxN_at h
      have := (List.getElem?_eq_some_iff.1 hx).1
      show ((i : Nat) : Int) < _
      omega
  · show (-1 : Int) < _
    omega
theorem SW_lt (vars : List ByteArray) (L : List Tm) (l : Lt) : ∀ p ∈ placesSt (SW vars L l), p.var < vars.length := by
  intro p hp
  unfold SW at hp
  by_cases h1 : l.kind = 1
  · rw [stepW_1 h1, placesSt_r (.inl rfl)] at hp
    simp only [rowW, List.mem_cons, List.not_mem_nil, or_false] at hp
    rcases hp with rfl | rfl | rfl <;> exact placeW_lt _ _ _
  by_cases h2 : l.kind = 2
  · rw [stepW_2 h1 h2, placesSt_r (.inr rfl)] at hp
    simp only [rowW, List.mem_cons, List.not_mem_nil, or_false] at hp
    rcases hp with rfl | rfl | rfl <;> exact placeW_lt _ _ _
  by_cases h4 : l.kind = 4
  · rw [stepW_4 h1 h2 h4, placesSt_ab (by simp) (by simp)] at hp
    simp only [List.mem_cons, List.not_mem_nil, or_false] at hp
    rcases hp with rfl | rfl <;> exact placeW_lt _ _ _
  · rw [stepW_3 h1 h2 h4, placesSt_ab (by simp) (by simp)] at hp
    simp only [List.mem_cons, List.not_mem_nil, or_false] at hp
    rcases hp with rfl | rfl <;> exact placeW_lt _ _ _
theorem stands_law {lim : Nat} {r : Rl} {order : List Int} (h0 : ruleE r = 0) (he : (planRule lim [] r order (srtZ order)).e = 0) :
    (planRule lim [] r order (srtZ order)).steps.length = r.body.length ∧ (∀ s ∈ (planRule lim [] r order (srtZ order)).steps, (s.kind = 1 ∨ s.kind = 2 ∨ s.kind = 3 ∨ s.kind = 4) ∧ ∀ p ∈ placesSt s, p.var < (planRule lim [] r order (srtZ order)).vars)
      ∧ chk (List.replicate (planRule lim [] r order (srtZ order)).vars false) (planRule lim [] r order (srtZ order)).steps
      ∧ ∀ p ∈ row3 (planRule lim [] r order (srtZ order)).head, p.var < (planRule lim [] r order (srtZ order)).vars ∧ okPl (mkA (List.replicate (planRule lim [] r order (srtZ order)).vars false) (planRule lim [] r order (srtZ order)).steps) p = true := by
  have h1 : Both lim [] (([] : List Tm), (0 : Int)) := .inl ⟨rfl, rfl, Nat.zero_le _⟩
  have hh := h1.row (head_has r)
  by_cases h3 : (planSteps lim (dd (allSlots r)) (rowF lim (dd (allSlots r)) ([], 0) r.head).2.1 (rowF lim (dd (allSlots r)) ([], 0) r.head).2.2 r.body order (srtZ order)).2.2 = 0
  case neg =>
    rw [planRule_full h0 h3] at he
    exact absurd he h3
  rw [planRule_ok h0 h3]
  simp only
  generalize hts : (rowF lim (dd (allSlots r)) ([], 0) r.head).2.1 = ts at h3 hh ⊢
  generalize hbad : (rowF lim (dd (allSlots r)) ([], 0) r.head).2.2 = bad at h3 hh ⊢
  have hb : bad = 0 := body_bad (lim := lim) (vars := dd (allSlots r)) (ts := ts) (bad := bad) (body := r.body) r.body.length 0 (by omega) h3
  have hr : Both lim (rowW (dd (allSlots r)) [] r.head).2 (ts, bad) := by
    have : (rowF lim (dd (allSlots r)) ([], 0) r.head).2 = (ts, bad) := by rw [← hts, ← hbad]
    rw [this] at hh
    exact hh
  obtain ⟨e1, e2, e3⟩ := body_same (rule_kd h0) (body_has r) hr h3 r.body.length (Nat.le_refl _)
  rw [fT_all (Nat.le_refl _)] at e1 e2 e3
  generalize hS : SW (dd (allSlots r)) (passW (dd (allSlots r)) (rowW (dd (allSlots r)) [] r.head).2 r.body r.body.length) = S at e1 e2 e3
  have hkS : ∀ l ∈ r.body, (S l).kind = l.kind := fun l hl => by rw [← hS]; exact SW_kind (rule_kd h0 l hl)
  have hM : ∀ l ∈ r.body.filter isMt, l.kind = 1 ∧ ∀ s ∈ stepSl l, HasV (dd (allSlots r)) s := fun l hl => ⟨by have := (List.mem_filter.1 hl).2; simpa [isMt] using this, body_has r l (List.mem_filter.1 hl).1⟩
  have hq0 : RunS S (dd (allSlots r)) ⟨List.replicate (dd (allSlots r)).length false, (r.body.filter isCt).map S ++ (r.body.filter isNt).map S, []⟩ ⟨[], waitL r.body, []⟩ :=
    ⟨by simp only; rw [← List.map_append]; rfl, rfl, by simp, fun s i _ _ => by rw [List.getD_eq_getElem?_getD, List.getElem?_replicate]; split <;> rfl⟩
  have hwt : ∀ l ∈ waitL r.body, ∀ s ∈ stepSl l, HasV (dd (allSlots r)) s := fun l hl => body_has r l (wait_mem hl).1
  have hord := fun i z hz => ord_at (S := S) (M := r.body.filter isMt) (order := order) i z hz
  have hrun := by
    rw [← hS] at hq0 hord
    exact run_same (good := goodF (r.body.filter isMt).length order) (order := order) (ord := ordF (r.body.filter isMt).length order (srtZ order)) hq0 hM hwt (fun h => h) hord _ (Nat.le_refl _)
  rw [hS, ord_len] at hrun
  have hst : (planSteps lim (dd (allSlots r)) ts bad r.body order (srtZ order)).1 = (runTo ((r.body.filter isMt).map S) ⟨List.replicate (dd (allSlots r)).length false, (r.body.filter isCt).map S ++ (r.body.filter isNt).map S, []⟩ (ordF (r.body.filter isMt).length order (srtZ order)) (r.body.filter isMt).length).o := by
    show (runTo (bodyTo lim (dd (allSlots r)) ts bad r.body r.body.length).m ⟨_, (bodyTo lim (dd (allSlots r)) ts bad r.body r.body.length).w ++ (bodyTo lim (dd (allSlots r)) ts bad r.body r.body.length).n, []⟩ (ordF (bodyTo lim (dd (allSlots r)) ts bad r.body r.body.length).m.length order (srtZ order)) _).o = _
    rw [e1, e2, e3, List.length_map, ord_len]
  have hchk : ChkQ (List.replicate (dd (allSlots r)).length false) (runTo ((r.body.filter isMt).map S) ⟨List.replicate (dd (allSlots r)).length false, (r.body.filter isCt).map S ++ (r.body.filter isNt).map S, []⟩ (ordF (r.body.filter isMt).length order (srtZ order)) (r.body.filter isMt).length) := by
    refine ChkQ.run (q := ⟨_, _, []⟩) ⟨trivial, rfl, fun s hs => ?_⟩ (fun z hz => ?_) _ (by rw [ord_len]; exact Nat.le_refl _)
    · simp only at hs
      rw [← List.map_append] at hs
      obtain ⟨l, hl, rfl⟩ := List.mem_map.1 hs
      rw [hkS l (wait_mem hl).1]
      exact (wait_mem hl).2
    · obtain ⟨i, hi⟩ := List.mem_iff_getElem?.1 hz
      obtain ⟨hiM, e⟩ := hord i z hi
      have hm := mAt_mem (order := order) (good := goodF (r.body.filter isMt).length order) (p := i) hiM (fun h => h)
      rw [e, hkS _ (List.mem_filter.1 hm).1]
      exact (hM _ hm).1
  have htk : (stW (r.body.filter isMt) (goodF (r.body.filter isMt).length order) order ⟨[], waitL r.body, []⟩ ((r.body.filter isMt).length + 1)).tk = (List.range (r.body.filter isMt).length).map (mAt (r.body.filter isMt) (goodF (r.body.filter isMt).length order) order) := by rw [st_tk]; rfl
  have hall : ∀ s ∈ allSlots r, (emp s.v || standsL (stW (r.body.filter isMt) (goodF (r.body.filter isMt).length order) order ⟨[], waitL r.body, []⟩ ((r.body.filter isMt).length + 1)).tk s.v) = true := fun s hs => by
    cases he : emp s.v with
    | true => rfl
    | false =>
      obtain ⟨m, hm, hk, hy⟩ := safe_slot h0 hs he
      rw [Bool.false_or, htk]
      exact stands_mem (all_taken (List.mem_filter.2 ⟨hm, by simp [isMt, hk]⟩)) hy
  have hend : (stW (r.body.filter isMt) (goodF (r.body.filter isMt).length order) order ⟨[], waitL r.body, []⟩ ((r.body.filter isMt).length + 1)).wt = [] := by
    generalize hn : (r.body.filter isMt).length = n at hall ⊢
    have hsub : ∀ k, ∀ l ∈ (stW (r.body.filter isMt) (goodF n order) order ⟨[], waitL r.body, []⟩ k).wt, l ∈ waitL r.body := by
      intro k
      induction k with
      | zero => exact fun l hl => hl
      | succ k ihk =>
        intro l hl
        have hl2 : l ∈ ((preW (r.body.filter isMt) (goodF n order) order (stW (r.body.filter isMt) (goodF n order) order ⟨[], waitL r.body, []⟩ k) k).wt.filter (fun l => !readyW (preW (r.body.filter isMt) (goodF n order) order (stW (r.body.filter isMt) (goodF n order) order ⟨[], waitL r.body, []⟩ k) k).tk l)) := hl
        have := (List.mem_filter.1 hl2).1
        rw [pre_wt] at this
        exact ihk l this
    rw [List.eq_nil_iff_forall_not_mem]
    intro l hl
    have hw := hsub _ l hl
    have hl2 : l ∈ ((preW (r.body.filter isMt) (goodF n order) order (stW (r.body.filter isMt) (goodF n order) order ⟨[], waitL r.body, []⟩ n) n).wt.filter (fun l => !readyW (stW (r.body.filter isMt) (goodF n order) order ⟨[], waitL r.body, []⟩ (n + 1)).tk l)) := hl
    have hnr := (List.mem_filter.1 hl2).2
    have hrd : readyW (stW (r.body.filter isMt) (goodF n order) order ⟨[], waitL r.body, []⟩ (n + 1)).tk l = true := by
      unfold readyW
      rw [List.all_eq_true]
      intro s hs
      refine hall s ?_
      unfold allSlots allTake
      rw [List.take_length]
      exact List.mem_append_right _ (List.mem_flatMap.2 ⟨l, (wait_mem hw).1, hs⟩)
    rw [hrd] at hnr
    cases hnr
  have hcnt := st_cnt (r.body.filter isMt) (goodF (r.body.filter isMt).length order) order ⟨[], waitL r.body, []⟩ (r.body.filter isMt).length
  have hsum := kinds_sum r.body (rule_kd h0)
  rw [hend] at hcnt
  simp only [List.length_nil] at hcnt
  have hlen : (planSteps lim (dd (allSlots r)) ts bad r.body order (srtZ order)).1.length = r.body.length := by rw [hst, hrun.o, List.length_map]; omega
  refine ⟨hlen, ?_, by rw [hst]; exact hchk.c, fun p hp => ⟨?_, ?_⟩⟩
  · intro s hs
    refine ⟨?_, ?_⟩
    · rw [hst, hrun.o] at hs
      obtain ⟨l, hl, rfl⟩ := List.mem_map.1 hs
      have hlb : l ∈ r.body := parts_mem (order := order) l hl
      rw [hkS l hlb]
      exact rule_kd h0 l hlb
    · rw [hst, hrun.o] at hs
      obtain ⟨l, hl, rfl⟩ := List.mem_map.1 hs
      rw [← hS]
      exact SW_lt _ _ _
  · have : ∀ x ∈ row3 (rowF lim (dd (allSlots r)) ([], 0) r.head).1, x.var < (dd (allSlots r)).length := by
      intro x hx
      simp only [row3, rowF, List.mem_cons, List.not_mem_nil, or_false] at hx
      rcases hx with rfl | rfl | rfl <;> exact placeF_lt _ _ _ _
    exact this p hp
  · rw [hst, hchk.k]
    rw [row_same (head_has r) h1 (by rw [hbad]; exact hb)] at hp
    simp only [row3, rowW, List.mem_cons, List.not_mem_nil, or_false] at hp
    have hsl : ∀ s ∈ sl3 r.head, s ∈ allSlots r := fun s hs => by
      unfold allSlots allTake
      exact List.mem_append_left _ hs
    rcases hp with rfl | rfl | rfl
    · rw [pl_ok hrun.kn _ (head_has r _ (by simp [sl3]))]; exact hall _ (hsl _ (by simp [sl3]))
    · rw [pl_ok hrun.kn _ (head_has r _ (by simp [sl3]))]; exact hall _ (hsl _ (by simp [sl3]))
    · rw [pl_ok hrun.kn _ (head_has r _ (by simp [sl3]))]; exact hall _ (hsl _ (by simp [sl3]))
end Go.Proofs.YtfddkcmooommeaaGreatDoor.Gl
end
section
namespace Go.Proofs.YtfddkcmooommeaaGreatDoor.Gl
open Go.RowKit Go.Shelf
set_option linter.unusedVariables false
set_option linter.unnecessarySimpa false
set_option linter.unusedSimpArgs false
attribute [-simp] List.getD_eq_getElem?_getD
section
variable {X : Cx} {Q : Post} {fr : Fr} {ds : List Deferred} {G : Hp} {ops : Array Oper} {o : Oper} {rest : List Oper} {d : Nat}
end
def pk (r : Rw) (i : Nat) : Pl := if i = 0 then r.p0 else if i = 1 then r.p1 else r.p2
def upto (k : Nat) (f : Nat → Value) (z : Value) (i : Nat) : Value := if i < k then f i else z
theorem pk_get {r : Rw} {k : Nat} (h : k < 3) : (row3 r)[k]? = some (pk r k) := by
  rcases (show k = 0 ∨ k = 1 ∨ k = 2 by omega) with rfl | rfl | rfl <;> rfl
structure Lk where
  c : Nat
  v : Nat → Int
  d : Nat → Nat
end Go.Proofs.YtfddkcmooommeaaGreatDoor.Gl
end
section
namespace Go.Proofs.YtfddkcmooommeaaGreatDoor.Gl
open Go.RowKit Go.Shelf
set_option linter.unusedVariables false
set_option linter.unnecessarySimpa false
set_option linter.unusedSimpArgs false
attribute [-simp] List.getD_eq_getElem?_getD
section
variable {s : St} {k : Nat} {df : Nat → Nat} {c : Value}
end
end Go.Proofs.YtfddkcmooommeaaGreatDoor.Gl
end
section
namespace Go.Proofs.YtfddkcmooommeaaGreatDoor.Gl
open Go.RowKit Go.Shelf
set_option linter.unusedVariables false
set_option linter.unnecessarySimpa false
set_option linter.unusedSimpArgs false
attribute [-simp] List.getD_eq_getElem?_getD
theorem internF_room {lim : Nat} {ts : List Tm} {t : Tm} (h : ts.length < lim) : (internF lim ts t).2.1 = 0 ∧ (internF lim ts t).2.2.length ≤ ts.length + 1 := by
  unfold internF
  cases idxT ts t with
  | some n => exact ⟨rfl, Nat.le_succ _⟩
  | none =>
    simp only
    rw [if_neg (by omega)]
    exact ⟨rfl, by simp⟩
theorem placeF_room {lim : Nat} {vars : List ByteArray} {q : List Tm × Int} {s : Sl} (h : q.1.length < lim) (hb : q.2 = 0) : (placeF lim vars q s).2.2 = 0 ∧ (placeF lim vars q s).2.1.length ≤ q.1.length + 1 := by
  cases he : emp s.v with
  | false => rw [placeF_var he]; exact ⟨hb, Nat.le_succ _⟩
  | true => rw [placeF_t0 he hb]; exact internF_room h
theorem rowF_room {lim : Nat} {vars : List ByteArray} {q : List Tm × Int} {p : Pt} (h : q.1.length + 3 ≤ lim) (hb : q.2 = 0) : (rowF lim vars q p).2.2 = 0 ∧ (rowF lim vars q p).2.1.length ≤ q.1.length + 3 := by
  obtain ⟨a1, a2⟩ := placeF_room (lim := lim) (vars := vars) (s := p.s0) (show q.1.length < lim by omega) hb
  obtain ⟨b1, b2⟩ := placeF_room (lim := lim) (vars := vars) (s := p.s1) (show (placeF lim vars q p.s0).2.1.length < lim by omega) a1
  obtain ⟨c1, c2⟩ := placeF_room (lim := lim) (vars := vars) (s := p.s2) (show (placeF lim vars (placeF lim vars q p.s0).2 p.s1).2.1.length < lim by omega) b1
  exact ⟨c1, by show (placeF lim vars (placeF lim vars (placeF lim vars q p.s0).2 p.s1).2 p.s2).2.1.length ≤ _; omega⟩
theorem stepF_room {lim : Nat} {vars : List ByteArray} {q : List Tm × Int} {l : Lt} (h : q.1.length + 3 ≤ lim) (hb : q.2 = 0) : (stepF lim vars q l).2.2 = 0 ∧ (stepF lim vars q l).2.1.length ≤ q.1.length + 3 := by
  by_cases h1 : l.kind = 1
  · rw [stepF_1 h1]; exact rowF_room h hb
  by_cases h2 : l.kind = 2
  · rw [stepF_2 h1 h2]; exact rowF_room h hb
  have hab : (placeF lim vars (placeF lim vars q l.a).2 l.b).2.2 = 0 ∧ (placeF lim vars (placeF lim vars q l.a).2 l.b).2.1.length ≤ q.1.length + 3 := by
    obtain ⟨a1, a2⟩ := placeF_room (lim := lim) (vars := vars) (s := l.a) (show q.1.length < lim by omega) hb
    obtain ⟨b1, b2⟩ := placeF_room (lim := lim) (vars := vars) (s := l.b) (show (placeF lim vars q l.a).2.1.length < lim by omega) a1
    exact ⟨b1, by omega⟩
  by_cases h3 : l.kind = 3
  · rw [stepF_3 h1 h2 h3]; exact hab
  · rw [stepF_4 h1 h2 h3]; exact hab
theorem bodyStep_room {lim : Nat} {vars : List ByteArray} {a : BS} {l : Lt} (h : a.ts.length + 3 ≤ lim) (hb : a.bad = 0) : (bodyStep lim vars a l).bad = 0 ∧ (bodyStep lim vars a l).ts.length ≤ a.ts.length + 3 := by
  have hs := stepF_room (lim := lim) (vars := vars) (q := (a.ts, a.bad)) (l := l) h hb
  by_cases h1 : (stepF lim vars (a.ts, a.bad) l).1.kind = 1
  · rw [bodyStep_1 h1]; exact hs
  by_cases h2 : (stepF lim vars (a.ts, a.bad) l).1.kind = 2
  · rw [bodyStep_2 h1 h2]; exact hs
  · rw [bodyStep_3 h1 h2]; exact hs
theorem bodyTo_room {lim : Nat} {vars : List ByteArray} {ts : List Tm} {body : List Lt} (h : ts.length + 3 * body.length ≤ lim) : ∀ i, i ≤ body.length → (bodyTo lim vars ts 0 body i).bad = 0 ∧ (bodyTo lim vars ts 0 body i).ts.length ≤ ts.length + 3 * i
  | 0, _ => ⟨rfl, Nat.le_refl _⟩
  | i + 1, hi => by
    obtain ⟨h1, h2⟩ := bodyTo_room h i (by omega)
    rw [bodyTo_succ (List.getElem?_eq_getElem (show i < body.length by omega))]
    obtain ⟨h3, h4⟩ := bodyStep_room (lim := lim) (vars := vars) (l := body[i]) (show (bodyTo lim vars ts 0 body i).ts.length + 3 ≤ lim by omega) h1
    exact ⟨h3, by omega⟩
theorem planRule_room {lim : Nat} {r : Rl} {order srt : List Int} (h0 : ruleE r = 0) (h : 3 + 3 * r.body.length ≤ lim) : (planRule lim [] r order srt).e = 0 := by
  have h1 := rowF_room (lim := lim) (vars := dd (allSlots r)) (q := (([] : List Tm), (0 : Int))) (p := r.head) (by simp; omega) rfl
  have h2 : (planSteps lim (dd (allSlots r)) (rowF lim (dd (allSlots r)) ([], 0) r.head).2.1 (rowF lim (dd (allSlots r)) ([], 0) r.head).2.2 r.body order srt).2.2 = 0 := by
    show (bodyTo lim (dd (allSlots r)) (rowF lim (dd (allSlots r)) ([], 0) r.head).2.1 (rowF lim (dd (allSlots r)) ([], 0) r.head).2.2 r.body r.body.length).bad = 0
    rw [h1.1]
    exact (bodyTo_room (by have := h1.2; simp at this; omega) _ (Nat.le_refl _)).1
  rw [planRule_ok h0 h2]
end Go.Proofs.YtfddkcmooommeaaGreatDoor.Gl
end
section
namespace Go.Proofs.YtfddkcmooommeaaGreatDoor.Gl
open Go.RowKit Go.Shelf
set_option linter.unusedVariables false
set_option linter.unnecessarySimpa false
set_option linter.unusedSimpArgs false
attribute [-simp] List.getD_eq_getElem?_getD
theorem StsAt.mono {w0 : World} {G G' : Hp} {A : Option Addr} {ss : List St} (h : StsAt w0 G A ss) (hs : ∀ y ∈ G, y ∈ G') : StsAt w0 G' A ss := fun i x hx => by obtain ⟨b, o, cs, h1, h2, h3⟩ := h i x hx; exact ⟨b, o, cs, h1, h2, h3.mono hs⟩
end Go.Proofs.YtfddkcmooommeaaGreatDoor.Gl
end
