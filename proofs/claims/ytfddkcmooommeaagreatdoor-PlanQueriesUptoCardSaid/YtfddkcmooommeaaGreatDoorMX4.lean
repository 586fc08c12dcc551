/- Part 4 of the proof: X7 X8 X9 XA X10 X11 X12 Qa Qc Q1 Z1 Z2. -/
import Derived.Test.YtfddkcmooommeaaGreatDoorMX3
import Derived.Test.YtfddkcmooommeaaGreatDoorRows
import Derived.ChangeShapes
import Derived.Deep.Slices
import Derived.Test.YtfddkcmooommeaaGreatDoorCards
import Derived.Test.YtfddkcmooommeaaGreatDoorTie
import Derived.WalkKit
import Derived.ProofKit
import Derived.OpenShut
import Derived.Carry
import Derived.Deep.DeepHandedRow
import Derived.Lib.LaidTab
import Derived.Lib.LaidIn
import Derived.Lib.LaidU8T
section
namespace Go.Proofs.YtfddkcmooommeaaGreatDoor.Gl
open Go.RowKit Go.Shelf
set_option linter.unusedVariables false
set_option linter.unnecessarySimpa false
set_option linter.unusedSimpArgs false
attribute [-simp] List.getD_eq_getElem?_getD
def zC (xs : List Int) : List Value := xs.map fun z => Value.int .i64 z
def IntsAt (w0 : World) (G : Hp) (A : Option Addr) (xs : List Int) : Prop := RowAt w0 G 1 (fun z cs => cs = [.int .i64 z]) A xs
theorem IntsAt.mono {w0 : World} {G G' : Hp} {A : Option Addr} {xs : List Int} (h : IntsAt w0 G A xs) (hs : ∀ y ∈ G, y ∈ G') : IntsAt w0 G' A xs := fun i x hx => by obtain ⟨b, o, cs, h1, h2, h3⟩ := h i x hx; exact ⟨b, o, cs, h1, h2, h3.mono hs⟩
theorem int_at {w0 : World} {G : Hp} {A : Option Addr} {xs : List Int} {i : Nat} {z : Int} (h : IntsAt w0 G A xs) (hx : xs[i]? = some z) : ∃ b o, A = some ⟨b, o, none⟩ ∧ Rd w0 G b (o + i * 1) (.int .i64 z) := by
 obtain ⟨b, o, cs, hA, rfl, h3⟩ := h i z hx
 exact ⟨b, o, hA, h3 0 _ rfl⟩
theorem SlAt.ints {xs : List Int} {v : Value} {H : Hp} (w0 : World) (G : Hp) (h : SlAt 1 3 (zC xs) xs.length v H) : ∃ A c, v = .slice A xs.length c ∧ IntsAt w0 (H ++ G) A xs ∧ xs.length ≤ c := by
 generalize hn : xs.length = n at h
 cases h with
 | nil h0 hc =>
  subst h0
  rw [List.length_eq_zero_iff] at hn
  subst hn
  exact ⟨none, 0, rfl, fun i x hx => by simp at hx, Nat.le_refl _⟩
 | row b cap hl hc =>
  refine ⟨some ⟨b, 0, none⟩, cap, rfl, fun i x hx => ⟨b, 0, _, rfl, rfl, fun j v hv => ?_⟩, hc⟩
  refine .own (List.mem_append_left _ List.mem_cons_self) ?_
  cases j with
  | zero =>
   simp at hv
   subst hv
   show (zC xs)[0 + i * 1 + 0]? = _
   rw [show 0 + i * 1 + 0 = i by omega]
   simp [zC, hx]
  | succ j => simp at hv
theorem exact_ints {w0 : World} {G : Hp} {b : Nat} {ns : List Nat} (h : (b, Know.exact (.cells (intC ns).toArray 3 (0, 0))) ∈ G) : IntsAt w0 G (some ⟨b, 0, none⟩) (ns.map fun n : Nat => (n : Int)) := by
 intro i x hx
 rw [List.getElem?_map, Option.map_eq_some_iff] at hx
 obtain ⟨n, hn, rfl⟩ := hx
 refine ⟨b, 0, _, rfl, rfl, fun j v hv => ?_⟩
 refine .own h ?_
 cases j with
 | zero =>
  simp at hv
  subst hv
  show (intC ns).toArray[0 + i * 1 + 0]? = _
  rw [show 0 + i * 1 + 0 = i by omega, List.getElem?_toArray]
  exact intC_get hn
 | succ j => simp at hv
def upL (n i : Nat) : List Nat := (List.range n).map fun j => if j < i then j else 0
theorem upL_len (n i : Nat) : (upL n i).length = n := by simp [upL]
theorem upL_all (n : Nat) : upL n n = List.range n := by
 unfold upL
 conv => rhs; rw [← List.map_id (List.range n)]
 refine List.map_congr_left fun j hj => ?_
 rw [if_pos (List.mem_range.1 hj)]
 rfl
theorem upL_set {n i : Nat} (h : i < n) : (upL n i).set i i = upL n (i + 1) := by
 apply List.ext_getElem?
 intro j
 rw [List.getElem?_set, upL_len]
 split
 ·rename_i e
  subst e
  simp [upL, h]
 ·rename_i e
  unfold upL
  rcases Nat.lt_or_ge j n with hj | hj
  ·simp only [List.getElem?_map, List.getElem?_range hj, Option.map_some]
   congr 1
   by_cases h1 : j < i
   ·rw [if_pos h1, if_pos (by omega)]
   ·rw [if_neg h1, if_neg (by omega)]
  ·rw [List.getElem?_eq_none (by simpa using hj), List.getElem?_eq_none (by simpa using hj)]
theorem upL_put {n i : Nat} (h : i < n) : splice (intC (upL n i)).toArray (0 + (i : Int).toNat * 1) (Value.int .i64 (i : Nat)).cells.toList = (intC (upL n (i + 1))).toArray := by
 rw [show 0 + (i : Int).toNat * 1 = i by simp, show (Value.int .i64 (i : Nat)).cells.toList = [Value.int .i64 (i : Nat)] from rfl, splice_one (by rw [intC_len, upL_len]; exact h), ← upL_set h]
 simp [intC, List.map_set]
theorem upL_zero (n : Nat) : (intC (upL n 0)).toArray = (List.replicate n (Value.int .i64 0)).toArray := by
 congr 1
 apply List.ext_getElem?
 intro j
 rcases Nat.lt_or_ge j n with hj | hj
 ·simp [intC, upL, hj]
 ·rw [List.getElem?_eq_none (by rw [intC_len, upL_len]; exact hj), List.getElem?_eq_none (by simpa using hj)]
theorem Hs.cellsEq {b : Nat} {e : TypeId} {C D : Array Value} (h : C = D) (R : Hp) : Hs ((b, .exact (.cells C e (0, 0))) :: R) ((b, .exact (.cells D e (0, 0))) :: R) := h ▸ Hs.refl _
theorem take_eq_succ {xs ys : List Int} {i : Nat} {x y : Int} (h : xs.take i = ys.take i) (hx : xs[i]? = some x) (hy : ys[i]? = some y) (he : x = y) : xs.take (i + 1) = ys.take (i + 1) := by
 rw [List.take_add_one, List.take_add_one, h, hx, hy, he]
theorem plan_upTo (w0 : World) (G : Hp) (n : Nat) (hn : n ≤ 100000) : GC Tryz.prog w0 60 #[.int .i64 (n : Nat)] (fun v G' => ∃ b, v = .slice (some ⟨b, 0, none⟩) n n ∧ (b, .exact (.cells (intC (List.range n)).toArray 3 (0, 0))) :: G = G') G := by
 refine GC.body (args := [.int .i64 (n : Nat)]) Tryz.func60 rfl (by kernel_rfl) rfl ?_
 refine GW.seq ?_
 refine GW.region ?_
 refine R.assign ⟨Z,Z,Z,Z⟩ Z ?_
 refine GOps.nil ?_
 refine GW.seq ?_
 refine GW.region ?_
 refine R.move ⟨Z,Z,Z,Z⟩ Z ?_
 refine R.makeZero (n := n) (bytes := 8) (z0 := .int .i64 0) ⟨Z,Z,Z,Z⟩ (by rfl) (by rfl) Tryz.underlying32 (InfoE.mk (by kernel_rfl)) (InfoZ.mk (by kernel_rfl)) (by omega) (by omega) fun b6 => ?_
 refine R.assign ⟨Z,Z,Z,Z⟩ Z ?_
 refine GOps.nil ?_
 refine GW.seq ?_
 refine GW.seq ?_
 refine GW.region ?_
 refine R.move ⟨Z,Z,Z,Z⟩ Z ?_
 refine R.lenS ⟨Z,Z,Z,Z⟩ Z Z Tryz.underlying32 ?_
 refine R.move ⟨Z,Z,Z,Z⟩ Z ?_
 refine GOps.nil ?_
 refine GW.block ?_
 refine GW.loopI (fun i : Nat => [(3, .slice (some ⟨b6, 0, none⟩) n n), (8, .int .i64 n), (9, .int .i64 i)]) (fun i => (b6, .exact (.cells (intC (upL n i)).toArray 3 (0, 0))) :: G) (fun i => n - i) (fun i => i ≤ n) 0
  (keepG) (Hs.cellsEq (upL_zero n).symm _) (Nat.zero_le _) ?_
 rintro i hi
 refine GW.seq ?_
 refine GW.region ?_
 refine R.lss ⟨Z,Z,Z,Z⟩ Z Z ?_
 refine GOps.nil ?_
 refine GW.seq ?_
 refine GW.ite Z (fun hc1 => ?_) (fun hc1 => ?_)
 ·try simp only [dcQ] at hc1
  refine GW.skip ?_
  refine GW.seq ?_
  refine GW.block ?_
  refine GW.seq ?_
  refine GW.region ?_
  refine R.move ⟨Z,Z,Z,Z⟩ Z ?_
  refine R.assign ⟨Z,Z,Z,Z⟩ Z ?_
  refine GOps.nil ?_
  refine GW.region ?_
  refine R.move ⟨Z,Z,Z,Z⟩ Z ?_
  refine R.move ⟨Z,Z,Z,Z⟩ Z ?_
  refine R.move ⟨Z,Z,Z,Z⟩ Z ?_
  refine R.indexAddrS ⟨Z,Z,Z,Z⟩ Z Z Tryz.underlying32 Tryz.sizeOf3 (by omega) (by omega) ?_
  refine R.store (G1 := []) Z Z Z Z Z Tryz.sizeOf3 Z Z (Z) (by simp [intC_len, upL_len]; omega) ?_
  refine GOps.nil ?_
  refine GW.region ?_
  refine R.add (r := (((i + 1) : Nat) : Int)) ⟨Z,Z,Z,Z⟩ Z Z (by rw [wrap64_id (by omega) (by omega)]; omega) ?_
  refine R.move ⟨Z,Z,Z,Z⟩ Z ?_
  refine GOps.nil ?_
  exact ⟨i + 1, by omega, by omega, rfl, keepG, by first | exact Hs.refl _ | exact Hs.tl _ | exact Hs.tl2 _ _ | exact Hs.cellsEq (upL_put (by omega)) _⟩
 ·try simp only [dcQ] at hc1
  refine GW.exit ?_
  refine GW.seq ?_
  refine GW.region ?_
  refine R.move ⟨Z,Z,Z,Z⟩ Z ?_
  refine R.assign ⟨Z,Z,Z,Z⟩ Z ?_
  refine GOps.nil ?_
  obtain rfl : i = n := by omega
  rw [upL_all]
  exact GW.ret (Out.of (Res.one rfl rfl) (Hs.refl _) ⟨b6, rfl, rfl⟩)
theorem sl_EqInt (w0 : World) (G : Hp) (A B : Option Addr) (xs ys : List Int) (c e : Nat) (hx : IntsAt w0 G A xs) (hy : IntsAt w0 G B ys) (hm : xs.length ≤ 100000) (hm2 : ys.length ≤ 100000) : GC Tryz.prog w0 59 #[.slice A xs.length c, .slice B ys.length e] (fun v G' => v = .bool (decide (xs = ys)) ∧ G = G') G := by
 refine GC.body (args := [.slice A xs.length c, .slice B ys.length e]) Tryz.func59 rfl (by kernel_rfl) rfl ?_
 refine GW.seq ?_
 refine GW.region ?_
 refine R.assign ⟨Z,Z,Z,Z⟩ Z ?_
 refine GOps.nil ?_
 refine GW.seq ?_
 refine GW.seq ?_
 refine GW.region ?_
 refine R.move ⟨Z,Z,Z,Z⟩ Z ?_
 refine R.lenS ⟨Z,Z,Z,Z⟩ Z Z Tryz.underlying32 ?_
 refine R.move ⟨Z,Z,Z,Z⟩ Z ?_
 refine R.lenS ⟨Z,Z,Z,Z⟩ Z Z Tryz.underlying32 ?_
 refine R.neI ⟨Z,Z,Z,Z⟩ Z Z ?_
 refine GOps.nil ?_
 refine GW.ite Z (fun hc1 => ?_) (fun hc1 => ?_)
 ·try simp only [dcQ] at hc1
  have hne : xs ≠ ys := fun e0 => by subst e0; omega
  refine GW.seq ?_
  refine GW.region ?_
  refine R.assign ⟨Z,Z,Z,Z⟩ Z ?_
  refine GOps.nil ?_
  refine GW.ret (Out.of (Res.one Z Z) (by first | exact Hs.refl _ | exact Hs.tl _ | exact Hs.tl2 _ _ | exact Hs.tl3 _ _ _ | exact (Hs.app _).trans (Hs.tl _) | exact (Hs.app _).trans ((Hs.app _).trans (Hs.tl _)) | exact Hs.sub (by repeat (first | exact List.Sublist.refl _ | apply List.Sublist.cons))) ⟨?_, Z⟩)
  first | rw [decide_eq_false hne] | rw [decide_eq_true heq]
 ·try simp only [dcQ] at hc1
  refine GW.skip ?_
  refine GW.seq ?_
  refine GW.seq ?_
  refine GW.region ?_
  refine R.move ⟨Z,Z,Z,Z⟩ Z ?_
  refine R.lenS ⟨Z,Z,Z,Z⟩ Z Z Tryz.underlying32 ?_
  refine R.move ⟨Z,Z,Z,Z⟩ Z ?_
  refine GOps.nil ?_
  refine GW.block ?_
  refine GW.loopI (fun i : Nat => [(0, .slice A xs.length c), (1, .slice B ys.length e), (12, .int .i64 xs.length), (13, .int .i64 i)]) (fun i => G) (fun i => xs.length - i) (fun i => i ≤ xs.length ∧ xs.take i = ys.take i) 0
   (keepG) (Hs.refl _) (⟨by omega, by simp⟩) ?_
  rintro i ⟨hi, h0⟩
  refine GW.seq ?_
  refine GW.region ?_
  refine R.lss ⟨Z,Z,Z,Z⟩ Z Z ?_
  refine GOps.nil ?_
  refine GW.seq ?_
  refine GW.ite Z (fun hc2 => ?_) (fun hc2 => ?_)
  ·try simp only [dcQ] at hc2
   obtain ⟨x, hxi⟩ : ∃ x, xs[i]? = some x := ⟨_, List.getElem?_eq_getElem (by omega)⟩
   obtain ⟨y, hyi⟩ : ∃ y, ys[i]? = some y := ⟨_, List.getElem?_eq_getElem (by omega)⟩
   obtain ⟨xb, xo, rfl, hrx⟩ := int_at hx hxi
   obtain ⟨yb, yo, rfl, hry⟩ := int_at hy hyi
   refine GW.skip ?_
   refine GW.seq ?_
   refine GW.block ?_
   refine GW.seq ?_
   refine GW.region ?_
   refine R.move ⟨Z,Z,Z,Z⟩ Z ?_
   refine R.assign ⟨Z,Z,Z,Z⟩ Z ?_
   refine GOps.nil ?_
   refine GW.seq ?_
   refine GW.drawS 9 Z (by kernel_rfl) ?_
   refine GA.w 0 Z (V.move ⟨Z,Z,Z,Z⟩ Z) Z ?_
   refine GA.w 1 Z (V.move ⟨Z,Z,Z,Z⟩ Z) Z ?_
   refine GA.val 2 Z (V.indexAddrS ⟨Z,Z,Z,Z⟩ Z Z Tryz.underlying32 Tryz.sizeOf3 (by omega) (by omega)) Z (by kernel_rfl) (by kernel_rfl) (by kernel_rfl) ?_
   refine GA.val 3 Z (V.load1 ⟨Z,Z,Z,Z⟩ Z Tryz.underlying3 Z (hrx)) Z (by kernel_rfl) (by kernel_rfl) (by kernel_rfl) ?_
   refine GA.w 4 Z (V.move ⟨Z,Z,Z,Z⟩ Z) Z ?_
   refine GA.w 5 Z (V.move ⟨Z,Z,Z,Z⟩ Z) Z ?_
   refine GA.val 6 Z (V.indexAddrS ⟨Z,Z,Z,Z⟩ Z Z Tryz.underlying32 Tryz.sizeOf3 (by omega) (by omega)) Z (by kernel_rfl) (by kernel_rfl) (by kernel_rfl) ?_
   refine GA.val 7 Z (V.load1 ⟨Z,Z,Z,Z⟩ Z Tryz.underlying3 Z (hry)) Z (by kernel_rfl) (by kernel_rfl) (by kernel_rfl) ?_
   refine GA.val 8 Z (V.neI ⟨Z,Z,Z,Z⟩ Z Z) Z (by kernel_rfl) (by kernel_rfl) (by kernel_rfl) ?_
   refine GA.done hsC (by kernel_rfl) ?_
   refine GW.ite Z (fun hc3 => ?_) (fun hc3 => ?_)
   ·try simp only [dcQ] at hc3
    have hne : xs ≠ ys := fun e0 => by subst e0; rw [hxi] at hyi; have := Option.some.inj hyi; omega
    refine GW.seq ?_
    refine GW.region ?_
    refine R.assign ⟨Z,Z,Z,Z⟩ Z ?_
    refine GOps.nil ?_
    refine GW.ret (Out.of (Res.one Z Z) (by first | exact Hs.refl _ | exact Hs.tl _ | exact Hs.tl2 _ _ | exact Hs.tl3 _ _ _ | exact (Hs.app _).trans (Hs.tl _) | exact (Hs.app _).trans ((Hs.app _).trans (Hs.tl _)) | exact Hs.sub (by repeat (first | exact List.Sublist.refl _ | apply List.Sublist.cons))) ⟨?_, Z⟩)
    first | rw [decide_eq_false hne] | rw [decide_eq_true heq]
   ·try simp only [dcQ] at hc3
    refine GW.skip ?_
    refine GW.region ?_
    refine R.add (r := (((i + 1) : Nat) : Int)) ⟨Z,Z,Z,Z⟩ Z Z (by rw [wrap64_id (by omega) (by omega)]; omega) ?_
    refine R.move ⟨Z,Z,Z,Z⟩ Z ?_
    refine GOps.nil ?_
    exact ⟨i + 1, by omega, ⟨by omega, take_eq_succ h0 hxi hyi (by omega)⟩, rfl, keepG, by first | exact Hs.refl _ | exact Hs.tl _ | exact Hs.tl2 _ _⟩
  ·try simp only [dcQ] at hc2
   have heq : xs = ys := by rwa [List.take_of_length_le (by omega), List.take_of_length_le (by omega)] at h0
   refine GW.exit ?_
   refine GW.seq ?_
   refine GW.region ?_
   refine R.assign ⟨Z,Z,Z,Z⟩ Z ?_
   refine GOps.nil ?_
   refine GW.ret (Out.of (Res.one Z Z) (by first | exact Hs.refl _ | exact Hs.tl _ | exact Hs.tl2 _ _ | exact Hs.tl3 _ _ _ | exact (Hs.app _).trans (Hs.tl _) | exact (Hs.app _).trans ((Hs.app _).trans (Hs.tl _)) | exact Hs.sub (by repeat (first | exact List.Sublist.refl _ | apply List.Sublist.cons))) ⟨?_, Z⟩)
   first | rw [decide_eq_false hne] | rw [decide_eq_true heq]
theorem sl_Values (w0 : World) (G : Hp) (A : Option Addr) (n c : Nat) : GC Tryz.prog w0 58 #[.slice A n c] (fun v G' => ∃ b, v = .func (.func 89) #[] #[.pointer (some ⟨b, 0, none⟩)] ∧ (b, .exact (.cells #[.slice A n c] 32 (0, 0))) :: G = G') G := by
 refine GC.body (args := [.slice A n c]) Tryz.func58 rfl (by kernel_rfl) rfl ?_
 refine GW.seq ?_
 refine GW.region ?_
 refine R.box ⟨Z,Z,Z,Z⟩ Z fun b1 => ?_
 refine R.assign ⟨Z,Z,Z,Z⟩ Z ?_
 refine GOps.nil ?_
 refine GW.seq ?_
 refine GW.region ?_
 refine R.makeFunc (vs := []) (us := [_]) ⟨Z,Z,Z,Z⟩ Z Z ?_
 refine R.assign ⟨Z,Z,Z,Z⟩ Z ?_
 refine GOps.nil ?_
 exact GW.ret (Out.of (Res.one rfl rfl) (Hs.refl _) ⟨b1, rfl, rfl⟩)
theorem values1 {σ : Type} (w0 : World) (l b1 : Nat) (A : Option Addr) (xs : List Int) (c : Nat) (L : σ → Hp) (I : Nat → σ → Prop) (F : Hp) (x0 : σ) (hm : xs.length ≤ 100000)
  (hR : ∀ x, Rd w0 (L x ++ F) b1 0 (.slice A xs.length c)) (hx : IntsAt w0 F A xs) (h0 : I 0 x0)
  (hy : ∀ j x z, I j x → xs[j]? = some z → GY Tryz.prog w0 l [.int .i64 z] (fun v G' => v = .bool true ∧ ∃ x', I (j + 1) x' ∧ L x' ++ F = G') (L x ++ F)) :
  GC Tryz.prog w0 89 #[.func (.yield l) #[] #[], .pointer (some ⟨b1, 0, none⟩)] (fun v G' => ∃ x, I xs.length x ∧ L x ++ F = G') (L x0 ++ F) := by
 refine GC.body (args := [.func (.yield l) #[] #[], .pointer (some ⟨b1, 0, none⟩)]) Tryz.func89 rfl (by kernel_rfl) rfl ?_
 refine GW.seq ?_
 refine GW.region ?_
 refine R.load1 ⟨Z,Z,Z,Z⟩ Z Tryz.underlying32 Z (hR x0) ?_
 refine R.lenS ⟨Z,Z,Z,Z⟩ Z Z Tryz.underlying32 ?_
 refine R.move ⟨Z,Z,Z,Z⟩ Z ?_
 refine GOps.nil ?_
 refine GW.block ?_
 refine GW.loop4 (fun (i : Nat) (x : σ) (u1 : Unit) (u2 : Unit) => [(0, .func (.yield l) #[] #[]), (5, .slice A xs.length c), (6, .int .i64 xs.length), (7, .int .i64 i)]) (fun (i : Nat) (x : σ) (u1 : Unit) (u2 : Unit) => L x ++ F) (fun i : Nat => xs.length - i) (fun (i : Nat) (x : σ) (u1 : Unit) (u2 : Unit) => i ≤ xs.length ∧ I i x) 0 (x0) (()) (())
  (keepG) (Hs.refl _) (⟨by omega, h0⟩) ?_
 rintro i x u1 u2 ⟨hi, hI⟩
 refine GW.seq ?_
 refine GW.region ?_
 refine R.lss ⟨Z,Z,Z,Z⟩ Z Z ?_
 refine GOps.nil ?_
 refine GW.seq ?_
 refine GW.ite Z (fun hc1 => ?_) (fun hc1 => ?_)
 ·try simp only [dcQ] at hc1
  obtain ⟨z, hz⟩ : ∃ z, xs[i]? = some z := ⟨_, List.getElem?_eq_getElem (by omega)⟩
  obtain ⟨zb, zo, rfl, hrz⟩ := int_at hx hz
  refine GW.skip ?_
  refine GW.seq ?_
  refine GW.block ?_
  refine GW.seq ?_
  refine GW.region ?_
  refine R.indexAddrS ⟨Z,Z,Z,Z⟩ Z Z Tryz.underlying32 Tryz.sizeOf3 (by omega) (by omega) ?_
  refine R.load1 ⟨Z,Z,Z,Z⟩ Z Tryz.underlying3 Z (hrz.mono (fun y hy => List.mem_append_right _ hy)) ?_
  refine R.assign ⟨Z,Z,Z,Z⟩ Z ?_
  refine GOps.nil ?_
  refine GW.seq ?_
  refine GW.region ?_
  refine R.move ⟨Z,Z,Z,Z⟩ Z ?_
  refine R.move ⟨Z,Z,Z,Z⟩ Z ?_
  refine R.yield ⟨Z,Z,Z,Z⟩ Z (vs := [_]) Z ((hy i x z hI hz).mono ?_)
  rintro v G2 ⟨rfl, x', hI', rfl⟩
  refine R.not ⟨Z,Z,Z,Z⟩ Z ?_
  refine GOps.nil ?_
  refine GW.ite Z (fun hc2 => ?_) (fun hc2 => ?_)
  ·try simp only [dcQ] at hc2
   exfalso; simp at hc2
  ·try simp only [dcQ] at hc2
   refine GW.skip ?_
   refine GW.region ?_
   refine R.add (r := (((i + 1) : Nat) : Int)) ⟨Z,Z,Z,Z⟩ Z Z (by rw [wrap64_id (by omega) (by omega)]; omega) ?_
   refine R.move ⟨Z,Z,Z,Z⟩ Z ?_
   refine GOps.nil ?_
   exact ⟨i + 1, x', (), (), by omega, ⟨by omega, hI'⟩, rfl, keepG, by first | exact Hs.refl _ | exact Hs.tl _ | exact Hs.tl2 _ _⟩
 ·try simp only [dcQ] at hc1
  refine GW.exit ?_
  obtain rfl : i = xs.length := by omega
  refine Out.end_ (Res.none rfl) (Hs.refl _) ⟨x, hI, rfl⟩
end Go.Proofs.YtfddkcmooommeaaGreatDoor.Gl
end
section
namespace Go.Proofs.YtfddkcmooommeaaGreatDoor.Gl
open Go.RowKit Go.Shelf
set_option linter.unusedVariables false
set_option linter.unnecessarySimpa false
set_option linter.unusedSimpArgs false
attribute [-simp] List.getD_eq_getElem?_getD
theorem zC_succ {xs : List Int} {j : Nat} {z : Int} {v : Value} {H : Hp} (h : xs[j]? = some z) (hS : SlAt 1 3 (zC (xs.take j) ++ [.int .i64 z]) (j + 1) v H) : SlAt 1 3 (zC (xs.take (j + 1))) (j + 1) v H := by
 rw [List.take_add_one, h]
 unfold zC at hS ⊢
 rw [List.map_append]
 exact hS
theorem sl_AppendSeq (w0 : World) (G : Hp) (A : Option Addr) (xs : List Int) (c b1 : Nat) (hb1 : (b1, Know.exact (.cells #[.slice A xs.length c] 32 (0, 0))) ∈ G) (hx : IntsAt w0 G A xs) (hm : xs.length ≤ 100000) : GC Tryz.prog w0 108 #[.slice none 0 0, .func (.func 89) #[] #[.pointer (some ⟨b1, 0, none⟩)]] (fun v G' => ∃ H, (SlAt 1 3 (zC xs) xs.length v H ∧ (xs.length = 0 → v = .slice none 0 0 ∧ H = [])) ∧ H ++ G = G') G := by
 refine GC.body (args := [.slice none 0 0, .func (.func 89) #[] #[.pointer (some ⟨b1, 0, none⟩)]]) Tryz.func108 rfl (by kernel_rfl) rfl ?_
 refine GW.seq ?_
 refine GW.region ?_
 refine R.box ⟨Z,Z,Z,Z⟩ Z fun b2 => ?_
 refine R.assign ⟨Z,Z,Z,Z⟩ Z ?_
 refine GOps.nil ?_
 refine GW.seq ?_
 refine GW.seq ?_
 refine GW.region ?_
 refine R.move ⟨Z,Z,Z,Z⟩ Z ?_
 refine GOps.nil ?_
 refine GW.block ?_
 refine GW.rangeFunc Z fun D0 l0 r0 hp0 ha0 hb0 hfr0 => ?_
 refine GC.mono (values1 w0 l0 b1 A xs c (fun x : Value × Hp => (l0, lrec r0 .ready none) :: (D0, .exact (.deferred (some []))) :: (b2, .exact (.cells #[x.1] 32 (0, 0))) :: x.2) (fun j x => SlAt 1 3 (zC (xs.take j)) j x.1 x.2 ∧ (j = 0 → x.1 = .slice none 0 0 ∧ x.2 = [])) G (.slice none 0 0, []) hm (fun x => .own (List.mem_cons_of_mem _ (List.mem_cons_of_mem _ (List.mem_cons_of_mem _ (List.mem_append_right _ hb1)))) rfl) hx ⟨.nil rfl rfl, fun _ => ⟨rfl, rfl⟩⟩ ?_) ?_
 ·rintro j x z ⟨hI, _⟩ hz; obtain ⟨va, Ho⟩ := x; simp only at hI; have hjn := (List.getElem?_eq_some_iff.1 hz).1; show GY _ _ _ _ _ ((l0, lrec r0 .ready none) :: (D0, .exact (.deferred (some []))) :: (b2, .exact (.cells #[va] 32 (0, 0))) :: (Ho ++ G))
  refine GY.intro hfr0 (by rw [hp0]; rfl) (by rw [hp0]; rfl) ?_
  rw [hp0, ha0, hb0]
  refine GW.region ?_
  refine R.assign ⟨Z,Z,Z,Z⟩ Z ?_
  refine GOps.nil ?_
  refine ⟨_, Hs.refl _, ?_⟩
  refine GW.block ?_
  refine GW.region ?_
  refine R.load1 ⟨Z,Z,Z,Z⟩ Z Tryz.underlying32 Z (.own' memG (by rfl)) ?_
  refine R.move ⟨Z,Z,Z,Z⟩ Z ?_
  refine R.buildSliceF (sz := 1) (bytes := 8) (vs := [_]) (cs := [.int .i64 z]) ⟨Z,Z,Z,Z⟩ Z Tryz.underlying32 (InfoE.mk (by kernel_rfl)) Z Z Z Z Z fun b10 => ?_
  refine R.append (sz := 1) (bytes := 8) (G1 := [_, _, _, _]) (H := Ho) (news := [.int .i64 z]) ⟨Z,Z,Z,Z⟩ Z Z Z Tryz.underlying32 (InfoE.mk (by kernel_rfl)) (hI) (Z) (Z) (.own memH 0 _ (fun j v hv => by simpa using hv)) (by omega) (by rfl) (by omega) (by omega) fun v11 H11 hv11 => ?_
  obtain ⟨A11, c11, rfl, hc11⟩ := hv11.split
  refine R.storeAll (G1 := [_, _, _]) Z Z Z Z Z Tryz.sizeOf32 Z Z Z Z ?_
  refine GOps.nil ?_
  exact ⟨_, Hs.sub (by repeat (first | exact List.Sublist.refl _ | apply List.Sublist.cons_cons | apply List.Sublist.cons)), rfl, (.slice A11 _ c11, H11), ⟨zC_succ hz hv11, fun e => absurd e (Nat.succ_ne_zero j)⟩, rfl⟩
 ·rintro _ _ ⟨x, hI, rfl⟩
  ·obtain ⟨va, Ho⟩ := x
   refine ⟨.ready, none, _, by simp, Hs.refl _, ?_⟩
   show GW _ _ _ _ _ ((D0, .exact (.deferred (some []))) :: (b2, .exact (.cells #[va] 32 (0, 0))) :: (Ho ++ G))
   refine GW.seq ?_
   refine GW.region ?_
   refine R.load1 ⟨Z,Z,Z,Z⟩ Z Tryz.underlying32 Z (.own' memG (by rfl)) ?_
   refine R.assign ⟨Z,Z,Z,Z⟩ Z ?_
   refine GOps.nil ?_
   simp only [List.take_length] at hI
   exact GW.ret (Out.of1 (Res.one rfl rfl) (Hs.tl _) ⟨Ho, hI, rfl⟩)
theorem sl_Collect (w0 : World) (G : Hp) (A : Option Addr) (xs : List Int) (c b1 : Nat) (hb1 : (b1, Know.exact (.cells #[.slice A xs.length c] 32 (0, 0))) ∈ G) (hx : IntsAt w0 G A xs) (hm : xs.length ≤ 100000) : GC Tryz.prog w0 87 #[.func (.func 89) #[] #[.pointer (some ⟨b1, 0, none⟩)]] (fun v G' => ∃ H, (SlAt 1 3 (zC xs) xs.length v H ∧ (xs.length = 0 → v = .slice none 0 0 ∧ H = [])) ∧ H ++ G = G') G := by
 refine GC.body (args := [.func (.func 89) #[] #[.pointer (some ⟨b1, 0, none⟩)]]) Tryz.func87 rfl (by kernel_rfl) rfl ?_
 refine GW.seq ?_
 refine GW.region ?_
 refine R.assign ⟨Z,Z,Z,Z⟩ Z ?_
 refine GOps.nil ?_
 refine GW.seq ?_
 refine GW.region ?_
 refine R.move ⟨Z,Z,Z,Z⟩ Z ?_
 refine R.call ⟨Z,Z,Z,Z⟩ Z (vs := [_, _]) Z ((sl_AppendSeq _ _ A xs c b1 hb1 hx hm).mono ?_)
 rintro v4 _ ⟨H4, h4, rfl⟩
 refine R.assign ⟨Z,Z,Z,Z⟩ Z ?_
 refine GOps.nil ?_
 exact GW.ret (Out.of (Res.one rfl rfl) (Hs.refl _) ⟨H4, h4, rfl⟩)
theorem len64_0 (w0 : World) (G : Hp) : GC Tryz.prog w0 135 #[.int .u64 0] (fun v G' => ∃ z, v = .int .i64 z ∧ G = G') G := by
 refine GC.body (args := [.int .u64 0]) Tryz.func135 rfl (by kernel_rfl) rfl ?_
 refine GW.seq ?_
 refine GW.region ?_
 refine R.assign ⟨Z,Z,Z,Z⟩ Z ?_
 refine GOps.nil ?_
 refine GW.seq ?_
 refine GW.seq ?_
 refine GW.region ?_
 refine R.move ⟨Z,Z,Z,Z⟩ Z ?_
 refine R.geq ⟨Z,Z,Z,Z⟩ Z Z ?_
 refine GOps.nil ?_
 refine GW.cond_f Z ?_
 refine GW.skip ?_
 refine GW.seq ?_
 refine GW.seq ?_
 refine GW.region ?_
 refine R.move ⟨Z,Z,Z,Z⟩ Z ?_
 refine R.geq ⟨Z,Z,Z,Z⟩ Z Z ?_
 refine GOps.nil ?_
 refine GW.cond_f Z ?_
 refine GW.skip ?_
 refine GW.seq ?_
 refine GW.seq ?_
 refine GW.region ?_
 refine R.move ⟨Z,Z,Z,Z⟩ Z ?_
 refine R.geq ⟨Z,Z,Z,Z⟩ Z Z ?_
 refine GOps.nil ?_
 refine GW.cond_f Z ?_
 refine GW.skip ?_
 refine GW.seq ?_
 refine GW.region ?_
 refine R.move ⟨Z,Z,Z,Z⟩ Z ?_
 refine R.move ⟨Z,Z,Z,Z⟩ Z ?_
 refine R.conv (r := 0) ⟨Z,Z,Z,Z⟩ Z Tryz.underlying192 Tryz.underlying5 (Z) ?_
 refine R.indexStrA ⟨Z,Z,Z,Z⟩ Z Z Tryz.underlying9 (by decide) (by decide +kernel) fun c1 hx1 hb1 => ?_   -- "bits.go:350" ['const', 't21']
 refine R.conv (r := _) ⟨Z,Z,Z,Z⟩ Z Tryz.underlying5 Tryz.underlying3 (Z) ?_
 refine R.add (r := _) ⟨Z,Z,Z,Z⟩ Z Z (Z) ?_
 refine R.assign ⟨Z,Z,Z,Z⟩ Z ?_
 refine GOps.nil ?_
 exact GW.ret (Out.of (Res.one rfl rfl) (Hs.refl _) ⟨_, rfl, rfl⟩)
theorem len_0 (w0 : World) (G : Hp) : GC Tryz.prog w0 110 #[.int .u64 0] (fun v G' => ∃ z, v = .int .i64 z ∧ G = G') G := by
 refine GC.body (args := [.int .u64 0]) Tryz.func110 rfl (by kernel_rfl) rfl ?_
 refine GW.seq ?_
 refine GW.region ?_
 refine R.assign ⟨Z,Z,Z,Z⟩ Z ?_
 refine GOps.nil ?_
 refine GW.seq ?_
 refine GW.ite Z (fun hc1 => ?_) (fun hc1 => ?_)
 ·try simp only [dcQ] at hc1
  exfalso; cases hc1
 ·try simp only [dcQ] at hc1
  refine GW.skip ?_
  refine GW.seq ?_
  refine GW.region ?_
  refine R.move ⟨Z,Z,Z,Z⟩ Z ?_
  refine R.call ⟨Z,Z,Z,Z⟩ Z (vs := [_]) Z ((len64_0 _ _).mono ?_)
  rintro _ _ ⟨z, rfl, rfl⟩
  refine R.assign ⟨Z,Z,Z,Z⟩ Z ?_
  refine GOps.nil ?_
  exact GW.ret (Out.of (Res.one rfl rfl) (Hs.refl _) ⟨_, rfl, rfl⟩)
theorem ins_0 (w0 : World) (G : Hp) : GC Tryz.prog w0 125 #[.slice none 0 0, .int .i64 0, .int .i64 0] (fun v G' => v = .tuple #[] ∧ G = G') G := by
 refine GC.body (args := [.slice none 0 0, .int .i64 0, .int .i64 0]) Tryz.func125 rfl (by kernel_rfl) rfl ?_
 refine GW.seq ?_
 refine GW.region ?_
 refine R.move ⟨Z,Z,Z,Z⟩ Z ?_
 refine R.add (r := 1) ⟨Z,Z,Z,Z⟩ Z Z (Z) ?_
 refine R.assign ⟨Z,Z,Z,Z⟩ Z ?_
 refine GOps.nil ?_
 refine GW.block ?_
 refine GW.loopI (fun i : Nat => [(0, .slice none 0 0), (1, .int .i64 0), (2, .int .i64 0), (6, .int .i64 1)]) (fun i => G) (fun i => 1 - i) (fun i => i = 0) 0
  (keepG) (Hs.refl _) (rfl) ?_
 rintro i hi
 refine GW.seq ?_
 refine GW.seq ?_
 refine GW.region ?_
 refine R.move ⟨Z,Z,Z,Z⟩ Z ?_
 refine R.move ⟨Z,Z,Z,Z⟩ Z ?_
 refine R.lss ⟨Z,Z,Z,Z⟩ Z Z ?_
 refine GOps.nil ?_
 refine GW.ite Z (fun hc1 => ?_) (fun hc1 => ?_)
 ·try simp only [dcQ] at hc1
  exfalso; omega
 ·try simp only [dcQ] at hc1
  refine GW.exit ?_
  exact Out.end_ (Res.none rfl) (Hs.refl _) ⟨rfl, rfl⟩
theorem pdq_0 (w0 : World) (G : Hp) (z : Int) : GC Tryz.prog w0 109 #[.slice none 0 0, .int .i64 0, .int .i64 0, .int .i64 z] (fun v G' => v = .tuple #[] ∧ G = G') G := by
 refine GC.body (args := [.slice none 0 0, .int .i64 0, .int .i64 0, .int .i64 z]) Tryz.func109 rfl (by kernel_rfl) rfl ?_
 refine GW.seq ?_
 refine GW.region ?_
 refine R.assign ⟨Z,Z,Z,Z⟩ Z ?_
 refine GOps.nil ?_
 refine GW.seq ?_
 refine GW.region ?_
 refine R.assign ⟨Z,Z,Z,Z⟩ Z ?_
 refine GOps.nil ?_
 refine GW.block ?_
 refine GW.loopI (fun i : Nat => [(0, .slice none 0 0), (1, .int .i64 0), (2, .int .i64 0), (3, .int .i64 z), (8, .bool true), (9, .bool true)]) (fun i => G) (fun i => 1 - i) (fun i => i = 0) 0
  (keepG) (Hs.refl _) (rfl) ?_
 rintro i hi
 refine GW.block ?_
 refine GW.seq ?_
 refine GW.region ?_
 refine R.move ⟨Z,Z,Z,Z⟩ Z ?_
 refine R.move ⟨Z,Z,Z,Z⟩ Z ?_
 refine R.sub (r := 0) ⟨Z,Z,Z,Z⟩ Z Z (Z) ?_
 refine R.assign ⟨Z,Z,Z,Z⟩ Z ?_
 refine GOps.nil ?_
 refine GW.seq ?_
 refine GW.seq ?_
 refine GW.region ?_
 refine R.move ⟨Z,Z,Z,Z⟩ Z ?_
 refine R.leq ⟨Z,Z,Z,Z⟩ Z Z ?_
 refine GOps.nil ?_
 refine GW.cond_t Z ?_
 refine GW.seq ?_
 refine GW.region ?_
 refine R.move ⟨Z,Z,Z,Z⟩ Z ?_
 refine R.move ⟨Z,Z,Z,Z⟩ Z ?_
 refine R.move ⟨Z,Z,Z,Z⟩ Z ?_
 refine R.call ⟨Z,Z,Z,Z⟩ Z (vs := [_, _, _]) Z ((ins_0 _ _).mono ?_)
 rintro _ _ ⟨rfl, rfl⟩
 refine GOps.nil ?_
 exact GW.ret (Out.of (Res.none rfl) (Hs.refl _) ⟨rfl, rfl⟩)
theorem sort_0 (w0 : World) (G : Hp) : GC Tryz.prog w0 88 #[.slice none 0 0] (fun v G' => v = .tuple #[] ∧ G = G') G := by
 refine GC.body (args := [.slice none 0 0]) Tryz.func88 rfl (by kernel_rfl) rfl ?_
 refine GW.seq ?_
 refine GW.region ?_
 refine R.move ⟨Z,Z,Z,Z⟩ Z ?_
 refine R.lenS ⟨Z,Z,Z,Z⟩ Z Z Tryz.underlying32 ?_
 refine R.assign ⟨Z,Z,Z,Z⟩ Z ?_
 refine GOps.nil ?_
 refine GW.region ?_
 refine R.move ⟨Z,Z,Z,Z⟩ Z ?_
 refine R.move ⟨Z,Z,Z,Z⟩ Z ?_
 refine R.move ⟨Z,Z,Z,Z⟩ Z ?_
 refine R.conv (r := 0) ⟨Z,Z,Z,Z⟩ Z Tryz.underlying3 Tryz.underlying149 (Z) ?_
 refine R.call ⟨Z,Z,Z,Z⟩ Z (vs := [_]) Z ((len_0 _ _).mono ?_)
 rintro _ _ ⟨z, rfl, rfl⟩
 refine R.call ⟨Z,Z,Z,Z⟩ Z (vs := [_, _, _, _]) Z ((pdq_0 _ _ z).mono ?_)
 rintro _ _ ⟨rfl, rfl⟩
 refine GOps.nil ?_
 refine Out.end_ (Res.none rfl) (Hs.refl _) ⟨rfl, rfl⟩
theorem sorted_0 (w0 : World) (G : Hp) (b1 : Nat) (hb1 : (b1, Know.exact (.cells #[.slice none 0 0] 32 (0, 0))) ∈ G) : GC Tryz.prog w0 57 #[.func (.func 89) #[] #[.pointer (some ⟨b1, 0, none⟩)]] (fun v G' => v = .slice none 0 0 ∧ G = G') G := by
 refine GC.body (args := [.func (.func 89) #[] #[.pointer (some ⟨b1, 0, none⟩)]]) Tryz.func57 rfl (by kernel_rfl) rfl ?_
 refine GW.seq ?_
 refine GW.region ?_
 refine R.assign ⟨Z,Z,Z,Z⟩ Z ?_
 refine GOps.nil ?_
 refine GW.seq ?_
 refine GW.region ?_
 refine R.move ⟨Z,Z,Z,Z⟩ Z ?_
 refine R.call ⟨Z,Z,Z,Z⟩ Z (vs := [_]) Z ((sl_Collect _ _ none [] 0 b1 hb1 (fun i x h => by simp at h) (by simp)).mono ?_)
 rintro v5 _ ⟨H5, h5, rfl⟩
 obtain ⟨rfl, rfl⟩ := h5.2 rfl
 refine R.assign ⟨Z,Z,Z,Z⟩ Z ?_
 refine GOps.nil ?_
 refine GW.seq ?_
 refine GW.region ?_
 refine R.move ⟨Z,Z,Z,Z⟩ Z ?_
 refine R.call ⟨Z,Z,Z,Z⟩ Z (vs := [_]) Z ((sort_0 _ _).mono ?_)
 rintro _ _ ⟨rfl, rfl⟩
 refine GOps.nil ?_
 refine GW.seq ?_
 refine GW.region ?_
 refine R.move ⟨Z,Z,Z,Z⟩ Z ?_
 refine R.assign ⟨Z,Z,Z,Z⟩ Z ?_
 refine GOps.nil ?_
 exact GW.ret (Out.of (Res.one rfl rfl) (Hs.refl _) ⟨rfl, rfl⟩)
end Go.Proofs.YtfddkcmooommeaaGreatDoor.Gl
end
section
namespace Go.Proofs.YtfddkcmooommeaaGreatDoor.Gl
open Go.RowKit Go.Shelf
set_option linter.unusedVariables false
set_option linter.unnecessarySimpa false
set_option linter.unusedSimpArgs false
attribute [-simp] List.getD_eq_getElem?_getD
theorem GW.cutX {X : Cx} {x y : Code} {Q : Post} {fr : Fr} {ds : List Deferred} {G : Hp} {α : Type} (FR : α → Fr) (GG : α → Hp) (I : α → Prop) (h1 : GW X x (fun e fr1 ds1 G1 => e = .normal ∧ ds1 = ds ∧ ∃ a, I a ∧ Keeps fr1 (FR a) ∧ Hs G1 (GG a)) fr ds G)
  (h2 : ∀ a, I a → GW X y Q (FR a) ds (GG a)) : GW X (.seq x y) Q fr ds G := by
 refine GW.seq (h1.mono ?_)
 rintro e fr1 ds1 G1 ⟨rfl, rfl, a, hI, hk, hs⟩
 exact GW.weak hk hs (h2 a hI)
structure BS where
 m : List St
 w : List St
 n : List St
 ts : List Tm
 bad : Int
def bodyStep (lim : Nat) (vars : List ByteArray) (a : BS) (l : Lt) : BS :=
 if (stepF lim vars (a.ts, a.bad) l).1.kind = 1 then ⟨a.m ++ [(stepF lim vars (a.ts, a.bad) l).1], a.w, a.n, (stepF lim vars (a.ts, a.bad) l).2.1, (stepF lim vars (a.ts, a.bad) l).2.2⟩
 else if (stepF lim vars (a.ts, a.bad) l).1.kind = 2 then ⟨a.m, a.w, a.n ++ [(stepF lim vars (a.ts, a.bad) l).1], (stepF lim vars (a.ts, a.bad) l).2.1, (stepF lim vars (a.ts, a.bad) l).2.2⟩
 else ⟨a.m, a.w ++ [(stepF lim vars (a.ts, a.bad) l).1], a.n, (stepF lim vars (a.ts, a.bad) l).2.1, (stepF lim vars (a.ts, a.bad) l).2.2⟩
def bodyTo (lim : Nat) (vars : List ByteArray) (ts : List Tm) (bad : Int) (body : List Lt) (i : Nat) : BS := (body.take i).foldl (bodyStep lim vars) ⟨[], [], [], ts, bad⟩
theorem bodyTo_succ {lim : Nat} {vars : List ByteArray} {ts : List Tm} {bad : Int} {body : List Lt} {i : Nat} {l : Lt} (h : body[i]? = some l) : bodyTo lim vars ts bad body (i + 1) = bodyStep lim vars (bodyTo lim vars ts bad body i) l := by
 unfold bodyTo
 rw [List.take_add_one, h, List.foldl_append]
 rfl
theorem bodyStep_1 {lim : Nat} {vars : List ByteArray} {a : BS} {l : Lt} (h : (stepF lim vars (a.ts, a.bad) l).1.kind = 1) : bodyStep lim vars a l = ⟨a.m ++ [(stepF lim vars (a.ts, a.bad) l).1], a.w, a.n, (stepF lim vars (a.ts, a.bad) l).2.1, (stepF lim vars (a.ts, a.bad) l).2.2⟩ := by unfold bodyStep; rw [if_pos h]
theorem bodyStep_2 {lim : Nat} {vars : List ByteArray} {a : BS} {l : Lt} (h1 : ¬ (stepF lim vars (a.ts, a.bad) l).1.kind = 1) (h : (stepF lim vars (a.ts, a.bad) l).1.kind = 2) : bodyStep lim vars a l = ⟨a.m, a.w, a.n ++ [(stepF lim vars (a.ts, a.bad) l).1], (stepF lim vars (a.ts, a.bad) l).2.1, (stepF lim vars (a.ts, a.bad) l).2.2⟩ := by unfold bodyStep; rw [if_neg h1, if_pos h]
theorem bodyStep_3 {lim : Nat} {vars : List ByteArray} {a : BS} {l : Lt} (h1 : ¬ (stepF lim vars (a.ts, a.bad) l).1.kind = 1) (h : ¬ (stepF lim vars (a.ts, a.bad) l).1.kind = 2) : bodyStep lim vars a l = ⟨a.m, a.w ++ [(stepF lim vars (a.ts, a.bad) l).1], a.n, (stepF lim vars (a.ts, a.bad) l).2.1, (stepF lim vars (a.ts, a.bad) l).2.2⟩ := by unfold bodyStep; rw [if_neg h1, if_neg h]
theorem idxB_lt' (xs : List ByteArray) (s : ByteArray) : idxB xs s < xs.length := by
 unfold idxB
 cases e : idxN xs s with
 | some i =>
  unfold idxN at e
  obtain ⟨hi, _⟩ := List.findIdx?_eq_some_iff_getElem.1 e
  simp only
  omega
 | none => simp only; omega
theorem placeF_lt (lim : Nat) (vars : List ByteArray) (q : List Tm × Int) (s : Sl) : (placeF lim vars q s).1.var < vars.length := by
 cases h : emp s.v with
 | true =>
  unfold placeF
  rw [h]
  simp only [cond_true]
  omega
 | false =>
  rw [placeF_var h]
  exact idxB_lt' _ _
theorem stepF_places {lim : Nat} {vars : List ByteArray} {q : List Tm × Int} {l : Lt} : ∀ p ∈ placesSt (stepF lim vars q l).1, p.var < vars.length := by
 intro p hp
 by_cases h1 : l.kind = 1
 ·rw [stepF_1 h1, placesSt_r (.inl rfl)] at hp
  simp only [List.mem_cons, List.not_mem_nil, or_false] at hp
  rcases hp with rfl | rfl | rfl <;> exact placeF_lt _ _ _ _
 by_cases h2 : l.kind = 2
 ·rw [stepF_2 h1 h2, placesSt_r (.inr rfl)] at hp
  simp only [List.mem_cons, List.not_mem_nil, or_false] at hp
  rcases hp with rfl | rfl | rfl <;> exact placeF_lt _ _ _ _
 by_cases h3 : l.kind = 3
 ·rw [stepF_3 h1 h2 h3, placesSt_ab (by simp) (by simp)] at hp
  simp only [List.mem_cons, List.not_mem_nil, or_false] at hp
  rcases hp with rfl | rfl <;> exact placeF_lt _ _ _ _
 ·rw [stepF_4 h1 h2 h3, placesSt_ab (by simp) (by simp)] at hp
  simp only [List.mem_cons, List.not_mem_nil, or_false] at hp
  rcases hp with rfl | rfl <;> exact placeF_lt _ _ _ _
structure BOk (nv i : Nat) (a : BS) : Prop where
 len : a.m.length ≤ i ∧ a.w.length ≤ i ∧ a.n.length ≤ i
 m1 : ∀ s ∈ a.m, s.kind = 1
 pl : ∀ s ∈ a.m ++ (a.w ++ a.n), ∀ p ∈ placesSt s, p.var < nv
theorem BOk.zero (nv : Nat) (ts : List Tm) (bad : Int) : BOk nv 0 ⟨[], [], [], ts, bad⟩ := ⟨by simp, by simp, by simp⟩
theorem BOk.step {lim : Nat} {vars : List ByteArray} {a : BS} {l : Lt} {i : Nat} (h : BOk vars.length i a) : BOk vars.length (i + 1) (bodyStep lim vars a l) := by
 have hs : ∀ p ∈ placesSt (stepF lim vars (a.ts, a.bad) l).1, p.var < vars.length := stepF_places
 obtain ⟨⟨l1, l2, l3⟩, hm, hp⟩ := h
 by_cases h1 : (stepF lim vars (a.ts, a.bad) l).1.kind = 1
 ·rw [bodyStep_1 h1]
  refine ⟨⟨by simp; omega, by simp; omega, by simp; omega⟩, fun s hs1 => ?_, fun s hs1 => ?_⟩
  ·rcases List.mem_append.1 hs1 with h | h
   ·exact hm s h
   ·rw [List.mem_singleton.1 h]; exact h1
  ·simp only [List.append_assoc, List.mem_append, List.mem_singleton, List.singleton_append, List.mem_cons] at hs1
   rcases hs1 with h | rfl | h | h
   ·exact hp s (List.mem_append_left _ h)
   ·exact hs
   ·exact hp s (List.mem_append_right _ (List.mem_append_left _ h))
   ·exact hp s (List.mem_append_right _ (List.mem_append_right _ h))
 by_cases h2 : (stepF lim vars (a.ts, a.bad) l).1.kind = 2
 ·rw [bodyStep_2 h1 h2]
  refine ⟨⟨by simp; omega, by simp; omega, by simp; omega⟩, hm, fun s hs1 => ?_⟩
  simp only [List.mem_append, List.mem_singleton] at hs1
  rcases hs1 with h | h | h | rfl
  ·exact hp s (List.mem_append_left _ h)
  ·exact hp s (List.mem_append_right _ (List.mem_append_left _ h))
  ·exact hp s (List.mem_append_right _ (List.mem_append_right _ h))
  ·exact hs
 ·rw [bodyStep_3 h1 h2]
  refine ⟨⟨by simp; omega, by simp; omega, by simp; omega⟩, hm, fun s hs1 => ?_⟩
  simp only [List.mem_append, List.mem_singleton] at hs1
  rcases hs1 with h | (h | rfl) | h
  ·exact hp s (List.mem_append_left _ h)
  ·exact hp s (List.mem_append_right _ (List.mem_append_left _ h))
  ·exact hs
  ·exact hp s (List.mem_append_right _ (List.mem_append_right _ h))
theorem BOk.all {lim : Nat} {vars : List ByteArray} {ts : List Tm} {bad : Int} {body : List Lt} : ∀ (i : Nat), i ≤ body.length → BOk vars.length i (bodyTo lim vars ts bad body i)
 | 0, _ => BOk.zero _ _ _
 | i + 1, h => by
  rw [bodyTo_succ (List.getElem?_eq_getElem (show i < body.length by omega))]
  exact (BOk.all i (by omega)).step
structure RS where
 kn : List Bool
 w : List St
 o : List St
def zSt : St := ⟨0, zRw, zPl, zPl⟩
def flushR (q : RS) : RS := ⟨q.kn, q.w.filter (fun s => !readyF q.kn s), q.o ++ q.w.filter (readyF q.kn)⟩
def markP (kn : List Bool) (p : Pl) : List Bool := if p.var ≥ 0 then kn.set p.var.toNat true else kn
def row3 (r : Rw) : List Pl := [r.p0, r.p1, r.p2]
def markTo (kn : List Bool) (r : Rw) (k : Nat) : List Bool := ((row3 r).take k).foldl markP kn
def takeR (ms : List St) (q : RS) (z : Int) : RS := flushR ⟨markTo q.kn (ms.getD z.toNat zSt).row 3, q.w, q.o ++ [ms.getD z.toNat zSt]⟩
def runTo (ms : List St) (q : RS) (ord : List Int) (i : Nat) : RS := (ord.take i).foldl (takeR ms) (flushR q)
theorem runTo_succ {ms : List St} {q : RS} {ord : List Int} {i : Nat} {z : Int} (h : ord[i]? = some z) : runTo ms q ord (i + 1) = takeR ms (runTo ms q ord i) z := by
 unfold runTo
 rw [List.take_add_one, h, List.foldl_append]
 rfl
theorem markTo_succ {kn : List Bool} {r : Rw} {k : Nat} {p : Pl} (h : (row3 r)[k]? = some p) : markTo kn r (k + 1) = markP (markTo kn r k) p := by
 unfold markTo
 rw [List.take_add_one, h, List.foldl_append]
 rfl
theorem markP_len (kn : List Bool) (p : Pl) : (markP kn p).length = kn.length := by
 unfold markP
 split <;> simp
theorem markTo_len (kn : List Bool) (r : Rw) (k : Nat) : (markTo kn r k).length = kn.length := by
 unfold markTo
 generalize (row3 r).take k = l
 induction l generalizing kn with
 | nil => rfl
 | cons p l ih => rw [List.foldl_cons, ih, markP_len]
structure ROk (nv b : Nat) (q : RS) : Prop where
 kn : q.kn.length = nv
 w : ∀ s ∈ q.w, ∀ p ∈ placesSt s, p.var < nv
 wl : q.w.length ≤ b
theorem ROk.flush {nv b : Nat} {q : RS} (h : ROk nv b q) : ROk nv b (flushR q) :=
 ⟨h.kn, fun s hs => h.w s (List.mem_filter.1 hs).1, Nat.le_trans (List.length_filter_le _ _) h.wl⟩
theorem ROk.take {nv b : Nat} {q : RS} {ms : List St} {z : Int} (h : ROk nv b q) : ROk nv b (takeR ms q z) :=
 ROk.flush ⟨by rw [markTo_len]; exact h.kn, h.w, h.wl⟩
theorem flush_size (q : RS) : (flushR q).w.length + (flushR q).o.length = q.w.length + q.o.length := by
 unfold flushR
 simp only [List.length_append]
 have : ∀ l : List St, (l.filter (fun s => !readyF q.kn s)).length + (l.filter (readyF q.kn)).length = l.length := by
  intro l
  induction l with
  | nil => rfl
  | cons s l ih =>
   simp only [List.filter_cons]
   cases readyF q.kn s <;> simp <;> omega
 have := this q.w
 omega
theorem take_size (ms : List St) (q : RS) (z : Int) : (takeR ms q z).w.length + (takeR ms q z).o.length = q.w.length + q.o.length + 1 := by
 unfold takeR
 rw [flush_size]
 simp
 omega
theorem run_ok {nv b : Nat} {q : RS} {ms : List St} {ord : List Int} (h : ROk nv b q) : ∀ i, ROk nv b (runTo ms q ord i) ∧ (i ≤ ord.length → (runTo ms q ord i).w.length + (runTo ms q ord i).o.length = q.w.length + q.o.length + i)
 | 0 => ⟨h.flush, fun _ => by show (flushR q).w.length + (flushR q).o.length = _; rw [flush_size]; rfl⟩
 | i + 1 => by
  obtain ⟨h1, h2⟩ := run_ok (ms := ms) (ord := ord) h i
  rcases Nat.lt_or_ge i ord.length with hi | hi
  ·rw [runTo_succ (List.getElem?_eq_getElem hi)]
   refine ⟨h1.take, fun _ => ?_⟩
   rw [take_size, h2 (by omega)]
   omega
  ·have e : runTo ms q ord (i + 1) = runTo ms q ord i := by
    unfold runTo
    rw [List.take_of_length_le (by omega), List.take_of_length_le hi]
   rw [e]
   exact ⟨h1, fun h => by omega⟩
def ordF (n : Nat) (order srt : List Int) : List Int := if srt.length = n ∧ srt = (List.range n).map (fun k : Nat => (k : Int)) then order else (List.range n).map (fun k : Nat => (k : Int))
def planSteps (lim : Nat) (vars : List ByteArray) (ts : List Tm) (bad : Int) (body : List Lt) (order srt : List Int) : List St × (List Tm × Int) :=
 let a := bodyTo lim vars ts bad body body.length
 let ord := ordF a.m.length order srt
 ((runTo a.m ⟨List.replicate vars.length false, a.w ++ a.n, []⟩ ord ord.length).o, (a.ts, a.bad))
end Go.Proofs.YtfddkcmooommeaaGreatDoor.Gl
end
section
namespace Go.Proofs.YtfddkcmooommeaaGreatDoor.Gl
open Go.RowKit Go.Shelf
set_option linter.unusedVariables false
set_option linter.unnecessarySimpa false
set_option linter.unusedSimpArgs false
attribute [-simp] List.getD_eq_getElem?_getD
theorem GC.post {P : Program} {w0 : World} {f : FuncId} {args : Array Value} {R R' : Value → Hp → Prop} {G : Hp} (h : GC P w0 f args R G) (hr : ∀ v G1, R v G1 → ∃ G2, Hs G1 G2 ∧ R' v G2) : GC P w0 f args R' G :=
 ⟨h.1, fun n W hw => (h.2 n W hw).mono fun _ _ ⟨v, G', e, hs, hR⟩ => by
  obtain ⟨G2, h1, h2⟩ := hr _ _ hR
  exact ⟨v, G2, e, h1 _ _ hs, h2⟩⟩
theorem GC.pre {P : Program} {w0 : World} {f : FuncId} {args : Array Value} {R : Value → Hp → Prop} {G G' : Hp} (hs : Hs G G') (h : GC P w0 f args R G') : GC P w0 f args R G := ⟨h.1, fun n W hw => h.2 n W (hs _ _ hw)⟩
abbrev knC (kn : List Bool) : Know := .exact (.cells (boolC kn).toArray 4 (0, 0))
abbrev slC1 (v : Value) : Know := .exact (.cells #[v] 39 (0, 0))
abbrev can (bk bW bO : Nat) (kn : List Bool) (vw vo : Value) (Hw Ho R : Hp) : Hp := (bk, knC kn) :: (bW, slC1 vw) :: (bO, slC1 vo) :: (Hw ++ (Ho ++ R))
theorem can_in (k w o : Nat × Know) (W O R : Hp) : (k :: w :: o :: (W ++ (O ++ R))).Perm (w :: o :: (W ++ (O ++ (k :: R)))) := by
 have h : (W ++ (O ++ (k :: R))).Perm (k :: (W ++ (O ++ R))) := by
  rw [← List.append_assoc, ← List.append_assoc]
  exact List.perm_middle
 exact (List.Perm.swap w k _).trans (((List.Perm.swap o k _).trans (h.symm.cons o)).cons w)
theorem flush_can (w0 : World) (R : Hp) (vw vo : Value) (Hw Ho : Hp) (wait out : List St) (bW bR bO bK bk n : Nat) (kn : List Bool) (hn : kn.length = n)
  (hK : (bK, Know.exact (.cells #[.slice (some ⟨bk, 0, none⟩) n n] 47 (0, 0))) ∈ R) (hR : (bR, Know.exact (.cells #[.func (.func 61) #[] #[.pointer (some ⟨bK, 0, none⟩)]] 133 (0, 0))) ∈ R)
  (hw : SlAt 11 50 (stsC wait) wait.length vw Hw) (ho : SlAt 11 50 (stsC out) out.length vo Ho) (hwl : wait.length ≤ 10000) (hol : out.length ≤ 10000)
  (hb : ∀ s ∈ wait, ∀ p ∈ placesSt s, p.var < n) :
  GC Tryz.prog w0 63 (#[] ++ #[] ++ #[.pointer (some ⟨bW, 0, none⟩), .pointer (some ⟨bR, 0, none⟩), .pointer (some ⟨bO, 0, none⟩)]) (fun v G' => ∃ vw' Hw' vo' Ho', (v = .tuple #[] ∧ SlAt 11 50 (stsC (wait.filter fun s => !readyF kn s)) (wait.filter fun s => !readyF kn s).length vw' Hw' ∧ SlAt 11 50 (stsC (out ++ wait.filter (readyF kn))) (out ++ wait.filter (readyF kn)).length vo' Ho') ∧ can bk bW bO kn vw' vo' Hw' Ho' R = G') (can bk bW bO kn vw vo Hw Ho R) := by
 subst hn
 refine GC.pre (Hs.perm (can_in _ _ _ _ _ _).symm) ?_
 refine (steps_flush w0 ((bk, knC kn) :: R) vw vo Hw Ho wait out bW bR bO kn bK bk (List.mem_cons_of_mem _ hK) List.mem_cons_self (List.mem_cons_of_mem _ hR) hw ho hwl hol hb).post ?_
 rintro v G1 ⟨vw', Hw', vo', Ho', h1, rfl⟩
 exact ⟨_, Hs.perm (can_in _ _ _ _ _ _), vw', Hw', vo', Ho', h1, rfl⟩
theorem can_new (a b k o w m : Nat × Know) (D M W X G : Hp) : (a :: b :: k :: o :: w :: m :: (D ++ (M ++ (W ++ (X ++ G))))).Perm (k :: w :: o :: (W ++ ([] ++ (a :: b :: m :: (D ++ (M ++ (X ++ G))))))) := by
 have h : (W ++ (a :: b :: m :: (D ++ (M ++ (X ++ G))))).Perm (a :: b :: m :: (D ++ (M ++ (W ++ (X ++ G))))) := by
  refine (pm3 a b m W _).trans (((List.Perm.cons m ?_).cons b).cons a)
  rw [← List.append_assoc D M, ← List.append_assoc D M (W ++ (X ++ G)), ← List.append_assoc W (D ++ M), ← List.append_assoc (D ++ M) W]
  exact List.Perm.append_right _ List.perm_append_comm
 rw [List.nil_append]
 have h1 : (a :: b :: k :: o :: w :: m :: (D ++ (M ++ (W ++ (X ++ G))))).Perm (k :: w :: o :: a :: b :: m :: (D ++ (M ++ (W ++ (X ++ G))))) := by
  have e1 : (a :: b :: k :: o :: w :: m :: (D ++ (M ++ (W ++ (X ++ G))))) = [a, b] ++ (k :: o :: w :: (m :: (D ++ (M ++ (W ++ (X ++ G)))))) := rfl
  rw [e1]
  refine (pm3 k o w [a, b] _).trans ?_
  exact (List.Perm.swap w o _).cons k
 exact h1.trans (((h.symm.cons o).cons w).cons k)
theorem can_end (k w o a b m : Nat × Know) (W O D M X G : Hp) : Hs (k :: w :: o :: (W ++ (O ++ (a :: b :: m :: (D ++ (M ++ (X ++ G))))))) (m :: (D ++ (O ++ G))) := by
 refine (Hs.sub (G' := O ++ (m :: (D ++ G))) ?_).trans (Hs.perm ?_)
 ·have h1 : (m :: (D ++ G)).Sublist (a :: b :: m :: (D ++ (M ++ (X ++ G)))) := ((((List.sublist_append_right X G).trans (List.sublist_append_right M _)).append_left D).cons_cons m |>.cons b).cons a
  exact ((((h1.append_left O).trans (List.sublist_append_right W _)).cons o).cons w).cons k
 ·refine List.Perm.trans ?_ (pm1 m O (D ++ G)).symm
  refine List.Perm.cons m ?_
  rw [← List.append_assoc, ← List.append_assoc]
  exact List.Perm.append_right _ List.perm_append_comm
theorem Hs.toRest (k w o : Nat × Know) (W O R : Hp) : Hs (k :: w :: o :: (W ++ (O ++ R))) R := Hs.sub ((((List.sublist_append_right O R).trans (List.sublist_append_right W _)).cons o |>.cons w).cons k)
theorem ord_deep (x p q r : Nat × Know) (A B C G : Hp) : Hs (x :: p :: q :: r :: (A ++ (B ++ (C ++ G)))) (p :: q :: r :: (A ++ (B ++ (C ++ ([x] ++ G))))) := Hs.perm (by
 have h : (A ++ (B ++ (C ++ (x :: G)))).Perm (x :: (A ++ (B ++ (C ++ G)))) := by
  have h0 := @List.perm_middle _ x (A ++ (B ++ C)) G
  simp only [List.append_assoc] at h0
  exact h0
 exact ((h.cons r).cons q |>.cons p).trans (pm3' x p q r _))
 where pm3' (x p q r : Nat × Know) (l : Hp) : (p :: q :: r :: x :: l).Perm (x :: p :: q :: r :: l) := pm1 x [p, q, r] l
theorem sub1 (x : Nat × Know) (H R : Hp) : R.Sublist (H ++ x :: R) := (List.sublist_cons_self x R).trans (List.sublist_append_right H _)
theorem Hs.asc (x1 x2 x3 x4 x5 x6 : Nat × Know) (A B E : Hp) : Hs (x1 :: x2 :: x3 :: x4 :: x5 :: x6 :: (A ++ (B ++ E))) (x1 :: x2 :: x3 :: x4 :: x5 :: x6 :: ((A ++ B) ++ E)) := Hs.eq (by rw [List.append_assoc])
theorem Hs.asc' (x1 x2 x3 x4 x5 x6 : Nat × Know) (A B E : Hp) : Hs (x1 :: x2 :: x3 :: x4 :: x5 :: x6 :: ((A ++ B) ++ E)) (x1 :: x2 :: x3 :: x4 :: x5 :: x6 :: (A ++ (B ++ E))) := Hs.eq (by rw [List.append_assoc])
theorem Hs.asc2 (x1 x2 x3 x4 x5 x6 : Nat × Know) (A B C E : Hp) : Hs (x1 :: x2 :: x3 :: x4 :: x5 :: x6 :: (A ++ (B ++ (C ++ E)))) (x1 :: x2 :: x3 :: x4 :: x5 :: x6 :: ((A ++ (B ++ C)) ++ E)) := Hs.eq (by simp only [List.append_assoc])
theorem Hs.asc2' (x1 x2 x3 x4 x5 x6 : Nat × Know) (A B C E : Hp) : Hs (x1 :: x2 :: x3 :: x4 :: x5 :: x6 :: ((A ++ (B ++ C)) ++ E)) (x1 :: x2 :: x3 :: x4 :: x5 :: x6 :: (A ++ (B ++ (C ++ E)))) := Hs.eq (by simp only [List.append_assoc])
theorem Hs.asc3 (x1 x2 x3 : Nat × Know) (A B E : Hp) : Hs (x1 :: x2 :: x3 :: (A ++ (B ++ E))) (x1 :: x2 :: x3 :: ((A ++ B) ++ E)) := Hs.eq (by rw [List.append_assoc])
theorem Hs.asc3' (x1 x2 x3 : Nat × Know) (A B E : Hp) : Hs (x1 :: x2 :: x3 :: ((A ++ B) ++ E)) (x1 :: x2 :: x3 :: (A ++ (B ++ E))) := Hs.eq (by rw [List.append_assoc])
theorem Hs.drop3 (x1 x2 x3 y : Nat × Know) (A B C G : Hp) : Hs (x1 :: x2 :: x3 :: (A ++ (B ++ (C ++ ([y] ++ G))))) (x1 :: x2 :: x3 :: (A ++ (B ++ (C ++ G)))) := Hs.sub ((((((List.sublist_cons_self y G).append_left C).append_left B).append_left A).cons_cons x3).cons_cons x2 |>.cons_cons x1)
theorem stsC_one (l : List St) : (stsC l).all (·.oneCell') = true := by
 rw [List.all_eq_true]
 intro v hv
 unfold stsC at hv
 obtain ⟨s, _, hs⟩ := List.mem_flatMap.1 hv
 simp only [StC, List.mem_cons, List.not_mem_nil, or_false] at hs
 rcases hs with rfl | rfl | rfl | rfl | rfl | rfl | rfl | rfl | rfl | rfl | rfl <;> rfl
theorem Hs.kn {bk : Nat} {C : Array Value} {kn : List Bool} {R : Hp} (h : C = (boolC kn).toArray) : Hs ((bk, .exact (.cells C 4 (0, 0))) :: R) ((bk, knC kn) :: R) := h ▸ Hs.refl _
theorem kn_zero (n : Nat) : (List.replicate n (Value.bool false)).toArray = (boolC (List.replicate n false)).toArray := by simp [boolC]
theorem getD_some {ms : List St} {i : Nat} (h : i < ms.length) : ms[i]? = some (ms.getD i zSt) := by rw [List.getD, List.getElem?_eq_getElem h]; rfl
theorem rw_index {r : Rw} {k : Nat} (h : k < 3) : ∃ p, (row3 r)[k]? = some p ∧ p ∈ row3 r ∧ ((RwC r).toArray.extract (k * 2) (k * 2 + 2)) = (PlC p).toArray := by
 rcases k with _ | _ | _ | k
 ·exact ⟨r.p0, rfl, by simp [row3], rfl⟩
 ·exact ⟨r.p1, rfl, by simp [row3], rfl⟩
 ·exact ⟨r.p2, rfl, by simp [row3], rfl⟩
 ·omega
theorem row_in {w0 : World} {G : Hp} {b o : Nat} {s : St} (h : Rds w0 G b o (StC s)) : Rds w0 G b (o + 1) (RwC s.row) := fun j v hv => by
 have := h (j + 1) v (by
  show (Value.int .i64 s.kind :: (RwC s.row ++ (PlC s.a ++ PlC s.b)))[j + 1]? = some v
  rw [List.getElem?_cons_succ, List.getElem?_append_left (List.getElem?_eq_some_iff.1 hv).1]
  exact hv)
 rwa [show o + (j + 1) = o + 1 + j by omega] at this
theorem mark_put {kn : List Bool} {i : Nat} (h : i < kn.length) : splice (boolC kn).toArray (0 + i * 1) (Value.bool true).cells.toList = (boolC (kn.set i true)).toArray := by
 rw [show 0 + i * 1 = i by omega, show (Value.bool true).cells.toList = [Value.bool true] from rfl, splice_one (by simpa [boolC] using h)]
 simp [boolC, List.map_set]
theorem eq_up (w0 : World) (G : Hp) (A : Option Addr) (xs : List Int) (c b n : Nat) (hx : IntsAt w0 G A xs) (hb : (b, Know.exact (.cells (intC (List.range n)).toArray 3 (0, 0))) ∈ G) (hm : xs.length ≤ 100000) (hm2 : n ≤ 100000) :
  GC Tryz.prog w0 59 #[.slice A xs.length c, .slice (some ⟨b, 0, none⟩) n n] (fun v G' => v = .bool (decide (xs = (List.range n).map (fun k : Nat => (k : Int)))) ∧ G = G') G := by
 have h := sl_EqInt w0 G A (some ⟨b, 0, none⟩) xs ((List.range n).map (fun k : Nat => (k : Int))) c n hx (exact_ints hb) hm (by simpa using hm2)
 simpa using h
theorem ordF_range {n : Nat} {order srt : List Int} (h : ∀ z ∈ order, z ∈ srt) : ∀ z ∈ ordF n order srt, 0 ≤ z ∧ z < n := by
 intro z hz
 unfold ordF at hz
 split at hz
 ·rename_i he
  have := h z hz
  rw [he.2] at this
  obtain ⟨k, hk, rfl⟩ := List.mem_map.1 this
  have := List.mem_range.1 hk
  omega
 ·obtain ⟨k, hk, rfl⟩ := List.mem_map.1 hz
  have := List.mem_range.1 hk
  omega
theorem ordF_yes {n : Nat} {order srt : List Int} (h1 : srt.length = n) (h2 : srt = (List.range n).map (fun k : Nat => (k : Int))) : ordF n order srt = order := by unfold ordF; rw [if_pos ⟨h1, h2⟩]
theorem ordF_eq {n : Nat} {srt : List Int} (e : srt.length = n) (h : srt = (List.range srt.length).map (fun k : Nat => (k : Int))) : srt = (List.range n).map (fun k : Nat => (k : Int)) := by rw [← e]; exact h
theorem ordF_no {n : Nat} {order srt : List Int} (h : ¬ (srt.length = n ∧ srt = (List.range n).map (fun k : Nat => (k : Int)))) : ordF n order srt = (List.range n).map (fun k : Nat => (k : Int)) := by unfold ordF; rw [if_neg h]
end Go.Proofs.YtfddkcmooommeaaGreatDoor.Gl
end
section
namespace Go.Proofs.YtfddkcmooommeaaGreatDoor.Gl
open Go.RowKit Go.Shelf
set_option linter.unusedVariables false
set_option linter.unnecessarySimpa false
set_option linter.unusedSimpArgs false
attribute [-simp] List.getD_eq_getElem?_getD
theorem plan_steps (w0 : World) (G : Hp) (HD : Hp) (ts : List Tm) (lim bD bM c : Nat) (A : Option Addr) (vars : List ByteArray) (bad : Int) (hD : Dic ts lim bD HD) (hv : StAt w0 G A vars) (hm : vars.length ≤ 100000)
  (bA : Option Addr) (body : List Lt) (bc : Nat) (hl : LtsAt w0 G bA body) (hbl : body.length ≤ 1000) (hterm : ∀ l ∈ body, ∀ s ∈ stepSl l, emp s.v = true → mayT s.t = true)
  (oA : Option Addr) (order srt : List Int) (oc : Nat) (ho : IntsAt w0 G oA order) (hol : order.length ≤ 1000) (hsl : srt.length ≤ 1000) (hmem : ∀ z ∈ order, z ∈ srt)
  (hS : ∀ (b1 : Nat) (G0 : Hp), (b1, Know.exact (.cells #[.slice oA order.length oc] 32 (0, 0))) ∈ G0 → IntsAt w0 G0 oA order → GC Tryz.prog w0 57 #[.func (.func 89) #[] #[.pointer (some ⟨b1, 0, none⟩)]] (fun v G' => ∃ H, SlAt 1 3 (zC srt) srt.length v H ∧ H ++ G0 = G') G0) :
  GC Tryz.prog w0 33 #[.pointer (some ⟨bM, 0, none⟩), .slice bA body.length bc, .slice oA order.length oc] (fun v G' => ∃ HD' Ho, (SlAt 11 50 (stsC (planSteps lim vars ts bad body order srt).1) (planSteps lim vars ts bad body order srt).1.length v Ho ∧ Dic (planSteps lim vars ts bad body order srt).2.1 lim bD HD') ∧ (bM, mkC bD A vars.length c (planSteps lim vars ts bad body order srt).2.2) :: (HD' ++ (Ho ++ G)) = G') ((bM, mkC bD A vars.length c bad) :: (HD ++ G)) := by
 refine GC.body (args := [.pointer (some ⟨bM, 0, none⟩), .slice bA body.length bc, .slice oA order.length oc]) Tryz.func33 rfl (by kernel_rfl) rfl ?_
 refine GW.seq ?_
 refine GW.region ?_
 refine R.assign ⟨Z,Z,Z,Z⟩ Z ?_
 refine GOps.nil ?_
 refine GW.seq ?_
 refine GW.region ?_
 refine R.assign ⟨Z,Z,Z,Z⟩ Z ?_
 refine R.alloc ⟨Z,Z,Z,Z⟩ Tryz.zeroValue39 fun b8 => ?_
 refine R.alloc ⟨Z,Z,Z,Z⟩ Tryz.zeroValue39 fun b9 => ?_
 refine GOps.nil ?_
 refine GW.seq ?_
 refine GW.region ?_
 refine R.assign ⟨Z,Z,Z,Z⟩ Z ?_
 refine GOps.nil ?_
 refine GW.seq ?_
 refine GW.seq ?_
 refine GW.region ?_
 refine R.move ⟨Z,Z,Z,Z⟩ Z ?_
 refine R.lenS ⟨Z,Z,Z,Z⟩ Z Z Tryz.underlying29 ?_
 refine R.move ⟨Z,Z,Z,Z⟩ Z ?_
 refine GOps.nil ?_
 refine GW.block ?_
 refine GW.loop4 (fun (i : Nat) (a : BS) (h : (Value × Value × Value) × (Hp × Hp × Hp × Hp)) (u1 : Unit) => [(0, .pointer (some ⟨bM, 0, none⟩)), (2, .slice oA order.length oc), (7, h.1.1), (8, .pointer (some ⟨b8, 0, none⟩)), (9, .pointer (some ⟨b9, 0, none⟩)), (10, h.1.2.2), (22, .slice bA body.length bc), (23, .int .i64 body.length), (24, .int .i64 i)]) (fun (i : Nat) (a : BS) (h : (Value × Value × Value) × (Hp × Hp × Hp × Hp)) (u1 : Unit) => (b9, slC1 (.slice none 0 0)) :: (b8, slC1 h.1.2.1) :: (bM, mkC bD A vars.length c a.bad) :: (h.2.2.2.2 ++ (h.2.1 ++ (h.2.2.1 ++ (h.2.2.2.1 ++ G))))) (fun i : Nat => body.length - i) (fun (i : Nat) (a : BS) (h : (Value × Value × Value) × (Hp × Hp × Hp × Hp)) (u1 : Unit) => i ≤ body.length ∧ a = bodyTo lim vars ts bad body i ∧ SlAt 11 50 (stsC (a.m)) (a.m).length h.1.1 h.2.1 ∧ SlAt 11 50 (stsC (a.w)) (a.w).length h.1.2.1 h.2.2.1 ∧ SlAt 11 50 (stsC (a.n)) (a.n).length h.1.2.2 h.2.2.2.1 ∧ Dic a.ts lim bD h.2.2.2.2 ∧ (a.n.length = 0 → h.1.2.2 = .slice none 0 0 ∧ h.2.2.2.1 = [])) 0 (⟨[], [], [], ts, bad⟩) (((.slice none 0 0, .slice none 0 0, .slice none 0 0), ([], [], [], HD))) (())
  (keepG) (Hs.refl _) (⟨Nat.zero_le _, rfl, .nil rfl rfl, .nil rfl rfl, .nil rfl rfl, hD, fun _ => ⟨rfl, rfl⟩⟩) ?_
 rintro i a h u1 ⟨hi, ha, hM, hW, hN, hD2, hnil⟩
 obtain ⟨⟨vm, vw, vn⟩, Hm, Hw, Hn, HD2⟩ := h
 have hbo : BOk vars.length i a := by rw [ha]; exact BOk.all i hi
 obtain ⟨hbl1, hbl2, hbl3⟩ := hbo.len
 refine GW.seq ?_
 refine GW.region ?_
 refine R.lss ⟨Z,Z,Z,Z⟩ Z Z ?_
 refine GOps.nil ?_
 refine GW.seq ?_
 refine GW.ite Z (fun hc1 => ?_) (fun hc1 => ?_)
 ·try simp only [dcQ] at hc1
  obtain ⟨l, hx⟩ : ∃ l, body[i]? = some l := ⟨_, List.getElem?_eq_getElem (by omega)⟩
  obtain ⟨lb, lo, cs0, rfl, rfl, hrd⟩ := hl i l hx
  refine GW.skip ?_
  refine GW.seq ?_
  refine GW.block ?_
  refine GW.seq ?_
  refine GW.region ?_
  refine R.indexAddrS ⟨Z,Z,Z,Z⟩ Z Z Tryz.underlying29 Tryz.sizeOf89 (by omega) (by omega) ?_
  refine R.loadA ⟨Z,Z,Z,Z⟩ Z Tryz.underlying89 Z Tryz.sizeOf89 (hrd.mono (fun y hy => by repeat (first | exact hy | apply List.mem_cons_of_mem | apply List.mem_append_right))) (by rfl) ?_
  refine R.alloc ⟨Z,Z,Z,Z⟩ Tryz.zeroValue89 fun b12 => ?_
  refine R.storeAll (G1 := []) Z Z Z Z Z Tryz.sizeOf89 Z Z Z Z ?_
  refine GOps.nil ?_
  refine GW.seq ?_
  refine GW.region ?_
  refine R.move ⟨Z,Z,Z,Z⟩ Z ?_
  refine R.load_own (cs := LtC l) ⟨Z,Z,Z,Z⟩ Z Tryz.underlying89 Z Tryz.sizeOf89 memG (by rfl) (by rfl) ?_
  refine GOps.weak (Keeps.refl _) (Hs.toM3 _ _ _ _ _ _) ?_
  refine R.call ⟨Z,Z,Z,Z⟩ Z (vs := [_, _]) Z ((plan_step _ _ HD2 a.ts lim bD bM c A vars a.bad hD2 (hv.mono (fun y hy => by repeat (first | exact hy | apply List.mem_cons_of_mem | apply List.mem_append_right))) (by omega) l (hterm l (List.mem_of_getElem? hx))).mono ?_)
  rintro _ _ ⟨HD3, ⟨rfl, hD3⟩, rfl⟩
  refine GOps.weak (Keeps.refl _) (Hs.fromM3 _ _ _ _ _ _) ?_
  refine R.alloc ⟨Z,Z,Z,Z⟩ Tryz.zeroValue50 fun b13 => ?_
  refine R.storeAll (G1 := []) Z Z Z Z Z Tryz.sizeOf50 Z Z Z Z ?_
  refine GOps.nil ?_
  refine GW.seq ?_
  refine GW.region ?_
  refine R.fieldAddr ⟨Z,Z,Z,Z⟩ Z Tryz.underlying50 Z Tryz.sizeOf48 ?_
  refine R.load1 ⟨Z,Z,Z,Z⟩ Z Tryz.underlying48 Z (.own' memG (by rfl)) ?_
  refine GOps.nil ?_
  refine GW.block ?_
  refine GW.seq ?_
  refine GW.region ?_
  refine R.eqI ⟨Z,Z,Z,Z⟩ Z Z ?_
  refine R.assign ⟨Z,Z,Z,Z⟩ Z ?_
  refine GOps.nil ?_
  refine GW.ite Z (fun hc2 => ?_) (fun hc2 => ?_)
  ·try simp only [dcQ] at hc2
   refine GW.region ?_
   refine R.move ⟨Z,Z,Z,Z⟩ Z ?_
   refine R.load_own (cs := StC (stepF lim vars (a.ts, a.bad) l).1) ⟨Z,Z,Z,Z⟩ Z Tryz.underlying50 Z Tryz.sizeOf50 memG (by rfl) (by rfl) ?_
   refine R.buildSliceF (sz := 11) (bytes := 88) (vs := [_]) (cs := StC (stepF lim vars (a.ts, a.bad) l).1) ⟨Z,Z,Z,Z⟩ Z Tryz.underlying39 (InfoE.mk (by kernel_rfl)) Z Z Z Z Z fun b41 => ?_
   refine R.append (sz := 11) (bytes := 88) (G1 := [_, _, _, _, _, _] ++ HD3) (H := Hm) (news := StC (stepF lim vars (a.ts, a.bad) l).1) ⟨Z,Z,Z,Z⟩ Z Z Z Tryz.underlying39 (InfoE.mk (by kernel_rfl)) (hM) (Z) (Z) (.own memH 0 _ (fun j v hv => by simpa using hv)) (by omega) (by rfl) (by omega) (by omega) fun v42 H42 hv42 => ?_
   obtain ⟨A42, c42, rfl, hc42⟩ := hv42.split
   refine R.assign ⟨Z,Z,Z,Z⟩ Z ?_
   refine GOps.nil ?_
   refine GW.region ?_
   refine R.add (r := (((i + 1) : Nat) : Int)) ⟨Z,Z,Z,Z⟩ Z Z (by rw [wrap64_id (by omega) (by omega)]; omega) ?_
   refine R.move ⟨Z,Z,Z,Z⟩ Z ?_
   refine GOps.nil ?_
   first | exact ⟨i + 1, ⟨a.m ++ [(stepF lim vars (a.ts, a.bad) l).1], a.w, a.n, (stepF lim vars (a.ts, a.bad) l).2.1, (stepF lim vars (a.ts, a.bad) l).2.2⟩, ((.slice A42 _ c42, vw, vn), (H42, Hw, Hn, HD3)), (), by omega, ⟨by omega, by rw [bodyTo_succ hx, ← ha, bodyStep_1 (by assumption)], (by show SlAt 11 50 (stsC (a.m ++ [(stepF lim vars (a.ts, a.bad) l).1])) (a.m ++ [(stepF lim vars (a.ts, a.bad) l).1]).length _ _; rw [sts_app, sts_one, List.length_append]; exact hv42), hW, hN, hD3, hnil⟩, rfl, keepG, Hs.tl3 _ _ _⟩ | exact ⟨i + 1, ⟨a.m, a.w, a.n ++ [(stepF lim vars (a.ts, a.bad) l).1], (stepF lim vars (a.ts, a.bad) l).2.1, (stepF lim vars (a.ts, a.bad) l).2.2⟩, ((vm, vw, .slice A48 _ c48), (Hm, Hw, H48, HD3)), (), by omega, ⟨by omega, by rw [bodyTo_succ hx, ← ha, bodyStep_2 (by assumption) (by assumption)], hM, hW, (by show SlAt 11 50 (stsC (a.n ++ [(stepF lim vars (a.ts, a.bad) l).1])) (a.n ++ [(stepF lim vars (a.ts, a.bad) l).1]).length _ _; rw [sts_app, sts_one, List.length_append]; exact hv48), hD3, fun e => by simp at e⟩, rfl, keepG, Hs.tl3 _ _ _⟩ | exact ⟨i + 1, ⟨a.m, a.w ++ [(stepF lim vars (a.ts, a.bad) l).1], a.n, (stepF lim vars (a.ts, a.bad) l).2.1, (stepF lim vars (a.ts, a.bad) l).2.2⟩, ((vm, .slice A36 _ c36, vn), (Hm, H36, Hn, HD3)), (), by omega, ⟨by omega, by rw [bodyTo_succ hx, ← ha, bodyStep_3 (by assumption) (by assumption)], hM, (by show SlAt 11 50 (stsC (a.w ++ [(stepF lim vars (a.ts, a.bad) l).1])) (a.w ++ [(stepF lim vars (a.ts, a.bad) l).1]).length _ _; rw [sts_app, sts_one, List.length_append]; exact hv36), hN, hD3, hnil⟩, rfl, keepG, Hs.tl3 _ _ _⟩
  ·try simp only [dcQ] at hc2
   refine GW.seq ?_
   refine GW.region ?_
   refine R.eqI ⟨Z,Z,Z,Z⟩ Z Z ?_
   refine R.assign ⟨Z,Z,Z,Z⟩ Z ?_
   refine GOps.nil ?_
   refine GW.ite Z (fun hc3 => ?_) (fun hc3 => ?_)
   ·try simp only [dcQ] at hc3
    refine GW.region ?_
    refine R.move ⟨Z,Z,Z,Z⟩ Z ?_
    refine R.load_own (cs := StC (stepF lim vars (a.ts, a.bad) l).1) ⟨Z,Z,Z,Z⟩ Z Tryz.underlying50 Z Tryz.sizeOf50 memG (by rfl) (by rfl) ?_
    refine R.buildSliceF (sz := 11) (bytes := 88) (vs := [_]) (cs := StC (stepF lim vars (a.ts, a.bad) l).1) ⟨Z,Z,Z,Z⟩ Z Tryz.underlying39 (InfoE.mk (by kernel_rfl)) Z Z Z Z Z fun b47 => ?_
    refine GOps.weak (Keeps.refl _) (Hs.asc2 _ _ _ _ _ _ _ _ _ _) ?_
    refine R.append (sz := 11) (bytes := 88) (G1 := [_, _, _, _, _, _] ++ (HD3 ++ (Hm ++ Hw))) (H := Hn) (news := StC (stepF lim vars (a.ts, a.bad) l).1) ⟨Z,Z,Z,Z⟩ Z Z Z Tryz.underlying39 (InfoE.mk (by kernel_rfl)) (hN) (Z) (Z) (.own memH 0 _ (fun j v hv => by simpa using hv)) (by omega) (by rfl) (by omega) (by omega) fun v48 H48 hv48 => ?_
    refine GOps.weak (Keeps.refl _) (Hs.asc2' _ _ _ _ _ _ HD3 Hm Hw (H48 ++ G)) ?_
    obtain ⟨A48, c48, rfl, hc48⟩ := hv48.split
    refine R.assign ⟨Z,Z,Z,Z⟩ Z ?_
    refine GOps.nil ?_
    refine GW.region ?_
    refine R.add (r := (((i + 1) : Nat) : Int)) ⟨Z,Z,Z,Z⟩ Z Z (by rw [wrap64_id (by omega) (by omega)]; omega) ?_
    refine R.move ⟨Z,Z,Z,Z⟩ Z ?_
    refine GOps.nil ?_
    first | exact ⟨i + 1, ⟨a.m ++ [(stepF lim vars (a.ts, a.bad) l).1], a.w, a.n, (stepF lim vars (a.ts, a.bad) l).2.1, (stepF lim vars (a.ts, a.bad) l).2.2⟩, ((.slice A42 _ c42, vw, vn), (H42, Hw, Hn, HD3)), (), by omega, ⟨by omega, by rw [bodyTo_succ hx, ← ha, bodyStep_1 (by assumption)], (by show SlAt 11 50 (stsC (a.m ++ [(stepF lim vars (a.ts, a.bad) l).1])) (a.m ++ [(stepF lim vars (a.ts, a.bad) l).1]).length _ _; rw [sts_app, sts_one, List.length_append]; exact hv42), hW, hN, hD3, hnil⟩, rfl, keepG, Hs.tl3 _ _ _⟩ | exact ⟨i + 1, ⟨a.m, a.w, a.n ++ [(stepF lim vars (a.ts, a.bad) l).1], (stepF lim vars (a.ts, a.bad) l).2.1, (stepF lim vars (a.ts, a.bad) l).2.2⟩, ((vm, vw, .slice A48 _ c48), (Hm, Hw, H48, HD3)), (), by omega, ⟨by omega, by rw [bodyTo_succ hx, ← ha, bodyStep_2 (by assumption) (by assumption)], hM, hW, (by show SlAt 11 50 (stsC (a.n ++ [(stepF lim vars (a.ts, a.bad) l).1])) (a.n ++ [(stepF lim vars (a.ts, a.bad) l).1]).length _ _; rw [sts_app, sts_one, List.length_append]; exact hv48), hD3, fun e => by simp at e⟩, rfl, keepG, Hs.tl3 _ _ _⟩ | exact ⟨i + 1, ⟨a.m, a.w ++ [(stepF lim vars (a.ts, a.bad) l).1], a.n, (stepF lim vars (a.ts, a.bad) l).2.1, (stepF lim vars (a.ts, a.bad) l).2.2⟩, ((vm, .slice A36 _ c36, vn), (Hm, H36, Hn, HD3)), (), by omega, ⟨by omega, by rw [bodyTo_succ hx, ← ha, bodyStep_3 (by assumption) (by assumption)], hM, (by show SlAt 11 50 (stsC (a.w ++ [(stepF lim vars (a.ts, a.bad) l).1])) (a.w ++ [(stepF lim vars (a.ts, a.bad) l).1]).length _ _; rw [sts_app, sts_one, List.length_append]; exact hv36), hN, hD3, hnil⟩, rfl, keepG, Hs.tl3 _ _ _⟩
   ·try simp only [dcQ] at hc3
    refine GW.region ?_
    refine R.load1 ⟨Z,Z,Z,Z⟩ Z Tryz.underlying39 Z (.own' memG (by rfl)) ?_
    refine R.load_own (cs := StC (stepF lim vars (a.ts, a.bad) l).1) ⟨Z,Z,Z,Z⟩ Z Tryz.underlying50 Z Tryz.sizeOf50 memG (by rfl) (by rfl) ?_
    refine R.buildSliceF (sz := 11) (bytes := 88) (vs := [_]) (cs := StC (stepF lim vars (a.ts, a.bad) l).1) ⟨Z,Z,Z,Z⟩ Z Tryz.underlying39 (InfoE.mk (by kernel_rfl)) Z Z Z Z Z fun b35 => ?_
    refine GOps.weak (Keeps.refl _) (Hs.asc _ _ _ _ _ _ _ _ _) ?_
    refine R.append (sz := 11) (bytes := 88) (G1 := [_, _, _, _, _, _] ++ (HD3 ++ Hm)) (H := Hw) (news := StC (stepF lim vars (a.ts, a.bad) l).1) ⟨Z,Z,Z,Z⟩ Z Z Z Tryz.underlying39 (InfoE.mk (by kernel_rfl)) (hW) (Z) (Z) (.own memH 0 _ (fun j v hv => by simpa using hv)) (by omega) (by rfl) (by omega) (by omega) fun v36 H36 hv36 => ?_
    refine GOps.weak (Keeps.refl _) (Hs.asc' _ _ _ _ _ _ HD3 Hm (H36 ++ (Hn ++ G))) ?_
    obtain ⟨A36, c36, rfl, hc36⟩ := hv36.split
    refine R.storeAll (G1 := [_, _, _, _]) Z Z Z Z Z Tryz.sizeOf39 Z Z Z Z ?_
    refine GOps.nil ?_
    refine GW.region ?_
    refine R.add (r := (((i + 1) : Nat) : Int)) ⟨Z,Z,Z,Z⟩ Z Z (by rw [wrap64_id (by omega) (by omega)]; omega) ?_
    refine R.move ⟨Z,Z,Z,Z⟩ Z ?_
    refine GOps.nil ?_
    first | exact ⟨i + 1, ⟨a.m ++ [(stepF lim vars (a.ts, a.bad) l).1], a.w, a.n, (stepF lim vars (a.ts, a.bad) l).2.1, (stepF lim vars (a.ts, a.bad) l).2.2⟩, ((.slice A42 _ c42, vw, vn), (H42, Hw, Hn, HD3)), (), by omega, ⟨by omega, by rw [bodyTo_succ hx, ← ha, bodyStep_1 (by assumption)], (by show SlAt 11 50 (stsC (a.m ++ [(stepF lim vars (a.ts, a.bad) l).1])) (a.m ++ [(stepF lim vars (a.ts, a.bad) l).1]).length _ _; rw [sts_app, sts_one, List.length_append]; exact hv42), hW, hN, hD3, hnil⟩, rfl, keepG, Hs.tl3 _ _ _⟩ | exact ⟨i + 1, ⟨a.m, a.w, a.n ++ [(stepF lim vars (a.ts, a.bad) l).1], (stepF lim vars (a.ts, a.bad) l).2.1, (stepF lim vars (a.ts, a.bad) l).2.2⟩, ((vm, vw, .slice A48 _ c48), (Hm, Hw, H48, HD3)), (), by omega, ⟨by omega, by rw [bodyTo_succ hx, ← ha, bodyStep_2 (by assumption) (by assumption)], hM, hW, (by show SlAt 11 50 (stsC (a.n ++ [(stepF lim vars (a.ts, a.bad) l).1])) (a.n ++ [(stepF lim vars (a.ts, a.bad) l).1]).length _ _; rw [sts_app, sts_one, List.length_append]; exact hv48), hD3, fun e => by simp at e⟩, rfl, keepG, Hs.tl3 _ _ _⟩ | exact ⟨i + 1, ⟨a.m, a.w ++ [(stepF lim vars (a.ts, a.bad) l).1], a.n, (stepF lim vars (a.ts, a.bad) l).2.1, (stepF lim vars (a.ts, a.bad) l).2.2⟩, ((vm, .slice A36 _ c36, vn), (Hm, H36, Hn, HD3)), (), by omega, ⟨by omega, by rw [bodyTo_succ hx, ← ha, bodyStep_3 (by assumption) (by assumption)], hM, (by show SlAt 11 50 (stsC (a.w ++ [(stepF lim vars (a.ts, a.bad) l).1])) (a.w ++ [(stepF lim vars (a.ts, a.bad) l).1]).length _ _; rw [sts_app, sts_one, List.length_append]; exact hv36), hN, hD3, hnil⟩, rfl, keepG, Hs.tl3 _ _ _⟩
 ·try simp only [dcQ] at hc1
  obtain rfl : i = body.length := by omega
  subst ha
  obtain ⟨Am, cm, rfl, hms, hcm⟩ := hM.sts w0 []
  rw [List.append_nil] at hms
  refine GW.exit ?_
  refine GW.cutX (fun a : Value × Hp => [(0, .pointer (some ⟨bM, 0, none⟩)), (2, .slice oA order.length oc), (7, .slice Am (bodyTo lim vars ts bad body body.length).m.length cm), (8, .pointer (some ⟨b8, 0, none⟩)), (9, .pointer (some ⟨b9, 0, none⟩))]) (fun a : Value × Hp => (b9, slC1 (.slice none 0 0)) :: (b8, slC1 a.1) :: (bM, mkC bD A vars.length c (bodyTo lim vars ts bad body body.length).bad) :: (HD2 ++ (Hm ++ (a.2 ++ G)))) (fun a : Value × Hp => SlAt 11 50 (stsC ((bodyTo lim vars ts bad body body.length).w ++ (bodyTo lim vars ts bad body body.length).n)) ((bodyTo lim vars ts bad body body.length).w ++ (bodyTo lim vars ts bad body body.length).n).length a.1 a.2) ?_ ?_
  ·refine GW.region ?_
   refine R.load1 ⟨Z,Z,Z,Z⟩ Z Tryz.underlying39 Z (.own' memG (by rfl)) ?_
   refine R.move ⟨Z,Z,Z,Z⟩ Z ?_
   rcases Nat.eq_zero_or_pos (bodyTo lim vars ts bad body body.length).n.length with hn0 | hn0
   ·obtain ⟨rfl, rfl⟩ := hnil hn0
    obtain ⟨Aw, cw, rfl, hcw⟩ := hW.split
    refine R.appendNil (sz := 11) (bytes := 88) ⟨Z,Z,Z,Z⟩ Z Z Z Tryz.underlying39 (InfoE.mk (by kernel_rfl)) (hcw) ?_
    refine R.storeAll (G1 := [_]) Z Z Z Z Z Tryz.sizeOf39 Z Z Z Z ?_
    refine GOps.nil ?_
    first | exact ⟨rfl, rfl, (.slice Aw _ cw, Hw), (by rw [List.length_eq_zero_iff] at hn0; show SlAt 11 50 (stsC ((bodyTo lim vars ts bad body body.length).w ++ (bodyTo lim vars ts bad body body.length).n)) ((bodyTo lim vars ts bad body body.length).w ++ (bodyTo lim vars ts bad body body.length).n).length _ _; rw [hn0, List.append_nil]; exact hW), keepG, Hs.refl _⟩ | exact ⟨rfl, rfl, (.slice A52 _ c52, H52), (by show SlAt 11 50 (stsC ((bodyTo lim vars ts bad body body.length).w ++ (bodyTo lim vars ts bad body body.length).n)) ((bodyTo lim vars ts bad body body.length).w ++ (bodyTo lim vars ts bad body body.length).n).length _ _; rw [sts_app, List.length_append]; exact hv52), keepG, Hs.drop3 _ _ _ _ _ _ _ _⟩
   ·obtain ⟨bn, cn, rfl, rfl, hcn⟩ := hN.row_of hn0
    refine GOps.weak (Keeps.refl _) (Hs.asc3 _ _ _ _ _ _) ?_
    refine R.append (sz := 11) (bytes := 88) (G1 := [_, _, _] ++ (HD2 ++ Hm)) (H := Hw) (news := stsC (bodyTo lim vars ts bad body body.length).n) ⟨Z,Z,Z,Z⟩ Z Z Z Tryz.underlying39 (InfoE.mk (by kernel_rfl)) (hW) (Z) (stsC_len _) (row_rds memH) (by omega) (stsC_one _) (by omega) (by omega) fun v52 H52 hv52 => ?_
    refine GOps.weak (Keeps.refl _) (Hs.asc3' _ _ _ HD2 Hm (H52 ++ _)) ?_
    obtain ⟨A52, c52, rfl, hc52⟩ := hv52.split
    refine R.storeAll (G1 := [_]) Z Z Z Z Z Tryz.sizeOf39 Z Z Z Z ?_
    refine GOps.nil ?_
    first | exact ⟨rfl, rfl, (.slice Aw _ cw, Hw), (by rw [List.length_eq_zero_iff] at hn0; show SlAt 11 50 (stsC ((bodyTo lim vars ts bad body body.length).w ++ (bodyTo lim vars ts bad body body.length).n)) ((bodyTo lim vars ts bad body body.length).w ++ (bodyTo lim vars ts bad body body.length).n).length _ _; rw [hn0, List.append_nil]; exact hW), keepG, Hs.refl _⟩ | exact ⟨rfl, rfl, (.slice A52 _ c52, H52), (by show SlAt 11 50 (stsC ((bodyTo lim vars ts bad body body.length).w ++ (bodyTo lim vars ts bad body body.length).n)) ((bodyTo lim vars ts bad body body.length).w ++ (bodyTo lim vars ts bad body body.length).n).length _ _; rw [sts_app, List.length_append]; exact hv52), keepG, Hs.drop3 _ _ _ _ _ _ _ _⟩
  ·rintro ⟨vw2, Hw2⟩ hW2
   simp only at hW2
   refine GW.cutX (fun a : (Option Addr × Nat × Nat) × Hp => [(0, .pointer (some ⟨bM, 0, none⟩)), (2, .slice a.1.1 a.1.2.1 a.1.2.2), (7, .slice Am (bodyTo lim vars ts bad body body.length).m.length cm), (8, .pointer (some ⟨b8, 0, none⟩)), (9, .pointer (some ⟨b9, 0, none⟩))]) (fun a : (Option Addr × Nat × Nat) × Hp => (b9, slC1 (.slice none 0 0)) :: (b8, slC1 vw2) :: (bM, mkC bD A vars.length c (bodyTo lim vars ts bad body body.length).bad) :: (HD2 ++ (Hm ++ (Hw2 ++ (a.2 ++ G))))) (fun a : (Option Addr × Nat × Nat) × Hp => a.1.2.1 = (ordF (bodyTo lim vars ts bad body body.length).m.length order srt).length ∧ IntsAt w0 (a.2 ++ G) a.1.1 (ordF (bodyTo lim vars ts bad body body.length).m.length order srt) ∧ (ordF (bodyTo lim vars ts bad body body.length).m.length order srt).length ≤ 1000) ?_ ?_
   ·refine GW.seq ?_
    refine GW.region ?_
    refine R.move ⟨Z,Z,Z,Z⟩ Z ?_
    refine R.call ⟨Z,Z,Z,Z⟩ Z (vs := [_]) Z ((sl_Values _ _ oA order.length oc).mono ?_)
    rintro _ _ ⟨b54, rfl, rfl⟩
    refine R.call ⟨Z,Z,Z,Z⟩ Z (vs := [_]) Z ((hS b54 _ List.mem_cons_self (ho.mono (fun y hy => by repeat (first | exact hy | apply List.mem_cons_of_mem | apply List.mem_append_right)))).mono ?_)
    rintro v55 _ ⟨H55, h55, rfl⟩
    obtain ⟨As, cs, rfl, hsr, hcs⟩ := h55.ints w0 []
    rw [List.append_nil] at hsr
    refine R.assign ⟨Z,Z,Z,Z⟩ Z ?_
    refine GOps.nil ?_
    refine GW.seq ?_
    refine GW.region ?_
    refine R.move ⟨Z,Z,Z,Z⟩ Z ?_
    refine R.lenS ⟨Z,Z,Z,Z⟩ Z Z Tryz.underlying32 ?_
    refine R.move ⟨Z,Z,Z,Z⟩ Z ?_
    refine R.lenS ⟨Z,Z,Z,Z⟩ Z Z Tryz.underlying39 ?_
    refine R.neI ⟨Z,Z,Z,Z⟩ Z Z ?_
    refine R.move ⟨Z,Z,Z,Z⟩ Z ?_
    refine GOps.caseB 61 Z (fun hg4 => ?_) (fun hg4 => ?_)
    ·try simp only [dcQ] at hg4
     refine GOps.skip Z Z Z ?_
     refine GOps.skip Z Z Z ?_
     refine GOps.skip Z Z Z ?_
     refine GOps.skip Z Z Z ?_
     refine GOps.skip Z Z Z ?_
     refine GOps.skip Z Z Z ?_
     refine R.pick_t ⟨Z,Z,Z,Z⟩ Z Z ?_
     refine GOps.nil ?_
     refine GW.cond_t Z ?_
     refine GW.region ?_
     refine R.move ⟨Z,Z,Z,Z⟩ Z ?_
     refine R.lenS ⟨Z,Z,Z,Z⟩ Z Z Tryz.underlying39 ?_
     refine R.call ⟨Z,Z,Z,Z⟩ Z (vs := [_]) Z ((plan_upTo _ _ (bodyTo lim vars ts bad body body.length).m.length (by omega)).mono ?_)
     rintro _ _ ⟨b71, rfl, rfl⟩
     refine R.assign ⟨Z,Z,Z,Z⟩ Z ?_
     refine GOps.nil ?_
     first | exact ⟨rfl, rfl, ((some ⟨b71, 0, none⟩, (bodyTo lim vars ts bad body body.length).m.length, (bodyTo lim vars ts bad body body.length).m.length), [(b71, .exact (.cells (intC (List.range (bodyTo lim vars ts bad body body.length).m.length)).toArray 3 (0, 0)))]), ⟨(by rw [ordF_no (by rintro ⟨e1, e2⟩; first | omega | (rw [← e1] at e2; exact hc5 e2)), List.length_map, List.length_range]), (by rw [ordF_no (by rintro ⟨e1, e2⟩; first | omega | (rw [← e1] at e2; exact hc5 e2))]; exact exact_ints (List.mem_append_left _ List.mem_cons_self)), (by rw [ordF_no (by rintro ⟨e1, e2⟩; first | omega | (rw [← e1] at e2; exact hc5 e2)), List.length_map, List.length_range]; omega)⟩, keepG, (Hs.sub (by first | exact (sub1 _ _ _).cons_cons _ | exact ((sub1 _ _ _).cons _).cons_cons _)).trans (ord_deep _ _ _ _ _ _ _ _)⟩ | exact ⟨rfl, rfl, ((oA, order.length, oc), []), ⟨(by rw [ordF_yes (by omega) (ordF_eq (by omega) hc5)]), (by rw [ordF_yes (by omega) (ordF_eq (by omega) hc5)]; exact ho), (by rw [ordF_yes (by omega) (ordF_eq (by omega) hc5)]; exact hol)⟩, keepG, Hs.sub ((sub1 _ _ _).cons _)⟩
    ·try simp only [dcQ] at hg4
     refine R.move ⟨Z,Z,Z,Z⟩ Z ?_
     refine R.move ⟨Z,Z,Z,Z⟩ Z ?_
     refine R.lenS ⟨Z,Z,Z,Z⟩ Z Z Tryz.underlying32 ?_
     refine R.call ⟨Z,Z,Z,Z⟩ Z (vs := [_]) Z ((plan_upTo _ _ srt.length (by omega)).mono ?_)
     rintro _ _ ⟨b65, rfl, rfl⟩
     refine R.call ⟨Z,Z,Z,Z⟩ Z (vs := [_, _]) Z ((eq_up _ _ As srt cs b65 srt.length (hsr.mono (fun y hy => List.mem_cons_of_mem _ (List.mem_append_left _ hy))) List.mem_cons_self (by omega) (by omega)).mono ?_)
     rintro _ _ ⟨rfl, rfl⟩
     refine R.not ⟨Z,Z,Z,Z⟩ Z ?_
     refine R.pick_f ⟨Z,Z,Z,Z⟩ Z Z ?_
     refine GOps.nil ?_
     refine GW.ite Z (fun hc5 => ?_) (fun hc5 => ?_)
     ·try simp only [dcQ] at hc5
      refine GW.region ?_
      refine R.move ⟨Z,Z,Z,Z⟩ Z ?_
      refine R.lenS ⟨Z,Z,Z,Z⟩ Z Z Tryz.underlying39 ?_
      refine R.call ⟨Z,Z,Z,Z⟩ Z (vs := [_]) Z ((plan_upTo _ _ (bodyTo lim vars ts bad body body.length).m.length (by omega)).mono ?_)
      rintro _ _ ⟨b71, rfl, rfl⟩
      refine R.assign ⟨Z,Z,Z,Z⟩ Z ?_
      refine GOps.nil ?_
      first | exact ⟨rfl, rfl, ((some ⟨b71, 0, none⟩, (bodyTo lim vars ts bad body body.length).m.length, (bodyTo lim vars ts bad body body.length).m.length), [(b71, .exact (.cells (intC (List.range (bodyTo lim vars ts bad body body.length).m.length)).toArray 3 (0, 0)))]), ⟨(by rw [ordF_no (by rintro ⟨e1, e2⟩; first | omega | (rw [← e1] at e2; exact hc5 e2)), List.length_map, List.length_range]), (by rw [ordF_no (by rintro ⟨e1, e2⟩; first | omega | (rw [← e1] at e2; exact hc5 e2))]; exact exact_ints (List.mem_append_left _ List.mem_cons_self)), (by rw [ordF_no (by rintro ⟨e1, e2⟩; first | omega | (rw [← e1] at e2; exact hc5 e2)), List.length_map, List.length_range]; omega)⟩, keepG, (Hs.sub (by first | exact (sub1 _ _ _).cons_cons _ | exact ((sub1 _ _ _).cons _).cons_cons _)).trans (ord_deep _ _ _ _ _ _ _ _)⟩ | exact ⟨rfl, rfl, ((oA, order.length, oc), []), ⟨(by rw [ordF_yes (by omega) (ordF_eq (by omega) hc5)]), (by rw [ordF_yes (by omega) (ordF_eq (by omega) hc5)]; exact ho), (by rw [ordF_yes (by omega) (ordF_eq (by omega) hc5)]; exact hol)⟩, keepG, Hs.sub ((sub1 _ _ _).cons _)⟩
     ·try simp only [dcQ] at hc5
      refine GW.skip ?_
      first | exact ⟨rfl, rfl, ((some ⟨b71, 0, none⟩, (bodyTo lim vars ts bad body body.length).m.length, (bodyTo lim vars ts bad body body.length).m.length), [(b71, .exact (.cells (intC (List.range (bodyTo lim vars ts bad body body.length).m.length)).toArray 3 (0, 0)))]), ⟨(by rw [ordF_no (by rintro ⟨e1, e2⟩; first | omega | (rw [← e1] at e2; exact hc5 e2)), List.length_map, List.length_range]), (by rw [ordF_no (by rintro ⟨e1, e2⟩; first | omega | (rw [← e1] at e2; exact hc5 e2))]; exact exact_ints (List.mem_append_left _ List.mem_cons_self)), (by rw [ordF_no (by rintro ⟨e1, e2⟩; first | omega | (rw [← e1] at e2; exact hc5 e2)), List.length_map, List.length_range]; omega)⟩, keepG, (Hs.sub (by first | exact (sub1 _ _ _).cons_cons _ | exact ((sub1 _ _ _).cons _).cons_cons _)).trans (ord_deep _ _ _ _ _ _ _ _)⟩ | exact ⟨rfl, rfl, ((oA, order.length, oc), []), ⟨(by rw [ordF_yes (by omega) (ordF_eq (by omega) hc5)]), (by rw [ordF_yes (by omega) (ordF_eq (by omega) hc5)]; exact ho), (by rw [ordF_yes (by omega) (ordF_eq (by omega) hc5)]; exact hol)⟩, keepG, Hs.sub ((sub1 _ _ _).cons _)⟩
   ·rintro ⟨⟨Ax, nx, cx⟩, Hx⟩ ⟨rfl, hox, hoxl⟩
    simp only at hox
    refine GW.seq ?_
    refine GW.region ?_
    refine R.move ⟨Z,Z,Z,Z⟩ Z ?_
    refine R.nilCheck ⟨Z,Z,Z,Z⟩ Z ?_
    refine R.fieldAddr ⟨Z,Z,Z,Z⟩ Z Tryz.underlying97 Z Tryz.sizeOf61 ?_
    refine R.load1 ⟨Z,Z,Z,Z⟩ Z Tryz.underlying61 Z (.own' memG (by rfl)) ?_
    refine R.lenS ⟨Z,Z,Z,Z⟩ Z Z Tryz.underlying61 ?_
    refine R.makeZero (n := vars.length) (bytes := 1) (z0 := .bool false) ⟨Z,Z,Z,Z⟩ (by rfl) (by rfl) Tryz.underlying47 (InfoE.mk (by kernel_rfl)) (InfoZ.mk (by kernel_rfl)) (by omega) (by omega) fun b77 => ?_
    refine R.alloc ⟨Z,Z,Z,Z⟩ Tryz.zeroValue47 fun b15 => ?_
    refine R.storeAll (G1 := []) Z Z Z Z Z Tryz.sizeOf47 Z Z Z Z ?_
    refine GOps.nil ?_
    refine GW.seq ?_
    refine GW.region ?_
    refine R.makeFunc (vs := []) (us := [_]) ⟨Z,Z,Z,Z⟩ Z Z ?_
    refine R.alloc ⟨Z,Z,Z,Z⟩ Tryz.zeroValue133 fun b16 => ?_
    refine R.storeAll (G1 := []) Z Z Z Z Z Tryz.sizeOf133 Z Z Z Z ?_
    refine GOps.nil ?_
    refine GW.cutX (fun a : Unit => [(2, .slice Ax (ordF (bodyTo lim vars ts bad body body.length).m.length order srt).length cx), (7, .slice Am (bodyTo lim vars ts bad body body.length).m.length cm), (9, .pointer (some ⟨b9, 0, none⟩)), (15, .pointer (some ⟨b15, 0, none⟩)), (17, .func (.func 63) #[] #[.pointer (some ⟨b8, 0, none⟩), .pointer (some ⟨b16, 0, none⟩), .pointer (some ⟨b9, 0, none⟩)])]) (fun a : Unit => can b77 b8 b9 (List.replicate vars.length false) (vw2) (.slice none 0 0) (Hw2) ([]) ((b16, .exact (.cells #[.func (.func 61) #[] #[.pointer (some ⟨b15, 0, none⟩)]] 133 (0, 0))) :: (b15, .exact (.cells #[.slice (some ⟨b77, 0, none⟩) vars.length vars.length] 47 (0, 0))) :: (bM, mkC bD A vars.length c (bodyTo lim vars ts bad body body.length).bad) :: (HD2 ++ (Hm ++ (Hx ++ G))))) (fun a : Unit => True) ?_ ?_
    ·refine GW.region ?_
     refine R.makeFunc (vs := []) (us := [_, _, _]) ⟨Z,Z,Z,Z⟩ Z Z ?_
     refine R.assign ⟨Z,Z,Z,Z⟩ Z ?_
     refine GOps.nil ?_
     exact ⟨rfl, rfl, (), trivial, keepG, (Hs.perm (can_new _ _ _ _ _ _ _ _ _ _ _).symm).trans (Hs.kn (kn_zero _))⟩
    ·intro _ _
     have hbo := BOk.all (lim := lim) (vars := vars) (ts := ts) (bad := bad) (body := body) body.length (Nat.le_refl _)
     have hwp : ∀ s ∈ (bodyTo lim vars ts bad body body.length).w ++ (bodyTo lim vars ts bad body body.length).n, ∀ p ∈ placesSt s, p.var < vars.length := fun s hs => hbo.pl s (List.mem_append_right _ hs)
     have hq0 : ROk vars.length 2000 ⟨List.replicate vars.length false, (bodyTo lim vars ts bad body body.length).w ++ (bodyTo lim vars ts bad body body.length).n, []⟩ := ⟨by simp, hwp, by simp; have := hbo.len; omega⟩
     refine GW.seq ?_
     refine GW.region ?_
     refine R.move ⟨Z,Z,Z,Z⟩ Z ?_
     refine R.call ⟨Z,Z,Z,Z⟩ Z (vs := []) Z ((flush_can _ _ _ _ _ _ ((bodyTo lim vars ts bad body body.length).w ++ (bodyTo lim vars ts bad body body.length).n) [] b8 b16 b9 b15 b77 vars.length (List.replicate vars.length false) (by simp) (by show _ ∈ (_ :: _ :: _ :: (_ ++ (_ ++ _))); repeat (first | exact List.mem_cons_self | apply List.mem_cons_of_mem | apply List.mem_append_right)) (by show _ ∈ (_ :: _ :: _ :: (_ ++ (_ ++ _))); repeat (first | exact List.mem_cons_self | apply List.mem_cons_of_mem | apply List.mem_append_right)) hW2 (.nil Z Z) (by simp; omega) (by simp) hwp).mono ?_)
     rintro _ _ ⟨vw3, Hw3, vo3, Ho3, ⟨rfl, hW3, hO3⟩, rfl⟩
     refine GOps.nil ?_
     refine GW.seq ?_
     refine GW.seq ?_
     refine GW.region ?_
     refine R.move ⟨Z,Z,Z,Z⟩ Z ?_
     refine R.lenS ⟨Z,Z,Z,Z⟩ Z Z Tryz.underlying32 ?_
     refine R.move ⟨Z,Z,Z,Z⟩ Z ?_
     refine GOps.nil ?_
     refine GW.block ?_
     refine GW.loop4 (fun (i : Nat) (q : RS) (h : (Value × Value) × (Hp × Hp)) (u1 : Unit) => [(7, .slice Am (bodyTo lim vars ts bad body body.length).m.length cm), (9, .pointer (some ⟨b9, 0, none⟩)), (15, .pointer (some ⟨b15, 0, none⟩)), (17, .func (.func 63) #[] #[.pointer (some ⟨b8, 0, none⟩), .pointer (some ⟨b16, 0, none⟩), .pointer (some ⟨b9, 0, none⟩)]), (82, .slice Ax (ordF (bodyTo lim vars ts bad body body.length).m.length order srt).length cx), (83, .int .i64 (ordF (bodyTo lim vars ts bad body body.length).m.length order srt).length), (84, .int .i64 i)]) (fun (i : Nat) (q : RS) (h : (Value × Value) × (Hp × Hp)) (u1 : Unit) => can b77 b8 b9 (q.kn) (h.1.1) (h.1.2) (h.2.1) (h.2.2) ((b16, .exact (.cells #[.func (.func 61) #[] #[.pointer (some ⟨b15, 0, none⟩)]] 133 (0, 0))) :: (b15, .exact (.cells #[.slice (some ⟨b77, 0, none⟩) vars.length vars.length] 47 (0, 0))) :: (bM, mkC bD A vars.length c (bodyTo lim vars ts bad body body.length).bad) :: (HD2 ++ (Hm ++ (Hx ++ G))))) (fun i : Nat => (ordF (bodyTo lim vars ts bad body body.length).m.length order srt).length - i) (fun (i : Nat) (q : RS) (h : (Value × Value) × (Hp × Hp)) (u1 : Unit) => i ≤ (ordF (bodyTo lim vars ts bad body body.length).m.length order srt).length ∧ q = runTo (bodyTo lim vars ts bad body body.length).m ⟨List.replicate vars.length false, (bodyTo lim vars ts bad body body.length).w ++ (bodyTo lim vars ts bad body body.length).n, []⟩ (ordF (bodyTo lim vars ts bad body body.length).m.length order srt) i ∧ SlAt 11 50 (stsC (q.w)) (q.w).length h.1.1 h.2.1 ∧ SlAt 11 50 (stsC (q.o)) (q.o).length h.1.2 h.2.2) 0 (flushR ⟨List.replicate vars.length false, (bodyTo lim vars ts bad body body.length).w ++ (bodyTo lim vars ts bad body body.length).n, []⟩) (((vw3, vo3), (Hw3, Ho3))) (())
      (keepG) (Hs.refl _) (⟨Nat.zero_le _, rfl, hW3, hO3⟩) ?_
     rintro i q h u1 ⟨hi, hq, hWq, hOq⟩
     obtain ⟨⟨vw, vo⟩, Hw, Ho⟩ := h
     obtain ⟨hq1, hq2⟩ := run_ok (ms := (bodyTo lim vars ts bad body body.length).m) (ord := (ordF (bodyTo lim vars ts bad body body.length).m.length order srt)) hq0 i
     rw [← hq] at hq1 hq2
     have hq3 := hq2 hi
     have hq4 : q.o.length ≤ 4000 := by simp only [List.length_append, List.length_nil] at hq3; have := hbo.len; omega
     refine GW.seq ?_
     refine GW.region ?_
     refine R.lss ⟨Z,Z,Z,Z⟩ Z Z ?_
     refine GOps.nil ?_
     refine GW.seq ?_
     refine GW.ite Z (fun hc6 => ?_) (fun hc6 => ?_)
     ·try simp only [dcQ] at hc6
      obtain ⟨z, hz⟩ : ∃ z, (ordF (bodyTo lim vars ts bad body body.length).m.length order srt)[i]? = some z := ⟨_, List.getElem?_eq_getElem (by omega)⟩
      obtain ⟨zb, zo, rfl, hrz⟩ := int_at hox hz
      have hzr := ordF_range hmem z (List.mem_of_getElem? hz)
      have hzx := getD_some (ms := (bodyTo lim vars ts bad body body.length).m) (i := z.toNat) (by omega)
      obtain ⟨sb, so, cs1, rfl, rfl, hrs⟩ := hms z.toNat _ hzx
      have hsm := List.mem_of_getElem? hzx
      refine GW.skip ?_
      refine GW.seq ?_
      refine GW.block ?_
      refine GW.seq ?_
      refine GW.region ?_
      refine R.indexAddrS ⟨Z,Z,Z,Z⟩ Z Z Tryz.underlying32 Tryz.sizeOf3 (by omega) (by omega) ?_
      refine R.load1 ⟨Z,Z,Z,Z⟩ Z Tryz.underlying3 Z (hrz.mono (by intro y hy; show _ ∈ (_ :: _ :: _ :: (_ ++ (_ ++ (_ :: _ :: _ :: (_ ++ (_ ++ _)))))); repeat (first | exact hy | apply List.mem_cons_of_mem | apply List.mem_append_right))) ?_
      refine R.assign ⟨Z,Z,Z,Z⟩ Z ?_
      refine GOps.nil ?_
      refine GW.cutX (fun a : Value × Hp => [(7, .slice (some ⟨sb, so, none⟩) (bodyTo lim vars ts bad body body.length).m.length cm), (9, .pointer (some ⟨b9, 0, none⟩)), (15, .pointer (some ⟨b15, 0, none⟩)), (17, .func (.func 63) #[] #[.pointer (some ⟨b8, 0, none⟩), .pointer (some ⟨b16, 0, none⟩), .pointer (some ⟨b9, 0, none⟩)]), (19, .int .i64 z), (82, .slice (some ⟨zb, zo, none⟩) (ordF (bodyTo lim vars ts bad body body.length).m.length order srt).length cx), (83, .int .i64 (ordF (bodyTo lim vars ts bad body body.length).m.length order srt).length), (84, .int .i64 i)]) (fun a : Value × Hp => can b77 b8 b9 (q.kn) (vw) (a.1) (Hw) (a.2) ((b16, .exact (.cells #[.func (.func 61) #[] #[.pointer (some ⟨b15, 0, none⟩)]] 133 (0, 0))) :: (b15, .exact (.cells #[.slice (some ⟨b77, 0, none⟩) vars.length vars.length] 47 (0, 0))) :: (bM, mkC bD A vars.length c (bodyTo lim vars ts bad body body.length).bad) :: (HD2 ++ (Hm ++ (Hx ++ G))))) (fun a : Value × Hp => SlAt 11 50 (stsC (q.o ++ [((bodyTo lim vars ts bad body body.length).m.getD z.toNat zSt)])) (q.o ++ [((bodyTo lim vars ts bad body body.length).m.getD z.toNat zSt)]).length a.1 a.2) ?_ ?_
      ·refine GW.draw ((b16, .exact (.cells #[.func (.func 61) #[] #[.pointer (some ⟨b15, 0, none⟩)]] 133 (0, 0))) :: (b15, .exact (.cells #[.slice (some ⟨b77, 0, none⟩) vars.length vars.length] 47 (0, 0))) :: (bM, mkC bD A vars.length c (bodyTo lim vars ts bad body body.length).bad) :: (HD2 ++ (Hm ++ (Hx ++ G)))) 8 Z (by kernel_rfl) ?_
       refine GA.w 1 Z (V.move ⟨Z,Z,Z,Z⟩ Z) Z ?_
       refine GA.w 2 Z (V.move ⟨Z,Z,Z,Z⟩ Z) Z ?_
       refine GA.val 3 Z (V.indexAddrS ⟨Z,Z,Z,Z⟩ Z Z Tryz.underlying39 Tryz.sizeOf50 (by omega) (by omega)) Z (by kernel_rfl) (by kernel_rfl) (by kernel_rfl) ?_
       refine GA.val 4 Z (V.loadA ⟨Z,Z,Z,Z⟩ Z Tryz.underlying50 Z Tryz.sizeOf50 (hrs.mono (by intro y hy; repeat (first | exact List.mem_append_left _ hy | apply List.mem_cons_of_mem | apply List.mem_append_right))) (by rfl)) Z (by kernel_rfl) (by kernel_rfl) (by kernel_rfl) ?_
       refine GA.two 0 5 (by first | exact Hs.toRest _ _ _ _ _ _ | exact Hs.sub subG | exact Hs.refl _ | exact Hs.tl _ | exact Hs.tl2 _ _ | exact Hs.tl3 _ _ _ | exact Hs.app _ | exact Hs.sub (by simp)) (by kernel_rfl) Z Z ?_ ?_
       ·refine R.load1 ⟨Z,Z,Z,Z⟩ Z Tryz.underlying39 Z (.own' memG (by rfl)) ?_
        refine GOps.nil ?_
        refine GA.one 5 (by first | exact Hs.toRest _ _ _ _ _ _ | exact Hs.sub subG | exact Hs.refl _ | exact Hs.tl _ | exact Hs.tl2 _ _ | exact Hs.tl3 _ _ _ | exact Hs.app _ | exact Hs.sub (by simp)) (by kernel_rfl) Z ?_
        refine R.buildSliceF (sz := 11) (bytes := 88) (vs := [_]) (cs := StC ((bodyTo lim vars ts bad body body.length).m.getD z.toNat zSt)) ⟨Z,Z,Z,Z⟩ Z Tryz.underlying39 (InfoE.mk (by kernel_rfl)) Z Z Z Z Z fun b93 => ?_
        refine GOps.nil ?_
        refine GA.one 6 (by first | exact Hs.toRest _ _ _ _ _ _ | exact Hs.sub subG | exact Hs.refl _ | exact Hs.tl _ | exact Hs.tl2 _ _ | exact Hs.tl3 _ _ _ | exact Hs.app _ | exact Hs.sub (by simp)) (by kernel_rfl) Z ?_
        refine R.append (sz := 11) (bytes := 88) (G1 := [_, _, _, _] ++ Hw) (H := Ho) (news := StC ((bodyTo lim vars ts bad body body.length).m.getD z.toNat zSt)) ⟨Z,Z,Z,Z⟩ Z Z Z Tryz.underlying39 (InfoE.mk (by kernel_rfl)) (hOq) (Z) (Z) (.own memH 0 _ (fun j v hv => by simpa using hv)) (by omega) (by rfl) (by omega) (by omega) fun v94 H94 hv94 => ?_
        obtain ⟨A94, c94, rfl, hc94⟩ := hv94.split
        refine GOps.nil ?_
        refine GA.one 7 (by first | exact Hs.toRest _ _ _ _ _ _ | exact Hs.sub subG | exact Hs.refl _ | exact Hs.tl _ | exact Hs.tl2 _ _ | exact Hs.tl3 _ _ _ | exact Hs.app _ | exact Hs.sub (by simp)) (by kernel_rfl) Z ?_
        refine R.storeAll (G1 := [_, _, _]) Z Z Z Z Z Tryz.sizeOf39 Z Z Z Z ?_
        refine GOps.nil ?_
        refine GA.done (by first | exact Hs.toRest _ _ _ _ _ _ | exact Hs.sub subG | exact Hs.refl _ | exact Hs.tl _ | exact Hs.tl2 _ _ | exact Hs.tl3 _ _ _ | exact Hs.app _ | exact Hs.sub (by simp)) (by kernel_rfl) ?_
        exact ⟨rfl, rfl, (.slice A94 _ c94, H94), (by show SlAt 11 50 (stsC (q.o ++ [((bodyTo lim vars ts bad body body.length).m.getD z.toNat zSt)])) (q.o ++ [((bodyTo lim vars ts bad body body.length).m.getD z.toNat zSt)]).length _ _; rw [sts_app, sts_one, List.length_append]; exact hv94), keepG, Hs.tl _⟩
       ·refine R.buildSliceF (sz := 11) (bytes := 88) (vs := [_]) (cs := StC ((bodyTo lim vars ts bad body body.length).m.getD z.toNat zSt)) ⟨Z,Z,Z,Z⟩ Z Tryz.underlying39 (InfoE.mk (by kernel_rfl)) Z Z Z Z Z fun b93 => ?_
        refine GOps.nil ?_
        refine GA.one 0 (by first | exact Hs.toRest _ _ _ _ _ _ | exact Hs.sub subG | exact Hs.refl _ | exact Hs.tl _ | exact Hs.tl2 _ _ | exact Hs.tl3 _ _ _ | exact Hs.app _ | exact Hs.sub (by simp)) (by kernel_rfl) Z ?_
        refine R.load1 ⟨Z,Z,Z,Z⟩ Z Tryz.underlying39 Z (.own' memG (by rfl)) ?_
        refine GOps.nil ?_
        refine GA.one 6 (by first | exact Hs.toRest _ _ _ _ _ _ | exact Hs.sub subG | exact Hs.refl _ | exact Hs.tl _ | exact Hs.tl2 _ _ | exact Hs.tl3 _ _ _ | exact Hs.app _ | exact Hs.sub (by simp)) (by kernel_rfl) Z ?_
        refine R.append (sz := 11) (bytes := 88) (G1 := [_, _, _, _] ++ Hw) (H := Ho) (news := StC ((bodyTo lim vars ts bad body body.length).m.getD z.toNat zSt)) ⟨Z,Z,Z,Z⟩ Z Z Z Tryz.underlying39 (InfoE.mk (by kernel_rfl)) (hOq) (Z) (Z) (.own memH 0 _ (fun j v hv => by simpa using hv)) (by omega) (by rfl) (by omega) (by omega) fun v94 H94 hv94 => ?_
        obtain ⟨A94, c94, rfl, hc94⟩ := hv94.split
        refine GOps.nil ?_
        refine GA.one 7 (by first | exact Hs.toRest _ _ _ _ _ _ | exact Hs.sub subG | exact Hs.refl _ | exact Hs.tl _ | exact Hs.tl2 _ _ | exact Hs.tl3 _ _ _ | exact Hs.app _ | exact Hs.sub (by simp)) (by kernel_rfl) Z ?_
        refine R.storeAll (G1 := [_, _, _]) Z Z Z Z Z Tryz.sizeOf39 Z Z Z Z ?_
        refine GOps.nil ?_
        refine GA.done (by first | exact Hs.toRest _ _ _ _ _ _ | exact Hs.sub subG | exact Hs.refl _ | exact Hs.tl _ | exact Hs.tl2 _ _ | exact Hs.tl3 _ _ _ | exact Hs.app _ | exact Hs.sub (by simp)) (by kernel_rfl) ?_
        exact ⟨rfl, rfl, (.slice A94 _ c94, H94), (by show SlAt 11 50 (stsC (q.o ++ [((bodyTo lim vars ts bad body body.length).m.getD z.toNat zSt)])) (q.o ++ [((bodyTo lim vars ts bad body body.length).m.getD z.toNat zSt)]).length _ _; rw [sts_app, sts_one, List.length_append]; exact hv94), keepG, Hs.tl _⟩
      ·rintro ⟨vo2, Ho2⟩ hO2
       simp only at hO2
       refine GW.seq ?_
       refine GW.seq ?_
       refine GW.region ?_
       refine R.move ⟨Z,Z,Z,Z⟩ Z ?_
       refine R.move ⟨Z,Z,Z,Z⟩ Z ?_
       refine R.indexAddrS ⟨Z,Z,Z,Z⟩ Z Z Tryz.underlying39 Tryz.sizeOf50 (by omega) (by omega) ?_
       refine R.fieldAddr ⟨Z,Z,Z,Z⟩ Z Tryz.underlying50 Z Tryz.sizeOf38 ?_
       refine R.loadA ⟨Z,Z,Z,Z⟩ Z Tryz.underlying38 Z Tryz.sizeOf38 (row_in (hrs.mono (by intro y hy; show _ ∈ (_ :: _ :: _ :: (_ ++ (_ ++ (_ :: _ :: _ :: (_ ++ (_ ++ _)))))); repeat (first | exact List.mem_append_left _ hy | apply List.mem_cons_of_mem | apply List.mem_append_right)))) (by rfl) ?_
       refine R.move ⟨Z,Z,Z,Z⟩ Z ?_
       refine GOps.nil ?_
       refine GW.block ?_
       refine GW.loopI (fun k : Nat => [(7, .slice (some ⟨sb, so, none⟩) (bodyTo lim vars ts bad body body.length).m.length cm), (9, .pointer (some ⟨b9, 0, none⟩)), (15, .pointer (some ⟨b15, 0, none⟩)), (17, .func (.func 63) #[] #[.pointer (some ⟨b8, 0, none⟩), .pointer (some ⟨b16, 0, none⟩), .pointer (some ⟨b9, 0, none⟩)]), (82, .slice (some ⟨zb, zo, none⟩) (ordF (bodyTo lim vars ts bad body body.length).m.length order srt).length cx), (83, .int .i64 (ordF (bodyTo lim vars ts bad body body.length).m.length order srt).length), (84, .int .i64 i), (99, .agg (RwC ((bodyTo lim vars ts bad body body.length).m.getD z.toNat zSt).row).toArray), (100, .int .i64 k)]) (fun k => can b77 b8 b9 (markTo q.kn ((bodyTo lim vars ts bad body body.length).m.getD z.toNat zSt).row k) (vw) (vo2) (Hw) (Ho2) ((b16, .exact (.cells #[.func (.func 61) #[] #[.pointer (some ⟨b15, 0, none⟩)]] 133 (0, 0))) :: (b15, .exact (.cells #[.slice (some ⟨b77, 0, none⟩) vars.length vars.length] 47 (0, 0))) :: (bM, mkC bD A vars.length c (bodyTo lim vars ts bad body body.length).bad) :: (HD2 ++ (Hm ++ (Hx ++ G))))) (fun k => 3 - k) (fun k => k ≤ 3) 0
        (keepG) (Hs.refl _) (Nat.zero_le _) ?_
       rintro k hk
       refine GW.seq ?_
       refine GW.region ?_
       refine R.lss ⟨Z,Z,Z,Z⟩ Z Z ?_
       refine GOps.nil ?_
       refine GW.seq ?_
       refine GW.ite Z (fun hc7 => ?_) (fun hc7 => ?_)
       ·try simp only [dcQ] at hc7
        obtain ⟨p, hp, hpm, hpe⟩ := rw_index (r := ((bodyTo lim vars ts bad body body.length).m.getD z.toNat zSt).row) (k := k) (by omega)
        have hpv : p.var < vars.length := hbo.pl _ (List.mem_append_left _ hsm) p (by rw [placesSt_r (.inl (hbo.m1 _ hsm))]; exact hpm)
        refine GW.skip ?_
        refine GW.seq ?_
        refine GW.block ?_
        refine GW.seq ?_
        refine GW.region ?_
        refine R.indexArr (es := (PlC p).toArray) ⟨Z,Z,Z,Z⟩ Z Z Tryz.underlying38 Tryz.underlying37 Z Tryz.sizeOf37 (by omega) (by omega) (hpe) ?_
        refine R.alloc ⟨Z,Z,Z,Z⟩ Tryz.zeroValue37 fun b21 => ?_
        refine R.storeAll (G1 := []) Z Z Z Z Z Tryz.sizeOf37 Z Z Z Z ?_
        refine GOps.nil ?_
        refine GW.seq ?_
        refine GW.region ?_
        refine R.fieldAddr ⟨Z,Z,Z,Z⟩ Z Tryz.underlying37 Z Tryz.sizeOf3 ?_
        refine R.load1 ⟨Z,Z,Z,Z⟩ Z Tryz.underlying3 Z (.own' memG (by rfl)) ?_
        refine R.geq ⟨Z,Z,Z,Z⟩ Z Z ?_
        refine GOps.nil ?_
        refine GW.ite Z (fun hc8 => ?_) (fun hc8 => ?_)
        ·try simp only [dcQ] at hc8
         refine GW.region ?_
         refine R.load1 ⟨Z,Z,Z,Z⟩ Z Tryz.underlying47 Z (.own' memG (by rfl)) ?_
         refine R.fieldAddr ⟨Z,Z,Z,Z⟩ Z Tryz.underlying37 Z Tryz.sizeOf3 ?_
         refine R.load1 ⟨Z,Z,Z,Z⟩ Z Tryz.underlying3 Z (.own' memG (by rfl)) ?_
         refine R.indexAddrS ⟨Z,Z,Z,Z⟩ Z Z Tryz.underlying47 Tryz.sizeOf4 (by omega) (by omega) ?_
         refine R.store (G1 := [_]) Z Z Z Z Z Tryz.sizeOf4 Z Z (Z) (by simp [boolC, markTo_len, hq1.kn]; omega) ?_
         refine GOps.nil ?_
         refine GW.region ?_
         refine R.add (r := (((k + 1) : Nat) : Int)) ⟨Z,Z,Z,Z⟩ Z Z (by rw [wrap64_id (by omega) (by omega)]; omega) ?_
         refine R.move ⟨Z,Z,Z,Z⟩ Z ?_
         refine GOps.nil ?_
         first | exact ⟨k + 1, by omega, by omega, rfl, keepG, (Hs.tl _).trans (Hs.kn (by rw [markTo_succ hp, markP, if_pos (by omega)]; exact mark_put (by rw [markTo_len, hq1.kn]; omega)))⟩ | exact ⟨k + 1, by omega, by omega, rfl, keepG, (Hs.tl _).trans (Hs.kn (by rw [markTo_succ hp, markP, if_neg (by omega)]))⟩
        ·try simp only [dcQ] at hc8
         refine GW.skip ?_
         refine GW.region ?_
         refine R.add (r := (((k + 1) : Nat) : Int)) ⟨Z,Z,Z,Z⟩ Z Z (by rw [wrap64_id (by omega) (by omega)]; omega) ?_
         refine R.move ⟨Z,Z,Z,Z⟩ Z ?_
         refine GOps.nil ?_
         first | exact ⟨k + 1, by omega, by omega, rfl, keepG, (Hs.tl _).trans (Hs.kn (by rw [markTo_succ hp, markP, if_pos (by omega)]; exact mark_put (by rw [markTo_len, hq1.kn]; omega)))⟩ | exact ⟨k + 1, by omega, by omega, rfl, keepG, (Hs.tl _).trans (Hs.kn (by rw [markTo_succ hp, markP, if_neg (by omega)]))⟩
       ·try simp only [dcQ] at hc7
        obtain rfl : k = 3 := by omega
        refine GW.exit ?_
        refine GW.region ?_
        refine R.move ⟨Z,Z,Z,Z⟩ Z ?_
        refine R.call ⟨Z,Z,Z,Z⟩ Z (vs := []) Z ((flush_can _ _ _ _ _ _ q.w (q.o ++ [((bodyTo lim vars ts bad body body.length).m.getD z.toNat zSt)]) b8 b16 b9 b15 b77 vars.length (markTo q.kn ((bodyTo lim vars ts bad body body.length).m.getD z.toNat zSt).row 3) (by rw [markTo_len]; exact hq1.kn) (by show _ ∈ (_ :: _ :: _ :: (_ ++ (_ ++ _))); repeat (first | exact List.mem_cons_self | apply List.mem_cons_of_mem | apply List.mem_append_right)) (by show _ ∈ (_ :: _ :: _ :: (_ ++ (_ ++ _))); repeat (first | exact List.mem_cons_self | apply List.mem_cons_of_mem | apply List.mem_append_right)) hWq hO2 (by have := hq1.wl; omega) (by simp; omega) hq1.w).mono ?_)
        rintro _ _ ⟨vw4, Hw4, vo4, Ho4, ⟨rfl, hW4, hO4⟩, rfl⟩
        refine GOps.nil ?_
        refine GW.region ?_
        refine R.add (r := (((i + 1) : Nat) : Int)) ⟨Z,Z,Z,Z⟩ Z Z (by rw [wrap64_id (by omega) (by omega)]; omega) ?_
        refine R.move ⟨Z,Z,Z,Z⟩ Z ?_
        refine GOps.nil ?_
        exact ⟨i + 1, takeR (bodyTo lim vars ts bad body body.length).m q z, ((vw4, vo4), (Hw4, Ho4)), (), by omega, ⟨by omega, by rw [runTo_succ hz, ← hq], hW4, hO4⟩, rfl, keepG, Hs.refl _⟩
     ·try simp only [dcQ] at hc6
      obtain rfl : i = (ordF (bodyTo lim vars ts bad body body.length).m.length order srt).length := by omega
      subst hq
      refine GW.exit ?_
      refine GW.seq ?_
      refine GW.region ?_
      refine R.load1 ⟨Z,Z,Z,Z⟩ Z Tryz.underlying39 Z (.own' memG (by rfl)) ?_
      refine R.assign ⟨Z,Z,Z,Z⟩ Z ?_
      refine GOps.nil ?_
      exact GW.ret (Out.of (Res.one rfl rfl) (can_end _ _ _ _ _ _ _ _ _ _ _ _) ⟨HD2, Ho, ⟨hOq, hD2⟩, rfl⟩)
end Go.Proofs.YtfddkcmooommeaaGreatDoor.Gl
end
section
namespace Go.Proofs.YtfddkcmooommeaaGreatDoor.Gl
open Go.RowKit Go.Shelf
set_option linter.unusedVariables false
set_option linter.unnecessarySimpa false
set_option linter.unusedSimpArgs false
attribute [-simp] List.getD_eq_getElem?_getD
def planC (h : Rw) (v : Value) (n : Nat) : List Value := [.int .i64 h.p0.var, .int .u32 (h.p0.id : Nat), .int .i64 h.p1.var, .int .u32 (h.p1.id : Nat), .int .i64 h.p2.var, .int .u32 (h.p2.id : Nat), v, .int .i64 (n : Nat)]
structure PRes where
 head : Rw
 steps : List St
 vars : Nat
 e : Int
 ts : List Tm
def planRule (lim : Nat) (ts : List Tm) (r : Rl) (order srt : List Int) : PRes :=
 if ruleE r = 0 then
  if (planSteps lim (dd (allSlots r)) (rowF lim (dd (allSlots r)) (ts, 0) r.head).2.1 (rowF lim (dd (allSlots r)) (ts, 0) r.head).2.2 r.body order srt).2.2 = 0 then ⟨(rowF lim (dd (allSlots r)) (ts, 0) r.head).1, (planSteps lim (dd (allSlots r)) (rowF lim (dd (allSlots r)) (ts, 0) r.head).2.1 (rowF lim (dd (allSlots r)) (ts, 0) r.head).2.2 r.body order srt).1, (dd (allSlots r)).length, 0, (planSteps lim (dd (allSlots r)) (rowF lim (dd (allSlots r)) (ts, 0) r.head).2.1 (rowF lim (dd (allSlots r)) (ts, 0) r.head).2.2 r.body order srt).2.1⟩ else ⟨zRw, [], 0, (planSteps lim (dd (allSlots r)) (rowF lim (dd (allSlots r)) (ts, 0) r.head).2.1 (rowF lim (dd (allSlots r)) (ts, 0) r.head).2.2 r.body order srt).2.2, (planSteps lim (dd (allSlots r)) (rowF lim (dd (allSlots r)) (ts, 0) r.head).2.1 (rowF lim (dd (allSlots r)) (ts, 0) r.head).2.2 r.body order srt).2.1⟩
 else ⟨zRw, [], 0, 2, ts⟩
theorem planRule_bad {lim : Nat} {ts : List Tm} {r : Rl} {order srt : List Int} (h : ¬ ruleE r = 0) : planRule lim ts r order srt = ⟨zRw, [], 0, 2, ts⟩ := by unfold planRule; rw [if_neg h]
theorem planRule_full {lim : Nat} {ts : List Tm} {r : Rl} {order srt : List Int} (h : ruleE r = 0) (h2 : ¬ (planSteps lim (dd (allSlots r)) (rowF lim (dd (allSlots r)) (ts, 0) r.head).2.1 (rowF lim (dd (allSlots r)) (ts, 0) r.head).2.2 r.body order srt).2.2 = 0) : planRule lim ts r order srt = ⟨zRw, [], 0, (planSteps lim (dd (allSlots r)) (rowF lim (dd (allSlots r)) (ts, 0) r.head).2.1 (rowF lim (dd (allSlots r)) (ts, 0) r.head).2.2 r.body order srt).2.2, (planSteps lim (dd (allSlots r)) (rowF lim (dd (allSlots r)) (ts, 0) r.head).2.1 (rowF lim (dd (allSlots r)) (ts, 0) r.head).2.2 r.body order srt).2.1⟩ := by unfold planRule; rw [if_pos h, if_neg h2]
theorem planRule_ok {lim : Nat} {ts : List Tm} {r : Rl} {order srt : List Int} (h : ruleE r = 0) (h2 : (planSteps lim (dd (allSlots r)) (rowF lim (dd (allSlots r)) (ts, 0) r.head).2.1 (rowF lim (dd (allSlots r)) (ts, 0) r.head).2.2 r.body order srt).2.2 = 0) : planRule lim ts r order srt = ⟨(rowF lim (dd (allSlots r)) (ts, 0) r.head).1, (planSteps lim (dd (allSlots r)) (rowF lim (dd (allSlots r)) (ts, 0) r.head).2.1 (rowF lim (dd (allSlots r)) (ts, 0) r.head).2.2 r.body order srt).1, (dd (allSlots r)).length, 0, (planSteps lim (dd (allSlots r)) (rowF lim (dd (allSlots r)) (ts, 0) r.head).2.1 (rowF lim (dd (allSlots r)) (ts, 0) r.head).2.2 r.body order srt).2.1⟩ := by unfold planRule; rw [if_pos h, if_pos h2]
theorem Dic.mem {ts : List Tm} {lim b : Nat} {H : Hp} (h : Dic ts lim b H) : ∃ va ve bt n, (b, dictC lim va ve bt n) ∈ H := by
 obtain ⟨va, ve, Ha, He, bt, k, tab, rfl, _⟩ := h
 exact ⟨va, ve, bt, _, List.mem_cons_self⟩
theorem rule_may {r : Rl} (h : ruleE r = 0) : mayRl r = true := by
 unfold ruleE at h
 cases hm : mayRl r with
 | true => rfl
 | false => rw [hm] at h; cases h
theorem may_slot {s : Sl} (h : maySl s = true) : emp s.v = true → mayT s.t = true := fun he => by
 unfold maySl at h
 rw [he] at h
 exact h
theorem may_pt {p : Pt} (h : mayPt p = true) : ∀ s ∈ sl3 p, emp s.v = true → mayT s.t = true := by
 unfold mayPt at h
 simp only [Bool.and_eq_true] at h
 intro s hs
 simp only [sl3, List.mem_cons, List.not_mem_nil, or_false] at hs
 rcases hs with rfl | rfl | rfl
 ·exact may_slot h.1
 ·exact may_slot h.2.1
 ·exact may_slot h.2.2
theorem may_lt {l : Lt} (h : mayLt l = true) : ∀ s ∈ stepSl l, emp s.v = true → mayT s.t = true := by
 intro s hs
 unfold stepSl at hs
 unfold mayLt at h
 by_cases h1 : l.kind = 1 ∨ l.kind = 2
 ·rw [if_pos h1] at hs
  have : (decide (l.kind = 1) || decide (l.kind = 2)) = true := by simpa using h1
  rw [this, cond_true, Bool.and_eq_true] at h
  exact may_pt h.1 s hs
 ·rw [if_neg h1] at hs
  have : (decide (l.kind = 1) || decide (l.kind = 2)) = false := by simpa using h1
  rw [this, cond_false] at h
  cases h2 : (decide (l.kind = 3) || decide (l.kind = 4)) with
  | false => rw [h2] at h; cases h
  | true =>
   rw [h2, cond_true, Bool.and_eq_true, Bool.and_eq_true] at h
   simp only [List.mem_cons, List.not_mem_nil, or_false] at hs
   rcases hs with rfl | rfl
   ·exact may_slot h.2.1
   ·exact may_slot h.2.2
theorem may_head {r : Rl} (h : ruleE r = 0) : ∀ s ∈ sl3 r.head, emp s.v = true → mayT s.t = true := by
 have := rule_may h
 unfold mayRl at this
 rw [Bool.and_eq_true] at this
 exact may_pt this.1
theorem may_body {r : Rl} (h : ruleE r = 0) : ∀ l ∈ r.body, ∀ s ∈ stepSl l, emp s.v = true → mayT s.t = true := by
 have := rule_may h
 unfold mayRl at this
 simp only [Bool.and_eq_true, List.all_eq_true] at this
 exact fun l hl => may_lt (this.2.2 l hl)
theorem Hs.toM1 (x m : Nat × Know) (H G : Hp) : Hs (x :: m :: (H ++ G)) (m :: (H ++ (x :: G))) := Hs.perm (((pm1 x H G).cons m).trans (List.Perm.swap x m _))
theorem Hs.fromM1 (x m : Nat × Know) (H G : Hp) : Hs (m :: (H ++ (x :: G))) (x :: m :: (H ++ G)) := Hs.perm (((pm1 x H G).cons m).trans (List.Perm.swap x m _)).symm
theorem Hs.fromM1o (x m : Nat × Know) (H O G : Hp) : Hs (m :: (H ++ (O ++ (x :: G)))) (x :: m :: (H ++ (O ++ G))) := Hs.perm (by
 have h : (H ++ (O ++ (x :: G))).Perm (x :: (H ++ (O ++ G))) := by
  have h0 := @List.perm_middle _ x (H ++ O) G
  simp only [List.append_assoc] at h0
  exact h0
 exact ((h.cons m).trans (List.Perm.swap x m _)).symm)
theorem Hs.mkRow {bM bD n c : Nat} {A : Option Addr} {bad : Int} (G1 G2 : Hp) : Hs (G1 ++ (bM, mkC bD A n c bad) :: G2) (G1 ++ (bM, .row [.pointer (some ⟨bD, 0, none⟩), .slice A n c] 97 3) :: G2) := fun w0 w hw => Sat.weakKnow hw (fun x hx => by
 simp only [Know.holds] at hx ⊢
 refine ⟨_, hx, rfl, fun j v hv => ?_⟩
 rcases j with _ | _ | j
 ·exact hv
 ·exact hv
 ·simp at hv)
theorem Hs.newMk (m x y : Nat × Know) (V D G : Hp) : Hs (m :: (V ++ (x :: y :: (D ++ G)))) (m :: (D ++ (V ++ (x :: y :: G)))) := Hs.perm (List.Perm.cons m (by
 have h1 : (V ++ (x :: y :: (D ++ G))).Perm (x :: y :: (V ++ (D ++ G))) := pm2 x y V _
 have h2 : (D ++ (V ++ (x :: y :: G))).Perm (x :: y :: (D ++ (V ++ G))) := by
  have := pm2 x y (D ++ V) G
  simp only [List.append_assoc] at this
  exact this
 refine h2.trans ((List.Perm.cons y ?_).cons x |>.trans h1.symm)
 rw [← List.append_assoc, ← List.append_assoc]
 exact List.Perm.append_right _ List.perm_append_comm))
theorem Hs.deep6 (x m y z : Nat × Know) (D O V G : Hp) : Hs (x :: m :: (D ++ (O ++ (V ++ (y :: z :: G))))) (y :: x :: m :: (D ++ (O ++ (V ++ (z :: G))))) := Hs.perm (by
 have h : (D ++ (O ++ (V ++ (y :: z :: G)))).Perm (y :: (D ++ (O ++ (V ++ (z :: G))))) := by
  have h0 := @List.perm_middle _ y (D ++ (O ++ V)) (z :: G)
  simp only [List.append_assoc] at h0
  exact h0
 exact (((h.cons m).trans (List.Perm.swap y m _)).cons x |>.trans (List.Perm.swap y x _)).symm)
theorem Hs.gj11 (y x m : Nat × Know) (D G : Hp) : Hs (y :: x :: m :: (D ++ G)) (m :: G) := Hs.sub ((((List.sublist_append_right D G).cons_cons m).cons x).cons y)
theorem Hs.endY (x m y z : Nat × Know) (D O V G : Hp) : Hs (y :: x :: m :: (D ++ (O ++ (V ++ (z :: G))))) (D ++ (O ++ G)) := Hs.sub ((((((List.Sublist.refl G).cons z).trans (List.sublist_append_right V _)).append_left O).append_left D).cons m |>.cons x |>.cons y)
theorem Hs.endY0 (x m y z : Nat × Know) (D O V G : Hp) : Hs (y :: x :: m :: (D ++ (O ++ (V ++ (z :: G))))) (D ++ ([] ++ G)) := (Hs.endY x m y z D O V G).trans (Hs.sub ((List.sublist_append_right O G).append_left D))
theorem plan_Names (w0 : World) (G : Hp) (r : Rl) (A : Option Addr) (c : Nat) (hl : LtsAt w0 G A r.body) (hm : r.body.length ≤ 100000) : GC Tryz.prog w0 31 #[.agg (RlC r.head (.slice A r.body.length c)).toArray] (fun v G' => ∃ H, SlAt 1 9 ((dd (allSlots r)).map Value.string) (dd (allSlots r)).length v H ∧ H ++ G = G') G := by
 refine GC.body (args := [.agg (RlC r.head (.slice A r.body.length c)).toArray]) Tryz.func31 rfl (by kernel_rfl) rfl ?_
 refine GW.seq ?_
 refine GW.region ?_
 refine R.box ⟨Z,Z,Z,Z⟩ Z fun b1 => ?_
 refine R.assign ⟨Z,Z,Z,Z⟩ Z ?_
 refine GOps.nil ?_
 refine GW.seq ?_
 refine GW.region ?_
 refine R.load_own (cs := RlC r.head (.slice A r.body.length c)) ⟨Z,Z,Z,Z⟩ Z Tryz.underlying31 Z Tryz.sizeOf31 memG (by rfl) (by rfl) ?_
 refine R.call ⟨Z,Z,Z,Z⟩ Z (vs := [_]) Z ((check_Vars _ _ r A c (hl.mono (sub_cons _)) hm).mono ?_)
 rintro v4 _ ⟨H4, h4, rfl⟩
 refine R.assign ⟨Z,Z,Z,Z⟩ Z ?_
 refine GOps.nil ?_
 exact GW.ret (Out.of (Res.one rfl rfl) (Hs.app1 _ _ _) ⟨H4, h4, rfl⟩)
theorem plan_Rule (w0 : World) (G : Hp) (HD : Hp) (ts : List Tm) (lim bD : Nat) (hD : Dic ts lim bD HD) (r : Rl) (bA : Option Addr) (bc : Nat) (hl : LtsAt w0 G bA r.body) (hbl : r.body.length ≤ 1000) (hok : RlOk r)
  (oA : Option Addr) (order srt : List Int) (oc : Nat) (ho : IntsAt w0 G oA order) (hol : order.length ≤ 1000) (hsl : srt.length ≤ 1000) (hmem : ∀ z ∈ order, z ∈ srt)
  (hS : ∀ (b1 : Nat) (G0 : Hp), (b1, Know.exact (.cells #[.slice oA order.length oc] 32 (0, 0))) ∈ G0 → IntsAt w0 G0 oA order → GC Tryz.prog w0 57 #[.func (.func 89) #[] #[.pointer (some ⟨b1, 0, none⟩)]] (fun v G' => ∃ H, SlAt 1 3 (zC srt) srt.length v H ∧ H ++ G0 = G') G0) :
  GC Tryz.prog w0 10 #[.pointer (some ⟨bD, 0, none⟩), .agg (RlC r.head (.slice bA r.body.length bc)).toArray, .slice oA order.length oc] (fun v G' => ∃ vs Ho HD', (v = .tuple #[.agg (planC (planRule lim ts r order srt).head vs (planRule lim ts r order srt).vars).toArray, .int .i64 (planRule lim ts r order srt).e] ∧ SlAt 11 50 (stsC (planRule lim ts r order srt).steps) (planRule lim ts r order srt).steps.length vs Ho ∧ Dic (planRule lim ts r order srt).ts lim bD HD') ∧ HD' ++ (Ho ++ G) = G') (HD ++ G) := by
 obtain ⟨va, ve, bt, nk, hmD⟩ := hD.mem
 have hvl : (dd (allSlots r)).length ≤ 3 + 3 * r.body.length := Nat.le_trans (dd_len _) (allTake_len r r.body.length).2
 refine GC.body (args := [.pointer (some ⟨bD, 0, none⟩), .agg (RlC r.head (.slice bA r.body.length bc)).toArray, .slice oA order.length oc]) Tryz.func10 rfl (by kernel_rfl) rfl ?_
 refine GW.seq ?_
 refine GW.region ?_
 refine R.box ⟨Z,Z,Z,Z⟩ Z fun b4 => ?_
 refine R.alloc ⟨Z,Z,Z,Z⟩ Tryz.zeroValue41 fun b6 => ?_
 refine R.assign ⟨Z,Z,Z,Z⟩ Z ?_
 refine GOps.nil ?_
 refine GW.seq ?_
 refine GW.seq ?_
 refine GW.region ?_
 refine R.move ⟨Z,Z,Z,Z⟩ Z ?_
 refine R.build (vs := []) (cells := #[.int .i64 0, .string (ByteArray.mk #[]), .string (ByteArray.mk #[])]) ⟨Z,Z,Z,Z⟩ Z (fun w => run_build w 24 _ _ (by kernel_rfl)) ?_
 refine R.call ⟨Z,Z,Z,Z⟩ Z (vs := [_, _]) Z ((int_zero _ _ va ve bD bt lim nk (List.mem_cons_of_mem _ (List.mem_cons_of_mem _ (List.mem_append_left _ hmD)))).mono ?_)
 rintro _ _ ⟨rfl, rfl⟩
 refine R.move ⟨Z,Z,Z,Z⟩ Z ?_
 refine R.extract ⟨Z,Z,Z,Z⟩ Z Z ?_
 refine R.extract ⟨Z,Z,Z,Z⟩ Z Z ?_
 refine R.assign ⟨Z,Z,Z,Z⟩ Z ?_
 refine R.assign ⟨Z,Z,Z,Z⟩ Z ?_
 refine GOps.nil ?_
 refine GW.seq ?_
 refine GW.region ?_
 refine R.move ⟨Z,Z,Z,Z⟩ Z ?_
 refine R.eqI ⟨Z,Z,Z,Z⟩ Z Z ?_
 refine GOps.nil ?_
 refine GW.cond_f Z ?_
 refine GW.skip ?_
 refine GW.seq ?_
 refine GW.seq ?_
 refine GW.region ?_
 refine R.load_own (cs := RlC r.head (.slice bA r.body.length bc)) ⟨Z,Z,Z,Z⟩ Z Tryz.underlying31 Z Tryz.sizeOf31 memG (by rfl) (by rfl) ?_
 refine R.call ⟨Z,Z,Z,Z⟩ Z (vs := [_]) Z ((check_Rule _ _ r bA bc (hl.mono (fun y hy => by repeat (first | exact hy | apply List.mem_cons_of_mem | apply List.mem_append_right))) (by omega) hok).mono ?_)
 rintro _ _ ⟨rfl, rfl⟩
 rw [chk_eq]
 refine R.neI ⟨Z,Z,Z,Z⟩ Z Z ?_
 refine GOps.nil ?_
 refine GW.ite Z (fun hc1 => ?_) (fun hc1 => ?_)
 ·try simp only [dcQ] at hc1
  have hr0 : ¬ ruleE r = 0 := hc1
  refine GW.seq ?_
  refine GW.region ?_
  refine R.build (vs := []) (cells := (planC zRw (.slice none 0 0) 0).toArray) ⟨Z,Z,Z,Z⟩ Z (fun w => run_build w 41 _ _ (by kernel_rfl)) ?_
  refine R.storeAll (G1 := []) Z Z Z Z Z Tryz.sizeOf41 Z Z Z Z ?_
  refine R.assign ⟨Z,Z,Z,Z⟩ Z ?_
  refine GOps.nil ?_
  first | (rw [planRule_bad hr0]; exact GW.ret (Out.of (resCellTmp rfl rfl rfl Tryz.underlying41 rfl Tryz.sizeOf41 (Rds.own (C := (planC zRw (.slice none 0 0) 0).toArray) memH 0 (planC zRw (.slice none 0 0) 0) (fun j v hv => by simpa using hv)) rfl) (Hs.tl2 _ _) ⟨.slice none 0 0, [], HD, ⟨rfl, .nil rfl rfl, hD⟩, rfl⟩)) | (rw [planRule_full hr0 (by first | assumption | omega)]; exact GW.ret (Out.of (resCellTmp rfl rfl rfl Tryz.underlying41 rfl Tryz.sizeOf41 (Rds.own (C := (planC zRw (.slice none 0 0) 0).toArray) memH 0 (planC zRw (.slice none 0 0) 0) (fun j v hv => by simpa using hv)) rfl) (Hs.endY0 _ _ _ _ _ _ _ _) ⟨.slice none 0 0, [], HD3, ⟨rfl, .nil rfl rfl, hD3⟩, rfl⟩)) | (rw [planRule_ok hr0 (by first | assumption | omega)]; exact GW.ret (Out.of (resCellTmp rfl rfl rfl Tryz.underlying41 rfl Tryz.sizeOf41 (Rds.own (C := (planC (rowF lim (dd (allSlots r)) (ts, 0) r.head).1 (.slice A48 (planSteps lim (dd (allSlots r)) (rowF lim (dd (allSlots r)) (ts, 0) r.head).2.1 (rowF lim (dd (allSlots r)) (ts, 0) r.head).2.2 r.body order srt).1.length c48) (dd (allSlots r)).length).toArray) memH 0 (planC (rowF lim (dd (allSlots r)) (ts, 0) r.head).1 (.slice A48 (planSteps lim (dd (allSlots r)) (rowF lim (dd (allSlots r)) (ts, 0) r.head).2.1 (rowF lim (dd (allSlots r)) (ts, 0) r.head).2.2 r.body order srt).1.length c48) (dd (allSlots r)).length) (fun j v hv => by simpa using hv)) rfl) (Hs.endY _ _ _ _ _ _ _ _) ⟨.slice A48 _ c48, Ho, HD3, ⟨rfl, hst, hD3⟩, rfl⟩))
 ·try simp only [dcQ] at hc1
  have hr0 : ruleE r = 0 := by omega
  refine GW.skip ?_
  refine GW.cutX (fun a : (Option Addr × Nat × Nat) × Hp => [(2, .slice oA order.length oc), (4, .pointer (some ⟨b4, 0, none⟩)), (6, .pointer (some ⟨b6, 0, none⟩)), (10, .pointer (some ⟨a.1.2.1, 0, none⟩))]) (fun a : (Option Addr × Nat × Nat) × Hp => (a.1.2.1, mkC bD a.1.1 (dd (allSlots r)).length a.1.2.2 0) :: (HD ++ (a.2 ++ ((b6, .exact (.cells (planC zRw (.slice none 0 0) 0).toArray 41 (0, 0))) :: (b4, .exact (.cells (Value.agg (RlC r.head (.slice bA r.body.length bc)).toArray).cells 31 (0, 0))) :: G)))) (fun a : (Option Addr × Nat × Nat) × Hp => StAt w0 (a.2 ++ []) a.1.1 (dd (allSlots r))) ?_ ?_
  ·refine GW.region ?_
   refine R.move ⟨Z,Z,Z,Z⟩ Z ?_
   refine R.load_own (cs := RlC r.head (.slice bA r.body.length bc)) ⟨Z,Z,Z,Z⟩ Z Tryz.underlying31 Z Tryz.sizeOf31 memG (by rfl) (by rfl) ?_
   refine R.call ⟨Z,Z,Z,Z⟩ Z (vs := [_]) Z ((plan_Names _ _ r bA bc (hl.mono (fun y hy => by repeat (first | exact hy | apply List.mem_cons_of_mem | apply List.mem_append_right))) (by omega)).mono ?_)
   rintro v29 _ ⟨Hv, hv29, rfl⟩
   obtain ⟨Av, cv, rfl, hvs⟩ := hv29.strs w0 []
   refine R.build (vs := [(0, _), (1, _)]) (cells := #[.pointer (some ⟨bD, 0, none⟩), .slice Av (dd (allSlots r)).length cv, .int .i64 0]) ⟨Z,Z,Z,Z⟩ Z (fun w => run_build w 97 _ _ (by kernel_rfl)) ?_
   refine R.box ⟨Z,Z,Z,Z⟩ Z fun b31 => ?_
   refine R.assign ⟨Z,Z,Z,Z⟩ Z ?_
   refine GOps.nil ?_
   exact ⟨rfl, rfl, ((Av, b31, cv), Hv), hvs, keepG, Hs.newMk _ _ _ _ _ _⟩
  ·rintro ⟨⟨Av, b31, cv⟩, Hv⟩ hvs
   simp only at hvs
   refine GW.seq ?_
   refine GW.region ?_
   refine R.move ⟨Z,Z,Z,Z⟩ Z ?_
   refine R.makeFunc (vs := [_]) (us := []) ⟨Z,Z,Z,Z⟩ Z Z ?_
   refine R.assign ⟨Z,Z,Z,Z⟩ Z ?_
   refine GOps.nil ?_
   refine GW.cutX (fun a : Nat × Hp => [(2, .slice oA order.length oc), (4, .pointer (some ⟨b4, 0, none⟩)), (6, .pointer (some ⟨b6, 0, none⟩)), (10, .pointer (some ⟨b31, 0, none⟩)), (12, .pointer (some ⟨a.1, 0, none⟩))]) (fun a : Nat × Hp => (a.1, .exact (.cells (planC (rowF lim (dd (allSlots r)) (ts, 0) r.head).1 (.slice none 0 0) (dd (allSlots r)).length).toArray 41 (0, 0))) :: (b31, mkC bD Av (dd (allSlots r)).length cv (rowF lim (dd (allSlots r)) (ts, 0) r.head).2.2) :: (a.2 ++ (Hv ++ ((b6, .exact (.cells (planC zRw (.slice none 0 0) 0).toArray 41 (0, 0))) :: (b4, .exact (.cells (Value.agg (RlC r.head (.slice bA r.body.length bc)).toArray).cells 31 (0, 0))) :: G)))) (fun a : Nat × Hp => Dic (rowF lim (dd (allSlots r)) (ts, 0) r.head).2.1 lim bD a.2) ?_ ?_
   ·refine GW.draw ((b31, .row [.pointer (some ⟨bD, 0, none⟩), .slice Av (dd (allSlots r)).length cv] 97 3) :: (Hv ++ ((b6, .exact (.cells (planC zRw (.slice none 0 0) 0).toArray 41 (0, 0))) :: (b4, .exact (.cells (Value.agg (RlC r.head (.slice bA r.body.length bc)).toArray).cells 31 (0, 0))) :: G))) 12 Z (by kernel_rfl) ?_
    refine GA.w 0 Z (V.move ⟨Z,Z,Z,Z⟩ Z) Z ?_
    refine GA.w 1 Z (V.fieldAddr ⟨Z,Z,Z,Z⟩ Z Tryz.underlying31 Z Tryz.sizeOf28) Z ?_
    refine GA.val 2 Z (V.load_own (cs := PtC r.head) ⟨Z,Z,Z,Z⟩ Z Tryz.underlying28 Z Tryz.sizeOf28 memG (by rfl) (by rfl)) Z (by kernel_rfl) (by kernel_rfl) (by kernel_rfl) ?_
    refine GA.w 4 Z (V.move ⟨Z,Z,Z,Z⟩ Z) Z ?_
    refine GA.w 5 Z (V.nilCheck ⟨Z,Z,Z,Z⟩ Z) Z ?_
    refine GA.w 6 Z (V.fieldAddr ⟨Z,Z,Z,Z⟩ Z Tryz.underlying97 Z Tryz.sizeOf61) Z ?_
    refine GA.val 7 Z (V.load1 ⟨Z,Z,Z,Z⟩ Z Tryz.underlying61 Z (.own memH Z)) Z (by kernel_rfl) (by kernel_rfl) (by kernel_rfl) ?_
    refine GA.w 8 Z (V.lenS ⟨Z,Z,Z,Z⟩ Z Z Tryz.underlying61) Z ?_
    refine GA.two 3 10 (by first | exact (Hs.mkRow [] _).trans (Hs.sub ((List.sublist_append_right _ _).cons_cons _)) | exact (Hs.tl _).trans ((Hs.mkRow [] _).trans (Hs.sub ((List.sublist_append_right _ _).cons_cons _))) | exact Hs.gj11 _ _ _ _ _ | exact Hs.refl _ | exact Hs.tl _ | exact Hs.tl2 _ _ | exact Hs.tl3 _ _ _ | exact Hs.app _ | exact Hs.sub (by simp)) (by kernel_rfl) Z Z ?_ ?_
    ·first | refine GOps.weak (Keeps.refl _) (Hs.toM1 _ _ _ _) ?_ | skip
     refine R.call ⟨Z,Z,Z,Z⟩ Z (vs := [_]) Z ((plan_row _ _ HD ts lim bD b31 cv Av (dd (allSlots r)) 0 hD (hvs.mono (fun y hy => by rw [List.append_nil] at hy; repeat (first | exact List.mem_append_left _ hy | apply List.mem_cons_of_mem | apply List.mem_append_right))) (by omega) r.head (may_head hr0)).mono ?_)
     rintro _ _ ⟨HD2, ⟨rfl, hD2⟩, rfl⟩
     first | refine GOps.weak (Keeps.refl _) (Hs.fromM1 _ _ _ _) ?_ | skip
     refine GOps.nil ?_
     refine GA.val 9 Z (V.build (vs := [(0, _), (2, _)]) (cells := (planC (rowF lim (dd (allSlots r)) (ts, 0) r.head).1 (.slice none 0 0) (dd (allSlots r)).length).toArray) ⟨Z,Z,Z,Z⟩ Z (fun w => run_build w 41 _ _ (by kernel_rfl))) Z (by kernel_rfl) (by kernel_rfl) (by kernel_rfl) ?_
     refine GA.one 10 (by first | exact (Hs.mkRow [] _).trans (Hs.sub ((List.sublist_append_right _ _).cons_cons _)) | exact (Hs.tl _).trans ((Hs.mkRow [] _).trans (Hs.sub ((List.sublist_append_right _ _).cons_cons _))) | exact Hs.gj11 _ _ _ _ _ | exact Hs.refl _ | exact Hs.tl _ | exact Hs.tl2 _ _ | exact Hs.tl3 _ _ _ | exact Hs.app _ | exact Hs.sub (by simp)) (by kernel_rfl) Z ?_
     refine R.alloc ⟨Z,Z,Z,Z⟩ Tryz.zeroValue41 fun b12 => ?_
     refine GOps.nil ?_
     refine GA.one 11 (by first | exact (Hs.mkRow [] _).trans (Hs.sub ((List.sublist_append_right _ _).cons_cons _)) | exact (Hs.tl _).trans ((Hs.mkRow [] _).trans (Hs.sub ((List.sublist_append_right _ _).cons_cons _))) | exact Hs.gj11 _ _ _ _ _ | exact Hs.refl _ | exact Hs.tl _ | exact Hs.tl2 _ _ | exact Hs.tl3 _ _ _ | exact Hs.app _ | exact Hs.sub (by simp)) (by kernel_rfl) Z ?_
     refine R.storeAll (G1 := []) Z Z Z Z Z Tryz.sizeOf41 Z Z Z Z ?_
     refine GOps.nil ?_
     refine GA.done (by first | exact (Hs.mkRow [] _).trans (Hs.sub ((List.sublist_append_right _ _).cons_cons _)) | exact (Hs.tl _).trans ((Hs.mkRow [] _).trans (Hs.sub ((List.sublist_append_right _ _).cons_cons _))) | exact Hs.gj11 _ _ _ _ _ | exact Hs.refl _ | exact Hs.tl _ | exact Hs.tl2 _ _ | exact Hs.tl3 _ _ _ | exact Hs.app _ | exact Hs.sub (by simp)) (by kernel_rfl) ?_
     exact ⟨rfl, rfl, (b12, HD2), hD2, keepG, Hs.refl _⟩
    ·refine R.alloc ⟨Z,Z,Z,Z⟩ Tryz.zeroValue41 fun b12 => ?_
     refine GOps.nil ?_
     refine GA.one 3 (by first | exact (Hs.mkRow [] _).trans (Hs.sub ((List.sublist_append_right _ _).cons_cons _)) | exact (Hs.tl _).trans ((Hs.mkRow [] _).trans (Hs.sub ((List.sublist_append_right _ _).cons_cons _))) | exact Hs.gj11 _ _ _ _ _ | exact Hs.refl _ | exact Hs.tl _ | exact Hs.tl2 _ _ | exact Hs.tl3 _ _ _ | exact Hs.app _ | exact Hs.sub (by simp)) (by kernel_rfl) Z ?_
     first | refine GOps.weak (Keeps.refl _) (Hs.toM1 _ _ _ _) ?_ | skip
     refine R.call ⟨Z,Z,Z,Z⟩ Z (vs := [_]) Z ((plan_row _ _ HD ts lim bD b31 cv Av (dd (allSlots r)) 0 hD (hvs.mono (fun y hy => by rw [List.append_nil] at hy; repeat (first | exact List.mem_append_left _ hy | apply List.mem_cons_of_mem | apply List.mem_append_right))) (by omega) r.head (may_head hr0)).mono ?_)
     rintro _ _ ⟨HD2, ⟨rfl, hD2⟩, rfl⟩
     first | refine GOps.weak (Keeps.refl _) (Hs.fromM1 _ _ _ _) ?_ | skip
     refine GOps.nil ?_
     refine GA.val 9 Z (V.build (vs := [(0, _), (2, _)]) (cells := (planC (rowF lim (dd (allSlots r)) (ts, 0) r.head).1 (.slice none 0 0) (dd (allSlots r)).length).toArray) ⟨Z,Z,Z,Z⟩ Z (fun w => run_build w 41 _ _ (by kernel_rfl))) Z (by kernel_rfl) (by kernel_rfl) (by kernel_rfl) ?_
     refine GA.one 11 (by first | exact (Hs.mkRow [] _).trans (Hs.sub ((List.sublist_append_right _ _).cons_cons _)) | exact (Hs.tl _).trans ((Hs.mkRow [] _).trans (Hs.sub ((List.sublist_append_right _ _).cons_cons _))) | exact Hs.gj11 _ _ _ _ _ | exact Hs.refl _ | exact Hs.tl _ | exact Hs.tl2 _ _ | exact Hs.tl3 _ _ _ | exact Hs.app _ | exact Hs.sub (by simp)) (by kernel_rfl) Z ?_
     refine R.storeAll (G1 := []) Z Z Z Z Z Tryz.sizeOf41 Z Z Z Z ?_
     refine GOps.nil ?_
     refine GA.done (by first | exact (Hs.mkRow [] _).trans (Hs.sub ((List.sublist_append_right _ _).cons_cons _)) | exact (Hs.tl _).trans ((Hs.mkRow [] _).trans (Hs.sub ((List.sublist_append_right _ _).cons_cons _))) | exact Hs.gj11 _ _ _ _ _ | exact Hs.refl _ | exact Hs.tl _ | exact Hs.tl2 _ _ | exact Hs.tl3 _ _ _ | exact Hs.app _ | exact Hs.sub (by simp)) (by kernel_rfl) ?_
     exact ⟨rfl, rfl, (b12, HD2), hD2, keepG, Hs.refl _⟩
   ·rintro ⟨b12, HD2⟩ hD2
    simp only at hD2
    refine GW.seq ?_
    refine GW.region ?_
    refine R.move ⟨Z,Z,Z,Z⟩ Z ?_
    refine R.fieldAddr ⟨Z,Z,Z,Z⟩ Z Tryz.underlying31 Z Tryz.sizeOf29 ?_
    refine R.load1 ⟨Z,Z,Z,Z⟩ Z Tryz.underlying29 Z (.own memH Z) ?_
    refine R.move ⟨Z,Z,Z,Z⟩ Z ?_
    refine GOps.weak (Keeps.refl _) (Hs.toM1 _ _ _ _) ?_
    refine R.call ⟨Z,Z,Z,Z⟩ Z (vs := [_, _, _]) Z ((plan_steps _ _ HD2 (rowF lim (dd (allSlots r)) (ts, 0) r.head).2.1 lim bD b31 cv Av (dd (allSlots r)) (rowF lim (dd (allSlots r)) (ts, 0) r.head).2.2 hD2 (hvs.mono (fun y hy => by rw [List.append_nil] at hy; repeat (first | exact List.mem_append_left _ hy | apply List.mem_cons_of_mem | apply List.mem_append_right))) (by omega) bA r.body bc (hl.mono (fun y hy => by repeat (first | exact hy | apply List.mem_cons_of_mem | apply List.mem_append_right))) hbl (may_body hr0) oA order srt oc (ho.mono (fun y hy => by repeat (first | exact hy | apply List.mem_cons_of_mem | apply List.mem_append_right))) hol hsl hmem hS).mono ?_)
    rintro v48 _ ⟨HD3, Ho, ⟨hst, hD3⟩, rfl⟩
    refine GOps.weak (Keeps.refl _) (Hs.fromM1o _ _ _ _ _) ?_
    obtain ⟨A48, c48, rfl, hc48⟩ := hst.split
    refine R.fieldAddr ⟨Z,Z,Z,Z⟩ Z Tryz.underlying41 Z Tryz.sizeOf39 ?_
    refine R.store (G1 := []) Z Z Z Z Z Tryz.sizeOf39 Z Z (Z) (Nat.le_of_ble_eq_true Z) ?_
    refine GOps.nil ?_
    refine GW.seq ?_
    refine GW.seq ?_
    refine GW.region ?_
    refine R.move ⟨Z,Z,Z,Z⟩ Z ?_
    refine R.nilCheck ⟨Z,Z,Z,Z⟩ Z ?_
    refine R.fieldAddr ⟨Z,Z,Z,Z⟩ Z Tryz.underlying97 Z Tryz.sizeOf42 ?_
    refine R.load1 ⟨Z,Z,Z,Z⟩ Z Tryz.underlying42 Z (.own' memG (by rfl)) ?_
    refine R.neI ⟨Z,Z,Z,Z⟩ Z Z ?_
    refine GOps.nil ?_
    refine GW.ite Z (fun hc2 => ?_) (fun hc2 => ?_)
    ·try simp only [dcQ] at hc2
     refine GW.weak (Keeps.refl _) (Hs.deep6 _ _ _ _ _ _ _ _) ?_
     refine GW.seq ?_
     refine GW.draw ((b31, mkC bD Av (dd (allSlots r)).length cv (planSteps lim (dd (allSlots r)) (rowF lim (dd (allSlots r)) (ts, 0) r.head).2.1 (rowF lim (dd (allSlots r)) (ts, 0) r.head).2.2 r.body order srt).2.2) :: (Ho ++ (Hv ++ ((b4, .exact (.cells (Value.agg (RlC r.head (.slice bA r.body.length bc)).toArray).cells 31 (0, 0))) :: G)))) 7 Z (by kernel_rfl) ?_
     refine GA.val 0 Z (V.build (vs := []) (cells := (planC zRw (.slice none 0 0) 0).toArray) ⟨Z,Z,Z,Z⟩ Z (fun w => run_build w 41 _ _ (by kernel_rfl))) Z (by kernel_rfl) (by kernel_rfl) (by kernel_rfl) ?_
     refine GA.w 1 Z (V.move ⟨Z,Z,Z,Z⟩ Z) Z ?_
     refine GA.w 2 Z (V.nilCheck ⟨Z,Z,Z,Z⟩ Z) Z ?_
     refine GA.w 3 Z (V.fieldAddr ⟨Z,Z,Z,Z⟩ Z Tryz.underlying97 Z Tryz.sizeOf42) Z ?_
     refine GA.val 4 Z (V.load1 ⟨Z,Z,Z,Z⟩ Z Tryz.underlying42 Z (.own' memG (by rfl))) Z (by kernel_rfl) (by kernel_rfl) (by kernel_rfl) ?_
     refine GA.one 5 (by first | exact (Hs.mkRow [] _).trans (Hs.sub ((List.sublist_append_right _ _).cons_cons _)) | exact (Hs.tl _).trans ((Hs.mkRow [] _).trans (Hs.sub ((List.sublist_append_right _ _).cons_cons _))) | exact Hs.gj11 _ _ _ _ _ | exact Hs.refl _ | exact Hs.tl _ | exact Hs.tl2 _ _ | exact Hs.tl3 _ _ _ | exact Hs.app _ | exact Hs.sub (by simp)) (by kernel_rfl) Z ?_
     refine R.storeAll (G1 := []) Z Z Z Z Z Tryz.sizeOf41 Z Z Z Z ?_
     refine GOps.nil ?_
     refine GA.w 6 Z (V.assign ⟨Z,Z,Z,Z⟩ Z) Z ?_
     refine GA.done (by first | exact (Hs.mkRow [] _).trans (Hs.sub ((List.sublist_append_right _ _).cons_cons _)) | exact (Hs.tl _).trans ((Hs.mkRow [] _).trans (Hs.sub ((List.sublist_append_right _ _).cons_cons _))) | exact Hs.gj11 _ _ _ _ _ | exact Hs.refl _ | exact Hs.tl _ | exact Hs.tl2 _ _ | exact Hs.tl3 _ _ _ | exact Hs.app _ | exact Hs.sub (by simp)) (by kernel_rfl) ?_
     first | (rw [planRule_bad hr0]; exact GW.ret (Out.of (resCellTmp rfl rfl rfl Tryz.underlying41 rfl Tryz.sizeOf41 (Rds.own (C := (planC zRw (.slice none 0 0) 0).toArray) memH 0 (planC zRw (.slice none 0 0) 0) (fun j v hv => by simpa using hv)) rfl) (Hs.tl2 _ _) ⟨.slice none 0 0, [], HD, ⟨rfl, .nil rfl rfl, hD⟩, rfl⟩)) | (rw [planRule_full hr0 (by first | assumption | omega)]; exact GW.ret (Out.of (resCellTmp rfl rfl rfl Tryz.underlying41 rfl Tryz.sizeOf41 (Rds.own (C := (planC zRw (.slice none 0 0) 0).toArray) memH 0 (planC zRw (.slice none 0 0) 0) (fun j v hv => by simpa using hv)) rfl) (Hs.endY0 _ _ _ _ _ _ _ _) ⟨.slice none 0 0, [], HD3, ⟨rfl, .nil rfl rfl, hD3⟩, rfl⟩)) | (rw [planRule_ok hr0 (by first | assumption | omega)]; exact GW.ret (Out.of (resCellTmp rfl rfl rfl Tryz.underlying41 rfl Tryz.sizeOf41 (Rds.own (C := (planC (rowF lim (dd (allSlots r)) (ts, 0) r.head).1 (.slice A48 (planSteps lim (dd (allSlots r)) (rowF lim (dd (allSlots r)) (ts, 0) r.head).2.1 (rowF lim (dd (allSlots r)) (ts, 0) r.head).2.2 r.body order srt).1.length c48) (dd (allSlots r)).length).toArray) memH 0 (planC (rowF lim (dd (allSlots r)) (ts, 0) r.head).1 (.slice A48 (planSteps lim (dd (allSlots r)) (rowF lim (dd (allSlots r)) (ts, 0) r.head).2.1 (rowF lim (dd (allSlots r)) (ts, 0) r.head).2.2 r.body order srt).1.length c48) (dd (allSlots r)).length) (fun j v hv => by simpa using hv)) rfl) (Hs.endY _ _ _ _ _ _ _ _) ⟨.slice A48 _ c48, Ho, HD3, ⟨rfl, hst, hD3⟩, rfl⟩))
    ·try simp only [dcQ] at hc2
     refine GW.weak (Keeps.refl _) (Hs.deep6 _ _ _ _ _ _ _ _) ?_
     refine GW.skip ?_
     refine GW.seq ?_
     refine GW.region ?_
     refine R.load_own (cs := planC (rowF lim (dd (allSlots r)) (ts, 0) r.head).1 (.slice A48 (planSteps lim (dd (allSlots r)) (rowF lim (dd (allSlots r)) (ts, 0) r.head).2.1 (rowF lim (dd (allSlots r)) (ts, 0) r.head).2.2 r.body order srt).1.length c48) (dd (allSlots r)).length) ⟨Z,Z,Z,Z⟩ Z Tryz.underlying41 Z Tryz.sizeOf41 memG (by rfl) (by rfl) ?_
     refine R.storeAll (G1 := []) Z Z Z Z Z Tryz.sizeOf41 Z Z Z Z ?_
     refine R.assign ⟨Z,Z,Z,Z⟩ Z ?_
     refine GOps.nil ?_
     first | (rw [planRule_bad hr0]; exact GW.ret (Out.of (resCellTmp rfl rfl rfl Tryz.underlying41 rfl Tryz.sizeOf41 (Rds.own (C := (planC zRw (.slice none 0 0) 0).toArray) memH 0 (planC zRw (.slice none 0 0) 0) (fun j v hv => by simpa using hv)) rfl) (Hs.tl2 _ _) ⟨.slice none 0 0, [], HD, ⟨rfl, .nil rfl rfl, hD⟩, rfl⟩)) | (rw [planRule_full hr0 (by first | assumption | omega)]; exact GW.ret (Out.of (resCellTmp rfl rfl rfl Tryz.underlying41 rfl Tryz.sizeOf41 (Rds.own (C := (planC zRw (.slice none 0 0) 0).toArray) memH 0 (planC zRw (.slice none 0 0) 0) (fun j v hv => by simpa using hv)) rfl) (Hs.endY0 _ _ _ _ _ _ _ _) ⟨.slice none 0 0, [], HD3, ⟨rfl, .nil rfl rfl, hD3⟩, rfl⟩)) | (rw [planRule_ok hr0 (by first | assumption | omega)]; exact GW.ret (Out.of (resCellTmp rfl rfl rfl Tryz.underlying41 rfl Tryz.sizeOf41 (Rds.own (C := (planC (rowF lim (dd (allSlots r)) (ts, 0) r.head).1 (.slice A48 (planSteps lim (dd (allSlots r)) (rowF lim (dd (allSlots r)) (ts, 0) r.head).2.1 (rowF lim (dd (allSlots r)) (ts, 0) r.head).2.2 r.body order srt).1.length c48) (dd (allSlots r)).length).toArray) memH 0 (planC (rowF lim (dd (allSlots r)) (ts, 0) r.head).1 (.slice A48 (planSteps lim (dd (allSlots r)) (rowF lim (dd (allSlots r)) (ts, 0) r.head).2.1 (rowF lim (dd (allSlots r)) (ts, 0) r.head).2.2 r.body order srt).1.length c48) (dd (allSlots r)).length) (fun j v hv => by simpa using hv)) rfl) (Hs.endY _ _ _ _ _ _ _ _) ⟨.slice A48 _ c48, Ho, HD3, ⟨rfl, hst, hD3⟩, rfl⟩))
end Go.Proofs.YtfddkcmooommeaaGreatDoor.Gl
end
section
namespace Go.Proofs.YtfddkcmooommeaaGreatDoor.Gl
open Go.RowKit Go.Shelf
set_option linter.unusedVariables false
set_option linter.unnecessarySimpa false
set_option linter.unusedSimpArgs false
attribute [-simp] List.getD_eq_getElem?_getD
section
variable {X : Cx} {Q : Post} {fr : Fr} {ds : List Deferred} {G : Hp} {ops : Array Oper} {o : Oper} {rest : List Oper} {d : Nat}
theorem R.addS {t u : TypeId} {x y : Operand} {m n : ByteArray} (h : At X ops fr o (.binOp .add t x y u) d) (hx : evO fr x = some (.string m)) (hy : evO fr y = some (.string n)) (hz : m.size + n.size ≤ 9223372036854775807)
  (K : GOps X ops Q rest ((d, .string (m ++ n)) :: fr) ds G) : GOps X ops Q (o :: rest) fr ds G :=
 R.bin h hx hy (fun w _ => by rw [Sem.run_bind, run_guard_string]; simp [binOp, Op.stringOp]; omega) K
end
def kV (s : ByteArray) : Sl := ⟨s, zTm⟩
def kH : ByteArray := ⟨#[104, 116, 116, 112, 58, 47, 47]⟩
def pS (s : ByteArray) : Sl := ⟨ByteArray.empty, ⟨1, kH ++ s, ByteArray.empty⟩⟩
def c1 (n : UInt8) : ByteArray := ⟨#[n]⟩
def k1 : Lt := ⟨1, ⟨kV (c1 121), pS (c1 113), kV (c1 120)⟩, zSl, zSl⟩
def k2 : Lt := ⟨4, zPt, kV (c1 120), kV (c1 121)⟩
def k3 : Lt := ⟨1, ⟨kV (c1 120), pS (c1 114), kV (c1 122)⟩, zSl, zSl⟩
def k13 : Rl := ⟨⟨kV (c1 120), pS (c1 112), kV (c1 121)⟩, [k1, k2, k3]⟩
theorem k_slV (n : UInt8) : SlOk (kV (c1 n)) := ⟨by show 1 ≤ 1048576; decide, Nat.zero_le _, Nat.zero_le _⟩
theorem k_slP (n : UInt8) : SlOk (pS (c1 n)) := ⟨Nat.zero_le _, by show (kH ++ c1 n).size ≤ 1048576; rw [ByteArray.size_append]; exact Nat.le_of_ble_eq_true rfl, Nat.zero_le _⟩
theorem z_sl : SlOk zSl := ⟨Nat.zero_le _, Nat.zero_le _, Nat.zero_le _⟩
theorem k13_ok : RlOk k13 := ⟨⟨k_slV _, k_slP _, k_slV _⟩, fun l hl => by
 simp only [k13, List.mem_cons, List.not_mem_nil, or_false] at hl
 rcases hl with rfl | rfl | rfl
 ·exact ⟨⟨k_slV _, k_slP _, k_slV _⟩, z_sl, z_sl⟩
 ·exact ⟨⟨z_sl, z_sl, z_sl⟩, k_slV _, k_slV _⟩
 ·exact ⟨⟨k_slV _, k_slP _, k_slV _⟩, z_sl, z_sl⟩⟩
def k13B : Bool := match planRule 100 [] k13 [] [] with
 | ⟨_, [s0, s1, s2], 3, 0, _⟩ => decide (s0.kind = 1) && (decide (s1.kind = 4) && decide (s2.row.p1.id = 3))
 | _ => false
theorem k13B_true : k13B = true := by decide +kernel
theorem k13_plan : ∃ h s0 s1 s2 ts', planRule 100 [] k13 [] [] = ⟨h, [s0, s1, s2], 3, 0, ts'⟩ ∧ s0.kind = 1 ∧ s1.kind = 4 ∧ s2.row.p1.id = 3 := by
 have h := k13B_true
 unfold k13B at h
 split at h
 ·rename_i hh s0 s1 s2 ts' e
  simp only [Bool.and_eq_true, decide_eq_true_eq] at h
  exact ⟨hh, s0, s1, s2, ts', e, h.1, h.2.1, h.2.2⟩
 ·cases h
theorem sorted_hS (w0 : World) : ∀ (b1 : Nat) (G0 : Hp), (b1, Know.exact (.cells #[.slice none ([] : List Int).length 0] 32 (0, 0))) ∈ G0 → IntsAt w0 G0 none ([] : List Int) → GC Tryz.prog w0 57 #[.func (.func 89) #[] #[.pointer (some ⟨b1, 0, none⟩)]] (fun v G' => ∃ H, SlAt 1 3 (zC ([] : List Int)) ([] : List Int).length v H ∧ H ++ G0 = G') G0 := fun b1 G0 hm _ =>
 (sorted_0 w0 G0 b1 hm).mono (by rintro v G' ⟨rfl, rfl⟩; exact ⟨[], .nil rfl rfl, rfl⟩)
theorem plan_Rule0 (w0 : World) (G : Hp) (HD : Hp) (ts : List Tm) (lim bD : Nat) (hD : Dic ts lim bD HD) (r : Rl) (bA : Option Addr) (bc : Nat) (hl : LtsAt w0 G bA r.body) (hbl : r.body.length ≤ 1000) (hok : RlOk r) :
  GC Tryz.prog w0 10 #[.pointer (some ⟨bD, 0, none⟩), .agg (RlC r.head (.slice bA r.body.length bc)).toArray, .slice none 0 0] (fun v G' => ∃ vs Ho HD', (v = .tuple #[.agg (planC (planRule lim ts r [] []).head vs (planRule lim ts r [] []).vars).toArray, .int .i64 (planRule lim ts r [] []).e] ∧ SlAt 11 50 (stsC (planRule lim ts r [] []).steps) (planRule lim ts r [] []).steps.length vs Ho ∧ Dic (planRule lim ts r [] []).ts lim bD HD') ∧ HD' ++ (Ho ++ G) = G') (HD ++ G) :=
 plan_Rule w0 G HD ts lim bD hD r bA bc hl hbl hok none [] [] 0 (fun i x h => by simp at h) (by simp) (by simp) (by simp) (sorted_hS w0)
theorem k13_lts {w0 : World} {G : Hp} {b : Nat} (h : (b, Know.exact (.cells (LtC k1 ++ (LtC k2 ++ LtC k3)).toArray 89 (0, 0))) ∈ G) : LtsAt w0 G (some ⟨b, 0, none⟩) k13.body := by
 intro i x hx
 rcases i with _ | _ | _ | i
 ·have : k1 = x := by simpa [k13] using hx
  subst this
  exact ⟨b, 0, _, rfl, rfl, fun j v hv => .own' h (by rw [List.getElem?_toArray, show 0 + 0 * 21 + j = j by omega, List.getElem?_append_left (List.getElem?_eq_some_iff.1 hv).1]; exact hv)⟩
 ·have : k2 = x := by simpa [k13] using hx
  subst this
  exact ⟨b, 0, _, rfl, rfl, fun j v hv => .own' h (by rw [List.getElem?_toArray, show 0 + (0 + 1) * 21 + j = 21 + j by omega, List.getElem?_append_right (by show 21 ≤ _; omega), show 21 + j - (LtC k1).length = j by show 21 + j - 21 = j; omega, List.getElem?_append_left (List.getElem?_eq_some_iff.1 hv).1]; exact hv)⟩
 ·have : k3 = x := by simpa [k13] using hx
  subst this
  exact ⟨b, 0, _, rfl, rfl, fun j v hv => .own' h (by rw [List.getElem?_toArray, show 0 + (0 + 1 + 1) * 21 + j = 42 + j by omega, List.getElem?_append_right (by show 21 ≤ _; omega), show 42 + j - (LtC k1).length = 21 + j by show 42 + j - 21 = 21 + j; omega, List.getElem?_append_right (by show 21 ≤ _; omega), show 21 + j - (LtC k2).length = j by show 21 + j - 21 = j; omega]; exact hv)⟩
 ·simp [k13] at hx
theorem known_plan (w0 : World) (G : Hp) (HD : Hp) (bD b37 : Nat) (hD : Dic [] 100 bD HD) (hb : (b37, Know.exact (.cells (LtC k1 ++ (LtC k2 ++ LtC k3)).toArray 89 (0, 0))) ∈ G) :
  GC Tryz.prog w0 10 #[.pointer (some ⟨bD, 0, none⟩), .agg (RlC k13.head (.slice (some ⟨b37, 0, none⟩) 3 3)).toArray, .slice none 0 0] (fun v G' => ∃ h s0 s1 s2 bs cap HD', (v = .tuple #[.agg (planC h (.slice (some ⟨bs, 0, none⟩) 3 cap) 3).toArray, .int .i64 0] ∧ s0.kind = 1 ∧ s1.kind = 4 ∧ s2.row.p1.id = 3) ∧ HD' ++ ((bs, .row (stsC [s0, s1, s2]) 50 (cap * 11)) :: G) = G') (HD ++ G) := by
 refine (plan_Rule0 w0 G HD [] 100 bD hD k13 (some ⟨b37, 0, none⟩) 3 (k13_lts hb) (by decide) k13_ok).mono ?_
 rintro v G' ⟨vs, Ho, HD', ⟨rfl, hS, hD'⟩, rfl⟩
 obtain ⟨h, s0, s1, s2, ts', e, e0, e1, e2⟩ := k13_plan
 rw [e] at hS ⊢
 obtain ⟨bs, cap, rfl, rfl, _⟩ := hS.row_of (Nat.succ_pos 2)
 exact ⟨h, s0, s1, s2, bs, cap, HD', ⟨rfl, e0, e1, e2⟩, rfl⟩
theorem known_end (x p q : Nat × Know) (D G : Hp) : Hs (x :: (D ++ (p :: q :: G))) G := Hs.sub ((((List.Sublist.refl G).cons q).cons p |>.trans (List.sublist_append_right D _)).cons x)
theorem known1 (w0 : World) (G : Hp) (s : ByteArray) : GC Tryz.prog w0 27 #[.string s] (fun v G' => v = .agg (SlC (kV s)).toArray ∧ G = G') G := by
 refine GC.body (args := [.string s]) Tryz.func27 rfl (by kernel_rfl) rfl ?_
 refine GW.seq ?_
 refine GW.region ?_
 refine R.alloc ⟨Z,Z,Z,Z⟩ Tryz.zeroValue26 fun b2 => ?_
 refine GOps.nil ?_
 refine GW.seq ?_
 refine GW.region ?_
 refine R.move ⟨Z,Z,Z,Z⟩ Z ?_
 refine R.build (vs := [(0, _)]) (cells := (SlC (kV s)).toArray) ⟨Z,Z,Z,Z⟩ Z (fun w => run_build w 26 _ _ (by kernel_rfl)) ?_
 refine R.storeAll (G1 := []) Z Z Z Z Z Tryz.sizeOf26 Z Z Z Z ?_
 refine GOps.nil ?_
 exact GW.ret (Out.of (resCellA rfl rfl Tryz.underlying26 rfl Tryz.sizeOf26 (Rds.own (C := (SlC (kV s)).toArray) List.mem_cons_self 0 (SlC (kV s)) (fun j v hv => by simpa using hv)) rfl) (Hs.tl _) ⟨rfl, rfl⟩)
theorem known2 (w0 : World) (G : Hp) (s : ByteArray) (hs : s.size ≤ 1000) : GC Tryz.prog w0 28 #[.string s] (fun v G' => v = .agg (SlC (pS s)).toArray ∧ G = G') G := by
 refine GC.body (args := [.string s]) Tryz.func28 rfl (by kernel_rfl) rfl ?_
 refine GW.seq ?_
 refine GW.region ?_
 refine R.alloc ⟨Z,Z,Z,Z⟩ Tryz.zeroValue26 fun b2 => ?_
 refine GOps.nil ?_
 refine GW.seq ?_
 refine GW.region ?_
 refine R.move ⟨Z,Z,Z,Z⟩ Z ?_
 refine R.addS ⟨Z,Z,Z,Z⟩ Z Z (by show 7 + s.size ≤ _; omega) ?_
 refine R.build (vs := [(0, _), (1, _)]) (cells := (TmC (pS s).t).toArray) ⟨Z,Z,Z,Z⟩ Z (fun w => run_build w 24 _ _ (by kernel_rfl)) ?_
 refine R.build (vs := [(1, _)]) (cells := (SlC (pS s)).toArray) ⟨Z,Z,Z,Z⟩ Z (fun w => run_build w 26 _ _ (by kernel_rfl)) ?_
 refine R.storeAll (G1 := []) Z Z Z Z Z Tryz.sizeOf26 Z Z Z Z ?_
 refine GOps.nil ?_
 exact GW.ret (Out.of (resCellA rfl rfl Tryz.underlying26 rfl Tryz.sizeOf26 (Rds.own (C := (SlC (pS s)).toArray) List.mem_cons_self 0 (SlC (pS s)) (fun j v hv => by simpa using hv)) rfl) (Hs.tl _) ⟨rfl, rfl⟩)
theorem law_known (w0 : World) (G : Hp) : GC Tryz.prog w0 9 #[] (fun v G' => v = .bool true ∧ G = G') G := by
 refine GC.body (args := []) Tryz.func9 rfl (by kernel_rfl) rfl ?_
 refine GW.seq ?_
 refine GW.region ?_
 refine R.assign ⟨Z,Z,Z,Z⟩ Z ?_
 refine GOps.nil ?_
 refine GW.seq ?_
 refine GW.region ?_
 refine R.call ⟨Z,Z,Z,Z⟩ Z (vs := [_]) Z ((dict_New _ _ 100 (by decide)).mono ?_)
 rintro _ _ ⟨bD, HD, ⟨rfl, hD⟩, rfl⟩
 refine R.assign ⟨Z,Z,Z,Z⟩ Z ?_
 refine GOps.nil ?_
 refine GW.seq ?_
 refine GW.region ?_
 refine R.assign ⟨Z,Z,Z,Z⟩ Z ?_
 refine GOps.nil ?_
 refine GW.seq ?_
 refine GW.region ?_
 refine R.assign ⟨Z,Z,Z,Z⟩ Z ?_
 refine GOps.nil ?_
 refine GW.seq ?_
 refine GW.region ?_
 refine R.move ⟨Z,Z,Z,Z⟩ Z ?_
 refine R.move ⟨Z,Z,Z,Z⟩ Z ?_
 refine R.call ⟨Z,Z,Z,Z⟩ Z (vs := [_]) Z ((known1 _ _ (c1 120)).mono ?_)
 rintro _ _ ⟨rfl, rfl⟩
 refine R.move ⟨Z,Z,Z,Z⟩ Z ?_
 refine R.call ⟨Z,Z,Z,Z⟩ Z (vs := [_]) Z ((known2 _ _ (c1 112) (by decide)).mono ?_)
 rintro _ _ ⟨rfl, rfl⟩
 refine R.move ⟨Z,Z,Z,Z⟩ Z ?_
 refine R.call ⟨Z,Z,Z,Z⟩ Z (vs := [_]) Z ((known1 _ _ (c1 121)).mono ?_)
 rintro _ _ ⟨rfl, rfl⟩
 refine R.build (vs := [(0, _), (1, _), (2, _)]) (cells := (PtC k13.head).toArray) ⟨Z,Z,Z,Z⟩ Z (fun w => run_build w 28 _ _ (by kernel_rfl)) ?_
 refine R.move ⟨Z,Z,Z,Z⟩ Z ?_
 refine R.call ⟨Z,Z,Z,Z⟩ Z (vs := [_]) Z ((known1 _ _ (c1 121)).mono ?_)
 rintro _ _ ⟨rfl, rfl⟩
 refine R.move ⟨Z,Z,Z,Z⟩ Z ?_
 refine R.call ⟨Z,Z,Z,Z⟩ Z (vs := [_]) Z ((known2 _ _ (c1 113) (by decide)).mono ?_)
 rintro _ _ ⟨rfl, rfl⟩
 refine R.move ⟨Z,Z,Z,Z⟩ Z ?_
 refine R.call ⟨Z,Z,Z,Z⟩ Z (vs := [_]) Z ((known1 _ _ (c1 120)).mono ?_)
 rintro _ _ ⟨rfl, rfl⟩
 refine R.build (vs := [(0, _), (1, _), (2, _)]) (cells := (PtC k1.pat).toArray) ⟨Z,Z,Z,Z⟩ Z (fun w => run_build w 28 _ _ (by kernel_rfl)) ?_
 refine R.build (vs := [(0, _), (1, _)]) (cells := (LtC k1).toArray) ⟨Z,Z,Z,Z⟩ Z (fun w => run_build w 89 _ _ (by kernel_rfl)) ?_
 refine R.move ⟨Z,Z,Z,Z⟩ Z ?_
 refine R.call ⟨Z,Z,Z,Z⟩ Z (vs := [_]) Z ((known1 _ _ (c1 120)).mono ?_)
 rintro _ _ ⟨rfl, rfl⟩
 refine R.move ⟨Z,Z,Z,Z⟩ Z ?_
 refine R.call ⟨Z,Z,Z,Z⟩ Z (vs := [_]) Z ((known1 _ _ (c1 121)).mono ?_)
 rintro _ _ ⟨rfl, rfl⟩
 refine R.build (vs := [(0, _), (2, _), (3, _)]) (cells := (LtC k2).toArray) ⟨Z,Z,Z,Z⟩ Z (fun w => run_build w 89 _ _ (by kernel_rfl)) ?_
 refine R.move ⟨Z,Z,Z,Z⟩ Z ?_
 refine R.call ⟨Z,Z,Z,Z⟩ Z (vs := [_]) Z ((known1 _ _ (c1 120)).mono ?_)
 rintro _ _ ⟨rfl, rfl⟩
 refine R.move ⟨Z,Z,Z,Z⟩ Z ?_
 refine R.call ⟨Z,Z,Z,Z⟩ Z (vs := [_]) Z ((known2 _ _ (c1 114) (by decide)).mono ?_)
 rintro _ _ ⟨rfl, rfl⟩
 refine R.move ⟨Z,Z,Z,Z⟩ Z ?_
 refine R.call ⟨Z,Z,Z,Z⟩ Z (vs := [_]) Z ((known1 _ _ (c1 122)).mono ?_)
 rintro _ _ ⟨rfl, rfl⟩
 refine R.build (vs := [(0, _), (1, _), (2, _)]) (cells := (PtC k3.pat).toArray) ⟨Z,Z,Z,Z⟩ Z (fun w => run_build w 28 _ _ (by kernel_rfl)) ?_
 refine R.build (vs := [(0, _), (1, _)]) (cells := (LtC k3).toArray) ⟨Z,Z,Z,Z⟩ Z (fun w => run_build w 89 _ _ (by kernel_rfl)) ?_
 refine R.buildSliceF (sz := 21) (bytes := 288) (vs := [_, _, _]) (cs := LtC k1 ++ (LtC k2 ++ LtC k3)) ⟨Z,Z,Z,Z⟩ Z Tryz.underlying29 (InfoE.mk (by kernel_rfl)) Z Z Z Z Z fun b37 => ?_
 refine R.build (vs := [(0, _), (1, _)]) (cells := (RlC k13.head (.slice (some ⟨b37, 0, none⟩) 3 3)).toArray) ⟨Z,Z,Z,Z⟩ Z (fun w => run_build w 31 _ _ (by kernel_rfl)) ?_
 refine GOps.weak (Keeps.refl _) (Hs.perm (pm1 _ _ _)) ?_
 refine R.call ⟨Z,Z,Z,Z⟩ Z (vs := [_, _, _]) Z ((known_plan _ _ HD bD b37 hD List.mem_cons_self).mono ?_)
 rintro _ _ ⟨h, s0, s1, s2, bs, cap, HD2, ⟨rfl, e0, e1, e2⟩, rfl⟩
 refine R.move ⟨Z,Z,Z,Z⟩ Z ?_
 refine R.extract ⟨Z,Z,Z,Z⟩ Z Z ?_
 refine R.extract ⟨Z,Z,Z,Z⟩ Z Z ?_
 refine R.alloc ⟨Z,Z,Z,Z⟩ Tryz.zeroValue41 fun b4 => ?_
 refine R.storeAll (G1 := []) Z Z Z Z Z Tryz.sizeOf41 Z Z Z Z ?_
 refine R.assign ⟨Z,Z,Z,Z⟩ Z ?_
 refine GOps.nil ?_
 refine GW.seq ?_
 refine GW.region ?_
 refine R.move ⟨Z,Z,Z,Z⟩ Z ?_
 refine R.eqI ⟨Z,Z,Z,Z⟩ Z Z ?_
 refine R.move ⟨Z,Z,Z,Z⟩ Z ?_
 refine R.fieldAddr ⟨Z,Z,Z,Z⟩ Z Tryz.underlying41 Z Tryz.sizeOf3 ?_
 refine R.load1 ⟨Z,Z,Z,Z⟩ Z Tryz.underlying3 Z (.own' memG (by rfl)) ?_
 refine R.eqI ⟨Z,Z,Z,Z⟩ Z Z ?_
 refine R.pick_t ⟨Z,Z,Z,Z⟩ Z Z ?_
 refine R.move ⟨Z,Z,Z,Z⟩ Z ?_
 refine R.fieldAddr ⟨Z,Z,Z,Z⟩ Z Tryz.underlying41 Z Tryz.sizeOf39 ?_
 refine R.load1 ⟨Z,Z,Z,Z⟩ Z Tryz.underlying39 Z (.own' memG (by rfl)) ?_
 refine R.lenS ⟨Z,Z,Z,Z⟩ Z Z Tryz.underlying39 ?_
 refine R.eqI ⟨Z,Z,Z,Z⟩ Z Z ?_
 refine R.pick_t ⟨Z,Z,Z,Z⟩ Z Z ?_
 refine R.move ⟨Z,Z,Z,Z⟩ Z ?_
 refine R.fieldAddr ⟨Z,Z,Z,Z⟩ Z Tryz.underlying41 Z Tryz.sizeOf39 ?_
 refine R.load1 ⟨Z,Z,Z,Z⟩ Z Tryz.underlying39 Z (.own' memG (by rfl)) ?_
 refine R.indexAddrS ⟨Z,Z,Z,Z⟩ Z Z Tryz.underlying39 Tryz.sizeOf50 (by omega) (by omega) ?_
 refine R.fieldAddr ⟨Z,Z,Z,Z⟩ Z Tryz.underlying50 Z Tryz.sizeOf48 ?_
 refine R.load1 ⟨Z,Z,Z,Z⟩ Z Tryz.underlying48 Z (st_load (ss := [s0, s1, s2]) (i := 0) memH Z 0 _ Z) ?_
 refine R.eqI ⟨Z,Z,Z,Z⟩ Z Z ?_
 refine R.pick_t ⟨Z,Z,Z,Z⟩ Z Z ?_
 refine R.move ⟨Z,Z,Z,Z⟩ Z ?_
 refine GOps.caseB 63 Z (fun hg1 => ?_) (fun hg1 => ?_)
 ·try simp only [dcQ] at hg1
  refine R.fieldAddr ⟨Z,Z,Z,Z⟩ Z Tryz.underlying41 Z Tryz.sizeOf39 ?_
  refine R.load1 ⟨Z,Z,Z,Z⟩ Z Tryz.underlying39 Z (.own' memG (by rfl)) ?_
  refine R.indexAddrS ⟨Z,Z,Z,Z⟩ Z Z Tryz.underlying39 Tryz.sizeOf50 (by omega) (by omega) ?_
  refine R.fieldAddr ⟨Z,Z,Z,Z⟩ Z Tryz.underlying50 Z Tryz.sizeOf48 ?_
  refine R.load1 ⟨Z,Z,Z,Z⟩ Z Tryz.underlying48 Z (st_load (ss := [s0, s1, s2]) (i := 1) memH Z 0 _ Z) ?_
  refine R.eqI ⟨Z,Z,Z,Z⟩ Z Z ?_
  refine R.pick_t ⟨Z,Z,Z,Z⟩ Z Z ?_
  refine R.move ⟨Z,Z,Z,Z⟩ Z ?_
  refine GOps.caseB 71 Z (fun hg2 => ?_) (fun hg2 => ?_)
  ·try simp only [dcQ] at hg2
   refine R.fieldAddr ⟨Z,Z,Z,Z⟩ Z Tryz.underlying41 Z Tryz.sizeOf39 ?_
   refine R.load1 ⟨Z,Z,Z,Z⟩ Z Tryz.underlying39 Z (.own' memG (by rfl)) ?_
   refine R.indexAddrS ⟨Z,Z,Z,Z⟩ Z Z Tryz.underlying39 Tryz.sizeOf50 (by omega) (by omega) ?_
   refine R.fieldAddr ⟨Z,Z,Z,Z⟩ Z Tryz.underlying50 Z Tryz.sizeOf38 ?_
   refine R.indexAddrA ⟨Z,Z,Z,Z⟩ Z Z Tryz.underlying38 Tryz.sizeOf37 (by omega) (by omega) ?_
   refine R.fieldAddr ⟨Z,Z,Z,Z⟩ Z Tryz.underlying37 Z Tryz.sizeOf35 ?_
   refine R.load1 ⟨Z,Z,Z,Z⟩ Z Tryz.underlying35 Z (st_load (ss := [s0, s1, s2]) (i := 2) memH Z 4 _ Z) ?_
   refine R.eqI ⟨Z,Z,Z,Z⟩ Z Z ?_
   refine R.pick_t ⟨Z,Z,Z,Z⟩ Z Z ?_
   refine R.assign ⟨Z,Z,Z,Z⟩ Z ?_
   refine GOps.nil ?_
   refine GW.ret (Out.of (Res.one Z Z) (known_end _ _ _ _ _) ⟨?_, Z⟩)
   first | (rw [e2]; rfl) | (exfalso; omega) | (exfalso; simp_all; done)
  ·try simp only [dcQ] at hg2
   refine GOps.skip Z Z Z ?_
   refine GOps.skip Z Z Z ?_
   refine GOps.skip Z Z Z ?_
   refine GOps.skip Z Z Z ?_
   refine GOps.skip Z Z Z ?_
   refine GOps.skip Z Z Z ?_
   refine GOps.skip Z Z Z ?_
   refine GOps.skip Z Z Z ?_
   refine R.pick_f ⟨Z,Z,Z,Z⟩ Z Z ?_
   refine R.assign ⟨Z,Z,Z,Z⟩ Z ?_
   refine GOps.nil ?_
   refine GW.ret (Out.of (Res.one Z Z) (known_end _ _ _ _ _) ⟨?_, Z⟩)
   first | (rw [e2]; rfl) | (exfalso; omega) | (exfalso; simp_all; done)
 ·try simp only [dcQ] at hg1
  refine GOps.skip Z Z Z ?_
  refine GOps.skip Z Z Z ?_
  refine GOps.skip Z Z Z ?_
  refine GOps.skip Z Z Z ?_
  refine GOps.skip Z Z Z ?_
  refine GOps.skip Z Z Z ?_
  refine R.pick_f ⟨Z,Z,Z,Z⟩ Z Z ?_
  refine R.move ⟨Z,Z,Z,Z⟩ Z ?_
  refine GOps.skip Z Z Z ?_
  refine GOps.skip Z Z Z ?_
  refine GOps.skip Z Z Z ?_
  refine GOps.skip Z Z Z ?_
  refine GOps.skip Z Z Z ?_
  refine GOps.skip Z Z Z ?_
  refine GOps.skip Z Z Z ?_
  refine GOps.skip Z Z Z ?_
  refine R.pick_f ⟨Z,Z,Z,Z⟩ Z Z ?_
  refine R.assign ⟨Z,Z,Z,Z⟩ Z ?_
  refine GOps.nil ?_
  refine GW.ret (Out.of (Res.one Z Z) (known_end _ _ _ _ _) ⟨?_, Z⟩)
  first | (rw [e2]; rfl) | (exfalso; omega) | (exfalso; simp_all; done)
end Go.Proofs.YtfddkcmooommeaaGreatDoor.Gl
end
section
namespace Go.Proofs.YtfddkcmooommeaaGreatDoor.Gl
open Go.RowKit Go.Shelf
set_option linter.unusedVariables false
set_option linter.unnecessarySimpa false
set_option linter.unusedSimpArgs false
section
variable {H : Type} {enc : TypeId × Value → H} {P : Program} {w : World} {base : Nat} {spare : Nat → Bool} {held : Bool} {fuel : Nat} {t : TypeId} {cs : List Value} {x : DataW H × List MemPlace}
theorem trod_string (hu : P.underlying t = some .string) (h : DataW.trod enc P w base spare held fuel t cs = some x) : ∃ s : ByteArray, cs = [.string s] ∧ x.1 = .lit (.string s.data.toList) := by
 cases fuel with
 | zero => simp [DataW.trod] at h
 | succ fuel =>
  simp only [DataW.trod, hu] at h
  split at h <;> first | contradiction | skip
  all_goals simp_all
  all_goals first | (obtain ⟨_, rfl⟩ := h; rfl) | skip
theorem trod_int {k : IntKind} (hu : P.underlying t = some (.int k)) (h : DataW.trod enc P w base spare held fuel t cs = some x) : ∃ n : Int, cs = [.int k n] ∧ x.1 = .lit (.int k n) := by
 cases fuel with
 | zero => simp [DataW.trod] at h
 | succ fuel =>
  simp only [DataW.trod, hu] at h
  split at h <;> first | contradiction | skip
  all_goals simp_all
  all_goals first | (obtain ⟨_, rfl⟩ := h; rfl) | skip
theorem trod_struct {fs : Array Field} (hu : P.underlying t = some (.struct fs)) (h : DataW.trod enc P w base spare held fuel t cs = some x) : cs.length = P.cellsOf t ∧ ∃ (fuel' : Nat) (xs : List (DataW H × List MemPlace)), (fs.toList.mapM fun f => DataW.trod enc P w base spare held fuel' f.type ((cs.drop f.offset).take (P.cellsOf f.type))) = some xs ∧ x.1 = .agg (xs.map (·.1)) := by
 cases fuel with
 | zero => simp [DataW.trod] at h
 | succ fuel =>
  simp only [DataW.trod, hu] at h
  split at h <;> first | contradiction | skip
  all_goals simp_all
  all_goals (obtain ⟨xs, h2, h3⟩ := h; exact ⟨fuel, xs, h2, by rw [← h3]⟩)
theorem trod_array {n : Nat} {e : TypeId} (hu : P.underlying t = some (.array n e)) (h : DataW.trod enc P w base spare held fuel t cs = some x) : cs.length = P.cellsOf t ∧ ∃ (fuel' : Nat) (xs : List (DataW H × List MemPlace)), ((List.range n).mapM fun i => DataW.trod enc P w base spare held fuel' e ((cs.drop (i * P.cellsOf e)).take (P.cellsOf e))) = some xs ∧ x.1 = .agg (xs.map (·.1)) := by
 cases fuel with
 | zero => simp [DataW.trod] at h
 | succ fuel =>
  simp only [DataW.trod, hu] at h
  split at h <;> first | contradiction | skip
  all_goals simp_all
  all_goals (obtain ⟨xs, h2, h3⟩ := h; exact ⟨fuel, xs, h2, by rw [← h3]⟩)
theorem seg_app (cs : List Value) (o n m : Nat) : (cs.drop o).take (n + m) = (cs.drop o).take n ++ (cs.drop (o + n)).take m := by
 rw [List.take_add, List.drop_drop]
end
section
open _root_.Go.Proofs.YtfddkcmooommeaaGreatDoor.Rows
variable {H : Type} {enc : TypeId × Value → H} {w : World} {base : Nat} {spare : Nat → Bool} {held : Bool} {fuel : Nat} {cs : List Value} {x : DataW H × List MemPlace}
theorem c9 : Tryz.prog.cellsOf 9 = 1 := by kernel_rfl
theorem c33 : Tryz.prog.cellsOf 22 = 1 := by kernel_rfl
theorem c35 : Tryz.prog.cellsOf 24 = 3 := by kernel_rfl
theorem c37 : Tryz.prog.cellsOf 26 = 4 := by kernel_rfl
theorem c40 : Tryz.prog.cellsOf 28 = 12 := by kernel_rfl
theorem c41 : Tryz.prog.cellsOf 87 = 1 := by kernel_rfl
theorem c43 : Tryz.prog.cellsOf 89 = 21 := by kernel_rfl
theorem c44 : Tryz.prog.cellsOf 29 = 1 := by kernel_rfl
theorem trod_Tm (h : DataW.trod enc Tryz.prog w base spare held fuel 24 cs = some x) : ∃ t : Tm, cs = TmC t ∧ t.text.size ≤ uptoBulk x.1 ∧ t.ext.size ≤ uptoBulk x.1 := by
 obtain ⟨hl, f', xs, hm, hx⟩ := trod_struct Tryz.underlying24 h
 rw [c35] at hl
 simp only [List.mapM_cons, List.mapM_nil, c33, c9, Option.bind_eq_bind, Option.bind_eq_some_iff, Option.pure_def, Option.some.injEq] at hm
 obtain ⟨a, ha, _, ⟨b, hb, _, ⟨c, hc, _, rfl, rfl⟩, rfl⟩, rfl⟩ := hm
 obtain ⟨n, e1, d1⟩ := trod_int Tryz.underlying22 ha
 obtain ⟨s, e2, d2⟩ := trod_string Tryz.underlying9 hb
 obtain ⟨u, e3, d3⟩ := trod_string Tryz.underlying9 hc
 refine ⟨⟨n, s, u⟩, ?_, ?_, ?_⟩
 ·have e : cs = (cs.drop 0).take (1 + (1 + 1)) := by rw [List.drop_zero, List.take_of_length_le (by omega)]
  rw [e, seg_app, seg_app, e1, e2, e3]
  rfl
 ·rw [hx]
  simp [uptoBulk, uptoBulkAll, d1, d2, d3]
  have : s.data.size = s.size := rfl
  omega
 ·rw [hx]
  simp [uptoBulk, uptoBulkAll, d1, d2, d3]
  have : u.data.size = u.size := rfl
  omega
theorem bulk_agg (ps : List (DataW H)) : uptoBulk (.agg ps) = uptoBulkAll ps + 1 := by simp [uptoBulk]
theorem bulk_mem : ∀ (ps : List (DataW H)) (d : DataW H), d ∈ ps → uptoBulk d ≤ uptoBulkAll ps
 | [], d, h => by simp at h
 | p :: ps, d, h => by
  simp only [uptoBulkAll]
  rcases List.mem_cons.1 h with rfl | h
  ·omega
  ·have := bulk_mem ps d h; omega
theorem bulk_pos (d : DataW H) : 1 ≤ uptoBulk d := by
 cases d with
 | lit l => cases l <;> simp [uptoBulk]
 | _ => simp [uptoBulk]
theorem bulk_len : ∀ (ps : List (DataW H)), ps.length ≤ uptoBulkAll ps
 | [] => by simp [uptoBulkAll]
 | p :: ps => by have := bulk_len ps; have := bulk_pos p; simp only [uptoBulkAll, List.length_cons]; omega
theorem trod_Sl (hb : uptoBulk x.1 ≤ 1048576) (h : DataW.trod enc Tryz.prog w base spare held fuel 26 cs = some x) : ∃ s : Sl, cs = SlC s ∧ SlOk s := by
 obtain ⟨hl, f', xs, hm, hx⟩ := trod_struct Tryz.underlying26 h
 rw [c37] at hl
 simp only [List.mapM_cons, List.mapM_nil, c35, c9, Option.bind_eq_bind, Option.bind_eq_some_iff, Option.pure_def, Option.some.injEq] at hm
 obtain ⟨a, ha, _, ⟨b, hb2, _, rfl, rfl⟩, rfl⟩ := hm
 obtain ⟨s, e1, d1⟩ := trod_string Tryz.underlying9 ha
 obtain ⟨t, e2, b1, b2⟩ := trod_Tm hb2
 rw [hx, bulk_agg] at hb
 have m1 := bulk_mem (List.map (fun x => x.1) [a, b]) a.1 (by simp)
 have m2 := bulk_mem (List.map (fun x => x.1) [a, b]) b.1 (by simp)
 refine ⟨⟨s, t⟩, ?_, ?_, by simp only; omega, by simp only; omega⟩
 ·have e : cs = (cs.drop 0).take (1 + 3) := by rw [List.drop_zero, List.take_of_length_le (by omega)]
  rw [e, seg_app, e1, e2]
  rfl
 ·rw [d1] at m1
  simp only [uptoBulk] at m1
  have : s.data.toList.length = s.size := by rw [Array.length_toList]; rfl
  simp only
  omega
theorem trod_Pt (hb : uptoBulk x.1 ≤ 1048576) (h : DataW.trod enc Tryz.prog w base spare held fuel 28 cs = some x) : ∃ p : Pt, cs = PtC p ∧ PtOk p := by
 obtain ⟨hl, f', xs, hm, hx⟩ := trod_array Tryz.underlying28 h
 rw [c40] at hl
 rw [range3] at hm
 simp only [List.mapM_cons, List.mapM_nil, c37, Option.bind_eq_bind, Option.bind_eq_some_iff, Option.pure_def, Option.some.injEq] at hm
 obtain ⟨a, ha, _, ⟨b, hb2, _, ⟨c, hc, _, rfl, rfl⟩, rfl⟩, rfl⟩ := hm
 rw [hx, bulk_agg] at hb
 have m1 := bulk_mem (List.map (fun x => x.1) [a, b, c]) a.1 (by simp)
 have m2 := bulk_mem (List.map (fun x => x.1) [a, b, c]) b.1 (by simp)
 have m3 := bulk_mem (List.map (fun x => x.1) [a, b, c]) c.1 (by simp)
 obtain ⟨s0, e0, o0⟩ := trod_Sl (by omega) ha
 obtain ⟨s1, e1, o1⟩ := trod_Sl (by omega) hb2
 obtain ⟨s2, e2, o2⟩ := trod_Sl (by omega) hc
 refine ⟨⟨s0, s1, s2⟩, ?_, o0, o1, o2⟩
 have e : cs = (cs.drop 0).take (4 + (4 + 4)) := by rw [List.drop_zero, List.take_of_length_le (by omega)]
 rw [e, seg_app, seg_app, show cs.drop 0 = cs.drop (0 * 4) from rfl, e0, show (0 + 4) = 1 * 4 from rfl, e1, show (1 * 4 + 4) = 2 * 4 from rfl, e2]
 rfl
theorem trod_Lt (hb : uptoBulk x.1 ≤ 1048576) (h : DataW.trod enc Tryz.prog w base spare held fuel 89 cs = some x) : ∃ l : Lt, cs = LtC l ∧ LtOk l := by
 obtain ⟨hl, f', xs, hm, hx⟩ := trod_struct Tryz.underlying89 h
 rw [c43] at hl
 simp only [List.mapM_cons, List.mapM_nil, c41, c40, c37, Option.bind_eq_bind, Option.bind_eq_some_iff, Option.pure_def, Option.some.injEq] at hm
 obtain ⟨a, ha, _, ⟨b, hb2, _, ⟨c, hc, _, ⟨d, hd, _, rfl, rfl⟩, rfl⟩, rfl⟩, rfl⟩ := hm
 rw [hx, bulk_agg] at hb
 have m2 := bulk_mem (List.map (fun x => x.1) [a, b, c, d]) b.1 (by simp)
 have m3 := bulk_mem (List.map (fun x => x.1) [a, b, c, d]) c.1 (by simp)
 have m4 := bulk_mem (List.map (fun x => x.1) [a, b, c, d]) d.1 (by simp)
 obtain ⟨k, e0, d0⟩ := trod_int Tryz.underlying87 ha
 obtain ⟨p, e1, o1⟩ := trod_Pt (by omega) hb2
 obtain ⟨s, e2, o2⟩ := trod_Sl (by omega) hc
 obtain ⟨u, e3, o3⟩ := trod_Sl (by omega) hd
 refine ⟨⟨k, p, s, u⟩, ?_, o1, o2, o3⟩
 have e : cs = (cs.drop 0).take (1 + (12 + (4 + 4))) := by rw [List.drop_zero, List.take_of_length_le (by omega)]
 rw [e, seg_app, seg_app, seg_app, e0, e1, e2, e3]
 rfl
theorem list_choose {α : Type} (p : Nat → α → Prop) : ∀ n, (∀ i, i < n → ∃ a, p i a) → ∃ l : List α, l.length = n ∧ ∀ (i : Nat) a, l[i]? = some a → p i a
 | 0, _ => ⟨[], rfl, fun i a h => by simp at h⟩
 | n + 1, h => by
  obtain ⟨l, hl, hp⟩ := list_choose p n (fun i hi => h i (by omega))
  obtain ⟨a, ha⟩ := h n (by omega)
  refine ⟨l ++ [a], by simp [hl], fun i b hb => ?_⟩
  rcases Nat.lt_or_ge i l.length with hi | hi
  ·rw [List.getElem?_append_left hi] at hb
   exact hp i b hb
  ·have : i = n := by
    have := (List.getElem?_eq_some_iff.1 hb).1
    simp at this
    omega
   subst this
   rw [List.getElem?_append_right (by omega), hl, Nat.sub_self] at hb
   simp at hb
   subst hb
   exact ha
theorem trod_row {α : Type} {t e : TypeId} {sz : Nat} (C : α → List Value → Prop) (ht : Tryz.prog.underlying t = some (.slice e)) (hc : Tryz.prog.cellsOf e = sz) (hsz : 0 < sz) (hb : uptoBulk x.1 ≤ 1048576) (h : DataW.trod enc Tryz.prog w base spare held fuel t cs = some x)
  (hel : ∀ (n : Nat) (cs' : List Value) (y : DataW H × List MemPlace), uptoBulk y.1 ≤ 1048576 → DataW.trod enc Tryz.prog w base spare held n e cs' = some y → ∃ a, C a cs') :
  ∃ (A : Option Addr) (as_ : List α) (c : Nat), cs = [.slice A as_.length c] ∧ as_.length ≤ c ∧ c ≤ 9223372036854775807 ∧ as_.length ≤ 1048576 ∧ RowAt w [] sz C A as_ := by
 rcases Go.Deep.open_slice ht h with ⟨rfl, _⟩ | ⟨a, len, cap, m, n, D, Pl, rfl, _, hl, hm, hmm, hx, hall⟩
 ·exact ⟨Option.none, [], 0, rfl, by simp, by omega, by simp, fun i y hy => by simp at hy⟩
 ·have hlm : len ≤ m := by rw [hmm]; split <;> omega
  have hx1 : x.1 = .slice ((List.range len).map D) ((List.range (m - len)).map fun j => D (len + j)) := by rw [hx]
  rw [hx1] at hb
  simp only [uptoBulk] at hb
  have hlen := bulk_len ((List.range len).map D)
  rw [List.length_map, List.length_range] at hlen
  obtain ⟨l, hl2, hp⟩ := list_choose (fun i y => ∃ cs', w.cells? base (a.add (i * sz)) sz = some cs' ∧ C y cs') len (fun i hi => by
   obtain ⟨cs', h1, h2⟩ := hall i (by omega)
   rw [hc] at h1
   have hbi := bulk_mem ((List.range len).map D) (D i) (List.mem_map.2 ⟨i, List.mem_range.2 hi, rfl⟩)
   obtain ⟨y, hy⟩ := hel n cs' (D i, Pl i) (by simp only; omega) h2
   exact ⟨y, cs', h1, hy⟩)
  subst hl2
  refine ⟨some a, l, cap, rfl, hl, hm, by omega, fun i y hy => ?_⟩
  obtain ⟨cs', h1, h2⟩ := hp i y hy
  obtain ⟨_, hlen2, hcell⟩ := World.cells?_some h1
  have hspot : a.spot = Option.none := by
   have hil : 0 < l.length := by have := (List.getElem?_eq_some_iff.1 hy).1; omega
   obtain ⟨cs0, g1, g2⟩ := hp 0 l[0] (List.getElem?_eq_getElem hil)
   obtain ⟨_, glen, gcell⟩ := World.cells?_some g1
   have h0 := gcell 0 (by omega)
   rw [List.getElem?_eq_getElem (by omega)] at h0
   have := World.cell?_spot h0
   rw [Nat.zero_mul] at this
   simpa [Addr.add] using this
  obtain ⟨b, o, sp⟩ := a
  simp only at hspot
  subst hspot
  refine ⟨b, o, cs', rfl, h2, fun j v hv => .old ?_⟩
  have hj : j < sz := by rw [← hlen2]; exact (List.getElem?_eq_some_iff.1 hv).1
  have := hcell j hj
  rw [hv, add_none, add_none] at this
  exact this
theorem row_all {α : Type} {sz : Nat} {C : α → List Value → Prop} {ok : α → Prop} {G : Hp} {A : Option Addr} {xs : List α} (h : RowAt w G sz (fun a c => C a c ∧ ok a) A xs) : RowAt w G sz C A xs ∧ ∀ a ∈ xs, ok a :=
 ⟨fun i a hi => by obtain ⟨b, o, cs, h1, h2, h3⟩ := h i a hi; exact ⟨b, o, cs, h1, h2.1, h3⟩, fun a ha => by
  obtain ⟨i, hi, rfl⟩ := List.mem_iff_getElem.1 ha
  obtain ⟨b, o, cs, h1, h2, h3⟩ := h i _ (List.getElem?_eq_getElem hi)
  exact h2.2⟩
end
end Go.Proofs.YtfddkcmooommeaaGreatDoor.Gl
end
section
namespace Go.Proofs.YtfddkcmooommeaaGreatDoor.Gl
open Go.ChangeShapes Go.WideShapes Go.ChangeAt Go.RowKit Go.Lib
set_option linter.unusedVariables false
set_option linter.unnecessarySimpa false
set_option linter.unusedSimpArgs false
theorem laidOut : laidOutB Tryz.prog = true := by kernel_rfl
theorem sat_self (W : World) : Sat W [] W :=
 ⟨Below.refl _ _, fun _ _ h => by simp at h, by simp, fun b o hb h => by rw [Array.getElem?_eq_none hb] at h; cases h⟩
theorem post_old {H : Type} {enc : TypeId × Value → H} {P : Program} {f : Func} {s : ChangeSpec} {apart fresh handsOn again : Bool} {W W' : World} {args : Array Value} {v : Value} {ds gs : List (DataW H)} {before pa pv : List MemPlace}
  (hW : DataW.Whole enc P f.params.toList s.vars apart W args.toList ds gs before)
  (hres : ∀ (b : Nat) (sp : Nat → Bool) (hd : Bool), DataW.TrodAll enc P W' b sp hd f.resultTypes.toList (v.resultList f.resultTypes.size) (s.fn H (ds ++ gs)).results [])
  (hargs : ∀ sp : Nat → Bool, (∀ p ∈ before, sp p.block = true) → DataW.TrodAll enc P W' 0 sp true f.params.toList args.toList (s.fn H (ds ++ gs)).args pa)
  (hvars : ∀ sp : Nat → Bool, (∀ p ∈ before, sp p.block = true) → DataW.TrodVars enc P W' sp s.vars (s.fn H (ds ++ gs)).vars pv)
  (hps : before = pa ++ pv) (hb : Below W.heap.size W W')
  (hok : ∀ (j : Nat) (t : TypeId) (r : Value), f.resultTypes[j]? = some t → (v.resultList f.resultTypes.size)[j]? = some r → Value.okWide P W' .any 0 t r) :
  s.post enc P f apart fresh handsOn again W args v W' := by
 have hold : ∀ p ∈ before, (fun b => decide (b < W.heap.size)) p.block = true := fun p hp => by simpa using hW.lt p hp
 have hkeep : W.keptBut W' (· ∈ before) := hb.frame _
 refine ⟨ds, gs, before, [], pa, pv, hW, hres _ _ _, hargs _ hold, hvars _ hold, World.keptBut_mono (fun p hp => ⟨hp, .inr (by rw [hps, List.mem_append] at hp; exact hp)⟩) hkeep, fun _ => ?_⟩
 have hlt := hW.lt
 obtain ⟨_, _, _, _, _, hz, hn⟩ := hW
 have e0 : ([] ++ pa) ++ pv = before := by rw [List.nil_append]; exact hps.symm
 refine ⟨hok, _, _, ([] ++ pa) ++ pv, ⟨[] ++ pa, pv, trodAll_append (hargs _ (fun _ _ => rfl)) (hres _ _ _), hvars _ (fun _ _ => rfl), rfl, fun b off hp => ?_, fun ha => ?_⟩, fun p hp _ => ?_⟩
 ·rw [e0] at hp
  have hl : b < W.heap.size := hlt _ hp
  exact (hb.frozen hl).trans (hz b off hp)
 ·have := hn ha
  rw [← e0] at this
  exact this
 ·rw [e0] at hp
  exact hp
theorem calls_of_GC {W : World} {f : FuncId} {args : Array Value} {R : Value → Hp → Prop} (h : GC Tryz.prog W f args R []) : Calls Tryz.prog f args W fun e W' => ∃ v G', e = .returned v ∧ Sat W G' W' ∧ R v G' :=
 (callsIn_wide (n := 0)).1 (h.2 0 W (sat_self W))
theorem agg_of {cs : Array Value} {l : List Value} (h : (Value.agg cs).cells.toList = l) : Value.agg cs = .agg l.toArray := by
 have : cs.toList = l := h
 rw [← this]
theorem ownK : ownKnob Tryz.prog.godebug = Option.none := by kernel_rfl
noncomputable def laidWorld (os : Os) : World :=
 let w0 := World.holding Tryz.prog os ⟨#[], #[], []⟩
 let put (h : Array Obj) (g : Nat) (cs : Array Value) : Array Obj := h.modify g fun
  | .cells _ t frozen => .cells cs t frozen
  | o => o
 let h1 := put w0.heap 1 (Lib.firstTab.map fun z => Value.int .u8 z).toArray
 let h2 := put h1 2 ((List.range 16).flatMap fun i => [Value.int .u8 (Lib.accLo i), Value.int .u8 (Lib.accHi i)]).toArray
 { w0 with heap := h2 }
theorem laid_met (os : Os) (args : Array Value) : laidMet Tryz.prog Rows.planFullUptoRow.laid ((laidWorld os).forCall (fun _ _ => 0) ⟨#[], args, []⟩).memory :=
 (LaidIn.of_run (l := [("unicode/utf8.acceptRanges", Rows.laid_unicode_utf8_acceptRanges), ("unicode/utf8.first", Rows.laid_unicode_utf8_first)]) [2, 1] 8 (by kernel_rfl) (by kernel_rfl) (by kernel_rfl) (by kernel_rfl)).met
theorem trod_Zs {w : World} {H : Type} {enc : TypeId × Value → H} {base : Nat} {spare : Nat → Bool} {held : Bool} {fuel : Nat} {cs : List Value} {x : DataW H × List MemPlace} (hb : Rows.uptoBulk x.1 ≤ 1048576) (h : DataW.trod enc Tryz.prog w base spare held fuel 32 cs = some x) :
  ∃ (A : Option Addr) (zs : List Int) (c : Nat), cs = [.slice A zs.length c] ∧ zs.length ≤ c ∧ c ≤ 9223372036854775807 ∧ zs.length ≤ 1048576 ∧ IntsAt w [] A zs :=
 trod_row (sz := 1) (fun z cs => cs = [.int .i64 z]) Tryz.underlying32 (by kernel_rfl) (by omega) hb h (fun n cs' y _ hz => by
  obtain ⟨z, e, _⟩ := trod_int Tryz.underlying3 hz
  exact ⟨z, e⟩)
end Go.Proofs.YtfddkcmooommeaaGreatDoor.Gl
end
section
namespace Go.Proofs.YtfddkcmooommeaaGreatDoor.Gl
open Go.RowKit Go.Shelf
set_option linter.unusedVariables false
set_option linter.unnecessarySimpa false
set_option linter.unusedSimpArgs false
attribute [-simp] List.getD_eq_getElem?_getD
section
variable {X : Cx} {Q : Post} {fr : Fr} {ds : List Deferred} {G : Hp} {ops : Array Oper} {o : Oper} {rest : List Oper} {d : Nat}
theorem R.lookupOk {t kt et : TypeId} {kd : TypeDesc} {m k : Operand} {b : Nat} {key z v : Value} {es : Array MapEntry} {clock : Nat} {r : Option (Nat × Value)} (h : At X ops fr o (.lookup t m k true) d) (hm : evO fr m = some (.map (some b))) (hk : evO fr k = some key)
  (hu : X.P.underlying t = some (.map kt et)) (hkt : X.P.underlying kt = some kd) (he : easyKey kd = true) (hz : ∀ w, (zeroValue et).run X.P w = .ok z w) (hG : (b, Know.exact (.map es clock)) ∈ G) (hf : Instr.findNow kd key es.toList 0 = some r) (hv : hit z r = v)
  (K : GOps X ops Q rest ((d, .tuple #[v, .bool r.isSome]) :: fr) ds G) : GOps X ops Q (o :: rest) fr ds G := by
 subst hv
 exact R.val h (by simp) (fun ρ w hρ hw => by
  have hg := (hw.own b _ hG).2
  cases r with
  | none =>
   simp only [execOp, h.op, hρ _ _ hm, hρ _ _ hk, Instr.lookup, Sem.run_bind, run_und hu, Result.andThen_ok, run_getMap hg, run_checkKey_easy hkt he, run_findKey hkt hf, Sem.run_pure, hz w]
   rfl
  | some p =>
   obtain ⟨i, u⟩ := p
   simp only [execOp, h.op, hρ _ _ hm, hρ _ _ hk, Instr.lookup, Sem.run_bind, run_und hu, Result.andThen_ok, run_getMap hg, run_checkKey_easy hkt he, run_findKey hkt hf, Sem.run_pure]
   rfl) K
theorem V.addS {t u : TypeId} {x y : Operand} {m n : ByteArray} (h : At X ops fr o (.binOp .add t x y u) d) (hx : evO fr x = some (.string m)) (hy : evO fr y = some (.string n)) (hz : m.size + n.size ≤ 9223372036854775807) : GV X ops fr G o d (.string (m ++ n)) :=
 V.bin h hx hy (fun w _ => by rw [Sem.run_bind, run_guard_string]; simp [binOp, Op.stringOp]; omega)
end
def shortM : Array MapEntry := #[{ key := .int .u8 34, val := .int .u8 34, born := 0 }, { key := .int .u8 92, val := .int .u8 92, born := 1 }, { key := .int .u8 8, val := .int .u8 98, born := 2 }, { key := .int .u8 9, val := .int .u8 116, born := 3 }, { key := .int .u8 10, val := .int .u8 110, born := 4 }, { key := .int .u8 12, val := .int .u8 102, born := 5 }, { key := .int .u8 13, val := .int .u8 114, born := 6 }]
theorem short_hit {c : Nat} (h : c < 256) : ∃ r x, Instr.findNow (.int .u8) (.int .u8 (c : Int)) shortM.toList 0 = some r ∧ hit (.int .u8 0) r = .int .u8 ((x : Nat) : Int) := by
 have hd : ∀ c : Fin 256, (match Instr.findNow (.int .u8) (.int .u8 (c.val : Int)) shortM.toList 0 with
  | some r => (match hit (.int .u8 0) r with
   | .int .u8 x => decide (0 ≤ x)
   | _ => false)
  | none => false) = true := by decide +kernel
 have := hd ⟨c, h⟩
 simp only at this
 split at this
 ·rename_i r hr
  split at this
  ·rename_i x hx
   rw [decide_eq_true_eq] at this
   exact ⟨r, x.toNat, hr, by rw [hx, Int.toNat_of_nonneg this]⟩
  ·cases this
 ·cases this
theorem u8_snoc {a b : List Nat} {v : Value} {H : Hp} {n : Nat} (h : SlAt 1 5 (u8C a ++ u8C b) (a.length + n) v H) (hn : n = b.length := by rfl) : SlAt 1 5 (u8C (a ++ b)) (a ++ b).length v H := by
 subst hn
 rw [u8C_app, List.length_append]
 exact h
theorem strOf_size (l : List Nat) : (strOf l).size = l.length := by
 show (strOf l).data.size = _
 simp [strOf]
theorem written_in {b9 b11 : Nat} {es : Array MapEntry} {C : Array Value} {n : Nat} (hC : C = (u8C [34]).toArray) (hn : n = 7) (G : Hp) : Hs ((b11, .exact (.cells C 5 (0, 0))) :: (b9, .exact (.map es n)) :: G) ((b9, .exact (.map es 7)) :: ([(b11, .row (u8C [34]) 5 (1 * 1))] ++ G)) := by
 subst hC hn
 exact (toRow (b := b11) (cs := u8C [34]) ((b9, .exact (.map es 7)) :: G) rfl).trans (Hs.perm (List.Perm.swap _ _ _))
theorem Hs.wrEnd (x y z : Nat × Know) (G : Hp) : Hs (x :: y :: ([z] ++ G)) G := Hs.tl3 x y z
theorem shr4 (n : Nat) : (n : Int).fdiv (2 ^ (min (4 : Int).toNat IntKind.u8.bits)) = ((n / 16 : Nat) : Int) := by
 rw [Int.fdiv_eq_ediv_of_nonneg _ (by decide)]
 rfl
theorem digit_at (i : Nat) (h : i < 16) : ∃ c : Nat, (bs ⟨#[48, 49, 50, 51, 52, 53, 54, 55, 56, 57, 65, 66, 67, 68, 69, 70]⟩)[((i : Nat) : Int).toNat]? = some c := by
 have hd : ∀ i : Fin 16, ((bs ⟨#[48, 49, 50, 51, 52, 53, 54, 55, 56, 57, 65, 66, 67, 68, 69, 70]⟩)[i.val]?).isSome = true := by decide +kernel
 exact Option.isSome_iff_exists.1 (hd ⟨i, h⟩)
theorem term_written (w0 : World) (G : Hp) (s : ByteArray) (hs : s.size ≤ 1048576) : GC Tryz.prog w0 158 #[.string s] (fun v G' => ∃ u : ByteArray, v = .string u ∧ u.size ≤ 6 * s.size + 2 ∧ G = G') G := by
 refine GC.body (args := [.string s]) Tryz.func158 rfl (by kernel_rfl) rfl ?_
 refine GW.seq ?_
 refine GW.region ?_
 refine R.assign ⟨Z,Z,Z,Z⟩ Z ?_
 refine GOps.nil ?_
 refine GW.seq ?_
 refine GW.region ?_
 refine R.makeMap ⟨Z,Z,Z,Z⟩ fun b9 => ?_
 refine R.putNew (G1 := []) (.inr Z) Z Z Z Z Z Tryz.underlying214 Tryz.underlying5 Z Z (Z) ?_
 refine R.putNew (G1 := []) (.inr Z) Z Z Z Z Z Tryz.underlying214 Tryz.underlying5 Z Z (Z) ?_
 refine R.putNew (G1 := []) (.inr Z) Z Z Z Z Z Tryz.underlying214 Tryz.underlying5 Z Z (Z) ?_
 refine R.putNew (G1 := []) (.inr Z) Z Z Z Z Z Tryz.underlying214 Tryz.underlying5 Z Z (Z) ?_
 refine R.putNew (G1 := []) (.inr Z) Z Z Z Z Z Tryz.underlying214 Tryz.underlying5 Z Z (Z) ?_
 refine R.putNew (G1 := []) (.inr Z) Z Z Z Z Z Tryz.underlying214 Tryz.underlying5 Z Z (Z) ?_
 refine R.putNew (G1 := []) (.inr Z) Z Z Z Z Z Tryz.underlying214 Tryz.underlying5 Z Z (Z) ?_
 refine R.move ⟨Z,Z,Z,Z⟩ Z ?_
 refine R.assign ⟨Z,Z,Z,Z⟩ Z ?_
 refine GOps.nil ?_
 refine GW.seq ?_
 refine GW.region ?_
 refine R.buildSliceF (sz := 1) (bytes := 1) (vs := [_]) (cs := u8C [34]) ⟨Z,Z,Z,Z⟩ Z Tryz.underlying101 (InfoE.mk (by kernel_rfl)) Z Z Z Z Z fun b11 => ?_
 refine R.assign ⟨Z,Z,Z,Z⟩ Z ?_
 refine GOps.nil ?_
 refine GW.seq ?_
 refine GW.seq ?_
 refine GW.region ?_
 refine R.move ⟨Z,Z,Z,Z⟩ Z ?_
 refine R.lenStr ⟨Z,Z,Z,Z⟩ Z Z Tryz.underlying9 ?_
 refine R.move ⟨Z,Z,Z,Z⟩ Z ?_
 refine GOps.nil ?_
 refine GW.block ?_
 refine GW.loop4 (fun (i : Nat) (a : List Nat) (h : Value × Hp) (u1 : Unit) => [(0, .string s), (3, .map (some b9)), (4, h.1), (13, .int .i64 s.size), (14, .int .i64 i)]) (fun (i : Nat) (a : List Nat) (h : Value × Hp) (u1 : Unit) => (b9, .exact (.map shortM 7)) :: (h.2 ++ G)) (fun i : Nat => s.size - i) (fun (i : Nat) (a : List Nat) (h : Value × Hp) (u1 : Unit) => i ≤ s.size ∧ a.length ≤ 6 * i + 1 ∧ SlAt 1 5 (u8C (a)) (a).length h.1 h.2) 0 ([34]) ((.slice (some ⟨b11, 0, none⟩) 1 1, [(b11, .row (u8C [34]) 5 (1 * 1))])) (())
  (keepG) (written_in rfl rfl _) (⟨Nat.zero_le _, by simp, SlAt.row b11 1 rfl (Nat.le_refl _)⟩) ?_
 rintro i a h u1 ⟨hi, ha, hO⟩
 obtain ⟨vo, Ho⟩ := h
 simp only at hO
 refine GW.seq ?_
 refine GW.region ?_
 refine R.lss ⟨Z,Z,Z,Z⟩ Z Z ?_
 refine GOps.nil ?_
 refine GW.seq ?_
 refine GW.ite Z (fun hc1 => ?_) (fun hc1 => ?_)
 ·try simp only [dcQ] at hc1
  refine GW.skip ?_
  refine GW.seq ?_
  refine GW.block ?_
  refine GW.seq ?_
  refine GW.region ?_
  refine R.move ⟨Z,Z,Z,Z⟩ Z ?_
  refine R.assign ⟨Z,Z,Z,Z⟩ Z ?_
  refine GOps.nil ?_
  refine GW.seq ?_
  refine GW.region ?_
  refine R.move ⟨Z,Z,Z,Z⟩ Z ?_
  refine R.move ⟨Z,Z,Z,Z⟩ Z ?_
  refine R.indexStrA ⟨Z,Z,Z,Z⟩ Z Z Tryz.underlying9 (by omega) (by omega) fun c1 hx1 hb1 => ?_   -- "term.go:110" ['t17', 't18']
  refine R.assign ⟨Z,Z,Z,Z⟩ Z ?_
  refine GOps.nil ?_
  refine GW.seq ?_
  refine GW.region ?_
  refine R.move ⟨Z,Z,Z,Z⟩ Z ?_
  refine R.move ⟨Z,Z,Z,Z⟩ Z ?_
  ·obtain ⟨r, x, hr, hx2⟩ := short_hit hb1
   obtain ⟨d1, hd1⟩ := digit_at (c1 / 16) (by omega)
   obtain ⟨d2, hd2⟩ := digit_at (c1 % 16) (by omega)
   refine R.lookupOk (r := _) (v := _) ⟨Z,Z,Z,Z⟩ Z Z Tryz.underlying214 Tryz.underlying5 Z Tryz.zeroValue5 memH (hr) (hx2) ?_
   refine R.move ⟨Z,Z,Z,Z⟩ Z ?_
   refine R.extract ⟨Z,Z,Z,Z⟩ Z Z ?_
   refine R.extract ⟨Z,Z,Z,Z⟩ Z Z ?_
   refine R.assign ⟨Z,Z,Z,Z⟩ Z ?_
   refine R.assign ⟨Z,Z,Z,Z⟩ Z ?_
   refine GOps.nil ?_
   refine GW.block ?_
   refine GW.seq ?_
   refine GW.region ?_
   refine R.move ⟨Z,Z,Z,Z⟩ Z ?_
   refine R.assign ⟨Z,Z,Z,Z⟩ Z ?_
   refine GOps.nil ?_
   refine GW.ite Z (fun hc2 => ?_) (fun hc2 => ?_)
   ·try simp only [dcQ] at hc2
    refine GW.region ?_
    refine R.move ⟨Z,Z,Z,Z⟩ Z ?_
    refine R.move ⟨Z,Z,Z,Z⟩ Z ?_
    refine R.buildSliceF (sz := 1) (bytes := 1) (vs := [_, _]) (cs := u8C [92, x]) ⟨Z,Z,Z,Z⟩ Z Tryz.underlying101 (InfoE.mk (by kernel_rfl)) Z Z Z Z Z fun b34 => ?_
    refine R.append (sz := 1) (bytes := 1) (G1 := [_, _]) (H := Ho) (news := u8C [92, x]) ⟨Z,Z,Z,Z⟩ Z Z Z Tryz.underlying101 (InfoE.mk (by kernel_rfl)) (hO) (Z) (Z) (.own memH 0 _ (fun j v hv => by simpa using hv)) (by omega) (by rfl) (by omega) (by omega) fun v35 H35 hv35 => ?_
    obtain ⟨A35, c35, rfl, hc35⟩ := hv35.split
    refine R.assign ⟨Z,Z,Z,Z⟩ Z ?_
    refine GOps.nil ?_
    refine GW.region ?_
    refine R.add (r := (((i + 1) : Nat) : Int)) ⟨Z,Z,Z,Z⟩ Z Z (by rw [wrap64_id (by omega) (by omega)]; omega) ?_
    refine R.move ⟨Z,Z,Z,Z⟩ Z ?_
    refine GOps.nil ?_
    first | exact ⟨i + 1, a ++ [92, x], (.slice A35 _ c35, H35), (), by omega, ⟨by omega, by rw [List.length_append]; simp; omega, u8_snoc hv35⟩, rfl, keepG, Hs.tl _⟩ | exact ⟨i + 1, a ++ [92, 117, 48, 48, d1, d2], (.slice A51 _ c51, H51), (), by omega, ⟨by omega, by rw [List.length_append]; simp; omega, u8_snoc hv51⟩, rfl, keepG, Hs.tl _⟩ | exact ⟨i + 1, a ++ [c1], (.slice A29 _ c29, H29), (), by omega, ⟨by omega, by rw [List.length_append]; simp; omega, u8_snoc hv29⟩, rfl, keepG, Hs.tl _⟩
   ·try simp only [dcQ] at hc2
    refine GW.seq ?_
    refine GW.region ?_
    refine R.move ⟨Z,Z,Z,Z⟩ Z ?_
    refine R.lss ⟨Z,Z,Z,Z⟩ Z Z ?_
    refine R.move ⟨Z,Z,Z,Z⟩ Z ?_
    refine GOps.caseB 39 Z (fun hg3 => ?_) (fun hg3 => ?_)
    ·try simp only [dcQ] at hg3
     refine GOps.skip Z Z Z ?_
     refine GOps.skip Z Z Z ?_
     refine R.pick_t ⟨Z,Z,Z,Z⟩ Z Z ?_
     refine R.assign ⟨Z,Z,Z,Z⟩ Z ?_
     refine GOps.nil ?_
     refine GW.cond_t Z ?_
     refine GW.draw ([]) 10 Z (by kernel_rfl) ?_
     refine GA.w 0 Z (V.move ⟨Z,Z,Z,Z⟩ Z) Z ?_
     refine GA.w 1 Z (V.move ⟨Z,Z,Z,Z⟩ Z) Z ?_
     refine GA.val 2 Z (V.shr (r := ((c1 / 16 : Nat) : Int)) ⟨Z,Z,Z,Z⟩ Z Z (by omega) (shr4 _)) Z (by kernel_rfl) (by kernel_rfl) (by kernel_rfl) ?_
     refine GA.val 3 Z (V.indexStr ⟨Z,Z,Z,Z⟩ Z Z Tryz.underlying9 (by omega) (by first | exact hd1 | exact hd2)) Z (by kernel_rfl) (by kernel_rfl) (by kernel_rfl) ?_   -- "term.go:115" ['const', 't45']
     refine GA.w 4 Z (V.move ⟨Z,Z,Z,Z⟩ Z) Z ?_
     refine GA.val 5 Z (V.and (r := ((c1 % 16 : Nat) : Int)) ⟨Z,Z,Z,Z⟩ Z Z (Go.u8_and15 _ (by omega) (by omega))) Z (by kernel_rfl) (by kernel_rfl) (by kernel_rfl) ?_
     refine GA.val 6 Z (V.indexStr ⟨Z,Z,Z,Z⟩ Z Z Tryz.underlying9 (by omega) (by first | exact hd1 | exact hd2)) Z (by kernel_rfl) (by kernel_rfl) (by kernel_rfl) ?_   -- "term.go:115" ['const', 't48']
     refine GA.one 7 (by first | exact Hs.sub (List.nil_sublist _) | exact Hs.refl _ | exact Hs.tl _ | exact Hs.tl2 _ _ | exact Hs.tl3 _ _ _ | exact Hs.app _ | exact Hs.sub (by simp)) (by kernel_rfl) Z ?_
     refine R.buildSliceF (sz := 1) (bytes := 1) (vs := [_, _, _, _, _, _]) (cs := u8C [92, 117, 48, 48, d1, d2]) ⟨Z,Z,Z,Z⟩ Z Tryz.underlying101 (InfoE.mk (by kernel_rfl)) Z Z Z Z Z fun b50 => ?_
     refine GOps.nil ?_
     refine GA.one 8 (by first | exact Hs.sub (List.nil_sublist _) | exact Hs.refl _ | exact Hs.tl _ | exact Hs.tl2 _ _ | exact Hs.tl3 _ _ _ | exact Hs.app _ | exact Hs.sub (by simp)) (by kernel_rfl) Z ?_
     refine R.append (sz := 1) (bytes := 1) (G1 := [_, _]) (H := Ho) (news := u8C [92, 117, 48, 48, d1, d2]) ⟨Z,Z,Z,Z⟩ Z Z Z Tryz.underlying101 (InfoE.mk (by kernel_rfl)) (hO) (Z) (Z) (.own memH 0 _ (fun j v hv => by simpa using hv)) (by omega) (by rfl) (by omega) (by omega) fun v51 H51 hv51 => ?_
     obtain ⟨A51, c51, rfl, hc51⟩ := hv51.split
     refine GOps.nil ?_
     refine GA.w 9 Z (V.assign ⟨Z,Z,Z,Z⟩ Z) Z ?_
     refine GA.done (by first | exact Hs.sub (List.nil_sublist _) | exact Hs.refl _ | exact Hs.tl _ | exact Hs.tl2 _ _ | exact Hs.tl3 _ _ _ | exact Hs.app _ | exact Hs.sub (by simp)) (by kernel_rfl) ?_
     refine GW.region ?_
     refine R.add (r := (((i + 1) : Nat) : Int)) ⟨Z,Z,Z,Z⟩ Z Z (by rw [wrap64_id (by omega) (by omega)]; omega) ?_
     refine R.move ⟨Z,Z,Z,Z⟩ Z ?_
     refine GOps.nil ?_
     first | exact ⟨i + 1, a ++ [92, x], (.slice A35 _ c35, H35), (), by omega, ⟨by omega, by rw [List.length_append]; simp; omega, u8_snoc hv35⟩, rfl, keepG, Hs.tl _⟩ | exact ⟨i + 1, a ++ [92, 117, 48, 48, d1, d2], (.slice A51 _ c51, H51), (), by omega, ⟨by omega, by rw [List.length_append]; simp; omega, u8_snoc hv51⟩, rfl, keepG, Hs.tl _⟩ | exact ⟨i + 1, a ++ [c1], (.slice A29 _ c29, H29), (), by omega, ⟨by omega, by rw [List.length_append]; simp; omega, u8_snoc hv29⟩, rfl, keepG, Hs.tl _⟩
    ·try simp only [dcQ] at hg3
     refine R.move ⟨Z,Z,Z,Z⟩ Z ?_
     refine R.eqI ⟨Z,Z,Z,Z⟩ Z Z ?_
     refine R.pick_f ⟨Z,Z,Z,Z⟩ Z Z ?_
     refine R.assign ⟨Z,Z,Z,Z⟩ Z ?_
     refine GOps.nil ?_
     refine GW.ite Z (fun hc4 => ?_) (fun hc4 => ?_)
     ·try simp only [dcQ] at hc4
      refine GW.draw ([]) 10 Z (by kernel_rfl) ?_
      refine GA.w 0 Z (V.move ⟨Z,Z,Z,Z⟩ Z) Z ?_
      refine GA.w 1 Z (V.move ⟨Z,Z,Z,Z⟩ Z) Z ?_
      refine GA.val 2 Z (V.shr (r := ((c1 / 16 : Nat) : Int)) ⟨Z,Z,Z,Z⟩ Z Z (by omega) (shr4 _)) Z (by kernel_rfl) (by kernel_rfl) (by kernel_rfl) ?_
      refine GA.val 3 Z (V.indexStr ⟨Z,Z,Z,Z⟩ Z Z Tryz.underlying9 (by omega) (by first | exact hd1 | exact hd2)) Z (by kernel_rfl) (by kernel_rfl) (by kernel_rfl) ?_   -- "term.go:115" ['const', 't45']
      refine GA.w 4 Z (V.move ⟨Z,Z,Z,Z⟩ Z) Z ?_
      refine GA.val 5 Z (V.and (r := ((c1 % 16 : Nat) : Int)) ⟨Z,Z,Z,Z⟩ Z Z (Go.u8_and15 _ (by omega) (by omega))) Z (by kernel_rfl) (by kernel_rfl) (by kernel_rfl) ?_
      refine GA.val 6 Z (V.indexStr ⟨Z,Z,Z,Z⟩ Z Z Tryz.underlying9 (by omega) (by first | exact hd1 | exact hd2)) Z (by kernel_rfl) (by kernel_rfl) (by kernel_rfl) ?_   -- "term.go:115" ['const', 't48']
      refine GA.one 7 (by first | exact Hs.sub (List.nil_sublist _) | exact Hs.refl _ | exact Hs.tl _ | exact Hs.tl2 _ _ | exact Hs.tl3 _ _ _ | exact Hs.app _ | exact Hs.sub (by simp)) (by kernel_rfl) Z ?_
      refine R.buildSliceF (sz := 1) (bytes := 1) (vs := [_, _, _, _, _, _]) (cs := u8C [92, 117, 48, 48, d1, d2]) ⟨Z,Z,Z,Z⟩ Z Tryz.underlying101 (InfoE.mk (by kernel_rfl)) Z Z Z Z Z fun b50 => ?_
      refine GOps.nil ?_
      refine GA.one 8 (by first | exact Hs.sub (List.nil_sublist _) | exact Hs.refl _ | exact Hs.tl _ | exact Hs.tl2 _ _ | exact Hs.tl3 _ _ _ | exact Hs.app _ | exact Hs.sub (by simp)) (by kernel_rfl) Z ?_
      refine R.append (sz := 1) (bytes := 1) (G1 := [_, _]) (H := Ho) (news := u8C [92, 117, 48, 48, d1, d2]) ⟨Z,Z,Z,Z⟩ Z Z Z Tryz.underlying101 (InfoE.mk (by kernel_rfl)) (hO) (Z) (Z) (.own memH 0 _ (fun j v hv => by simpa using hv)) (by omega) (by rfl) (by omega) (by omega) fun v51 H51 hv51 => ?_
      obtain ⟨A51, c51, rfl, hc51⟩ := hv51.split
      refine GOps.nil ?_
      refine GA.w 9 Z (V.assign ⟨Z,Z,Z,Z⟩ Z) Z ?_
      refine GA.done (by first | exact Hs.sub (List.nil_sublist _) | exact Hs.refl _ | exact Hs.tl _ | exact Hs.tl2 _ _ | exact Hs.tl3 _ _ _ | exact Hs.app _ | exact Hs.sub (by simp)) (by kernel_rfl) ?_
      refine GW.region ?_
      refine R.add (r := (((i + 1) : Nat) : Int)) ⟨Z,Z,Z,Z⟩ Z Z (by rw [wrap64_id (by omega) (by omega)]; omega) ?_
      refine R.move ⟨Z,Z,Z,Z⟩ Z ?_
      refine GOps.nil ?_
      first | exact ⟨i + 1, a ++ [92, x], (.slice A35 _ c35, H35), (), by omega, ⟨by omega, by rw [List.length_append]; simp; omega, u8_snoc hv35⟩, rfl, keepG, Hs.tl _⟩ | exact ⟨i + 1, a ++ [92, 117, 48, 48, d1, d2], (.slice A51 _ c51, H51), (), by omega, ⟨by omega, by rw [List.length_append]; simp; omega, u8_snoc hv51⟩, rfl, keepG, Hs.tl _⟩ | exact ⟨i + 1, a ++ [c1], (.slice A29 _ c29, H29), (), by omega, ⟨by omega, by rw [List.length_append]; simp; omega, u8_snoc hv29⟩, rfl, keepG, Hs.tl _⟩
     ·try simp only [dcQ] at hc4
      refine GW.region ?_
      refine R.move ⟨Z,Z,Z,Z⟩ Z ?_
      refine R.move ⟨Z,Z,Z,Z⟩ Z ?_
      refine R.buildSliceF (sz := 1) (bytes := 1) (vs := [_]) (cs := u8C [c1]) ⟨Z,Z,Z,Z⟩ Z Tryz.underlying101 (InfoE.mk (by kernel_rfl)) Z Z Z Z Z fun b28 => ?_
      refine R.append (sz := 1) (bytes := 1) (G1 := [_, _]) (H := Ho) (news := u8C [c1]) ⟨Z,Z,Z,Z⟩ Z Z Z Tryz.underlying101 (InfoE.mk (by kernel_rfl)) (hO) (Z) (Z) (.own memH 0 _ (fun j v hv => by simpa using hv)) (by omega) (by rfl) (by omega) (by omega) fun v29 H29 hv29 => ?_
      obtain ⟨A29, c29, rfl, hc29⟩ := hv29.split
      refine R.assign ⟨Z,Z,Z,Z⟩ Z ?_
      refine GOps.nil ?_
      refine GW.region ?_
      refine R.add (r := (((i + 1) : Nat) : Int)) ⟨Z,Z,Z,Z⟩ Z Z (by rw [wrap64_id (by omega) (by omega)]; omega) ?_
      refine R.move ⟨Z,Z,Z,Z⟩ Z ?_
      refine GOps.nil ?_
      first | exact ⟨i + 1, a ++ [92, x], (.slice A35 _ c35, H35), (), by omega, ⟨by omega, by rw [List.length_append]; simp; omega, u8_snoc hv35⟩, rfl, keepG, Hs.tl _⟩ | exact ⟨i + 1, a ++ [92, 117, 48, 48, d1, d2], (.slice A51 _ c51, H51), (), by omega, ⟨by omega, by rw [List.length_append]; simp; omega, u8_snoc hv51⟩, rfl, keepG, Hs.tl _⟩ | exact ⟨i + 1, a ++ [c1], (.slice A29 _ c29, H29), (), by omega, ⟨by omega, by rw [List.length_append]; simp; omega, u8_snoc hv29⟩, rfl, keepG, Hs.tl _⟩
 ·try simp only [dcQ] at hc1
  refine GW.exit ?_
  refine GW.seq ?_
  refine GW.region ?_
  refine R.move ⟨Z,Z,Z,Z⟩ Z ?_
  refine R.buildSliceF (sz := 1) (bytes := 1) (vs := [_]) (cs := u8C [34]) ⟨Z,Z,Z,Z⟩ Z Tryz.underlying101 (InfoE.mk (by kernel_rfl)) Z Z Z Z Z fun b54 => ?_
  refine R.append (sz := 1) (bytes := 1) (G1 := [_, _]) (H := Ho) (news := u8C [34]) ⟨Z,Z,Z,Z⟩ Z Z Z Tryz.underlying101 (InfoE.mk (by kernel_rfl)) (hO) (Z) (Z) (.own memH 0 _ (fun j v hv => by simpa using hv)) (by omega) (by rfl) (by omega) (by omega) fun v55 H55 hv55 => ?_
  obtain ⟨bz, cz, rfl, rfl, hcz⟩ := (u8_snoc hv55).row_of (by simp)
  refine R.convBytes (l := a ++ [34]) ⟨Z,Z,Z,Z⟩ Z Tryz.underlying101 Tryz.underlying5 Tryz.underlying9 (by simp) (row_rds (cs := u8C (a ++ [34])) memH) ?_
  refine R.assign ⟨Z,Z,Z,Z⟩ Z ?_
  refine GOps.nil ?_
  exact GW.ret (Out.of (Res.one rfl rfl) (Hs.wrEnd _ _ _ _) ⟨_, rfl, by rw [strOf_size, List.length_append]; simp; omega, rfl⟩)
def TOk (t : Tm) : Prop := t.text.size ≤ 1048576 ∧ t.ext.size ≤ 1048576
theorem lit_size (l : Array UInt8) : (ByteArray.mk l).size = l.size := rfl
theorem term_text (w0 : World) (G : Hp) (t : Tm) (h : TOk t) : GC Tryz.prog w0 150 #[.agg (TmC t).toArray] (fun v G' => ∃ s : ByteArray, v = .string s ∧ s.size ≤ 20000000 ∧ G = G') G := by
 obtain ⟨h1, h2⟩ := h
 refine GC.body (args := [.agg (TmC t).toArray]) Tryz.func150 rfl (by kernel_rfl) rfl ?_
 refine GW.seq ?_
 refine GW.region ?_
 refine R.box ⟨Z,Z,Z,Z⟩ Z fun b1 => ?_
 refine R.assign ⟨Z,Z,Z,Z⟩ Z ?_
 refine GOps.nil ?_
 refine GW.seq ?_
 refine GW.seq ?_
 refine GW.region ?_
 refine R.fieldAddr ⟨Z,Z,Z,Z⟩ Z Tryz.underlying24 Z Tryz.sizeOf22 ?_
 refine R.load1 ⟨Z,Z,Z,Z⟩ Z Tryz.underlying22 Z (.own' memG (by rfl)) ?_
 refine GOps.nil ?_
 refine GW.block ?_
 refine GW.seq ?_
 refine GW.region ?_
 refine R.eqI ⟨Z,Z,Z,Z⟩ Z Z ?_
 refine R.assign ⟨Z,Z,Z,Z⟩ Z ?_
 refine GOps.nil ?_
 refine GW.ite Z (fun hc1 => ?_) (fun hc1 => ?_)
 ·try simp only [dcQ] at hc1
  refine GW.seq ?_
  refine GW.region ?_
  refine R.fieldAddr ⟨Z,Z,Z,Z⟩ Z Tryz.underlying24 Z Tryz.sizeOf9 ?_
  refine R.load1 ⟨Z,Z,Z,Z⟩ Z Tryz.underlying9 Z (.own' memG (by rfl)) ?_
  refine R.addS ⟨Z,Z,Z,Z⟩ Z Z (by simp only [ByteArray.size_append, lit_size]; simp; omega) ?_
  refine R.addS ⟨Z,Z,Z,Z⟩ Z Z (by simp only [ByteArray.size_append, lit_size]; simp; omega) ?_
  refine R.assign ⟨Z,Z,Z,Z⟩ Z ?_
  refine GOps.nil ?_
  exact GW.ret (Out.of (Res.one rfl rfl) (Hs.tl _) ⟨_, rfl, by first | omega | (simp only [ByteArray.size_append, lit_size]; simp; omega), rfl⟩)
 ·try simp only [dcQ] at hc1
  refine GW.seq ?_
  refine GW.region ?_
  refine R.eqI ⟨Z,Z,Z,Z⟩ Z Z ?_
  refine R.assign ⟨Z,Z,Z,Z⟩ Z ?_
  refine GOps.nil ?_
  refine GW.ite Z (fun hc2 => ?_) (fun hc2 => ?_)
  ·try simp only [dcQ] at hc2
   refine GW.seq ?_
   refine GW.region ?_
   refine R.fieldAddr ⟨Z,Z,Z,Z⟩ Z Tryz.underlying24 Z Tryz.sizeOf9 ?_
   refine R.load1 ⟨Z,Z,Z,Z⟩ Z Tryz.underlying9 Z (.own' memG (by rfl)) ?_
   refine R.addS ⟨Z,Z,Z,Z⟩ Z Z (by simp only [ByteArray.size_append, lit_size]; simp; omega) ?_
   refine R.assign ⟨Z,Z,Z,Z⟩ Z ?_
   refine GOps.nil ?_
   exact GW.ret (Out.of (Res.one rfl rfl) (Hs.tl _) ⟨_, rfl, by first | omega | (simp only [ByteArray.size_append, lit_size]; simp; omega), rfl⟩)
  ·try simp only [dcQ] at hc2
   refine GW.seq ?_
   refine GW.region ?_
   refine R.eqI ⟨Z,Z,Z,Z⟩ Z Z ?_
   refine R.assign ⟨Z,Z,Z,Z⟩ Z ?_
   refine GOps.nil ?_
   refine GW.ite Z (fun hc3 => ?_) (fun hc3 => ?_)
   ·try simp only [dcQ] at hc3
    refine GW.seq ?_
    refine GW.drawS 8 Z (by kernel_rfl) ?_
    refine GA.w 0 Z (V.fieldAddr ⟨Z,Z,Z,Z⟩ Z Tryz.underlying24 Z Tryz.sizeOf9) Z ?_
    refine GA.val 1 Z (V.load1 ⟨Z,Z,Z,Z⟩ Z Tryz.underlying9 Z (.own' memG (by rfl))) Z (by kernel_rfl) (by kernel_rfl) (by kernel_rfl) ?_
    refine GA.w 4 Z (V.fieldAddr ⟨Z,Z,Z,Z⟩ Z Tryz.underlying24 Z Tryz.sizeOf9) Z ?_
    refine GA.val 5 Z (V.load1 ⟨Z,Z,Z,Z⟩ Z Tryz.underlying9 Z (.own' memG (by rfl))) Z (by kernel_rfl) (by kernel_rfl) (by kernel_rfl) ?_
    refine GA.one 2 hsC (by kernel_rfl) Z ?_
    refine R.call ⟨Z,Z,Z,Z⟩ Z (vs := [_]) Z ((term_written _ _ t.text h1).mono ?_)
    rintro _ _ ⟨u, rfl, hu, rfl⟩
    refine GOps.nil ?_
    refine GA.w 3 Z (V.addS ⟨Z,Z,Z,Z⟩ Z Z (by simp only [ByteArray.size_append, lit_size]; simp; omega)) Z ?_
    refine GA.w 6 Z (V.addS ⟨Z,Z,Z,Z⟩ Z Z (by simp only [ByteArray.size_append, lit_size]; simp; omega)) Z ?_
    refine GA.w 7 Z (V.assign ⟨Z,Z,Z,Z⟩ Z) Z ?_
    refine GA.done hsC (by kernel_rfl) ?_
    exact GW.ret (Out.of (Res.one rfl rfl) (Hs.tl _) ⟨_, rfl, by first | omega | (simp only [ByteArray.size_append, lit_size]; simp; omega), rfl⟩)
   ·try simp only [dcQ] at hc3
    refine GW.seq ?_
    refine GW.region ?_
    refine R.eqI ⟨Z,Z,Z,Z⟩ Z Z ?_
    refine R.assign ⟨Z,Z,Z,Z⟩ Z ?_
    refine GOps.nil ?_
    refine GW.ite Z (fun hc4 => ?_) (fun hc4 => ?_)
    ·try simp only [dcQ] at hc4
     refine GW.seq ?_
     refine GW.drawS 9 Z (by kernel_rfl) ?_
     refine GA.w 0 Z (V.fieldAddr ⟨Z,Z,Z,Z⟩ Z Tryz.underlying24 Z Tryz.sizeOf9) Z ?_
     refine GA.val 1 Z (V.load1 ⟨Z,Z,Z,Z⟩ Z Tryz.underlying9 Z (.own' memG (by rfl))) Z (by kernel_rfl) (by kernel_rfl) (by kernel_rfl) ?_
     refine GA.w 4 Z (V.fieldAddr ⟨Z,Z,Z,Z⟩ Z Tryz.underlying24 Z Tryz.sizeOf9) Z ?_
     refine GA.val 5 Z (V.load1 ⟨Z,Z,Z,Z⟩ Z Tryz.underlying9 Z (.own' memG (by rfl))) Z (by kernel_rfl) (by kernel_rfl) (by kernel_rfl) ?_
     refine GA.one 2 hsC (by kernel_rfl) Z ?_
     refine R.call ⟨Z,Z,Z,Z⟩ Z (vs := [_]) Z ((term_written _ _ t.text h1).mono ?_)
     rintro _ _ ⟨u, rfl, hu, rfl⟩
     refine GOps.nil ?_
     refine GA.w 3 Z (V.addS ⟨Z,Z,Z,Z⟩ Z Z (by simp only [ByteArray.size_append, lit_size]; simp; omega)) Z ?_
     refine GA.w 6 Z (V.addS ⟨Z,Z,Z,Z⟩ Z Z (by simp only [ByteArray.size_append, lit_size]; simp; omega)) Z ?_
     refine GA.w 7 Z (V.addS ⟨Z,Z,Z,Z⟩ Z Z (by simp only [ByteArray.size_append, lit_size]; simp; omega)) Z ?_
     refine GA.w 8 Z (V.assign ⟨Z,Z,Z,Z⟩ Z) Z ?_
     refine GA.done hsC (by kernel_rfl) ?_
     exact GW.ret (Out.of (Res.one rfl rfl) (Hs.tl _) ⟨_, rfl, by first | omega | (simp only [ByteArray.size_append, lit_size]; simp; omega), rfl⟩)
    ·try simp only [dcQ] at hc4
     refine GW.skip ?_
     refine GW.seq ?_
     refine GW.region ?_
     refine R.fieldAddr ⟨Z,Z,Z,Z⟩ Z Tryz.underlying24 Z Tryz.sizeOf9 ?_
     refine R.load1 ⟨Z,Z,Z,Z⟩ Z Tryz.underlying9 Z (.own' memG (by rfl)) ?_
     refine R.call ⟨Z,Z,Z,Z⟩ Z (vs := [_]) Z ((term_written _ _ t.text h1).mono ?_)
     rintro _ _ ⟨u, rfl, hu, rfl⟩
     refine R.assign ⟨Z,Z,Z,Z⟩ Z ?_
     refine GOps.nil ?_
     exact GW.ret (Out.of (Res.one rfl rfl) (Hs.tl _) ⟨_, rfl, by first | omega | (simp only [ByteArray.size_append, lit_size]; simp; omega), rfl⟩)
theorem term_Text (w0 : World) (G : Hp) (t : Tm) (h : TOk t) : GC Tryz.prog w0 138 #[.agg (TmC t).toArray] (fun v G' => ∃ (s : ByteArray) (e : Int), v = .tuple #[.string s, .int .i64 e] ∧ s.size ≤ 20000000 ∧ G = G') G := by
 refine GC.body (args := [.agg (TmC t).toArray]) Tryz.func138 rfl (by kernel_rfl) rfl ?_
 refine GW.seq ?_
 refine GW.region ?_
 refine R.box ⟨Z,Z,Z,Z⟩ Z fun b1 => ?_
 refine R.assign ⟨Z,Z,Z,Z⟩ Z ?_
 refine R.assign ⟨Z,Z,Z,Z⟩ Z ?_
 refine GOps.nil ?_
 refine GW.seq ?_
 refine GW.seq ?_
 refine GW.region ?_
 refine R.load_own (cs := TmC t) ⟨Z,Z,Z,Z⟩ Z Tryz.underlying24 Z Tryz.sizeOf24 memG (by rfl) (by rfl) ?_
 refine R.call ⟨Z,Z,Z,Z⟩ Z (vs := [_]) Z ((term_May _ _ t h.1 h.2).mono ?_)
 rintro _ _ ⟨rfl, rfl⟩
 refine R.not ⟨Z,Z,Z,Z⟩ Z ?_
 refine GOps.nil ?_
 refine GW.ite Z (fun hc1 => ?_) (fun hc1 => ?_)
 ·try simp only [dcQ] at hc1
  refine GW.seq ?_
  refine GW.region ?_
  refine R.assign ⟨Z,Z,Z,Z⟩ Z ?_
  refine R.assign ⟨Z,Z,Z,Z⟩ Z ?_
  refine GOps.nil ?_
  first | exact GW.ret (Out.of (Res.two rfl rfl rfl) (Hs.tl _) ⟨u, 0, rfl, hu, rfl⟩) | exact GW.ret (Out.of (Res.two rfl rfl rfl) (Hs.tl _) ⟨_, 2, rfl, by decide, rfl⟩)
 ·try simp only [dcQ] at hc1
  refine GW.skip ?_
  refine GW.seq ?_
  refine GW.region ?_
  refine R.load_own (cs := TmC t) ⟨Z,Z,Z,Z⟩ Z Tryz.underlying24 Z Tryz.sizeOf24 memG (by rfl) (by rfl) ?_
  refine R.call ⟨Z,Z,Z,Z⟩ Z (vs := [_]) Z ((term_text _ _ t h).mono ?_)
  rintro _ _ ⟨u, rfl, hu, rfl⟩
  refine R.assign ⟨Z,Z,Z,Z⟩ Z ?_
  refine R.assign ⟨Z,Z,Z,Z⟩ Z ?_
  refine GOps.nil ?_
  first | exact GW.ret (Out.of (Res.two rfl rfl rfl) (Hs.tl _) ⟨u, 0, rfl, hu, rfl⟩) | exact GW.ret (Out.of (Res.two rfl rfl rfl) (Hs.tl _) ⟨_, 2, rfl, by decide, rfl⟩)
theorem rules_slotText (w0 : World) (G : Hp) (s : Sl) (h : SlOk s) : GC Tryz.prog w0 116 #[.agg (SlC s).toArray] (fun v G' => ∃ u : ByteArray, v = .string u ∧ u.size ≤ 20000000 ∧ G = G') G := by
 obtain ⟨h1, h2⟩ := h
 refine GC.body (args := [.agg (SlC s).toArray]) Tryz.func116 rfl (by kernel_rfl) rfl ?_
 refine GW.seq ?_
 refine GW.region ?_
 refine R.box ⟨Z,Z,Z,Z⟩ Z fun b1 => ?_
 refine R.assign ⟨Z,Z,Z,Z⟩ Z ?_
 refine GOps.nil ?_
 refine GW.seq ?_
 refine GW.seq ?_
 refine GW.region ?_
 refine R.fieldAddr ⟨Z,Z,Z,Z⟩ Z Tryz.underlying26 Z Tryz.sizeOf9 ?_
 refine R.load1 ⟨Z,Z,Z,Z⟩ Z Tryz.underlying9 Z (.own' memG (by rfl)) ?_
 refine R.neS ⟨Z,Z,Z,Z⟩ Z Z ?_
 refine GOps.nil ?_
 refine GW.ite Z (fun hc1 => ?_) (fun hc1 => ?_)
 ·try simp only [dcQ] at hc1
  refine GW.seq ?_
  refine GW.region ?_
  refine R.fieldAddr ⟨Z,Z,Z,Z⟩ Z Tryz.underlying26 Z Tryz.sizeOf9 ?_
  refine R.load1 ⟨Z,Z,Z,Z⟩ Z Tryz.underlying9 Z (.own' memG (by rfl)) ?_
  refine R.addS ⟨Z,Z,Z,Z⟩ Z Z (by simp only [ByteArray.size_append, lit_size]; simp; omega) ?_
  refine R.assign ⟨Z,Z,Z,Z⟩ Z ?_
  refine GOps.nil ?_
  exact GW.ret (Out.of (Res.one rfl rfl) (Hs.tl _) ⟨_, rfl, by first | omega | (simp only [ByteArray.size_append, lit_size]; simp; omega), rfl⟩)
 ·try simp only [dcQ] at hc1
  refine GW.skip ?_
  refine GW.seq ?_
  refine GW.region ?_
  refine R.fieldAddr ⟨Z,Z,Z,Z⟩ Z Tryz.underlying26 Z Tryz.sizeOf24 ?_
  refine R.load_own (cs := TmC s.t) ⟨Z,Z,Z,Z⟩ Z Tryz.underlying24 Z Tryz.sizeOf24 memG (by rfl) (by rfl) ?_
  refine R.call ⟨Z,Z,Z,Z⟩ Z (vs := [_]) Z ((term_Text _ _ s.t h2).mono ?_)
  rintro _ _ ⟨u, e, rfl, hu, rfl⟩
  refine R.move ⟨Z,Z,Z,Z⟩ Z ?_
  refine R.extract ⟨Z,Z,Z,Z⟩ Z Z ?_
  refine R.extract ⟨Z,Z,Z,Z⟩ Z Z ?_
  refine R.assign ⟨Z,Z,Z,Z⟩ Z ?_
  refine R.assign ⟨Z,Z,Z,Z⟩ Z ?_
  refine GOps.nil ?_
  refine GW.seq ?_
  refine GW.region ?_
  refine R.move ⟨Z,Z,Z,Z⟩ Z ?_
  refine R.assign ⟨Z,Z,Z,Z⟩ Z ?_
  refine GOps.nil ?_
  exact GW.ret (Out.of (Res.one rfl rfl) (Hs.tl _) ⟨_, rfl, by first | omega | (simp only [ByteArray.size_append, lit_size]; simp; omega), rfl⟩)
theorem rules_patternText (w0 : World) (G : Hp) (p : Pt) (h : PtOk p) : GC Tryz.prog w0 113 #[.agg (PtC p).toArray] (fun v G' => ∃ s : ByteArray, v = .string s ∧ s.size ≤ 70000000 ∧ G = G') G := by
 refine GC.body (args := [.agg (PtC p).toArray]) Tryz.func113 rfl (by kernel_rfl) rfl ?_
 refine GW.seq ?_
 refine GW.region ?_
 refine R.box ⟨Z,Z,Z,Z⟩ Z fun b1 => ?_
 refine R.assign ⟨Z,Z,Z,Z⟩ Z ?_
 refine GOps.nil ?_
 refine GW.seq ?_
 refine GW.drawS 16 Z (by kernel_rfl) ?_
 refine GA.val 0 Z (V.indexAddrA ⟨Z,Z,Z,Z⟩ Z Z Tryz.underlying28 Tryz.sizeOf26 (by omega) (by omega)) Z (by kernel_rfl) (by kernel_rfl) (by kernel_rfl) ?_
 refine GA.val 1 Z (V.load_own (cs := SlC p.s0) ⟨Z,Z,Z,Z⟩ Z Tryz.underlying26 Z Tryz.sizeOf26 memG (by rfl) (by rfl)) Z (by kernel_rfl) (by kernel_rfl) (by kernel_rfl) ?_
 refine GA.val 5 Z (V.indexAddrA ⟨Z,Z,Z,Z⟩ Z Z Tryz.underlying28 Tryz.sizeOf26 (by omega) (by omega)) Z (by kernel_rfl) (by kernel_rfl) (by kernel_rfl) ?_
 refine GA.val 6 Z (V.load_own (cs := SlC p.s1) ⟨Z,Z,Z,Z⟩ Z Tryz.underlying26 Z Tryz.sizeOf26 memG (by rfl) (by rfl)) Z (by kernel_rfl) (by kernel_rfl) (by kernel_rfl) ?_
 refine GA.val 10 Z (V.indexAddrA ⟨Z,Z,Z,Z⟩ Z Z Tryz.underlying28 Tryz.sizeOf26 (by omega) (by omega)) Z (by kernel_rfl) (by kernel_rfl) (by kernel_rfl) ?_
 refine GA.val 11 Z (V.load_own (cs := SlC p.s2) ⟨Z,Z,Z,Z⟩ Z Tryz.underlying26 Z Tryz.sizeOf26 memG (by rfl) (by rfl)) Z (by kernel_rfl) (by kernel_rfl) (by kernel_rfl) ?_
 refine GA.one 2 hsC (by kernel_rfl) Z ?_
 refine R.call ⟨Z,Z,Z,Z⟩ Z (vs := [_]) Z ((rules_slotText _ _ p.s0 h.1).mono ?_)
 rintro _ _ ⟨u0, rfl, hu0, rfl⟩
 refine GOps.nil ?_
 refine GA.w 3 Z (V.addS ⟨Z,Z,Z,Z⟩ Z Z (by simp only [ByteArray.size_append, lit_size]; simp; omega)) Z ?_
 refine GA.w 4 Z (V.addS ⟨Z,Z,Z,Z⟩ Z Z (by simp only [ByteArray.size_append, lit_size]; simp; omega)) Z ?_
 refine GA.one 7 hsC (by kernel_rfl) Z ?_
 refine R.call ⟨Z,Z,Z,Z⟩ Z (vs := [_]) Z ((rules_slotText _ _ p.s1 h.2.1).mono ?_)
 rintro _ _ ⟨u1, rfl, hu1, rfl⟩
 refine GOps.nil ?_
 refine GA.w 8 Z (V.addS ⟨Z,Z,Z,Z⟩ Z Z (by simp only [ByteArray.size_append, lit_size]; simp; omega)) Z ?_
 refine GA.w 9 Z (V.addS ⟨Z,Z,Z,Z⟩ Z Z (by simp only [ByteArray.size_append, lit_size]; simp; omega)) Z ?_
 refine GA.one 12 hsC (by kernel_rfl) Z ?_
 refine R.call ⟨Z,Z,Z,Z⟩ Z (vs := [_]) Z ((rules_slotText _ _ p.s2 h.2.2).mono ?_)
 rintro _ _ ⟨u2, rfl, hu2, rfl⟩
 refine GOps.nil ?_
 refine GA.w 13 Z (V.addS ⟨Z,Z,Z,Z⟩ Z Z (by simp only [ByteArray.size_append, lit_size]; simp; omega)) Z ?_
 refine GA.w 14 Z (V.addS ⟨Z,Z,Z,Z⟩ Z Z (by simp only [ByteArray.size_append, lit_size]; simp; omega)) Z ?_
 refine GA.w 15 Z (V.assign ⟨Z,Z,Z,Z⟩ Z) Z ?_
 refine GA.done hsC (by kernel_rfl) ?_
 exact GW.ret (Out.of (Res.one rfl rfl) (Hs.tl _) ⟨_, rfl, by first | omega | (simp only [ByteArray.size_append, lit_size]; simp; omega), rfl⟩)
end Go.Proofs.YtfddkcmooommeaaGreatDoor.Gl
end
section
namespace Go.Proofs.YtfddkcmooommeaaGreatDoor.Gl
open Go.RowKit Go.Shelf
set_option linter.unusedVariables false
set_option linter.unnecessarySimpa false
set_option linter.unusedSimpArgs false
attribute [-simp] List.getD_eq_getElem?_getD
section
variable {α : Type} {C : α → List Value} {sz : Nat}
theorem fl_get (hC : ∀ a, (C a).length = sz) : ∀ (xs : List α) (i : Nat) (x : α), xs[i]? = some x → ∀ (j : Nat) v, (C x)[j]? = some v → (xs.flatMap C)[i * sz + j]? = some v
 | [], i, x, h, _, _, _ => by simp at h
 | y :: xs, 0, x, h, j, v, hv => by
  simp at h
  subst h
  rw [List.flatMap_cons, Nat.zero_mul, Nat.zero_add, List.getElem?_append_left (List.getElem?_eq_some_iff.1 hv).1]
  exact hv
 | y :: xs, i + 1, x, h, j, v, hv => by
  have ih := fl_get hC xs i x (by simpa using h) j v hv
  rw [List.flatMap_cons, List.getElem?_append_right (by rw [hC, Nat.succ_mul]; omega), hC, show (i + 1) * sz + j - sz = i * sz + j by rw [Nat.succ_mul]; omega]
  exact ih
theorem SlAt.flat {e : TypeId} {xs : List α} {v : Value} {H : Hp} (w0 : World) (G : Hp) (hC : ∀ a, (C a).length = sz) (h : SlAt sz e (xs.flatMap C) xs.length v H) : ∃ A c, v = .slice A xs.length c ∧ RowAt w0 (H ++ G) sz (fun a cs => cs = C a) A xs ∧ xs.length ≤ c := by
 generalize hn : xs.length = n at h
 cases h with
 | nil h0 hc =>
  subst h0
  rw [List.length_eq_zero_iff] at hn
  subst hn
  exact ⟨none, 0, rfl, fun i x hx => by simp at hx, Nat.le_refl _⟩
 | row b cap hl hc =>
  refine ⟨some ⟨b, 0, none⟩, cap, rfl, fun i x hx => ⟨b, 0, C x, rfl, rfl, fun j v hv => ?_⟩, hc⟩
  exact .own (List.mem_append_left _ List.mem_cons_self) (by rw [Nat.zero_add]; exact fl_get hC xs i x hx j v hv)
end
def tmsC (L : List Tm) : List Value := L.flatMap TmC
theorem tm_len (t : Tm) : (TmC t).length = 3 := rfl
theorem tms_snoc {L : List Tm} {t : Tm} {v : Value} {H : Hp} (h : SlAt 3 24 (tmsC L ++ TmC t) (L.length + 1) v H) : SlAt 3 24 (tmsC (L ++ [t])) (L ++ [t]).length v H := by
 unfold tmsC at h ⊢
 rw [List.flatMap_append, List.length_append]
 simpa using h
abbrev woC (v : Value) : Know := .exact (.cells #[v] 60 (0, 0))
def numF (L : List Tm) (t : Tm) : Nat × List Tm := match idxT L t with
 | some n => (n + 1, L)
 | none => (L.length + 1, L ++ [t])
theorem numF_yes {L : List Tm} {t u : Tm} {i : Nat} (h0 : (L.take i).any (fun u => tmEq u t) = false) (hu : L[i]? = some u) (he : tmEq u t = true) : numF L t = (i + 1, L) := by
 have hi := (List.getElem?_eq_some_iff.1 hu).1
 have : idxT L t = some i := by
  unfold idxT
  rw [List.findIdx?_eq_some_iff_getElem]
  refine ⟨hi, ?_, fun j hj => ?_⟩
  ·rw [List.getElem?_eq_getElem hi] at hu
   rw [Option.some.inj hu]; exact he
  ·rw [List.any_eq_false] at h0
   exact h0 _ (List.mem_of_getElem? (i := j) (by rw [List.getElem?_take_of_lt hj, List.getElem?_eq_getElem (by omega)]))
 unfold numF
 rw [this]
theorem numF_no {L : List Tm} {t : Tm} (h0 : L.any (fun u => tmEq u t) = false) : numF L t = (L.length + 1, L ++ [t]) := by
 have : idxT L t = none := by
  unfold idxT
  rw [List.findIdx?_eq_none_iff]
  intro x hx
  rw [List.any_eq_false] at h0
  have := h0 x hx
  simpa using this
 unfold numF
 rw [this]
theorem numF_len (L : List Tm) (t : Tm) : (numF L t).2.length ≤ L.length + 1 := by
 unfold numF
 cases idxT L t with
 | some n => simp
 | none => simp
def placeW (vars : List ByteArray) (L : List Tm) (s : Sl) : Pl × List Tm := match (bif emp s.v then none else idxN vars s.v) with
 | some i => (⟨(i : Nat), 0⟩, L)
 | none => (⟨-1, (numF L s.t).1⟩, (numF L s.t).2)
theorem placeW_var {vars : List ByteArray} {L : List Tm} {s : Sl} {x : ByteArray} {i : Nat} (h : emp s.v = false) (h0 : (vars.take i).any (fun x => s.v.toList == x.toList) = false) (hx : vars[i]? = some x) (he : (s.v.toList == x.toList) = true) : placeW vars L s = (⟨(i : Nat), 0⟩, L) := by
 have hi := (List.getElem?_eq_some_iff.1 hx).1
 have : idxN vars s.v = some i := by
  unfold idxN
  rw [List.findIdx?_eq_some_iff_getElem]
  refine ⟨hi, ?_, fun j hj => ?_⟩
  ·rw [List.getElem?_eq_getElem hi] at hx
   rw [Option.some.inj hx]; exact he
  ·rw [List.any_eq_false] at h0
   exact h0 _ (List.mem_of_getElem? (i := j) (by rw [List.getElem?_take_of_lt hj, List.getElem?_eq_getElem (by omega)]))
 unfold placeW
 rw [h, cond_false, this]
theorem placeW_t {vars : List ByteArray} {L : List Tm} {s : Sl} (h : emp s.v = true ∨ vars.any (fun x => s.v.toList == x.toList) = false) : placeW vars L s = (⟨-1, (numF L s.t).1⟩, (numF L s.t).2) := by
 have : (bif emp s.v then none else idxN vars s.v) = none := by
  rcases h with h | h
  ·rw [h]; rfl
  ·cases emp s.v
   ·rw [cond_false]
    unfold idxN
    rw [List.findIdx?_eq_none_iff]
    intro x hx
    rw [List.any_eq_false] at h
    have := h x hx
    simpa using this
   ·rfl
 unfold placeW
 rw [this]
theorem placeW_len (vars : List ByteArray) (L : List Tm) (s : Sl) : (placeW vars L s).2.length ≤ L.length + 1 := by
 unfold placeW
 split
 ·simp
 ·exact numF_len _ _
def rowStepW (vars : List ByteArray) (a : List Pl × List Tm) (s : Sl) : List Pl × List Tm := (a.1 ++ [(placeW vars a.2 s).1], (placeW vars a.2 s).2)
def rowToW (vars : List ByteArray) (L : List Tm) (p : Pt) (k : Nat) : List Pl × List Tm := ((sl3 p).take k).foldl (rowStepW vars) ([], L)
theorem rowToW_succ {vars : List ByteArray} {L : List Tm} {p : Pt} {k : Nat} {s : Sl} (h : (sl3 p)[k]? = some s) : rowToW vars L p (k + 1) = rowStepW vars (rowToW vars L p k) s := by
 unfold rowToW
 rw [List.take_add_one, h, List.foldl_append]
 rfl
def rowW (vars : List ByteArray) (L : List Tm) (p : Pt) : Rw × List Tm :=
 (⟨(placeW vars L p.s0).1, (placeW vars (placeW vars L p.s0).2 p.s1).1, (placeW vars (placeW vars (placeW vars L p.s0).2 p.s1).2 p.s2).1⟩, (placeW vars (placeW vars (placeW vars L p.s0).2 p.s1).2 p.s2).2)
theorem rowToW_3 (vars : List ByteArray) (L : List Tm) (p : Pt) : rowToW vars L p 3 = ([(rowW vars L p).1.p0, (rowW vars L p).1.p1, (rowW vars L p).1.p2], (rowW vars L p).2) := rfl
theorem rowW_len (vars : List ByteArray) (L : List Tm) (p : Pt) : (rowW vars L p).2.length ≤ L.length + 3 := by
 have h1 := placeW_len vars L p.s0
 have h2 := placeW_len vars (placeW vars L p.s0).2 p.s1
 have h3 := placeW_len vars (placeW vars (placeW vars L p.s0).2 p.s1).2 p.s2
 unfold rowW
 simp only
 omega
def stepW (vars : List ByteArray) (L : List Tm) (l : Lt) : St × List Tm :=
 if l.kind = 1 then (⟨1, (rowW vars L l.pat).1, zPl, zPl⟩, (rowW vars L l.pat).2)
 else if l.kind = 2 then (⟨2, (rowW vars L l.pat).1, zPl, zPl⟩, (rowW vars L l.pat).2)
 else (⟨if l.kind = 4 then 4 else 3, zRw, (placeW vars L l.a).1, (placeW vars (placeW vars L l.a).2 l.b).1⟩, (placeW vars (placeW vars L l.a).2 l.b).2)
theorem stepW_len (vars : List ByteArray) (L : List Tm) (l : Lt) : (stepW vars L l).2.length ≤ L.length + 3 := by
 have h0 := rowW_len vars L l.pat
 have h1 := placeW_len vars L l.a
 have h2 := placeW_len vars (placeW vars L l.a).2 l.b
 unfold stepW
 split
 ·exact h0
 ·split
  ·exact h0
  ·simp only; omega
theorem stepW_1 {vars : List ByteArray} {L : List Tm} {l : Lt} (h : l.kind = 1) : stepW vars L l = (⟨1, (rowW vars L l.pat).1, zPl, zPl⟩, (rowW vars L l.pat).2) := by unfold stepW; rw [if_pos h]
theorem stepW_2 {vars : List ByteArray} {L : List Tm} {l : Lt} (h1 : ¬ l.kind = 1) (h : l.kind = 2) : stepW vars L l = (⟨2, (rowW vars L l.pat).1, zPl, zPl⟩, (rowW vars L l.pat).2) := by unfold stepW; rw [if_neg h1, if_pos h]
theorem stepW_4 {vars : List ByteArray} {L : List Tm} {l : Lt} (h1 : ¬ l.kind = 1) (h2 : ¬ l.kind = 2) (h : l.kind = 4) : stepW vars L l = (⟨4, zRw, (placeW vars L l.a).1, (placeW vars (placeW vars L l.a).2 l.b).1⟩, (placeW vars (placeW vars L l.a).2 l.b).2) := by unfold stepW; rw [if_neg h1, if_neg h2, if_pos h]
theorem stepW_3 {vars : List ByteArray} {L : List Tm} {l : Lt} (h1 : ¬ l.kind = 1) (h2 : ¬ l.kind = 2) (h : ¬ l.kind = 4) : stepW vars L l = (⟨3, zRw, (placeW vars L l.a).1, (placeW vars (placeW vars L l.a).2 l.b).1⟩, (placeW vars (placeW vars L l.a).2 l.b).2) := by unfold stepW; rw [if_neg h1, if_neg h2, if_neg h]
theorem sl_len (s : Sl) : (SlC s).length = 4 := rfl
theorem pt_load {w0 : World} {G : Hp} {b k : Nat} {p : Pt} {s : Sl} (hm : (b, Know.exact (.cells (Value.agg (PtC p).toArray).cells 28 (0, 0))) ∈ G) (h : (sl3 p)[k]? = some s) : Rds w0 G b (0 + (k : Int).toNat * 4) (SlC s) := fun j v hv => .own hm (by
 show (PtC p).toArray[0 + (k : Int).toNat * 4 + j]? = _
 rw [Nat.zero_add, Int.toNat_natCast, List.getElem?_toArray]
 exact fl_get sl_len (sl3 p) k s h j v hv)
theorem Hs.padTl1 {b7 : Nat} {C D : Array Value} (h : C = D) (R : Hp) : Hs ((b7, .exact (.cells C 38 (0, 0))) :: R) ((b7, .exact (.cells D 38 (0, 0))) :: R) := h ▸ Hs.refl _
theorem ref_Number (w0 : World) (G : Hp) (L : List Tm) (bW : Nat) (v : Value) (Hl : Hp) (hL : SlAt 3 24 (tmsC L) L.length v Hl) (hm : L.length ≤ 100000) (t : Tm) : GC Tryz.prog w0 35 #[.pointer (some ⟨bW, 0, none⟩), .agg (TmC t).toArray] (fun r G' => ∃ v' Hl', (r = .int .u32 ((numF L t).1 : Nat) ∧ SlAt 3 24 (tmsC (numF L t).2) (numF L t).2.length v' Hl') ∧ (bW, woC v') :: (Hl' ++ G) = G') ((bW, woC v) :: (Hl ++ G)) := by
 obtain ⟨A, c, rfl, hts, hc⟩ := hL.flat w0 G tm_len
 refine GC.body (args := [.pointer (some ⟨bW, 0, none⟩), .agg (TmC t).toArray]) Tryz.func35 rfl (by kernel_rfl) rfl ?_
 refine GW.seq ?_
 refine GW.region ?_
 refine R.box ⟨Z,Z,Z,Z⟩ Z fun b3 => ?_
 refine R.assign ⟨Z,Z,Z,Z⟩ Z ?_
 refine GOps.nil ?_
 refine GW.seq ?_
 refine GW.seq ?_
 refine GW.region ?_
 refine R.assign ⟨Z,Z,Z,Z⟩ Z ?_
 refine GOps.nil ?_
 refine GW.block ?_
 refine GW.loopI (fun i : Nat => [(0, .pointer (some ⟨bW, 0, none⟩)), (3, .pointer (some ⟨b3, 0, none⟩)), (5, .int .i64 i)]) (fun i => (b3, .exact (.cells (Value.agg (TmC t).toArray).cells 24 (0, 0))) :: (bW, woC (.slice A L.length c)) :: (Hl ++ G)) (fun i => L.length - i) (fun i => i ≤ L.length ∧ (L.take i).any (fun u => tmEq u t) = false) 0
  (keepG) (Hs.refl _) (⟨by omega, by simp⟩) ?_
 rintro i ⟨hi, h0⟩
 refine GW.seq ?_
 refine GW.seq ?_
 refine GW.region ?_
 refine R.move ⟨Z,Z,Z,Z⟩ Z ?_
 refine R.move ⟨Z,Z,Z,Z⟩ Z ?_
 refine R.nilCheck ⟨Z,Z,Z,Z⟩ Z ?_
 refine R.fieldAddr ⟨Z,Z,Z,Z⟩ Z Tryz.underlying60 Z Tryz.sizeOf53 ?_
 refine R.load1 ⟨Z,Z,Z,Z⟩ Z Tryz.underlying53 Z (.own' memG (by rfl)) ?_
 refine R.lenS ⟨Z,Z,Z,Z⟩ Z Z Tryz.underlying53 ?_
 refine R.lss ⟨Z,Z,Z,Z⟩ Z Z ?_
 refine GOps.nil ?_
 refine GW.ite Z (fun hc1 => ?_) (fun hc1 => ?_)
 ·try simp only [dcQ] at hc1
  obtain ⟨u, hu⟩ : ∃ u, L[i]? = some u := ⟨_, List.getElem?_eq_getElem (by omega)⟩
  obtain ⟨ub, uo, cs0, rfl, rfl, hrd⟩ := hts i u hu
  refine GW.skip ?_
  refine GW.seq ?_
  refine GW.block ?_
  refine GW.seq ?_
  refine GW.drawS 9 Z (by kernel_rfl) ?_
  refine GA.w 0 Z (V.move ⟨Z,Z,Z,Z⟩ Z) Z ?_
  refine GA.w 1 Z (V.nilCheck ⟨Z,Z,Z,Z⟩ Z) Z ?_
  refine GA.w 2 Z (V.fieldAddr ⟨Z,Z,Z,Z⟩ Z Tryz.underlying60 Z Tryz.sizeOf53) Z ?_
  refine GA.val 3 Z (V.load1 ⟨Z,Z,Z,Z⟩ Z Tryz.underlying53 Z (.own' memG (by rfl))) Z (by kernel_rfl) (by kernel_rfl) (by kernel_rfl) ?_
  refine GA.w 4 Z (V.move ⟨Z,Z,Z,Z⟩ Z) Z ?_
  refine GA.val 5 Z (V.indexAddrS ⟨Z,Z,Z,Z⟩ Z Z Tryz.underlying53 Tryz.sizeOf24 (by omega) (by omega)) Z (by kernel_rfl) (by kernel_rfl) (by kernel_rfl) ?_
  refine GA.val 6 Z (V.loadA ⟨Z,Z,Z,Z⟩ Z Tryz.underlying24 Z Tryz.sizeOf24 (hrd.mono (fun y hy => by repeat (first | exact hy | apply List.mem_cons_of_mem | apply List.mem_append_right))) (by rfl)) Z (by kernel_rfl) (by kernel_rfl) (by kernel_rfl) ?_
  refine GA.val 7 Z (V.load_own (cs := TmC t) ⟨Z,Z,Z,Z⟩ Z Tryz.underlying24 Z Tryz.sizeOf24 memG (by rfl) (by rfl)) Z (by kernel_rfl) (by kernel_rfl) (by kernel_rfl) ?_
  refine GA.val 8 Z (V.eqA ⟨Z,Z,Z,Z⟩ Z Z (guard_of g24) (equal_of 9990 Z (run_eqTm 9998 _ _))) Z (by kernel_rfl) (by kernel_rfl) (by kernel_rfl) ?_
  refine GA.done hsC (by kernel_rfl) ?_
  refine GW.ite Z (fun hc2 => ?_) (fun hc2 => ?_)
  ·try simp only [dcQ] at hc2
   refine GW.seq ?_
   refine GW.region ?_
   refine R.move ⟨Z,Z,Z,Z⟩ Z ?_
   refine R.add (r := (((i + 1) : Nat) : Int)) ⟨Z,Z,Z,Z⟩ Z Z (by rw [wrap64_id (by omega) (by omega)]; omega) ?_
   refine R.conv (r := ((i + 1 : Nat) : Int)) ⟨Z,Z,Z,Z⟩ Z Tryz.underlying3 Tryz.underlying35 (u32_id _ (by omega)) ?_
   refine R.assign ⟨Z,Z,Z,Z⟩ Z ?_
   refine GOps.nil ?_
   first | (rw [numF_yes h0 hu (by assumption)]; exact GW.ret (Out.of (Res.one rfl rfl) (Hs.tl _) ⟨_, Hl, ⟨rfl, hL⟩, rfl⟩)) | (rw [numF_no h0]; exact GW.ret (Out.of (Res.one rfl rfl) (Hs.tl2 _ _) ⟨_, H34, ⟨rfl, tms_snoc hv34⟩, rfl⟩))
  ·try simp only [dcQ] at hc2
   refine GW.skip ?_
   refine GW.region ?_
   refine R.move ⟨Z,Z,Z,Z⟩ Z ?_
   refine R.add (r := (((i + 1) : Nat) : Int)) ⟨Z,Z,Z,Z⟩ Z Z (by rw [wrap64_id (by omega) (by omega)]; omega) ?_
   refine R.assign ⟨Z,Z,Z,Z⟩ Z ?_
   refine GOps.nil ?_
   exact ⟨i + 1, by omega, ⟨by omega, any_take_succ _ L i u hu h0 (by assumption)⟩, rfl, keepG, by first | exact Hs.refl _ | exact Hs.tl _ | exact Hs.tl2 _ _⟩
 ·try simp only [dcQ] at hc1
  rw [List.take_of_length_le (by omega)] at h0
  refine GW.exit ?_
  refine GW.seq ?_
  refine GW.draw ((b3, .exact (.cells (Value.agg (TmC t).toArray).cells 24 (0, 0))) :: G) 11 Z (by kernel_rfl) ?_
  refine GA.w 0 Z (V.move ⟨Z,Z,Z,Z⟩ Z) Z ?_
  refine GA.w 1 Z (V.move ⟨Z,Z,Z,Z⟩ Z) Z ?_
  refine GA.w 2 Z (V.nilCheck ⟨Z,Z,Z,Z⟩ Z) Z ?_
  refine GA.w 3 Z (V.fieldAddr ⟨Z,Z,Z,Z⟩ Z Tryz.underlying60 Z Tryz.sizeOf53) Z ?_
  refine GA.val 5 Z (V.load_own (cs := TmC t) ⟨Z,Z,Z,Z⟩ Z Tryz.underlying24 Z Tryz.sizeOf24 memG (by rfl) (by rfl)) Z (by kernel_rfl) (by kernel_rfl) (by kernel_rfl) ?_
  refine GA.two 4 6 (by first | exact Hs.sub (by repeat (first | exact List.Sublist.refl _ | exact List.sublist_append_right _ _ | apply List.Sublist.cons_cons | apply List.Sublist.cons | refine List.Sublist.trans ?_ (List.sublist_append_right _ _))) | exact Hs.refl _ | exact Hs.tl _ | exact Hs.tl2 _ _ | exact Hs.tl3 _ _ _ | exact Hs.app _ | exact Hs.sub (by simp)) (by kernel_rfl) Z Z ?_ ?_
  ·refine R.load1 ⟨Z,Z,Z,Z⟩ Z Tryz.underlying53 Z (.own' memG (by rfl)) ?_
   refine GOps.nil ?_
   refine GA.one 6 (by first | exact Hs.sub (by repeat (first | exact List.Sublist.refl _ | exact List.sublist_append_right _ _ | apply List.Sublist.cons_cons | apply List.Sublist.cons | refine List.Sublist.trans ?_ (List.sublist_append_right _ _))) | exact Hs.refl _ | exact Hs.tl _ | exact Hs.tl2 _ _ | exact Hs.tl3 _ _ _ | exact Hs.app _ | exact Hs.sub (by simp)) (by kernel_rfl) Z ?_
   refine R.buildSliceF (sz := 3) (bytes := 40) (vs := [_]) (cs := TmC t) ⟨Z,Z,Z,Z⟩ Z Tryz.underlying53 (InfoE.mk (by kernel_rfl)) Z Z Z Z Z fun b33 => ?_
   refine GOps.nil ?_
   refine GA.one 7 (by first | exact Hs.sub (by repeat (first | exact List.Sublist.refl _ | exact List.sublist_append_right _ _ | apply List.Sublist.cons_cons | apply List.Sublist.cons | refine List.Sublist.trans ?_ (List.sublist_append_right _ _))) | exact Hs.refl _ | exact Hs.tl _ | exact Hs.tl2 _ _ | exact Hs.tl3 _ _ _ | exact Hs.app _ | exact Hs.sub (by simp)) (by kernel_rfl) Z ?_
   refine R.append (sz := 3) (bytes := 40) (G1 := [_, _, _]) (H := Hl) (news := TmC t) ⟨Z,Z,Z,Z⟩ Z Z Z Tryz.underlying53 (InfoE.mk (by kernel_rfl)) (hL) (Z) (Z) (.own memH 0 _ (fun j v hv => by simpa using hv)) (by omega) (by rfl) (by omega) (by omega) fun v34 H34 hv34 => ?_
   obtain ⟨A34, c34, rfl, hc34⟩ := hv34.split
   refine GOps.nil ?_
   refine GA.w 8 Z (V.nilCheck ⟨Z,Z,Z,Z⟩ Z) Z ?_
   refine GA.w 9 Z (V.fieldAddr ⟨Z,Z,Z,Z⟩ Z Tryz.underlying60 Z Tryz.sizeOf53) Z ?_
   refine GA.one 10 (by first | exact Hs.sub (by repeat (first | exact List.Sublist.refl _ | exact List.sublist_append_right _ _ | apply List.Sublist.cons_cons | apply List.Sublist.cons | refine List.Sublist.trans ?_ (List.sublist_append_right _ _))) | exact Hs.refl _ | exact Hs.tl _ | exact Hs.tl2 _ _ | exact Hs.tl3 _ _ _ | exact Hs.app _ | exact Hs.sub (by simp)) (by kernel_rfl) Z ?_
   refine R.storeAll (G1 := [_, _]) Z Z Z Z Z Tryz.sizeOf53 Z Z Z Z ?_
   refine GOps.nil ?_
   refine GA.done (by first | exact Hs.sub (by repeat (first | exact List.Sublist.refl _ | exact List.sublist_append_right _ _ | apply List.Sublist.cons_cons | apply List.Sublist.cons | refine List.Sublist.trans ?_ (List.sublist_append_right _ _))) | exact Hs.refl _ | exact Hs.tl _ | exact Hs.tl2 _ _ | exact Hs.tl3 _ _ _ | exact Hs.app _ | exact Hs.sub (by simp)) (by kernel_rfl) ?_
   refine GW.seq ?_
   refine GW.region ?_
   refine R.move ⟨Z,Z,Z,Z⟩ Z ?_
   refine R.nilCheck ⟨Z,Z,Z,Z⟩ Z ?_
   refine R.fieldAddr ⟨Z,Z,Z,Z⟩ Z Tryz.underlying60 Z Tryz.sizeOf53 ?_
   refine R.load1 ⟨Z,Z,Z,Z⟩ Z Tryz.underlying53 Z (.own' memG (by rfl)) ?_
   refine R.lenS ⟨Z,Z,Z,Z⟩ Z Z Tryz.underlying53 ?_
   refine R.conv (r := ((L.length + 1 : Nat) : Int)) ⟨Z,Z,Z,Z⟩ Z Tryz.underlying3 Tryz.underlying35 (u32_id _ (by omega)) ?_
   refine R.assign ⟨Z,Z,Z,Z⟩ Z ?_
   refine GOps.nil ?_
   first | (rw [numF_yes h0 hu (by assumption)]; exact GW.ret (Out.of (Res.one rfl rfl) (Hs.tl _) ⟨_, Hl, ⟨rfl, hL⟩, rfl⟩)) | (rw [numF_no h0]; exact GW.ret (Out.of (Res.one rfl rfl) (Hs.tl2 _ _) ⟨_, H34, ⟨rfl, tms_snoc hv34⟩, rfl⟩))
  ·refine R.buildSliceF (sz := 3) (bytes := 40) (vs := [_]) (cs := TmC t) ⟨Z,Z,Z,Z⟩ Z Tryz.underlying53 (InfoE.mk (by kernel_rfl)) Z Z Z Z Z fun b33 => ?_
   refine GOps.nil ?_
   refine GA.one 4 (by first | exact Hs.sub (by repeat (first | exact List.Sublist.refl _ | exact List.sublist_append_right _ _ | apply List.Sublist.cons_cons | apply List.Sublist.cons | refine List.Sublist.trans ?_ (List.sublist_append_right _ _))) | exact Hs.refl _ | exact Hs.tl _ | exact Hs.tl2 _ _ | exact Hs.tl3 _ _ _ | exact Hs.app _ | exact Hs.sub (by simp)) (by kernel_rfl) Z ?_
   refine R.load1 ⟨Z,Z,Z,Z⟩ Z Tryz.underlying53 Z (.own' memG (by rfl)) ?_
   refine GOps.nil ?_
   refine GA.one 7 (by first | exact Hs.sub (by repeat (first | exact List.Sublist.refl _ | exact List.sublist_append_right _ _ | apply List.Sublist.cons_cons | apply List.Sublist.cons | refine List.Sublist.trans ?_ (List.sublist_append_right _ _))) | exact Hs.refl _ | exact Hs.tl _ | exact Hs.tl2 _ _ | exact Hs.tl3 _ _ _ | exact Hs.app _ | exact Hs.sub (by simp)) (by kernel_rfl) Z ?_
   refine R.append (sz := 3) (bytes := 40) (G1 := [_, _, _]) (H := Hl) (news := TmC t) ⟨Z,Z,Z,Z⟩ Z Z Z Tryz.underlying53 (InfoE.mk (by kernel_rfl)) (hL) (Z) (Z) (.own memH 0 _ (fun j v hv => by simpa using hv)) (by omega) (by rfl) (by omega) (by omega) fun v34 H34 hv34 => ?_
   obtain ⟨A34, c34, rfl, hc34⟩ := hv34.split
   refine GOps.nil ?_
   refine GA.w 8 Z (V.nilCheck ⟨Z,Z,Z,Z⟩ Z) Z ?_
   refine GA.w 9 Z (V.fieldAddr ⟨Z,Z,Z,Z⟩ Z Tryz.underlying60 Z Tryz.sizeOf53) Z ?_
   refine GA.one 10 (by first | exact Hs.sub (by repeat (first | exact List.Sublist.refl _ | exact List.sublist_append_right _ _ | apply List.Sublist.cons_cons | apply List.Sublist.cons | refine List.Sublist.trans ?_ (List.sublist_append_right _ _))) | exact Hs.refl _ | exact Hs.tl _ | exact Hs.tl2 _ _ | exact Hs.tl3 _ _ _ | exact Hs.app _ | exact Hs.sub (by simp)) (by kernel_rfl) Z ?_
   refine R.storeAll (G1 := [_, _]) Z Z Z Z Z Tryz.sizeOf53 Z Z Z Z ?_
   refine GOps.nil ?_
   refine GA.done (by first | exact Hs.sub (by repeat (first | exact List.Sublist.refl _ | exact List.sublist_append_right _ _ | apply List.Sublist.cons_cons | apply List.Sublist.cons | refine List.Sublist.trans ?_ (List.sublist_append_right _ _))) | exact Hs.refl _ | exact Hs.tl _ | exact Hs.tl2 _ _ | exact Hs.tl3 _ _ _ | exact Hs.app _ | exact Hs.sub (by simp)) (by kernel_rfl) ?_
   refine GW.seq ?_
   refine GW.region ?_
   refine R.move ⟨Z,Z,Z,Z⟩ Z ?_
   refine R.nilCheck ⟨Z,Z,Z,Z⟩ Z ?_
   refine R.fieldAddr ⟨Z,Z,Z,Z⟩ Z Tryz.underlying60 Z Tryz.sizeOf53 ?_
   refine R.load1 ⟨Z,Z,Z,Z⟩ Z Tryz.underlying53 Z (.own' memG (by rfl)) ?_
   refine R.lenS ⟨Z,Z,Z,Z⟩ Z Z Tryz.underlying53 ?_
   refine R.conv (r := ((L.length + 1 : Nat) : Int)) ⟨Z,Z,Z,Z⟩ Z Tryz.underlying3 Tryz.underlying35 (u32_id _ (by omega)) ?_
   refine R.assign ⟨Z,Z,Z,Z⟩ Z ?_
   refine GOps.nil ?_
   first | (rw [numF_yes h0 hu (by assumption)]; exact GW.ret (Out.of (Res.one rfl rfl) (Hs.tl _) ⟨_, Hl, ⟨rfl, hL⟩, rfl⟩)) | (rw [numF_no h0]; exact GW.ret (Out.of (Res.one rfl rfl) (Hs.tl2 _ _) ⟨_, H34, ⟨rfl, tms_snoc hv34⟩, rfl⟩))
theorem ref_Place (w0 : World) (G : Hp) (L : List Tm) (bW : Nat) (v : Value) (Hl : Hp) (hL : SlAt 3 24 (tmsC L) L.length v Hl) (hm : L.length ≤ 100000) (A : Option Addr) (vars : List ByteArray) (c : Nat) (hv : StAt w0 G A vars) (hvm : vars.length ≤ 100000) (s : Sl) : GC Tryz.prog w0 38 #[.pointer (some ⟨bW, 0, none⟩), .slice A vars.length c, .agg (SlC s).toArray] (fun r G' => ∃ v' Hl', (r = .agg (PlC (placeW vars L s).1).toArray ∧ SlAt 3 24 (tmsC (placeW vars L s).2) (placeW vars L s).2.length v' Hl') ∧ (bW, woC v') :: (Hl' ++ G) = G') ((bW, woC v) :: (Hl ++ G)) := by
 refine GC.body (args := [.pointer (some ⟨bW, 0, none⟩), .slice A vars.length c, .agg (SlC s).toArray]) Tryz.func38 rfl (by kernel_rfl) rfl ?_
 refine GW.seq ?_
 refine GW.region ?_
 refine R.box ⟨Z,Z,Z,Z⟩ Z fun b5 => ?_
 refine R.alloc ⟨Z,Z,Z,Z⟩ Tryz.zeroValue37 fun b6 => ?_
 refine GOps.nil ?_
 refine GW.seq ?_
 refine GW.seq ?_
 refine GW.region ?_
 refine R.assign ⟨Z,Z,Z,Z⟩ Z ?_
 refine GOps.nil ?_
 refine GW.block ?_
 refine GW.loopI (fun i : Nat => [(0, .pointer (some ⟨bW, 0, none⟩)), (1, .slice A vars.length c), (5, .pointer (some ⟨b5, 0, none⟩)), (6, .pointer (some ⟨b6, 0, none⟩)), (7, .int .i64 i)]) (fun i => (b6, .exact (.cells #[.int .i64 0, .int .u32 0] 37 (0, 0))) :: (b5, .exact (.cells (Value.agg (SlC s).toArray).cells 26 (0, 0))) :: (bW, woC v) :: (Hl ++ G)) (fun i => vars.length - i) (fun i => i ≤ vars.length ∧ (emp s.v = true ∨ (vars.take i).any (fun x => s.v.toList == x.toList) = false)) 0
  (keepG) (Hs.refl _) (⟨by omega, .inr (by simp)⟩) ?_
 rintro i ⟨hi, h0⟩
 refine GW.seq ?_
 refine GW.seq ?_
 refine GW.region ?_
 refine R.move ⟨Z,Z,Z,Z⟩ Z ?_
 refine R.move ⟨Z,Z,Z,Z⟩ Z ?_
 refine R.lenS ⟨Z,Z,Z,Z⟩ Z Z Tryz.underlying61 ?_
 refine R.lss ⟨Z,Z,Z,Z⟩ Z Z ?_
 refine GOps.nil ?_
 refine GW.ite Z (fun hc1 => ?_) (fun hc1 => ?_)
 ·try simp only [dcQ] at hc1
  obtain ⟨x, hx⟩ : ∃ x, vars[i]? = some x := ⟨_, List.getElem?_eq_getElem (by omega)⟩
  obtain ⟨xb, xo, rfl, hrd⟩ := str_load hv hx
  refine GW.skip ?_
  refine GW.seq ?_
  refine GW.block ?_
  refine GW.seq ?_
  refine GW.drawS 12 Z (by kernel_rfl) ?_
  refine GA.w 0 Z (V.fieldAddr ⟨Z,Z,Z,Z⟩ Z Tryz.underlying26 Z Tryz.sizeOf9) Z ?_
  refine GA.val 1 Z (V.load1 ⟨Z,Z,Z,Z⟩ Z Tryz.underlying9 Z (.own' memG (by rfl))) Z (by kernel_rfl) (by kernel_rfl) (by kernel_rfl) ?_
  refine GA.val 2 Z (V.neS ⟨Z,Z,Z,Z⟩ Z Z) Z (by kernel_rfl) (by kernel_rfl) (by kernel_rfl) ?_
  refine GA.w 3 Z (V.move ⟨Z,Z,Z,Z⟩ Z) Z ?_
  refine GA.caseB 17 Z (fun hg2 => ?_) (fun hg2 => ?_)
  ·try simp only [dcQ] at hg2
   refine GA.w 4 Z (V.move ⟨Z,Z,Z,Z⟩ Z) Z ?_
   refine GA.w 5 Z (V.move ⟨Z,Z,Z,Z⟩ Z) Z ?_
   refine GA.val 6 Z (V.indexAddrS ⟨Z,Z,Z,Z⟩ Z Z Tryz.underlying61 Tryz.sizeOf9 (by omega) (by omega)) Z (by kernel_rfl) (by kernel_rfl) (by kernel_rfl) ?_
   refine GA.val 7 Z (V.load1 ⟨Z,Z,Z,Z⟩ Z Tryz.underlying9 Z (hrd.mono (fun y hy => by repeat (first | exact hy | apply List.mem_cons_of_mem | apply List.mem_append_right)))) Z (by kernel_rfl) (by kernel_rfl) (by kernel_rfl) ?_
   refine GA.w 8 Z (V.fieldAddr ⟨Z,Z,Z,Z⟩ Z Tryz.underlying26 Z Tryz.sizeOf9) Z ?_
   refine GA.val 9 Z (V.load1 ⟨Z,Z,Z,Z⟩ Z Tryz.underlying9 Z (.own' memG (by rfl))) Z (by kernel_rfl) (by kernel_rfl) (by kernel_rfl) ?_
   refine GA.val 10 Z (V.eqS ⟨Z,Z,Z,Z⟩ Z Z) Z (by kernel_rfl) (by kernel_rfl) (by kernel_rfl) ?_
   refine GA.w 11 Z (V.pick_t ⟨Z,Z,Z,Z⟩ Z Z) Z ?_
   refine GA.done hsC (by kernel_rfl) ?_
   refine GW.ite Z (fun hc3 => ?_) (fun hc3 => ?_)
   ·try simp only [dcQ] at hc3
    refine GW.seq ?_
    refine GW.region ?_
    refine R.move ⟨Z,Z,Z,Z⟩ Z ?_
    refine R.build (vs := [(0, _)]) (cells := (PlC ⟨(i : Nat), 0⟩).toArray) ⟨Z,Z,Z,Z⟩ Z (fun w => run_build w 37 _ _ (by kernel_rfl)) ?_
    refine R.storeAll (G1 := []) Z Z Z Z Z Tryz.sizeOf37 Z Z Z Z ?_
    refine GOps.nil ?_
    first | (replace hg2 : emp s.v = false := hg2; rw [placeW_var hg2 (h0.resolve_left (by rw [hg2]; simp)) hx (by rw [beq_toList_comm]; assumption)]; exact GW.ret (Out.of (resCellA rfl rfl Tryz.underlying37 rfl Tryz.sizeOf37 (Rds.own (C := (PlC ⟨(i : Nat), 0⟩).toArray) memH 0 (PlC ⟨(i : Nat), 0⟩) (fun j v hv => by simpa using hv)) rfl) (Hs.tl2 _ _) ⟨_, Hl, ⟨rfl, hL⟩, rfl⟩)) | (rw [placeW_t h0]; exact GW.ret (Out.of (resCellA rfl rfl Tryz.underlying37 rfl Tryz.sizeOf37 (Rds.own (C := (PlC ⟨-1, (numF L s.t).1⟩).toArray) memH 0 (PlC ⟨-1, (numF L s.t).1⟩) (fun j v hv => by simpa using hv)) rfl) (Hs.tl2 _ _) ⟨v2, Hl2, ⟨rfl, hL2⟩, rfl⟩))
   ·try simp only [dcQ] at hc3
    refine GW.skip ?_
    refine GW.region ?_
    refine R.move ⟨Z,Z,Z,Z⟩ Z ?_
    refine R.add (r := (((i + 1) : Nat) : Int)) ⟨Z,Z,Z,Z⟩ Z Z (by rw [wrap64_id (by omega) (by omega)]; omega) ?_
    refine R.assign ⟨Z,Z,Z,Z⟩ Z ?_
    refine GOps.nil ?_
    first | exact ⟨i + 1, by omega, ⟨by omega, .inl hg2⟩, rfl, keepG, Hs.refl _⟩ | (replace hg2 : emp s.v = false := hg2; exact ⟨i + 1, by omega, ⟨by omega, .inr (any_take_succ _ vars i x hx (h0.resolve_left (by rw [hg2]; simp)) (by rw [beq_toList_comm]; assumption))⟩, rfl, keepG, Hs.refl _⟩)
  ·try simp only [dcQ] at hg2
   refine GA.sk 4 Z Z Z Z Z ?_
   refine GA.sk 5 Z Z Z Z Z ?_
   refine GA.sk 6 Z Z Z Z Z ?_
   refine GA.sk 7 Z Z Z Z Z ?_
   refine GA.sk 8 Z Z Z Z Z ?_
   refine GA.sk 9 Z Z Z Z Z ?_
   refine GA.sk 10 Z Z Z Z Z ?_
   refine GA.w 11 Z (V.pick_f ⟨Z,Z,Z,Z⟩ Z Z) Z ?_
   refine GA.done hsC (by kernel_rfl) ?_
   refine GW.cond_f Z ?_
   refine GW.skip ?_
   refine GW.region ?_
   refine R.move ⟨Z,Z,Z,Z⟩ Z ?_
   refine R.add (r := (((i + 1) : Nat) : Int)) ⟨Z,Z,Z,Z⟩ Z Z (by rw [wrap64_id (by omega) (by omega)]; omega) ?_
   refine R.assign ⟨Z,Z,Z,Z⟩ Z ?_
   refine GOps.nil ?_
   first | exact ⟨i + 1, by omega, ⟨by omega, .inl hg2⟩, rfl, keepG, Hs.refl _⟩ | (replace hg2 : emp s.v = false := hg2; exact ⟨i + 1, by omega, ⟨by omega, .inr (any_take_succ _ vars i x hx (h0.resolve_left (by rw [hg2]; simp)) (by rw [beq_toList_comm]; assumption))⟩, rfl, keepG, Hs.refl _⟩)
 ·try simp only [dcQ] at hc1
  rw [List.take_of_length_le (by omega)] at h0
  refine GW.exit ?_
  refine GW.seq ?_
  refine GW.region ?_
  refine R.move ⟨Z,Z,Z,Z⟩ Z ?_
  refine R.fieldAddr ⟨Z,Z,Z,Z⟩ Z Tryz.underlying26 Z Tryz.sizeOf24 ?_
  refine R.load_own (cs := TmC s.t) ⟨Z,Z,Z,Z⟩ Z Tryz.underlying24 Z Tryz.sizeOf24 memG (by rfl) (by rfl) ?_
  refine GOps.weak (Keeps.refl _) (Hs.toM2 _ _ _ _ _) ?_
  refine R.call ⟨Z,Z,Z,Z⟩ Z (vs := [_, _]) Z ((ref_Number _ _ L bW v Hl hL hm s.t).mono ?_)
  rintro _ _ ⟨v2, Hl2, ⟨rfl, hL2⟩, rfl⟩
  refine GOps.weak (Keeps.refl _) (Hs.fromM2 _ _ _ _ _) ?_
  refine R.build (vs := [(0, _), (1, _)]) (cells := (PlC ⟨-1, (numF L s.t).1⟩).toArray) ⟨Z,Z,Z,Z⟩ Z (fun w => run_build w 37 _ _ (by kernel_rfl)) ?_
  refine R.storeAll (G1 := []) Z Z Z Z Z Tryz.sizeOf37 Z Z Z Z ?_
  refine GOps.nil ?_
  first | (replace hg2 : emp s.v = false := hg2; rw [placeW_var hg2 (h0.resolve_left (by rw [hg2]; simp)) hx (by rw [beq_toList_comm]; assumption)]; exact GW.ret (Out.of (resCellA rfl rfl Tryz.underlying37 rfl Tryz.sizeOf37 (Rds.own (C := (PlC ⟨(i : Nat), 0⟩).toArray) memH 0 (PlC ⟨(i : Nat), 0⟩) (fun j v hv => by simpa using hv)) rfl) (Hs.tl2 _ _) ⟨_, Hl, ⟨rfl, hL⟩, rfl⟩)) | (rw [placeW_t h0]; exact GW.ret (Out.of (resCellA rfl rfl Tryz.underlying37 rfl Tryz.sizeOf37 (Rds.own (C := (PlC ⟨-1, (numF L s.t).1⟩).toArray) memH 0 (PlC ⟨-1, (numF L s.t).1⟩) (fun j v hv => by simpa using hv)) rfl) (Hs.tl2 _ _) ⟨v2, Hl2, ⟨rfl, hL2⟩, rfl⟩))
theorem ref_RowW (w0 : World) (G : Hp) (L : List Tm) (bW : Nat) (v : Value) (Hl : Hp) (hL : SlAt 3 24 (tmsC L) L.length v Hl) (hm : L.length ≤ 90000) (A : Option Addr) (vars : List ByteArray) (c : Nat) (hv : StAt w0 G A vars) (hvm : vars.length ≤ 100000) (p : Pt) : GC Tryz.prog w0 16 #[.pointer (some ⟨bW, 0, none⟩), .slice A vars.length c, .agg (PtC p).toArray] (fun r G' => ∃ v' Hl', (r = .agg (RwC (rowW vars L p).1).toArray ∧ SlAt 3 24 (tmsC (rowW vars L p).2) (rowW vars L p).2.length v' Hl') ∧ (bW, woC v') :: (Hl' ++ G) = G') ((bW, woC v) :: (Hl ++ G)) := by
 refine GC.body (args := [.pointer (some ⟨bW, 0, none⟩), .slice A vars.length c, .agg (PtC p).toArray]) Tryz.func16 rfl (by kernel_rfl) rfl ?_
 refine GW.seq ?_
 refine GW.region ?_
 refine R.box ⟨Z,Z,Z,Z⟩ Z fun b5 => ?_
 refine R.alloc ⟨Z,Z,Z,Z⟩ Tryz.zeroValue38 fun b6 => ?_
 refine GOps.nil ?_
 refine GW.seq ?_
 refine GW.region ?_
 refine R.alloc ⟨Z,Z,Z,Z⟩ Tryz.zeroValue38 fun b7 => ?_
 refine GOps.nil ?_
 refine GW.seq ?_
 refine GW.seq ?_
 refine GW.region ?_
 refine R.assign ⟨Z,Z,Z,Z⟩ Z ?_
 refine GOps.nil ?_
 refine GW.block ?_
 refine GW.loop4 (fun (k : Nat) (a : List Pl × List Tm) (h : Value × Hp) (u1 : Unit) => [(0, .pointer (some ⟨bW, 0, none⟩)), (1, .slice A vars.length c), (5, .pointer (some ⟨b5, 0, none⟩)), (6, .pointer (some ⟨b6, 0, none⟩)), (7, .pointer (some ⟨b7, 0, none⟩)), (8, .int .i64 k)]) (fun (k : Nat) (a : List Pl × List Tm) (h : Value × Hp) (u1 : Unit) => (b7, .exact (.cells (padC a.1) 38 (0, 0))) :: (b6, .exact (.cells (padC []) 38 (0, 0))) :: (b5, .exact (.cells (Value.agg (PtC p).toArray).cells 28 (0, 0))) :: (bW, woC h.1) :: (h.2 ++ G)) (fun k : Nat => 3 - k) (fun (k : Nat) (a : List Pl × List Tm) (h : Value × Hp) (u1 : Unit) => k ≤ 3 ∧ a = rowToW vars L p k ∧ a.1.length = k ∧ a.2.length ≤ L.length + k ∧ SlAt 3 24 (tmsC a.2) a.2.length h.1 h.2) 0 (([], L)) ((v, Hl)) (())
  (keepG) (Hs.refl _) (⟨by omega, rfl, rfl, by simp, hL⟩) ?_
 rintro k a h u1 ⟨hk, ha, hal, ham, hL2⟩
 refine GW.seq ?_
 refine GW.seq ?_
 refine GW.region ?_
 refine R.move ⟨Z,Z,Z,Z⟩ Z ?_
 refine R.lss ⟨Z,Z,Z,Z⟩ Z Z ?_
 refine GOps.nil ?_
 refine GW.ite Z (fun hc1 => ?_) (fun hc1 => ?_)
 ·try simp only [dcQ] at hc1
  obtain ⟨s, hs, hsm, hse⟩ := pt_index (p := p) (k := k) (by omega)
  refine GW.skip ?_
  refine GW.seq ?_
  refine GW.block ?_
  refine GW.region ?_
  refine R.move ⟨Z,Z,Z,Z⟩ Z ?_
  refine R.move ⟨Z,Z,Z,Z⟩ Z ?_
  refine R.move ⟨Z,Z,Z,Z⟩ Z ?_
  refine R.move ⟨Z,Z,Z,Z⟩ Z ?_
  refine R.indexAddrA ⟨Z,Z,Z,Z⟩ Z Z Tryz.underlying28 Tryz.sizeOf26 (by omega) (by omega) ?_
  refine R.loadA ⟨Z,Z,Z,Z⟩ Z Tryz.underlying26 Z Tryz.sizeOf26 (pt_load memH hs) (by rfl) ?_
  refine GOps.weak (Keeps.refl _) (Hs.toM3 _ _ _ _ _ _) ?_
  refine R.call ⟨Z,Z,Z,Z⟩ Z (vs := [_, _, _]) Z ((ref_Place _ _ (a.2) bW h.1 h.2 hL2 ((by omega)) A vars c (hv.mono (fun y hy => by repeat (first | exact hy | apply List.mem_cons_of_mem | apply List.mem_append_right))) hvm s).mono ?_)
  rintro _ _ ⟨v3, Hl3, ⟨rfl, hL3⟩, rfl⟩
  refine GOps.weak (Keeps.refl _) (Hs.fromM3 _ _ _ _ _ _) ?_
  refine R.indexAddrA ⟨Z,Z,Z,Z⟩ Z Z Tryz.underlying38 Tryz.sizeOf37 (by omega) (by omega) ?_
  refine R.store (G1 := []) Z Z Z Z Z Tryz.sizeOf37 Z Z (Z) (by rw [pad_size]; omega) ?_
  refine GOps.nil ?_
  refine GW.region ?_
  refine R.move ⟨Z,Z,Z,Z⟩ Z ?_
  refine R.add (r := (((k + 1) : Nat) : Int)) ⟨Z,Z,Z,Z⟩ Z Z (by rw [wrap64_id (by omega) (by omega)]; omega) ?_
  refine R.assign ⟨Z,Z,Z,Z⟩ Z ?_
  refine GOps.nil ?_
  exact ⟨k + 1, rowStepW vars a s, (v3, Hl3), (), by omega, ⟨by omega, by rw [rowToW_succ hs, ← ha], by show (a.1 ++ [_]).length = k + 1; rw [List.length_append, hal]; rfl, by have := placeW_len vars a.2 s; show (placeW vars a.2 s).2.length ≤ _; omega, hL3⟩, rfl, keepG, by first | exact Hs.refl _ | exact Hs.tl _ | exact Hs.tl2 _ _ | exact Hs.padTl1 (pad_put _ hal (by omega)) _⟩
 ·try simp only [dcQ] at hc1
  obtain rfl : k = 3 := by omega
  rw [rowToW_3] at ha
  subst ha
  obtain ⟨v4, Hl4⟩ := h
  refine GW.exit ?_
  refine GW.seq ?_
  refine GW.region ?_
  refine R.load_own (cs := RwC (rowW vars L p).1) ⟨Z,Z,Z,Z⟩ Z Tryz.underlying38 Z Tryz.sizeOf38 memG (by rfl) (by rfl) ?_
  refine R.storeAll (G1 := [_]) Z Z Z Z Z Tryz.sizeOf38 Z Z Z Z ?_
  refine GOps.nil ?_
  exact GW.ret (Out.of (resCellA rfl rfl Tryz.underlying38 rfl Tryz.sizeOf38 (Rds.own (C := (RwC (rowW vars L p).1).toArray) memH 0 (RwC (rowW vars L p).1) (fun j v hv => by simpa using hv)) rfl) (Hs.tl3 _ _ _) ⟨v4, Hl4, ⟨rfl, hL2⟩, rfl⟩)
theorem ref_StepW (w0 : World) (G : Hp) (L : List Tm) (bW : Nat) (v : Value) (Hl : Hp) (hL : SlAt 3 24 (tmsC L) L.length v Hl) (hm : L.length ≤ 90000) (A : Option Addr) (vars : List ByteArray) (c : Nat) (hv : StAt w0 G A vars) (hvm : vars.length ≤ 100000) (l : Lt) : GC Tryz.prog w0 39 #[.pointer (some ⟨bW, 0, none⟩), .slice A vars.length c, .agg (LtC l).toArray] (fun r G' => ∃ v' Hl', (r = .agg (StC (stepW vars L l).1).toArray ∧ SlAt 3 24 (tmsC (stepW vars L l).2) (stepW vars L l).2.length v' Hl') ∧ (bW, woC v') :: (Hl' ++ G) = G') ((bW, woC v) :: (Hl ++ G)) := by
 refine GC.body (args := [.pointer (some ⟨bW, 0, none⟩), .slice A vars.length c, .agg (LtC l).toArray]) Tryz.func39 rfl (by kernel_rfl) rfl ?_
 refine GW.seq ?_
 refine GW.region ?_
 refine R.box ⟨Z,Z,Z,Z⟩ Z fun b5 => ?_
 refine R.alloc ⟨Z,Z,Z,Z⟩ Tryz.zeroValue50 fun b6 => ?_
 refine GOps.nil ?_
 refine GW.seq ?_
 refine GW.seq ?_
 refine GW.region ?_
 refine R.fieldAddr ⟨Z,Z,Z,Z⟩ Z Tryz.underlying89 Z Tryz.sizeOf87 ?_
 refine R.load1 ⟨Z,Z,Z,Z⟩ Z Tryz.underlying87 Z (.own' memG (by rfl)) ?_
 refine R.eqI ⟨Z,Z,Z,Z⟩ Z Z ?_
 refine GOps.nil ?_
 refine GW.ite Z (fun hc1 => ?_) (fun hc1 => ?_)
 ·try simp only [dcQ] at hc1
  refine GW.seq ?_
  refine GW.region ?_
  refine R.move ⟨Z,Z,Z,Z⟩ Z ?_
  refine R.move ⟨Z,Z,Z,Z⟩ Z ?_
  refine R.fieldAddr ⟨Z,Z,Z,Z⟩ Z Tryz.underlying89 Z Tryz.sizeOf28 ?_
  refine R.load_own (cs := PtC l.pat) ⟨Z,Z,Z,Z⟩ Z Tryz.underlying28 Z Tryz.sizeOf28 memG (by rfl) (by rfl) ?_
  refine GOps.weak (Keeps.refl _) (Hs.toM2 _ _ _ _ _) ?_
  refine R.call ⟨Z,Z,Z,Z⟩ Z (vs := [_, _, _]) Z ((ref_RowW _ _ L bW v Hl hL hm A vars c (hv.mono (fun y hy => by repeat (first | exact hy | apply List.mem_cons_of_mem | apply List.mem_append_right))) hvm l.pat).mono ?_)
  rintro _ _ ⟨v2, Hl2, ⟨rfl, hL2⟩, rfl⟩
  refine GOps.weak (Keeps.refl _) (Hs.fromM2 _ _ _ _ _) ?_
  refine R.build (vs := [(0, _), (1, _)]) (cells := (StC ⟨1, (rowW vars L l.pat).1, zPl, zPl⟩).toArray) ⟨Z,Z,Z,Z⟩ Z (fun w => run_build w 50 _ _ (by kernel_rfl)) ?_
  refine R.storeAll (G1 := []) Z Z Z Z Z Tryz.sizeOf50 Z Z Z Z ?_
  refine GOps.nil ?_
  first | (rw [stepW_1 (by assumption)]; exact GW.ret (Out.of (resCellA rfl rfl Tryz.underlying50 rfl Tryz.sizeOf50 (Rds.own (C := (StC ⟨1, (rowW vars L l.pat).1, zPl, zPl⟩).toArray) memH 0 (StC ⟨1, (rowW vars L l.pat).1, zPl, zPl⟩) (fun j v hv => by simpa using hv)) rfl) (Hs.tl2 _ _) ⟨v2, Hl2, ⟨rfl, hL2⟩, rfl⟩)) | (rw [stepW_2 (by assumption) (by assumption)]; exact GW.ret (Out.of (resCellA rfl rfl Tryz.underlying50 rfl Tryz.sizeOf50 (Rds.own (C := (StC ⟨2, (rowW vars L l.pat).1, zPl, zPl⟩).toArray) memH 0 (StC ⟨2, (rowW vars L l.pat).1, zPl, zPl⟩) (fun j v hv => by simpa using hv)) rfl) (Hs.tl2 _ _) ⟨v2, Hl2, ⟨rfl, hL2⟩, rfl⟩)) | (rw [stepW_4 (by assumption) (by assumption) (by assumption)]; exact GW.ret (Out.of (resCellA rfl rfl Tryz.underlying50 rfl Tryz.sizeOf50 (Rds.own (C := (StC ⟨4, zRw, (placeW vars L l.a).1, (placeW vars (placeW vars L l.a).2 l.b).1⟩).toArray) memH 0 (StC ⟨4, zRw, (placeW vars L l.a).1, (placeW vars (placeW vars L l.a).2 l.b).1⟩) (fun j v hv => by simpa using hv)) rfl) (Hs.tl2 _ _) ⟨v3, Hl3, ⟨rfl, hL3⟩, rfl⟩)) | (rw [stepW_3 (by assumption) (by assumption) (by assumption)]; exact GW.ret (Out.of (resCellA rfl rfl Tryz.underlying50 rfl Tryz.sizeOf50 (Rds.own (C := (StC ⟨3, zRw, (placeW vars L l.a).1, (placeW vars (placeW vars L l.a).2 l.b).1⟩).toArray) memH 0 (StC ⟨3, zRw, (placeW vars L l.a).1, (placeW vars (placeW vars L l.a).2 l.b).1⟩) (fun j v hv => by simpa using hv)) rfl) (Hs.tl2 _ _) ⟨v3, Hl3, ⟨rfl, hL3⟩, rfl⟩))
 ·try simp only [dcQ] at hc1
  refine GW.skip ?_
  refine GW.seq ?_
  refine GW.seq ?_
  refine GW.region ?_
  refine R.fieldAddr ⟨Z,Z,Z,Z⟩ Z Tryz.underlying89 Z Tryz.sizeOf87 ?_
  refine R.load1 ⟨Z,Z,Z,Z⟩ Z Tryz.underlying87 Z (.own' memG (by rfl)) ?_
  refine R.eqI ⟨Z,Z,Z,Z⟩ Z Z ?_
  refine GOps.nil ?_
  refine GW.ite Z (fun hc2 => ?_) (fun hc2 => ?_)
  ·try simp only [dcQ] at hc2
   refine GW.seq ?_
   refine GW.region ?_
   refine R.move ⟨Z,Z,Z,Z⟩ Z ?_
   refine R.move ⟨Z,Z,Z,Z⟩ Z ?_
   refine R.fieldAddr ⟨Z,Z,Z,Z⟩ Z Tryz.underlying89 Z Tryz.sizeOf28 ?_
   refine R.load_own (cs := PtC l.pat) ⟨Z,Z,Z,Z⟩ Z Tryz.underlying28 Z Tryz.sizeOf28 memG (by rfl) (by rfl) ?_
   refine GOps.weak (Keeps.refl _) (Hs.toM2 _ _ _ _ _) ?_
   refine R.call ⟨Z,Z,Z,Z⟩ Z (vs := [_, _, _]) Z ((ref_RowW _ _ L bW v Hl hL hm A vars c (hv.mono (fun y hy => by repeat (first | exact hy | apply List.mem_cons_of_mem | apply List.mem_append_right))) hvm l.pat).mono ?_)
   rintro _ _ ⟨v2, Hl2, ⟨rfl, hL2⟩, rfl⟩
   refine GOps.weak (Keeps.refl _) (Hs.fromM2 _ _ _ _ _) ?_
   refine R.build (vs := [(0, _), (1, _)]) (cells := (StC ⟨2, (rowW vars L l.pat).1, zPl, zPl⟩).toArray) ⟨Z,Z,Z,Z⟩ Z (fun w => run_build w 50 _ _ (by kernel_rfl)) ?_
   refine R.storeAll (G1 := []) Z Z Z Z Z Tryz.sizeOf50 Z Z Z Z ?_
   refine GOps.nil ?_
   first | (rw [stepW_1 (by assumption)]; exact GW.ret (Out.of (resCellA rfl rfl Tryz.underlying50 rfl Tryz.sizeOf50 (Rds.own (C := (StC ⟨1, (rowW vars L l.pat).1, zPl, zPl⟩).toArray) memH 0 (StC ⟨1, (rowW vars L l.pat).1, zPl, zPl⟩) (fun j v hv => by simpa using hv)) rfl) (Hs.tl2 _ _) ⟨v2, Hl2, ⟨rfl, hL2⟩, rfl⟩)) | (rw [stepW_2 (by assumption) (by assumption)]; exact GW.ret (Out.of (resCellA rfl rfl Tryz.underlying50 rfl Tryz.sizeOf50 (Rds.own (C := (StC ⟨2, (rowW vars L l.pat).1, zPl, zPl⟩).toArray) memH 0 (StC ⟨2, (rowW vars L l.pat).1, zPl, zPl⟩) (fun j v hv => by simpa using hv)) rfl) (Hs.tl2 _ _) ⟨v2, Hl2, ⟨rfl, hL2⟩, rfl⟩)) | (rw [stepW_4 (by assumption) (by assumption) (by assumption)]; exact GW.ret (Out.of (resCellA rfl rfl Tryz.underlying50 rfl Tryz.sizeOf50 (Rds.own (C := (StC ⟨4, zRw, (placeW vars L l.a).1, (placeW vars (placeW vars L l.a).2 l.b).1⟩).toArray) memH 0 (StC ⟨4, zRw, (placeW vars L l.a).1, (placeW vars (placeW vars L l.a).2 l.b).1⟩) (fun j v hv => by simpa using hv)) rfl) (Hs.tl2 _ _) ⟨v3, Hl3, ⟨rfl, hL3⟩, rfl⟩)) | (rw [stepW_3 (by assumption) (by assumption) (by assumption)]; exact GW.ret (Out.of (resCellA rfl rfl Tryz.underlying50 rfl Tryz.sizeOf50 (Rds.own (C := (StC ⟨3, zRw, (placeW vars L l.a).1, (placeW vars (placeW vars L l.a).2 l.b).1⟩).toArray) memH 0 (StC ⟨3, zRw, (placeW vars L l.a).1, (placeW vars (placeW vars L l.a).2 l.b).1⟩) (fun j v hv => by simpa using hv)) rfl) (Hs.tl2 _ _) ⟨v3, Hl3, ⟨rfl, hL3⟩, rfl⟩))
  ·try simp only [dcQ] at hc2
   refine GW.skip ?_
   refine GW.seq ?_
   refine GW.region ?_
   refine R.assign ⟨Z,Z,Z,Z⟩ Z ?_
   refine GOps.nil ?_
   refine GW.seq ?_
   refine GW.seq ?_
   refine GW.region ?_
   refine R.fieldAddr ⟨Z,Z,Z,Z⟩ Z Tryz.underlying89 Z Tryz.sizeOf87 ?_
   refine R.load1 ⟨Z,Z,Z,Z⟩ Z Tryz.underlying87 Z (.own' memG (by rfl)) ?_
   refine R.eqI ⟨Z,Z,Z,Z⟩ Z Z ?_
   refine GOps.nil ?_
   refine GW.ite Z (fun hc3 => ?_) (fun hc3 => ?_)
   ·try simp only [dcQ] at hc3
    refine GW.region ?_
    refine R.assign ⟨Z,Z,Z,Z⟩ Z ?_
    refine GOps.nil ?_
    refine GW.seq ?_
    refine GW.draw ((b5, .exact (.cells (Value.agg (LtC l).toArray).cells 89 (0, 0))) :: G) 13 Z (by kernel_rfl) ?_
    refine GA.w 0 Z (V.move ⟨Z,Z,Z,Z⟩ Z) Z ?_
    refine GA.w 1 Z (V.move ⟨Z,Z,Z,Z⟩ Z) Z ?_
    refine GA.w 2 Z (V.move ⟨Z,Z,Z,Z⟩ Z) Z ?_
    refine GA.w 3 Z (V.fieldAddr ⟨Z,Z,Z,Z⟩ Z Tryz.underlying89 Z Tryz.sizeOf26) Z ?_
    refine GA.val 4 Z (V.load_own (cs := SlC l.a) ⟨Z,Z,Z,Z⟩ Z Tryz.underlying26 Z Tryz.sizeOf26 memG (by rfl) (by rfl)) Z (by kernel_rfl) (by kernel_rfl) (by kernel_rfl) ?_
    refine GA.w 6 Z (V.move ⟨Z,Z,Z,Z⟩ Z) Z ?_
    refine GA.w 7 Z (V.move ⟨Z,Z,Z,Z⟩ Z) Z ?_
    refine GA.w 8 Z (V.fieldAddr ⟨Z,Z,Z,Z⟩ Z Tryz.underlying89 Z Tryz.sizeOf26) Z ?_
    refine GA.val 9 Z (V.load_own (cs := SlC l.b) ⟨Z,Z,Z,Z⟩ Z Tryz.underlying26 Z Tryz.sizeOf26 memG (by rfl) (by rfl)) Z (by kernel_rfl) (by kernel_rfl) (by kernel_rfl) ?_
    refine GA.one 5 (by first | exact Hs.gj2 _ _ _ _ _ | exact Hs.refl _ | exact Hs.tl _ | exact Hs.tl2 _ _ | exact Hs.tl3 _ _ _ | exact Hs.app _ | exact Hs.sub (by simp)) (by kernel_rfl) Z ?_
    refine GOps.weak (Keeps.refl _) (Hs.toM2 _ _ _ _ _) ?_
    refine R.call ⟨Z,Z,Z,Z⟩ Z (vs := [_, _, _]) Z ((ref_Place _ _ (L) bW v Hl hL ((by omega)) A vars c (hv.mono (fun y hy => by repeat (first | exact hy | apply List.mem_cons_of_mem | apply List.mem_append_right))) hvm l.a).mono ?_)
    rintro _ _ ⟨v2, Hl2, ⟨rfl, hL2⟩, rfl⟩
    refine GOps.weak (Keeps.refl _) (Hs.fromM2 _ _ _ _ _) ?_
    refine GOps.nil ?_
    refine GA.one 10 (by first | exact Hs.gj2 _ _ _ _ _ | exact Hs.refl _ | exact Hs.tl _ | exact Hs.tl2 _ _ | exact Hs.tl3 _ _ _ | exact Hs.app _ | exact Hs.sub (by simp)) (by kernel_rfl) Z ?_
    refine GOps.weak (Keeps.refl _) (Hs.toM2 _ _ _ _ _) ?_
    refine R.call ⟨Z,Z,Z,Z⟩ Z (vs := [_, _, _]) Z ((ref_Place _ _ ((placeW vars L l.a).2) bW v2 Hl2 hL2 ((by have := placeW_len vars L l.a; omega)) A vars c (hv.mono (fun y hy => by repeat (first | exact hy | apply List.mem_cons_of_mem | apply List.mem_append_right))) hvm l.b).mono ?_)
    rintro _ _ ⟨v3, Hl3, ⟨rfl, hL3⟩, rfl⟩
    refine GOps.weak (Keeps.refl _) (Hs.fromM2 _ _ _ _ _) ?_
    refine GOps.nil ?_
    refine GA.val 11 Z (V.build (vs := [(0, _), (2, _), (3, _)]) (cells := (StC ⟨4, zRw, (placeW vars L l.a).1, (placeW vars (placeW vars L l.a).2 l.b).1⟩).toArray) ⟨Z,Z,Z,Z⟩ Z (fun w => run_build w 50 _ _ (by kernel_rfl))) Z (by kernel_rfl) (by kernel_rfl) (by kernel_rfl) ?_
    refine GA.one 12 (by first | exact Hs.gj2 _ _ _ _ _ | exact Hs.refl _ | exact Hs.tl _ | exact Hs.tl2 _ _ | exact Hs.tl3 _ _ _ | exact Hs.app _ | exact Hs.sub (by simp)) (by kernel_rfl) Z ?_
    refine R.storeAll (G1 := []) Z Z Z Z Z Tryz.sizeOf50 Z Z Z Z ?_
    refine GOps.nil ?_
    refine GA.done (by first | exact Hs.gj2 _ _ _ _ _ | exact Hs.refl _ | exact Hs.tl _ | exact Hs.tl2 _ _ | exact Hs.tl3 _ _ _ | exact Hs.app _ | exact Hs.sub (by simp)) (by kernel_rfl) ?_
    first | (rw [stepW_1 (by assumption)]; exact GW.ret (Out.of (resCellA rfl rfl Tryz.underlying50 rfl Tryz.sizeOf50 (Rds.own (C := (StC ⟨1, (rowW vars L l.pat).1, zPl, zPl⟩).toArray) memH 0 (StC ⟨1, (rowW vars L l.pat).1, zPl, zPl⟩) (fun j v hv => by simpa using hv)) rfl) (Hs.tl2 _ _) ⟨v2, Hl2, ⟨rfl, hL2⟩, rfl⟩)) | (rw [stepW_2 (by assumption) (by assumption)]; exact GW.ret (Out.of (resCellA rfl rfl Tryz.underlying50 rfl Tryz.sizeOf50 (Rds.own (C := (StC ⟨2, (rowW vars L l.pat).1, zPl, zPl⟩).toArray) memH 0 (StC ⟨2, (rowW vars L l.pat).1, zPl, zPl⟩) (fun j v hv => by simpa using hv)) rfl) (Hs.tl2 _ _) ⟨v2, Hl2, ⟨rfl, hL2⟩, rfl⟩)) | (rw [stepW_4 (by assumption) (by assumption) (by assumption)]; exact GW.ret (Out.of (resCellA rfl rfl Tryz.underlying50 rfl Tryz.sizeOf50 (Rds.own (C := (StC ⟨4, zRw, (placeW vars L l.a).1, (placeW vars (placeW vars L l.a).2 l.b).1⟩).toArray) memH 0 (StC ⟨4, zRw, (placeW vars L l.a).1, (placeW vars (placeW vars L l.a).2 l.b).1⟩) (fun j v hv => by simpa using hv)) rfl) (Hs.tl2 _ _) ⟨v3, Hl3, ⟨rfl, hL3⟩, rfl⟩)) | (rw [stepW_3 (by assumption) (by assumption) (by assumption)]; exact GW.ret (Out.of (resCellA rfl rfl Tryz.underlying50 rfl Tryz.sizeOf50 (Rds.own (C := (StC ⟨3, zRw, (placeW vars L l.a).1, (placeW vars (placeW vars L l.a).2 l.b).1⟩).toArray) memH 0 (StC ⟨3, zRw, (placeW vars L l.a).1, (placeW vars (placeW vars L l.a).2 l.b).1⟩) (fun j v hv => by simpa using hv)) rfl) (Hs.tl2 _ _) ⟨v3, Hl3, ⟨rfl, hL3⟩, rfl⟩))
   ·try simp only [dcQ] at hc3
    refine GW.skip ?_
    refine GW.seq ?_
    refine GW.draw ((b5, .exact (.cells (Value.agg (LtC l).toArray).cells 89 (0, 0))) :: G) 13 Z (by kernel_rfl) ?_
    refine GA.w 0 Z (V.move ⟨Z,Z,Z,Z⟩ Z) Z ?_
    refine GA.w 1 Z (V.move ⟨Z,Z,Z,Z⟩ Z) Z ?_
    refine GA.w 2 Z (V.move ⟨Z,Z,Z,Z⟩ Z) Z ?_
    refine GA.w 3 Z (V.fieldAddr ⟨Z,Z,Z,Z⟩ Z Tryz.underlying89 Z Tryz.sizeOf26) Z ?_
    refine GA.val 4 Z (V.load_own (cs := SlC l.a) ⟨Z,Z,Z,Z⟩ Z Tryz.underlying26 Z Tryz.sizeOf26 memG (by rfl) (by rfl)) Z (by kernel_rfl) (by kernel_rfl) (by kernel_rfl) ?_
    refine GA.w 6 Z (V.move ⟨Z,Z,Z,Z⟩ Z) Z ?_
    refine GA.w 7 Z (V.move ⟨Z,Z,Z,Z⟩ Z) Z ?_
    refine GA.w 8 Z (V.fieldAddr ⟨Z,Z,Z,Z⟩ Z Tryz.underlying89 Z Tryz.sizeOf26) Z ?_
    refine GA.val 9 Z (V.load_own (cs := SlC l.b) ⟨Z,Z,Z,Z⟩ Z Tryz.underlying26 Z Tryz.sizeOf26 memG (by rfl) (by rfl)) Z (by kernel_rfl) (by kernel_rfl) (by kernel_rfl) ?_
    refine GA.one 5 (by first | exact Hs.gj2 _ _ _ _ _ | exact Hs.refl _ | exact Hs.tl _ | exact Hs.tl2 _ _ | exact Hs.tl3 _ _ _ | exact Hs.app _ | exact Hs.sub (by simp)) (by kernel_rfl) Z ?_
    refine GOps.weak (Keeps.refl _) (Hs.toM2 _ _ _ _ _) ?_
    refine R.call ⟨Z,Z,Z,Z⟩ Z (vs := [_, _, _]) Z ((ref_Place _ _ (L) bW v Hl hL ((by omega)) A vars c (hv.mono (fun y hy => by repeat (first | exact hy | apply List.mem_cons_of_mem | apply List.mem_append_right))) hvm l.a).mono ?_)
    rintro _ _ ⟨v2, Hl2, ⟨rfl, hL2⟩, rfl⟩
    refine GOps.weak (Keeps.refl _) (Hs.fromM2 _ _ _ _ _) ?_
    refine GOps.nil ?_
    refine GA.one 10 (by first | exact Hs.gj2 _ _ _ _ _ | exact Hs.refl _ | exact Hs.tl _ | exact Hs.tl2 _ _ | exact Hs.tl3 _ _ _ | exact Hs.app _ | exact Hs.sub (by simp)) (by kernel_rfl) Z ?_
    refine GOps.weak (Keeps.refl _) (Hs.toM2 _ _ _ _ _) ?_
    refine R.call ⟨Z,Z,Z,Z⟩ Z (vs := [_, _, _]) Z ((ref_Place _ _ ((placeW vars L l.a).2) bW v2 Hl2 hL2 ((by have := placeW_len vars L l.a; omega)) A vars c (hv.mono (fun y hy => by repeat (first | exact hy | apply List.mem_cons_of_mem | apply List.mem_append_right))) hvm l.b).mono ?_)
    rintro _ _ ⟨v3, Hl3, ⟨rfl, hL3⟩, rfl⟩
    refine GOps.weak (Keeps.refl _) (Hs.fromM2 _ _ _ _ _) ?_
    refine GOps.nil ?_
    refine GA.val 11 Z (V.build (vs := [(0, _), (2, _), (3, _)]) (cells := (StC ⟨3, zRw, (placeW vars L l.a).1, (placeW vars (placeW vars L l.a).2 l.b).1⟩).toArray) ⟨Z,Z,Z,Z⟩ Z (fun w => run_build w 50 _ _ (by kernel_rfl))) Z (by kernel_rfl) (by kernel_rfl) (by kernel_rfl) ?_
    refine GA.one 12 (by first | exact Hs.gj2 _ _ _ _ _ | exact Hs.refl _ | exact Hs.tl _ | exact Hs.tl2 _ _ | exact Hs.tl3 _ _ _ | exact Hs.app _ | exact Hs.sub (by simp)) (by kernel_rfl) Z ?_
    refine R.storeAll (G1 := []) Z Z Z Z Z Tryz.sizeOf50 Z Z Z Z ?_
    refine GOps.nil ?_
    refine GA.done (by first | exact Hs.gj2 _ _ _ _ _ | exact Hs.refl _ | exact Hs.tl _ | exact Hs.tl2 _ _ | exact Hs.tl3 _ _ _ | exact Hs.app _ | exact Hs.sub (by simp)) (by kernel_rfl) ?_
    first | (rw [stepW_1 (by assumption)]; exact GW.ret (Out.of (resCellA rfl rfl Tryz.underlying50 rfl Tryz.sizeOf50 (Rds.own (C := (StC ⟨1, (rowW vars L l.pat).1, zPl, zPl⟩).toArray) memH 0 (StC ⟨1, (rowW vars L l.pat).1, zPl, zPl⟩) (fun j v hv => by simpa using hv)) rfl) (Hs.tl2 _ _) ⟨v2, Hl2, ⟨rfl, hL2⟩, rfl⟩)) | (rw [stepW_2 (by assumption) (by assumption)]; exact GW.ret (Out.of (resCellA rfl rfl Tryz.underlying50 rfl Tryz.sizeOf50 (Rds.own (C := (StC ⟨2, (rowW vars L l.pat).1, zPl, zPl⟩).toArray) memH 0 (StC ⟨2, (rowW vars L l.pat).1, zPl, zPl⟩) (fun j v hv => by simpa using hv)) rfl) (Hs.tl2 _ _) ⟨v2, Hl2, ⟨rfl, hL2⟩, rfl⟩)) | (rw [stepW_4 (by assumption) (by assumption) (by assumption)]; exact GW.ret (Out.of (resCellA rfl rfl Tryz.underlying50 rfl Tryz.sizeOf50 (Rds.own (C := (StC ⟨4, zRw, (placeW vars L l.a).1, (placeW vars (placeW vars L l.a).2 l.b).1⟩).toArray) memH 0 (StC ⟨4, zRw, (placeW vars L l.a).1, (placeW vars (placeW vars L l.a).2 l.b).1⟩) (fun j v hv => by simpa using hv)) rfl) (Hs.tl2 _ _) ⟨v3, Hl3, ⟨rfl, hL3⟩, rfl⟩)) | (rw [stepW_3 (by assumption) (by assumption) (by assumption)]; exact GW.ret (Out.of (resCellA rfl rfl Tryz.underlying50 rfl Tryz.sizeOf50 (Rds.own (C := (StC ⟨3, zRw, (placeW vars L l.a).1, (placeW vars (placeW vars L l.a).2 l.b).1⟩).toArray) memH 0 (StC ⟨3, zRw, (placeW vars L l.a).1, (placeW vars (placeW vars L l.a).2 l.b).1⟩) (fun j v hv => by simpa using hv)) rfl) (Hs.tl2 _ _) ⟨v3, Hl3, ⟨rfl, hL3⟩, rfl⟩))
end Go.Proofs.YtfddkcmooommeaaGreatDoor.Gl
end
section
namespace Go.Proofs.YtfddkcmooommeaaGreatDoor.Gl
open Go.RowKit Go.Shelf
set_option linter.unusedVariables false
set_option linter.unnecessarySimpa false
set_option linter.unusedSimpArgs false
attribute [-simp] List.getD_eq_getElem?_getD
def standsL (k : List Lt) (s : ByteArray) : Bool := k.any (fun t => (patL t).any (fun q => q.toList == s.toList))
def readyW (taken : List Lt) (l : Lt) : Bool := (slotsOf l).all (fun s => emp s.v || standsL taken s.v)
theorem slot_cellE {q : List Sl} {i : Nat} {y : Sl} {e : TypeId} (h : q[i]? = some y) : Know.cell (.exact (.cells (q.flatMap SlC).toArray e (0, 0))) (0 + (i : Int).toNat * 4 + 0) = some (.string y.v) := by
 show (q.flatMap SlC).toArray[0 + (i : Int).toNat * 4 + 0]? = _
 rw [Nat.zero_add, Int.toNat_natCast, List.getElem?_toArray]
 exact flat_get q i y h 0 _ rfl
theorem stands_succ {taken : List Lt} {k : Nat} {t : Lt} {s : ByteArray} (h : taken[k]? = some t) : standsL (taken.take (k + 1)) s = (standsL (taken.take k) s || (patL t).any (fun q => q.toList == s.toList)) := by
 unfold standsL
 rw [List.take_add_one, h, List.any_append]
 simp
theorem any_succ {l : List ByteArray} {j : Nat} {q : ByteArray} (f : ByteArray → Bool) (h : l[j]? = some q) : (l.take (j + 1)).any f = ((l.take j).any f || f q) := by
 rw [List.take_add_one, h, List.any_append]
 simp
theorem patL_len (t : Lt) : (patL t).length = 3 := rfl
theorem ready_yes {taken : List Lt} {l : Lt} {i : Nat} (h : ((slotsOf l).take i).all (fun s => emp s.v || standsL taken s.v) = true) (hi : (slotsOf l).length ≤ i) : readyW taken l = true := by
 rw [List.take_of_length_le hi] at h
 exact h
theorem ready_no {taken : List Lt} {l : Lt} {i : Nat} {s : Sl} (h : (slotsOf l)[i]? = some s) (h1 : emp s.v = false) (h2 : standsL taken s.v = false) : readyW taken l = false := by
 unfold readyW
 rw [List.all_eq_false]
 exact ⟨s, List.mem_of_getElem? h, by rw [h1, h2]; simp⟩
theorem ready_succ {taken : List Lt} {l : Lt} {i : Nat} {s : Sl} (h0 : ((slotsOf l).take i).all (fun s => emp s.v || standsL taken s.v) = true) (h : (slotsOf l)[i]? = some s) (h1 : emp s.v = true ∨ standsL taken s.v = true) : ((slotsOf l).take (i + 1)).all (fun s => emp s.v || standsL taken s.v) = true := by
 rw [List.take_add_one, h, List.all_append, h0]
 rcases h1 with h1 | h1 <;> simp [h1]
theorem slots_le (l : Lt) : (slotsOf l).length ≤ 3 := by
 unfold slotsOf
 cases (decide (l.kind = 1) || decide (l.kind = 2)) <;> simp
theorem ref_ready (w0 : World) (G : Hp) (l : Lt) (taken : List Lt) (A : Option Addr) (c : Nat) (ht : LtsAt w0 G A taken) (hm : taken.length ≤ 100000) : GC Tryz.prog w0 69 #[.agg (LtC l).toArray, .slice A taken.length c] (fun v G' => v = .bool (readyW taken l) ∧ G = G') G := by
 have hsl := slots_le l
 refine GC.body (args := [.agg (LtC l).toArray, .slice A taken.length c]) Tryz.func69 rfl (by kernel_rfl) rfl ?_
 refine GW.seq ?_
 refine GW.region ?_
 refine R.box ⟨Z,Z,Z,Z⟩ Z fun b2 => ?_
 refine R.assign ⟨Z,Z,Z,Z⟩ Z ?_
 refine GOps.nil ?_
 refine GW.seq ?_
 refine GW.region ?_
 refine R.load_own (cs := LtC l) ⟨Z,Z,Z,Z⟩ Z Tryz.underlying89 Z Tryz.sizeOf89 memG (by rfl) (by rfl) ?_
 refine R.call ⟨Z,Z,Z,Z⟩ Z (vs := [_]) Z ((ref_Slots _ _ l).mono ?_)
 rintro _ _ ⟨b11, rfl, rfl⟩
 refine R.assign ⟨Z,Z,Z,Z⟩ Z ?_
 refine GOps.nil ?_
 refine GW.seq ?_
 refine GW.seq ?_
 refine GW.region ?_
 refine R.assign ⟨Z,Z,Z,Z⟩ Z ?_
 refine GOps.nil ?_
 refine GW.block ?_
 refine GW.loopI (fun i : Nat => [(1, .slice A taken.length c), (5, .slice (some ⟨b11, 0, none⟩) (slotsOf l).length (slotsOf l).length), (6, .int .i64 i)]) (fun i => (b11, .exact (.cells ((slotsOf l).flatMap SlC).toArray 26 (0, 0))) :: (b2, .exact (.cells (Value.agg (LtC l).toArray).cells 89 (0, 0))) :: G) (fun i => (slotsOf l).length - i) (fun i => i ≤ (slotsOf l).length ∧ ((slotsOf l).take i).all (fun s => emp s.v || standsL taken s.v) = true) 0
  (keepG) (Hs.refl _) (⟨Nat.zero_le _, by simp⟩) ?_
 rintro i ⟨hi, h0⟩
 refine GW.seq ?_
 refine GW.seq ?_
 refine GW.region ?_
 refine R.move ⟨Z,Z,Z,Z⟩ Z ?_
 refine R.move ⟨Z,Z,Z,Z⟩ Z ?_
 refine R.lenS ⟨Z,Z,Z,Z⟩ Z Z Tryz.underlying106 ?_
 refine R.lss ⟨Z,Z,Z,Z⟩ Z Z ?_
 refine GOps.nil ?_
 refine GW.ite Z (fun hc1 => ?_) (fun hc1 => ?_)
 ·try simp only [dcQ] at hc1
  obtain ⟨s, hs⟩ : ∃ s, (slotsOf l)[i]? = some s := ⟨_, List.getElem?_eq_getElem (by omega)⟩
  refine GW.skip ?_
  refine GW.seq ?_
  refine GW.block ?_
  refine GW.seq ?_
  refine GW.seq ?_
  refine GW.region ?_
  refine R.move ⟨Z,Z,Z,Z⟩ Z ?_
  refine R.move ⟨Z,Z,Z,Z⟩ Z ?_
  refine R.indexAddrS ⟨Z,Z,Z,Z⟩ Z Z Tryz.underlying106 Tryz.sizeOf26 (by omega) (by omega) ?_
  refine R.fieldAddr ⟨Z,Z,Z,Z⟩ Z Tryz.underlying26 Z Tryz.sizeOf9 ?_
  refine R.load1 ⟨Z,Z,Z,Z⟩ Z Tryz.underlying9 Z (.own memH (slot_cellE hs)) ?_
  refine R.eqS ⟨Z,Z,Z,Z⟩ Z Z ?_
  refine GOps.nil ?_
  refine GW.ite Z (fun hc2 => ?_) (fun hc2 => ?_)
  ·try simp only [dcQ] at hc2
   replace hc2 : emp s.v = true := hc2
   refine GW.exit ?_
   refine GW.region ?_
   refine R.move ⟨Z,Z,Z,Z⟩ Z ?_
   refine R.add (r := (((i + 1) : Nat) : Int)) ⟨Z,Z,Z,Z⟩ Z Z (by rw [wrap64_id (by omega) (by omega)]; omega) ?_
   refine R.assign ⟨Z,Z,Z,Z⟩ Z ?_
   refine GOps.nil ?_
   first | exact ⟨i + 1, by omega, ⟨by omega, ready_succ h0 hs (.inl (by assumption))⟩, rfl, keepG, Hs.refl _⟩ | exact ⟨i + 1, by omega, ⟨by omega, ready_succ h0 hs (.inr (by rw [← hth]; assumption))⟩, rfl, keepG, Hs.refl _⟩
  ·try simp only [dcQ] at hc2
   replace hc2 : emp s.v = false := hc2
   refine GW.skip ?_
   refine GW.seq ?_
   refine GW.region ?_
   refine R.assign ⟨Z,Z,Z,Z⟩ Z ?_
   refine GOps.nil ?_
   refine GW.seq ?_
   refine GW.seq ?_
   refine GW.region ?_
   refine R.assign ⟨Z,Z,Z,Z⟩ Z ?_
   refine GOps.nil ?_
   refine GW.block ?_
   refine GW.loop4 (fun (k : Nat) (th : Bool) (u1 : Unit) (u2 : Unit) => [(1, .slice A taken.length c), (5, .slice (some ⟨b11, 0, none⟩) (slotsOf l).length (slotsOf l).length), (6, .int .i64 i), (7, .bool th), (8, .int .i64 k)]) (fun (k : Nat) (th : Bool) (u1 : Unit) (u2 : Unit) => (b11, .exact (.cells ((slotsOf l).flatMap SlC).toArray 26 (0, 0))) :: (b2, .exact (.cells (Value.agg (LtC l).toArray).cells 89 (0, 0))) :: G) (fun k : Nat => taken.length - k) (fun (k : Nat) (th : Bool) (u1 : Unit) (u2 : Unit) => k ≤ taken.length ∧ th = standsL (taken.take k) s.v) 0 (false) (()) (())
    (keepG) (Hs.refl _) (⟨Nat.zero_le _, rfl⟩) ?_
   rintro k th u1 u2 ⟨hk, hth⟩
   refine GW.seq ?_
   refine GW.seq ?_
   refine GW.region ?_
   refine R.move ⟨Z,Z,Z,Z⟩ Z ?_
   refine R.move ⟨Z,Z,Z,Z⟩ Z ?_
   refine R.lenS ⟨Z,Z,Z,Z⟩ Z Z Tryz.underlying29 ?_
   refine R.lss ⟨Z,Z,Z,Z⟩ Z Z ?_
   refine GOps.nil ?_
   refine GW.ite Z (fun hc3 => ?_) (fun hc3 => ?_)
   ·try simp only [dcQ] at hc3
    obtain ⟨t, htk⟩ : ∃ t, taken[k]? = some t := ⟨_, List.getElem?_eq_getElem (by omega)⟩
    obtain ⟨tb, to, cs0, rfl, rfl, hrd⟩ := ht k t htk
    refine GW.skip ?_
    refine GW.seq ?_
    refine GW.block ?_
    refine GW.seq ?_
    refine GW.region ?_
    refine R.assign ⟨Z,Z,Z,Z⟩ Z ?_
    refine GOps.nil ?_
    refine GW.block ?_
    refine GW.loop4 (fun (j : Nat) (th2 : Bool) (u1 : Unit) (u2 : Unit) => [(1, .slice (some ⟨tb, to, none⟩) taken.length c), (5, .slice (some ⟨b11, 0, none⟩) (slotsOf l).length (slotsOf l).length), (6, .int .i64 i), (7, .bool th2), (8, .int .i64 k), (9, .int .i64 j)]) (fun (j : Nat) (th2 : Bool) (u1 : Unit) (u2 : Unit) => (b11, .exact (.cells ((slotsOf l).flatMap SlC).toArray 26 (0, 0))) :: (b2, .exact (.cells (Value.agg (LtC l).toArray).cells 89 (0, 0))) :: G) (fun j : Nat => 3 - j) (fun (j : Nat) (th2 : Bool) (u1 : Unit) (u2 : Unit) => j ≤ 3 ∧ th2 = (th || ((patL t).take j).any (fun q => q.toList == s.v.toList))) 0 (th) (()) (())
     (keepG) (Hs.refl _) (⟨Nat.zero_le _, by simp⟩) ?_
    rintro j th2 u1 u2 ⟨hj, hth2⟩
    refine GW.seq ?_
    refine GW.seq ?_
    refine GW.region ?_
    refine R.move ⟨Z,Z,Z,Z⟩ Z ?_
    refine R.lss ⟨Z,Z,Z,Z⟩ Z Z ?_
    refine GOps.nil ?_
    refine GW.ite Z (fun hc4 => ?_) (fun hc4 => ?_)
    ·try simp only [dcQ] at hc4
     obtain ⟨q, hq, hqc⟩ := patL_get (x := t) (k := j) (by omega)
     refine GW.skip ?_
     refine GW.seq ?_
     refine GW.block ?_
     refine GW.drawS 18 Z (by kernel_rfl) ?_
     refine GA.w 0 Z (V.move ⟨Z,Z,Z,Z⟩ Z) Z ?_
     refine GA.w 1 Z (V.move ⟨Z,Z,Z,Z⟩ Z) Z ?_
     refine GA.caseB 35 Z (fun hg5 => ?_) (fun hg5 => ?_)
     ·try simp only [dcQ] at hg5
      refine GA.sk 2 Z Z Z Z Z ?_
      refine GA.sk 3 Z Z Z Z Z ?_
      refine GA.sk 4 Z Z Z Z Z ?_
      refine GA.sk 5 Z Z Z Z Z ?_
      refine GA.sk 6 Z Z Z Z Z ?_
      refine GA.sk 7 Z Z Z Z Z ?_
      refine GA.sk 8 Z Z Z Z Z ?_
      refine GA.sk 9 Z Z Z Z Z ?_
      refine GA.sk 10 Z Z Z Z Z ?_
      refine GA.sk 11 Z Z Z Z Z ?_
      refine GA.sk 12 Z Z Z Z Z ?_
      refine GA.sk 13 Z Z Z Z Z ?_
      refine GA.sk 14 Z Z Z Z Z ?_
      refine GA.sk 15 Z Z Z Z Z ?_
      refine GA.w 16 Z (V.pick_t ⟨Z,Z,Z,Z⟩ Z Z) Z ?_
      refine GA.w 17 Z (V.assign ⟨Z,Z,Z,Z⟩ Z) Z ?_
      refine GA.done hsC (by kernel_rfl) ?_
      refine GW.region ?_
      refine R.move ⟨Z,Z,Z,Z⟩ Z ?_
      refine R.add (r := (((j + 1) : Nat) : Int)) ⟨Z,Z,Z,Z⟩ Z Z (by rw [wrap64_id (by omega) (by omega)]; omega) ?_
      refine R.assign ⟨Z,Z,Z,Z⟩ Z ?_
      refine GOps.nil ?_
      first | exact ⟨j + 1, true, (), (), by omega, ⟨by omega, by rw [any_succ _ hq, ← Bool.or_assoc, ← hth2, hg5]; rfl⟩, rfl, keepG, Hs.refl _⟩ | exact ⟨j + 1, (q.toList == s.v.toList), (), (), by omega, ⟨by omega, by rw [any_succ _ hq, ← Bool.or_assoc, ← hth2, hg5]; rfl⟩, rfl, keepG, Hs.refl _⟩
     ·try simp only [dcQ] at hg5
      refine GA.w 2 Z (V.move ⟨Z,Z,Z,Z⟩ Z) Z ?_
      refine GA.w 3 Z (V.move ⟨Z,Z,Z,Z⟩ Z) Z ?_
      refine GA.w 4 Z (V.move ⟨Z,Z,Z,Z⟩ Z) Z ?_
      refine GA.val 5 Z (V.indexAddrS ⟨Z,Z,Z,Z⟩ Z Z Tryz.underlying29 Tryz.sizeOf89 (by omega) (by omega)) Z (by kernel_rfl) (by kernel_rfl) (by kernel_rfl) ?_
      refine GA.w 6 Z (V.fieldAddr ⟨Z,Z,Z,Z⟩ Z Tryz.underlying89 Z Tryz.sizeOf28) Z ?_
      refine GA.val 7 Z (V.indexAddrA ⟨Z,Z,Z,Z⟩ Z Z Tryz.underlying28 Tryz.sizeOf26 (by omega) (by omega)) Z (by kernel_rfl) (by kernel_rfl) (by kernel_rfl) ?_
      refine GA.w 8 Z (V.fieldAddr ⟨Z,Z,Z,Z⟩ Z Tryz.underlying26 Z Tryz.sizeOf9) Z ?_
      refine GA.val 9 Z (V.load1 ⟨Z,Z,Z,Z⟩ Z Tryz.underlying9 Z ((pat_cell hrd hqc).mono (fun y hy => by repeat (first | exact hy | apply List.mem_cons_of_mem | apply List.mem_append_right)))) Z (by kernel_rfl) (by kernel_rfl) (by kernel_rfl) ?_
      refine GA.w 10 Z (V.move ⟨Z,Z,Z,Z⟩ Z) Z ?_
      refine GA.w 11 Z (V.move ⟨Z,Z,Z,Z⟩ Z) Z ?_
      refine GA.val 12 Z (V.indexAddrS ⟨Z,Z,Z,Z⟩ Z Z Tryz.underlying106 Tryz.sizeOf26 (by omega) (by omega)) Z (by kernel_rfl) (by kernel_rfl) (by kernel_rfl) ?_
      refine GA.w 13 Z (V.fieldAddr ⟨Z,Z,Z,Z⟩ Z Tryz.underlying26 Z Tryz.sizeOf9) Z ?_
      refine GA.val 14 Z (V.load1 ⟨Z,Z,Z,Z⟩ Z Tryz.underlying9 Z (.own memH (slot_cellE hs))) Z (by kernel_rfl) (by kernel_rfl) (by kernel_rfl) ?_
      refine GA.val 15 Z (V.eqS ⟨Z,Z,Z,Z⟩ Z Z) Z (by kernel_rfl) (by kernel_rfl) (by kernel_rfl) ?_
      refine GA.w 16 Z (V.pick_f ⟨Z,Z,Z,Z⟩ Z Z) Z ?_
      refine GA.w 17 Z (V.assign ⟨Z,Z,Z,Z⟩ Z) Z ?_
      refine GA.done hsC (by kernel_rfl) ?_
      refine GW.region ?_
      refine R.move ⟨Z,Z,Z,Z⟩ Z ?_
      refine R.add (r := (((j + 1) : Nat) : Int)) ⟨Z,Z,Z,Z⟩ Z Z (by rw [wrap64_id (by omega) (by omega)]; omega) ?_
      refine R.assign ⟨Z,Z,Z,Z⟩ Z ?_
      refine GOps.nil ?_
      first | exact ⟨j + 1, true, (), (), by omega, ⟨by omega, by rw [any_succ _ hq, ← Bool.or_assoc, ← hth2, hg5]; rfl⟩, rfl, keepG, Hs.refl _⟩ | exact ⟨j + 1, (q.toList == s.v.toList), (), (), by omega, ⟨by omega, by rw [any_succ _ hq, ← Bool.or_assoc, ← hth2, hg5]; rfl⟩, rfl, keepG, Hs.refl _⟩
    ·try simp only [dcQ] at hc4
     refine GW.exit ?_
     refine GW.region ?_
     refine R.move ⟨Z,Z,Z,Z⟩ Z ?_
     refine R.add (r := (((k + 1) : Nat) : Int)) ⟨Z,Z,Z,Z⟩ Z Z (by rw [wrap64_id (by omega) (by omega)]; omega) ?_
     refine R.assign ⟨Z,Z,Z,Z⟩ Z ?_
     refine GOps.nil ?_
     exact ⟨k + 1, th2, (), (), by omega, ⟨by omega, by rw [stands_succ htk, ← hth]; rw [hth2, show (patL t).take j = patL t from List.take_of_length_le (by rw [patL_len]; omega)]⟩, rfl, keepG, Hs.refl _⟩
   ·try simp only [dcQ] at hc3
    rw [List.take_of_length_le (by omega)] at hth
    refine GW.exit ?_
    refine GW.seq ?_
    refine GW.region ?_
    refine R.move ⟨Z,Z,Z,Z⟩ Z ?_
    refine R.not ⟨Z,Z,Z,Z⟩ Z ?_
    refine GOps.nil ?_
    refine GW.ite Z (fun hc6 => ?_) (fun hc6 => ?_)
    ·try simp only [dcQ] at hc6
     refine GW.seq ?_
     refine GW.region ?_
     refine R.assign ⟨Z,Z,Z,Z⟩ Z ?_
     refine GOps.nil ?_
     refine GW.ret (Out.of (Res.one Z Z) (by first | exact Hs.refl _ | exact Hs.tl _ | exact Hs.tl2 _ _ | exact Hs.tl3 _ _ _ | exact (Hs.app _).trans (Hs.tl _) | exact (Hs.app _).trans ((Hs.app _).trans (Hs.tl _)) | exact Hs.sub (by repeat (first | exact List.Sublist.refl _ | apply List.Sublist.cons))) ⟨?_, Z⟩)
     first | rw [ready_yes h0 (by omega)] | rw [ready_no hs (by assumption) (by rw [← hth]; assumption)]
    ·try simp only [dcQ] at hc6
     refine GW.skip ?_
     refine GW.region ?_
     refine R.move ⟨Z,Z,Z,Z⟩ Z ?_
     refine R.add (r := (((i + 1) : Nat) : Int)) ⟨Z,Z,Z,Z⟩ Z Z (by rw [wrap64_id (by omega) (by omega)]; omega) ?_
     refine R.assign ⟨Z,Z,Z,Z⟩ Z ?_
     refine GOps.nil ?_
     first | exact ⟨i + 1, by omega, ⟨by omega, ready_succ h0 hs (.inl (by assumption))⟩, rfl, keepG, Hs.refl _⟩ | exact ⟨i + 1, by omega, ⟨by omega, ready_succ h0 hs (.inr (by rw [← hth]; assumption))⟩, rfl, keepG, Hs.refl _⟩
 ·try simp only [dcQ] at hc1
  refine GW.exit ?_
  refine GW.seq ?_
  refine GW.region ?_
  refine R.assign ⟨Z,Z,Z,Z⟩ Z ?_
  refine GOps.nil ?_
  refine GW.ret (Out.of (Res.one Z Z) (by first | exact Hs.refl _ | exact Hs.tl _ | exact Hs.tl2 _ _ | exact Hs.tl3 _ _ _ | exact (Hs.app _).trans (Hs.tl _) | exact (Hs.app _).trans ((Hs.app _).trans (Hs.tl _)) | exact Hs.sub (by repeat (first | exact List.Sublist.refl _ | apply List.Sublist.cons))) ⟨?_, Z⟩)
  first | rw [ready_yes h0 (by omega)] | rw [ready_no hs (by assumption) (by rw [← hth]; assumption)]
end Go.Proofs.YtfddkcmooommeaaGreatDoor.Gl
end
