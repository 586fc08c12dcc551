/- Part 2 of the proof: U1 S3 S4 S5 S6 S7 S8 S9 S10 F1 S11 S12 S13 S14 S15 S16. -/
import Derived.Test.YtfddkcmooommeaaGreatDoorMX1
import Derived.Lib.IndexLaws
import Derived.Test.YtfddkcmooommeaaGreatDoorProg
section
namespace Go.Proofs.YtfddkcmooommeaaGreatDoor.Gl
set_option linter.unusedVariables false
set_option linter.unnecessarySimpa false
set_option linter.unusedSimpArgs false
attribute [-simp] List.getD_eq_getElem?_getD
def putL (r : Nat) : List Nat :=
 if r ≤ 127 then [r] else if r ≤ 2047 then [192 + r / 64, 128 + r % 64] else if r ≤ 65535 then [224 + r / 4096, 128 + r / 64 % 64, 128 + r % 64]
 else [240 + r / 262144, 128 + r / 4096 % 64, 128 + r / 64 % 64, 128 + r % 64]
def hdm : Nat → Nat
 | 2 => 32
 | 3 => 16
 | 4 => 8
 | _ => 1
def refC (l : List Nat) (n i : Nat) : Nat := if 0 < i then (if i = 0 ∧ 1 < n then l.getD i 0 % hdm n else l.getD i 0) % 64 else (if i = 0 ∧ 1 < n then l.getD i 0 % hdm n else l.getD i 0)
def refAcc (l : List Nat) (n : Nat) : Nat → Nat
 | 0 => 0
 | i + 1 => 64 * refAcc l n i + refC l n i
def tryR (l : List Nat) (n : Nat) : Bool := mayR (refAcc l n n) && (putL (refAcc l n n) == l.take n)
theorem hdm_pos (n : Nat) : 0 < hdm n := by unfold hdm; split <;> omega
theorem refC_lt {l : List Nat} (h : ∀ i, l.getD i 0 < 256) (n i : Nat) : refC l n i < 256 := by
 have h1 := h i
 have h2 := Nat.mod_le (l.getD i 0) (hdm n)
 unfold refC
 have h3 := Nat.mod_le (if i = 0 ∧ 1 < n then l.getD i 0 % hdm n else l.getD i 0) 64
 repeat' split
 all_goals omega
theorem refAcc_bound {l : List Nat} (h : ∀ i, l.getD i 0 < 256) (n : Nat) : ∀ i, i ≤ 4 → refAcc l n i < 1073741824 := by
 intro i hi
 have a0 := refC_lt h n 0
 have a1 := refC_lt h n 1
 have a2 := refC_lt h n 2
 have a3 := refC_lt h n 3
 rcases (by omega : i = 0 ∨ i = 1 ∨ i = 2 ∨ i = 3 ∨ i = 4) with rfl | rfl | rfl | rfl | rfl <;> simp only [refAcc] <;> omega
theorem bs_getD_lt (s : ByteArray) (i : Nat) : (bs s).getD i 0 < 256 := by
 rw [List.getD]
 cases h : (bs s)[i]? with
 | none => simp
 | some c => exact bs_lt s i c h
theorem putL_lt {r : Nat} (h : r ≤ 1114111) : ∀ c ∈ putL r, c < 256 := by
 unfold putL
 repeat' split
 all_goals simp only [List.mem_cons, List.not_mem_nil, or_false]; omega
theorem take_getD {l : List Nat} {n : Nat} (h : n ≤ l.length) : l.take n = (List.range n).map fun i => l.getD i 0 := by
 apply List.ext_getElem?
 intro i
 rw [List.getElem?_map]
 rcases Nat.lt_or_ge i n with hi | hi
 ·rw [List.getElem?_take_of_lt hi, List.getElem?_range hi, List.getElem?_eq_getElem (by omega)]
  simp [List.getD, List.getElem?_eq_getElem (show i < l.length by omega)]
 ·rw [List.getElem?_eq_none (by simp; omega), List.getElem?_eq_none (by simp; omega)]
  rfl
theorem range1 : List.range 1 = [0] := rfl
theorem range2 : List.range 2 = [0, 1] := rfl
theorem range3 : List.range 3 = [0, 1, 2] := rfl
theorem range4 : List.range 4 = [0, 1, 2, 3] := rfl
theorem try_iff {l : List Nat} {n : Nat} (hl : n ≤ l.length) : tryR l n = true ↔ mayR (refAcc l n n) = true ∧ putL (refAcc l n n) = (List.range n).map fun i => l.getD i 0 := by
 unfold tryR
 rw [take_getD hl]
 simp
theorem getS_iff {l : List Nat} (hb : ∀ i, l.getD i 0 < 256) {r n : Nat} : getS l = some (r, n) ↔ 1 ≤ n ∧ n ≤ 4 ∧ n ≤ l.length ∧ refAcc l n n = r ∧ tryR l n = true := by
 have b0 := hb 0
 have b1 := hb 1
 have b2 := hb 2
 have b3 := hb 3
 have m1 : ∀ x : Nat, x % 64 < 64 := fun x => Nat.mod_lt _ (by omega)
 have e0 : ∀ i, allTo (fun i => isCont (l.getD (i + 1) 0)) (i + 1) = (allTo (fun i => isCont (l.getD (i + 1) 0)) i && isCont (l.getD (i + 1) 0)) := fun i => by
  unfold allTo
  rw [List.range_succ, List.all_append]
  simp
 constructor
 ·intro h
  unfold getS at h
  simp only at h
  split at h
  case isFalse => cases h
  rename_i hc
  obtain ⟨h1, h2, h3, h4, h5⟩ := hc
  simp only [Option.some.injEq, Prod.mk.injEq] at h
  obtain ⟨rfl, rfl⟩ := h
  generalize hc0 : l.getD 0 0 = c0 at *
  generalize hc1 : l.getD 1 0 = c1 at *
  generalize hc2 : l.getD 2 0 = c2 at *
  generalize hc3 : l.getD 3 0 = c3 at *
  have hm : (hdM c0 = 0 ∧ c0 < 128 ∧ hdR c0 = c0) ∨ (hdM c0 = 1 ∧ 194 ≤ c0 ∧ c0 < 224 ∧ hdR c0 = c0 % 32) ∨ (hdM c0 = 2 ∧ 224 ≤ c0 ∧ c0 < 240 ∧ hdR c0 = c0 % 16) ∨ (hdM c0 = 3 ∧ 240 ≤ c0 ∧ c0 < 245 ∧ hdR c0 = c0 % 8) := by
   rcases (by omega : c0 < 128 ∨ (194 ≤ c0 ∧ c0 < 224) ∨ (224 ≤ c0 ∧ c0 < 240) ∨ (240 ≤ c0 ∧ c0 < 245) ∨ ((128 ≤ c0 ∧ c0 < 194) ∨ 245 ≤ c0)) with g | g | g | g | g
   ·exact .inl ⟨by unfold hdM; rw [if_pos (by omega)], g, by unfold hdR; rw [if_pos (by omega)]⟩
   ·exact .inr (.inl ⟨by unfold hdM; rw [if_neg (by omega), if_pos (by omega)], g.1, g.2, by unfold hdR; rw [if_neg (by omega), if_pos (by omega)]⟩)
   ·exact .inr (.inr (.inl ⟨by unfold hdM; rw [if_neg (by omega), if_neg (by omega), if_pos (by omega)], g.1, g.2, by unfold hdR; rw [if_neg (by omega), if_neg (by omega), if_pos (by omega)]⟩))
   ·exact .inr (.inr (.inr ⟨by unfold hdM; rw [if_neg (by omega), if_neg (by omega), if_neg (by omega), if_pos (by omega)], g.1, g.2, by unfold hdR; rw [if_neg (by omega), if_neg (by omega), if_neg (by omega), if_pos (by omega)]⟩))
   ·exfalso
    have : hdM c0 = -1 := by unfold hdM; rw [if_neg (by omega), if_neg (by omega), if_neg (by omega), if_neg (by omega)]
    omega
  rcases hm with ⟨hm, hr⟩ | ⟨hm, hr1, hr2, hr⟩ | ⟨hm, hr1, hr2, hr⟩ | ⟨hm, hr1, hr2, hr⟩
  ·rw [hm] at h2 h3 h4 h5 ⊢
   simp only [Int.toNat_zero, accR, hr.2, Nat.zero_add] at *
   refine ⟨by omega, by omega, by omega, ?_, ?_⟩
   ·simp [refAcc, refC, hc0]
   ·rw [try_iff (by omega)]
    have e : refAcc l 1 1 = c0 := by simp [refAcc, refC, hc0]
    rw [e]
    refine ⟨h4, ?_⟩
    simp [putL, range1, hc0]; omega
  ·rw [hm] at h2 h3 h4 h5 ⊢
   simp only [show (1 : Int).toNat = 1 from rfl, accR, hr, Nat.zero_add, hc1] at h2 h3 h4 h5 ⊢
   have e : refAcc l 2 2 = c0 % 32 * 64 + c1 % 64 := by simp [refAcc, refC, hc0, hc1, hdm]; omega
   refine ⟨by omega, by omega, by omega, e, ?_⟩
   rw [try_iff (by omega), e]
   refine ⟨h4, ?_⟩
   have h3' := e0 0
   simp only [Nat.zero_add] at h3'
   rw [h3] at h3'
   simp only [hc1, isCont, allTo_zero, Bool.true_and] at h3'
   have k1 : 128 ≤ c1 ∧ c1 < 192 := by simpa using h3'.symm
   rw [putL, if_neg (by omega), if_pos (by omega)]
   change _ = List.map (fun i => l.getD i 0) (List.range 2)
   simp only [range2, List.map_cons, List.map_nil, hc0, hc1, List.cons.injEq, and_true]
   omega
  ·rw [hm] at h2 h3 h4 h5 ⊢
   simp only [show (2 : Int).toNat = 2 from rfl, accR, hr, Nat.zero_add, hc1, hc2] at h2 h3 h4 h5 ⊢
   have e : refAcc l 3 3 = (c0 % 16 * 64 + c1 % 64) * 64 + c2 % 64 := by simp [refAcc, refC, hc0, hc1, hc2, hdm]; omega
   refine ⟨by omega, by omega, by omega, e, ?_⟩
   rw [try_iff (by omega), e]
   refine ⟨h4, ?_⟩
   have h3' := e0 1
   rw [h3, e0 0] at h3'
   simp only [Nat.zero_add, hc1, hc2, isCont, allTo_zero, Bool.true_and, show (1 : Nat) + 1 = 2 from rfl] at h3'
   have k1 : (128 ≤ c1 ∧ c1 < 192) ∧ (128 ≤ c2 ∧ c2 < 192) := by simpa using h3'.symm
   unfold sizeR at h5
   have h5' : 2048 ≤ (c0 % 16 * 64 + c1 % 64) * 64 + c2 % 64 := by
    (repeat' split at h5) <;> omega
   rw [putL, if_neg (by omega), if_neg (by omega), if_pos (by omega)]
   change _ = List.map (fun i => l.getD i 0) (List.range 3)
   simp only [range3, List.map_cons, List.map_nil, hc0, hc1, hc2, List.cons.injEq, and_true]
   omega
  ·rw [hm] at h2 h3 h4 h5 ⊢
   simp only [show (3 : Int).toNat = 3 from rfl, accR, hr, Nat.zero_add, hc1, hc2, hc3] at h2 h3 h4 h5 ⊢
   have e : refAcc l 4 4 = ((c0 % 8 * 64 + c1 % 64) * 64 + c2 % 64) * 64 + c3 % 64 := by simp [refAcc, refC, hc0, hc1, hc2, hc3, hdm]; omega
   refine ⟨by omega, by omega, by omega, e, ?_⟩
   rw [try_iff (by omega), e]
   refine ⟨h4, ?_⟩
   have h3' := e0 2
   rw [h3, e0 1, e0 0] at h3'
   simp only [Nat.zero_add, hc1, hc2, hc3, isCont, allTo_zero, Bool.true_and, show (1 : Nat) + 1 = 2 from rfl, show (2 : Nat) + 1 = 3 from rfl] at h3'
   have k1 : ((128 ≤ c1 ∧ c1 < 192) ∧ (128 ≤ c2 ∧ c2 < 192)) ∧ (128 ≤ c3 ∧ c3 < 192) := by simpa using h3'.symm
   unfold sizeR at h5
   have h5' : 65536 ≤ ((c0 % 8 * 64 + c1 % 64) * 64 + c2 % 64) * 64 + c3 % 64 := by
    (repeat' split at h5) <;> omega
   rw [putL, if_neg (by omega), if_neg (by omega), if_neg (by omega)]
   change _ = List.map (fun i => l.getD i 0) (List.range 4)
   simp only [range4, List.map_cons, List.map_nil, hc0, hc1, hc2, hc3, List.cons.injEq, and_true]
   omega
 ·rintro ⟨h1, h2, h3, h4, h5⟩
  rw [try_iff h3] at h5
  obtain ⟨h5, h6⟩ := h5
  have hmay : refAcc l n n ≤ 1114111 := by simp [mayR] at h5; omega
  generalize hc0 : l.getD 0 0 = c0 at *
  generalize hc1 : l.getD 1 0 = c1 at *
  generalize hc2 : l.getD 2 0 = c2 at *
  generalize hc3 : l.getD 3 0 = c3 at *
  have fin : ∀ m : Nat, hdM c0 = m → m < l.length → allTo (fun i => isCont (l.getD (i + 1) 0)) m = true → accR l (hdR c0) m = r → mayR r = true → sizeR r = m + 1 → n = m + 1 → getS l = some (r, n) := by
   intro m g1 g2 g3 g4 g5 g6 g7
   unfold getS
   simp only [hc0, g1, Int.toNat_natCast, g4]
   rw [if_pos ⟨by omega, g2, g3, g5, g6⟩, g7]
  rcases (by omega : n = 1 ∨ n = 2 ∨ n = 3 ∨ n = 4) with rfl | rfl | rfl | rfl
  ·have e : refAcc l 1 1 = c0 := by simp [refAcc, refC, hc0]
   rw [e] at h4 h5 h6 hmay
   subst h4
   simp only [range1, List.map_cons, List.map_nil, hc0] at h6
   have hlt : c0 ≤ 127 := by
    rcases Nat.lt_or_ge 127 c0 with hh | hh
    ·rw [putL, if_neg (by omega)] at h6
     (repeat' split at h6) <;> simp at h6
    ·exact hh
   exact fin 0 (by simp [hdM]; omega) (by omega) rfl (by simp [accR, hdR]; omega) h5 (by simp [sizeR]; omega) rfl
  ·have e : refAcc l 2 2 = c0 % 32 * 64 + c1 % 64 := by simp [refAcc, refC, hc0, hc1, hdm]; omega
   rw [e] at h4 h5 h6 hmay
   simp only [range2, List.map_cons, List.map_nil, hc0, hc1] at h6
   rw [h4] at h5 h6 hmay
   have hk : 128 ≤ r ∧ r ≤ 2047 ∧ 192 + r / 64 = c0 ∧ 128 + r % 64 = c1 := by
    rw [putL] at h6
    (repeat' split at h6) <;> simp at h6 <;> omega
   exact fin 1 (by unfold hdM; rw [if_neg (by omega), if_pos (by omega)]; rfl) (by omega) (by rw [e0 0]; simp [allTo_zero, hc1, isCont]; omega)
    (by simp only [accR, Nat.zero_add, hc1]; unfold hdR; rw [if_neg (by omega), if_pos (by omega)]; omega) h5 (by unfold sizeR; rw [if_neg (by omega), if_pos (by omega)]) rfl
  ·have e : refAcc l 3 3 = (c0 % 16 * 64 + c1 % 64) * 64 + c2 % 64 := by simp [refAcc, refC, hc0, hc1, hc2, hdm]; omega
   rw [e] at h4 h5 h6 hmay
   simp only [range3, List.map_cons, List.map_nil, hc0, hc1, hc2] at h6
   rw [h4] at h5 h6 hmay
   have hk : 2048 ≤ r ∧ r ≤ 65535 ∧ 224 + r / 4096 = c0 ∧ 128 + r / 64 % 64 = c1 ∧ 128 + r % 64 = c2 := by
    rw [putL] at h6
    (repeat' split at h6) <;> simp at h6 <;> omega
   exact fin 2 (by unfold hdM; rw [if_neg (by omega), if_neg (by omega), if_pos (by omega)]; rfl) (by omega) (by rw [e0 1, e0 0]; simp [allTo_zero, hc1, hc2, isCont]; omega)
    (by simp only [accR, Nat.zero_add, hc1, hc2]; unfold hdR; rw [if_neg (by omega), if_neg (by omega), if_pos (by omega)]; omega) h5 (by unfold sizeR; rw [if_neg (by omega), if_neg (by omega), if_pos (by omega)]) rfl
  ·have e : refAcc l 4 4 = ((c0 % 8 * 64 + c1 % 64) * 64 + c2 % 64) * 64 + c3 % 64 := by simp [refAcc, refC, hc0, hc1, hc2, hc3, hdm]; omega
   rw [e] at h4 h5 h6 hmay
   simp only [range4, List.map_cons, List.map_nil, hc0, hc1, hc2, hc3] at h6
   rw [h4] at h5 h6 hmay
   have hk : 65536 ≤ r ∧ 240 + r / 262144 = c0 ∧ 128 + r / 4096 % 64 = c1 ∧ 128 + r / 64 % 64 = c2 ∧ 128 + r % 64 = c3 := by
    rw [putL] at h6
    (repeat' split at h6) <;> simp at h6 <;> omega
   exact fin 3 (by unfold hdM; rw [if_neg (by omega), if_neg (by omega), if_neg (by omega), if_pos (by omega)]; rfl) (by omega) (by rw [e0 2, e0 1, e0 0]; simp [allTo_zero, hc1, hc2, hc3, isCont]; omega)
    (by simp only [accR, Nat.zero_add, hc1, hc2, hc3]; unfold hdR; rw [if_neg (by omega), if_neg (by omega), if_neg (by omega), if_pos (by omega)]; omega) h5 (by unfold sizeR; rw [if_neg (by omega), if_neg (by omega), if_neg (by omega)]) rfl
end Go.Proofs.YtfddkcmooommeaaGreatDoor.Gl
end
section
namespace Go.Proofs.YtfddkcmooommeaaGreatDoor.Gl
open Go.RowKit Go.Shelf
set_option linter.unusedVariables false
set_option linter.unnecessarySimpa false
set_option linter.unusedSimpArgs false
attribute [-simp] List.getD_eq_getElem?_getD
theorem q64 (r k : Nat) (h : r ≤ 9223372036854775807) : IntKind.i64.wrap ((r : Int).tdiv (k : Int)) = ((r / k : Nat) : Int) := by
 have := Nat.div_le_self r k
 show IntKind.i64.wrap ((r / k : Nat) : Int) = _
 generalize r / k = q at *
 exact wrap64_id (by omega) (by omega)
theorem u8w (n : Nat) (h : n < 256) : IntKind.u8.wrap (n : Int) = (n : Int) := by rw [IntKind.wrap_u8]; omega
theorem may_le {r : Nat} (h : mayR r = true) : r ≤ 1114111 := by simp [mayR] at h; omega
theorem putL_a {r : Nat} (h : r ≤ 127) : putL r = [r] := if_pos h
theorem putL_b {r : Nat} (h : ¬ r ≤ 127) (h1 : r ≤ 2047) : putL r = [192 + r / 64, 128 + r % 64] := by unfold putL; rw [if_neg h, if_pos h1]
theorem putL_c {r : Nat} (h : ¬ r ≤ 2047) (h1 : r ≤ 65535) : putL r = [224 + r / 4096, 128 + r / 64 % 64, 128 + r % 64] := by unfold putL; rw [if_neg (by omega), if_neg h, if_pos h1]
theorem putL_d {r : Nat} (h : ¬ r ≤ 65535) : putL r = [240 + r / 262144, 128 + r / 4096 % 64, 128 + r / 64 % 64, 128 + r % 64] := by unfold putL; rw [if_neg (by omega), if_neg (by omega), if_neg h]
def bytesC (l : List Nat) : Array Value := (l.map fun c => Value.int .u8 (c : Nat)).toArray
theorem ref_Put (w0 : World) (G : Hp) (r : Nat) (hr : r ≤ 1114111) : GC Tryz.prog w0 137 #[.int .i64 (r : Int)] (fun v G' => ∃ b, v = .slice (some ⟨b, 0, none⟩) (putL r).length (putL r).length ∧ G' = (b, .exact (.cells (bytesC (putL r)) 5 (0, 0))) :: G) G := by
 refine GC.body (args := [.int .i64 (r : Int)]) Tryz.func137 rfl (by kernel_rfl) rfl ?_
 refine GW.seq ?_
 refine GW.region ?_
 refine R.assign ⟨Z,Z,Z,Z⟩ Z ?_
 refine GOps.nil ?_
 refine GW.seq ?_
 refine GW.seq ?_
 refine GW.region ?_
 refine R.move ⟨Z,Z,Z,Z⟩ Z ?_
 refine R.leq ⟨Z,Z,Z,Z⟩ Z Z ?_
 refine GOps.nil ?_
 refine GW.ite Z (fun hc1 => ?_) (fun hc1 => ?_)
 ·try simp only [dcQ] at hc1
  refine GW.seq ?_
  refine GW.region ?_
  refine R.move ⟨Z,Z,Z,Z⟩ Z ?_
  refine R.conv (r := ((r : Nat) : Int)) ⟨Z,Z,Z,Z⟩ Z Tryz.underlying3 Tryz.underlying5 (u8w _ (by omega)) ?_
  refine R.buildSliceF (sz := 1) (bytes := 1) (vs := [_]) (cs := [_]) ⟨Z,Z,Z,Z⟩ Z Tryz.underlying101 (InfoE.mk (by kernel_rfl)) Z Z Z Z Z fun b7 => ?_
  refine R.assign ⟨Z,Z,Z,Z⟩ Z ?_
  refine GOps.nil ?_
  refine GW.ret (Out.of (Res.one Z Z) (Hs.refl _) ?_)
  (first | rw [putL_a (by omega)] | rw [putL_b (by omega) (by omega)] | rw [putL_c (by omega) (by omega)] | rw [putL_d (by omega)]); exact ⟨_, rfl, rfl⟩
 ·try simp only [dcQ] at hc1
  refine GW.skip ?_
  refine GW.seq ?_
  refine GW.seq ?_
  refine GW.region ?_
  refine R.move ⟨Z,Z,Z,Z⟩ Z ?_
  refine R.leq ⟨Z,Z,Z,Z⟩ Z Z ?_
  refine GOps.nil ?_
  refine GW.ite Z (fun hc2 => ?_) (fun hc2 => ?_)
  ·try simp only [dcQ] at hc2
   refine GW.seq ?_
   refine GW.region ?_
   refine R.move ⟨Z,Z,Z,Z⟩ Z ?_
   refine R.quo (r := (((r / 64) : Nat) : Int)) ⟨Z,Z,Z,Z⟩ Z Z (by omega) (q64 _ _ (by omega)) ?_
   refine R.add (r := (((192 + (r / 64)) : Nat) : Int)) ⟨Z,Z,Z,Z⟩ Z Z (by rw [wrap64_id (by omega) (by omega)]; omega) ?_
   refine R.conv (r := (((192 + (r / 64)) : Nat) : Int)) ⟨Z,Z,Z,Z⟩ Z Tryz.underlying3 Tryz.underlying5 (u8w _ (by omega)) ?_
   refine R.move ⟨Z,Z,Z,Z⟩ Z ?_
   refine R.rem (r := (((r % 64) : Nat) : Int)) ⟨Z,Z,Z,Z⟩ Z Z (by omega) (Z) ?_
   refine R.add (r := (((128 + (r % 64)) : Nat) : Int)) ⟨Z,Z,Z,Z⟩ Z Z (by rw [wrap64_id (by omega) (by omega)]; omega) ?_
   refine R.conv (r := (((128 + (r % 64)) : Nat) : Int)) ⟨Z,Z,Z,Z⟩ Z Tryz.underlying3 Tryz.underlying5 (u8w _ (by omega)) ?_
   refine R.buildSliceF (sz := 1) (bytes := 1) (vs := [_, _]) (cs := [_, _]) ⟨Z,Z,Z,Z⟩ Z Tryz.underlying101 (InfoE.mk (by kernel_rfl)) Z Z Z Z Z fun b18 => ?_
   refine R.assign ⟨Z,Z,Z,Z⟩ Z ?_
   refine GOps.nil ?_
   refine GW.ret (Out.of (Res.one Z Z) (Hs.refl _) ?_)
   (first | rw [putL_a (by omega)] | rw [putL_b (by omega) (by omega)] | rw [putL_c (by omega) (by omega)] | rw [putL_d (by omega)]); exact ⟨_, rfl, rfl⟩
  ·try simp only [dcQ] at hc2
   refine GW.skip ?_
   refine GW.seq ?_
   refine GW.seq ?_
   refine GW.region ?_
   refine R.move ⟨Z,Z,Z,Z⟩ Z ?_
   refine R.leq ⟨Z,Z,Z,Z⟩ Z Z ?_
   refine GOps.nil ?_
   refine GW.ite Z (fun hc3 => ?_) (fun hc3 => ?_)
   ·try simp only [dcQ] at hc3
    refine GW.seq ?_
    refine GW.region ?_
    refine R.move ⟨Z,Z,Z,Z⟩ Z ?_
    refine R.quo (r := (((r / 4096) : Nat) : Int)) ⟨Z,Z,Z,Z⟩ Z Z (by omega) (q64 _ _ (by omega)) ?_
    refine R.add (r := (((224 + (r / 4096)) : Nat) : Int)) ⟨Z,Z,Z,Z⟩ Z Z (by rw [wrap64_id (by omega) (by omega)]; omega) ?_
    refine R.conv (r := (((224 + (r / 4096)) : Nat) : Int)) ⟨Z,Z,Z,Z⟩ Z Tryz.underlying3 Tryz.underlying5 (u8w _ (by omega)) ?_
    refine R.move ⟨Z,Z,Z,Z⟩ Z ?_
    refine R.quo (r := (((r / 64) : Nat) : Int)) ⟨Z,Z,Z,Z⟩ Z Z (by omega) (q64 _ _ (by omega)) ?_
    refine R.rem (r := ((((r / 64) % 64) : Nat) : Int)) ⟨Z,Z,Z,Z⟩ Z Z (by omega) (Z) ?_
    refine R.add (r := (((128 + ((r / 64) % 64)) : Nat) : Int)) ⟨Z,Z,Z,Z⟩ Z Z (by rw [wrap64_id (by omega) (by omega)]; omega) ?_
    refine R.conv (r := (((128 + ((r / 64) % 64)) : Nat) : Int)) ⟨Z,Z,Z,Z⟩ Z Tryz.underlying3 Tryz.underlying5 (u8w _ (by omega)) ?_
    refine R.move ⟨Z,Z,Z,Z⟩ Z ?_
    refine R.rem (r := (((r % 64) : Nat) : Int)) ⟨Z,Z,Z,Z⟩ Z Z (by omega) (Z) ?_
    refine R.add (r := (((128 + (r % 64)) : Nat) : Int)) ⟨Z,Z,Z,Z⟩ Z Z (by rw [wrap64_id (by omega) (by omega)]; omega) ?_
    refine R.conv (r := (((128 + (r % 64)) : Nat) : Int)) ⟨Z,Z,Z,Z⟩ Z Tryz.underlying3 Tryz.underlying5 (u8w _ (by omega)) ?_
    refine R.buildSliceF (sz := 1) (bytes := 1) (vs := [_, _, _]) (cs := [_, _, _]) ⟨Z,Z,Z,Z⟩ Z Tryz.underlying101 (InfoE.mk (by kernel_rfl)) Z Z Z Z Z fun b34 => ?_
    refine R.assign ⟨Z,Z,Z,Z⟩ Z ?_
    refine GOps.nil ?_
    refine GW.ret (Out.of (Res.one Z Z) (Hs.refl _) ?_)
    (first | rw [putL_a (by omega)] | rw [putL_b (by omega) (by omega)] | rw [putL_c (by omega) (by omega)] | rw [putL_d (by omega)]); exact ⟨_, rfl, rfl⟩
   ·try simp only [dcQ] at hc3
    refine GW.skip ?_
    refine GW.seq ?_
    refine GW.region ?_
    refine R.move ⟨Z,Z,Z,Z⟩ Z ?_
    refine R.quo (r := (((r / 262144) : Nat) : Int)) ⟨Z,Z,Z,Z⟩ Z Z (by omega) (q64 _ _ (by omega)) ?_
    refine R.add (r := (((240 + (r / 262144)) : Nat) : Int)) ⟨Z,Z,Z,Z⟩ Z Z (by rw [wrap64_id (by omega) (by omega)]; omega) ?_
    refine R.conv (r := (((240 + (r / 262144)) : Nat) : Int)) ⟨Z,Z,Z,Z⟩ Z Tryz.underlying3 Tryz.underlying5 (u8w _ (by omega)) ?_
    refine R.move ⟨Z,Z,Z,Z⟩ Z ?_
    refine R.quo (r := (((r / 4096) : Nat) : Int)) ⟨Z,Z,Z,Z⟩ Z Z (by omega) (q64 _ _ (by omega)) ?_
    refine R.rem (r := ((((r / 4096) % 64) : Nat) : Int)) ⟨Z,Z,Z,Z⟩ Z Z (by omega) (Z) ?_
    refine R.add (r := (((128 + ((r / 4096) % 64)) : Nat) : Int)) ⟨Z,Z,Z,Z⟩ Z Z (by rw [wrap64_id (by omega) (by omega)]; omega) ?_
    refine R.conv (r := (((128 + ((r / 4096) % 64)) : Nat) : Int)) ⟨Z,Z,Z,Z⟩ Z Tryz.underlying3 Tryz.underlying5 (u8w _ (by omega)) ?_
    refine R.move ⟨Z,Z,Z,Z⟩ Z ?_
    refine R.quo (r := (((r / 64) : Nat) : Int)) ⟨Z,Z,Z,Z⟩ Z Z (by omega) (q64 _ _ (by omega)) ?_
    refine R.rem (r := ((((r / 64) % 64) : Nat) : Int)) ⟨Z,Z,Z,Z⟩ Z Z (by omega) (Z) ?_
    refine R.add (r := (((128 + ((r / 64) % 64)) : Nat) : Int)) ⟨Z,Z,Z,Z⟩ Z Z (by rw [wrap64_id (by omega) (by omega)]; omega) ?_
    refine R.conv (r := (((128 + ((r / 64) % 64)) : Nat) : Int)) ⟨Z,Z,Z,Z⟩ Z Tryz.underlying3 Tryz.underlying5 (u8w _ (by omega)) ?_
    refine R.move ⟨Z,Z,Z,Z⟩ Z ?_
    refine R.rem (r := (((r % 64) : Nat) : Int)) ⟨Z,Z,Z,Z⟩ Z Z (by omega) (Z) ?_
    refine R.add (r := (((128 + (r % 64)) : Nat) : Int)) ⟨Z,Z,Z,Z⟩ Z Z (by rw [wrap64_id (by omega) (by omega)]; omega) ?_
    refine R.conv (r := (((128 + (r % 64)) : Nat) : Int)) ⟨Z,Z,Z,Z⟩ Z Tryz.underlying3 Tryz.underlying5 (u8w _ (by omega)) ?_
    refine R.buildSliceF (sz := 1) (bytes := 1) (vs := [_, _, _, _]) (cs := [_, _, _, _]) ⟨Z,Z,Z,Z⟩ Z Tryz.underlying101 (InfoE.mk (by kernel_rfl)) Z Z Z Z Z fun b53 => ?_
    refine R.assign ⟨Z,Z,Z,Z⟩ Z ?_
    refine GOps.nil ?_
    refine GW.ret (Out.of (Res.one Z Z) (Hs.refl _) ?_)
    (first | rw [putL_a (by omega)] | rw [putL_b (by omega) (by omega)] | rw [putL_c (by omega) (by omega)] | rw [putL_d (by omega)]); exact ⟨_, rfl, rfl⟩
theorem hdm_load {b n : Nat} {w0 : World} {G : Hp} (h : (b, Know.exact (.cells #[.int .i64 1, .int .i64 1, .int .i64 32, .int .i64 16, .int .i64 8] 3 (0, 0))) ∈ G) (h1 : 1 < n) (h2 : n ≤ 4) : Rd w0 G b (0 + (n : Int).toNat * 1) (.int .i64 (hdm n : Nat)) := by
 refine .own' h ?_
 rcases (by omega : n = 2 ∨ n = 3 ∨ n = 4) with rfl | rfl | rfl <;> rfl
theorem refStep {l : List Nat} {n i c y : Nat} (hx : l[i]? = some c) (hy : (0 < i ∧ y = c % 64) ∨ (i = 0 ∧ 1 < n ∧ y = c % hdm n) ∨ (i = 0 ∧ ¬ 1 < n ∧ y = c)) (hb : refAcc l n i < 1073741824) (hc : c < 256) :
  IntKind.i64.wrap (((64 * refAcc l n i : Nat) : Int) + (y : Int)) = ((refAcc l n (i + 1) : Nat) : Int) := by
 have e : refAcc l n (i + 1) = 64 * refAcc l n i + refC l n i := rfl
 have e2 : refC l n i = y := by
  unfold refC
  rw [getD_of hx]
  rcases hy with ⟨h1, rfl⟩ | ⟨rfl, h1, rfl⟩ | ⟨rfl, h1, rfl⟩
  ·rw [if_pos h1, if_neg (by omega)]
  ·rw [if_neg (by omega), if_pos ⟨rfl, h1⟩]
  ·rw [if_neg (by omega), if_neg (fun h => h1 h.2)]
 have h2 := Nat.mod_le c (hdm n)
 have h3 := Nat.mod_le c 64
 rw [e, e2, wrap64_id (by omega) (by omega)]
 omega
def getV2 : Option (Nat × Nat) → Value
 | some (r, n) => .tuple #[.int .i64 (r : Int), .int .i64 (n : Int)]
 | none => .tuple #[.int .i64 0, .int .i64 0]
theorem put_eq {s : ByteArray} {r n : Nat} (hr : r ≤ 1114111) : ((strOf (putL r)).toList == (s.extract 0 n).toList) = (putL r == (bs s).take n) := by
 rw [toList_beq, bs_strOf (putL_lt hr), bs_extract]
 simp
theorem try_yes {s : ByteArray} {n i : Nat} (hi : i = n) (h1 : mayR (refAcc (bs s) n i) = true) (h2 : ((strOf (putL (refAcc (bs s) n i))).toList == (s.extract 0 n).toList) = true) : tryR (bs s) n = true := by
 subst hi
 rw [put_eq (may_le h1)] at h2
 rw [tryR, h1, h2]; rfl
theorem try_no1 {s : ByteArray} {n i : Nat} (hi : i = n) (h1 : mayR (refAcc (bs s) n i) = false) : tryR (bs s) n = false := by subst hi; rw [tryR, h1]; rfl
theorem try_no2 {s : ByteArray} {n i : Nat} (hi : i = n) (h1 : mayR (refAcc (bs s) n i) = true) (h2 : ((strOf (putL (refAcc (bs s) n i))).toList == (s.extract 0 n).toList) = false) : tryR (bs s) n = false := by
 subst hi
 rw [put_eq (may_le h1)] at h2
 rw [tryR, h1, h2]; rfl
theorem getS_none_of {s : ByteArray} {n : Nat} (hn : n ≤ 5) (h0 : ∀ k, 1 ≤ k → k < n → k ≤ s.size → tryR (bs s) k = false) (h : 4 < n ∨ s.size < n) : getS (bs s) = none := by
 cases hg : getS (bs s) with
 | none => rfl
 | some p =>
  obtain ⟨r, k⟩ := p
  obtain ⟨h1, h2, h3, h4, h5⟩ := (getS_iff (bs_getD_lt s)).1 hg
  rw [bs_length] at h3
  rw [h0 k h1 (by omega) h3] at h5
  cases h5
theorem ref_Get (w0 : World) (G : Hp) (s : ByteArray) (hm : s.size ≤ 9223372036854775807) : GC Tryz.prog w0 111 #[.string s] (fun v G' => v = getV2 (getS (bs s)) ∧ G = G') G := by
 refine GC.body (args := [.string s]) Tryz.func111 rfl (by kernel_rfl) rfl ?_
 refine GW.seq ?_
 refine GW.region ?_
 refine R.assign ⟨Z,Z,Z,Z⟩ Z ?_
 refine R.assign ⟨Z,Z,Z,Z⟩ Z ?_
 refine GOps.nil ?_
 refine GW.seq ?_
 refine GW.seq ?_
 refine GW.region ?_
 refine R.assign ⟨Z,Z,Z,Z⟩ Z ?_
 refine GOps.nil ?_
 refine GW.block ?_
 refine GW.loopI (fun n : Nat => [(0, .string s), (4, .int .i64 n)]) (fun n => G) (fun n => 5 - n) (fun n => 1 ≤ n ∧ n ≤ 5 ∧ ∀ k, 1 ≤ k → k < n → k ≤ s.size → tryR (bs s) k = false) 1
  (keepG) (Hs.refl _) (⟨by omega, by omega, fun k h1 h2 => absurd h2 (by omega)⟩) ?_
 rintro n ⟨hn1, hn5, h0⟩
 have hp := hdm_pos n
 refine GW.seq ?_
 refine GW.seq ?_
 refine GW.region ?_
 refine R.move ⟨Z,Z,Z,Z⟩ Z ?_
 refine R.leq ⟨Z,Z,Z,Z⟩ Z Z ?_
 refine R.move ⟨Z,Z,Z,Z⟩ Z ?_
 refine GOps.caseB 10 Z (fun hg1 => ?_) (fun hg1 => ?_)
 ·try simp only [dcQ] at hg1
  refine R.move ⟨Z,Z,Z,Z⟩ Z ?_
  refine R.move ⟨Z,Z,Z,Z⟩ Z ?_
  refine R.lenStr ⟨Z,Z,Z,Z⟩ Z Z Tryz.underlying9 ?_
  refine R.leq ⟨Z,Z,Z,Z⟩ Z Z ?_
  refine R.pick_t ⟨Z,Z,Z,Z⟩ Z Z ?_
  refine GOps.nil ?_
  refine GW.ite Z (fun hc2 => ?_) (fun hc2 => ?_)
  ·try simp only [dcQ] at hc2
   refine GW.skip ?_
   refine GW.seq ?_
   refine GW.block ?_
   refine GW.seq ?_
   refine GW.region ?_
   refine R.assign ⟨Z,Z,Z,Z⟩ Z ?_
   refine GOps.nil ?_
   refine GW.seq ?_
   refine GW.seq ?_
   refine GW.region ?_
   refine R.assign ⟨Z,Z,Z,Z⟩ Z ?_
   refine GOps.nil ?_
   refine GW.block ?_
   refine GW.loopI (fun i : Nat => [(0, .string s), (4, .int .i64 n), (5, .int .i64 (refAcc (bs s) n i : Nat)), (6, .int .i64 i)]) (fun i => G) (fun i => n - i) (fun i => i ≤ n) 0
    (keepG) (Hs.refl _) (by omega) ?_
   rintro i hi
   have hbd := refAcc_bound (bs_getD_lt s) n i (by omega)
   refine GW.seq ?_
   refine GW.seq ?_
   refine GW.region ?_
   refine R.move ⟨Z,Z,Z,Z⟩ Z ?_
   refine R.move ⟨Z,Z,Z,Z⟩ Z ?_
   refine R.lss ⟨Z,Z,Z,Z⟩ Z Z ?_
   refine GOps.nil ?_
   refine GW.ite Z (fun hc3 => ?_) (fun hc3 => ?_)
   ·try simp only [dcQ] at hc3
    refine GW.skip ?_
    refine GW.seq ?_
    refine GW.block ?_
    refine GW.seq ?_
    refine GW.region ?_
    refine R.move ⟨Z,Z,Z,Z⟩ Z ?_
    refine R.move ⟨Z,Z,Z,Z⟩ Z ?_
    refine R.indexStrA ⟨Z,Z,Z,Z⟩ Z Z Tryz.underlying9 (by omega) (by omega) fun c1 hx1 hb1 => ?_   -- "ref.go:33" ['t23', 't24']
    refine R.conv (r := ((c1 : Nat) : Int)) ⟨Z,Z,Z,Z⟩ Z Tryz.underlying5 Tryz.underlying3 (wrap64_id (by omega) (by omega)) ?_
    refine R.assign ⟨Z,Z,Z,Z⟩ Z ?_
    refine GOps.nil ?_
    refine GW.seq ?_
    refine GW.seq ?_
    refine GW.region ?_
    refine R.move ⟨Z,Z,Z,Z⟩ Z ?_
    refine R.eqI ⟨Z,Z,Z,Z⟩ Z Z ?_
    refine R.move ⟨Z,Z,Z,Z⟩ Z ?_
    refine GOps.caseB 29 Z (fun hg4 => ?_) (fun hg4 => ?_)
    ·try simp only [dcQ] at hg4
     refine R.move ⟨Z,Z,Z,Z⟩ Z ?_
     refine R.gtr ⟨Z,Z,Z,Z⟩ Z Z ?_
     refine R.pick_t ⟨Z,Z,Z,Z⟩ Z Z ?_
     refine GOps.nil ?_
     refine GW.ite Z (fun hc5 => ?_) (fun hc5 => ?_)
     ·try simp only [dcQ] at hc5
      refine GW.region ?_
      refine R.move ⟨Z,Z,Z,Z⟩ Z ?_
      refine R.buildSliceF (sz := 1) (bytes := 8) (vs := [_, _, _, _, _]) (cs := [_, _, _, _, _]) ⟨Z,Z,Z,Z⟩ Z Tryz.underlying32 (InfoE.mk (by kernel_rfl)) Z Z Z Z Z fun b34 => ?_
      refine R.move ⟨Z,Z,Z,Z⟩ Z ?_
      refine R.indexAddrS ⟨Z,Z,Z,Z⟩ Z Z Tryz.underlying32 Tryz.sizeOf3 (by omega) (by omega) ?_
      refine R.load1 ⟨Z,Z,Z,Z⟩ Z Tryz.underlying3 Z (hdm_load (by repeat (first | exact List.mem_cons_self | apply List.mem_cons_of_mem)) (by omega) (by omega)) ?_
      refine R.rem (r := (((c1 % (hdm n)) : Nat) : Int)) ⟨Z,Z,Z,Z⟩ Z Z (by omega) (Z) ?_
      refine R.assign ⟨Z,Z,Z,Z⟩ Z ?_
      refine GOps.nil ?_
      refine GW.seq ?_
      refine GW.seq ?_
      refine GW.region ?_
      refine R.move ⟨Z,Z,Z,Z⟩ Z ?_
      refine R.gtr ⟨Z,Z,Z,Z⟩ Z Z ?_
      refine GOps.nil ?_
      refine GW.ite Z (fun hc6 => ?_) (fun hc6 => ?_)
      ·try simp only [dcQ] at hc6
       refine GW.region ?_
       refine R.move ⟨Z,Z,Z,Z⟩ Z ?_
       refine R.rem (r := ((((c1 % (hdm n)) % 64) : Nat) : Int)) ⟨Z,Z,Z,Z⟩ Z Z (by omega) (Z) ?_
       refine R.assign ⟨Z,Z,Z,Z⟩ Z ?_
       refine GOps.nil ?_
       refine GW.region ?_
       refine R.move ⟨Z,Z,Z,Z⟩ Z ?_
       refine R.mul (r := (((64 * (refAcc (bs s) n i)) : Nat) : Int)) ⟨Z,Z,Z,Z⟩ Z Z (by rw [wrap64_id (by omega) (by omega)]; omega) ?_
       refine R.move ⟨Z,Z,Z,Z⟩ Z ?_
       refine R.add (r := ((refAcc (bs s) n (i + 1) : Nat) : Int)) ⟨Z,Z,Z,Z⟩ Z Z (refStep hx1 (by first | exact .inl ⟨by omega, Z⟩ | exact .inr (.inl ⟨by omega, by omega, Z⟩) | exact .inr (.inr ⟨by omega, by omega, Z⟩) | (exfalso; omega)) hbd hb1) ?_
       refine R.assign ⟨Z,Z,Z,Z⟩ Z ?_
       refine GOps.nil ?_
       refine GW.region ?_
       refine R.move ⟨Z,Z,Z,Z⟩ Z ?_
       refine R.add (r := (((i + 1) : Nat) : Int)) ⟨Z,Z,Z,Z⟩ Z Z (by rw [wrap64_id (by omega) (by omega)]; omega) ?_
       refine R.assign ⟨Z,Z,Z,Z⟩ Z ?_
       refine GOps.nil ?_
       exact ⟨i + 1, by omega, by omega, rfl, keepG, by first | exact Hs.refl _ | exact Hs.tl _ | exact Hs.tl2 _ _⟩
      ·try simp only [dcQ] at hc6
       refine GW.skip ?_
       refine GW.region ?_
       refine R.move ⟨Z,Z,Z,Z⟩ Z ?_
       refine R.mul (r := (((64 * (refAcc (bs s) n i)) : Nat) : Int)) ⟨Z,Z,Z,Z⟩ Z Z (by rw [wrap64_id (by omega) (by omega)]; omega) ?_
       refine R.move ⟨Z,Z,Z,Z⟩ Z ?_
       refine R.add (r := ((refAcc (bs s) n (i + 1) : Nat) : Int)) ⟨Z,Z,Z,Z⟩ Z Z (refStep hx1 (by first | exact .inl ⟨by omega, Z⟩ | exact .inr (.inl ⟨by omega, by omega, Z⟩) | exact .inr (.inr ⟨by omega, by omega, Z⟩) | (exfalso; omega)) hbd hb1) ?_
       refine R.assign ⟨Z,Z,Z,Z⟩ Z ?_
       refine GOps.nil ?_
       refine GW.region ?_
       refine R.move ⟨Z,Z,Z,Z⟩ Z ?_
       refine R.add (r := (((i + 1) : Nat) : Int)) ⟨Z,Z,Z,Z⟩ Z Z (by rw [wrap64_id (by omega) (by omega)]; omega) ?_
       refine R.assign ⟨Z,Z,Z,Z⟩ Z ?_
       refine GOps.nil ?_
       exact ⟨i + 1, by omega, by omega, rfl, keepG, by first | exact Hs.refl _ | exact Hs.tl _ | exact Hs.tl2 _ _⟩
     ·try simp only [dcQ] at hc5
      refine GW.skip ?_
      refine GW.seq ?_
      refine GW.seq ?_
      refine GW.region ?_
      refine R.move ⟨Z,Z,Z,Z⟩ Z ?_
      refine R.gtr ⟨Z,Z,Z,Z⟩ Z Z ?_
      refine GOps.nil ?_
      refine GW.ite Z (fun hc7 => ?_) (fun hc7 => ?_)
      ·try simp only [dcQ] at hc7
       refine GW.region ?_
       refine R.move ⟨Z,Z,Z,Z⟩ Z ?_
       refine R.rem (r := (((c1 % 64) : Nat) : Int)) ⟨Z,Z,Z,Z⟩ Z Z (by omega) (Z) ?_
       refine R.assign ⟨Z,Z,Z,Z⟩ Z ?_
       refine GOps.nil ?_
       refine GW.region ?_
       refine R.move ⟨Z,Z,Z,Z⟩ Z ?_
       refine R.mul (r := (((64 * (refAcc (bs s) n i)) : Nat) : Int)) ⟨Z,Z,Z,Z⟩ Z Z (by rw [wrap64_id (by omega) (by omega)]; omega) ?_
       refine R.move ⟨Z,Z,Z,Z⟩ Z ?_
       refine R.add (r := ((refAcc (bs s) n (i + 1) : Nat) : Int)) ⟨Z,Z,Z,Z⟩ Z Z (refStep hx1 (by first | exact .inl ⟨by omega, Z⟩ | exact .inr (.inl ⟨by omega, by omega, Z⟩) | exact .inr (.inr ⟨by omega, by omega, Z⟩) | (exfalso; omega)) hbd hb1) ?_
       refine R.assign ⟨Z,Z,Z,Z⟩ Z ?_
       refine GOps.nil ?_
       refine GW.region ?_
       refine R.move ⟨Z,Z,Z,Z⟩ Z ?_
       refine R.add (r := (((i + 1) : Nat) : Int)) ⟨Z,Z,Z,Z⟩ Z Z (by rw [wrap64_id (by omega) (by omega)]; omega) ?_
       refine R.assign ⟨Z,Z,Z,Z⟩ Z ?_
       refine GOps.nil ?_
       exact ⟨i + 1, by omega, by omega, rfl, keepG, by first | exact Hs.refl _ | exact Hs.tl _ | exact Hs.tl2 _ _⟩
      ·try simp only [dcQ] at hc7
       refine GW.skip ?_
       refine GW.region ?_
       refine R.move ⟨Z,Z,Z,Z⟩ Z ?_
       refine R.mul (r := (((64 * (refAcc (bs s) n i)) : Nat) : Int)) ⟨Z,Z,Z,Z⟩ Z Z (by rw [wrap64_id (by omega) (by omega)]; omega) ?_
       refine R.move ⟨Z,Z,Z,Z⟩ Z ?_
       refine R.add (r := ((refAcc (bs s) n (i + 1) : Nat) : Int)) ⟨Z,Z,Z,Z⟩ Z Z (refStep hx1 (by first | exact .inl ⟨by omega, Z⟩ | exact .inr (.inl ⟨by omega, by omega, Z⟩) | exact .inr (.inr ⟨by omega, by omega, Z⟩) | (exfalso; omega)) hbd hb1) ?_
       refine R.assign ⟨Z,Z,Z,Z⟩ Z ?_
       refine GOps.nil ?_
       refine GW.region ?_
       refine R.move ⟨Z,Z,Z,Z⟩ Z ?_
       refine R.add (r := (((i + 1) : Nat) : Int)) ⟨Z,Z,Z,Z⟩ Z Z (by rw [wrap64_id (by omega) (by omega)]; omega) ?_
       refine R.assign ⟨Z,Z,Z,Z⟩ Z ?_
       refine GOps.nil ?_
       exact ⟨i + 1, by omega, by omega, rfl, keepG, by first | exact Hs.refl _ | exact Hs.tl _ | exact Hs.tl2 _ _⟩
    ·try simp only [dcQ] at hg4
     refine GOps.skip Z Z Z ?_
     refine GOps.skip Z Z Z ?_
     refine R.pick_f ⟨Z,Z,Z,Z⟩ Z Z ?_
     refine GOps.nil ?_
     refine GW.cond_f Z ?_
     refine GW.skip ?_
     refine GW.seq ?_
     refine GW.seq ?_
     refine GW.region ?_
     refine R.move ⟨Z,Z,Z,Z⟩ Z ?_
     refine R.gtr ⟨Z,Z,Z,Z⟩ Z Z ?_
     refine GOps.nil ?_
     refine GW.ite Z (fun hc8 => ?_) (fun hc8 => ?_)
     ·try simp only [dcQ] at hc8
      refine GW.region ?_
      refine R.move ⟨Z,Z,Z,Z⟩ Z ?_
      refine R.rem (r := (((c1 % 64) : Nat) : Int)) ⟨Z,Z,Z,Z⟩ Z Z (by omega) (Z) ?_
      refine R.assign ⟨Z,Z,Z,Z⟩ Z ?_
      refine GOps.nil ?_
      refine GW.region ?_
      refine R.move ⟨Z,Z,Z,Z⟩ Z ?_
      refine R.mul (r := (((64 * (refAcc (bs s) n i)) : Nat) : Int)) ⟨Z,Z,Z,Z⟩ Z Z (by rw [wrap64_id (by omega) (by omega)]; omega) ?_
      refine R.move ⟨Z,Z,Z,Z⟩ Z ?_
      refine R.add (r := ((refAcc (bs s) n (i + 1) : Nat) : Int)) ⟨Z,Z,Z,Z⟩ Z Z (refStep hx1 (by first | exact .inl ⟨by omega, Z⟩ | exact .inr (.inl ⟨by omega, by omega, Z⟩) | exact .inr (.inr ⟨by omega, by omega, Z⟩) | (exfalso; omega)) hbd hb1) ?_
      refine R.assign ⟨Z,Z,Z,Z⟩ Z ?_
      refine GOps.nil ?_
      refine GW.region ?_
      refine R.move ⟨Z,Z,Z,Z⟩ Z ?_
      refine R.add (r := (((i + 1) : Nat) : Int)) ⟨Z,Z,Z,Z⟩ Z Z (by rw [wrap64_id (by omega) (by omega)]; omega) ?_
      refine R.assign ⟨Z,Z,Z,Z⟩ Z ?_
      refine GOps.nil ?_
      exact ⟨i + 1, by omega, by omega, rfl, keepG, by first | exact Hs.refl _ | exact Hs.tl _ | exact Hs.tl2 _ _⟩
     ·try simp only [dcQ] at hc8
      refine GW.skip ?_
      refine GW.region ?_
      refine R.move ⟨Z,Z,Z,Z⟩ Z ?_
      refine R.mul (r := (((64 * (refAcc (bs s) n i)) : Nat) : Int)) ⟨Z,Z,Z,Z⟩ Z Z (by rw [wrap64_id (by omega) (by omega)]; omega) ?_
      refine R.move ⟨Z,Z,Z,Z⟩ Z ?_
      refine R.add (r := ((refAcc (bs s) n (i + 1) : Nat) : Int)) ⟨Z,Z,Z,Z⟩ Z Z (refStep hx1 (by first | exact .inl ⟨by omega, Z⟩ | exact .inr (.inl ⟨by omega, by omega, Z⟩) | exact .inr (.inr ⟨by omega, by omega, Z⟩) | (exfalso; omega)) hbd hb1) ?_
      refine R.assign ⟨Z,Z,Z,Z⟩ Z ?_
      refine GOps.nil ?_
      refine GW.region ?_
      refine R.move ⟨Z,Z,Z,Z⟩ Z ?_
      refine R.add (r := (((i + 1) : Nat) : Int)) ⟨Z,Z,Z,Z⟩ Z Z (by rw [wrap64_id (by omega) (by omega)]; omega) ?_
      refine R.assign ⟨Z,Z,Z,Z⟩ Z ?_
      refine GOps.nil ?_
      exact ⟨i + 1, by omega, by omega, rfl, keepG, by first | exact Hs.refl _ | exact Hs.tl _ | exact Hs.tl2 _ _⟩
   ·try simp only [dcQ] at hc3
    refine GW.exit ?_
    refine GW.seq ?_
    refine GW.drawS 11 Z (by kernel_rfl) ?_
    refine GA.w 0 Z (V.move ⟨Z,Z,Z,Z⟩ Z) Z ?_
    refine GA.one 1 (by first | exact Hs.refl _ | exact Hs.tl _ | exact Hs.tl2 _ _ | exact Hs.tl3 _ _ _ | exact Hs.sub (by simp)) (by kernel_rfl) Z ?_
    refine R.call ⟨Z,Z,Z,Z⟩ Z (vs := [_]) Z ((ref_May _ _ _).mono ?_)
    rintro _ _ ⟨rfl, rfl⟩
    refine GOps.nil ?_
    refine GA.w 2 Z (V.move ⟨Z,Z,Z,Z⟩ Z) Z ?_
    refine GA.caseB 49 Z (fun hg9 => ?_) (fun hg9 => ?_)
    ·try simp only [dcQ] at hg9
     refine GA.w 3 Z (V.move ⟨Z,Z,Z,Z⟩ Z) Z ?_
     refine GA.w 6 Z (V.move ⟨Z,Z,Z,Z⟩ Z) Z ?_
     refine GA.w 7 Z (V.move ⟨Z,Z,Z,Z⟩ Z) Z ?_
     refine GA.w 8 Z (V.sliceStrH ⟨Z,Z,Z,Z⟩ Z Z Tryz.underlying9 (by omega) (by omega)) Z ?_
     refine GA.one 4 (by first | exact Hs.refl _ | exact Hs.tl _ | exact Hs.tl2 _ _ | exact Hs.tl3 _ _ _ | exact Hs.sub (by simp)) (by kernel_rfl) Z ?_
     refine R.call ⟨Z,Z,Z,Z⟩ Z (vs := [_]) Z ((ref_Put _ _ _ (may_le (by assumption))).mono ?_)
     rintro _ _ ⟨bp, rfl, rfl⟩
     refine GOps.nil ?_
     refine GA.one 5 (by first | exact Hs.refl _ | exact Hs.tl _ | exact Hs.tl2 _ _ | exact Hs.tl3 _ _ _ | exact Hs.sub (by simp)) (by kernel_rfl) Z ?_
     refine R.convBytes (l := putL (refAcc (bs s) n i)) ⟨Z,Z,Z,Z⟩ Z Tryz.underlying101 Tryz.underlying5 Tryz.underlying9 (Z) (.own (by repeat (first | exact List.mem_cons_self | apply List.mem_cons_of_mem)) 0 _ (fun j v hv => by simpa [bytesC] using hv)) ?_
     refine GOps.nil ?_
     refine GA.val 9 Z (V.eqS ⟨Z,Z,Z,Z⟩ Z Z) Z (by kernel_rfl) (by kernel_rfl) (by kernel_rfl) ?_
     refine GA.w 10 Z (V.pick_t ⟨Z,Z,Z,Z⟩ Z Z) Z ?_
     refine GA.done (by first | exact Hs.refl _ | exact Hs.tl _ | exact Hs.tl2 _ _ | exact Hs.tl3 _ _ _ | exact Hs.sub (by simp)) (by kernel_rfl) ?_
     refine GW.ite Z (fun hc10 => ?_) (fun hc10 => ?_)
     ·try simp only [dcQ] at hc10
      refine GW.seq ?_
      refine GW.region ?_
      refine R.move ⟨Z,Z,Z,Z⟩ Z ?_
      refine R.move ⟨Z,Z,Z,Z⟩ Z ?_
      refine R.assign ⟨Z,Z,Z,Z⟩ Z ?_
      refine R.assign ⟨Z,Z,Z,Z⟩ Z ?_
      refine GOps.nil ?_
      refine GW.ret (Out.of (Res.two Z Z Z) hsB ⟨?_, Z⟩)
      first | (rw [getS_none_of hn5 h0 (by omega)]; rfl) | (rw [(getS_iff (bs_getD_lt s)).2 ⟨hn1, by omega, by rw [bs_length]; omega, rfl, try_yes (i := i) (by omega) (by assumption) (by assumption)⟩]; rw [show i = n by omega]; rfl)
     ·try simp only [dcQ] at hc10
      refine GW.skip ?_
      refine GW.region ?_
      refine R.move ⟨Z,Z,Z,Z⟩ Z ?_
      refine R.add (r := (((n + 1) : Nat) : Int)) ⟨Z,Z,Z,Z⟩ Z Z (by rw [wrap64_id (by omega) (by omega)]; omega) ?_
      refine R.assign ⟨Z,Z,Z,Z⟩ Z ?_
      refine GOps.nil ?_
      exact ⟨n + 1, by omega, ⟨by omega, by omega, fun k h1 h2 h3 => by (rcases (by omega : k < n ∨ k = n) with h | rfl) <;> first | exact h0 k h1 h h3 | exact try_no1 (i := i) (by omega) (by assumption) | exact try_no2 (i := i) (by omega) (by assumption) (by assumption)⟩, rfl, keepG, by first | exact Hs.refl _ | exact Hs.tl _ | exact Hs.tl2 _ _⟩
    ·try simp only [dcQ] at hg9
     refine GA.sk 3 Z Z Z Z Z ?_
     refine GA.sk 4 Z Z Z Z Z ?_
     refine GA.sk 5 Z Z Z Z Z ?_
     refine GA.sk 6 Z Z Z Z Z ?_
     refine GA.sk 7 Z Z Z Z Z ?_
     refine GA.sk 8 Z Z Z Z Z ?_
     refine GA.sk 9 Z Z Z Z Z ?_
     refine GA.w 10 Z (V.pick_f ⟨Z,Z,Z,Z⟩ Z Z) Z ?_
     refine GA.done (by first | exact Hs.refl _ | exact Hs.tl _ | exact Hs.tl2 _ _ | exact Hs.tl3 _ _ _ | exact Hs.sub (by simp)) (by kernel_rfl) ?_
     refine GW.cond_f Z ?_
     refine GW.skip ?_
     refine GW.region ?_
     refine R.move ⟨Z,Z,Z,Z⟩ Z ?_
     refine R.add (r := (((n + 1) : Nat) : Int)) ⟨Z,Z,Z,Z⟩ Z Z (by rw [wrap64_id (by omega) (by omega)]; omega) ?_
     refine R.assign ⟨Z,Z,Z,Z⟩ Z ?_
     refine GOps.nil ?_
     exact ⟨n + 1, by omega, ⟨by omega, by omega, fun k h1 h2 h3 => by (rcases (by omega : k < n ∨ k = n) with h | rfl) <;> first | exact h0 k h1 h h3 | exact try_no1 (i := i) (by omega) (by assumption) | exact try_no2 (i := i) (by omega) (by assumption) (by assumption)⟩, rfl, keepG, by first | exact Hs.refl _ | exact Hs.tl _ | exact Hs.tl2 _ _⟩
  ·try simp only [dcQ] at hc2
   refine GW.exit ?_
   refine GW.seq ?_
   refine GW.region ?_
   refine R.assign ⟨Z,Z,Z,Z⟩ Z ?_
   refine R.assign ⟨Z,Z,Z,Z⟩ Z ?_
   refine GOps.nil ?_
   refine GW.ret (Out.of (Res.two Z Z Z) hsB ⟨?_, Z⟩)
   first | (rw [getS_none_of hn5 h0 (by omega)]; rfl) | (rw [(getS_iff (bs_getD_lt s)).2 ⟨hn1, by omega, by rw [bs_length]; omega, rfl, try_yes (i := i) (by omega) (by assumption) (by assumption)⟩]; rw [show i = n by omega]; rfl)
 ·try simp only [dcQ] at hg1
  refine GOps.skip Z Z Z ?_
  refine GOps.skip Z Z Z ?_
  refine GOps.skip Z Z Z ?_
  refine GOps.skip Z Z Z ?_
  refine R.pick_f ⟨Z,Z,Z,Z⟩ Z Z ?_
  refine GOps.nil ?_
  refine GW.cond_f Z ?_
  refine GW.exit ?_
  refine GW.seq ?_
  refine GW.region ?_
  refine R.assign ⟨Z,Z,Z,Z⟩ Z ?_
  refine R.assign ⟨Z,Z,Z,Z⟩ Z ?_
  refine GOps.nil ?_
  refine GW.ret (Out.of (Res.two Z Z Z) hsB ⟨?_, Z⟩)
  first | (rw [getS_none_of hn5 h0 (by omega)]; rfl) | (rw [(getS_iff (bs_getD_lt s)).2 ⟨hn1, by omega, by rw [bs_length]; omega, rfl, try_yes (i := i) (by omega) (by assumption) (by assumption)⟩]; rw [show i = n by omega]; rfl)
end Go.Proofs.YtfddkcmooommeaaGreatDoor.Gl
end
section
namespace Go.Proofs.YtfddkcmooommeaaGreatDoor.Gl
open Go.RowKit Go.Shelf
set_option linter.unusedVariables false
set_option linter.unnecessarySimpa false
set_option linter.unusedSimpArgs false
attribute [-simp] List.getD_eq_getElem?_getD
def nextAt (l : List Nat) (k : Nat) : Option (Nat × Nat) := if k < l.length then getS (l.drop k) else none
def endAt (l : List Nat) : Nat → Nat → Nat
 | 0, k => k
 | f + 1, k => match nextAt l k with
  | some (_, n) => endAt l f (k + n)
  | none => k
def validS (l : List Nat) : Bool := endAt l (l.length + 1) 0 == l.length
theorem nextAt_of {s : ByteArray} {k : Nat} {x : Option (Nat × Nat)} (h : k < (bs s).length) (hg : getS (bs (s.extract k s.size)) = x) : nextAt (bs s) k = x := by
 rw [bs_from] at hg
 unfold nextAt
 rw [if_pos h, hg]
theorem nextAt_ge {s : ByteArray} {k : Nat} (h : ¬ k < s.size) : nextAt (bs s) k = none := by unfold nextAt; rw [if_neg (by rw [bs_length]; exact h)]
theorem nextAt_facts {l : List Nat} {k r n : Nat} (h : nextAt l k = some (r, n)) : k < l.length ∧ 1 ≤ n ∧ k + n ≤ l.length ∧ sizeR r = n ∧ n ≤ 4 := by
 unfold nextAt at h
 split at h
 case isFalse => cases h
 rename_i hk
 unfold getS at h
 simp only at h
 split at h
 case isFalse => cases h
 rename_i hc
 simp only [Option.some.injEq, Prod.mk.injEq] at h
 obtain ⟨rfl, rfl⟩ := h
 have h2 := hc.2.1
 have h3 := hdM_le ((l.drop k).getD 0 0)
 rw [List.length_drop] at h2
 exact ⟨hk, by omega, by omega, hc.2.2.2.2, by omega⟩
def Ahead (l : List Nat) (k : Nat) : Prop := ∃ f, endAt l (l.length + 1) 0 = endAt l f k ∧ l.length - k < f ∧ k ≤ l.length
theorem Ahead.zero (l : List Nat) : Ahead l 0 := ⟨_, rfl, by omega, by omega⟩
theorem Ahead.next {l : List Nat} {k r n : Nat} (h : Ahead l k) (hn : nextAt l k = some (r, n)) : Ahead l (k + n) := by
 obtain ⟨f, h1, h2, h3⟩ := h
 obtain ⟨g1, g2, g3, g4, g5⟩ := nextAt_facts hn
 cases f with
 | zero => omega
 | succ f =>
  refine ⟨f, ?_, by omega, g3⟩
  rw [h1]
  simp only [endAt, hn]
theorem Ahead.stop {l : List Nat} {k : Nat} (h : Ahead l k) (hn : nextAt l k = none) : endAt l (l.length + 1) 0 = k := by
 obtain ⟨f, h1, h2, h3⟩ := h
 rw [h1]
 cases f with
 | zero => rfl
 | succ f => simp only [endAt, hn]
theorem valid_of {s : ByteArray} {k : Nat} (h : Ahead (bs s) k) (hn : nextAt (bs s) k = none) : validS (bs s) = decide ((k : Int) = (s.size : Int)) := by
 unfold validS
 rw [h.stop hn, bs_length, Bool.eq_iff_iff]
 simp
 omega
theorem utf_Runes1 (w0 : World) (l bS : Nat) (s : ByteArray) (hm : s.size ≤ 9223372036854775807) (J : Nat → Hp) (I : Nat → Prop) (S : Hp → Prop) (hc : ∀ k, Rd w0 (J k) bS 0 (.string s)) (h0 : I 0)
  (hy : ∀ k r n, I k → nextAt (bs s) k = some (r, n) → GY Tryz.prog w0 l [.int .i64 (k : Int), .int .i64 (r : Int)] (fun v G' => (v = .bool true ∧ I (k + n) ∧ J (k + n) = G') ∨ (v = .bool false ∧ S G')) (J k)) :
  GC Tryz.prog w0 140 #[.func (.yield l) #[] #[], .pointer (some ⟨bS, 0, none⟩)] (fun v G' => (∃ k, I k ∧ nextAt (bs s) k = none ∧ J k = G') ∨ S G') (J 0) := by
 refine GC.body (args := [.func (.yield l) #[] #[], .pointer (some ⟨bS, 0, none⟩)]) Tryz.func140 rfl (by kernel_rfl) rfl ?_
 refine GW.seq ?_
 refine GW.region ?_
 refine R.assign ⟨Z,Z,Z,Z⟩ Z ?_
 refine GOps.nil ?_
 refine GW.block ?_
 refine GW.loopI (fun k : Nat => [(0, .func (.yield l) #[] #[]), (1, .pointer (some ⟨bS, 0, none⟩)), (3, .int .i64 k)]) (fun k => J k) (fun k => s.size - k) (fun k => k ≤ s.size ∧ I k) 0
  (keepG) (Hs.refl _) (⟨by omega, h0⟩) ?_
 rintro k ⟨hk, hI⟩
 refine GW.seq ?_
 refine GW.seq ?_
 refine GW.region ?_
 refine R.move ⟨Z,Z,Z,Z⟩ Z ?_
 refine R.load1 ⟨Z,Z,Z,Z⟩ Z Tryz.underlying9 Z (hc _) ?_
 refine R.lenStr ⟨Z,Z,Z,Z⟩ Z Z Tryz.underlying9 ?_
 refine R.lss ⟨Z,Z,Z,Z⟩ Z Z ?_
 refine GOps.nil ?_
 refine GW.ite Z (fun hc1 => ?_) (fun hc1 => ?_)
 ·try simp only [dcQ] at hc1
  refine GW.skip ?_
  refine GW.block ?_
  refine GW.seq ?_
  refine GW.region ?_
  refine R.load1 ⟨Z,Z,Z,Z⟩ Z Tryz.underlying9 Z (hc _) ?_
  refine R.move ⟨Z,Z,Z,Z⟩ Z ?_
  refine R.sliceStrL ⟨Z,Z,Z,Z⟩ Z Z Tryz.underlying9 (by omega) (by omega) ?_
  refine R.call ⟨Z,Z,Z,Z⟩ Z (vs := [_]) Z ((utf_Get _ _ _ (by rw [size_from]; omega)).mono ?_)
  rintro _ _ ⟨rfl, rfl⟩
  rcases hg : getS (bs (s.extract (k : Int).toNat s.size)) with _ | ⟨r, n⟩
  ·have hn0 : nextAt (bs s) k = none := nextAt_of (by rw [bs_length]; omega) hg
   refine R.move ⟨Z,Z,Z,Z⟩ Z ?_
   refine R.extract ⟨Z,Z,Z,Z⟩ Z Z ?_
   refine R.extract ⟨Z,Z,Z,Z⟩ Z Z ?_
   refine R.extract ⟨Z,Z,Z,Z⟩ Z Z ?_
   refine R.assign ⟨Z,Z,Z,Z⟩ Z ?_
   refine R.assign ⟨Z,Z,Z,Z⟩ Z ?_
   refine R.assign ⟨Z,Z,Z,Z⟩ Z ?_
   refine GOps.nil ?_
   refine GW.seq ?_
   refine GW.seq ?_
   refine GW.region ?_
   refine R.move ⟨Z,Z,Z,Z⟩ Z ?_
   refine R.neI ⟨Z,Z,Z,Z⟩ Z Z ?_
   refine R.move ⟨Z,Z,Z,Z⟩ Z ?_
   refine GOps.skip Z Z Z ?_
   refine GOps.skip Z Z Z ?_
   refine GOps.skip Z Z Z ?_
   refine GOps.skip Z Z Z ?_
   refine GOps.skip Z Z Z ?_
   refine R.pick_t ⟨Z,Z,Z,Z⟩ Z Z ?_
   refine GOps.nil ?_
   refine GW.cond_t Z ?_
   first | exact GW.ret (Out.of (Res.none rfl) (Hs.refl _) (.inl ⟨k, hI, hn0, rfl⟩)) | exact GW.ret (Out.of (Res.none rfl) (Hs.refl _) (.inr hS))
  ·have hn1 : nextAt (bs s) k = some (r, n) := nextAt_of (by rw [bs_length]; omega) hg
   refine R.move ⟨Z,Z,Z,Z⟩ Z ?_
   refine R.extract ⟨Z,Z,Z,Z⟩ Z Z ?_
   refine R.extract ⟨Z,Z,Z,Z⟩ Z Z ?_
   refine R.extract ⟨Z,Z,Z,Z⟩ Z Z ?_
   refine R.assign ⟨Z,Z,Z,Z⟩ Z ?_
   refine R.assign ⟨Z,Z,Z,Z⟩ Z ?_
   refine R.assign ⟨Z,Z,Z,Z⟩ Z ?_
   refine GOps.nil ?_
   refine GW.seq ?_
   refine GW.seq ?_
   refine GW.region ?_
   refine R.move ⟨Z,Z,Z,Z⟩ Z ?_
   refine R.neI ⟨Z,Z,Z,Z⟩ Z Z ?_
   refine R.move ⟨Z,Z,Z,Z⟩ Z ?_
   refine R.move ⟨Z,Z,Z,Z⟩ Z ?_
   refine R.move ⟨Z,Z,Z,Z⟩ Z ?_
   refine R.move ⟨Z,Z,Z,Z⟩ Z ?_
   refine R.yield ⟨Z,Z,Z,Z⟩ Z (vs := [_, _]) Z ((hy k r n hI hn1).mono ?_)
   rintro v G2 (⟨rfl, hI2, rfl⟩ | ⟨rfl, hS⟩)
   ·refine R.not ⟨Z,Z,Z,Z⟩ Z ?_
    refine R.pick_f ⟨Z,Z,Z,Z⟩ Z Z ?_
    refine GOps.nil ?_
    refine GW.cond_f Z ?_
    refine GW.skip ?_
    refine GW.region ?_
    refine R.move ⟨Z,Z,Z,Z⟩ Z ?_
    refine R.move ⟨Z,Z,Z,Z⟩ Z ?_
    refine R.add (r := ((k + n : Nat) : Int)) ⟨Z,Z,Z,Z⟩ Z Z (by have := nextAt_facts hn1; rw [bs_length] at this; rw [wrap64_id (by omega) (by omega)]; omega) ?_
    refine R.assign ⟨Z,Z,Z,Z⟩ Z ?_
    refine GOps.nil ?_
    exact ⟨k + n, by have := nextAt_facts hn1; rw [bs_length] at this; omega, ⟨by have := nextAt_facts hn1; rw [bs_length] at this; omega, hI2⟩, rfl, keepG, by first | exact Hs.refl _ | exact Hs.tl _ | exact Hs.tl2 _ _⟩
   ·refine R.not ⟨Z,Z,Z,Z⟩ Z ?_
    refine R.pick_f ⟨Z,Z,Z,Z⟩ Z Z ?_
    refine GOps.nil ?_
    refine GW.cond_t Z ?_
    first | exact GW.ret (Out.of (Res.none rfl) (Hs.refl _) (.inl ⟨k, hI, hn0, rfl⟩)) | exact GW.ret (Out.of (Res.none rfl) (Hs.refl _) (.inr hS))
 ·try simp only [dcQ] at hc1
  refine GW.exit ?_
  refine Out.end_ (Res.none rfl) (Hs.refl _) (.inl ⟨k, hI, nextAt_ge (by omega), rfl⟩)
theorem utf_Runes (w0 : World) (G : Hp) (s : ByteArray) : GC Tryz.prog w0 119 #[.string s] (fun v G' => ∃ b, v = .func (.func 140) #[] #[.pointer (some ⟨b, 0, none⟩)] ∧ (b, .exact (.cells #[.string s] 9 (0, 0))) :: G = G') G := by
 refine GC.body (args := [.string s]) Tryz.func119 rfl (by kernel_rfl) rfl ?_
 refine GW.seq ?_
 refine GW.region ?_
 refine R.box ⟨Z,Z,Z,Z⟩ Z fun b1 => ?_
 refine R.assign ⟨Z,Z,Z,Z⟩ Z ?_
 refine GOps.nil ?_
 refine GW.seq ?_
 refine GW.region ?_
 refine R.makeFunc (vs := []) (us := [_]) ⟨Z,Z,Z,Z⟩ Z Z ?_
 refine R.assign ⟨Z,Z,Z,Z⟩ Z ?_
 refine GOps.nil ?_
 exact GW.ret (Out.of (Res.one rfl rfl) (Hs.refl _) ⟨_, rfl, rfl⟩)
theorem utf_Valid (w0 : World) (G : Hp) (s : ByteArray) (hm : s.size ≤ 9223372036854775807) : GC Tryz.prog w0 118 #[.string s] (fun v G' => v = .bool (validS (bs s)) ∧ G = G') G := by
 refine GC.body (args := [.string s]) Tryz.func118 rfl (by kernel_rfl) rfl ?_
 refine GW.seq ?_
 refine GW.region ?_
 refine R.assign ⟨Z,Z,Z,Z⟩ Z ?_
 refine GOps.nil ?_
 refine GW.seq ?_
 refine GW.region ?_
 refine R.alloc ⟨Z,Z,Z,Z⟩ Tryz.zeroValue3 fun b3 => ?_
 refine R.storeAll (G1 := []) Z Z Z Z Z Tryz.sizeOf3 Z Z Z Z ?_
 refine GOps.nil ?_
 refine GW.seq ?_
 refine GW.seq ?_
 refine GW.region ?_
 refine R.move ⟨Z,Z,Z,Z⟩ Z ?_
 refine R.call ⟨Z,Z,Z,Z⟩ Z (vs := [_]) Z ((utf_Runes _ _ _).mono ?_)
 rintro _ _ ⟨bS, rfl, rfl⟩
 refine GOps.nil ?_
 refine GW.block ?_
 refine GW.rangeFunc Z fun D0 l0 r0 hp0 ha0 hb0 hfr0 => ?_
 refine GC.mono (utf_Runes1 w0 l0 bS s hm (fun k => (l0, lrec r0 .ready none) :: (D0, .exact (.deferred (some []))) :: (bS, .exact (.cells #[.string s] 9 (0, 0))) :: (b3, .exact (.cells #[.int .i64 (k : Int)] 3 (0, 0))) :: G) (Ahead (bs s)) (fun _ => False) (fun k => .own' (by repeat (first | exact List.mem_cons_self | apply List.mem_cons_of_mem)) rfl) (Ahead.zero _) ?_) ?_
 ·intro k r n hI hn
  refine GY.intro hfr0 (by rw [hp0]; rfl) (by rw [hp0]; rfl) ?_
  rw [hp0, ha0, hb0]
  refine GW.seq ?_
  refine GW.region ?_
  refine R.assign ⟨Z,Z,Z,Z⟩ Z ?_
  refine GOps.nil ?_
  refine GW.region ?_
  refine R.assign ⟨Z,Z,Z,Z⟩ Z ?_
  refine GOps.nil ?_
  refine ⟨_, Hs.refl _, ?_⟩
  refine GW.block ?_
  refine GW.region ?_
  refine R.move ⟨Z,Z,Z,Z⟩ Z ?_
  refine R.move ⟨Z,Z,Z,Z⟩ Z ?_
  refine R.call ⟨Z,Z,Z,Z⟩ Z (vs := [_]) Z ((utf_size _ _ _).mono ?_)
  rintro _ _ ⟨rfl, rfl⟩
  refine R.add (r := ((k + n : Nat) : Int)) ⟨Z,Z,Z,Z⟩ Z Z (by have := nextAt_facts hn; rw [bs_length] at this; rw [this.2.2.2.1, wrap64_id (by omega) (by omega)]; omega) ?_
  refine R.storeAll (G1 := [_, _, _]) Z Z Z Z Z Tryz.sizeOf3 Z Z Z Z ?_
  refine GOps.nil ?_
  exact ⟨_, Hs.refl _, .inl ⟨rfl, hI.next hn, rfl⟩⟩
 ·rintro _ _ (⟨k, hI, hn, rfl⟩ | hF)
  ·refine ⟨.ready, none, _, by simp, Hs.refl _, ?_⟩
   show GW _ _ _ _ _ _
   refine GW.seq ?_
   refine GW.region ?_
   refine R.load1 ⟨Z,Z,Z,Z⟩ Z Tryz.underlying3 Z (.own' memG (by rfl)) ?_
   refine R.move ⟨Z,Z,Z,Z⟩ Z ?_
   refine R.lenStr ⟨Z,Z,Z,Z⟩ Z Z Tryz.underlying9 ?_
   refine R.eqI ⟨Z,Z,Z,Z⟩ Z Z ?_
   refine R.assign ⟨Z,Z,Z,Z⟩ Z ?_
   refine GOps.nil ?_
   refine GW.ret (Out.of1 (Res.one Z Z) hsA ⟨?_, Z⟩)
   rw [valid_of hI hn]
  ·exact hF.elim
end Go.Proofs.YtfddkcmooommeaaGreatDoor.Gl
end
section
namespace Go.Proofs.YtfddkcmooommeaaGreatDoor.Gl
open Go.RowKit Go.Shelf
set_option linter.unusedVariables false
set_option linter.unnecessarySimpa false
set_option linter.unusedSimpArgs false
attribute [-simp] List.getD_eq_getElem?_getD
def badSet : ByteArray := ⟨#[60, 62, 34, 123, 125, 124, 94, 96, 92]⟩
def badC (c : Nat) : Bool := decide (c ≤ 32) || [60, 62, 34, 123, 125, 124, 94, 96, 92].contains c
def badR (r : Nat) : Bool := decide (r ≤ 32) || (decide (r < 128) && decide (0 ≤ Lib.indexByte badSet.data.toList (r : Int).toNat.toUInt8))
theorem badR_eq (r : Nat) : badR r = badC r := by
 rcases Nat.lt_or_ge r 128 with h | h
 ·have hh : ∀ r : Fin 128, badR r.val = badC r.val := by decide +kernel
  exact hh ⟨r, h⟩
 ·unfold badR badC
  rw [decide_eq_false (show ¬ r ≤ 32 by omega), decide_eq_false (show ¬ r < 128 by omega)]
  simp
  omega
def iriS (l : List Nat) : Bool := decide (1 ≤ l.length) && (decide (l.length ≤ 1000) && (validS l && allTo (fun i => !badC (l.getD i 0)) l.length))
theorem badC_high {c : Nat} (h : 128 ≤ c) : badC c = false := by
 unfold badC
 simp
 omega
theorem drop_getD (l : List Nat) (k i : Nat) : (l.drop k).getD i 0 = l.getD (k + i) 0 := by simp [List.getD, List.getElem?_drop]
theorem rune_bad {l : List Nat} {k r n : Nat} (hn : nextAt l k = some (r, n)) : (n = 1 ∧ r = l.getD k 0) ∨ (128 ≤ r ∧ ∀ i, i < n → 128 ≤ l.getD (k + i) 0) := by
 have hf := nextAt_facts hn
 unfold nextAt at hn
 rw [if_pos hf.1] at hn
 unfold getS at hn
 simp only at hn
 split at hn
 case isFalse => cases hn
 rename_i hc
 obtain ⟨h1, h2, h3, h4, h5⟩ := hc
 simp only [Option.some.injEq, Prod.mk.injEq] at hn
 obtain ⟨rfl, rfl⟩ := hn
 rcases Nat.eq_zero_or_pos (hdM ((l.drop k).getD 0 0)).toNat with h0 | h0
 ·left
  rw [h0]
  refine ⟨rfl, ?_⟩
  rw [drop_getD] at *
  simp only [accR, Nat.add_zero] at *
  unfold hdM hdR at *
  (repeat' split at h0) <;> (repeat' split) <;> simp_all
 ·right
  refine ⟨?_, fun i hi => ?_⟩
  ·unfold sizeR at h5
   (repeat' split at h5) <;> omega
  ·cases i with
   | zero =>
    rw [Nat.add_zero]
    rw [drop_getD] at *
    simp only [Nat.add_zero] at *
    unfold hdM at h0
    rcases Nat.lt_or_ge (l.getD k 0) 128 with hh | hh
    ·rw [if_pos hh] at h0; simp at h0
    ·exact hh
   | succ i =>
    have h6 : ∀ m, allTo (fun i => isCont ((l.drop k).getD (i + 1) 0)) m = true → i < m → isCont ((l.drop k).getD (i + 1) 0) = true := by
     intro m hm hi
     unfold allTo at hm
     exact (List.all_eq_true.1 hm) i (List.mem_range.2 hi)
    have h7 := h6 _ h3 (by omega)
    rw [drop_getD] at h7
    simp [isCont] at h7
    omega
theorem allTo_more {f : Nat → Bool} {k : Nat} (h : allTo f k = true) : ∀ n, (∀ i, i < n → f (k + i) = true) → allTo f (k + n) = true
 | 0, _ => h
 | n + 1, hi => by
  have := allTo_more h n (fun i h => hi i (by omega))
  exact allTo_succ this (hi n (by omega))
theorem good_next {l : List Nat} {k r n : Nat} (h : allTo (fun i => !badC (l.getD i 0)) k = true) (hn : nextAt l k = some (r, n)) (hb : badR r = false) : allTo (fun i => !badC (l.getD i 0)) (k + n) = true := by
 rw [badR_eq] at hb
 refine allTo_more h n fun i hi => ?_
 rcases rune_bad hn with ⟨rfl, rfl⟩ | ⟨h1, h2⟩
 ·have : i = 0 := by omega
  subst this
  simp only [Nat.add_zero, hb]; rfl
 ·simp only [badC_high (h2 i hi)]; rfl
theorem bad_iri {l : List Nat} {k r n : Nat} (hn : nextAt l k = some (r, n)) (hb : badR r = true) : iriS l = false := by
 rw [badR_eq] at hb
 have hf := nextAt_facts hn
 unfold iriS
 rcases rune_bad hn with ⟨rfl, rfl⟩ | ⟨h1, h2⟩
 ·rw [allTo_false (f := fun i => !badC (l.getD i 0)) (i := k) hf.1 (by simp only [hb]; rfl)]
  simp
 ·rw [badC_high h1] at hb; cases hb
theorem iri_no1 {s : ByteArray} (h : s.size < 1 ∨ 1000 < s.size) : iriS (bs s) = false := by
 unfold iriS
 rw [bs_length]
 rcases h with h | h
 ·rw [decide_eq_false (show ¬ 1 ≤ s.size by omega)]; rfl
 ·rw [decide_eq_false (show ¬ s.size ≤ 1000 by omega)]; simp
theorem iri_no2 {s : ByteArray} (h : validS (bs s) = false) : iriS (bs s) = false := by unfold iriS; rw [h]; simp
theorem iri_no3 {s : ByteArray} {i : Nat} (hi : i < s.size) (h : badC ((bs s).getD i 0) = true) : iriS (bs s) = false := by
 unfold iriS
 rw [allTo_false (f := fun i => !badC ((bs s).getD i 0)) (i := i) (by rw [bs_length]; exact hi) (by simp only [h]; rfl)]
 simp
theorem iri_yes {s : ByteArray} (h1 : 1 ≤ s.size) (h2 : s.size ≤ 1000) (h3 : validS (bs s) = true) (h4 : allTo (fun i => !badC ((bs s).getD i 0)) s.size = true) : iriS (bs s) = true := by
 unfold iriS
 rw [h3, bs_length, h4]
 simp [h1, h2]
theorem stop_valid {s : ByteArray} {k : Nat} (h : Ahead (bs s) k) (hn : nextAt (bs s) k = none) (hv : validS (bs s) = true) : k = s.size := by
 rw [valid_of h hn] at hv
 simp at hv
 omega
theorem lite_IndexByte (w0 : World) (G : Hp) (s : ByteArray) (c : Int) : GC Tryz.prog w0 142 #[.string s, .int .u8 c] (fun v G' => v = .int .i64 (Lib.indexByte s.data.toList c.toNat.toUInt8) ∧ G = G') G := by
 refine GC.body (args := [.string s, .int .u8 c]) Tryz.func142 rfl (by kernel_rfl) rfl ?_
 refine GW.seq ?_
 refine GW.region ?_
 refine R.assign ⟨Z,Z,Z,Z⟩ Z ?_
 refine GOps.nil ?_
 refine GW.seq ?_
 refine GW.region ?_
 refine R.move ⟨Z,Z,Z,Z⟩ Z ?_
 refine R.move ⟨Z,Z,Z,Z⟩ Z ?_
 refine R.ext ⟨Z,Z,Z,Z⟩ Tryz.func153 (by kernel_rfl) Z (by kernel_rfl) (e := Extern.BytealgIndexByte.indexByte) (by kernel_rfl) (vs := [_, _]) Z (fun w => Lib.run_indexByteString _ _ w) ?_
 refine R.assign ⟨Z,Z,Z,Z⟩ Z ?_
 refine GOps.nil ?_
 refine GW.ret (Out.of (Res.one Z Z) hsA ⟨?_, Z⟩)
 rfl
theorem str_IndexByte (w0 : World) (G : Hp) (s : ByteArray) (c : Int) : GC Tryz.prog w0 120 #[.string s, .int .u8 c] (fun v G' => v = .int .i64 (Lib.indexByte s.data.toList c.toNat.toUInt8) ∧ G = G') G := by
 refine GC.body (args := [.string s, .int .u8 c]) Tryz.func120 rfl (by kernel_rfl) rfl ?_
 refine GW.seq ?_
 refine GW.region ?_
 refine R.assign ⟨Z,Z,Z,Z⟩ Z ?_
 refine GOps.nil ?_
 refine GW.seq ?_
 refine GW.region ?_
 refine R.move ⟨Z,Z,Z,Z⟩ Z ?_
 refine R.move ⟨Z,Z,Z,Z⟩ Z ?_
 refine R.call ⟨Z,Z,Z,Z⟩ Z (vs := [_, _]) Z ((lite_IndexByte _ _ _ _).mono ?_)
 rintro _ _ ⟨rfl, rfl⟩
 refine R.assign ⟨Z,Z,Z,Z⟩ Z ?_
 refine GOps.nil ?_
 refine GW.ret (Out.of (Res.one Z Z) hsA ⟨?_, Z⟩)
 rfl
theorem term_iri (w0 : World) (G : Hp) (s : ByteArray) (hm : s.size ≤ 9223372036854775807) : GC Tryz.prog w0 98 #[.string s] (fun v G' => v = .bool (iriS (bs s)) ∧ G = G') G := by
 refine GC.body (args := [.string s]) Tryz.func98 rfl (by kernel_rfl) rfl ?_
 refine GW.seq ?_
 refine GW.region ?_
 refine R.alloc ⟨Z,Z,Z,Z⟩ Tryz.zeroValue4 fun b2 => ?_
 refine GOps.nil ?_
 refine GW.seq ?_
 refine GW.seq ?_
 refine GW.region ?_
 refine R.move ⟨Z,Z,Z,Z⟩ Z ?_
 refine R.lenStr ⟨Z,Z,Z,Z⟩ Z Z Tryz.underlying9 ?_
 refine R.lss ⟨Z,Z,Z,Z⟩ Z Z ?_
 refine R.move ⟨Z,Z,Z,Z⟩ Z ?_
 refine GOps.caseB 8 Z (fun hg1 => ?_) (fun hg1 => ?_)
 ·try simp only [dcQ] at hg1
  refine GOps.skip Z Z Z ?_
  refine GOps.skip Z Z Z ?_
  refine GOps.skip Z Z Z ?_
  refine R.pick_t ⟨Z,Z,Z,Z⟩ Z Z ?_
  refine R.move ⟨Z,Z,Z,Z⟩ Z ?_
  refine GOps.skip Z Z Z ?_
  refine GOps.skip Z Z Z ?_
  refine GOps.skip Z Z Z ?_
  refine R.pick_t ⟨Z,Z,Z,Z⟩ Z Z ?_
  refine GOps.nil ?_
  refine GW.cond_t Z ?_
  refine GW.seq ?_
  refine GW.region ?_
  refine R.storeAll (G1 := []) Z Z Z Z Z Tryz.sizeOf4 Z Z Z Z ?_
  refine GOps.nil ?_
  refine GW.ret (Out.of (resCell Z Z Tryz.underlying4 Z (.own' memG Z)) hsA ⟨?_, Z⟩)
  refine vb ?_; symm; first | exact iri_no1 (by omega) | exact iri_no2 (by assumption) | exact hbad | exact iri_yes (by omega) (by omega) (by assumption) (by rw [← stop_valid hI.1 hn (by assumption)]; exact hI.2)
 ·try simp only [dcQ] at hg1
  refine R.move ⟨Z,Z,Z,Z⟩ Z ?_
  refine R.lenStr ⟨Z,Z,Z,Z⟩ Z Z Tryz.underlying9 ?_
  refine R.gtr ⟨Z,Z,Z,Z⟩ Z Z ?_
  refine R.pick_f ⟨Z,Z,Z,Z⟩ Z Z ?_
  refine R.move ⟨Z,Z,Z,Z⟩ Z ?_
  refine GOps.caseB 13 Z (fun hg2 => ?_) (fun hg2 => ?_)
  ·try simp only [dcQ] at hg2
   refine GOps.skip Z Z Z ?_
   refine GOps.skip Z Z Z ?_
   refine GOps.skip Z Z Z ?_
   refine R.pick_t ⟨Z,Z,Z,Z⟩ Z Z ?_
   refine GOps.nil ?_
   refine GW.cond_t Z ?_
   refine GW.seq ?_
   refine GW.region ?_
   refine R.storeAll (G1 := []) Z Z Z Z Z Tryz.sizeOf4 Z Z Z Z ?_
   refine GOps.nil ?_
   refine GW.ret (Out.of (resCell Z Z Tryz.underlying4 Z (.own' memG Z)) hsA ⟨?_, Z⟩)
   refine vb ?_; symm; first | exact iri_no1 (by omega) | exact iri_no2 (by assumption) | exact hbad | exact iri_yes (by omega) (by omega) (by assumption) (by rw [← stop_valid hI.1 hn (by assumption)]; exact hI.2)
  ·try simp only [dcQ] at hg2
   refine R.move ⟨Z,Z,Z,Z⟩ Z ?_
   refine R.call ⟨Z,Z,Z,Z⟩ Z (vs := [_]) Z ((utf_Valid _ _ _ (by assumption)).mono ?_)
   rintro _ _ ⟨rfl, rfl⟩
   refine R.not ⟨Z,Z,Z,Z⟩ Z ?_
   refine R.pick_f ⟨Z,Z,Z,Z⟩ Z Z ?_
   refine GOps.nil ?_
   refine GW.ite Z (fun hc3 => ?_) (fun hc3 => ?_)
   ·try simp only [dcQ] at hc3
    refine GW.seq ?_
    refine GW.region ?_
    refine R.storeAll (G1 := []) Z Z Z Z Z Tryz.sizeOf4 Z Z Z Z ?_
    refine GOps.nil ?_
    refine GW.ret (Out.of (resCell Z Z Tryz.underlying4 Z (.own' memG Z)) hsA ⟨?_, Z⟩)
    refine vb ?_; symm; first | exact iri_no1 (by omega) | exact iri_no2 (by assumption) | exact hbad | exact iri_yes (by omega) (by omega) (by assumption) (by rw [← stop_valid hI.1 hn (by assumption)]; exact hI.2)
   ·try simp only [dcQ] at hc3
    refine GW.skip ?_
    refine GW.seq ?_
    refine GW.seq ?_
    refine GW.region ?_
    refine R.move ⟨Z,Z,Z,Z⟩ Z ?_
    refine R.call ⟨Z,Z,Z,Z⟩ Z (vs := [_]) Z ((utf_Runes _ _ _).mono ?_)
    rintro _ _ ⟨bS, rfl, rfl⟩
    refine GOps.nil ?_
    refine GW.block ?_
    refine GW.rangeFunc Z fun D0 l0 r0 hp0 ha0 hb0 hfr0 => ?_
    refine GC.mono (utf_Runes1 w0 l0 bS s hm (fun k => (l0, lrec r0 .ready none) :: (D0, .exact (.deferred (some []))) :: (bS, .exact (.cells #[.string s] 9 (0, 0))) :: (b2, .exact (.cells #[.bool false] 4 (0, 0))) :: G) (fun k => Ahead (bs s) k ∧ allTo (fun i => !badC ((bs s).getD i 0)) k = true) (fun G' => G' = (l0, lrec r0 .done (some .ret)) :: (D0, .exact (.deferred (some []))) :: (bS, .exact (.cells #[.string s] 9 (0, 0))) :: (b2, .exact (.cells #[.bool false] 4 (0, 0))) :: G ∧ iriS (bs s) = false) (fun k => .own' (by repeat (first | exact List.mem_cons_self | apply List.mem_cons_of_mem)) rfl) ⟨Ahead.zero _, rfl⟩ ?_) ?_
    ·intro k r n hI hn
     refine GY.intro hfr0 (by rw [hp0]; rfl) (by rw [hp0]; rfl) ?_
     rw [hp0, ha0, hb0]
     refine GW.region ?_
     refine R.assign ⟨Z,Z,Z,Z⟩ Z ?_
     refine GOps.nil ?_
     refine ⟨_, Hs.refl _, ?_⟩
     refine GW.block ?_
     refine GW.cutS 33 (badR r) [(2, .pointer (some ⟨b2, 0, none⟩))] ?_ ?_
     ·refine R.move ⟨Z,Z,Z,Z⟩ Z ?_
      refine R.leq ⟨Z,Z,Z,Z⟩ Z Z ?_
      refine R.move ⟨Z,Z,Z,Z⟩ Z ?_
      refine GOps.caseB 24 Z (fun hg4 => ?_) (fun hg4 => ?_)
      ·try simp only [dcQ] at hg4
       refine GOps.skip Z Z Z ?_
       refine GOps.skip Z Z Z ?_
       refine GOps.skip Z Z Z ?_
       refine GOps.skip Z Z Z ?_
       refine GOps.skip Z Z Z ?_
       refine GOps.skip Z Z Z ?_
       refine GOps.skip Z Z Z ?_
       refine GOps.skip Z Z Z ?_
       refine R.pick_t ⟨Z,Z,Z,Z⟩ Z Z ?_
       refine GOps.nil ?_
       exact ⟨rfl, rfl, keepG, by first | exact Hs.refl _ | exact Hs.tl _, vbs (by unfold badR; first | (rw [decide_eq_true (show r ≤ 32 by omega)]; rfl) | (rw [decide_eq_false (show ¬ r ≤ 32 by omega), decide_eq_true (show r < 128 by omega)]; rfl) | (rw [decide_eq_false (show ¬ r ≤ 32 by omega), decide_eq_false (show ¬ r < 128 by omega)]; rfl))⟩
      ·try simp only [dcQ] at hg4
       refine R.move ⟨Z,Z,Z,Z⟩ Z ?_
       refine R.lss ⟨Z,Z,Z,Z⟩ Z Z ?_
       refine R.move ⟨Z,Z,Z,Z⟩ Z ?_
       refine GOps.caseB 27 Z (fun hg5 => ?_) (fun hg5 => ?_)
       ·try simp only [dcQ] at hg5
        refine R.move ⟨Z,Z,Z,Z⟩ Z ?_
        refine R.conv (r := ((r : Nat) : Int)) ⟨Z,Z,Z,Z⟩ Z Tryz.underlying3 Tryz.underlying5 (u8w _ (by omega)) ?_
        refine R.call ⟨Z,Z,Z,Z⟩ Z (vs := [_, _]) Z ((str_IndexByte _ _ _ _).mono ?_)
        rintro _ _ ⟨rfl, rfl⟩
        refine R.geq ⟨Z,Z,Z,Z⟩ Z Z ?_
        refine R.pick_t ⟨Z,Z,Z,Z⟩ Z Z ?_
        refine R.pick_f ⟨Z,Z,Z,Z⟩ Z Z ?_
        refine GOps.nil ?_
        exact ⟨rfl, rfl, keepG, by first | exact Hs.refl _ | exact Hs.tl _, vbs (by unfold badR; first | (rw [decide_eq_true (show r ≤ 32 by omega)]; rfl) | (rw [decide_eq_false (show ¬ r ≤ 32 by omega), decide_eq_true (show r < 128 by omega)]; rfl) | (rw [decide_eq_false (show ¬ r ≤ 32 by omega), decide_eq_false (show ¬ r < 128 by omega)]; rfl))⟩
       ·try simp only [dcQ] at hg5
        refine GOps.skip Z Z Z ?_
        refine GOps.skip Z Z Z ?_
        refine GOps.skip Z Z Z ?_
        refine GOps.skip Z Z Z ?_
        refine R.pick_f ⟨Z,Z,Z,Z⟩ Z Z ?_
        refine R.pick_f ⟨Z,Z,Z,Z⟩ Z Z ?_
        refine GOps.nil ?_
        exact ⟨rfl, rfl, keepG, by first | exact Hs.refl _ | exact Hs.tl _, vbs (by unfold badR; first | (rw [decide_eq_true (show r ≤ 32 by omega)]; rfl) | (rw [decide_eq_false (show ¬ r ≤ 32 by omega), decide_eq_true (show r < 128 by omega)]; rfl) | (rw [decide_eq_false (show ¬ r ≤ 32 by omega), decide_eq_false (show ¬ r < 128 by omega)]; rfl))⟩
     ·refine GW.ite Z (fun hc6 => ?_) (fun hc6 => ?_)
      ·try simp only [dcQ] at hc6
       refine GW.seq ?_
       refine GW.region ?_
       refine R.storeAll (G1 := [_, _, _]) Z Z Z Z Z Tryz.sizeOf4 Z Z Z Z ?_
       refine GOps.nil ?_
       refine GW.ret ?_
       exact ⟨_, Hs.refl _, .inr ⟨rfl, rfl, bad_iri hn (by assumption)⟩⟩
      ·try simp only [dcQ] at hc6
       refine GW.skip ?_
       exact ⟨_, Hs.refl _, .inl ⟨rfl, ⟨hI.1.next hn, good_next hI.2 hn (by assumption)⟩, rfl⟩⟩
    ·rintro _ _ (⟨k, hI, hn, rfl⟩ | ⟨rfl, hbad⟩)
     ·refine ⟨.ready, none, _, by simp, Hs.refl _, ?_⟩
      show GW _ _ _ _ _ _
      refine GW.seq ?_
      refine GW.region ?_
      refine R.storeAll (G1 := [_, _]) Z Z Z Z Z Tryz.sizeOf4 Z Z Z Z ?_
      refine GOps.nil ?_
      refine GW.ret (Out.of1 (resCell Z Z Tryz.underlying4 Z (.own' memG Z)) hsA ⟨?_, Z⟩)
      refine vb ?_; symm; first | exact iri_no1 (by omega) | exact iri_no2 (by assumption) | exact hbad | exact iri_yes (by omega) (by omega) (by assumption) (by rw [← stop_valid hI.1 hn (by assumption)]; exact hI.2)
     ·refine ⟨.done, some .ret, _, by simp, Hs.refl _, ?_⟩
      show GW _ .ret _ _ _ _
      refine GW.ret (Out.of1 (resCell Z Z Tryz.underlying4 Z (.own' memG Z)) hsA ⟨?_, Z⟩)
      refine vb ?_; symm; first | exact iri_no1 (by omega) | exact iri_no2 (by assumption) | exact hbad | exact iri_yes (by omega) (by omega) (by assumption) (by rw [← stop_valid hI.1 hn (by assumption)]; exact hI.2)
theorem term_value (w0 : World) (G : Hp) (s : ByteArray) (hm : s.size ≤ 9223372036854775807) : GC Tryz.prog w0 102 #[.string s] (fun v G' => v = .bool (decide (s.size ≤ 4000) && validS (bs s)) ∧ G = G') G := by
 refine GC.body (args := [.string s]) Tryz.func102 rfl (by kernel_rfl) rfl ?_
 refine GW.seq ?_
 refine GW.region ?_
 refine R.assign ⟨Z,Z,Z,Z⟩ Z ?_
 refine GOps.nil ?_
 refine GW.seq ?_
 refine GW.region ?_
 refine R.move ⟨Z,Z,Z,Z⟩ Z ?_
 refine R.lenStr ⟨Z,Z,Z,Z⟩ Z Z Tryz.underlying9 ?_
 refine R.leq ⟨Z,Z,Z,Z⟩ Z Z ?_
 refine R.move ⟨Z,Z,Z,Z⟩ Z ?_
 refine GOps.caseB 6 Z (fun hg1 => ?_) (fun hg1 => ?_)
 ·try simp only [dcQ] at hg1
  refine R.move ⟨Z,Z,Z,Z⟩ Z ?_
  refine R.call ⟨Z,Z,Z,Z⟩ Z (vs := [_]) Z ((utf_Valid _ _ _ (by assumption)).mono ?_)
  rintro _ _ ⟨rfl, rfl⟩
  refine R.pick_t ⟨Z,Z,Z,Z⟩ Z Z ?_
  refine R.assign ⟨Z,Z,Z,Z⟩ Z ?_
  refine GOps.nil ?_
  refine GW.ret (Out.of (Res.one Z Z) hsA ⟨?_, Z⟩)
  refine vb ?_; first | (rw [decide_eq_true (show s.size ≤ 4000 by omega)]; rfl) | (rw [decide_eq_false (show ¬ s.size ≤ 4000 by omega)]; rfl)
 ·try simp only [dcQ] at hg1
  refine GOps.skip Z Z Z ?_
  refine GOps.skip Z Z Z ?_
  refine R.pick_f ⟨Z,Z,Z,Z⟩ Z Z ?_
  refine R.assign ⟨Z,Z,Z,Z⟩ Z ?_
  refine GOps.nil ?_
  refine GW.ret (Out.of (Res.one Z Z) hsA ⟨?_, Z⟩)
  refine vb ?_; first | (rw [decide_eq_true (show s.size ≤ 4000 by omega)]; rfl) | (rw [decide_eq_false (show ¬ s.size ≤ 4000 by omega)]; rfl)
end Go.Proofs.YtfddkcmooommeaaGreatDoor.Gl
end
section
namespace Go.Proofs.YtfddkcmooommeaaGreatDoor.Gl
open Go.RowKit Go.Shelf
set_option linter.unusedVariables false
set_option linter.unnecessarySimpa false
set_option linter.unusedSimpArgs false
attribute [-simp] List.getD_eq_getElem?_getD
theorem getS_take4 (l : List Nat) : getS (l.take 4) = getS l := by
 have h3 := hdM_le (l.getD 0 0)
 have e : ∀ i, i < 4 → (l.take 4).getD i 0 = l.getD i 0 := fun i hi => by simp [List.getD, List.getElem?_take_of_lt hi]
 have e0 := e 0 (by omega)
 have ea : ∀ (r m : Nat), m ≤ 3 → accR (l.take 4) r m = accR l r m := by
  intro r m
  induction m with
  | zero => intro _; rfl
  | succ m ih =>
   intro hm
   simp only [accR]
   rw [ih (by omega), e (m + 1) (by omega)]
 have ec : ∀ m, m ≤ 3 → allTo (fun i => isCont ((l.take 4).getD (i + 1) 0)) m = allTo (fun i => isCont (l.getD (i + 1) 0)) m := by
  intro m hm
  unfold allTo
  rw [Bool.eq_iff_iff, List.all_eq_true, List.all_eq_true]
  constructor
  ·intro h x hx
   have := h x hx
   rw [List.mem_range] at hx
   rwa [e (x + 1) (by omega)] at this
  ·intro h x hx
   have := h x hx
   rw [List.mem_range] at hx
   rwa [e (x + 1) (by omega)]
 have hm3 : (hdM (l.getD 0 0)).toNat ≤ 3 := by omega
 unfold getS
 simp only [e0, ea _ _ hm3, ec _ hm3, List.length_take]
 by_cases hh : 0 ≤ hdM (l.getD 0 0) ∧ (hdM (l.getD 0 0)).toNat < l.length ∧ allTo (fun i => isCont (l.getD (i + 1) 0)) (hdM (l.getD 0 0)).toNat = true ∧ mayR (accR l (hdR (l.getD 0 0)) (hdM (l.getD 0 0)).toNat) = true ∧ sizeR (accR l (hdR (l.getD 0 0)) (hdM (l.getD 0 0)).toNat) = (hdM (l.getD 0 0)).toNat + 1
 ·rw [if_pos hh, if_pos ⟨hh.1, by omega, hh.2.2⟩]
 ·rw [if_neg hh, if_neg fun h' => hh ⟨h'.1, by omega, h'.2.2⟩]
theorem nextAt_of4 {s : ByteArray} {k : Nat} {x : Option (Nat × Nat)} (h : k < (bs s).length) (hg : getS (bs (s.extract (k : Int).toNat (min (s.size : Int) ((k + 4 : Nat) : Int)).toNat)) = x) : nextAt (bs s) k = x := by
 have e : getS (bs (s.extract (k : Int).toNat (min (s.size : Int) ((k + 4 : Nat) : Int)).toNat)) = getS ((bs s).drop k) := by
  rw [bs_extract, ← getS_take4 ((bs s).drop k)]
  rw [bs_length] at h
  congr 1
  rcases Nat.lt_or_ge (s.size - k) 4 with h4 | h4
  ·rw [List.take_of_length_le (by rw [List.length_drop, bs_length]; omega), List.take_of_length_le (by rw [List.length_drop, bs_length]; omega)]
   rfl
  ·congr 1
   omega
 unfold nextAt
 rw [if_pos h, ← e, hg]
theorem ref_Runes (w0 : World) (G : Hp) (s : ByteArray) (hm : s.size ≤ 1000000) : GC Tryz.prog w0 91 #[.string s] (fun v G' => ∃ k vl H, Ahead (bs s) k ∧ nextAt (bs s) k = none ∧ v = .tuple #[vl, .int .i64 (k : Int)] ∧ H ++ G = G') G := by
 refine GC.body (args := [.string s]) Tryz.func91 rfl (by kernel_rfl) rfl ?_
 refine GW.seq ?_
 refine GW.region ?_
 refine R.assign ⟨Z,Z,Z,Z⟩ Z ?_
 refine R.assign ⟨Z,Z,Z,Z⟩ Z ?_
 refine GOps.nil ?_
 refine GW.seq ?_
 refine GW.region ?_
 refine R.assign ⟨Z,Z,Z,Z⟩ Z ?_
 refine GOps.nil ?_
 refine GW.seq ?_
 refine GW.region ?_
 refine R.assign ⟨Z,Z,Z,Z⟩ Z ?_
 refine GOps.nil ?_
 refine GW.seq ?_
 refine GW.block ?_
 refine GW.loop4 (fun (k : Nat) (vl : Value) (H : Hp) (q : List Value × Nat) => [(0, .string s), (4, vl), (5, .int .i64 k)]) (fun (k : Nat) (vl : Value) (H : Hp) (q : List Value × Nat) => H ++ G) (fun k : Nat => s.size - k) (fun (k : Nat) (vl : Value) (H : Hp) (q : List Value × Nat) => k ≤ s.size ∧ Ahead (bs s) k ∧ SlAt 2 171 q.1 q.2 vl H ∧ q.2 ≤ k) 0 (.slice none 0 0) ([]) (([], 0))
  (keepG) (Hs.refl _) (⟨by omega, Ahead.zero _, .nil rfl rfl, by simp⟩) ?_
 rintro k vl H q ⟨hk, hI, hS, hq⟩
 refine GW.seq ?_
 refine GW.seq ?_
 refine GW.region ?_
 refine R.move ⟨Z,Z,Z,Z⟩ Z ?_
 refine R.move ⟨Z,Z,Z,Z⟩ Z ?_
 refine R.lenStr ⟨Z,Z,Z,Z⟩ Z Z Tryz.underlying9 ?_
 refine R.lss ⟨Z,Z,Z,Z⟩ Z Z ?_
 refine GOps.nil ?_
 refine GW.ite Z (fun hc1 => ?_) (fun hc1 => ?_)
 ·try simp only [dcQ] at hc1
  refine GW.skip ?_
  refine GW.block ?_
  refine GW.seq ?_
  refine GW.region ?_
  refine R.move ⟨Z,Z,Z,Z⟩ Z ?_
  refine R.move ⟨Z,Z,Z,Z⟩ Z ?_
  refine R.move ⟨Z,Z,Z,Z⟩ Z ?_
  refine R.lenStr ⟨Z,Z,Z,Z⟩ Z Z Tryz.underlying9 ?_
  refine R.move ⟨Z,Z,Z,Z⟩ Z ?_
  refine R.add (r := (((k + 4) : Nat) : Int)) ⟨Z,Z,Z,Z⟩ Z Z (by rw [wrap64_id (by omega) (by omega)]; omega) ?_
  refine R.minI (r := _) ⟨Z,Z,Z,Z⟩ Z Z (Z) ?_
  refine R.sliceStrLH ⟨Z,Z,Z,Z⟩ Z Z Z Tryz.underlying9 (by omega) (by omega) (by omega) ?_
  refine R.call ⟨Z,Z,Z,Z⟩ Z (vs := [_]) Z ((ref_Get _ _ _ (by simp; omega)).mono ?_)
  rintro _ _ ⟨rfl, rfl⟩
  rcases hg : getS (bs (s.extract (k : Int).toNat (min (s.size : Int) ((k + 4 : Nat) : Int)).toNat)) with _ | ⟨r, n⟩
  ·have hn0 : nextAt (bs s) k = none := nextAt_of4 (by rw [bs_length]; omega) hg
   refine R.move ⟨Z,Z,Z,Z⟩ Z ?_
   refine R.extract ⟨Z,Z,Z,Z⟩ Z Z ?_
   refine R.extract ⟨Z,Z,Z,Z⟩ Z Z ?_
   refine R.assign ⟨Z,Z,Z,Z⟩ Z ?_
   refine R.assign ⟨Z,Z,Z,Z⟩ Z ?_
   refine GOps.nil ?_
   refine GW.seq ?_
   refine GW.seq ?_
   refine GW.region ?_
   refine R.move ⟨Z,Z,Z,Z⟩ Z ?_
   refine R.eqI ⟨Z,Z,Z,Z⟩ Z Z ?_
   refine GOps.nil ?_
   refine GW.cond_t Z ?_
   refine GW.exit ?_
   refine GW.seq ?_
   refine GW.region ?_
   refine R.move ⟨Z,Z,Z,Z⟩ Z ?_
   refine R.move ⟨Z,Z,Z,Z⟩ Z ?_
   refine R.assign ⟨Z,Z,Z,Z⟩ Z ?_
   refine R.assign ⟨Z,Z,Z,Z⟩ Z ?_
   refine GOps.nil ?_
   exact GW.ret (Out.of (Res.two rfl rfl rfl) (Hs.refl _) ⟨_, _, _, hI, by first | exact hn0 | exact nextAt_ge (by omega), rfl, rfl⟩)
  ·have hn1 : nextAt (bs s) k = some (r, n) := nextAt_of4 (by rw [bs_length]; omega) hg
   have hf := nextAt_facts hn1
   rw [bs_length] at hf
   refine R.move ⟨Z,Z,Z,Z⟩ Z ?_
   refine R.extract ⟨Z,Z,Z,Z⟩ Z Z ?_
   refine R.extract ⟨Z,Z,Z,Z⟩ Z Z ?_
   refine R.assign ⟨Z,Z,Z,Z⟩ Z ?_
   refine R.assign ⟨Z,Z,Z,Z⟩ Z ?_
   refine GOps.nil ?_
   refine GW.seq ?_
   refine GW.seq ?_
   refine GW.region ?_
   refine R.move ⟨Z,Z,Z,Z⟩ Z ?_
   refine R.eqI ⟨Z,Z,Z,Z⟩ Z Z ?_
   refine GOps.nil ?_
   refine GW.ite Z (fun hc2 => ?_) (fun hc2 => ?_)
   ·try simp only [dcQ] at hc2
    refine GW.exit ?_
    refine GW.seq ?_
    refine GW.region ?_
    refine R.move ⟨Z,Z,Z,Z⟩ Z ?_
    refine R.move ⟨Z,Z,Z,Z⟩ Z ?_
    refine R.assign ⟨Z,Z,Z,Z⟩ Z ?_
    refine R.assign ⟨Z,Z,Z,Z⟩ Z ?_
    refine GOps.nil ?_
    exact GW.ret (Out.of (Res.two rfl rfl rfl) (Hs.refl _) ⟨_, _, _, hI, by first | exact hn0 | exact nextAt_ge (by omega), rfl, rfl⟩)
   ·try simp only [dcQ] at hc2
    refine GW.skip ?_
    refine GW.seq ?_
    refine GW.region ?_
    refine R.move ⟨Z,Z,Z,Z⟩ Z ?_
    refine R.move ⟨Z,Z,Z,Z⟩ Z ?_
    refine R.move ⟨Z,Z,Z,Z⟩ Z ?_
    refine R.build (vs := [(0, _), (1, _)]) (cells := #[.int .i64 (k : Int), .int .i64 (r : Int)]) ⟨Z,Z,Z,Z⟩ Z (fun w => run_build w 171 _ _ (by kernel_rfl)) ?_
    refine R.buildSliceF (sz := 2) (bytes := 16) (vs := [_]) (cs := [_, _]) ⟨Z,Z,Z,Z⟩ Z Tryz.underlying157 (InfoE.mk (by kernel_rfl)) Z Z Z Z Z fun b30 => ?_
    refine R.append (sz := 2) (bytes := 16) (G1 := [_]) (H := H) (news := [.int .i64 (k : Int), .int .i64 (r : Int)]) ⟨Z,Z,Z,Z⟩ Z Z Z Tryz.underlying157 (InfoE.mk (by kernel_rfl)) (hS) (Z) (Z) (.own memG 0 _ (fun j v hv => by simpa using hv)) (by omega) (by rfl) (by omega) (by omega) fun v31 H31 hv31 => ?_
    refine R.assign ⟨Z,Z,Z,Z⟩ Z ?_
    refine GOps.nil ?_
    refine GW.region ?_
    refine R.move ⟨Z,Z,Z,Z⟩ Z ?_
    refine R.move ⟨Z,Z,Z,Z⟩ Z ?_
    refine R.add (r := (((k + n) : Nat) : Int)) ⟨Z,Z,Z,Z⟩ Z Z (by rw [wrap64_id (by omega) (by omega)]; omega) ?_
    refine R.assign ⟨Z,Z,Z,Z⟩ Z ?_
    refine GOps.nil ?_
    exact ⟨k + n, v31, H31, (_, _), by omega, ⟨by omega, hI.next hn1, hv31, by simp only; omega⟩, rfl, keepG, by first | exact Hs.refl _ | exact Hs.tl _ | exact Hs.tl2 _ _⟩
 ·try simp only [dcQ] at hc1
  refine GW.exit ?_
  refine GW.seq ?_
  refine GW.region ?_
  refine R.move ⟨Z,Z,Z,Z⟩ Z ?_
  refine R.move ⟨Z,Z,Z,Z⟩ Z ?_
  refine R.assign ⟨Z,Z,Z,Z⟩ Z ?_
  refine R.assign ⟨Z,Z,Z,Z⟩ Z ?_
  refine GOps.nil ?_
  exact GW.ret (Out.of (Res.two rfl rfl rfl) (Hs.refl _) ⟨_, _, _, hI, by first | exact hn0 | exact nextAt_ge (by omega), rfl, rfl⟩)
theorem ref_Valid (w0 : World) (G : Hp) (s : ByteArray) (hm : s.size ≤ 1000000) : GC Tryz.prog w0 65 #[.string s] (fun v G' => v = .bool (validS (bs s)) ∧ G = G') G := by
 refine GC.body (args := [.string s]) Tryz.func65 rfl (by kernel_rfl) rfl ?_
 refine GW.seq ?_
 refine GW.region ?_
 refine R.assign ⟨Z,Z,Z,Z⟩ Z ?_
 refine GOps.nil ?_
 refine GW.seq ?_
 refine GW.region ?_
 refine R.move ⟨Z,Z,Z,Z⟩ Z ?_
 refine R.call ⟨Z,Z,Z,Z⟩ Z (vs := [_]) Z ((ref_Runes _ _ _ (by omega)).mono ?_)
 rintro _ _ ⟨k, vl, H, hI, hn, rfl, rfl⟩
 refine R.move ⟨Z,Z,Z,Z⟩ Z ?_
 refine R.extract ⟨Z,Z,Z,Z⟩ Z Z ?_
 refine R.extract ⟨Z,Z,Z,Z⟩ Z Z ?_
 refine R.assign ⟨Z,Z,Z,Z⟩ Z ?_
 refine R.assign ⟨Z,Z,Z,Z⟩ Z ?_
 refine GOps.nil ?_
 refine GW.seq ?_
 refine GW.region ?_
 refine R.move ⟨Z,Z,Z,Z⟩ Z ?_
 refine R.move ⟨Z,Z,Z,Z⟩ Z ?_
 refine R.lenStr ⟨Z,Z,Z,Z⟩ Z Z Tryz.underlying9 ?_
 refine R.eqI ⟨Z,Z,Z,Z⟩ Z Z ?_
 refine R.assign ⟨Z,Z,Z,Z⟩ Z ?_
 refine GOps.nil ?_
 refine GW.ret (Out.of (Res.one Z Z) (Hs.app _) ⟨?_, Z⟩)
 refine vb ?_; rw [valid_of hI hn]
theorem ref_in (w0 : World) (G : Hp) (c : Nat) (s : ByteArray) (hm : s.size ≤ 9223372036854775807) : GC Tryz.prog w0 92 #[.int .u8 (c : Int), .string s] (fun v G' => v = .bool (!allTo (fun i => !(decide ((bs s).getD i 0 = c))) s.size) ∧ G = G') G := by
 refine GC.body (args := [.int .u8 (c : Int), .string s]) Tryz.func92 rfl (by kernel_rfl) rfl ?_
 refine GW.seq ?_
 refine GW.region ?_
 refine R.assign ⟨Z,Z,Z,Z⟩ Z ?_
 refine GOps.nil ?_
 refine GW.seq ?_
 refine GW.seq ?_
 refine GW.region ?_
 refine R.assign ⟨Z,Z,Z,Z⟩ Z ?_
 refine GOps.nil ?_
 refine GW.block ?_
 refine GW.loopI (fun i : Nat => [(0, .int .u8 (c : Int)), (1, .string s), (5, .int .i64 i)]) (fun i => G) (fun i => s.size - i) (fun i => i ≤ s.size ∧ allTo (fun i => !(decide ((bs s).getD i 0 = c))) i = true) 0
  (keepG) (Hs.refl _) (⟨by omega, rfl⟩) ?_
 rintro i ⟨hi, h0⟩
 refine GW.seq ?_
 refine GW.seq ?_
 refine GW.region ?_
 refine R.move ⟨Z,Z,Z,Z⟩ Z ?_
 refine R.move ⟨Z,Z,Z,Z⟩ Z ?_
 refine R.lenStr ⟨Z,Z,Z,Z⟩ Z Z Tryz.underlying9 ?_
 refine R.lss ⟨Z,Z,Z,Z⟩ Z Z ?_
 refine GOps.nil ?_
 refine GW.ite Z (fun hc1 => ?_) (fun hc1 => ?_)
 ·try simp only [dcQ] at hc1
  refine GW.skip ?_
  refine GW.seq ?_
  refine GW.block ?_
  refine GW.seq ?_
  refine GW.region ?_
  refine R.move ⟨Z,Z,Z,Z⟩ Z ?_
  refine R.move ⟨Z,Z,Z,Z⟩ Z ?_
  refine R.indexStrA ⟨Z,Z,Z,Z⟩ Z Z Tryz.underlying9 (by omega) (by omega) fun c1 hx1 hb1 => ?_   -- "ref.go:25" ['t12', 't13']
  refine R.move ⟨Z,Z,Z,Z⟩ Z ?_
  refine R.eqI ⟨Z,Z,Z,Z⟩ Z Z ?_
  refine GOps.nil ?_
  refine GW.ite Z (fun hc2 => ?_) (fun hc2 => ?_)
  ·try simp only [dcQ] at hc2
   refine GW.seq ?_
   refine GW.region ?_
   refine R.assign ⟨Z,Z,Z,Z⟩ Z ?_
   refine GOps.nil ?_
   refine GW.ret (Out.of (Res.one Z Z) hsA ⟨?_, Z⟩)
   refine vb ?_; first | (rw [show s.size = i from by omega, h0]; rfl) | (rw [allTo_false (f := fun i => !(decide ((bs s).getD i 0 = c))) (i := i) (by omega) (by simp only [getD_of (i := i) hx1]; rw [decide_eq_true (by omega)]; rfl)]; rfl)
  ·try simp only [dcQ] at hc2
   refine GW.skip ?_
   refine GW.region ?_
   refine R.move ⟨Z,Z,Z,Z⟩ Z ?_
   refine R.add (r := (((i + 1) : Nat) : Int)) ⟨Z,Z,Z,Z⟩ Z Z (by rw [wrap64_id (by omega) (by omega)]; omega) ?_
   refine R.assign ⟨Z,Z,Z,Z⟩ Z ?_
   refine GOps.nil ?_
   exact ⟨i + 1, by omega, ⟨by omega, allTo_succ h0 (by simp only [getD_of (i := i) hx1]; rw [decide_eq_false (by omega)]; rfl)⟩, rfl, keepG, by first | exact Hs.refl _ | exact Hs.tl _ | exact Hs.tl2 _ _⟩
 ·try simp only [dcQ] at hc1
  refine GW.exit ?_
  refine GW.seq ?_
  refine GW.region ?_
  refine R.assign ⟨Z,Z,Z,Z⟩ Z ?_
  refine GOps.nil ?_
  refine GW.ret (Out.of (Res.one Z Z) hsA ⟨?_, Z⟩)
  refine vb ?_; first | (rw [show s.size = i from by omega, h0]; rfl) | (rw [allTo_false (f := fun i => !(decide ((bs s).getD i 0 = c))) (i := i) (by omega) (by simp only [getD_of (i := i) hx1]; rw [decide_eq_true (by omega)]; rfl)]; rfl)
def badSet6 : ByteArray := ⟨#[60, 62, 123, 125, 124, 94]⟩
def badI (c : Nat) : Bool := decide (c ≤ 32) || ((!allTo (fun i => !(decide ((bs badSet6).getD i 0 = c))) badSet6.size) || (decide (c = 34) || (decide (c = 92) || decide (c = 96))))
theorem badI_eq (c : Nat) (h : c < 256) : badI c = badC c := by
 have hh : ∀ c : Fin 256, badI c.val = badC c.val := by decide +kernel
 exact hh ⟨c, h⟩
theorem ref_IRI (w0 : World) (G : Hp) (s : ByteArray) (hm : s.size ≤ 9223372036854775807) : GC Tryz.prog w0 66 #[.string s] (fun v G' => v = .bool (iriS (bs s)) ∧ G = G') G := by
 refine GC.body (args := [.string s]) Tryz.func66 rfl (by kernel_rfl) rfl ?_
 refine GW.seq ?_
 refine GW.region ?_
 refine R.assign ⟨Z,Z,Z,Z⟩ Z ?_
 refine GOps.nil ?_
 refine GW.seq ?_
 refine GW.seq ?_
 refine GW.region ?_
 refine R.move ⟨Z,Z,Z,Z⟩ Z ?_
 refine R.lenStr ⟨Z,Z,Z,Z⟩ Z Z Tryz.underlying9 ?_
 refine R.lss ⟨Z,Z,Z,Z⟩ Z Z ?_
 refine R.move ⟨Z,Z,Z,Z⟩ Z ?_
 refine GOps.caseB 7 Z (fun hg1 => ?_) (fun hg1 => ?_)
 ·try simp only [dcQ] at hg1
  refine GOps.skip Z Z Z ?_
  refine GOps.skip Z Z Z ?_
  refine GOps.skip Z Z Z ?_
  refine R.pick_t ⟨Z,Z,Z,Z⟩ Z Z ?_
  refine R.move ⟨Z,Z,Z,Z⟩ Z ?_
  refine GOps.skip Z Z Z ?_
  refine GOps.skip Z Z Z ?_
  refine GOps.skip Z Z Z ?_
  refine R.pick_t ⟨Z,Z,Z,Z⟩ Z Z ?_
  refine GOps.nil ?_
  refine GW.cond_t Z ?_
  refine GW.seq ?_
  refine GW.region ?_
  refine R.assign ⟨Z,Z,Z,Z⟩ Z ?_
  refine GOps.nil ?_
  refine GW.ret (Out.of (Res.one Z Z) hsA ⟨?_, Z⟩)
  refine vb ?_; symm; first | exact iri_no1 (by omega) | exact iri_no2 (by assumption) | exact iri_no3 (i := i) (by omega) (by rw [getD_of (i := i) (hcx (by omega)), ← badI_eq c hcb]; assumption) | exact iri_yes (by omega) (by omega) (by assumption) (by rw [show s.size = i by omega]; exact h0)
 ·try simp only [dcQ] at hg1
  refine R.move ⟨Z,Z,Z,Z⟩ Z ?_
  refine R.lenStr ⟨Z,Z,Z,Z⟩ Z Z Tryz.underlying9 ?_
  refine R.gtr ⟨Z,Z,Z,Z⟩ Z Z ?_
  refine R.pick_f ⟨Z,Z,Z,Z⟩ Z Z ?_
  refine R.move ⟨Z,Z,Z,Z⟩ Z ?_
  refine GOps.caseB 12 Z (fun hg2 => ?_) (fun hg2 => ?_)
  ·try simp only [dcQ] at hg2
   refine GOps.skip Z Z Z ?_
   refine GOps.skip Z Z Z ?_
   refine GOps.skip Z Z Z ?_
   refine R.pick_t ⟨Z,Z,Z,Z⟩ Z Z ?_
   refine GOps.nil ?_
   refine GW.cond_t Z ?_
   refine GW.seq ?_
   refine GW.region ?_
   refine R.assign ⟨Z,Z,Z,Z⟩ Z ?_
   refine GOps.nil ?_
   refine GW.ret (Out.of (Res.one Z Z) hsA ⟨?_, Z⟩)
   refine vb ?_; symm; first | exact iri_no1 (by omega) | exact iri_no2 (by assumption) | exact iri_no3 (i := i) (by omega) (by rw [getD_of (i := i) (hcx (by omega)), ← badI_eq c hcb]; assumption) | exact iri_yes (by omega) (by omega) (by assumption) (by rw [show s.size = i by omega]; exact h0)
  ·try simp only [dcQ] at hg2
   refine R.move ⟨Z,Z,Z,Z⟩ Z ?_
   refine R.call ⟨Z,Z,Z,Z⟩ Z (vs := [_]) Z ((ref_Valid _ _ _ (by omega)).mono ?_)
   rintro _ _ ⟨rfl, rfl⟩
   refine R.not ⟨Z,Z,Z,Z⟩ Z ?_
   refine R.pick_f ⟨Z,Z,Z,Z⟩ Z Z ?_
   refine GOps.nil ?_
   refine GW.ite Z (fun hc3 => ?_) (fun hc3 => ?_)
   ·try simp only [dcQ] at hc3
    refine GW.seq ?_
    refine GW.region ?_
    refine R.assign ⟨Z,Z,Z,Z⟩ Z ?_
    refine GOps.nil ?_
    refine GW.ret (Out.of (Res.one Z Z) hsA ⟨?_, Z⟩)
    refine vb ?_; symm; first | exact iri_no1 (by omega) | exact iri_no2 (by assumption) | exact iri_no3 (i := i) (by omega) (by rw [getD_of (i := i) (hcx (by omega)), ← badI_eq c hcb]; assumption) | exact iri_yes (by omega) (by omega) (by assumption) (by rw [show s.size = i by omega]; exact h0)
   ·try simp only [dcQ] at hc3
    refine GW.skip ?_
    refine GW.seq ?_
    refine GW.seq ?_
    refine GW.region ?_
    refine R.assign ⟨Z,Z,Z,Z⟩ Z ?_
    refine GOps.nil ?_
    refine GW.block ?_
    refine GW.loopI (fun i : Nat => [(0, .string s), (3, .int .i64 i)]) (fun i => G) (fun i => s.size - i) (fun i => i ≤ s.size ∧ allTo (fun i => !badC ((bs s).getD i 0)) i = true) 0
     (keepG) (Hs.refl _) (⟨by omega, rfl⟩) ?_
    rintro i ⟨hi, h0⟩
    obtain ⟨c, hcx, hcb⟩ : ∃ c, (i < s.size → (bs s)[i]? = some c) ∧ c < 256 := by
     rcases Nat.lt_or_ge i s.size with h | h
     ·obtain ⟨c, h1, h2⟩ := bs_some s i h
      exact ⟨c, fun _ => h1, h2⟩
     ·exact ⟨0, fun h2 => absurd h2 (by omega), by omega⟩
    refine GW.seq ?_
    refine GW.seq ?_
    refine GW.region ?_
    refine R.move ⟨Z,Z,Z,Z⟩ Z ?_
    refine R.move ⟨Z,Z,Z,Z⟩ Z ?_
    refine R.lenStr ⟨Z,Z,Z,Z⟩ Z Z Tryz.underlying9 ?_
    refine R.lss ⟨Z,Z,Z,Z⟩ Z Z ?_
    refine GOps.nil ?_
    refine GW.ite Z (fun hc4 => ?_) (fun hc4 => ?_)
    ·try simp only [dcQ] at hc4
     refine GW.skip ?_
     refine GW.seq ?_
     refine GW.block ?_
     refine GW.cutB 50 (badI c) [(0, .string s), (3, .int .i64 i)] (G' := G) ?_ ?_
     ·refine R.move ⟨Z,Z,Z,Z⟩ Z ?_
      refine R.move ⟨Z,Z,Z,Z⟩ Z ?_
      refine R.indexStr ⟨Z,Z,Z,Z⟩ Z Z Tryz.underlying9 (by omega) (hcx (by omega)) ?_   -- "ref.go:38" ['t23', 't24']
      refine R.leq ⟨Z,Z,Z,Z⟩ Z Z ?_
      refine R.move ⟨Z,Z,Z,Z⟩ Z ?_
      refine GOps.caseB 27 Z (fun hg5 => ?_) (fun hg5 => ?_)
      ·try simp only [dcQ] at hg5
       refine GOps.skip Z Z Z ?_
       refine GOps.skip Z Z Z ?_
       refine GOps.skip Z Z Z ?_
       refine GOps.skip Z Z Z ?_
       refine R.pick_t ⟨Z,Z,Z,Z⟩ Z Z ?_
       refine R.move ⟨Z,Z,Z,Z⟩ Z ?_
       refine GOps.skip Z Z Z ?_
       refine GOps.skip Z Z Z ?_
       refine GOps.skip Z Z Z ?_
       refine GOps.skip Z Z Z ?_
       refine R.pick_t ⟨Z,Z,Z,Z⟩ Z Z ?_
       refine R.move ⟨Z,Z,Z,Z⟩ Z ?_
       refine GOps.skip Z Z Z ?_
       refine GOps.skip Z Z Z ?_
       refine GOps.skip Z Z Z ?_
       refine GOps.skip Z Z Z ?_
       refine R.pick_t ⟨Z,Z,Z,Z⟩ Z Z ?_
       refine R.move ⟨Z,Z,Z,Z⟩ Z ?_
       refine GOps.skip Z Z Z ?_
       refine GOps.skip Z Z Z ?_
       refine GOps.skip Z Z Z ?_
       refine GOps.skip Z Z Z ?_
       refine R.pick_t ⟨Z,Z,Z,Z⟩ Z Z ?_
       refine GOps.nil ?_
       exact ⟨rfl, rfl, keepG, by first | exact Hs.refl _ | exact Hs.tl _, vbs (by unfold badI badSet6; (generalize allTo (fun i => !(decide ((bs (ByteArray.mk #[60, 62, 123, 125, 124, 94])).getD i 0 = c))) (ByteArray.mk #[60, 62, 123, 125, 124, 94]).size = b at *); (first | rw [decide_eq_true (show c ≤ 32 by omega)] | rw [decide_eq_false (show ¬ c ≤ 32 by omega)]); first | rfl | (cases b <;> first | rfl | (exfalso; simp_all; done) | (rw [Bool.eq_iff_iff]; simp; omega)))⟩
      ·try simp only [dcQ] at hg5
       refine R.move ⟨Z,Z,Z,Z⟩ Z ?_
       refine R.move ⟨Z,Z,Z,Z⟩ Z ?_
       refine R.indexStr ⟨Z,Z,Z,Z⟩ Z Z Tryz.underlying9 (by omega) (hcx (by omega)) ?_   -- "ref.go:38" ['t28', 't29']
       refine R.call ⟨Z,Z,Z,Z⟩ Z (vs := [_, _]) Z ((ref_in _ _ _ _ (by decide)).mono ?_)
       rintro _ _ ⟨rfl, rfl⟩
       refine R.pick_f ⟨Z,Z,Z,Z⟩ Z Z ?_
       refine R.move ⟨Z,Z,Z,Z⟩ Z ?_
       refine GOps.caseB 33 Z (fun hg6 => ?_) (fun hg6 => ?_)
       ·try simp only [dcQ] at hg6
        refine GOps.skip Z Z Z ?_
        refine GOps.skip Z Z Z ?_
        refine GOps.skip Z Z Z ?_
        refine GOps.skip Z Z Z ?_
        refine R.pick_t ⟨Z,Z,Z,Z⟩ Z Z ?_
        refine R.move ⟨Z,Z,Z,Z⟩ Z ?_
        refine GOps.skip Z Z Z ?_
        refine GOps.skip Z Z Z ?_
        refine GOps.skip Z Z Z ?_
        refine GOps.skip Z Z Z ?_
        refine R.pick_t ⟨Z,Z,Z,Z⟩ Z Z ?_
        refine R.move ⟨Z,Z,Z,Z⟩ Z ?_
        refine GOps.skip Z Z Z ?_
        refine GOps.skip Z Z Z ?_
        refine GOps.skip Z Z Z ?_
        refine GOps.skip Z Z Z ?_
        refine R.pick_t ⟨Z,Z,Z,Z⟩ Z Z ?_
        refine GOps.nil ?_
        exact ⟨rfl, rfl, keepG, by first | exact Hs.refl _ | exact Hs.tl _, vbs (by unfold badI badSet6; (generalize allTo (fun i => !(decide ((bs (ByteArray.mk #[60, 62, 123, 125, 124, 94])).getD i 0 = c))) (ByteArray.mk #[60, 62, 123, 125, 124, 94]).size = b at *); (first | rw [decide_eq_true (show c ≤ 32 by omega)] | rw [decide_eq_false (show ¬ c ≤ 32 by omega)]); first | rfl | (cases b <;> first | rfl | (exfalso; simp_all; done) | (rw [Bool.eq_iff_iff]; simp; omega)))⟩
       ·try simp only [dcQ] at hg6
        refine R.move ⟨Z,Z,Z,Z⟩ Z ?_
        refine R.move ⟨Z,Z,Z,Z⟩ Z ?_
        refine R.indexStr ⟨Z,Z,Z,Z⟩ Z Z Tryz.underlying9 (by omega) (hcx (by omega)) ?_   -- "ref.go:38" ['t34', 't35']
        refine R.eqI ⟨Z,Z,Z,Z⟩ Z Z ?_
        refine R.pick_f ⟨Z,Z,Z,Z⟩ Z Z ?_
        refine R.move ⟨Z,Z,Z,Z⟩ Z ?_
        refine GOps.caseB 39 Z (fun hg7 => ?_) (fun hg7 => ?_)
        ·try simp only [dcQ] at hg7
         refine GOps.skip Z Z Z ?_
         refine GOps.skip Z Z Z ?_
         refine GOps.skip Z Z Z ?_
         refine GOps.skip Z Z Z ?_
         refine R.pick_t ⟨Z,Z,Z,Z⟩ Z Z ?_
         refine R.move ⟨Z,Z,Z,Z⟩ Z ?_
         refine GOps.skip Z Z Z ?_
         refine GOps.skip Z Z Z ?_
         refine GOps.skip Z Z Z ?_
         refine GOps.skip Z Z Z ?_
         refine R.pick_t ⟨Z,Z,Z,Z⟩ Z Z ?_
         refine GOps.nil ?_
         exact ⟨rfl, rfl, keepG, by first | exact Hs.refl _ | exact Hs.tl _, vbs (by unfold badI badSet6; (generalize allTo (fun i => !(decide ((bs (ByteArray.mk #[60, 62, 123, 125, 124, 94])).getD i 0 = c))) (ByteArray.mk #[60, 62, 123, 125, 124, 94]).size = b at *); (first | rw [decide_eq_true (show c ≤ 32 by omega)] | rw [decide_eq_false (show ¬ c ≤ 32 by omega)]); first | rfl | (cases b <;> first | rfl | (exfalso; simp_all; done) | (rw [Bool.eq_iff_iff]; simp; omega)))⟩
        ·try simp only [dcQ] at hg7
         refine R.move ⟨Z,Z,Z,Z⟩ Z ?_
         refine R.move ⟨Z,Z,Z,Z⟩ Z ?_
         refine R.indexStr ⟨Z,Z,Z,Z⟩ Z Z Tryz.underlying9 (by omega) (hcx (by omega)) ?_   -- "ref.go:38" ['t40', 't41']
         refine R.eqI ⟨Z,Z,Z,Z⟩ Z Z ?_
         refine R.pick_f ⟨Z,Z,Z,Z⟩ Z Z ?_
         refine R.move ⟨Z,Z,Z,Z⟩ Z ?_
         refine GOps.caseB 45 Z (fun hg8 => ?_) (fun hg8 => ?_)
         ·try simp only [dcQ] at hg8
          refine GOps.skip Z Z Z ?_
          refine GOps.skip Z Z Z ?_
          refine GOps.skip Z Z Z ?_
          refine GOps.skip Z Z Z ?_
          refine R.pick_t ⟨Z,Z,Z,Z⟩ Z Z ?_
          refine GOps.nil ?_
          exact ⟨rfl, rfl, keepG, by first | exact Hs.refl _ | exact Hs.tl _, vbs (by unfold badI badSet6; (generalize allTo (fun i => !(decide ((bs (ByteArray.mk #[60, 62, 123, 125, 124, 94])).getD i 0 = c))) (ByteArray.mk #[60, 62, 123, 125, 124, 94]).size = b at *); (first | rw [decide_eq_true (show c ≤ 32 by omega)] | rw [decide_eq_false (show ¬ c ≤ 32 by omega)]); first | rfl | (cases b <;> first | rfl | (exfalso; simp_all; done) | (rw [Bool.eq_iff_iff]; simp; omega)))⟩
         ·try simp only [dcQ] at hg8
          refine R.move ⟨Z,Z,Z,Z⟩ Z ?_
          refine R.move ⟨Z,Z,Z,Z⟩ Z ?_
          refine R.indexStr ⟨Z,Z,Z,Z⟩ Z Z Tryz.underlying9 (by omega) (hcx (by omega)) ?_   -- "ref.go:38" ['t46', 't47']
          refine R.eqI ⟨Z,Z,Z,Z⟩ Z Z ?_
          refine R.pick_f ⟨Z,Z,Z,Z⟩ Z Z ?_
          refine GOps.nil ?_
          exact ⟨rfl, rfl, keepG, by first | exact Hs.refl _ | exact Hs.tl _, vbs (by unfold badI badSet6; (generalize allTo (fun i => !(decide ((bs (ByteArray.mk #[60, 62, 123, 125, 124, 94])).getD i 0 = c))) (ByteArray.mk #[60, 62, 123, 125, 124, 94]).size = b at *); (first | rw [decide_eq_true (show c ≤ 32 by omega)] | rw [decide_eq_false (show ¬ c ≤ 32 by omega)]); first | rfl | (cases b <;> first | rfl | (exfalso; simp_all; done) | (rw [Bool.eq_iff_iff]; simp; omega)))⟩
     ·refine GW.ite Z (fun hc9 => ?_) (fun hc9 => ?_)
      ·try simp only [dcQ] at hc9
       refine GW.seq ?_
       refine GW.region ?_
       refine R.assign ⟨Z,Z,Z,Z⟩ Z ?_
       refine GOps.nil ?_
       refine GW.ret (Out.of (Res.one Z Z) hsA ⟨?_, Z⟩)
       refine vb ?_; symm; first | exact iri_no1 (by omega) | exact iri_no2 (by assumption) | exact iri_no3 (i := i) (by omega) (by rw [getD_of (i := i) (hcx (by omega)), ← badI_eq c hcb]; assumption) | exact iri_yes (by omega) (by omega) (by assumption) (by rw [show s.size = i by omega]; exact h0)
      ·try simp only [dcQ] at hc9
       refine GW.skip ?_
       refine GW.region ?_
       refine R.move ⟨Z,Z,Z,Z⟩ Z ?_
       refine R.add (r := _) ⟨Z,Z,Z,Z⟩ Z Z (wrap64_id (by omega) (by omega)) ?_
       refine R.assign ⟨Z,Z,Z,Z⟩ Z ?_
       refine GOps.nil ?_
       exact ⟨i + 1, by omega, ⟨by omega, allTo_succ h0 (by simp only [getD_of (i := i) (hcx (by omega)), ← badI_eq c hcb]; simpa using (by assumption : badI c = false))⟩, rfl, keepG, by first | exact Hs.refl _ | exact Hs.tl _ | exact Hs.tl2 _ _⟩
    ·try simp only [dcQ] at hc4
     refine GW.exit ?_
     refine GW.seq ?_
     refine GW.region ?_
     refine R.assign ⟨Z,Z,Z,Z⟩ Z ?_
     refine GOps.nil ?_
     refine GW.ret (Out.of (Res.one Z Z) hsA ⟨?_, Z⟩)
     refine vb ?_; symm; first | exact iri_no1 (by omega) | exact iri_no2 (by assumption) | exact iri_no3 (i := i) (by omega) (by rw [getD_of (i := i) (hcx (by omega)), ← badI_eq c hcb]; assumption) | exact iri_yes (by omega) (by omega) (by assumption) (by rw [show s.size = i by omega]; exact h0)
end Go.Proofs.YtfddkcmooommeaaGreatDoor.Gl
end
section
namespace Go.Proofs.YtfddkcmooommeaaGreatDoor.Gl
open Go.RowKit Go.Shelf
set_option linter.unusedVariables false
set_option linter.unnecessarySimpa false
set_option linter.unusedSimpArgs false
attribute [-simp] List.getD_eq_getElem?_getD
def dashAt (s : ByteArray) : Int := Lib.indexByte s.data.toList ((45 : Nat) : Int).toNat.toUInt8
def dashes (l : List Nat) : Nat := l.count 45
theorem u8_45 (u : UInt8) : u = ((45 : Nat) : Int).toNat.toUInt8 ↔ u.toNat = 45 := by
 constructor
 ·rintro rfl; rfl
 ·intro h
  apply UInt8.toNat_inj.1
  rw [h]; rfl
theorem dashes_eq (s : ByteArray) : Lib.countByte s.data.toList ((45 : Nat) : Int).toNat.toUInt8 = dashes (bs s) := by
 unfold Lib.countByte dashes bs
 induction s.data.toList with
 | nil => rfl
 | cons u l ih =>
  rw [List.map_cons, List.count_cons, List.count_cons, ih]
  congr 1
  by_cases h : u.toNat = 45
  ·rw [if_pos (by simpa using (u8_45 u).2 h), if_pos (by simpa using h)]
  ·rw [if_neg (by simpa using fun hh => h ((u8_45 u).1 hh)), if_neg (by simpa using h)]
theorem dashAt_ge (s : ByteArray) : -1 ≤ dashAt s := Lib.indexByte_ge _ _
theorem bs_get (s : ByteArray) (k : Nat) : (bs s)[k]? = (s.data.toList[k]?).map (·.toNat) := by unfold bs; rw [List.getElem?_map]
theorem dashAt_some {s : ByteArray} {m : Nat} (h : dashAt s = m) : (bs s)[m]? = some 45 ∧ ∀ k, k < m → (bs s)[k]? ≠ some 45 := by
 obtain ⟨g1, g2⟩ := Lib.indexByte_some (o := m) h
 refine ⟨by rw [bs_get, g1]; rfl, fun k hk hh => g2 k hk ?_⟩
 rw [bs_get, Option.map_eq_some_iff] at hh
 obtain ⟨u, hu, h45⟩ := hh
 rw [hu, (u8_45 u).2 h45]
theorem dashAt_none {s : ByteArray} (h : dashAt s < 0) : 45 ∉ bs s := by
 have := Lib.indexByte_none (l := s.data.toList) (c := ((45 : Nat) : Int).toNat.toUInt8) (by have := dashAt_ge s; unfold dashAt at *; omega)
 intro hm
 obtain ⟨k, hk, hk2⟩ := List.mem_iff_getElem.1 hm
 have h3 : (bs s)[k]? = some 45 := by rw [List.getElem?_eq_getElem hk, hk2]
 rw [bs_get, Option.map_eq_some_iff] at h3
 obtain ⟨u, hu, h45⟩ := h3
 exact this k (by rw [hu, (u8_45 u).2 h45])
theorem dashAt_self {s sep : ByteArray} (h1 : sep.size = 1) (h2 : (bs sep)[0]? = some 45) (h : (sep.toList == s.toList) = true) : dashAt s = 0 := by
 rw [toList_beq, beq_iff_eq] at h
 have e := bs_inj h
 subst e
 have h3 := dashAt_ge sep
 rcases Int.lt_or_le (dashAt sep) 0 with hn | hn
 ·exact absurd (List.mem_of_getElem? h2) (dashAt_none hn)
 ·obtain ⟨m, hm⟩ := Int.eq_ofNat_of_zero_le hn
  obtain ⟨g1, g2⟩ := dashAt_some hm
  rcases Nat.eq_zero_or_pos m with h0 | h0
  ·rw [hm, h0]; rfl
  ·exact absurd h2 (g2 0 h0)
theorem count_le (l : List Nat) : dashes l ≤ l.length := List.count_le_length
theorem cut_dash {s : ByteArray} {m : Nat} (h : dashAt s = m) : m < s.size ∧ bs s = (bs s).take m ++ [45] ++ (bs s).drop (m + 1) ∧ 45 ∉ (bs s).take m ∧ dashes ((bs s).drop (m + 1)) + 1 = dashes (bs s) := by
 obtain ⟨g1, g2⟩ := dashAt_some h
 have hlt : m < (bs s).length := (List.getElem?_eq_some_iff.1 g1).1
 have e : bs s = (bs s).take m ++ [45] ++ (bs s).drop (m + 1) := by
  have h3 : (bs s)[m] = 45 := by
   have := List.getElem?_eq_getElem hlt
   rw [g1] at this
   exact (Option.some.inj this).symm
  have h4 : [45] ++ (bs s).drop (m + 1) = (bs s).drop m := by rw [List.drop_eq_getElem_cons hlt, h3]; rfl
  rw [List.append_assoc, h4, List.take_append_drop]
 have hn : 45 ∉ (bs s).take m := by
  intro hm
  obtain ⟨k, hk, hk2⟩ := List.mem_iff_getElem.1 hm
  have hkm : k < m := by rw [List.length_take] at hk; omega
  refine g2 k hkm ?_
  rw [List.getElem_take] at hk2
  rw [List.getElem?_eq_getElem (by omega), hk2]
 refine ⟨by rw [← bs_length]; exact hlt, e, hn, ?_⟩
 conv => rhs; rw [e]
 unfold dashes
 rw [List.count_append, List.count_append, List.count_eq_zero.2 hn]
 simp
 omega
theorem no_dash {s : ByteArray} (h : dashes (bs s) = 0) : 45 ∉ bs s := List.count_eq_zero.1 h
theorem dashAt_pos {s : ByteArray} (h : dashes (bs s) ≠ 0) : 0 ≤ dashAt s := by
 rcases Int.lt_or_le (dashAt s) 0 with hn | hn
 ·exact absurd (List.count_eq_zero.2 (dashAt_none hn)) h
 ·exact hn
def joinE (ps : List ByteArray) (l : List Nat) : List Nat := ps.flatMap (fun p => bs p ++ [45]) ++ l
theorem joinE_snoc (ps : List ByteArray) (p : ByteArray) (l : List Nat) : joinE (ps ++ [p]) l = joinE ps (bs p ++ [45] ++ l) := by simp [joinE]
theorem splice_size (C : Array Value) (f : Nat) (cs : List Value) (h : f + cs.length ≤ C.size) : (splice C f cs).size = C.size := by
 unfold splice
 have : C.size = C.toList.length := by simp
 simp
 omega
theorem splice_at (C : Array Value) (f : Nat) (v : Value) (h : f < C.size) (j : Nat) : (splice C f [v])[j]? = if j = f then some v else C[j]? := by
 have hl : f < C.toList.length := by simpa using h
 unfold splice
 rw [List.getElem?_toArray]
 by_cases hj : j < f
 ·rw [List.append_assoc, List.getElem?_append_left (by simp; omega), List.getElem?_take_of_lt hj, if_neg (by omega), Array.getElem?_toList]
 ·by_cases hj2 : j = f
  ·subst hj2
   rw [if_pos rfl, List.append_assoc, List.getElem?_append_right (by simp; omega)]
   simp [List.length_take]
   rw [Nat.min_eq_left (by omega)]
   simp
  ·rw [if_neg hj2, List.getElem?_append_right (by simp; omega), List.getElem?_drop]
   simp only [List.length_append, List.length_take, List.length_singleton]
   rw [Nat.min_eq_left (by omega), ← Array.getElem?_toList]
   congr 1
   omega
def PcAt (C : Array Value) (ps : List ByteArray) : Prop := ∀ (j : Nat) p, ps[j]? = some p → C[j]? = some (.string p)
theorem PcAt.push {C : Array Value} {ps : List ByteArray} (h : PcAt C ps) (p : ByteArray) (f : Nat) (hf : f = ps.length) (hl : f < C.size) : PcAt (splice C f [.string p]) (ps ++ [p]) := by
 intro j q hq
 rw [splice_at C f _ hl]
 rcases Nat.lt_or_ge j ps.length with hj | hj
 ·rw [if_neg (by omega)]
  rw [List.getElem?_append_left hj] at hq
  exact h j q hq
 ·have : j = ps.length := by
   have := (List.getElem?_eq_some_iff.1 hq).1
   simp at this
   omega
  subst this
  rw [if_pos hf.symm]
  simp at hq
  rw [hq]
structure SpI (s x : ByteArray) (ps : List ByteArray) (i : Nat) (C : Array Value) : Prop where
 len : i = ps.length
 cnt : i + dashes (bs x) = dashes (bs s)
 join : bs s = joinE ps (bs x)
 no : ∀ p ∈ ps, 45 ∉ bs p
 pc : PcAt C ps
 size : C.size = dashes (bs s) + 1
 small : x.size ≤ 1048576
theorem SpI.zero {s : ByteArray} {C : Array Value} (hm : s.size ≤ 1048576) (h : C.size = dashes (bs s) + 1) : SpI s s [] 0 C :=
 ⟨rfl, by omega, by simp [joinE], by simp, fun j p h => by simp at h, h, hm⟩
theorem SpI.step {s x : ByteArray} {ps : List ByteArray} {i m : Nat} {C : Array Value} (h : SpI s x ps i C) (hmm : dashAt x = m) :
  SpI s (x.extract ((m + 1 : Nat) : Int).toNat x.size) (ps ++ [x.extract 0 (m : Int).toNat]) (i + 1) (splice C (0 + (i : Int).toNat * 1) [.string (x.extract 0 (m : Int).toNat)]) := by
 obtain ⟨g1, g2, g3, g4⟩ := cut_dash hmm
 have e1 : bs (x.extract ((m + 1 : Nat) : Int).toNat x.size) = (bs x).drop (m + 1) := bs_from x (m + 1)
 have e2 : bs (x.extract 0 (m : Int).toNat) = (bs x).take m := by rw [bs_extract]; simp
 have hc := h.cnt
 have hs := h.size
 have hl := h.len
 refine ⟨by simp; omega, by rw [e1]; omega, ?_, ?_, h.pc.push _ _ (by omega) (by omega), ?_, ?_⟩
 ·rw [joinE_snoc, e1, e2, ← g2]; exact h.join
 ·intro p hp
  rcases List.mem_append.1 hp with hp | hp
  ·exact h.no p hp
  ·rw [List.mem_singleton] at hp
   subst hp
   rw [e2]
   exact g3
 ·rw [splice_size _ _ _ (by simp; omega)]; exact hs
 ·have := h.small
  simp only [ByteArray.size_extract]
  omega
theorem str_Count (w0 : World) (G : Hp) (s sep : ByteArray) (h1 : sep.size = 1) (h2 : (bs sep)[0]? = some 45) : GC Tryz.prog w0 155 #[.string s, .string sep] (fun v G' => v = .int .i64 (dashes (bs s) : Nat) ∧ G = G') G := by
 refine GC.body (args := [.string s, .string sep]) Tryz.func155 rfl (by kernel_rfl) rfl ?_
 refine GW.seq ?_
 refine GW.region ?_
 refine R.assign ⟨Z,Z,Z,Z⟩ Z ?_
 refine GOps.nil ?_
 refine GW.seq ?_
 refine GW.seq ?_
 refine GW.region ?_
 refine R.move ⟨Z,Z,Z,Z⟩ Z ?_
 refine R.lenStr ⟨Z,Z,Z,Z⟩ Z Z Tryz.underlying9 ?_
 refine R.eqI ⟨Z,Z,Z,Z⟩ Z Z ?_
 refine GOps.nil ?_
 refine GW.ite Z (fun hc1 => ?_) (fun hc1 => ?_)
 ·try simp only [dcQ] at hc1
  exfalso; omega
 ·try simp only [dcQ] at hc1
  refine GW.skip ?_
  refine GW.seq ?_
  refine GW.seq ?_
  refine GW.region ?_
  refine R.move ⟨Z,Z,Z,Z⟩ Z ?_
  refine R.lenStr ⟨Z,Z,Z,Z⟩ Z Z Tryz.underlying9 ?_
  refine R.eqI ⟨Z,Z,Z,Z⟩ Z Z ?_
  refine GOps.nil ?_
  refine GW.ite Z (fun hc2 => ?_) (fun hc2 => ?_)
  ·try simp only [dcQ] at hc2
   refine GW.seq ?_
   refine GW.region ?_
   refine R.move ⟨Z,Z,Z,Z⟩ Z ?_
   refine R.move ⟨Z,Z,Z,Z⟩ Z ?_
   refine R.indexStr ⟨Z,Z,Z,Z⟩ Z Z Tryz.underlying9 (by omega) (h2) ?_   -- "strings.go:48" ['t17', '0']
   refine R.ext ⟨Z,Z,Z,Z⟩ Tryz.func161 (by kernel_rfl) Z (by kernel_rfl) (e := Extern.BytealgCount.count) (by kernel_rfl) (vs := [_, _]) Z (fun w => Lib.run_countString _ _ w) ?_
   refine R.assign ⟨Z,Z,Z,Z⟩ Z ?_
   refine GOps.nil ?_
   refine GW.ret (Out.of (Res.one Z Z) hsA ⟨?_, Z⟩)
   rw [← dashes_eq]
  ·try simp only [dcQ] at hc2
   exfalso; omega
theorem lite_Index (w0 : World) (G : Hp) (s sep : ByteArray) (h1 : sep.size = 1) (h2 : (bs sep)[0]? = some 45) : GC Tryz.prog w0 162 #[.string s, .string sep] (fun v G' => v = .int .i64 (dashAt s) ∧ G = G') G := by
 refine GC.body (args := [.string s, .string sep]) Tryz.func162 rfl (by kernel_rfl) rfl ?_
 refine GW.seq ?_
 refine GW.region ?_
 refine R.assign ⟨Z,Z,Z,Z⟩ Z ?_
 refine GOps.nil ?_
 refine GW.seq ?_
 refine GW.region ?_
 refine R.move ⟨Z,Z,Z,Z⟩ Z ?_
 refine R.lenStr ⟨Z,Z,Z,Z⟩ Z Z Tryz.underlying9 ?_
 refine R.assign ⟨Z,Z,Z,Z⟩ Z ?_
 refine GOps.nil ?_
 refine GW.seq ?_
 refine GW.block ?_
 refine GW.seq ?_
 refine GW.region ?_
 refine R.move ⟨Z,Z,Z,Z⟩ Z ?_
 refine R.eqI ⟨Z,Z,Z,Z⟩ Z Z ?_
 refine R.move ⟨Z,Z,Z,Z⟩ Z ?_
 refine GOps.caseB 19 Z (fun hg1 => ?_) (fun hg1 => ?_)
 ·try simp only [dcQ] at hg1
  refine GOps.skip Z Z Z ?_
  refine GOps.skip Z Z Z ?_
  refine GOps.skip Z Z Z ?_
  refine R.pick_t ⟨Z,Z,Z,Z⟩ Z Z ?_
  refine R.assign ⟨Z,Z,Z,Z⟩ Z ?_
  refine GOps.nil ?_
  refine GW.cond_t Z ?_
  refine GW.seq ?_
  refine GW.region ?_
  refine R.assign ⟨Z,Z,Z,Z⟩ Z ?_
  refine GOps.nil ?_
  refine GW.ret (Out.of (Res.one Z Z) hsA ⟨?_, Z⟩)
  first | rfl | rw [dashAt_self h1 h2 (by assumption)] | (exfalso; omega)
 ·try simp only [dcQ] at hg1
  refine R.move ⟨Z,Z,Z,Z⟩ Z ?_
  refine R.move ⟨Z,Z,Z,Z⟩ Z ?_
  refine R.eqS ⟨Z,Z,Z,Z⟩ Z Z ?_
  refine R.pick_f ⟨Z,Z,Z,Z⟩ Z Z ?_
  refine R.assign ⟨Z,Z,Z,Z⟩ Z ?_
  refine GOps.nil ?_
  refine GW.ite Z (fun hc2 => ?_) (fun hc2 => ?_)
  ·try simp only [dcQ] at hc2
   rw [dashAt_self h1 h2 hc2]
   refine GW.seq ?_
   refine GW.region ?_
   refine R.assign ⟨Z,Z,Z,Z⟩ Z ?_
   refine GOps.nil ?_
   refine GW.ret (Out.of (Res.one Z Z) hsA ⟨?_, Z⟩)
   first | rfl | rw [dashAt_self h1 h2 (by assumption)] | (exfalso; omega)
  ·try simp only [dcQ] at hc2
   skip
   refine GW.seq ?_
   refine GW.region ?_
   refine R.move ⟨Z,Z,Z,Z⟩ Z ?_
   refine R.eqI ⟨Z,Z,Z,Z⟩ Z Z ?_
   refine R.assign ⟨Z,Z,Z,Z⟩ Z ?_
   refine GOps.nil ?_
   refine GW.ite Z (fun hc3 => ?_) (fun hc3 => ?_)
   ·try simp only [dcQ] at hc3
    refine GW.seq ?_
    refine GW.region ?_
    refine R.move ⟨Z,Z,Z,Z⟩ Z ?_
    refine R.move ⟨Z,Z,Z,Z⟩ Z ?_
    refine R.indexStr ⟨Z,Z,Z,Z⟩ Z Z Tryz.underlying9 (by omega) (h2) ?_   -- "strings.go:34" ['t28', '0']
    refine R.call ⟨Z,Z,Z,Z⟩ Z (vs := [_, _]) Z ((lite_IndexByte _ _ _ _).mono ?_)
    rintro _ _ ⟨rfl, rfl⟩
    refine R.assign ⟨Z,Z,Z,Z⟩ Z ?_
    refine GOps.nil ?_
    refine GW.ret (Out.of (Res.one Z Z) hsA ⟨?_, Z⟩)
    first | rfl | rw [dashAt_self h1 h2 (by assumption)] | (exfalso; omega)
   ·try simp only [dcQ] at hc3
    exfalso; omega
theorem str_Index (w0 : World) (G : Hp) (s sep : ByteArray) (h1 : sep.size = 1) (h2 : (bs sep)[0]? = some 45) : GC Tryz.prog w0 156 #[.string s, .string sep] (fun v G' => v = .int .i64 (dashAt s) ∧ G = G') G := by
 refine GC.body (args := [.string s, .string sep]) Tryz.func156 rfl (by kernel_rfl) rfl ?_
 refine GW.seq ?_
 refine GW.region ?_
 refine R.assign ⟨Z,Z,Z,Z⟩ Z ?_
 refine GOps.nil ?_
 refine GW.seq ?_
 refine GW.region ?_
 refine R.move ⟨Z,Z,Z,Z⟩ Z ?_
 refine R.move ⟨Z,Z,Z,Z⟩ Z ?_
 refine R.call ⟨Z,Z,Z,Z⟩ Z (vs := [_, _]) Z ((lite_Index _ _ _ _ h1 h2).mono ?_)
 rintro _ _ ⟨rfl, rfl⟩
 refine R.assign ⟨Z,Z,Z,Z⟩ Z ?_
 refine GOps.nil ?_
 refine GW.ret (Out.of (Res.one Z Z) hsA ⟨?_, Z⟩)
 rfl
theorem str_genSplit (w0 : World) (G : Hp) (s sep : ByteArray) (h1 : sep.size = 1) (h2 : (bs sep)[0]? = some 45) (hm : s.size ≤ 1048576) : GC Tryz.prog w0 143 #[.string s, .string sep, .int .i64 0, .int .i64 (-1)] (fun v G' => ∃ (ps : List ByteArray) (x : ByteArray) (b cap : Nat) (C : Array Value), v = .slice (some ⟨b, 0, none⟩) (ps.length + 1) cap ∧ bs s = joinE ps (bs x) ∧ (∀ p ∈ ps, 45 ∉ bs p) ∧ 45 ∉ bs x ∧ PcAt C (ps ++ [x]) ∧ (b, .exact (.cells C 9 (0, 0))) :: G = G') G := by
 have hd : dashes (bs s) ≤ s.size := by have := count_le (bs s); rwa [bs_length] at this
 refine GC.body (args := [.string s, .string sep, .int .i64 0, .int .i64 (-1)]) Tryz.func143 rfl (by kernel_rfl) rfl ?_
 refine GW.seq ?_
 refine GW.region ?_
 refine R.assign ⟨Z,Z,Z,Z⟩ Z ?_
 refine GOps.nil ?_
 refine GW.seq ?_
 refine GW.seq ?_
 refine GW.region ?_
 refine R.move ⟨Z,Z,Z,Z⟩ Z ?_
 refine R.eqI ⟨Z,Z,Z,Z⟩ Z Z ?_
 refine GOps.nil ?_
 refine GW.cond_f Z ?_
 refine GW.skip ?_
 refine GW.seq ?_
 refine GW.seq ?_
 refine GW.region ?_
 refine R.move ⟨Z,Z,Z,Z⟩ Z ?_
 refine R.eqS ⟨Z,Z,Z,Z⟩ Z Z ?_
 refine GOps.nil ?_
 refine GW.ite Z (fun hc1 => ?_) (fun hc1 => ?_)
 ·try simp only [dcQ] at hc1
  exact absurd (str_nil hc1) (fun h => by rw [h] at h2; cases h2)
 ·try simp only [dcQ] at hc1
  refine GW.skip ?_
  refine GW.seq ?_
  refine GW.seq ?_
  refine GW.region ?_
  refine R.move ⟨Z,Z,Z,Z⟩ Z ?_
  refine R.lss ⟨Z,Z,Z,Z⟩ Z Z ?_
  refine GOps.nil ?_
  refine GW.cond_t Z ?_
  refine GW.region ?_
  refine R.move ⟨Z,Z,Z,Z⟩ Z ?_
  refine R.move ⟨Z,Z,Z,Z⟩ Z ?_
  refine R.call ⟨Z,Z,Z,Z⟩ Z (vs := [_, _]) Z ((str_Count _ _ _ _ h1 h2).mono ?_)
  rintro _ _ ⟨rfl, rfl⟩
  refine R.add (r := ((((dashes (bs s)) + 1) : Nat) : Int)) ⟨Z,Z,Z,Z⟩ Z Z (by rw [wrap64_id (by omega) (by omega)]; omega) ?_
  refine R.assign ⟨Z,Z,Z,Z⟩ Z ?_
  refine GOps.nil ?_
  refine GW.seq ?_
  refine GW.region ?_
  refine R.move ⟨Z,Z,Z,Z⟩ Z ?_
  refine R.move ⟨Z,Z,Z,Z⟩ Z ?_
  refine R.lenStr ⟨Z,Z,Z,Z⟩ Z Z Tryz.underlying9 ?_
  refine R.add (r := ((s.size + 1 : Nat) : Int)) ⟨Z,Z,Z,Z⟩ Z Z (by rw [wrap64_id (by omega) (by omega)]; omega) ?_
  refine R.minI (r := ((dashes (bs s) + 1 : Nat) : Int)) ⟨Z,Z,Z,Z⟩ Z Z (by omega) ?_
  refine R.assign ⟨Z,Z,Z,Z⟩ Z ?_
  refine GOps.nil ?_
  refine GW.seq ?_
  refine GW.region ?_
  refine R.move ⟨Z,Z,Z,Z⟩ Z ?_
  refine R.makeSlice (n := dashes (bs s) + 1) (sz := 1) (bytes := 16) ⟨Z,Z,Z,Z⟩ (by rfl) (by rfl) Tryz.underlying61 (InfoE.mk (by kernel_rfl)) (by omega) (by omega) fun b31 C31 hC31 => ?_
  refine R.assign ⟨Z,Z,Z,Z⟩ Z ?_
  refine GOps.nil ?_
  refine GW.seq ?_
  refine GW.region ?_
  refine R.move ⟨Z,Z,Z,Z⟩ Z ?_
  refine R.sub (r := ((dashes (bs s) : Nat) : Int)) ⟨Z,Z,Z,Z⟩ Z Z (by rw [wrap64_id (by omega) (by omega)]; omega) ?_
  refine R.assign ⟨Z,Z,Z,Z⟩ Z ?_
  refine GOps.nil ?_
  refine GW.seq ?_
  refine GW.region ?_
  refine R.assign ⟨Z,Z,Z,Z⟩ Z ?_
  refine GOps.nil ?_
  refine GW.seq ?_
  refine GW.block ?_
  refine GW.loop4 (fun (i : Nat) (x : ByteArray) (C : Array Value) (ps : List ByteArray) => [(0, .string x), (1, .string sep), (2, .int .i64 0), (3, .int .i64 (dashes (bs s) : Nat)), (9, .slice (some ⟨b31, 0, none⟩) (dashes (bs s) + 1) (dashes (bs s) + 1)), (10, .int .i64 i)]) (fun (i : Nat) (x : ByteArray) (C : Array Value) (ps : List ByteArray) => (b31, .exact (.cells C 9 (0, 0))) :: G) (fun i : Nat => dashes (bs s) - i) (fun (i : Nat) (x : ByteArray) (C : Array Value) (ps : List ByteArray) => SpI s x ps i C) 0 (s) (C31) ([])
   (keepG) (Hs.refl _) (SpI.zero hm (by omega)) ?_
  rintro i x C ps hI
  have hcnt := hI.cnt
  have hsz := hI.size
  have hlen := hI.len
  have hxs := hI.small
  refine GW.seq ?_
  refine GW.seq ?_
  refine GW.region ?_
  refine R.move ⟨Z,Z,Z,Z⟩ Z ?_
  refine R.move ⟨Z,Z,Z,Z⟩ Z ?_
  refine R.lss ⟨Z,Z,Z,Z⟩ Z Z ?_
  refine GOps.nil ?_
  refine GW.ite Z (fun hc2 => ?_) (fun hc2 => ?_)
  ·try simp only [dcQ] at hc2
   refine GW.skip ?_
   refine GW.block ?_
   refine GW.seq ?_
   refine GW.region ?_
   refine R.move ⟨Z,Z,Z,Z⟩ Z ?_
   refine R.move ⟨Z,Z,Z,Z⟩ Z ?_
   refine R.call ⟨Z,Z,Z,Z⟩ Z (vs := [_, _]) Z ((str_Index _ _ _ _ h1 h2).mono ?_)
   rintro _ _ ⟨rfl, rfl⟩
   refine R.assign ⟨Z,Z,Z,Z⟩ Z ?_
   refine GOps.nil ?_
   refine GW.seq ?_
   refine GW.seq ?_
   refine GW.region ?_
   refine R.move ⟨Z,Z,Z,Z⟩ Z ?_
   refine R.lss ⟨Z,Z,Z,Z⟩ Z Z ?_
   refine GOps.nil ?_
   refine GW.ite Z (fun hc3 => ?_) (fun hc3 => ?_)
   ·try simp only [dcQ] at hc3
    have := dashAt_pos (s := x) (by have := hI.cnt; omega)
    exfalso; omega
   ·try simp only [dcQ] at hc3
    obtain ⟨m, hmm⟩ : ∃ m : Nat, dashAt x = m := ⟨(dashAt x).toNat, by omega⟩
    obtain ⟨g1, g2, g3, g4⟩ := cut_dash hmm
    refine GW.skip ?_
    refine GW.seq ?_
    refine GW.region ?_
    refine R.move ⟨Z,Z,Z,Z⟩ Z ?_
    refine R.move ⟨Z,Z,Z,Z⟩ Z ?_
    refine R.move ⟨Z,Z,Z,Z⟩ Z ?_
    refine R.move ⟨Z,Z,Z,Z⟩ Z ?_
    refine R.move ⟨Z,Z,Z,Z⟩ Z ?_
    refine R.add (r := (m : Int)) ⟨Z,Z,Z,Z⟩ Z Z (by rw [hmm, wrap64_id (by omega) (by omega)]; omega) ?_
    refine R.sliceStrH ⟨Z,Z,Z,Z⟩ Z Z Tryz.underlying9 (by omega) (by omega) ?_
    refine R.indexAddrS ⟨Z,Z,Z,Z⟩ Z Z Tryz.underlying61 Tryz.sizeOf9 (by omega) (by omega) ?_
    refine R.store (G1 := []) Z Z Z Z Z Tryz.sizeOf9 Z Z (Z) (by have := hI.size; have := hI.cnt; omega) ?_
    refine GOps.nil ?_
    refine GW.seq ?_
    refine GW.region ?_
    refine R.move ⟨Z,Z,Z,Z⟩ Z ?_
    refine R.move ⟨Z,Z,Z,Z⟩ Z ?_
    refine R.move ⟨Z,Z,Z,Z⟩ Z ?_
    refine R.lenStr ⟨Z,Z,Z,Z⟩ Z Z Tryz.underlying9 ?_
    refine R.add (r := ((m + 1 : Nat) : Int)) ⟨Z,Z,Z,Z⟩ Z Z (by rw [hmm, wrap64_id (by omega) (by omega)]; omega) ?_
    refine R.sliceStrL ⟨Z,Z,Z,Z⟩ Z Z Tryz.underlying9 (by omega) (by omega) ?_
    refine R.assign ⟨Z,Z,Z,Z⟩ Z ?_
    refine GOps.nil ?_
    refine GW.region ?_
    refine R.move ⟨Z,Z,Z,Z⟩ Z ?_
    refine R.add (r := ((i + 1 : Nat) : Int)) ⟨Z,Z,Z,Z⟩ Z Z (by rw [wrap64_id (by omega) (by omega)]; omega) ?_
    refine R.assign ⟨Z,Z,Z,Z⟩ Z ?_
    refine GOps.nil ?_
    exact ⟨i + 1, _, _, ps ++ [x.extract 0 (m : Int).toNat], by omega, hI.step hmm, rfl, keepG, by first | exact Hs.refl _ | exact Hs.tl _ | exact Hs.tl2 _ _⟩
  ·try simp only [dcQ] at hc2
   refine GW.exit ?_
   refine GW.seq ?_
   refine GW.region ?_
   refine R.move ⟨Z,Z,Z,Z⟩ Z ?_
   refine R.move ⟨Z,Z,Z,Z⟩ Z ?_
   refine R.move ⟨Z,Z,Z,Z⟩ Z ?_
   refine R.indexAddrS ⟨Z,Z,Z,Z⟩ Z Z Tryz.underlying61 Tryz.sizeOf9 (by omega) (by omega) ?_
   refine R.store (G1 := []) Z Z Z Z Z Tryz.sizeOf9 Z Z (Z) (by have := hI.size; have := hI.cnt; omega) ?_
   refine GOps.nil ?_
   refine GW.seq ?_
   refine GW.region ?_
   refine R.move ⟨Z,Z,Z,Z⟩ Z ?_
   refine R.move ⟨Z,Z,Z,Z⟩ Z ?_
   refine R.add (r := ((i + 1 : Nat) : Int)) ⟨Z,Z,Z,Z⟩ Z Z (by rw [wrap64_id (by omega) (by omega)]; omega) ?_
   refine R.sliceSH ⟨Z,Z,Z,Z⟩ Z Z Tryz.underlying61 Tryz.sizeOf9 (fun a h => by cases h; rfl) (by omega) (by omega) (Z) ?_
   refine R.assign ⟨Z,Z,Z,Z⟩ Z ?_
   refine GOps.nil ?_
   refine GW.ret (Out.of (Res.one Z Z) (Hs.refl _) ⟨ps, x, b31, dashes (bs s) + 1, _, ?_, hI.join, hI.no, no_dash (by have := hI.cnt; omega), hI.pc.push x _ (by have := hI.len; omega) (by have := hI.size; have := hI.cnt; omega), Z⟩)
   rw [← hI.len]; rfl
theorem str_Split (w0 : World) (G : Hp) (s sep : ByteArray) (h1 : sep.size = 1) (h2 : (bs sep)[0]? = some 45) (hm : s.size ≤ 1048576) : GC Tryz.prog w0 123 #[.string s, .string sep] (fun v G' => ∃ (ps : List ByteArray) (x : ByteArray) (b cap : Nat) (C : Array Value), v = .slice (some ⟨b, 0, none⟩) (ps.length + 1) cap ∧ bs s = joinE ps (bs x) ∧ (∀ p ∈ ps, 45 ∉ bs p) ∧ 45 ∉ bs x ∧ PcAt C (ps ++ [x]) ∧ (b, .exact (.cells C 9 (0, 0))) :: G = G') G := by
 refine GC.body (args := [.string s, .string sep]) Tryz.func123 rfl (by kernel_rfl) rfl ?_
 refine GW.seq ?_
 refine GW.region ?_
 refine R.assign ⟨Z,Z,Z,Z⟩ Z ?_
 refine GOps.nil ?_
 refine GW.seq ?_
 refine GW.region ?_
 refine R.move ⟨Z,Z,Z,Z⟩ Z ?_
 refine R.move ⟨Z,Z,Z,Z⟩ Z ?_
 refine R.call ⟨Z,Z,Z,Z⟩ Z (vs := [_, _, _, _]) Z ((str_genSplit _ _ _ _ h1 h2 hm).mono ?_)
 rintro _ _ ⟨ps, x, b, cap, C, rfl, e1, e2, e3, e4, rfl⟩
 refine R.assign ⟨Z,Z,Z,Z⟩ Z ?_
 refine GOps.nil ?_
 exact GW.ret (Out.of (Res.one rfl rfl) (Hs.refl _) ⟨ps, x, b, cap, C, rfl, e1, e2, e3, e4, rfl⟩)
end Go.Proofs.YtfddkcmooommeaaGreatDoor.Gl
end
section
namespace Go.Proofs.YtfddkcmooommeaaGreatDoor.Gl
open Go.RowKit Go.Shelf
set_option linter.unusedVariables false
set_option linter.unnecessarySimpa false
set_option linter.unusedSimpArgs false
attribute [-simp] List.getD_eq_getElem?_getD
def isSm (c : Nat) : Bool := decide (97 ≤ c) && decide (c ≤ 122)
def okc (first : Bool) (c : Nat) : Bool := isSm c || (!first && isDig c)
def tagG : Bool → Bool → List Nat → Bool
 | _, start, [] => !start
 | first, start, c :: r => if c = 45 then !start && tagG false true r else okc first c && tagG first false r
def tagS (l : List Nat) : Bool := tagG true true l && decide (l.length ≤ 35)
def pieceOk (first : Bool) (p : List Nat) : Bool := !p.isEmpty && p.all (okc first)
theorem tagG_piece (first : Bool) (r : List Nat) : ∀ (p : List Nat) (start : Bool), 45 ∉ p → tagG first start (p ++ 45 :: r) = ((!(start && p.isEmpty)) && p.all (okc first) && tagG false true r)
 | [], start, _ => by simp [tagG]
 | c :: p, start, h => by
  have hc : c ≠ 45 := fun e => h (by simp [e])
  have hp : 45 ∉ p := fun e => h (by simp [e])
  rw [List.cons_append, tagG, if_neg hc, tagG_piece first r p false hp]
  simp [Bool.and_assoc]
theorem tagG_last (first : Bool) : ∀ (p : List Nat) (start : Bool), 45 ∉ p → tagG first start p = ((!(start && p.isEmpty)) && p.all (okc first))
 | [], start, _ => by simp [tagG]
 | c :: p, start, h => by
  have hc : c ≠ 45 := fun e => h (by simp [e])
  have hp : 45 ∉ p := fun e => h (by simp [e])
  rw [tagG, if_neg hc, tagG_last first p false hp]
  simp
def piecesOk : Bool → List ByteArray → Bool
 | _, [] => true
 | first, p :: r => pieceOk first (bs p) && piecesOk false r
theorem tagG_join (x : ByteArray) (hx : 45 ∉ bs x) : ∀ (ps : List ByteArray) (first : Bool), (∀ p ∈ ps, 45 ∉ bs p) → tagG first true (joinE ps (bs x)) = piecesOk first (ps ++ [x])
 | [], first, _ => by
  simp only [joinE, List.flatMap_nil, List.nil_append, piecesOk, Bool.and_true]
  rw [tagG_last first _ _ hx]
  simp [pieceOk]
 | p :: ps, first, h => by
  have e : joinE (p :: ps) (bs x) = bs p ++ 45 :: joinE ps (bs x) := by simp [joinE]
  rw [e, tagG_piece first _ _ _ (h p (by simp)), tagG_join x hx ps false (fun q hq => h q (by simp [hq]))]
  simp [piecesOk, pieceOk]
theorem all_allTo {α : Type} (f : α → Bool) (z : α) : ∀ (l : List α), l.all f = allTo (fun k => f (l.getD k z)) l.length
 | [] => rfl
 | c :: l => by
  have ih := all_allTo f z l
  rw [List.all_cons, ih]
  unfold allTo
  rw [List.length_cons, List.range_succ_eq_map, List.all_cons, List.all_map]
  rfl
theorem pieces_allTo (qs : List ByteArray) : ∀ first, piecesOk first qs = allTo (fun j => pieceOk (first && decide (j = 0)) (bs (qs.getD j ByteArray.empty))) qs.length := by
 induction qs with
 | nil => intro first; rfl
 | cons p qs ih =>
  intro first
  simp only [piecesOk]
  rw [ih false]
  unfold allTo
  rw [List.length_cons, List.range_succ_eq_map, List.all_cons, List.all_map]
  simp only [List.getD_cons_zero, decide_true, Bool.and_true, Function.comp_def, List.getD_cons_succ, Bool.false_and]
  congr 1
  apply List.all_congr rfl
  intro j
  simp
theorem piece_no1 {p : ByteArray} {first : Bool} (h : bs p = []) : pieceOk first (bs p) = false := by rw [h]; rfl
theorem piece_no2 {p : ByteArray} {first : Bool} {k c : Nat} (hk : (bs p)[k]? = some c) (h : okc first c = false) : pieceOk first (bs p) = false := by
 have : (bs p).all (okc first) = false := List.all_eq_false.2 ⟨c, List.mem_of_getElem? hk, by simp [h]⟩
 rw [pieceOk, this]
 simp
theorem piece_yes {p : ByteArray} {first : Bool} (h : (p.toList == (ByteArray.mk #[]).toList) = false) (h1 : allTo (fun k => okc first ((bs p).getD k 0)) p.size = true) : pieceOk first (bs p) = true := by
 have hp := str_pos h
 rw [pieceOk, all_allTo _ 0, bs_length, h1]
 cases hb : bs p with
 | nil => have := bs_length p; rw [hb] at this; simp at this; omega
 | cons c l => rfl
theorem tag_no {s x : ByteArray} {ps qs : List ByteArray} {i : Nat} {p : ByteArray} (e1 : bs s = joinE ps (bs x)) (e2 : ∀ p ∈ ps, 45 ∉ bs p) (e3 : 45 ∉ bs x) (hqs : ps ++ [x] = qs) (hp : qs[i]? = some p) (h : pieceOk (decide (i = 0)) (bs p) = false) : tagS (bs s) = false := by
 rw [tagS, e1, tagG_join x e3 ps true e2, hqs, pieces_allTo, allTo_false (i := i) (List.getElem?_eq_some_iff.1 hp).1 (by simpa [List.getD, hp] using h)]
 rfl
theorem join_len (ps : List ByteArray) (l : List Nat) : ps.length ≤ (joinE ps l).length := by
 induction ps with
 | nil => simp
 | cons q ps ih =>
  have e : joinE (q :: ps) l = bs q ++ 45 :: joinE ps l := by simp [joinE]
  rw [e, List.length_append, List.length_cons, List.length_cons]
  omega
theorem piece_size {s x : ByteArray} {ps qs : List ByteArray} {i : Nat} {p : ByteArray} {m : Nat} (hm : s.size ≤ m) (e1 : bs s = joinE ps (bs x)) (hqs : ps ++ [x] = qs) (hp : qs[i]? = some p) : p.size ≤ m := by
 have h : ∀ ps : List ByteArray, p ∈ ps ++ [x] → (bs p).length ≤ (joinE ps (bs x)).length := by
  intro ps
  induction ps with
  | nil => intro h; simp at h; subst h; simp [joinE]
  | cons q ps ih =>
   intro h
   have e : joinE (q :: ps) (bs x) = bs q ++ 45 :: joinE ps (bs x) := by simp [joinE]
   rw [e, List.length_append, List.length_cons]
   rw [List.cons_append, List.mem_cons] at h
   rcases h with rfl | h
   ·omega
   ·have := ih h
    omega
 have h1 := h ps (by rw [hqs]; exact List.mem_of_getElem? hp)
 rw [← e1, bs_length, bs_length] at h1
 omega
theorem tag_end {s x : ByteArray} {ps qs : List ByteArray} (e1 : bs s = joinE ps (bs x)) (e2 : ∀ p ∈ ps, 45 ∉ bs p) (e3 : 45 ∉ bs x) (hqs : ps ++ [x] = qs) (h : allTo (fun j => pieceOk (decide (j = 0)) (bs (qs.getD j ByteArray.empty))) qs.length = true) : tagS (bs s) = decide (s.size ≤ 35) := by
 have e : tagG true true (bs s) = true := by
  rw [e1, tagG_join x e3 ps true e2, hqs, pieces_allTo]
  simpa using h
 rw [tagS, e, bs_length]
 rfl
theorem term_tag (w0 : World) (G : Hp) (s : ByteArray) (hm : s.size ≤ 1048576) : GC Tryz.prog w0 104 #[.string s] (fun v G' => v = .bool (tagS (bs s)) ∧ G = G') G := by
 refine GC.body (args := [.string s]) Tryz.func104 rfl (by kernel_rfl) rfl ?_
 refine GW.seq ?_
 refine GW.region ?_
 refine R.assign ⟨Z,Z,Z,Z⟩ Z ?_
 refine GOps.nil ?_
 refine GW.seq ?_
 refine GW.seq ?_
 refine GW.region ?_
 refine R.move ⟨Z,Z,Z,Z⟩ Z ?_
 refine R.call ⟨Z,Z,Z,Z⟩ Z (vs := [_, _]) Z ((str_Split _ _ _ _ Z Z hm).mono ?_)
 rintro _ _ ⟨ps, x, b, cap, C, rfl, e1, e2, e3, e4, rfl⟩
 generalize hqs : ps ++ [x] = qs at e4
 have hql : qs.length = ps.length + 1 := by rw [← hqs]; simp
 have hpl : ps.length ≤ 1048576 := by have := join_len ps (bs x); rw [← e1, bs_length] at this; omega
 refine R.lenS ⟨Z,Z,Z,Z⟩ Z Z Tryz.underlying61 ?_
 refine R.move ⟨Z,Z,Z,Z⟩ Z ?_
 refine GOps.nil ?_
 refine GW.block ?_
 refine GW.loopI (fun i : Nat => [(0, .string s), (8, .slice (some ⟨b, 0, none⟩) (ps.length + 1) cap), (9, .int .i64 (ps.length + 1 : Nat)), (10, .int .i64 i)]) (fun i => (b, .exact (.cells C 9 (0, 0))) :: G) (fun i => ps.length + 1 - i) (fun i => i ≤ ps.length + 1 ∧ allTo (fun j => pieceOk (decide (j = 0)) (bs (qs.getD j ByteArray.empty))) i = true) 0
  (keepG) (Hs.refl _) (⟨by omega, rfl⟩) ?_
 rintro i ⟨hi, h0⟩
 obtain ⟨p, hp⟩ : ∃ p, i < ps.length + 1 → qs[i]? = some p := by
  rcases Nat.lt_or_ge i (ps.length + 1) with h | h
  ·exact ⟨qs[i], fun _ => List.getElem?_eq_getElem (by omega)⟩
  ·exact ⟨s, fun h2 => absurd h2 (by omega)⟩
 have hpz : i < ps.length + 1 → p.size ≤ 1048576 := fun h => piece_size hm e1 hqs (hp h)
 refine GW.seq ?_
 refine GW.region ?_
 refine R.lss ⟨Z,Z,Z,Z⟩ Z Z ?_
 refine GOps.nil ?_
 refine GW.seq ?_
 refine GW.ite Z (fun hc1 => ?_) (fun hc1 => ?_)
 ·try simp only [dcQ] at hc1
  refine GW.skip ?_
  refine GW.seq ?_
  refine GW.block ?_
  refine GW.seq ?_
  refine GW.region ?_
  refine R.move ⟨Z,Z,Z,Z⟩ Z ?_
  refine R.indexAddrS ⟨Z,Z,Z,Z⟩ Z Z Tryz.underlying61 Tryz.sizeOf9 (by omega) (by omega) ?_
  refine R.load1 ⟨Z,Z,Z,Z⟩ Z Tryz.underlying9 Z (.own' List.mem_cons_self (by simpa using e4 i p (hp (by omega)))) ?_
  refine R.assign ⟨Z,Z,Z,Z⟩ Z ?_
  refine R.assign ⟨Z,Z,Z,Z⟩ Z ?_
  refine GOps.nil ?_
  refine GW.seq ?_
  refine GW.seq ?_
  refine GW.region ?_
  refine R.move ⟨Z,Z,Z,Z⟩ Z ?_
  refine R.eqS ⟨Z,Z,Z,Z⟩ Z Z ?_
  refine GOps.nil ?_
  refine GW.ite Z (fun hc2 => ?_) (fun hc2 => ?_)
  ·try simp only [dcQ] at hc2
   refine GW.seq ?_
   refine GW.region ?_
   refine R.assign ⟨Z,Z,Z,Z⟩ Z ?_
   refine GOps.nil ?_
   refine GW.ret (Out.of (Res.one Z Z) hsA ⟨?_, Z⟩)
   refine vb ?_; first | exact (tag_no e1 e2 e3 hqs (hp (by omega)) (piece_no1 (str_nil (by assumption)))).symm | exact (tag_no e1 e2 e3 hqs (hp (by omega)) (piece_no2 (k := k) hx1 (by assumption))).symm | (rw [tag_end e1 e2 e3 hqs (by rw [hql, show ps.length + 1 = i by omega]; exact h0), Bool.eq_iff_iff]; simp; omega)
  ·try simp only [dcQ] at hc2
   refine GW.skip ?_
   refine GW.seq ?_
   refine GW.region ?_
   refine R.move ⟨Z,Z,Z,Z⟩ Z ?_
   refine R.lenStr ⟨Z,Z,Z,Z⟩ Z Z Tryz.underlying9 ?_
   refine R.move ⟨Z,Z,Z,Z⟩ Z ?_
   refine GOps.nil ?_
   refine GW.block ?_
   refine GW.loopI (fun k : Nat => [(0, .string s), (3, .int .i64 i), (4, .string p), (8, .slice (some ⟨b, 0, none⟩) (ps.length + 1) cap), (9, .int .i64 (ps.length + 1 : Nat)), (10, .int .i64 i), (18, .int .i64 p.size), (19, .int .i64 k)]) (fun k => (b, .exact (.cells C 9 (0, 0))) :: G) (fun k => p.size - k) (fun k => k ≤ p.size ∧ allTo (fun k => okc (decide (i = 0)) ((bs p).getD k 0)) k = true) 0
    (keepG) (Hs.refl _) (⟨by omega, rfl⟩) ?_
   rintro k ⟨hk, hk0⟩
   refine GW.seq ?_
   refine GW.region ?_
   refine R.lss ⟨Z,Z,Z,Z⟩ Z Z ?_
   refine GOps.nil ?_
   refine GW.seq ?_
   refine GW.ite Z (fun hc3 => ?_) (fun hc3 => ?_)
   ·try simp only [dcQ] at hc3
    refine GW.skip ?_
    refine GW.seq ?_
    refine GW.block ?_
    refine GW.seq ?_
    refine GW.region ?_
    refine R.move ⟨Z,Z,Z,Z⟩ Z ?_
    refine R.assign ⟨Z,Z,Z,Z⟩ Z ?_
    refine GOps.nil ?_
    refine GW.seq ?_
    refine GW.region ?_
    refine R.move ⟨Z,Z,Z,Z⟩ Z ?_
    refine R.move ⟨Z,Z,Z,Z⟩ Z ?_
    refine R.indexStrA ⟨Z,Z,Z,Z⟩ Z Z Tryz.underlying9 (by omega) (by omega) fun c1 hx1 hb1 => ?_   -- "term.go:51" ['t22', 't23']
    refine R.assign ⟨Z,Z,Z,Z⟩ Z ?_
    refine GOps.nil ?_
    refine GW.cutS 39 (!(okc (decide (i = 0)) c1)) [(0, .string s), (3, .int .i64 i), (4, .string p), (8, .slice (some ⟨b, 0, none⟩) (ps.length + 1) cap), (9, .int .i64 (ps.length + 1 : Nat)), (10, .int .i64 i), (18, .int .i64 p.size), (19, .int .i64 k)] ?_ ?_
    ·refine R.move ⟨Z,Z,Z,Z⟩ Z ?_
     refine R.lss ⟨Z,Z,Z,Z⟩ Z Z ?_
     refine R.move ⟨Z,Z,Z,Z⟩ Z ?_
     refine GOps.caseB 27 Z (fun hg4 => ?_) (fun hg4 => ?_)
     ·try simp only [dcQ] at hg4
      refine GOps.skip Z Z Z ?_
      refine GOps.skip Z Z Z ?_
      refine R.pick_t ⟨Z,Z,Z,Z⟩ Z Z ?_
      refine R.move ⟨Z,Z,Z,Z⟩ Z ?_
      refine R.move ⟨Z,Z,Z,Z⟩ Z ?_
      refine R.eqI ⟨Z,Z,Z,Z⟩ Z Z ?_
      refine R.move ⟨Z,Z,Z,Z⟩ Z ?_
      refine GOps.caseB 34 Z (fun hg5 => ?_) (fun hg5 => ?_)
      ·try simp only [dcQ] at hg5
       refine GOps.skip Z Z Z ?_
       refine GOps.skip Z Z Z ?_
       refine GOps.skip Z Z Z ?_
       refine R.pick_t ⟨Z,Z,Z,Z⟩ Z Z ?_
       refine R.pick_t ⟨Z,Z,Z,Z⟩ Z Z ?_
       refine GOps.nil ?_
       exact ⟨rfl, rfl, keepG, by first | exact Hs.refl _ | exact Hs.tl _, vbs (by cases hd : isDig c1 <;> (rw [Bool.eq_iff_iff]; simp [okc, isSm, hd]; try omega))⟩
      ·try simp only [dcQ] at hg5
       refine R.move ⟨Z,Z,Z,Z⟩ Z ?_
       refine R.call ⟨Z,Z,Z,Z⟩ Z (vs := [_]) Z ((term_digit _ _ _).mono ?_)
       rintro _ _ ⟨rfl, rfl⟩
       refine R.not ⟨Z,Z,Z,Z⟩ Z ?_
       refine R.pick_f ⟨Z,Z,Z,Z⟩ Z Z ?_
       refine R.pick_t ⟨Z,Z,Z,Z⟩ Z Z ?_
       refine GOps.nil ?_
       exact ⟨rfl, rfl, keepG, by first | exact Hs.refl _ | exact Hs.tl _, vbs (by cases hd : isDig c1 <;> (rw [Bool.eq_iff_iff]; simp [okc, isSm, hd]; try omega))⟩
     ·try simp only [dcQ] at hg4
      refine R.move ⟨Z,Z,Z,Z⟩ Z ?_
      refine R.gtr ⟨Z,Z,Z,Z⟩ Z Z ?_
      refine R.pick_f ⟨Z,Z,Z,Z⟩ Z Z ?_
      refine R.move ⟨Z,Z,Z,Z⟩ Z ?_
      refine GOps.caseB 31 Z (fun hg6 => ?_) (fun hg6 => ?_)
      ·try simp only [dcQ] at hg6
       refine R.move ⟨Z,Z,Z,Z⟩ Z ?_
       refine R.eqI ⟨Z,Z,Z,Z⟩ Z Z ?_
       refine R.move ⟨Z,Z,Z,Z⟩ Z ?_
       refine GOps.caseB 34 Z (fun hg7 => ?_) (fun hg7 => ?_)
       ·try simp only [dcQ] at hg7
        refine GOps.skip Z Z Z ?_
        refine GOps.skip Z Z Z ?_
        refine GOps.skip Z Z Z ?_
        refine R.pick_t ⟨Z,Z,Z,Z⟩ Z Z ?_
        refine R.pick_t ⟨Z,Z,Z,Z⟩ Z Z ?_
        refine GOps.nil ?_
        exact ⟨rfl, rfl, keepG, by first | exact Hs.refl _ | exact Hs.tl _, vbs (by cases hd : isDig c1 <;> (rw [Bool.eq_iff_iff]; simp [okc, isSm, hd]; try omega))⟩
       ·try simp only [dcQ] at hg7
        refine R.move ⟨Z,Z,Z,Z⟩ Z ?_
        refine R.call ⟨Z,Z,Z,Z⟩ Z (vs := [_]) Z ((term_digit _ _ _).mono ?_)
        rintro _ _ ⟨rfl, rfl⟩
        refine R.not ⟨Z,Z,Z,Z⟩ Z ?_
        refine R.pick_f ⟨Z,Z,Z,Z⟩ Z Z ?_
        refine R.pick_t ⟨Z,Z,Z,Z⟩ Z Z ?_
        refine GOps.nil ?_
        exact ⟨rfl, rfl, keepG, by first | exact Hs.refl _ | exact Hs.tl _, vbs (by cases hd : isDig c1 <;> (rw [Bool.eq_iff_iff]; simp [okc, isSm, hd]; try omega))⟩
      ·try simp only [dcQ] at hg6
       refine GOps.skip Z Z Z ?_
       refine GOps.skip Z Z Z ?_
       refine GOps.skip Z Z Z ?_
       refine GOps.skip Z Z Z ?_
       refine GOps.skip Z Z Z ?_
       refine GOps.skip Z Z Z ?_
       refine GOps.skip Z Z Z ?_
       refine R.pick_f ⟨Z,Z,Z,Z⟩ Z Z ?_
       refine GOps.nil ?_
       exact ⟨rfl, rfl, keepG, by first | exact Hs.refl _ | exact Hs.tl _, vbs (by cases hd : isDig c1 <;> (rw [Bool.eq_iff_iff]; simp [okc, isSm, hd]; try omega))⟩
    ·refine GW.ite Z (fun hc8 => ?_) (fun hc8 => ?_)
     ·try simp only [dcQ] at hc8
      refine GW.seq ?_
      refine GW.region ?_
      refine R.assign ⟨Z,Z,Z,Z⟩ Z ?_
      refine GOps.nil ?_
      refine GW.ret (Out.of (Res.one Z Z) hsA ⟨?_, Z⟩)
      refine vb ?_; first | exact (tag_no e1 e2 e3 hqs (hp (by omega)) (piece_no1 (str_nil (by assumption)))).symm | exact (tag_no e1 e2 e3 hqs (hp (by omega)) (piece_no2 (k := k) hx1 (by assumption))).symm | (rw [tag_end e1 e2 e3 hqs (by rw [hql, show ps.length + 1 = i by omega]; exact h0), Bool.eq_iff_iff]; simp; omega)
     ·try simp only [dcQ] at hc8
      refine GW.skip ?_
      refine GW.region ?_
      refine R.add (r := _) ⟨Z,Z,Z,Z⟩ Z Z (wrap64_id (by omega) (by omega)) ?_
      refine R.move ⟨Z,Z,Z,Z⟩ Z ?_
      refine GOps.nil ?_
      exact ⟨k + 1, by omega, ⟨by omega, allTo_succ hk0 (by simp only [getD_of (i := k) hx1]; assumption)⟩, rfl, keepG, by first | exact Hs.refl _ | exact Hs.tl _ | exact Hs.tl2 _ _⟩
   ·try simp only [dcQ] at hc3
    refine GW.exit ?_
    refine GW.region ?_
    refine R.add (r := (((i + 1) : Nat) : Int)) ⟨Z,Z,Z,Z⟩ Z Z (by rw [wrap64_id (by omega) (by omega)]; omega) ?_
    refine R.move ⟨Z,Z,Z,Z⟩ Z ?_
    refine GOps.nil ?_
    exact ⟨i + 1, by omega, ⟨by omega, allTo_succ h0 (by simp only [List.getD, hp (by omega), Option.getD_some]; exact piece_yes (by assumption) (by rw [show p.size = k by omega]; assumption))⟩, rfl, keepG, by first | exact Hs.refl _ | exact Hs.tl _ | exact Hs.tl2 _ _⟩
 ·try simp only [dcQ] at hc1
  refine GW.exit ?_
  refine GW.seq ?_
  refine GW.region ?_
  refine R.move ⟨Z,Z,Z,Z⟩ Z ?_
  refine R.lenStr ⟨Z,Z,Z,Z⟩ Z Z Tryz.underlying9 ?_
  refine R.leq ⟨Z,Z,Z,Z⟩ Z Z ?_
  refine R.assign ⟨Z,Z,Z,Z⟩ Z ?_
  refine GOps.nil ?_
  refine GW.ret (Out.of (Res.one Z Z) hsA ⟨?_, Z⟩)
  refine vb ?_; first | exact (tag_no e1 e2 e3 hqs (hp (by omega)) (piece_no1 (str_nil (by assumption)))).symm | exact (tag_no e1 e2 e3 hqs (hp (by omega)) (piece_no2 (k := k) hx1 (by assumption))).symm | (rw [tag_end e1 e2 e3 hqs (by rw [hql, show ps.length + 1 = i by omega]; exact h0), Bool.eq_iff_iff]; simp; omega)
end Go.Proofs.YtfddkcmooommeaaGreatDoor.Gl
end
section
namespace Go.Proofs.YtfddkcmooommeaaGreatDoor.Gl
open Go.RowKit Go.Shelf
set_option linter.unusedVariables false
set_option linter.unnecessarySimpa false
set_option linter.unusedSimpArgs false
attribute [-simp] List.getD_eq_getElem?_getD
def startB (l : List Nat) (i : Nat) : Bool := decide (i = 0) || decide (l.getD (i - 1) 0 = 45)
theorem tag_len {s : ByteArray} (h : s.size < 1 ∨ 35 < s.size) : tagS (bs s) = false := by
 unfold tagS
 rw [bs_length]
 rcases h with h | h
 ·have : bs s = [] := size_zero.1 (by omega)
  rw [this]; rfl
 ·rw [decide_eq_false (show ¬ s.size ≤ 35 by omega)]; simp
theorem tag_first {l : List Nat} (h : l[0]? = some 45) : tagS l = false := by
 cases l with
 | nil => cases h
 | cons c l =>
  simp at h
  subst h
  simp [tagS, tagG]
theorem tagG_end45 : ∀ (l : List Nat) (first start : Bool), l.getLast? = some 45 → tagG first start l = false
 | [], _, _, h => by cases h
 | [c], first, start, h => by
  simp at h
  subst h
  simp [tagG]
 | c :: d :: l, first, start, h => by
  have h' : (d :: l).getLast? = some 45 := by simpa [List.getLast?_cons] using h
  rw [tagG]
  split
  ·rw [tagG_end45 (d :: l) false true h']; simp
  ·rw [tagG_end45 (d :: l) first false h']; simp
theorem tag_last {l : List Nat} (h : l[l.length - 1]? = some 45) : tagS l = false := by
 unfold tagS
 rw [tagG_end45 l true true (by rw [List.getLast?_eq_getElem?]; exact h)]
 rfl
theorem tag_step {l : List Nat} {i c : Nat} {first start : Bool} (hc : l[i]? = some c) : tagG first start (l.drop i) = if c = 45 then !start && tagG false true (l.drop (i + 1)) else okc first c && tagG first false (l.drop (i + 1)) := by
 have hlt := (List.getElem?_eq_some_iff.1 hc).1
 have h2 := (List.getElem?_eq_some_iff.1 hc).2
 rw [List.drop_eq_getElem_cons hlt, h2, tagG]
def TgI (s : ByteArray) (i : Nat) (first : Bool) : Prop := i ≤ s.size ∧ tagG true true (bs s) = tagG first (startB (bs s) i) ((bs s).drop i)
theorem TgI.zero (s : ByteArray) : TgI s 0 true := ⟨by omega, rfl⟩
theorem startB_succ {l : List Nat} {i c : Nat} (hc : l[i]? = some c) : startB l (i + 1) = decide (c = 45) := by
 unfold startB
 rw [decide_eq_false (show ¬ i + 1 = 0 by omega), Nat.add_sub_cancel, getD_of hc]
 rfl
theorem TgI.dash {s : ByteArray} {i : Nat} {first : Bool} (h : TgI s i first) (hc : (bs s)[i]? = some 45) (hs : startB (bs s) i = false) : TgI s (i + 1) false := by
 have hlt := (List.getElem?_eq_some_iff.1 hc).1
 rw [bs_length] at hlt
 refine ⟨hlt, ?_⟩
 rw [h.2, tag_step hc, hs, startB_succ hc]
 simp
theorem TgI.char {s : ByteArray} {i c : Nat} {first : Bool} (h : TgI s i first) (hc : (bs s)[i]? = some c) (h45 : c ≠ 45) (ho : okc first c = true) : TgI s (i + 1) first := by
 have hlt := (List.getElem?_eq_some_iff.1 hc).1
 rw [bs_length] at hlt
 refine ⟨hlt, ?_⟩
 rw [h.2, tag_step hc, if_neg h45, ho, startB_succ hc, decide_eq_false h45]
 rfl
theorem TgI.noDash {s : ByteArray} {i : Nat} {first : Bool} (h : TgI s i first) (hc : (bs s)[i]? = some 45) (hs : startB (bs s) i = true) : tagS (bs s) = false := by
 unfold tagS
 rw [h.2, tag_step hc, hs, if_pos rfl]
 rfl
theorem TgI.noChar {s : ByteArray} {i c : Nat} {first : Bool} (h : TgI s i first) (hc : (bs s)[i]? = some c) (h45 : c ≠ 45) (ho : okc first c = false) : tagS (bs s) = false := by
 unfold tagS
 rw [h.2, tag_step hc, if_neg h45, ho]
 rfl
theorem TgI.yes {s : ByteArray} {i : Nat} {first : Bool} (h : TgI s i first) (hi : i = s.size) (h1 : 1 ≤ s.size) (h35 : s.size ≤ 35) {c : Nat} (hc : (bs s)[s.size - 1]? = some c) (h45 : c ≠ 45) : tagS (bs s) = true := by
 subst hi
 unfold tagS
 rw [h.2, List.drop_eq_nil_of_le (by rw [bs_length]; omega), bs_length, decide_eq_true h35]
 unfold startB
 rw [decide_eq_false (show ¬ s.size = 0 by omega), getD_of hc, decide_eq_false h45]
 rfl
theorem start_of {l : List Nat} {i c : Nat} (hi : 1 ≤ i) (hc : l[i - 1]? = some c) : startB l i = decide (c = 45) := by
 unfold startB
 rw [decide_eq_false (show ¬ i = 0 by omega), getD_of hc]
 rfl
theorem some_eq {α : Type} {x : Option α} {a b : α} (h : x = some a) (e : a = b) : x = some b := by rw [h, e]
theorem ref_tag (w0 : World) (G : Hp) (s : ByteArray) (hm : s.size ≤ 1048576) : GC Tryz.prog w0 68 #[.string s] (fun v G' => v = .bool (tagS (bs s)) ∧ G = G') G := by
 refine GC.body (args := [.string s]) Tryz.func68 rfl (by kernel_rfl) rfl ?_
 refine GW.seq ?_
 refine GW.region ?_
 refine R.assign ⟨Z,Z,Z,Z⟩ Z ?_
 refine GOps.nil ?_
 refine GW.seq ?_
 refine GW.seq ?_
 refine GW.region ?_
 refine R.move ⟨Z,Z,Z,Z⟩ Z ?_
 refine R.lenStr ⟨Z,Z,Z,Z⟩ Z Z Tryz.underlying9 ?_
 refine R.lss ⟨Z,Z,Z,Z⟩ Z Z ?_
 refine R.move ⟨Z,Z,Z,Z⟩ Z ?_
 refine GOps.caseB 9 Z (fun hg1 => ?_) (fun hg1 => ?_)
 ·try simp only [dcQ] at hg1
  refine GOps.skip Z Z Z ?_
  refine GOps.skip Z Z Z ?_
  refine GOps.skip Z Z Z ?_
  refine R.pick_t ⟨Z,Z,Z,Z⟩ Z Z ?_
  refine R.move ⟨Z,Z,Z,Z⟩ Z ?_
  refine GOps.skip Z Z Z ?_
  refine GOps.skip Z Z Z ?_
  refine GOps.skip Z Z Z ?_
  refine R.pick_t ⟨Z,Z,Z,Z⟩ Z Z ?_
  refine R.move ⟨Z,Z,Z,Z⟩ Z ?_
  refine GOps.skip Z Z Z ?_
  refine GOps.skip Z Z Z ?_
  refine GOps.skip Z Z Z ?_
  refine GOps.skip Z Z Z ?_
  refine GOps.skip Z Z Z ?_
  refine GOps.skip Z Z Z ?_
  refine R.pick_t ⟨Z,Z,Z,Z⟩ Z Z ?_
  refine GOps.nil ?_
  refine GW.cond_t Z ?_
  refine GW.seq ?_
  refine GW.region ?_
  refine R.assign ⟨Z,Z,Z,Z⟩ Z ?_
  refine GOps.nil ?_
  refine GW.ret (Out.of (Res.one Z Z) hsA ⟨?_, Z⟩)
  refine vb ?_; symm; first | exact tag_len (by omega) | exact tag_first (some_eq hx1 (by omega)) | exact tag_last (by rw [bs_length]; exact some_eq hx2 (by omega)) | exact hI.noDash (some_eq (hcx (by omega)) (by omega)) (by rw [start_of h1i hx6]; exact decide_eq_true (by omega)) | exact hI.noChar (hcx (by omega)) (by omega) (by assumption) | exact hI.yes (by omega) (by omega) (by omega) hx2 (by omega)
 ·try simp only [dcQ] at hg1
  refine R.move ⟨Z,Z,Z,Z⟩ Z ?_
  refine R.lenStr ⟨Z,Z,Z,Z⟩ Z Z Tryz.underlying9 ?_
  refine R.gtr ⟨Z,Z,Z,Z⟩ Z Z ?_
  refine R.pick_f ⟨Z,Z,Z,Z⟩ Z Z ?_
  refine R.move ⟨Z,Z,Z,Z⟩ Z ?_
  refine GOps.caseB 14 Z (fun hg2 => ?_) (fun hg2 => ?_)
  ·try simp only [dcQ] at hg2
   refine GOps.skip Z Z Z ?_
   refine GOps.skip Z Z Z ?_
   refine GOps.skip Z Z Z ?_
   refine R.pick_t ⟨Z,Z,Z,Z⟩ Z Z ?_
   refine R.move ⟨Z,Z,Z,Z⟩ Z ?_
   refine GOps.skip Z Z Z ?_
   refine GOps.skip Z Z Z ?_
   refine GOps.skip Z Z Z ?_
   refine GOps.skip Z Z Z ?_
   refine GOps.skip Z Z Z ?_
   refine GOps.skip Z Z Z ?_
   refine R.pick_t ⟨Z,Z,Z,Z⟩ Z Z ?_
   refine GOps.nil ?_
   refine GW.cond_t Z ?_
   refine GW.seq ?_
   refine GW.region ?_
   refine R.assign ⟨Z,Z,Z,Z⟩ Z ?_
   refine GOps.nil ?_
   refine GW.ret (Out.of (Res.one Z Z) hsA ⟨?_, Z⟩)
   refine vb ?_; symm; first | exact tag_len (by omega) | exact tag_first (some_eq hx1 (by omega)) | exact tag_last (by rw [bs_length]; exact some_eq hx2 (by omega)) | exact hI.noDash (some_eq (hcx (by omega)) (by omega)) (by rw [start_of h1i hx6]; exact decide_eq_true (by omega)) | exact hI.noChar (hcx (by omega)) (by omega) (by assumption) | exact hI.yes (by omega) (by omega) (by omega) hx2 (by omega)
  ·try simp only [dcQ] at hg2
   refine R.move ⟨Z,Z,Z,Z⟩ Z ?_
   refine R.indexStrA ⟨Z,Z,Z,Z⟩ Z Z Tryz.underlying9 (by omega) (by omega) fun c1 hx1 hb1 => ?_   -- "ref.go:60" ['t15', '0']
   refine R.eqI ⟨Z,Z,Z,Z⟩ Z Z ?_
   refine R.pick_f ⟨Z,Z,Z,Z⟩ Z Z ?_
   refine R.move ⟨Z,Z,Z,Z⟩ Z ?_
   refine GOps.caseB 19 Z (fun hg3 => ?_) (fun hg3 => ?_)
   ·try simp only [dcQ] at hg3
    refine GOps.skip Z Z Z ?_
    refine GOps.skip Z Z Z ?_
    refine GOps.skip Z Z Z ?_
    refine GOps.skip Z Z Z ?_
    refine GOps.skip Z Z Z ?_
    refine GOps.skip Z Z Z ?_
    refine R.pick_t ⟨Z,Z,Z,Z⟩ Z Z ?_
    refine GOps.nil ?_
    refine GW.cond_t Z ?_
    refine GW.seq ?_
    refine GW.region ?_
    refine R.assign ⟨Z,Z,Z,Z⟩ Z ?_
    refine GOps.nil ?_
    refine GW.ret (Out.of (Res.one Z Z) hsA ⟨?_, Z⟩)
    refine vb ?_; symm; first | exact tag_len (by omega) | exact tag_first (some_eq hx1 (by omega)) | exact tag_last (by rw [bs_length]; exact some_eq hx2 (by omega)) | exact hI.noDash (some_eq (hcx (by omega)) (by omega)) (by rw [start_of h1i hx6]; exact decide_eq_true (by omega)) | exact hI.noChar (hcx (by omega)) (by omega) (by assumption) | exact hI.yes (by omega) (by omega) (by omega) hx2 (by omega)
   ·try simp only [dcQ] at hg3
    refine R.move ⟨Z,Z,Z,Z⟩ Z ?_
    refine R.move ⟨Z,Z,Z,Z⟩ Z ?_
    refine R.lenStr ⟨Z,Z,Z,Z⟩ Z Z Tryz.underlying9 ?_
    refine R.sub (r := ((s.size - 1 : Nat) : Int)) ⟨Z,Z,Z,Z⟩ Z Z (by rw [wrap64_id (by omega) (by omega)]; omega) ?_
    refine R.indexStrA ⟨Z,Z,Z,Z⟩ Z Z Tryz.underlying9 (by omega) (by omega) fun c2 hx2 hb2 => ?_   -- "ref.go:60" ['t20', 't23']
    refine R.eqI ⟨Z,Z,Z,Z⟩ Z Z ?_
    refine R.pick_f ⟨Z,Z,Z,Z⟩ Z Z ?_
    refine GOps.nil ?_
    refine GW.ite Z (fun hc4 => ?_) (fun hc4 => ?_)
    ·try simp only [dcQ] at hc4
     refine GW.seq ?_
     refine GW.region ?_
     refine R.assign ⟨Z,Z,Z,Z⟩ Z ?_
     refine GOps.nil ?_
     refine GW.ret (Out.of (Res.one Z Z) hsA ⟨?_, Z⟩)
     refine vb ?_; symm; first | exact tag_len (by omega) | exact tag_first (some_eq hx1 (by omega)) | exact tag_last (by rw [bs_length]; exact some_eq hx2 (by omega)) | exact hI.noDash (some_eq (hcx (by omega)) (by omega)) (by rw [start_of h1i hx6]; exact decide_eq_true (by omega)) | exact hI.noChar (hcx (by omega)) (by omega) (by assumption) | exact hI.yes (by omega) (by omega) (by omega) hx2 (by omega)
    ·try simp only [dcQ] at hc4
     refine GW.skip ?_
     refine GW.seq ?_
     refine GW.region ?_
     refine R.assign ⟨Z,Z,Z,Z⟩ Z ?_
     refine GOps.nil ?_
     refine GW.seq ?_
     refine GW.seq ?_
     refine GW.region ?_
     refine R.assign ⟨Z,Z,Z,Z⟩ Z ?_
     refine GOps.nil ?_
     refine GW.block ?_
     refine GW.loop4 (fun (i : Nat) (first : Bool) (u1 : Unit) (u2 : Unit) => [(0, .string s), (3, .bool first), (4, .int .i64 i)]) (fun (i : Nat) (first : Bool) (u1 : Unit) (u2 : Unit) => G) (fun i : Nat => s.size - i) (fun (i : Nat) (first : Bool) (u1 : Unit) (u2 : Unit) => TgI s i first) 0 (true) (()) (())
      (keepG) (Hs.refl _) (TgI.zero s) ?_
     rintro i first u1 u2 hI
     have hi := hI.1
     obtain ⟨c, hcx, hcb⟩ : ∃ c, (i < s.size → (bs s)[i]? = some c) ∧ c < 256 := by
      rcases Nat.lt_or_ge i s.size with h | h
      ·obtain ⟨c, h1, h2⟩ := bs_some s i h
       exact ⟨c, fun _ => h1, h2⟩
      ·exact ⟨0, fun h2 => absurd h2 (by omega), by omega⟩
     refine GW.seq ?_
     refine GW.seq ?_
     refine GW.region ?_
     refine R.move ⟨Z,Z,Z,Z⟩ Z ?_
     refine R.move ⟨Z,Z,Z,Z⟩ Z ?_
     refine R.lenStr ⟨Z,Z,Z,Z⟩ Z Z Tryz.underlying9 ?_
     refine R.lss ⟨Z,Z,Z,Z⟩ Z Z ?_
     refine GOps.nil ?_
     refine GW.ite Z (fun hc5 => ?_) (fun hc5 => ?_)
     ·try simp only [dcQ] at hc5
      refine GW.skip ?_
      refine GW.seq ?_
      refine GW.block ?_
      refine GW.cutB 5 (isSm c) [(0, .string s), (3, .bool first), (4, .int .i64 i)] (G' := G) ?_ ?_
      ·refine R.move ⟨Z,Z,Z,Z⟩ Z ?_
       refine R.move ⟨Z,Z,Z,Z⟩ Z ?_
       refine R.indexStr ⟨Z,Z,Z,Z⟩ Z Z Tryz.underlying9 (by omega) (hcx (by omega)) ?_   -- "ref.go:65" ['t33', 't34']
       refine R.geq ⟨Z,Z,Z,Z⟩ Z Z ?_
       refine R.move ⟨Z,Z,Z,Z⟩ Z ?_
       refine GOps.caseB 37 Z (fun hg6 => ?_) (fun hg6 => ?_)
       ·try simp only [dcQ] at hg6
        refine R.move ⟨Z,Z,Z,Z⟩ Z ?_
        refine R.move ⟨Z,Z,Z,Z⟩ Z ?_
        refine R.indexStr ⟨Z,Z,Z,Z⟩ Z Z Tryz.underlying9 (by omega) (hcx (by omega)) ?_   -- "ref.go:65" ['t38', 't39']
        refine R.leq ⟨Z,Z,Z,Z⟩ Z Z ?_
        refine R.pick_t ⟨Z,Z,Z,Z⟩ Z Z ?_
        refine R.assign ⟨Z,Z,Z,Z⟩ Z ?_
        refine GOps.nil ?_
        exact ⟨rfl, rfl, keepG, by first | exact Hs.refl _ | exact Hs.tl _, vbs (by unfold isSm; rw [Bool.eq_iff_iff]; simp; omega)⟩
       ·try simp only [dcQ] at hg6
        refine GOps.skip Z Z Z ?_
        refine GOps.skip Z Z Z ?_
        refine GOps.skip Z Z Z ?_
        refine GOps.skip Z Z Z ?_
        refine R.pick_f ⟨Z,Z,Z,Z⟩ Z Z ?_
        refine R.assign ⟨Z,Z,Z,Z⟩ Z ?_
        refine GOps.nil ?_
        exact ⟨rfl, rfl, keepG, by first | exact Hs.refl _ | exact Hs.tl _, vbs (by unfold isSm; rw [Bool.eq_iff_iff]; simp; omega)⟩
      ·refine GW.block ?_
       refine GW.seq ?_
       refine GW.region ?_
       refine R.move ⟨Z,Z,Z,Z⟩ Z ?_
       refine R.move ⟨Z,Z,Z,Z⟩ Z ?_
       refine R.indexStr ⟨Z,Z,Z,Z⟩ Z Z Tryz.underlying9 (by omega) (hcx (by omega)) ?_   -- "ref.go:67" ['t44', 't45']
       refine R.eqI ⟨Z,Z,Z,Z⟩ Z Z ?_
       refine R.assign ⟨Z,Z,Z,Z⟩ Z ?_
       refine GOps.nil ?_
       refine GW.ite Z (fun hc7 => ?_) (fun hc7 => ?_)
       ·try simp only [dcQ] at hc7
        have h1i : 1 ≤ i := by
         rcases Nat.eq_zero_or_pos i with h | h
         ·subst h
          have hh := hcx (by omega)
          rw [show (bs s)[0]? = some c1 from hx1] at hh
          injection hh with hh
          omega
         ·exact h
        refine GW.seq ?_
        refine GW.seq ?_
        refine GW.region ?_
        refine R.move ⟨Z,Z,Z,Z⟩ Z ?_
        refine R.move ⟨Z,Z,Z,Z⟩ Z ?_
        refine R.sub (r := ((i - 1 : Nat) : Int)) ⟨Z,Z,Z,Z⟩ Z Z (by rw [wrap64_id (by omega) (by omega)]; omega) ?_
        refine R.indexStrA ⟨Z,Z,Z,Z⟩ Z Z Tryz.underlying9 (by omega) (by omega) fun c6 hx6 hb6 => ?_   -- "ref.go:68" ['t48', 't50']
        refine R.eqI ⟨Z,Z,Z,Z⟩ Z Z ?_
        refine GOps.nil ?_
        refine GW.ite Z (fun hc8 => ?_) (fun hc8 => ?_)
        ·try simp only [dcQ] at hc8
         refine GW.seq ?_
         refine GW.region ?_
         refine R.assign ⟨Z,Z,Z,Z⟩ Z ?_
         refine GOps.nil ?_
         refine GW.ret (Out.of (Res.one Z Z) hsA ⟨?_, Z⟩)
         refine vb ?_; symm; first | exact tag_len (by omega) | exact tag_first (some_eq hx1 (by omega)) | exact tag_last (by rw [bs_length]; exact some_eq hx2 (by omega)) | exact hI.noDash (some_eq (hcx (by omega)) (by omega)) (by rw [start_of h1i hx6]; exact decide_eq_true (by omega)) | exact hI.noChar (hcx (by omega)) (by omega) (by assumption) | exact hI.yes (by omega) (by omega) (by omega) hx2 (by omega)
        ·try simp only [dcQ] at hc8
         refine GW.skip ?_
         refine GW.region ?_
         refine R.assign ⟨Z,Z,Z,Z⟩ Z ?_
         refine GOps.nil ?_
         refine GW.region ?_
         refine R.move ⟨Z,Z,Z,Z⟩ Z ?_
         refine R.add (r := _) ⟨Z,Z,Z,Z⟩ Z Z (wrap64_id (by omega) (by omega)) ?_
         refine R.assign ⟨Z,Z,Z,Z⟩ Z ?_
         refine GOps.nil ?_
         exact ⟨i + 1, _, (), (), by omega, by first | exact hI.dash (some_eq (hcx (by omega)) (by omega)) (by rw [start_of h1i hx6]; exact decide_eq_false (by omega)) | exact hI.char (hcx (by omega)) (by omega) (by assumption), rfl, keepG, by first | exact Hs.refl _ | exact Hs.tl _ | exact Hs.tl2 _ _⟩
       ·try simp only [dcQ] at hc7
        refine GW.cutB 53 (!(okc first c)) [(0, .string s), (3, .bool first), (4, .int .i64 i)] (G' := G) ?_ ?_
        ·refine R.move ⟨Z,Z,Z,Z⟩ Z ?_
         refine R.not ⟨Z,Z,Z,Z⟩ Z ?_
         refine R.move ⟨Z,Z,Z,Z⟩ Z ?_
         refine GOps.caseB 56 Z (fun hg9 => ?_) (fun hg9 => ?_)
         ·try simp only [dcQ] at hg9
          refine R.move ⟨Z,Z,Z,Z⟩ Z ?_
          refine R.move ⟨Z,Z,Z,Z⟩ Z ?_
          refine GOps.caseB 58 Z (fun hg10 => ?_) (fun hg10 => ?_)
          ·try simp only [dcQ] at hg10
           refine GOps.skip Z Z Z ?_
           refine GOps.skip Z Z Z ?_
           refine GOps.skip Z Z Z ?_
           refine GOps.skip Z Z Z ?_
           refine GOps.skip Z Z Z ?_
           refine R.pick_t ⟨Z,Z,Z,Z⟩ Z Z ?_
           refine R.pick_t ⟨Z,Z,Z,Z⟩ Z Z ?_
           refine R.assign ⟨Z,Z,Z,Z⟩ Z ?_
           refine GOps.nil ?_
           exact ⟨rfl, rfl, keepG, by first | exact Hs.refl _ | exact Hs.tl _, vbs (by unfold okc; (generalize isSm c = a at *); (generalize isDig c = e at *); cases a <;> cases first <;> cases e <;> first | rfl | contradiction | simp_all)⟩
          ·try simp only [dcQ] at hg10
           refine R.move ⟨Z,Z,Z,Z⟩ Z ?_
           refine R.move ⟨Z,Z,Z,Z⟩ Z ?_
           refine R.indexStr ⟨Z,Z,Z,Z⟩ Z Z Tryz.underlying9 (by omega) (hcx (by omega)) ?_   -- "ref.go:72" ['t59', 't60']
           refine R.call ⟨Z,Z,Z,Z⟩ Z (vs := [_]) Z ((ref_Digit _ _ _).mono ?_)
           rintro _ _ ⟨rfl, rfl⟩
           refine R.not ⟨Z,Z,Z,Z⟩ Z ?_
           refine R.pick_f ⟨Z,Z,Z,Z⟩ Z Z ?_
           refine R.pick_t ⟨Z,Z,Z,Z⟩ Z Z ?_
           refine R.assign ⟨Z,Z,Z,Z⟩ Z ?_
           refine GOps.nil ?_
           exact ⟨rfl, rfl, keepG, by first | exact Hs.refl _ | exact Hs.tl _, vbs (by unfold okc; (generalize isSm c = a at *); (generalize isDig c = e at *); cases a <;> cases first <;> cases e <;> first | rfl | contradiction | simp_all)⟩
         ·try simp only [dcQ] at hg9
          refine GOps.skip Z Z Z ?_
          refine GOps.skip Z Z Z ?_
          refine GOps.skip Z Z Z ?_
          refine GOps.skip Z Z Z ?_
          refine GOps.skip Z Z Z ?_
          refine GOps.skip Z Z Z ?_
          refine GOps.skip Z Z Z ?_
          refine GOps.skip Z Z Z ?_
          refine R.pick_f ⟨Z,Z,Z,Z⟩ Z Z ?_
          refine R.assign ⟨Z,Z,Z,Z⟩ Z ?_
          refine GOps.nil ?_
          exact ⟨rfl, rfl, keepG, by first | exact Hs.refl _ | exact Hs.tl _, vbs (by unfold okc; (generalize isSm c = a at *); (generalize isDig c = e at *); cases a <;> cases first <;> cases e <;> first | rfl | contradiction | simp_all)⟩
        ·refine GW.ite Z (fun hc11 => ?_) (fun hc11 => ?_)
         ·try simp only [dcQ] at hc11
          refine GW.seq ?_
          refine GW.region ?_
          refine R.assign ⟨Z,Z,Z,Z⟩ Z ?_
          refine GOps.nil ?_
          refine GW.ret (Out.of (Res.one Z Z) hsA ⟨?_, Z⟩)
          refine vb ?_; symm; first | exact tag_len (by omega) | exact tag_first (some_eq hx1 (by omega)) | exact tag_last (by rw [bs_length]; exact some_eq hx2 (by omega)) | exact hI.noDash (some_eq (hcx (by omega)) (by omega)) (by rw [start_of h1i hx6]; exact decide_eq_true (by omega)) | exact hI.noChar (hcx (by omega)) (by omega) (by assumption) | exact hI.yes (by omega) (by omega) (by omega) hx2 (by omega)
         ·try simp only [dcQ] at hc11
          refine GW.skip ?_
          refine GW.region ?_
          refine R.move ⟨Z,Z,Z,Z⟩ Z ?_
          refine R.add (r := _) ⟨Z,Z,Z,Z⟩ Z Z (wrap64_id (by omega) (by omega)) ?_
          refine R.assign ⟨Z,Z,Z,Z⟩ Z ?_
          refine GOps.nil ?_
          exact ⟨i + 1, _, (), (), by omega, by first | exact hI.dash (some_eq (hcx (by omega)) (by omega)) (by rw [start_of h1i hx6]; exact decide_eq_false (by omega)) | exact hI.char (hcx (by omega)) (by omega) (by assumption), rfl, keepG, by first | exact Hs.refl _ | exact Hs.tl _ | exact Hs.tl2 _ _⟩
     ·try simp only [dcQ] at hc5
      refine GW.exit ?_
      refine GW.seq ?_
      refine GW.region ?_
      refine R.assign ⟨Z,Z,Z,Z⟩ Z ?_
      refine GOps.nil ?_
      refine GW.ret (Out.of (Res.one Z Z) hsA ⟨?_, Z⟩)
      refine vb ?_; symm; first | exact tag_len (by omega) | exact tag_first (some_eq hx1 (by omega)) | exact tag_last (by rw [bs_length]; exact some_eq hx2 (by omega)) | exact hI.noDash (some_eq (hcx (by omega)) (by omega)) (by rw [start_of h1i hx6]; exact decide_eq_true (by omega)) | exact hI.noChar (hcx (by omega)) (by omega) (by assumption) | exact hI.yes (by omega) (by omega) (by omega) hx2 (by omega)
end Go.Proofs.YtfddkcmooommeaaGreatDoor.Gl
end
section
namespace Go.Proofs.YtfddkcmooommeaaGreatDoor.Gl
open Go.RowKit Go.Shelf
set_option linter.unusedVariables false
set_option linter.unnecessarySimpa false
set_option linter.unusedSimpArgs false
attribute [-simp] List.getD_eq_getElem?_getD
def emp (s : ByteArray) : Bool := s.toList == (ByteArray.mk #[]).toList
def xsd : ByteArray := ⟨#[104, 116, 116, 112, 58, 47, 47, 119, 119, 119, 46, 119, 51, 46, 111, 114, 103, 47, 50, 48, 48, 49, 47, 88, 77, 76, 83, 99, 104, 101, 109, 97, 35, 115, 116, 114, 105, 110, 103]⟩
def isXsd (s : ByteArray) : Bool := s.toList == xsd.toList
def valS (s : ByteArray) : Bool := decide (s.size ≤ 4000) && validS (bs s)
def mayT (t : Tm) : Bool :=
 if t.kind = 1 then iriS (bs t.text) && emp t.ext else if t.kind = 2 then word 64 (bs t.text) && emp t.ext else if t.kind = 3 then valS t.text && emp t.ext
 else if t.kind = 4 then valS t.text && tagS (bs t.ext) else if t.kind = 5 then valS t.text && (iriS (bs t.ext) && !isXsd t.ext) else false
def kindF (k : Int) : Value := if k = 1 then .func (.func 97) #[] #[] else if k = 2 then .func (.func 99) #[] #[] else if k = 3 then .func (.func 101) #[] #[] else if k = 4 then .func (.func 103) #[] #[] else if k = 5 then .func (.func 105) #[] #[] else .nilFunc
def kindR (k : Int) : Option (Nat × Value) := if k = 1 then some (0, .func (.func 97) #[] #[]) else if k = 2 then some (1, .func (.func 99) #[] #[]) else if k = 3 then some (2, .func (.func 101) #[] #[]) else if k = 4 then some (3, .func (.func 103) #[] #[]) else if k = 5 then some (4, .func (.func 105) #[] #[]) else none
theorem kind_cases (k : Int) : (k = 1 ∧ kindF k = .func (.func 97) #[] #[]) ∨ (k = 2 ∧ kindF k = .func (.func 99) #[] #[]) ∨ (k = 3 ∧ kindF k = .func (.func 101) #[] #[]) ∨ (k = 4 ∧ kindF k = .func (.func 103) #[] #[]) ∨ (k = 5 ∧ kindF k = .func (.func 105) #[] #[]) ∨ ((k ≠ 1 ∧ k ≠ 2 ∧ k ≠ 3 ∧ k ≠ 4 ∧ k ≠ 5) ∧ kindF k = .nilFunc) := by
 by_cases h1 : k = 1
 ·subst h1; exact .inl ⟨rfl, rfl⟩
 by_cases h2 : k = 2
 ·subst h2; exact .inr (.inl ⟨rfl, rfl⟩)
 by_cases h3 : k = 3
 ·subst h3; exact .inr (.inr (.inl ⟨rfl, rfl⟩))
 by_cases h4 : k = 4
 ·subst h4; exact .inr (.inr (.inr (.inl ⟨rfl, rfl⟩)))
 by_cases h5 : k = 5
 ·subst h5; exact .inr (.inr (.inr (.inr (.inl ⟨rfl, rfl⟩))))
 ·exact .inr (.inr (.inr (.inr (.inr ⟨⟨h1, h2, h3, h4, h5⟩, by simp [kindF, h1, h2, h3, h4, h5]⟩))))
def KM : Array MapEntry := #[{ key := .int .i64 1, val := .func (.func 97) #[] #[], born := 0 }, { key := .int .i64 2, val := .func (.func 99) #[] #[], born := 1 }, { key := .int .i64 3, val := .func (.func 101) #[] #[], born := 2 }, { key := .int .i64 4, val := .func (.func 103) #[] #[], born := 3 }, { key := .int .i64 5, val := .func (.func 105) #[] #[], born := 4 }]
theorem kind_find (k : Int) : Instr.findNow (.int .i64) (.int .i64 k) KM.toList 0 = some (kindR k) := by
 by_cases h1 : k = 1
 ·subst h1; rfl
 by_cases h2 : k = 2
 ·subst h2; rfl
 by_cases h3 : k = 3
 ·subst h3; rfl
 by_cases h4 : k = 4
 ·subst h4; rfl
 by_cases h5 : k = 5
 ·subst h5; rfl
 ·have e : ∀ n : Int, k ≠ n → (k == n) = false := fun n h => by simpa using h
  simp [kindR, h1, h2, h3, h4, h5, KM, Instr.findNow, Instr.sameNow, e]
theorem kind_val (k : Int) : hit Value.nilFunc (kindR k) = kindF k := by
 unfold kindR kindF hit
 repeat' split
 all_goals simp_all
theorem kinds1 (w0 : World) (G : Hp) (t : Tm) (h1 : t.text.size ≤ 1048576) (h2 : t.ext.size ≤ 1048576) : GC Tryz.prog w0 97 #[.agg #[.int .i64 t.kind, .string t.text, .string t.ext]] (fun v G' => v = .bool (iriS (bs t.text) && emp t.ext) ∧ G = G') G := by
 refine GC.body (args := [.agg #[.int .i64 t.kind, .string t.text, .string t.ext]]) Tryz.func97 rfl (by kernel_rfl) rfl ?_
 refine GW.seq ?_
 refine GW.region ?_
 refine R.box ⟨Z,Z,Z,Z⟩ Z fun b1 => ?_
 refine R.assign ⟨Z,Z,Z,Z⟩ Z ?_
 refine GOps.nil ?_
 refine GW.seq ?_
 refine GW.region ?_
 refine R.fieldAddr ⟨Z,Z,Z,Z⟩ Z Tryz.underlying24 Z Tryz.sizeOf9 ?_
 refine R.load1 ⟨Z,Z,Z,Z⟩ Z Tryz.underlying9 Z (.own' memG (by rfl)) ?_
 refine R.call ⟨Z,Z,Z,Z⟩ Z (vs := [_]) Z ((term_iri _ _ _ (by omega)).mono ?_)
 rintro _ _ ⟨rfl, rfl⟩
 refine R.move ⟨Z,Z,Z,Z⟩ Z ?_
 refine GOps.caseB 6 Z (fun hg1 => ?_) (fun hg1 => ?_)
 ·try simp only [dcQ] at hg1
  refine R.fieldAddr ⟨Z,Z,Z,Z⟩ Z Tryz.underlying24 Z Tryz.sizeOf9 ?_
  refine R.load1 ⟨Z,Z,Z,Z⟩ Z Tryz.underlying9 Z (.own' memG (by rfl)) ?_
  refine R.eqS ⟨Z,Z,Z,Z⟩ Z Z ?_
  refine R.pick_t ⟨Z,Z,Z,Z⟩ Z Z ?_
  refine R.assign ⟨Z,Z,Z,Z⟩ Z ?_
  refine GOps.nil ?_
  refine GW.ret (Out.of (Res.one Z Z) hsA ⟨?_, Z⟩)
  refine vb ?_; first | (rw [show iriS (bs t.text) = false from hg1]; rfl) | (rw [show iriS (bs t.text) = true from hg1, show iriS (bs t.ext) = true from hg2]; rfl) | (rw [show iriS (bs t.text) = true from hg1, show iriS (bs t.ext) = false from hg2]; rfl) | (rw [show iriS (bs t.text) = true from hg1]; rfl)
 ·try simp only [dcQ] at hg1
  refine GOps.skip Z Z Z ?_
  refine GOps.skip Z Z Z ?_
  refine GOps.skip Z Z Z ?_
  refine R.pick_f ⟨Z,Z,Z,Z⟩ Z Z ?_
  refine R.assign ⟨Z,Z,Z,Z⟩ Z ?_
  refine GOps.nil ?_
  refine GW.ret (Out.of (Res.one Z Z) hsA ⟨?_, Z⟩)
  refine vb ?_; first | (rw [show iriS (bs t.text) = false from hg1]; rfl) | (rw [show iriS (bs t.text) = true from hg1, show iriS (bs t.ext) = true from hg2]; rfl) | (rw [show iriS (bs t.text) = true from hg1, show iriS (bs t.ext) = false from hg2]; rfl) | (rw [show iriS (bs t.text) = true from hg1]; rfl)
theorem kinds2 (w0 : World) (G : Hp) (t : Tm) (h1 : t.text.size ≤ 1048576) (h2 : t.ext.size ≤ 1048576) : GC Tryz.prog w0 99 #[.agg #[.int .i64 t.kind, .string t.text, .string t.ext]] (fun v G' => v = .bool (word 64 (bs t.text) && emp t.ext) ∧ G = G') G := by
 refine GC.body (args := [.agg #[.int .i64 t.kind, .string t.text, .string t.ext]]) Tryz.func99 rfl (by kernel_rfl) rfl ?_
 refine GW.seq ?_
 refine GW.region ?_
 refine R.box ⟨Z,Z,Z,Z⟩ Z fun b1 => ?_
 refine R.assign ⟨Z,Z,Z,Z⟩ Z ?_
 refine GOps.nil ?_
 refine GW.seq ?_
 refine GW.region ?_
 refine R.fieldAddr ⟨Z,Z,Z,Z⟩ Z Tryz.underlying24 Z Tryz.sizeOf9 ?_
 refine R.load1 ⟨Z,Z,Z,Z⟩ Z Tryz.underlying9 Z (.own' memG (by rfl)) ?_
 refine R.call ⟨Z,Z,Z,Z⟩ Z (vs := [_]) Z ((term_blank _ _ _ (by omega)).mono ?_)
 rintro _ _ ⟨rfl, rfl⟩
 refine R.move ⟨Z,Z,Z,Z⟩ Z ?_
 refine GOps.caseB 6 Z (fun hg1 => ?_) (fun hg1 => ?_)
 ·try simp only [dcQ] at hg1
  refine R.fieldAddr ⟨Z,Z,Z,Z⟩ Z Tryz.underlying24 Z Tryz.sizeOf9 ?_
  refine R.load1 ⟨Z,Z,Z,Z⟩ Z Tryz.underlying9 Z (.own' memG (by rfl)) ?_
  refine R.eqS ⟨Z,Z,Z,Z⟩ Z Z ?_
  refine R.pick_t ⟨Z,Z,Z,Z⟩ Z Z ?_
  refine R.assign ⟨Z,Z,Z,Z⟩ Z ?_
  refine GOps.nil ?_
  refine GW.ret (Out.of (Res.one Z Z) hsA ⟨?_, Z⟩)
  refine vb ?_; first | (rw [show word 64 (bs t.text) = false from hg1]; rfl) | (rw [show word 64 (bs t.text) = true from hg1, show iriS (bs t.ext) = true from hg2]; rfl) | (rw [show word 64 (bs t.text) = true from hg1, show iriS (bs t.ext) = false from hg2]; rfl) | (rw [show word 64 (bs t.text) = true from hg1]; rfl)
 ·try simp only [dcQ] at hg1
  refine GOps.skip Z Z Z ?_
  refine GOps.skip Z Z Z ?_
  refine GOps.skip Z Z Z ?_
  refine R.pick_f ⟨Z,Z,Z,Z⟩ Z Z ?_
  refine R.assign ⟨Z,Z,Z,Z⟩ Z ?_
  refine GOps.nil ?_
  refine GW.ret (Out.of (Res.one Z Z) hsA ⟨?_, Z⟩)
  refine vb ?_; first | (rw [show word 64 (bs t.text) = false from hg1]; rfl) | (rw [show word 64 (bs t.text) = true from hg1, show iriS (bs t.ext) = true from hg2]; rfl) | (rw [show word 64 (bs t.text) = true from hg1, show iriS (bs t.ext) = false from hg2]; rfl) | (rw [show word 64 (bs t.text) = true from hg1]; rfl)
theorem kinds3 (w0 : World) (G : Hp) (t : Tm) (h1 : t.text.size ≤ 1048576) (h2 : t.ext.size ≤ 1048576) : GC Tryz.prog w0 101 #[.agg #[.int .i64 t.kind, .string t.text, .string t.ext]] (fun v G' => v = .bool (valS t.text && emp t.ext) ∧ G = G') G := by
 refine GC.body (args := [.agg #[.int .i64 t.kind, .string t.text, .string t.ext]]) Tryz.func101 rfl (by kernel_rfl) rfl ?_
 refine GW.seq ?_
 refine GW.region ?_
 refine R.box ⟨Z,Z,Z,Z⟩ Z fun b1 => ?_
 refine R.assign ⟨Z,Z,Z,Z⟩ Z ?_
 refine GOps.nil ?_
 refine GW.seq ?_
 refine GW.region ?_
 refine R.fieldAddr ⟨Z,Z,Z,Z⟩ Z Tryz.underlying24 Z Tryz.sizeOf9 ?_
 refine R.load1 ⟨Z,Z,Z,Z⟩ Z Tryz.underlying9 Z (.own' memG (by rfl)) ?_
 refine R.call ⟨Z,Z,Z,Z⟩ Z (vs := [_]) Z ((term_value _ _ _ (by omega)).mono ?_)
 rintro _ _ ⟨rfl, rfl⟩
 refine R.move ⟨Z,Z,Z,Z⟩ Z ?_
 refine GOps.caseB 6 Z (fun hg1 => ?_) (fun hg1 => ?_)
 ·try simp only [dcQ] at hg1
  refine R.fieldAddr ⟨Z,Z,Z,Z⟩ Z Tryz.underlying24 Z Tryz.sizeOf9 ?_
  refine R.load1 ⟨Z,Z,Z,Z⟩ Z Tryz.underlying9 Z (.own' memG (by rfl)) ?_
  refine R.eqS ⟨Z,Z,Z,Z⟩ Z Z ?_
  refine R.pick_t ⟨Z,Z,Z,Z⟩ Z Z ?_
  refine R.assign ⟨Z,Z,Z,Z⟩ Z ?_
  refine GOps.nil ?_
  refine GW.ret (Out.of (Res.one Z Z) hsA ⟨?_, Z⟩)
  refine vb ?_; first | (rw [show valS t.text = false from hg1]; rfl) | (rw [show valS t.text = true from hg1, show iriS (bs t.ext) = true from hg2]; rfl) | (rw [show valS t.text = true from hg1, show iriS (bs t.ext) = false from hg2]; rfl) | (rw [show valS t.text = true from hg1]; rfl)
 ·try simp only [dcQ] at hg1
  refine GOps.skip Z Z Z ?_
  refine GOps.skip Z Z Z ?_
  refine GOps.skip Z Z Z ?_
  refine R.pick_f ⟨Z,Z,Z,Z⟩ Z Z ?_
  refine R.assign ⟨Z,Z,Z,Z⟩ Z ?_
  refine GOps.nil ?_
  refine GW.ret (Out.of (Res.one Z Z) hsA ⟨?_, Z⟩)
  refine vb ?_; first | (rw [show valS t.text = false from hg1]; rfl) | (rw [show valS t.text = true from hg1, show iriS (bs t.ext) = true from hg2]; rfl) | (rw [show valS t.text = true from hg1, show iriS (bs t.ext) = false from hg2]; rfl) | (rw [show valS t.text = true from hg1]; rfl)
theorem kinds4 (w0 : World) (G : Hp) (t : Tm) (h1 : t.text.size ≤ 1048576) (h2 : t.ext.size ≤ 1048576) : GC Tryz.prog w0 103 #[.agg #[.int .i64 t.kind, .string t.text, .string t.ext]] (fun v G' => v = .bool (valS t.text && tagS (bs t.ext)) ∧ G = G') G := by
 refine GC.body (args := [.agg #[.int .i64 t.kind, .string t.text, .string t.ext]]) Tryz.func103 rfl (by kernel_rfl) rfl ?_
 refine GW.seq ?_
 refine GW.region ?_
 refine R.box ⟨Z,Z,Z,Z⟩ Z fun b1 => ?_
 refine R.assign ⟨Z,Z,Z,Z⟩ Z ?_
 refine GOps.nil ?_
 refine GW.seq ?_
 refine GW.region ?_
 refine R.fieldAddr ⟨Z,Z,Z,Z⟩ Z Tryz.underlying24 Z Tryz.sizeOf9 ?_
 refine R.load1 ⟨Z,Z,Z,Z⟩ Z Tryz.underlying9 Z (.own' memG (by rfl)) ?_
 refine R.call ⟨Z,Z,Z,Z⟩ Z (vs := [_]) Z ((term_value _ _ _ (by omega)).mono ?_)
 rintro _ _ ⟨rfl, rfl⟩
 refine R.move ⟨Z,Z,Z,Z⟩ Z ?_
 refine GOps.caseB 6 Z (fun hg1 => ?_) (fun hg1 => ?_)
 ·try simp only [dcQ] at hg1
  refine R.fieldAddr ⟨Z,Z,Z,Z⟩ Z Tryz.underlying24 Z Tryz.sizeOf9 ?_
  refine R.load1 ⟨Z,Z,Z,Z⟩ Z Tryz.underlying9 Z (.own' memG (by rfl)) ?_
  refine R.call ⟨Z,Z,Z,Z⟩ Z (vs := [_]) Z ((term_tag _ _ _ (by omega)).mono ?_)
  rintro _ _ ⟨rfl, rfl⟩
  refine R.pick_t ⟨Z,Z,Z,Z⟩ Z Z ?_
  refine R.assign ⟨Z,Z,Z,Z⟩ Z ?_
  refine GOps.nil ?_
  refine GW.ret (Out.of (Res.one Z Z) hsA ⟨?_, Z⟩)
  refine vb ?_; first | (rw [show valS t.text = false from hg1]; rfl) | (rw [show valS t.text = true from hg1, show iriS (bs t.ext) = true from hg2]; rfl) | (rw [show valS t.text = true from hg1, show iriS (bs t.ext) = false from hg2]; rfl) | (rw [show valS t.text = true from hg1]; rfl)
 ·try simp only [dcQ] at hg1
  refine GOps.skip Z Z Z ?_
  refine GOps.skip Z Z Z ?_
  refine GOps.skip Z Z Z ?_
  refine R.pick_f ⟨Z,Z,Z,Z⟩ Z Z ?_
  refine R.assign ⟨Z,Z,Z,Z⟩ Z ?_
  refine GOps.nil ?_
  refine GW.ret (Out.of (Res.one Z Z) hsA ⟨?_, Z⟩)
  refine vb ?_; first | (rw [show valS t.text = false from hg1]; rfl) | (rw [show valS t.text = true from hg1, show iriS (bs t.ext) = true from hg2]; rfl) | (rw [show valS t.text = true from hg1, show iriS (bs t.ext) = false from hg2]; rfl) | (rw [show valS t.text = true from hg1]; rfl)
theorem kinds5 (w0 : World) (G : Hp) (t : Tm) (h1 : t.text.size ≤ 1048576) (h2 : t.ext.size ≤ 1048576) : GC Tryz.prog w0 105 #[.agg #[.int .i64 t.kind, .string t.text, .string t.ext]] (fun v G' => v = .bool (valS t.text && (iriS (bs t.ext) && !isXsd t.ext)) ∧ G = G') G := by
 refine GC.body (args := [.agg #[.int .i64 t.kind, .string t.text, .string t.ext]]) Tryz.func105 rfl (by kernel_rfl) rfl ?_
 refine GW.seq ?_
 refine GW.region ?_
 refine R.box ⟨Z,Z,Z,Z⟩ Z fun b1 => ?_
 refine R.assign ⟨Z,Z,Z,Z⟩ Z ?_
 refine GOps.nil ?_
 refine GW.seq ?_
 refine GW.region ?_
 refine R.fieldAddr ⟨Z,Z,Z,Z⟩ Z Tryz.underlying24 Z Tryz.sizeOf9 ?_
 refine R.load1 ⟨Z,Z,Z,Z⟩ Z Tryz.underlying9 Z (.own' memG (by rfl)) ?_
 refine R.call ⟨Z,Z,Z,Z⟩ Z (vs := [_]) Z ((term_value _ _ _ (by omega)).mono ?_)
 rintro _ _ ⟨rfl, rfl⟩
 refine R.move ⟨Z,Z,Z,Z⟩ Z ?_
 refine GOps.caseB 6 Z (fun hg1 => ?_) (fun hg1 => ?_)
 ·try simp only [dcQ] at hg1
  refine R.fieldAddr ⟨Z,Z,Z,Z⟩ Z Tryz.underlying24 Z Tryz.sizeOf9 ?_
  refine R.load1 ⟨Z,Z,Z,Z⟩ Z Tryz.underlying9 Z (.own' memG (by rfl)) ?_
  refine R.call ⟨Z,Z,Z,Z⟩ Z (vs := [_]) Z ((term_iri _ _ _ (by omega)).mono ?_)
  rintro _ _ ⟨rfl, rfl⟩
  refine R.pick_t ⟨Z,Z,Z,Z⟩ Z Z ?_
  refine R.move ⟨Z,Z,Z,Z⟩ Z ?_
  refine GOps.caseB 11 Z (fun hg2 => ?_) (fun hg2 => ?_)
  ·try simp only [dcQ] at hg2
   refine R.fieldAddr ⟨Z,Z,Z,Z⟩ Z Tryz.underlying24 Z Tryz.sizeOf9 ?_
   refine R.load1 ⟨Z,Z,Z,Z⟩ Z Tryz.underlying9 Z (.own' memG (by rfl)) ?_
   refine R.neS ⟨Z,Z,Z,Z⟩ Z Z ?_
   refine R.pick_t ⟨Z,Z,Z,Z⟩ Z Z ?_
   refine R.assign ⟨Z,Z,Z,Z⟩ Z ?_
   refine GOps.nil ?_
   refine GW.ret (Out.of (Res.one Z Z) hsA ⟨?_, Z⟩)
   refine vb ?_; first | (rw [show valS t.text = false from hg1]; rfl) | (rw [show valS t.text = true from hg1, show iriS (bs t.ext) = true from hg2]; rfl) | (rw [show valS t.text = true from hg1, show iriS (bs t.ext) = false from hg2]; rfl) | (rw [show valS t.text = true from hg1]; rfl)
  ·try simp only [dcQ] at hg2
   refine GOps.skip Z Z Z ?_
   refine GOps.skip Z Z Z ?_
   refine GOps.skip Z Z Z ?_
   refine R.pick_f ⟨Z,Z,Z,Z⟩ Z Z ?_
   refine R.assign ⟨Z,Z,Z,Z⟩ Z ?_
   refine GOps.nil ?_
   refine GW.ret (Out.of (Res.one Z Z) hsA ⟨?_, Z⟩)
   refine vb ?_; first | (rw [show valS t.text = false from hg1]; rfl) | (rw [show valS t.text = true from hg1, show iriS (bs t.ext) = true from hg2]; rfl) | (rw [show valS t.text = true from hg1, show iriS (bs t.ext) = false from hg2]; rfl) | (rw [show valS t.text = true from hg1]; rfl)
 ·try simp only [dcQ] at hg1
  refine GOps.skip Z Z Z ?_
  refine GOps.skip Z Z Z ?_
  refine GOps.skip Z Z Z ?_
  refine R.pick_f ⟨Z,Z,Z,Z⟩ Z Z ?_
  refine R.move ⟨Z,Z,Z,Z⟩ Z ?_
  refine GOps.skip Z Z Z ?_
  refine GOps.skip Z Z Z ?_
  refine GOps.skip Z Z Z ?_
  refine R.pick_f ⟨Z,Z,Z,Z⟩ Z Z ?_
  refine R.assign ⟨Z,Z,Z,Z⟩ Z ?_
  refine GOps.nil ?_
  refine GW.ret (Out.of (Res.one Z Z) hsA ⟨?_, Z⟩)
  refine vb ?_; first | (rw [show valS t.text = false from hg1]; rfl) | (rw [show valS t.text = true from hg1, show iriS (bs t.ext) = true from hg2]; rfl) | (rw [show valS t.text = true from hg1, show iriS (bs t.ext) = false from hg2]; rfl) | (rw [show valS t.text = true from hg1]; rfl)
theorem term_kinds (w0 : World) (G : Hp) : GC Tryz.prog w0 79 #[] (fun v G' => ∃ b, v = .map (some b) ∧ (b, .exact (.map KM 5)) :: G = G') G := by
 refine GC.body (args := []) Tryz.func79 rfl (by kernel_rfl) rfl ?_
 refine GW.seq ?_
 refine GW.region ?_
 refine R.assign ⟨Z,Z,Z,Z⟩ Z ?_
 refine GOps.nil ?_
 refine GW.seq ?_
 refine GW.region ?_
 refine R.makeMap ⟨Z,Z,Z,Z⟩ fun b1 => ?_
 refine R.putNew (G1 := []) (.inr Z) Z Z Z Z Z Tryz.underlying147 Tryz.underlying22 Z Z (Z) ?_
 refine R.putNew (G1 := []) (.inr Z) Z Z Z Z Z Tryz.underlying147 Tryz.underlying22 Z Z (Z) ?_
 refine R.putNew (G1 := []) (.inr Z) Z Z Z Z Z Tryz.underlying147 Tryz.underlying22 Z Z (Z) ?_
 refine R.putNew (G1 := []) (.inr Z) Z Z Z Z Z Tryz.underlying147 Tryz.underlying22 Z Z (Z) ?_
 refine R.putNew (G1 := []) (.inr Z) Z Z Z Z Z Tryz.underlying147 Tryz.underlying22 Z Z (Z) ?_
 refine R.move ⟨Z,Z,Z,Z⟩ Z ?_
 refine R.assign ⟨Z,Z,Z,Z⟩ Z ?_
 refine GOps.nil ?_
 exact GW.ret (Out.of (Res.one rfl rfl) (Hs.refl _) ⟨_, rfl, rfl⟩)
theorem term_May (w0 : World) (G : Hp) (t : Tm) (h1 : t.text.size ≤ 1048576) (h2 : t.ext.size ≤ 1048576) : GC Tryz.prog w0 48 #[.agg #[.int .i64 t.kind, .string t.text, .string t.ext]] (fun v G' => v = .bool (mayT t) ∧ G = G') G := by
 refine GC.body (args := [.agg #[.int .i64 t.kind, .string t.text, .string t.ext]]) Tryz.func48 rfl (by kernel_rfl) rfl ?_
 refine GW.seq ?_
 refine GW.region ?_
 refine R.box ⟨Z,Z,Z,Z⟩ Z fun b1 => ?_
 refine R.assign ⟨Z,Z,Z,Z⟩ Z ?_
 refine GOps.nil ?_
 refine GW.seq ?_
 refine GW.drawS 5 Z (by kernel_rfl) ?_
 refine GA.w 1 Z (V.fieldAddr ⟨Z,Z,Z,Z⟩ Z Tryz.underlying24 Z Tryz.sizeOf22) Z ?_
 refine GA.val 2 Z (V.load1 ⟨Z,Z,Z,Z⟩ Z Tryz.underlying22 Z (.own' memG (by rfl))) Z (by kernel_rfl) (by kernel_rfl) (by kernel_rfl) ?_
 refine GA.one 0 (by first | exact Hs.refl _ | exact Hs.tl _ | exact Hs.tl2 _ _ | exact Hs.tl3 _ _ _ | exact Hs.sub (by simp)) (by kernel_rfl) Z ?_
 refine R.call ⟨Z,Z,Z,Z⟩ Z (vs := []) Z ((term_kinds _ _).mono ?_)
 rintro _ _ ⟨bk, rfl, rfl⟩
 refine GOps.nil ?_
 refine GA.one 3 (by first | exact Hs.refl _ | exact Hs.tl _ | exact Hs.tl2 _ _ | exact Hs.tl3 _ _ _ | exact Hs.sub (by simp)) (by kernel_rfl) Z ?_
 refine R.lookup (r := kindR t.kind) (v := kindF t.kind) ⟨Z,Z,Z,Z⟩ Z Z Tryz.underlying147 Tryz.underlying22 Z Tryz.zeroValue104 memG (kind_find _) (kind_val _) ?_
 refine GOps.nil ?_
 refine GA.w 4 Z (V.assign ⟨Z,Z,Z,Z⟩ Z) Z ?_
 refine GA.done (by first | exact Hs.refl _ | exact Hs.tl _ | exact Hs.tl2 _ _ | exact Hs.tl3 _ _ _ | exact Hs.sub (by simp)) (by kernel_rfl) ?_
 refine GW.seq ?_
 refine GW.region ?_
 refine R.move ⟨Z,Z,Z,Z⟩ Z ?_
 rcases kind_cases t.kind with ⟨hk, e⟩ | ⟨hk, e⟩ | ⟨hk, e⟩ | ⟨hk, e⟩ | ⟨hk, e⟩ | ⟨hk, e⟩
 ·rw [e]
  refine R.neFn ⟨Z,Z,Z,Z⟩ Z Z Tryz.underlying104 ?_
  refine R.move ⟨Z,Z,Z,Z⟩ Z ?_
  refine R.move ⟨Z,Z,Z,Z⟩ Z ?_
  refine R.load_own ⟨Z,Z,Z,Z⟩ Z Tryz.underlying24 Z Tryz.sizeOf24 memG (by rfl) (by rfl) ?_
  refine R.call ⟨Z,Z,Z,Z⟩ Z (vs := [_]) Z ((kinds1 _ _ _ h1 h2).mono ?_)
  rintro _ _ ⟨rfl, rfl⟩
  refine R.pick_t ⟨Z,Z,Z,Z⟩ Z Z ?_
  refine R.assign ⟨Z,Z,Z,Z⟩ Z ?_
  refine GOps.nil ?_
  refine GW.ret (Out.of (Res.one Z Z) hsA ⟨?_, Z⟩)
  refine vb ?_; unfold mayT; simp_all
 ·rw [e]
  refine R.neFn ⟨Z,Z,Z,Z⟩ Z Z Tryz.underlying104 ?_
  refine R.move ⟨Z,Z,Z,Z⟩ Z ?_
  refine R.move ⟨Z,Z,Z,Z⟩ Z ?_
  refine R.load_own ⟨Z,Z,Z,Z⟩ Z Tryz.underlying24 Z Tryz.sizeOf24 memG (by rfl) (by rfl) ?_
  refine R.call ⟨Z,Z,Z,Z⟩ Z (vs := [_]) Z ((kinds2 _ _ _ h1 h2).mono ?_)
  rintro _ _ ⟨rfl, rfl⟩
  refine R.pick_t ⟨Z,Z,Z,Z⟩ Z Z ?_
  refine R.assign ⟨Z,Z,Z,Z⟩ Z ?_
  refine GOps.nil ?_
  refine GW.ret (Out.of (Res.one Z Z) hsA ⟨?_, Z⟩)
  refine vb ?_; unfold mayT; simp_all
 ·rw [e]
  refine R.neFn ⟨Z,Z,Z,Z⟩ Z Z Tryz.underlying104 ?_
  refine R.move ⟨Z,Z,Z,Z⟩ Z ?_
  refine R.move ⟨Z,Z,Z,Z⟩ Z ?_
  refine R.load_own ⟨Z,Z,Z,Z⟩ Z Tryz.underlying24 Z Tryz.sizeOf24 memG (by rfl) (by rfl) ?_
  refine R.call ⟨Z,Z,Z,Z⟩ Z (vs := [_]) Z ((kinds3 _ _ _ h1 h2).mono ?_)
  rintro _ _ ⟨rfl, rfl⟩
  refine R.pick_t ⟨Z,Z,Z,Z⟩ Z Z ?_
  refine R.assign ⟨Z,Z,Z,Z⟩ Z ?_
  refine GOps.nil ?_
  refine GW.ret (Out.of (Res.one Z Z) hsA ⟨?_, Z⟩)
  refine vb ?_; unfold mayT; simp_all
 ·rw [e]
  refine R.neFn ⟨Z,Z,Z,Z⟩ Z Z Tryz.underlying104 ?_
  refine R.move ⟨Z,Z,Z,Z⟩ Z ?_
  refine R.move ⟨Z,Z,Z,Z⟩ Z ?_
  refine R.load_own ⟨Z,Z,Z,Z⟩ Z Tryz.underlying24 Z Tryz.sizeOf24 memG (by rfl) (by rfl) ?_
  refine R.call ⟨Z,Z,Z,Z⟩ Z (vs := [_]) Z ((kinds4 _ _ _ h1 h2).mono ?_)
  rintro _ _ ⟨rfl, rfl⟩
  refine R.pick_t ⟨Z,Z,Z,Z⟩ Z Z ?_
  refine R.assign ⟨Z,Z,Z,Z⟩ Z ?_
  refine GOps.nil ?_
  refine GW.ret (Out.of (Res.one Z Z) hsA ⟨?_, Z⟩)
  refine vb ?_; unfold mayT; simp_all
 ·rw [e]
  refine R.neFn ⟨Z,Z,Z,Z⟩ Z Z Tryz.underlying104 ?_
  refine R.move ⟨Z,Z,Z,Z⟩ Z ?_
  refine R.move ⟨Z,Z,Z,Z⟩ Z ?_
  refine R.load_own ⟨Z,Z,Z,Z⟩ Z Tryz.underlying24 Z Tryz.sizeOf24 memG (by rfl) (by rfl) ?_
  refine R.call ⟨Z,Z,Z,Z⟩ Z (vs := [_]) Z ((kinds5 _ _ _ h1 h2).mono ?_)
  rintro _ _ ⟨rfl, rfl⟩
  refine R.pick_t ⟨Z,Z,Z,Z⟩ Z Z ?_
  refine R.assign ⟨Z,Z,Z,Z⟩ Z ?_
  refine GOps.nil ?_
  refine GW.ret (Out.of (Res.one Z Z) hsA ⟨?_, Z⟩)
  refine vb ?_; unfold mayT; simp_all
 ·rw [e]
  refine R.neNil ⟨Z,Z,Z,Z⟩ Z Z Tryz.underlying104 ?_
  refine R.move ⟨Z,Z,Z,Z⟩ Z ?_
  refine GOps.skip Z Z Z ?_
  refine GOps.skip Z Z Z ?_
  refine GOps.skip Z Z Z ?_
  refine R.pick_f ⟨Z,Z,Z,Z⟩ Z Z ?_
  refine R.assign ⟨Z,Z,Z,Z⟩ Z ?_
  refine GOps.nil ?_
  refine GW.ret (Out.of (Res.one Z Z) hsA ⟨?_, Z⟩)
  refine vb ?_; unfold mayT; simp_all
theorem ref_MayT (w0 : World) (G : Hp) (t : Tm) (h1 : t.text.size ≤ 1048576) (h2 : t.ext.size ≤ 1048576) : GC Tryz.prog w0 34 #[.agg #[.int .i64 t.kind, .string t.text, .string t.ext]] (fun v G' => v = .bool (mayT t) ∧ G = G') G := by
 refine GC.body (args := [.agg #[.int .i64 t.kind, .string t.text, .string t.ext]]) Tryz.func34 rfl (by kernel_rfl) rfl ?_
 refine GW.seq ?_
 refine GW.region ?_
 refine R.box ⟨Z,Z,Z,Z⟩ Z fun b1 => ?_
 refine R.assign ⟨Z,Z,Z,Z⟩ Z ?_
 refine GOps.nil ?_
 refine GW.cutS 3 (valS t.text) [(1, .pointer (some ⟨b1, 0, none⟩))] ?_ ?_
 ·refine R.fieldAddr ⟨Z,Z,Z,Z⟩ Z Tryz.underlying24 Z Tryz.sizeOf9 ?_
  refine R.load1 ⟨Z,Z,Z,Z⟩ Z Tryz.underlying9 Z (.own' memG (by rfl)) ?_
  refine R.lenStr ⟨Z,Z,Z,Z⟩ Z Z Tryz.underlying9 ?_
  refine R.leq ⟨Z,Z,Z,Z⟩ Z Z ?_
  refine R.move ⟨Z,Z,Z,Z⟩ Z ?_
  refine GOps.caseB 8 Z (fun hg1 => ?_) (fun hg1 => ?_)
  ·try simp only [dcQ] at hg1
   refine R.fieldAddr ⟨Z,Z,Z,Z⟩ Z Tryz.underlying24 Z Tryz.sizeOf9 ?_
   refine R.load1 ⟨Z,Z,Z,Z⟩ Z Tryz.underlying9 Z (.own' memG (by rfl)) ?_
   refine R.call ⟨Z,Z,Z,Z⟩ Z (vs := [_]) Z ((ref_Valid _ _ _ (by omega)).mono ?_)
   rintro _ _ ⟨rfl, rfl⟩
   refine R.pick_t ⟨Z,Z,Z,Z⟩ Z Z ?_
   refine R.assign ⟨Z,Z,Z,Z⟩ Z ?_
   refine GOps.nil ?_
   exact ⟨rfl, rfl, keepG, by first | exact Hs.refl _ | exact Hs.tl _, vbs (by unfold valS; first | (rw [decide_eq_true (show t.text.size ≤ 4000 by omega)]; rfl) | (rw [decide_eq_false (show ¬ t.text.size ≤ 4000 by omega)]; rfl))⟩
  ·try simp only [dcQ] at hg1
   refine GOps.skip Z Z Z ?_
   refine GOps.skip Z Z Z ?_
   refine GOps.skip Z Z Z ?_
   refine R.pick_f ⟨Z,Z,Z,Z⟩ Z Z ?_
   refine R.assign ⟨Z,Z,Z,Z⟩ Z ?_
   refine GOps.nil ?_
   exact ⟨rfl, rfl, keepG, by first | exact Hs.refl _ | exact Hs.tl _, vbs (by unfold valS; first | (rw [decide_eq_true (show t.text.size ≤ 4000 by omega)]; rfl) | (rw [decide_eq_false (show ¬ t.text.size ≤ 4000 by omega)]; rfl))⟩
 ·refine GW.seq ?_
  refine GW.seq ?_
  refine GW.region ?_
  refine R.fieldAddr ⟨Z,Z,Z,Z⟩ Z Tryz.underlying24 Z Tryz.sizeOf22 ?_
  refine R.load1 ⟨Z,Z,Z,Z⟩ Z Tryz.underlying22 Z (.own' memG (by rfl)) ?_
  refine GOps.nil ?_
  refine GW.block ?_
  refine GW.seq ?_
  refine GW.region ?_
  refine R.eqI ⟨Z,Z,Z,Z⟩ Z Z ?_
  refine R.assign ⟨Z,Z,Z,Z⟩ Z ?_
  refine GOps.nil ?_
  refine GW.ite Z (fun hc2 => ?_) (fun hc2 => ?_)
  ·try simp only [dcQ] at hc2
   refine GW.seq ?_
   refine GW.region ?_
   refine R.fieldAddr ⟨Z,Z,Z,Z⟩ Z Tryz.underlying24 Z Tryz.sizeOf9 ?_
   refine R.load1 ⟨Z,Z,Z,Z⟩ Z Tryz.underlying9 Z (.own' memG (by rfl)) ?_
   refine R.call ⟨Z,Z,Z,Z⟩ Z (vs := [_]) Z ((ref_IRI _ _ _ (by omega)).mono ?_)
   rintro _ _ ⟨rfl, rfl⟩
   refine R.move ⟨Z,Z,Z,Z⟩ Z ?_
   refine GOps.caseB 20 Z (fun hg3 => ?_) (fun hg3 => ?_)
   ·try simp only [dcQ] at hg3
    refine R.fieldAddr ⟨Z,Z,Z,Z⟩ Z Tryz.underlying24 Z Tryz.sizeOf9 ?_
    refine R.load1 ⟨Z,Z,Z,Z⟩ Z Tryz.underlying9 Z (.own' memG (by rfl)) ?_
    refine R.eqS ⟨Z,Z,Z,Z⟩ Z Z ?_
    refine R.pick_t ⟨Z,Z,Z,Z⟩ Z Z ?_
    refine R.assign ⟨Z,Z,Z,Z⟩ Z ?_
    refine GOps.nil ?_
    refine GW.ret (Out.of (Res.one Z Z) hsA ⟨?_, Z⟩)
    refine vb ?_; unfold mayT emp isXsd xsd; simp_all
   ·try simp only [dcQ] at hg3
    refine GOps.skip Z Z Z ?_
    refine GOps.skip Z Z Z ?_
    refine GOps.skip Z Z Z ?_
    refine R.pick_f ⟨Z,Z,Z,Z⟩ Z Z ?_
    refine R.assign ⟨Z,Z,Z,Z⟩ Z ?_
    refine GOps.nil ?_
    refine GW.ret (Out.of (Res.one Z Z) hsA ⟨?_, Z⟩)
    refine vb ?_; unfold mayT emp isXsd xsd; simp_all
  ·try simp only [dcQ] at hc2
   refine GW.seq ?_
   refine GW.region ?_
   refine R.eqI ⟨Z,Z,Z,Z⟩ Z Z ?_
   refine R.assign ⟨Z,Z,Z,Z⟩ Z ?_
   refine GOps.nil ?_
   refine GW.ite Z (fun hc4 => ?_) (fun hc4 => ?_)
   ·try simp only [dcQ] at hc4
    refine GW.seq ?_
    refine GW.region ?_
    refine R.fieldAddr ⟨Z,Z,Z,Z⟩ Z Tryz.underlying24 Z Tryz.sizeOf9 ?_
    refine R.load1 ⟨Z,Z,Z,Z⟩ Z Tryz.underlying9 Z (.own' memG (by rfl)) ?_
    refine R.call ⟨Z,Z,Z,Z⟩ Z (vs := [_, _]) Z ((ref_Word _ _ _ 64 (by omega)).mono ?_)
    rintro _ _ ⟨rfl, rfl⟩
    refine R.move ⟨Z,Z,Z,Z⟩ Z ?_
    refine GOps.caseB 30 Z (fun hg5 => ?_) (fun hg5 => ?_)
    ·try simp only [dcQ] at hg5
     refine R.fieldAddr ⟨Z,Z,Z,Z⟩ Z Tryz.underlying24 Z Tryz.sizeOf9 ?_
     refine R.load1 ⟨Z,Z,Z,Z⟩ Z Tryz.underlying9 Z (.own' memG (by rfl)) ?_
     refine R.eqS ⟨Z,Z,Z,Z⟩ Z Z ?_
     refine R.pick_t ⟨Z,Z,Z,Z⟩ Z Z ?_
     refine R.assign ⟨Z,Z,Z,Z⟩ Z ?_
     refine GOps.nil ?_
     refine GW.ret (Out.of (Res.one Z Z) hsA ⟨?_, Z⟩)
     refine vb ?_; unfold mayT emp isXsd xsd; simp_all
    ·try simp only [dcQ] at hg5
     refine GOps.skip Z Z Z ?_
     refine GOps.skip Z Z Z ?_
     refine GOps.skip Z Z Z ?_
     refine R.pick_f ⟨Z,Z,Z,Z⟩ Z Z ?_
     refine R.assign ⟨Z,Z,Z,Z⟩ Z ?_
     refine GOps.nil ?_
     refine GW.ret (Out.of (Res.one Z Z) hsA ⟨?_, Z⟩)
     refine vb ?_; unfold mayT emp isXsd xsd; simp_all
   ·try simp only [dcQ] at hc4
    refine GW.seq ?_
    refine GW.region ?_
    refine R.eqI ⟨Z,Z,Z,Z⟩ Z Z ?_
    refine R.assign ⟨Z,Z,Z,Z⟩ Z ?_
    refine GOps.nil ?_
    refine GW.ite Z (fun hc6 => ?_) (fun hc6 => ?_)
    ·try simp only [dcQ] at hc6
     refine GW.seq ?_
     refine GW.region ?_
     refine R.move ⟨Z,Z,Z,Z⟩ Z ?_
     refine R.move ⟨Z,Z,Z,Z⟩ Z ?_
     refine GOps.caseB 38 Z (fun hg7 => ?_) (fun hg7 => ?_)
     ·try simp only [dcQ] at hg7
      refine R.fieldAddr ⟨Z,Z,Z,Z⟩ Z Tryz.underlying24 Z Tryz.sizeOf9 ?_
      refine R.load1 ⟨Z,Z,Z,Z⟩ Z Tryz.underlying9 Z (.own' memG (by rfl)) ?_
      refine R.eqS ⟨Z,Z,Z,Z⟩ Z Z ?_
      refine R.pick_t ⟨Z,Z,Z,Z⟩ Z Z ?_
      refine R.assign ⟨Z,Z,Z,Z⟩ Z ?_
      refine GOps.nil ?_
      refine GW.ret (Out.of (Res.one Z Z) hsA ⟨?_, Z⟩)
      refine vb ?_; unfold mayT emp isXsd xsd; simp_all
     ·try simp only [dcQ] at hg7
      refine GOps.skip Z Z Z ?_
      refine GOps.skip Z Z Z ?_
      refine GOps.skip Z Z Z ?_
      refine R.pick_f ⟨Z,Z,Z,Z⟩ Z Z ?_
      refine R.assign ⟨Z,Z,Z,Z⟩ Z ?_
      refine GOps.nil ?_
      refine GW.ret (Out.of (Res.one Z Z) hsA ⟨?_, Z⟩)
      refine vb ?_; unfold mayT emp isXsd xsd; simp_all
    ·try simp only [dcQ] at hc6
     refine GW.seq ?_
     refine GW.region ?_
     refine R.eqI ⟨Z,Z,Z,Z⟩ Z Z ?_
     refine R.assign ⟨Z,Z,Z,Z⟩ Z ?_
     refine GOps.nil ?_
     refine GW.ite Z (fun hc8 => ?_) (fun hc8 => ?_)
     ·try simp only [dcQ] at hc8
      refine GW.seq ?_
      refine GW.region ?_
      refine R.move ⟨Z,Z,Z,Z⟩ Z ?_
      refine R.move ⟨Z,Z,Z,Z⟩ Z ?_
      refine GOps.caseB 46 Z (fun hg9 => ?_) (fun hg9 => ?_)
      ·try simp only [dcQ] at hg9
       refine R.fieldAddr ⟨Z,Z,Z,Z⟩ Z Tryz.underlying24 Z Tryz.sizeOf9 ?_
       refine R.load1 ⟨Z,Z,Z,Z⟩ Z Tryz.underlying9 Z (.own' memG (by rfl)) ?_
       refine R.call ⟨Z,Z,Z,Z⟩ Z (vs := [_]) Z ((ref_tag _ _ _ (by omega)).mono ?_)
       rintro _ _ ⟨rfl, rfl⟩
       refine R.pick_t ⟨Z,Z,Z,Z⟩ Z Z ?_
       refine R.assign ⟨Z,Z,Z,Z⟩ Z ?_
       refine GOps.nil ?_
       refine GW.ret (Out.of (Res.one Z Z) hsA ⟨?_, Z⟩)
       refine vb ?_; unfold mayT emp isXsd xsd; simp_all
      ·try simp only [dcQ] at hg9
       refine GOps.skip Z Z Z ?_
       refine GOps.skip Z Z Z ?_
       refine GOps.skip Z Z Z ?_
       refine R.pick_f ⟨Z,Z,Z,Z⟩ Z Z ?_
       refine R.assign ⟨Z,Z,Z,Z⟩ Z ?_
       refine GOps.nil ?_
       refine GW.ret (Out.of (Res.one Z Z) hsA ⟨?_, Z⟩)
       refine vb ?_; unfold mayT emp isXsd xsd; simp_all
     ·try simp only [dcQ] at hc8
      refine GW.seq ?_
      refine GW.region ?_
      refine R.eqI ⟨Z,Z,Z,Z⟩ Z Z ?_
      refine R.assign ⟨Z,Z,Z,Z⟩ Z ?_
      refine GOps.nil ?_
      refine GW.ite Z (fun hc10 => ?_) (fun hc10 => ?_)
      ·try simp only [dcQ] at hc10
       refine GW.seq ?_
       refine GW.region ?_
       refine R.move ⟨Z,Z,Z,Z⟩ Z ?_
       refine R.move ⟨Z,Z,Z,Z⟩ Z ?_
       refine GOps.caseB 54 Z (fun hg11 => ?_) (fun hg11 => ?_)
       ·try simp only [dcQ] at hg11
        refine R.fieldAddr ⟨Z,Z,Z,Z⟩ Z Tryz.underlying24 Z Tryz.sizeOf9 ?_
        refine R.load1 ⟨Z,Z,Z,Z⟩ Z Tryz.underlying9 Z (.own' memG (by rfl)) ?_
        refine R.call ⟨Z,Z,Z,Z⟩ Z (vs := [_]) Z ((ref_IRI _ _ _ (by omega)).mono ?_)
        rintro _ _ ⟨rfl, rfl⟩
        refine R.pick_t ⟨Z,Z,Z,Z⟩ Z Z ?_
        refine R.move ⟨Z,Z,Z,Z⟩ Z ?_
        refine GOps.caseB 59 Z (fun hg12 => ?_) (fun hg12 => ?_)
        ·try simp only [dcQ] at hg12
         refine R.fieldAddr ⟨Z,Z,Z,Z⟩ Z Tryz.underlying24 Z Tryz.sizeOf9 ?_
         refine R.load1 ⟨Z,Z,Z,Z⟩ Z Tryz.underlying9 Z (.own' memG (by rfl)) ?_
         refine R.neS ⟨Z,Z,Z,Z⟩ Z Z ?_
         refine R.pick_t ⟨Z,Z,Z,Z⟩ Z Z ?_
         refine R.assign ⟨Z,Z,Z,Z⟩ Z ?_
         refine GOps.nil ?_
         refine GW.ret (Out.of (Res.one Z Z) hsA ⟨?_, Z⟩)
         refine vb ?_; unfold mayT emp isXsd xsd; simp_all
        ·try simp only [dcQ] at hg12
         refine GOps.skip Z Z Z ?_
         refine GOps.skip Z Z Z ?_
         refine GOps.skip Z Z Z ?_
         refine R.pick_f ⟨Z,Z,Z,Z⟩ Z Z ?_
         refine R.assign ⟨Z,Z,Z,Z⟩ Z ?_
         refine GOps.nil ?_
         refine GW.ret (Out.of (Res.one Z Z) hsA ⟨?_, Z⟩)
         refine vb ?_; unfold mayT emp isXsd xsd; simp_all
       ·try simp only [dcQ] at hg11
        refine GOps.skip Z Z Z ?_
        refine GOps.skip Z Z Z ?_
        refine GOps.skip Z Z Z ?_
        refine R.pick_f ⟨Z,Z,Z,Z⟩ Z Z ?_
        refine R.move ⟨Z,Z,Z,Z⟩ Z ?_
        refine GOps.skip Z Z Z ?_
        refine GOps.skip Z Z Z ?_
        refine GOps.skip Z Z Z ?_
        refine R.pick_f ⟨Z,Z,Z,Z⟩ Z Z ?_
        refine R.assign ⟨Z,Z,Z,Z⟩ Z ?_
        refine GOps.nil ?_
        refine GW.ret (Out.of (Res.one Z Z) hsA ⟨?_, Z⟩)
        refine vb ?_; unfold mayT emp isXsd xsd; simp_all
      ·try simp only [dcQ] at hc10
       refine GW.skip ?_
       refine GW.seq ?_
       refine GW.region ?_
       refine R.assign ⟨Z,Z,Z,Z⟩ Z ?_
       refine GOps.nil ?_
       refine GW.ret (Out.of (Res.one Z Z) hsA ⟨?_, Z⟩)
       refine vb ?_; unfold mayT emp isXsd xsd; simp_all
end Go.Proofs.YtfddkcmooommeaaGreatDoor.Gl
end
section
namespace Go.Proofs.YtfddkcmooommeaaGreatDoor.Gl
open Go.RowKit Go.Shelf
set_option linter.unusedVariables false
set_option linter.unnecessarySimpa false
set_option linter.unusedSimpArgs false
theorem any_take_succ {α : Type} (p : α → Bool) (l : List α) (i : Nat) (x : α) (h : l[i]? = some x) (h0 : (l.take i).any p = false) (hx : p x = false) : (l.take (i + 1)).any p = false := by
 rw [List.take_add_one, h]
 simp [h0, hx]
theorem any_of_get {α : Type} (p : α → Bool) (l : List α) (i : Nat) (x : α) (h : l[i]? = some x) (hx : p x = true) : l.any p = true :=
 List.any_eq_true.2 ⟨x, List.mem_of_getElem? h, hx⟩
theorem any_of_take {α : Type} (p : α → Bool) (l : List α) (i : Nat) (h : l.length ≤ i) (h0 : (l.take i).any p = false) : l.any p = false := by
 rwa [List.take_of_length_le h] at h0
end Go.Proofs.YtfddkcmooommeaaGreatDoor.Gl
end
section
namespace Go.Proofs.YtfddkcmooommeaaGreatDoor.Gl
open Go.RowKit Go.Shelf
set_option linter.unusedVariables false
set_option linter.unnecessarySimpa false
set_option linter.unusedSimpArgs false
attribute [-simp] List.getD_eq_getElem?_getD
def zTm : Tm := ⟨0, ByteArray.empty, ByteArray.empty⟩
def zSl : Sl := ⟨ByteArray.empty, zTm⟩
def zPt : Pt := ⟨zSl, zSl, zSl⟩
def SlOk (s : Sl) : Prop := s.v.size ≤ 1048576 ∧ s.t.text.size ≤ 1048576 ∧ s.t.ext.size ≤ 1048576
def PtOk (p : Pt) : Prop := SlOk p.s0 ∧ SlOk p.s1 ∧ SlOk p.s2
def LtOk (l : Lt) : Prop := PtOk l.pat ∧ SlOk l.a ∧ SlOk l.b
def RlOk (r : Rl) : Prop := PtOk r.head ∧ ∀ l ∈ r.body, LtOk l
def maySl (s : Sl) : Bool := bif emp s.v then mayT s.t else word 32 (bs s.v) && tmEq s.t zTm
def mayPt (p : Pt) : Bool := maySl p.s0 && (maySl p.s1 && maySl p.s2)
def mayLt (l : Lt) : Bool :=
 bif (decide (l.kind = 1) || decide (l.kind = 2)) then mayPt l.pat && (slEq l.a zSl && slEq l.b zSl) else bif (decide (l.kind = 3) || decide (l.kind = 4)) then ptEq l.pat zPt && (maySl l.a && maySl l.b) else false
def mayRl (r : Rl) : Bool := mayPt r.head && (decide (r.body.length ≤ 64) && r.body.all mayLt)
theorem rules_MaySlot (w0 : World) (G : Hp) (s : Sl) (h : SlOk s) : GC Tryz.prog w0 106 #[.agg (SlC s).toArray] (fun v G' => v = .bool (maySl s) ∧ G = G') G := by
 refine GC.body (args := [.agg (SlC s).toArray]) Tryz.func106 rfl (by kernel_rfl) rfl ?_
 refine GW.seq ?_
 refine GW.region ?_
 refine R.box ⟨Z,Z,Z,Z⟩ Z fun b1 => ?_
 refine R.assign ⟨Z,Z,Z,Z⟩ Z ?_
 refine GOps.nil ?_
 refine GW.seq ?_
 refine GW.seq ?_
 refine GW.region ?_
 refine R.fieldAddr ⟨Z,Z,Z,Z⟩ Z Tryz.underlying26 Z Tryz.sizeOf9 ?_
 refine R.load1 ⟨Z,Z,Z,Z⟩ Z Tryz.underlying9 Z (.own' memG (by rfl)) ?_
 refine R.neS ⟨Z,Z,Z,Z⟩ Z Z ?_
 refine GOps.nil ?_
 refine GW.ite Z (fun hc1 => ?_) (fun hc1 => ?_)
 ·try simp only [dcQ] at hc1
  refine GW.seq ?_
  refine GW.region ?_
  refine R.fieldAddr ⟨Z,Z,Z,Z⟩ Z Tryz.underlying26 Z Tryz.sizeOf9 ?_
  refine R.load1 ⟨Z,Z,Z,Z⟩ Z Tryz.underlying9 Z (.own' memG (by rfl)) ?_
  refine R.call ⟨Z,Z,Z,Z⟩ Z (vs := [_]) Z ((rules_name _ _ _ (by have := h.1; omega)).mono ?_)
  rintro _ _ ⟨rfl, rfl⟩
  refine R.move ⟨Z,Z,Z,Z⟩ Z ?_
  refine GOps.caseB 9 Z (fun hg2 => ?_) (fun hg2 => ?_)
  ·try simp only [dcQ] at hg2
   refine R.fieldAddr ⟨Z,Z,Z,Z⟩ Z Tryz.underlying26 Z Tryz.sizeOf24 ?_
   refine R.load_own (cs := TmC s.t) ⟨Z,Z,Z,Z⟩ Z Tryz.underlying24 Z Tryz.sizeOf24 memG (by rfl) (by rfl) ?_
   refine R.build (vs := []) (cells := (TmC zTm).toArray) ⟨Z,Z,Z,Z⟩ Z (fun w => run_build w 24 _ _ (by kernel_rfl)) ?_
   refine R.eqA ⟨Z,Z,Z,Z⟩ Z Z (guard_of g24) (equal_of 9990 Z (run_eqTm 9998 _ _)) ?_
   refine R.pick_t ⟨Z,Z,Z,Z⟩ Z Z ?_
   refine R.assign ⟨Z,Z,Z,Z⟩ Z ?_
   refine GOps.nil ?_
   refine GW.ret (Out.of (Res.one Z Z) hsA ⟨?_, Z⟩)
   refine vb ?_; unfold maySl; first | (rw [show emp s.v = true from hc1]; rfl) | (rw [show emp s.v = false from hc1, show word 32 (bs s.v) = true from hg2]; rfl) | (rw [show emp s.v = false from hc1, show word 32 (bs s.v) = false from hg2]; rfl) | (rw [show emp s.v = false from hc1, show tmEq s.t zTm = true from hg2, Bool.and_true]; rfl) | (rw [show emp s.v = false from hc1, show tmEq s.t zTm = false from hg2, Bool.and_false]; rfl)
  ·try simp only [dcQ] at hg2
   refine GOps.skip Z Z Z ?_
   refine GOps.skip Z Z Z ?_
   refine GOps.skip Z Z Z ?_
   refine GOps.skip Z Z Z ?_
   refine R.pick_f ⟨Z,Z,Z,Z⟩ Z Z ?_
   refine R.assign ⟨Z,Z,Z,Z⟩ Z ?_
   refine GOps.nil ?_
   refine GW.ret (Out.of (Res.one Z Z) hsA ⟨?_, Z⟩)
   refine vb ?_; unfold maySl; first | (rw [show emp s.v = true from hc1]; rfl) | (rw [show emp s.v = false from hc1, show word 32 (bs s.v) = true from hg2]; rfl) | (rw [show emp s.v = false from hc1, show word 32 (bs s.v) = false from hg2]; rfl) | (rw [show emp s.v = false from hc1, show tmEq s.t zTm = true from hg2, Bool.and_true]; rfl) | (rw [show emp s.v = false from hc1, show tmEq s.t zTm = false from hg2, Bool.and_false]; rfl)
 ·try simp only [dcQ] at hc1
  refine GW.skip ?_
  refine GW.seq ?_
  refine GW.region ?_
  refine R.fieldAddr ⟨Z,Z,Z,Z⟩ Z Tryz.underlying26 Z Tryz.sizeOf24 ?_
  refine R.load_own (cs := TmC s.t) ⟨Z,Z,Z,Z⟩ Z Tryz.underlying24 Z Tryz.sizeOf24 memG (by rfl) (by rfl) ?_
  refine R.call ⟨Z,Z,Z,Z⟩ Z (vs := [_]) Z ((term_May _ _ s.t h.2.1 h.2.2).mono ?_)
  rintro _ _ ⟨rfl, rfl⟩
  refine R.assign ⟨Z,Z,Z,Z⟩ Z ?_
  refine GOps.nil ?_
  refine GW.ret (Out.of (Res.one Z Z) hsA ⟨?_, Z⟩)
  refine vb ?_; unfold maySl; first | (rw [show emp s.v = true from hc1]; rfl) | (rw [show emp s.v = false from hc1, show word 32 (bs s.v) = true from hg2]; rfl) | (rw [show emp s.v = false from hc1, show word 32 (bs s.v) = false from hg2]; rfl) | (rw [show emp s.v = false from hc1, show tmEq s.t zTm = true from hg2, Bool.and_true]; rfl) | (rw [show emp s.v = false from hc1, show tmEq s.t zTm = false from hg2, Bool.and_false]; rfl)
theorem ref_MaySlot (w0 : World) (G : Hp) (s : Sl) (h : SlOk s) : GC Tryz.prog w0 77 #[.agg (SlC s).toArray] (fun v G' => v = .bool (maySl s) ∧ G = G') G := by
 refine GC.body (args := [.agg (SlC s).toArray]) Tryz.func77 rfl (by kernel_rfl) rfl ?_
 refine GW.seq ?_
 refine GW.region ?_
 refine R.box ⟨Z,Z,Z,Z⟩ Z fun b1 => ?_
 refine R.assign ⟨Z,Z,Z,Z⟩ Z ?_
 refine GOps.nil ?_
 refine GW.seq ?_
 refine GW.seq ?_
 refine GW.region ?_
 refine R.fieldAddr ⟨Z,Z,Z,Z⟩ Z Tryz.underlying26 Z Tryz.sizeOf9 ?_
 refine R.load1 ⟨Z,Z,Z,Z⟩ Z Tryz.underlying9 Z (.own' memG (by rfl)) ?_
 refine R.eqS ⟨Z,Z,Z,Z⟩ Z Z ?_
 refine GOps.nil ?_
 refine GW.ite Z (fun hc1 => ?_) (fun hc1 => ?_)
 ·try simp only [dcQ] at hc1
  refine GW.seq ?_
  refine GW.region ?_
  refine R.fieldAddr ⟨Z,Z,Z,Z⟩ Z Tryz.underlying26 Z Tryz.sizeOf24 ?_
  refine R.load_own (cs := TmC s.t) ⟨Z,Z,Z,Z⟩ Z Tryz.underlying24 Z Tryz.sizeOf24 memG (by rfl) (by rfl) ?_
  refine R.call ⟨Z,Z,Z,Z⟩ Z (vs := [_]) Z ((ref_MayT _ _ s.t h.2.1 h.2.2).mono ?_)
  rintro _ _ ⟨rfl, rfl⟩
  refine R.assign ⟨Z,Z,Z,Z⟩ Z ?_
  refine GOps.nil ?_
  refine GW.ret (Out.of (Res.one Z Z) hsA ⟨?_, Z⟩)
  refine vb ?_; unfold maySl; first | (rw [show emp s.v = true from hc1]; rfl) | (rw [show emp s.v = false from hc1, show word 32 (bs s.v) = true from hg2]; rfl) | (rw [show emp s.v = false from hc1, show word 32 (bs s.v) = false from hg2]; rfl) | (rw [show emp s.v = false from hc1, show tmEq s.t zTm = true from hg2, Bool.and_true]; rfl) | (rw [show emp s.v = false from hc1, show tmEq s.t zTm = false from hg2, Bool.and_false]; rfl)
 ·try simp only [dcQ] at hc1
  refine GW.skip ?_
  refine GW.seq ?_
  refine GW.region ?_
  refine R.fieldAddr ⟨Z,Z,Z,Z⟩ Z Tryz.underlying26 Z Tryz.sizeOf24 ?_
  refine R.load_own (cs := TmC s.t) ⟨Z,Z,Z,Z⟩ Z Tryz.underlying24 Z Tryz.sizeOf24 memG (by rfl) (by rfl) ?_
  refine R.build (vs := []) (cells := (TmC zTm).toArray) ⟨Z,Z,Z,Z⟩ Z (fun w => run_build w 24 _ _ (by kernel_rfl)) ?_
  refine R.eqA ⟨Z,Z,Z,Z⟩ Z Z (guard_of g24) (equal_of 9990 Z (run_eqTm 9998 _ _)) ?_
  refine R.move ⟨Z,Z,Z,Z⟩ Z ?_
  refine GOps.caseB 13 Z (fun hg2 => ?_) (fun hg2 => ?_)
  ·try simp only [dcQ] at hg2
   refine R.fieldAddr ⟨Z,Z,Z,Z⟩ Z Tryz.underlying26 Z Tryz.sizeOf9 ?_
   refine R.load1 ⟨Z,Z,Z,Z⟩ Z Tryz.underlying9 Z (.own' memG (by rfl)) ?_
   refine R.call ⟨Z,Z,Z,Z⟩ Z (vs := [_, _]) Z ((ref_Word _ _ _ 32 (by have := h.1; omega)).mono ?_)
   rintro _ _ ⟨rfl, rfl⟩
   refine R.pick_t ⟨Z,Z,Z,Z⟩ Z Z ?_
   refine R.assign ⟨Z,Z,Z,Z⟩ Z ?_
   refine GOps.nil ?_
   refine GW.ret (Out.of (Res.one Z Z) hsA ⟨?_, Z⟩)
   refine vb ?_; unfold maySl; first | (rw [show emp s.v = true from hc1]; rfl) | (rw [show emp s.v = false from hc1, show word 32 (bs s.v) = true from hg2]; rfl) | (rw [show emp s.v = false from hc1, show word 32 (bs s.v) = false from hg2]; rfl) | (rw [show emp s.v = false from hc1, show tmEq s.t zTm = true from hg2, Bool.and_true]; rfl) | (rw [show emp s.v = false from hc1, show tmEq s.t zTm = false from hg2, Bool.and_false]; rfl)
  ·try simp only [dcQ] at hg2
   refine GOps.skip Z Z Z ?_
   refine GOps.skip Z Z Z ?_
   refine GOps.skip Z Z Z ?_
   refine R.pick_f ⟨Z,Z,Z,Z⟩ Z Z ?_
   refine R.assign ⟨Z,Z,Z,Z⟩ Z ?_
   refine GOps.nil ?_
   refine GW.ret (Out.of (Res.one Z Z) hsA ⟨?_, Z⟩)
   refine vb ?_; unfold maySl; first | (rw [show emp s.v = true from hc1]; rfl) | (rw [show emp s.v = false from hc1, show word 32 (bs s.v) = true from hg2]; rfl) | (rw [show emp s.v = false from hc1, show word 32 (bs s.v) = false from hg2]; rfl) | (rw [show emp s.v = false from hc1, show tmEq s.t zTm = true from hg2, Bool.and_true]; rfl) | (rw [show emp s.v = false from hc1, show tmEq s.t zTm = false from hg2, Bool.and_false]; rfl)
theorem rules_pattern (w0 : World) (G : Hp) (p : Pt) (h : PtOk p) : GC Tryz.prog w0 81 #[.agg (PtC p).toArray] (fun v G' => v = .bool (mayPt p) ∧ G = G') G := by
 refine GC.body (args := [.agg (PtC p).toArray]) Tryz.func81 rfl (by kernel_rfl) rfl ?_
 refine GW.seq ?_
 refine GW.region ?_
 refine R.box ⟨Z,Z,Z,Z⟩ Z fun b1 => ?_
 refine R.assign ⟨Z,Z,Z,Z⟩ Z ?_
 refine GOps.nil ?_
 refine GW.seq ?_
 refine GW.region ?_
 refine R.indexAddrA ⟨Z,Z,Z,Z⟩ Z Z Tryz.underlying28 Tryz.sizeOf26 (by omega) (by omega) ?_
 refine R.load_own (cs := SlC p.s0) ⟨Z,Z,Z,Z⟩ Z Tryz.underlying26 Z Tryz.sizeOf26 memG (by rfl) (by rfl) ?_
 refine R.call ⟨Z,Z,Z,Z⟩ Z (vs := [_]) Z ((rules_MaySlot _ _ p.s0 h.1).mono ?_)
 rintro _ _ ⟨rfl, rfl⟩
 refine R.move ⟨Z,Z,Z,Z⟩ Z ?_
 refine GOps.caseB 6 Z (fun hg1 => ?_) (fun hg1 => ?_)
 ·try simp only [dcQ] at hg1
  refine R.indexAddrA ⟨Z,Z,Z,Z⟩ Z Z Tryz.underlying28 Tryz.sizeOf26 (by omega) (by omega) ?_
  refine R.load_own (cs := SlC p.s1) ⟨Z,Z,Z,Z⟩ Z Tryz.underlying26 Z Tryz.sizeOf26 memG (by rfl) (by rfl) ?_
  refine R.call ⟨Z,Z,Z,Z⟩ Z (vs := [_]) Z ((rules_MaySlot _ _ p.s1 h.2.1).mono ?_)
  rintro _ _ ⟨rfl, rfl⟩
  refine R.pick_t ⟨Z,Z,Z,Z⟩ Z Z ?_
  refine R.move ⟨Z,Z,Z,Z⟩ Z ?_
  refine GOps.caseB 11 Z (fun hg2 => ?_) (fun hg2 => ?_)
  ·try simp only [dcQ] at hg2
   refine R.indexAddrA ⟨Z,Z,Z,Z⟩ Z Z Tryz.underlying28 Tryz.sizeOf26 (by omega) (by omega) ?_
   refine R.load_own (cs := SlC p.s2) ⟨Z,Z,Z,Z⟩ Z Tryz.underlying26 Z Tryz.sizeOf26 memG (by rfl) (by rfl) ?_
   refine R.call ⟨Z,Z,Z,Z⟩ Z (vs := [_]) Z ((rules_MaySlot _ _ p.s2 h.2.2).mono ?_)
   rintro _ _ ⟨rfl, rfl⟩
   refine R.pick_t ⟨Z,Z,Z,Z⟩ Z Z ?_
   refine R.assign ⟨Z,Z,Z,Z⟩ Z ?_
   refine GOps.nil ?_
   refine GW.ret (Out.of (Res.one Z Z) hsA ⟨?_, Z⟩)
   refine vb ?_; unfold mayPt; simp_all
  ·try simp only [dcQ] at hg2
   refine GOps.skip Z Z Z ?_
   refine GOps.skip Z Z Z ?_
   refine GOps.skip Z Z Z ?_
   refine R.pick_f ⟨Z,Z,Z,Z⟩ Z Z ?_
   refine R.assign ⟨Z,Z,Z,Z⟩ Z ?_
   refine GOps.nil ?_
   refine GW.ret (Out.of (Res.one Z Z) hsA ⟨?_, Z⟩)
   refine vb ?_; unfold mayPt; simp_all
 ·try simp only [dcQ] at hg1
  refine GOps.skip Z Z Z ?_
  refine GOps.skip Z Z Z ?_
  refine GOps.skip Z Z Z ?_
  refine R.pick_f ⟨Z,Z,Z,Z⟩ Z Z ?_
  refine R.move ⟨Z,Z,Z,Z⟩ Z ?_
  refine GOps.skip Z Z Z ?_
  refine GOps.skip Z Z Z ?_
  refine GOps.skip Z Z Z ?_
  refine R.pick_f ⟨Z,Z,Z,Z⟩ Z Z ?_
  refine R.assign ⟨Z,Z,Z,Z⟩ Z ?_
  refine GOps.nil ?_
  refine GW.ret (Out.of (Res.one Z Z) hsA ⟨?_, Z⟩)
  refine vb ?_; unfold mayPt; simp_all
theorem ref_pattern (w0 : World) (G : Hp) (p : Pt) (h : PtOk p) : GC Tryz.prog w0 47 #[.agg (PtC p).toArray] (fun v G' => v = .bool (mayPt p) ∧ G = G') G := by
 refine GC.body (args := [.agg (PtC p).toArray]) Tryz.func47 rfl (by kernel_rfl) rfl ?_
 refine GW.seq ?_
 refine GW.region ?_
 refine R.box ⟨Z,Z,Z,Z⟩ Z fun b1 => ?_
 refine R.assign ⟨Z,Z,Z,Z⟩ Z ?_
 refine GOps.nil ?_
 refine GW.seq ?_
 refine GW.region ?_
 refine R.indexAddrA ⟨Z,Z,Z,Z⟩ Z Z Tryz.underlying28 Tryz.sizeOf26 (by omega) (by omega) ?_
 refine R.load_own (cs := SlC p.s0) ⟨Z,Z,Z,Z⟩ Z Tryz.underlying26 Z Tryz.sizeOf26 memG (by rfl) (by rfl) ?_
 refine R.call ⟨Z,Z,Z,Z⟩ Z (vs := [_]) Z ((ref_MaySlot _ _ p.s0 h.1).mono ?_)
 rintro _ _ ⟨rfl, rfl⟩
 refine R.move ⟨Z,Z,Z,Z⟩ Z ?_
 refine GOps.caseB 6 Z (fun hg1 => ?_) (fun hg1 => ?_)
 ·try simp only [dcQ] at hg1
  refine R.indexAddrA ⟨Z,Z,Z,Z⟩ Z Z Tryz.underlying28 Tryz.sizeOf26 (by omega) (by omega) ?_
  refine R.load_own (cs := SlC p.s1) ⟨Z,Z,Z,Z⟩ Z Tryz.underlying26 Z Tryz.sizeOf26 memG (by rfl) (by rfl) ?_
  refine R.call ⟨Z,Z,Z,Z⟩ Z (vs := [_]) Z ((ref_MaySlot _ _ p.s1 h.2.1).mono ?_)
  rintro _ _ ⟨rfl, rfl⟩
  refine R.pick_t ⟨Z,Z,Z,Z⟩ Z Z ?_
  refine R.move ⟨Z,Z,Z,Z⟩ Z ?_
  refine GOps.caseB 11 Z (fun hg2 => ?_) (fun hg2 => ?_)
  ·try simp only [dcQ] at hg2
   refine R.indexAddrA ⟨Z,Z,Z,Z⟩ Z Z Tryz.underlying28 Tryz.sizeOf26 (by omega) (by omega) ?_
   refine R.load_own (cs := SlC p.s2) ⟨Z,Z,Z,Z⟩ Z Tryz.underlying26 Z Tryz.sizeOf26 memG (by rfl) (by rfl) ?_
   refine R.call ⟨Z,Z,Z,Z⟩ Z (vs := [_]) Z ((ref_MaySlot _ _ p.s2 h.2.2).mono ?_)
   rintro _ _ ⟨rfl, rfl⟩
   refine R.pick_t ⟨Z,Z,Z,Z⟩ Z Z ?_
   refine R.assign ⟨Z,Z,Z,Z⟩ Z ?_
   refine GOps.nil ?_
   refine GW.ret (Out.of (Res.one Z Z) hsA ⟨?_, Z⟩)
   refine vb ?_; unfold mayPt; simp_all
  ·try simp only [dcQ] at hg2
   refine GOps.skip Z Z Z ?_
   refine GOps.skip Z Z Z ?_
   refine GOps.skip Z Z Z ?_
   refine R.pick_f ⟨Z,Z,Z,Z⟩ Z Z ?_
   refine R.assign ⟨Z,Z,Z,Z⟩ Z ?_
   refine GOps.nil ?_
   refine GW.ret (Out.of (Res.one Z Z) hsA ⟨?_, Z⟩)
   refine vb ?_; unfold mayPt; simp_all
 ·try simp only [dcQ] at hg1
  refine GOps.skip Z Z Z ?_
  refine GOps.skip Z Z Z ?_
  refine GOps.skip Z Z Z ?_
  refine R.pick_f ⟨Z,Z,Z,Z⟩ Z Z ?_
  refine R.move ⟨Z,Z,Z,Z⟩ Z ?_
  refine GOps.skip Z Z Z ?_
  refine GOps.skip Z Z Z ?_
  refine GOps.skip Z Z Z ?_
  refine R.pick_f ⟨Z,Z,Z,Z⟩ Z Z ?_
  refine R.assign ⟨Z,Z,Z,Z⟩ Z ?_
  refine GOps.nil ?_
  refine GW.ret (Out.of (Res.one Z Z) hsA ⟨?_, Z⟩)
  refine vb ?_; unfold mayPt; simp_all
theorem rules_part (w0 : World) (G : Hp) (l : Lt) (h : LtOk l) : GC Tryz.prog w0 84 #[.agg (LtC l).toArray] (fun v G' => v = .bool (mayLt l) ∧ G = G') G := by
 refine GC.body (args := [.agg (LtC l).toArray]) Tryz.func84 rfl (by kernel_rfl) rfl ?_
 refine GW.seq ?_
 refine GW.region ?_
 refine R.box ⟨Z,Z,Z,Z⟩ Z fun b1 => ?_
 refine R.assign ⟨Z,Z,Z,Z⟩ Z ?_
 refine GOps.nil ?_
 refine GW.seq ?_
 refine GW.seq ?_
 refine GW.region ?_
 refine R.fieldAddr ⟨Z,Z,Z,Z⟩ Z Tryz.underlying89 Z Tryz.sizeOf87 ?_
 refine R.load1 ⟨Z,Z,Z,Z⟩ Z Tryz.underlying87 Z (.own' memG (by rfl)) ?_
 refine GOps.nil ?_
 refine GW.block ?_
 refine GW.seq ?_
 refine GW.seq ?_
 refine GW.region ?_
 refine R.eqI ⟨Z,Z,Z,Z⟩ Z Z ?_
 refine R.assign ⟨Z,Z,Z,Z⟩ Z ?_
 refine GOps.nil ?_
 refine GW.ite Z (fun hc1 => ?_) (fun hc1 => ?_)
 ·try simp only [dcQ] at hc1
  refine GW.skip ?_
  refine GW.ite Z (fun hc2 => ?_) (fun hc2 => ?_)
  ·try simp only [dcQ] at hc2
   refine GW.seq ?_
   refine GW.region ?_
   refine R.fieldAddr ⟨Z,Z,Z,Z⟩ Z Tryz.underlying89 Z Tryz.sizeOf28 ?_
   refine R.load_own (cs := PtC l.pat) ⟨Z,Z,Z,Z⟩ Z Tryz.underlying28 Z Tryz.sizeOf28 memG (by rfl) (by rfl) ?_
   refine R.call ⟨Z,Z,Z,Z⟩ Z (vs := [_]) Z ((rules_pattern _ _ l.pat h.1).mono ?_)
   rintro _ _ ⟨rfl, rfl⟩
   refine R.move ⟨Z,Z,Z,Z⟩ Z ?_
   refine GOps.caseB 11 Z (fun hg3 => ?_) (fun hg3 => ?_)
   ·try simp only [dcQ] at hg3
    refine R.fieldAddr ⟨Z,Z,Z,Z⟩ Z Tryz.underlying89 Z Tryz.sizeOf26 ?_
    refine R.load_own (cs := SlC l.a) ⟨Z,Z,Z,Z⟩ Z Tryz.underlying26 Z Tryz.sizeOf26 memG (by rfl) (by rfl) ?_
    refine R.build (vs := []) (cells := (SlC zSl).toArray) ⟨Z,Z,Z,Z⟩ Z (fun w => run_build w 26 _ _ (by kernel_rfl)) ?_
    refine R.eqA ⟨Z,Z,Z,Z⟩ Z Z (guard_of g26) (equal_of 9990 Z (run_eqSl 9997 _ _)) ?_
    refine R.pick_t ⟨Z,Z,Z,Z⟩ Z Z ?_
    refine R.move ⟨Z,Z,Z,Z⟩ Z ?_
    refine GOps.caseB 17 Z (fun hg4 => ?_) (fun hg4 => ?_)
    ·try simp only [dcQ] at hg4
     refine R.fieldAddr ⟨Z,Z,Z,Z⟩ Z Tryz.underlying89 Z Tryz.sizeOf26 ?_
     refine R.load_own (cs := SlC l.b) ⟨Z,Z,Z,Z⟩ Z Tryz.underlying26 Z Tryz.sizeOf26 memG (by rfl) (by rfl) ?_
     refine R.build (vs := []) (cells := (SlC zSl).toArray) ⟨Z,Z,Z,Z⟩ Z (fun w => run_build w 26 _ _ (by kernel_rfl)) ?_
     refine R.eqA ⟨Z,Z,Z,Z⟩ Z Z (guard_of g26) (equal_of 9990 Z (run_eqSl 9997 _ _)) ?_
     refine R.pick_t ⟨Z,Z,Z,Z⟩ Z Z ?_
     refine R.assign ⟨Z,Z,Z,Z⟩ Z ?_
     refine GOps.nil ?_
     refine GW.ret (Out.of (Res.one Z Z) hsA ⟨?_, Z⟩)
     refine vb ?_; unfold mayLt; simp_all
    ·try simp only [dcQ] at hg4
     refine GOps.skip Z Z Z ?_
     refine GOps.skip Z Z Z ?_
     refine GOps.skip Z Z Z ?_
     refine GOps.skip Z Z Z ?_
     refine R.pick_f ⟨Z,Z,Z,Z⟩ Z Z ?_
     refine R.assign ⟨Z,Z,Z,Z⟩ Z ?_
     refine GOps.nil ?_
     refine GW.ret (Out.of (Res.one Z Z) hsA ⟨?_, Z⟩)
     refine vb ?_; unfold mayLt; simp_all
   ·try simp only [dcQ] at hg3
    refine GOps.skip Z Z Z ?_
    refine GOps.skip Z Z Z ?_
    refine GOps.skip Z Z Z ?_
    refine GOps.skip Z Z Z ?_
    refine R.pick_f ⟨Z,Z,Z,Z⟩ Z Z ?_
    refine R.move ⟨Z,Z,Z,Z⟩ Z ?_
    refine GOps.skip Z Z Z ?_
    refine GOps.skip Z Z Z ?_
    refine GOps.skip Z Z Z ?_
    refine GOps.skip Z Z Z ?_
    refine R.pick_f ⟨Z,Z,Z,Z⟩ Z Z ?_
    refine R.assign ⟨Z,Z,Z,Z⟩ Z ?_
    refine GOps.nil ?_
    refine GW.ret (Out.of (Res.one Z Z) hsA ⟨?_, Z⟩)
    refine vb ?_; unfold mayLt; simp_all
  ·try simp only [dcQ] at hc2
   refine GW.seq ?_
   refine GW.seq ?_
   refine GW.region ?_
   refine R.eqI ⟨Z,Z,Z,Z⟩ Z Z ?_
   refine R.assign ⟨Z,Z,Z,Z⟩ Z ?_
   refine GOps.nil ?_
   refine GW.ite Z (fun hc5 => ?_) (fun hc5 => ?_)
   ·try simp only [dcQ] at hc5
    refine GW.skip ?_
    refine GW.ite Z (fun hc6 => ?_) (fun hc6 => ?_)
    ·try simp only [dcQ] at hc6
     refine GW.seq ?_
     refine GW.region ?_
     refine R.fieldAddr ⟨Z,Z,Z,Z⟩ Z Tryz.underlying89 Z Tryz.sizeOf28 ?_
     refine R.load_own (cs := PtC l.pat) ⟨Z,Z,Z,Z⟩ Z Tryz.underlying28 Z Tryz.sizeOf28 memG (by rfl) (by rfl) ?_
     refine R.build (vs := []) (cells := (PtC zPt).toArray) ⟨Z,Z,Z,Z⟩ Z (fun w => run_build w 28 _ _ (by kernel_rfl)) ?_
     refine R.eqA ⟨Z,Z,Z,Z⟩ Z Z (guard_of g28) (equal_of 9990 Z (run_eqPt 28 Tryz.underlying28 9996 _ _)) ?_
     refine R.move ⟨Z,Z,Z,Z⟩ Z ?_
     refine GOps.caseB 30 Z (fun hg7 => ?_) (fun hg7 => ?_)
     ·try simp only [dcQ] at hg7
      refine R.fieldAddr ⟨Z,Z,Z,Z⟩ Z Tryz.underlying89 Z Tryz.sizeOf26 ?_
      refine R.load_own (cs := SlC l.a) ⟨Z,Z,Z,Z⟩ Z Tryz.underlying26 Z Tryz.sizeOf26 memG (by rfl) (by rfl) ?_
      refine R.call ⟨Z,Z,Z,Z⟩ Z (vs := [_]) Z ((rules_MaySlot _ _ l.a h.2.1).mono ?_)
      rintro _ _ ⟨rfl, rfl⟩
      refine R.pick_t ⟨Z,Z,Z,Z⟩ Z Z ?_
      refine R.move ⟨Z,Z,Z,Z⟩ Z ?_
      refine GOps.caseB 35 Z (fun hg8 => ?_) (fun hg8 => ?_)
      ·try simp only [dcQ] at hg8
       refine R.fieldAddr ⟨Z,Z,Z,Z⟩ Z Tryz.underlying89 Z Tryz.sizeOf26 ?_
       refine R.load_own (cs := SlC l.b) ⟨Z,Z,Z,Z⟩ Z Tryz.underlying26 Z Tryz.sizeOf26 memG (by rfl) (by rfl) ?_
       refine R.call ⟨Z,Z,Z,Z⟩ Z (vs := [_]) Z ((rules_MaySlot _ _ l.b h.2.2).mono ?_)
       rintro _ _ ⟨rfl, rfl⟩
       refine R.pick_t ⟨Z,Z,Z,Z⟩ Z Z ?_
       refine R.assign ⟨Z,Z,Z,Z⟩ Z ?_
       refine GOps.nil ?_
       refine GW.ret (Out.of (Res.one Z Z) hsA ⟨?_, Z⟩)
       refine vb ?_; unfold mayLt; simp_all
      ·try simp only [dcQ] at hg8
       refine GOps.skip Z Z Z ?_
       refine GOps.skip Z Z Z ?_
       refine GOps.skip Z Z Z ?_
       refine R.pick_f ⟨Z,Z,Z,Z⟩ Z Z ?_
       refine R.assign ⟨Z,Z,Z,Z⟩ Z ?_
       refine GOps.nil ?_
       refine GW.ret (Out.of (Res.one Z Z) hsA ⟨?_, Z⟩)
       refine vb ?_; unfold mayLt; simp_all
     ·try simp only [dcQ] at hg7
      refine GOps.skip Z Z Z ?_
      refine GOps.skip Z Z Z ?_
      refine GOps.skip Z Z Z ?_
      refine R.pick_f ⟨Z,Z,Z,Z⟩ Z Z ?_
      refine R.move ⟨Z,Z,Z,Z⟩ Z ?_
      refine GOps.skip Z Z Z ?_
      refine GOps.skip Z Z Z ?_
      refine GOps.skip Z Z Z ?_
      refine R.pick_f ⟨Z,Z,Z,Z⟩ Z Z ?_
      refine R.assign ⟨Z,Z,Z,Z⟩ Z ?_
      refine GOps.nil ?_
      refine GW.ret (Out.of (Res.one Z Z) hsA ⟨?_, Z⟩)
      refine vb ?_; unfold mayLt; simp_all
    ·try simp only [dcQ] at hc6
     refine GW.skip ?_
     refine GW.seq ?_
     refine GW.region ?_
     refine R.assign ⟨Z,Z,Z,Z⟩ Z ?_
     refine GOps.nil ?_
     refine GW.ret (Out.of (Res.one Z Z) hsA ⟨?_, Z⟩)
     refine vb ?_; unfold mayLt; simp_all
   ·try simp only [dcQ] at hc5
    refine GW.region ?_
    refine R.eqI ⟨Z,Z,Z,Z⟩ Z Z ?_
    refine R.assign ⟨Z,Z,Z,Z⟩ Z ?_
    refine GOps.nil ?_
    refine GW.ite Z (fun hc9 => ?_) (fun hc9 => ?_)
    ·try simp only [dcQ] at hc9
     refine GW.seq ?_
     refine GW.region ?_
     refine R.fieldAddr ⟨Z,Z,Z,Z⟩ Z Tryz.underlying89 Z Tryz.sizeOf28 ?_
     refine R.load_own (cs := PtC l.pat) ⟨Z,Z,Z,Z⟩ Z Tryz.underlying28 Z Tryz.sizeOf28 memG (by rfl) (by rfl) ?_
     refine R.build (vs := []) (cells := (PtC zPt).toArray) ⟨Z,Z,Z,Z⟩ Z (fun w => run_build w 28 _ _ (by kernel_rfl)) ?_
     refine R.eqA ⟨Z,Z,Z,Z⟩ Z Z (guard_of g28) (equal_of 9990 Z (run_eqPt 28 Tryz.underlying28 9996 _ _)) ?_
     refine R.move ⟨Z,Z,Z,Z⟩ Z ?_
     refine GOps.caseB 30 Z (fun hg10 => ?_) (fun hg10 => ?_)
     ·try simp only [dcQ] at hg10
      refine R.fieldAddr ⟨Z,Z,Z,Z⟩ Z Tryz.underlying89 Z Tryz.sizeOf26 ?_
      refine R.load_own (cs := SlC l.a) ⟨Z,Z,Z,Z⟩ Z Tryz.underlying26 Z Tryz.sizeOf26 memG (by rfl) (by rfl) ?_
      refine R.call ⟨Z,Z,Z,Z⟩ Z (vs := [_]) Z ((rules_MaySlot _ _ l.a h.2.1).mono ?_)
      rintro _ _ ⟨rfl, rfl⟩
      refine R.pick_t ⟨Z,Z,Z,Z⟩ Z Z ?_
      refine R.move ⟨Z,Z,Z,Z⟩ Z ?_
      refine GOps.caseB 35 Z (fun hg11 => ?_) (fun hg11 => ?_)
      ·try simp only [dcQ] at hg11
       refine R.fieldAddr ⟨Z,Z,Z,Z⟩ Z Tryz.underlying89 Z Tryz.sizeOf26 ?_
       refine R.load_own (cs := SlC l.b) ⟨Z,Z,Z,Z⟩ Z Tryz.underlying26 Z Tryz.sizeOf26 memG (by rfl) (by rfl) ?_
       refine R.call ⟨Z,Z,Z,Z⟩ Z (vs := [_]) Z ((rules_MaySlot _ _ l.b h.2.2).mono ?_)
       rintro _ _ ⟨rfl, rfl⟩
       refine R.pick_t ⟨Z,Z,Z,Z⟩ Z Z ?_
       refine R.assign ⟨Z,Z,Z,Z⟩ Z ?_
       refine GOps.nil ?_
       refine GW.ret (Out.of (Res.one Z Z) hsA ⟨?_, Z⟩)
       refine vb ?_; unfold mayLt; simp_all
      ·try simp only [dcQ] at hg11
       refine GOps.skip Z Z Z ?_
       refine GOps.skip Z Z Z ?_
       refine GOps.skip Z Z Z ?_
       refine R.pick_f ⟨Z,Z,Z,Z⟩ Z Z ?_
       refine R.assign ⟨Z,Z,Z,Z⟩ Z ?_
       refine GOps.nil ?_
       refine GW.ret (Out.of (Res.one Z Z) hsA ⟨?_, Z⟩)
       refine vb ?_; unfold mayLt; simp_all
     ·try simp only [dcQ] at hg10
      refine GOps.skip Z Z Z ?_
      refine GOps.skip Z Z Z ?_
      refine GOps.skip Z Z Z ?_
      refine R.pick_f ⟨Z,Z,Z,Z⟩ Z Z ?_
      refine R.move ⟨Z,Z,Z,Z⟩ Z ?_
      refine GOps.skip Z Z Z ?_
      refine GOps.skip Z Z Z ?_
      refine GOps.skip Z Z Z ?_
      refine R.pick_f ⟨Z,Z,Z,Z⟩ Z Z ?_
      refine R.assign ⟨Z,Z,Z,Z⟩ Z ?_
      refine GOps.nil ?_
      refine GW.ret (Out.of (Res.one Z Z) hsA ⟨?_, Z⟩)
      refine vb ?_; unfold mayLt; simp_all
    ·try simp only [dcQ] at hc9
     refine GW.skip ?_
     refine GW.seq ?_
     refine GW.region ?_
     refine R.assign ⟨Z,Z,Z,Z⟩ Z ?_
     refine GOps.nil ?_
     refine GW.ret (Out.of (Res.one Z Z) hsA ⟨?_, Z⟩)
     refine vb ?_; unfold mayLt; simp_all
 ·try simp only [dcQ] at hc1
  refine GW.region ?_
  refine R.eqI ⟨Z,Z,Z,Z⟩ Z Z ?_
  refine R.assign ⟨Z,Z,Z,Z⟩ Z ?_
  refine GOps.nil ?_
  refine GW.ite Z (fun hc12 => ?_) (fun hc12 => ?_)
  ·try simp only [dcQ] at hc12
   refine GW.seq ?_
   refine GW.region ?_
   refine R.fieldAddr ⟨Z,Z,Z,Z⟩ Z Tryz.underlying89 Z Tryz.sizeOf28 ?_
   refine R.load_own (cs := PtC l.pat) ⟨Z,Z,Z,Z⟩ Z Tryz.underlying28 Z Tryz.sizeOf28 memG (by rfl) (by rfl) ?_
   refine R.call ⟨Z,Z,Z,Z⟩ Z (vs := [_]) Z ((rules_pattern _ _ l.pat h.1).mono ?_)
   rintro _ _ ⟨rfl, rfl⟩
   refine R.move ⟨Z,Z,Z,Z⟩ Z ?_
   refine GOps.caseB 11 Z (fun hg13 => ?_) (fun hg13 => ?_)
   ·try simp only [dcQ] at hg13
    refine R.fieldAddr ⟨Z,Z,Z,Z⟩ Z Tryz.underlying89 Z Tryz.sizeOf26 ?_
    refine R.load_own (cs := SlC l.a) ⟨Z,Z,Z,Z⟩ Z Tryz.underlying26 Z Tryz.sizeOf26 memG (by rfl) (by rfl) ?_
    refine R.build (vs := []) (cells := (SlC zSl).toArray) ⟨Z,Z,Z,Z⟩ Z (fun w => run_build w 26 _ _ (by kernel_rfl)) ?_
    refine R.eqA ⟨Z,Z,Z,Z⟩ Z Z (guard_of g26) (equal_of 9990 Z (run_eqSl 9997 _ _)) ?_
    refine R.pick_t ⟨Z,Z,Z,Z⟩ Z Z ?_
    refine R.move ⟨Z,Z,Z,Z⟩ Z ?_
    refine GOps.caseB 17 Z (fun hg14 => ?_) (fun hg14 => ?_)
    ·try simp only [dcQ] at hg14
     refine R.fieldAddr ⟨Z,Z,Z,Z⟩ Z Tryz.underlying89 Z Tryz.sizeOf26 ?_
     refine R.load_own (cs := SlC l.b) ⟨Z,Z,Z,Z⟩ Z Tryz.underlying26 Z Tryz.sizeOf26 memG (by rfl) (by rfl) ?_
     refine R.build (vs := []) (cells := (SlC zSl).toArray) ⟨Z,Z,Z,Z⟩ Z (fun w => run_build w 26 _ _ (by kernel_rfl)) ?_
     refine R.eqA ⟨Z,Z,Z,Z⟩ Z Z (guard_of g26) (equal_of 9990 Z (run_eqSl 9997 _ _)) ?_
     refine R.pick_t ⟨Z,Z,Z,Z⟩ Z Z ?_
     refine R.assign ⟨Z,Z,Z,Z⟩ Z ?_
     refine GOps.nil ?_
     refine GW.ret (Out.of (Res.one Z Z) hsA ⟨?_, Z⟩)
     refine vb ?_; unfold mayLt; simp_all
    ·try simp only [dcQ] at hg14
     refine GOps.skip Z Z Z ?_
     refine GOps.skip Z Z Z ?_
     refine GOps.skip Z Z Z ?_
     refine GOps.skip Z Z Z ?_
     refine R.pick_f ⟨Z,Z,Z,Z⟩ Z Z ?_
     refine R.assign ⟨Z,Z,Z,Z⟩ Z ?_
     refine GOps.nil ?_
     refine GW.ret (Out.of (Res.one Z Z) hsA ⟨?_, Z⟩)
     refine vb ?_; unfold mayLt; simp_all
   ·try simp only [dcQ] at hg13
    refine GOps.skip Z Z Z ?_
    refine GOps.skip Z Z Z ?_
    refine GOps.skip Z Z Z ?_
    refine GOps.skip Z Z Z ?_
    refine R.pick_f ⟨Z,Z,Z,Z⟩ Z Z ?_
    refine R.move ⟨Z,Z,Z,Z⟩ Z ?_
    refine GOps.skip Z Z Z ?_
    refine GOps.skip Z Z Z ?_
    refine GOps.skip Z Z Z ?_
    refine GOps.skip Z Z Z ?_
    refine R.pick_f ⟨Z,Z,Z,Z⟩ Z Z ?_
    refine R.assign ⟨Z,Z,Z,Z⟩ Z ?_
    refine GOps.nil ?_
    refine GW.ret (Out.of (Res.one Z Z) hsA ⟨?_, Z⟩)
    refine vb ?_; unfold mayLt; simp_all
  ·try simp only [dcQ] at hc12
   refine GW.seq ?_
   refine GW.seq ?_
   refine GW.region ?_
   refine R.eqI ⟨Z,Z,Z,Z⟩ Z Z ?_
   refine R.assign ⟨Z,Z,Z,Z⟩ Z ?_
   refine GOps.nil ?_
   refine GW.ite Z (fun hc15 => ?_) (fun hc15 => ?_)
   ·try simp only [dcQ] at hc15
    refine GW.skip ?_
    refine GW.ite Z (fun hc16 => ?_) (fun hc16 => ?_)
    ·try simp only [dcQ] at hc16
     refine GW.seq ?_
     refine GW.region ?_
     refine R.fieldAddr ⟨Z,Z,Z,Z⟩ Z Tryz.underlying89 Z Tryz.sizeOf28 ?_
     refine R.load_own (cs := PtC l.pat) ⟨Z,Z,Z,Z⟩ Z Tryz.underlying28 Z Tryz.sizeOf28 memG (by rfl) (by rfl) ?_
     refine R.build (vs := []) (cells := (PtC zPt).toArray) ⟨Z,Z,Z,Z⟩ Z (fun w => run_build w 28 _ _ (by kernel_rfl)) ?_
     refine R.eqA ⟨Z,Z,Z,Z⟩ Z Z (guard_of g28) (equal_of 9990 Z (run_eqPt 28 Tryz.underlying28 9996 _ _)) ?_
     refine R.move ⟨Z,Z,Z,Z⟩ Z ?_
     refine GOps.caseB 30 Z (fun hg17 => ?_) (fun hg17 => ?_)
     ·try simp only [dcQ] at hg17
      refine R.fieldAddr ⟨Z,Z,Z,Z⟩ Z Tryz.underlying89 Z Tryz.sizeOf26 ?_
      refine R.load_own (cs := SlC l.a) ⟨Z,Z,Z,Z⟩ Z Tryz.underlying26 Z Tryz.sizeOf26 memG (by rfl) (by rfl) ?_
      refine R.call ⟨Z,Z,Z,Z⟩ Z (vs := [_]) Z ((rules_MaySlot _ _ l.a h.2.1).mono ?_)
      rintro _ _ ⟨rfl, rfl⟩
      refine R.pick_t ⟨Z,Z,Z,Z⟩ Z Z ?_
      refine R.move ⟨Z,Z,Z,Z⟩ Z ?_
      refine GOps.caseB 35 Z (fun hg18 => ?_) (fun hg18 => ?_)
      ·try simp only [dcQ] at hg18
       refine R.fieldAddr ⟨Z,Z,Z,Z⟩ Z Tryz.underlying89 Z Tryz.sizeOf26 ?_
       refine R.load_own (cs := SlC l.b) ⟨Z,Z,Z,Z⟩ Z Tryz.underlying26 Z Tryz.sizeOf26 memG (by rfl) (by rfl) ?_
       refine R.call ⟨Z,Z,Z,Z⟩ Z (vs := [_]) Z ((rules_MaySlot _ _ l.b h.2.2).mono ?_)
       rintro _ _ ⟨rfl, rfl⟩
       refine R.pick_t ⟨Z,Z,Z,Z⟩ Z Z ?_
       refine R.assign ⟨Z,Z,Z,Z⟩ Z ?_
       refine GOps.nil ?_
       refine GW.ret (Out.of (Res.one Z Z) hsA ⟨?_, Z⟩)
       refine vb ?_; unfold mayLt; simp_all
      ·try simp only [dcQ] at hg18
       refine GOps.skip Z Z Z ?_
       refine GOps.skip Z Z Z ?_
       refine GOps.skip Z Z Z ?_
       refine R.pick_f ⟨Z,Z,Z,Z⟩ Z Z ?_
       refine R.assign ⟨Z,Z,Z,Z⟩ Z ?_
       refine GOps.nil ?_
       refine GW.ret (Out.of (Res.one Z Z) hsA ⟨?_, Z⟩)
       refine vb ?_; unfold mayLt; simp_all
     ·try simp only [dcQ] at hg17
      refine GOps.skip Z Z Z ?_
      refine GOps.skip Z Z Z ?_
      refine GOps.skip Z Z Z ?_
      refine R.pick_f ⟨Z,Z,Z,Z⟩ Z Z ?_
      refine R.move ⟨Z,Z,Z,Z⟩ Z ?_
      refine GOps.skip Z Z Z ?_
      refine GOps.skip Z Z Z ?_
      refine GOps.skip Z Z Z ?_
      refine R.pick_f ⟨Z,Z,Z,Z⟩ Z Z ?_
      refine R.assign ⟨Z,Z,Z,Z⟩ Z ?_
      refine GOps.nil ?_
      refine GW.ret (Out.of (Res.one Z Z) hsA ⟨?_, Z⟩)
      refine vb ?_; unfold mayLt; simp_all
    ·try simp only [dcQ] at hc16
     refine GW.skip ?_
     refine GW.seq ?_
     refine GW.region ?_
     refine R.assign ⟨Z,Z,Z,Z⟩ Z ?_
     refine GOps.nil ?_
     refine GW.ret (Out.of (Res.one Z Z) hsA ⟨?_, Z⟩)
     refine vb ?_; unfold mayLt; simp_all
   ·try simp only [dcQ] at hc15
    refine GW.region ?_
    refine R.eqI ⟨Z,Z,Z,Z⟩ Z Z ?_
    refine R.assign ⟨Z,Z,Z,Z⟩ Z ?_
    refine GOps.nil ?_
    refine GW.ite Z (fun hc19 => ?_) (fun hc19 => ?_)
    ·try simp only [dcQ] at hc19
     refine GW.seq ?_
     refine GW.region ?_
     refine R.fieldAddr ⟨Z,Z,Z,Z⟩ Z Tryz.underlying89 Z Tryz.sizeOf28 ?_
     refine R.load_own (cs := PtC l.pat) ⟨Z,Z,Z,Z⟩ Z Tryz.underlying28 Z Tryz.sizeOf28 memG (by rfl) (by rfl) ?_
     refine R.build (vs := []) (cells := (PtC zPt).toArray) ⟨Z,Z,Z,Z⟩ Z (fun w => run_build w 28 _ _ (by kernel_rfl)) ?_
     refine R.eqA ⟨Z,Z,Z,Z⟩ Z Z (guard_of g28) (equal_of 9990 Z (run_eqPt 28 Tryz.underlying28 9996 _ _)) ?_
     refine R.move ⟨Z,Z,Z,Z⟩ Z ?_
     refine GOps.caseB 30 Z (fun hg20 => ?_) (fun hg20 => ?_)
     ·try simp only [dcQ] at hg20
      refine R.fieldAddr ⟨Z,Z,Z,Z⟩ Z Tryz.underlying89 Z Tryz.sizeOf26 ?_
      refine R.load_own (cs := SlC l.a) ⟨Z,Z,Z,Z⟩ Z Tryz.underlying26 Z Tryz.sizeOf26 memG (by rfl) (by rfl) ?_
      refine R.call ⟨Z,Z,Z,Z⟩ Z (vs := [_]) Z ((rules_MaySlot _ _ l.a h.2.1).mono ?_)
      rintro _ _ ⟨rfl, rfl⟩
      refine R.pick_t ⟨Z,Z,Z,Z⟩ Z Z ?_
      refine R.move ⟨Z,Z,Z,Z⟩ Z ?_
      refine GOps.caseB 35 Z (fun hg21 => ?_) (fun hg21 => ?_)
      ·try simp only [dcQ] at hg21
       refine R.fieldAddr ⟨Z,Z,Z,Z⟩ Z Tryz.underlying89 Z Tryz.sizeOf26 ?_
       refine R.load_own (cs := SlC l.b) ⟨Z,Z,Z,Z⟩ Z Tryz.underlying26 Z Tryz.sizeOf26 memG (by rfl) (by rfl) ?_
       refine R.call ⟨Z,Z,Z,Z⟩ Z (vs := [_]) Z ((rules_MaySlot _ _ l.b h.2.2).mono ?_)
       rintro _ _ ⟨rfl, rfl⟩
       refine R.pick_t ⟨Z,Z,Z,Z⟩ Z Z ?_
       refine R.assign ⟨Z,Z,Z,Z⟩ Z ?_
       refine GOps.nil ?_
       refine GW.ret (Out.of (Res.one Z Z) hsA ⟨?_, Z⟩)
       refine vb ?_; unfold mayLt; simp_all
      ·try simp only [dcQ] at hg21
       refine GOps.skip Z Z Z ?_
       refine GOps.skip Z Z Z ?_
       refine GOps.skip Z Z Z ?_
       refine R.pick_f ⟨Z,Z,Z,Z⟩ Z Z ?_
       refine R.assign ⟨Z,Z,Z,Z⟩ Z ?_
       refine GOps.nil ?_
       refine GW.ret (Out.of (Res.one Z Z) hsA ⟨?_, Z⟩)
       refine vb ?_; unfold mayLt; simp_all
     ·try simp only [dcQ] at hg20
      refine GOps.skip Z Z Z ?_
      refine GOps.skip Z Z Z ?_
      refine GOps.skip Z Z Z ?_
      refine R.pick_f ⟨Z,Z,Z,Z⟩ Z Z ?_
      refine R.move ⟨Z,Z,Z,Z⟩ Z ?_
      refine GOps.skip Z Z Z ?_
      refine GOps.skip Z Z Z ?_
      refine GOps.skip Z Z Z ?_
      refine R.pick_f ⟨Z,Z,Z,Z⟩ Z Z ?_
      refine R.assign ⟨Z,Z,Z,Z⟩ Z ?_
      refine GOps.nil ?_
      refine GW.ret (Out.of (Res.one Z Z) hsA ⟨?_, Z⟩)
      refine vb ?_; unfold mayLt; simp_all
    ·try simp only [dcQ] at hc19
     refine GW.skip ?_
     refine GW.seq ?_
     refine GW.region ?_
     refine R.assign ⟨Z,Z,Z,Z⟩ Z ?_
     refine GOps.nil ?_
     refine GW.ret (Out.of (Res.one Z Z) hsA ⟨?_, Z⟩)
     refine vb ?_; unfold mayLt; simp_all
theorem ref_MayPart (w0 : World) (G : Hp) (l : Lt) (h : LtOk l) : GC Tryz.prog w0 44 #[.agg (LtC l).toArray] (fun v G' => v = .bool (mayLt l) ∧ G = G') G := by
 refine GC.body (args := [.agg (LtC l).toArray]) Tryz.func44 rfl (by kernel_rfl) rfl ?_
 refine GW.seq ?_
 refine GW.region ?_
 refine R.box ⟨Z,Z,Z,Z⟩ Z fun b1 => ?_
 refine R.assign ⟨Z,Z,Z,Z⟩ Z ?_
 refine GOps.nil ?_
 refine GW.seq ?_
 refine GW.seq ?_
 refine GW.region ?_
 refine R.fieldAddr ⟨Z,Z,Z,Z⟩ Z Tryz.underlying89 Z Tryz.sizeOf87 ?_
 refine R.load1 ⟨Z,Z,Z,Z⟩ Z Tryz.underlying87 Z (.own' memG (by rfl)) ?_
 refine R.eqI ⟨Z,Z,Z,Z⟩ Z Z ?_
 refine R.move ⟨Z,Z,Z,Z⟩ Z ?_
 refine GOps.caseB 6 Z (fun hg1 => ?_) (fun hg1 => ?_)
 ·try simp only [dcQ] at hg1
  refine GOps.skip Z Z Z ?_
  refine GOps.skip Z Z Z ?_
  refine GOps.skip Z Z Z ?_
  refine R.pick_t ⟨Z,Z,Z,Z⟩ Z Z ?_
  refine GOps.nil ?_
  refine GW.cond_t Z ?_
  refine GW.seq ?_
  refine GW.region ?_
  refine R.fieldAddr ⟨Z,Z,Z,Z⟩ Z Tryz.underlying89 Z Tryz.sizeOf28 ?_
  refine R.load_own (cs := PtC l.pat) ⟨Z,Z,Z,Z⟩ Z Tryz.underlying28 Z Tryz.sizeOf28 memG (by rfl) (by rfl) ?_
  refine R.call ⟨Z,Z,Z,Z⟩ Z (vs := [_]) Z ((ref_pattern _ _ l.pat h.1).mono ?_)
  rintro _ _ ⟨rfl, rfl⟩
  refine R.move ⟨Z,Z,Z,Z⟩ Z ?_
  refine GOps.caseB 14 Z (fun hg2 => ?_) (fun hg2 => ?_)
  ·try simp only [dcQ] at hg2
   refine R.fieldAddr ⟨Z,Z,Z,Z⟩ Z Tryz.underlying89 Z Tryz.sizeOf26 ?_
   refine R.load_own (cs := SlC l.a) ⟨Z,Z,Z,Z⟩ Z Tryz.underlying26 Z Tryz.sizeOf26 memG (by rfl) (by rfl) ?_
   refine R.build (vs := []) (cells := (SlC zSl).toArray) ⟨Z,Z,Z,Z⟩ Z (fun w => run_build w 26 _ _ (by kernel_rfl)) ?_
   refine R.eqA ⟨Z,Z,Z,Z⟩ Z Z (guard_of g26) (equal_of 9990 Z (run_eqSl 9997 _ _)) ?_
   refine R.pick_t ⟨Z,Z,Z,Z⟩ Z Z ?_
   refine R.move ⟨Z,Z,Z,Z⟩ Z ?_
   refine GOps.caseB 20 Z (fun hg3 => ?_) (fun hg3 => ?_)
   ·try simp only [dcQ] at hg3
    refine R.fieldAddr ⟨Z,Z,Z,Z⟩ Z Tryz.underlying89 Z Tryz.sizeOf26 ?_
    refine R.load_own (cs := SlC l.b) ⟨Z,Z,Z,Z⟩ Z Tryz.underlying26 Z Tryz.sizeOf26 memG (by rfl) (by rfl) ?_
    refine R.build (vs := []) (cells := (SlC zSl).toArray) ⟨Z,Z,Z,Z⟩ Z (fun w => run_build w 26 _ _ (by kernel_rfl)) ?_
    refine R.eqA ⟨Z,Z,Z,Z⟩ Z Z (guard_of g26) (equal_of 9990 Z (run_eqSl 9997 _ _)) ?_
    refine R.pick_t ⟨Z,Z,Z,Z⟩ Z Z ?_
    refine R.assign ⟨Z,Z,Z,Z⟩ Z ?_
    refine GOps.nil ?_
    refine GW.ret (Out.of (Res.one Z Z) hsA ⟨?_, Z⟩)
    refine vb ?_; unfold mayLt; simp_all
   ·try simp only [dcQ] at hg3
    refine GOps.skip Z Z Z ?_
    refine GOps.skip Z Z Z ?_
    refine GOps.skip Z Z Z ?_
    refine GOps.skip Z Z Z ?_
    refine R.pick_f ⟨Z,Z,Z,Z⟩ Z Z ?_
    refine R.assign ⟨Z,Z,Z,Z⟩ Z ?_
    refine GOps.nil ?_
    refine GW.ret (Out.of (Res.one Z Z) hsA ⟨?_, Z⟩)
    refine vb ?_; unfold mayLt; simp_all
  ·try simp only [dcQ] at hg2
   refine GOps.skip Z Z Z ?_
   refine GOps.skip Z Z Z ?_
   refine GOps.skip Z Z Z ?_
   refine GOps.skip Z Z Z ?_
   refine R.pick_f ⟨Z,Z,Z,Z⟩ Z Z ?_
   refine R.move ⟨Z,Z,Z,Z⟩ Z ?_
   refine GOps.skip Z Z Z ?_
   refine GOps.skip Z Z Z ?_
   refine GOps.skip Z Z Z ?_
   refine GOps.skip Z Z Z ?_
   refine R.pick_f ⟨Z,Z,Z,Z⟩ Z Z ?_
   refine R.assign ⟨Z,Z,Z,Z⟩ Z ?_
   refine GOps.nil ?_
   refine GW.ret (Out.of (Res.one Z Z) hsA ⟨?_, Z⟩)
   refine vb ?_; unfold mayLt; simp_all
 ·try simp only [dcQ] at hg1
  refine R.fieldAddr ⟨Z,Z,Z,Z⟩ Z Tryz.underlying89 Z Tryz.sizeOf87 ?_
  refine R.load1 ⟨Z,Z,Z,Z⟩ Z Tryz.underlying87 Z (.own' memG (by rfl)) ?_
  refine R.eqI ⟨Z,Z,Z,Z⟩ Z Z ?_
  refine R.pick_f ⟨Z,Z,Z,Z⟩ Z Z ?_
  refine GOps.nil ?_
  refine GW.ite Z (fun hc4 => ?_) (fun hc4 => ?_)
  ·try simp only [dcQ] at hc4
   refine GW.seq ?_
   refine GW.region ?_
   refine R.fieldAddr ⟨Z,Z,Z,Z⟩ Z Tryz.underlying89 Z Tryz.sizeOf28 ?_
   refine R.load_own (cs := PtC l.pat) ⟨Z,Z,Z,Z⟩ Z Tryz.underlying28 Z Tryz.sizeOf28 memG (by rfl) (by rfl) ?_
   refine R.call ⟨Z,Z,Z,Z⟩ Z (vs := [_]) Z ((ref_pattern _ _ l.pat h.1).mono ?_)
   rintro _ _ ⟨rfl, rfl⟩
   refine R.move ⟨Z,Z,Z,Z⟩ Z ?_
   refine GOps.caseB 14 Z (fun hg5 => ?_) (fun hg5 => ?_)
   ·try simp only [dcQ] at hg5
    refine R.fieldAddr ⟨Z,Z,Z,Z⟩ Z Tryz.underlying89 Z Tryz.sizeOf26 ?_
    refine R.load_own (cs := SlC l.a) ⟨Z,Z,Z,Z⟩ Z Tryz.underlying26 Z Tryz.sizeOf26 memG (by rfl) (by rfl) ?_
    refine R.build (vs := []) (cells := (SlC zSl).toArray) ⟨Z,Z,Z,Z⟩ Z (fun w => run_build w 26 _ _ (by kernel_rfl)) ?_
    refine R.eqA ⟨Z,Z,Z,Z⟩ Z Z (guard_of g26) (equal_of 9990 Z (run_eqSl 9997 _ _)) ?_
    refine R.pick_t ⟨Z,Z,Z,Z⟩ Z Z ?_
    refine R.move ⟨Z,Z,Z,Z⟩ Z ?_
    refine GOps.caseB 20 Z (fun hg6 => ?_) (fun hg6 => ?_)
    ·try simp only [dcQ] at hg6
     refine R.fieldAddr ⟨Z,Z,Z,Z⟩ Z Tryz.underlying89 Z Tryz.sizeOf26 ?_
     refine R.load_own (cs := SlC l.b) ⟨Z,Z,Z,Z⟩ Z Tryz.underlying26 Z Tryz.sizeOf26 memG (by rfl) (by rfl) ?_
     refine R.build (vs := []) (cells := (SlC zSl).toArray) ⟨Z,Z,Z,Z⟩ Z (fun w => run_build w 26 _ _ (by kernel_rfl)) ?_
     refine R.eqA ⟨Z,Z,Z,Z⟩ Z Z (guard_of g26) (equal_of 9990 Z (run_eqSl 9997 _ _)) ?_
     refine R.pick_t ⟨Z,Z,Z,Z⟩ Z Z ?_
     refine R.assign ⟨Z,Z,Z,Z⟩ Z ?_
     refine GOps.nil ?_
     refine GW.ret (Out.of (Res.one Z Z) hsA ⟨?_, Z⟩)
     refine vb ?_; unfold mayLt; simp_all
    ·try simp only [dcQ] at hg6
     refine GOps.skip Z Z Z ?_
     refine GOps.skip Z Z Z ?_
     refine GOps.skip Z Z Z ?_
     refine GOps.skip Z Z Z ?_
     refine R.pick_f ⟨Z,Z,Z,Z⟩ Z Z ?_
     refine R.assign ⟨Z,Z,Z,Z⟩ Z ?_
     refine GOps.nil ?_
     refine GW.ret (Out.of (Res.one Z Z) hsA ⟨?_, Z⟩)
     refine vb ?_; unfold mayLt; simp_all
   ·try simp only [dcQ] at hg5
    refine GOps.skip Z Z Z ?_
    refine GOps.skip Z Z Z ?_
    refine GOps.skip Z Z Z ?_
    refine GOps.skip Z Z Z ?_
    refine R.pick_f ⟨Z,Z,Z,Z⟩ Z Z ?_
    refine R.move ⟨Z,Z,Z,Z⟩ Z ?_
    refine GOps.skip Z Z Z ?_
    refine GOps.skip Z Z Z ?_
    refine GOps.skip Z Z Z ?_
    refine GOps.skip Z Z Z ?_
    refine R.pick_f ⟨Z,Z,Z,Z⟩ Z Z ?_
    refine R.assign ⟨Z,Z,Z,Z⟩ Z ?_
    refine GOps.nil ?_
    refine GW.ret (Out.of (Res.one Z Z) hsA ⟨?_, Z⟩)
    refine vb ?_; unfold mayLt; simp_all
  ·try simp only [dcQ] at hc4
   refine GW.skip ?_
   refine GW.seq ?_
   refine GW.region ?_
   refine R.fieldAddr ⟨Z,Z,Z,Z⟩ Z Tryz.underlying89 Z Tryz.sizeOf87 ?_
   refine R.load1 ⟨Z,Z,Z,Z⟩ Z Tryz.underlying87 Z (.own' memG (by rfl)) ?_
   refine R.eqI ⟨Z,Z,Z,Z⟩ Z Z ?_
   refine R.move ⟨Z,Z,Z,Z⟩ Z ?_
   refine GOps.caseB 29 Z (fun hg7 => ?_) (fun hg7 => ?_)
   ·try simp only [dcQ] at hg7
    refine GOps.skip Z Z Z ?_
    refine GOps.skip Z Z Z ?_
    refine GOps.skip Z Z Z ?_
    refine R.pick_t ⟨Z,Z,Z,Z⟩ Z Z ?_
    refine R.move ⟨Z,Z,Z,Z⟩ Z ?_
    refine R.fieldAddr ⟨Z,Z,Z,Z⟩ Z Tryz.underlying89 Z Tryz.sizeOf28 ?_
    refine R.load_own (cs := PtC l.pat) ⟨Z,Z,Z,Z⟩ Z Tryz.underlying28 Z Tryz.sizeOf28 memG (by rfl) (by rfl) ?_
    refine R.build (vs := []) (cells := (PtC zPt).toArray) ⟨Z,Z,Z,Z⟩ Z (fun w => run_build w 28 _ _ (by kernel_rfl)) ?_
    refine R.eqA ⟨Z,Z,Z,Z⟩ Z Z (guard_of g28) (equal_of 9990 Z (run_eqPt 28 Tryz.underlying28 9996 _ _)) ?_
    refine R.pick_t ⟨Z,Z,Z,Z⟩ Z Z ?_
    refine R.move ⟨Z,Z,Z,Z⟩ Z ?_
    refine GOps.caseB 40 Z (fun hg8 => ?_) (fun hg8 => ?_)
    ·try simp only [dcQ] at hg8
     refine R.fieldAddr ⟨Z,Z,Z,Z⟩ Z Tryz.underlying89 Z Tryz.sizeOf26 ?_
     refine R.load_own (cs := SlC l.a) ⟨Z,Z,Z,Z⟩ Z Tryz.underlying26 Z Tryz.sizeOf26 memG (by rfl) (by rfl) ?_
     refine R.call ⟨Z,Z,Z,Z⟩ Z (vs := [_]) Z ((ref_MaySlot _ _ l.a h.2.1).mono ?_)
     rintro _ _ ⟨rfl, rfl⟩
     refine R.pick_t ⟨Z,Z,Z,Z⟩ Z Z ?_
     refine R.move ⟨Z,Z,Z,Z⟩ Z ?_
     refine GOps.caseB 45 Z (fun hg9 => ?_) (fun hg9 => ?_)
     ·try simp only [dcQ] at hg9
      refine R.fieldAddr ⟨Z,Z,Z,Z⟩ Z Tryz.underlying89 Z Tryz.sizeOf26 ?_
      refine R.load_own (cs := SlC l.b) ⟨Z,Z,Z,Z⟩ Z Tryz.underlying26 Z Tryz.sizeOf26 memG (by rfl) (by rfl) ?_
      refine R.call ⟨Z,Z,Z,Z⟩ Z (vs := [_]) Z ((ref_MaySlot _ _ l.b h.2.2).mono ?_)
      rintro _ _ ⟨rfl, rfl⟩
      refine R.pick_t ⟨Z,Z,Z,Z⟩ Z Z ?_
      refine R.assign ⟨Z,Z,Z,Z⟩ Z ?_
      refine GOps.nil ?_
      refine GW.ret (Out.of (Res.one Z Z) hsA ⟨?_, Z⟩)
      refine vb ?_; unfold mayLt; simp_all
     ·try simp only [dcQ] at hg9
      refine GOps.skip Z Z Z ?_
      refine GOps.skip Z Z Z ?_
      refine GOps.skip Z Z Z ?_
      refine R.pick_f ⟨Z,Z,Z,Z⟩ Z Z ?_
      refine R.assign ⟨Z,Z,Z,Z⟩ Z ?_
      refine GOps.nil ?_
      refine GW.ret (Out.of (Res.one Z Z) hsA ⟨?_, Z⟩)
      refine vb ?_; unfold mayLt; simp_all
    ·try simp only [dcQ] at hg8
     refine GOps.skip Z Z Z ?_
     refine GOps.skip Z Z Z ?_
     refine GOps.skip Z Z Z ?_
     refine R.pick_f ⟨Z,Z,Z,Z⟩ Z Z ?_
     refine R.move ⟨Z,Z,Z,Z⟩ Z ?_
     refine GOps.skip Z Z Z ?_
     refine GOps.skip Z Z Z ?_
     refine GOps.skip Z Z Z ?_
     refine R.pick_f ⟨Z,Z,Z,Z⟩ Z Z ?_
     refine R.assign ⟨Z,Z,Z,Z⟩ Z ?_
     refine GOps.nil ?_
     refine GW.ret (Out.of (Res.one Z Z) hsA ⟨?_, Z⟩)
     refine vb ?_; unfold mayLt; simp_all
   ·try simp only [dcQ] at hg7
    refine R.fieldAddr ⟨Z,Z,Z,Z⟩ Z Tryz.underlying89 Z Tryz.sizeOf87 ?_
    refine R.load1 ⟨Z,Z,Z,Z⟩ Z Tryz.underlying87 Z (.own' memG (by rfl)) ?_
    refine R.eqI ⟨Z,Z,Z,Z⟩ Z Z ?_
    refine R.pick_f ⟨Z,Z,Z,Z⟩ Z Z ?_
    refine R.move ⟨Z,Z,Z,Z⟩ Z ?_
    refine GOps.caseB 34 Z (fun hg10 => ?_) (fun hg10 => ?_)
    ·try simp only [dcQ] at hg10
     refine R.fieldAddr ⟨Z,Z,Z,Z⟩ Z Tryz.underlying89 Z Tryz.sizeOf28 ?_
     refine R.load_own (cs := PtC l.pat) ⟨Z,Z,Z,Z⟩ Z Tryz.underlying28 Z Tryz.sizeOf28 memG (by rfl) (by rfl) ?_
     refine R.build (vs := []) (cells := (PtC zPt).toArray) ⟨Z,Z,Z,Z⟩ Z (fun w => run_build w 28 _ _ (by kernel_rfl)) ?_
     refine R.eqA ⟨Z,Z,Z,Z⟩ Z Z (guard_of g28) (equal_of 9990 Z (run_eqPt 28 Tryz.underlying28 9996 _ _)) ?_
     refine R.pick_t ⟨Z,Z,Z,Z⟩ Z Z ?_
     refine R.move ⟨Z,Z,Z,Z⟩ Z ?_
     refine GOps.caseB 40 Z (fun hg11 => ?_) (fun hg11 => ?_)
     ·try simp only [dcQ] at hg11
      refine R.fieldAddr ⟨Z,Z,Z,Z⟩ Z Tryz.underlying89 Z Tryz.sizeOf26 ?_
      refine R.load_own (cs := SlC l.a) ⟨Z,Z,Z,Z⟩ Z Tryz.underlying26 Z Tryz.sizeOf26 memG (by rfl) (by rfl) ?_
      refine R.call ⟨Z,Z,Z,Z⟩ Z (vs := [_]) Z ((ref_MaySlot _ _ l.a h.2.1).mono ?_)
      rintro _ _ ⟨rfl, rfl⟩
      refine R.pick_t ⟨Z,Z,Z,Z⟩ Z Z ?_
      refine R.move ⟨Z,Z,Z,Z⟩ Z ?_
      refine GOps.caseB 45 Z (fun hg12 => ?_) (fun hg12 => ?_)
      ·try simp only [dcQ] at hg12
       refine R.fieldAddr ⟨Z,Z,Z,Z⟩ Z Tryz.underlying89 Z Tryz.sizeOf26 ?_
       refine R.load_own (cs := SlC l.b) ⟨Z,Z,Z,Z⟩ Z Tryz.underlying26 Z Tryz.sizeOf26 memG (by rfl) (by rfl) ?_
       refine R.call ⟨Z,Z,Z,Z⟩ Z (vs := [_]) Z ((ref_MaySlot _ _ l.b h.2.2).mono ?_)
       rintro _ _ ⟨rfl, rfl⟩
       refine R.pick_t ⟨Z,Z,Z,Z⟩ Z Z ?_
       refine R.assign ⟨Z,Z,Z,Z⟩ Z ?_
       refine GOps.nil ?_
       refine GW.ret (Out.of (Res.one Z Z) hsA ⟨?_, Z⟩)
       refine vb ?_; unfold mayLt; simp_all
      ·try simp only [dcQ] at hg12
       refine GOps.skip Z Z Z ?_
       refine GOps.skip Z Z Z ?_
       refine GOps.skip Z Z Z ?_
       refine R.pick_f ⟨Z,Z,Z,Z⟩ Z Z ?_
       refine R.assign ⟨Z,Z,Z,Z⟩ Z ?_
       refine GOps.nil ?_
       refine GW.ret (Out.of (Res.one Z Z) hsA ⟨?_, Z⟩)
       refine vb ?_; unfold mayLt; simp_all
     ·try simp only [dcQ] at hg11
      refine GOps.skip Z Z Z ?_
      refine GOps.skip Z Z Z ?_
      refine GOps.skip Z Z Z ?_
      refine R.pick_f ⟨Z,Z,Z,Z⟩ Z Z ?_
      refine R.move ⟨Z,Z,Z,Z⟩ Z ?_
      refine GOps.skip Z Z Z ?_
      refine GOps.skip Z Z Z ?_
      refine GOps.skip Z Z Z ?_
      refine R.pick_f ⟨Z,Z,Z,Z⟩ Z Z ?_
      refine R.assign ⟨Z,Z,Z,Z⟩ Z ?_
      refine GOps.nil ?_
      refine GW.ret (Out.of (Res.one Z Z) hsA ⟨?_, Z⟩)
      refine vb ?_; unfold mayLt; simp_all
    ·try simp only [dcQ] at hg10
     refine GOps.skip Z Z Z ?_
     refine GOps.skip Z Z Z ?_
     refine GOps.skip Z Z Z ?_
     refine GOps.skip Z Z Z ?_
     refine R.pick_f ⟨Z,Z,Z,Z⟩ Z Z ?_
     refine R.move ⟨Z,Z,Z,Z⟩ Z ?_
     refine GOps.skip Z Z Z ?_
     refine GOps.skip Z Z Z ?_
     refine GOps.skip Z Z Z ?_
     refine R.pick_f ⟨Z,Z,Z,Z⟩ Z Z ?_
     refine R.move ⟨Z,Z,Z,Z⟩ Z ?_
     refine GOps.skip Z Z Z ?_
     refine GOps.skip Z Z Z ?_
     refine GOps.skip Z Z Z ?_
     refine R.pick_f ⟨Z,Z,Z,Z⟩ Z Z ?_
     refine R.assign ⟨Z,Z,Z,Z⟩ Z ?_
     refine GOps.nil ?_
     refine GW.ret (Out.of (Res.one Z Z) hsA ⟨?_, Z⟩)
     refine vb ?_; unfold mayLt; simp_all
theorem rules_May1 (w0 : World) (G : Hp) (l : Lt) (h : LtOk l) : GC Tryz.prog w0 83 #[.agg (LtC l).toArray] (fun v G' => v = .bool (!(mayLt l)) ∧ G = G') G := by
 refine GC.body (args := [.agg (LtC l).toArray]) Tryz.func83 rfl (by kernel_rfl) rfl ?_
 refine GW.seq ?_
 refine GW.region ?_
 refine R.box ⟨Z,Z,Z,Z⟩ Z fun b1 => ?_
 refine R.assign ⟨Z,Z,Z,Z⟩ Z ?_
 refine GOps.nil ?_
 refine GW.seq ?_
 refine GW.region ?_
 refine R.load_own (cs := LtC l) ⟨Z,Z,Z,Z⟩ Z Tryz.underlying89 Z Tryz.sizeOf89 memG (by rfl) (by rfl) ?_
 refine R.call ⟨Z,Z,Z,Z⟩ Z (vs := [_]) Z ((rules_part _ _ l h).mono ?_)
 rintro _ _ ⟨rfl, rfl⟩
 refine R.not ⟨Z,Z,Z,Z⟩ Z ?_
 refine R.assign ⟨Z,Z,Z,Z⟩ Z ?_
 refine GOps.nil ?_
 refine GW.ret (Out.of (Res.one Z Z) hsA ⟨?_, Z⟩)
 rfl
theorem idx_Lit (w0 : World) (G : Hp) (A : Option Addr) (ls : List Lt) (c : Nat) (k : FuncId) (cap : Array Value) (p : Lt → Bool) (hl : LtsAt w0 G A ls) (hm : ls.length ≤ 1048576)
  (hf : ∀ l ∈ ls, GC Tryz.prog w0 k (#[] ++ [Value.agg (LtC l).toArray].toArray ++ cap) (fun v G' => v = .bool (p l) ∧ G = G') G) :
  GC Tryz.prog w0 107 #[.slice A ls.length c, .func (.func k) #[] cap] (fun v G' => ∃ r : Int, v = .int .i64 r ∧ decide (r ≥ 0) = ls.any p ∧ G = G') G := by
 refine GC.body (args := [.slice A ls.length c, .func (.func k) #[] cap]) Tryz.func107 rfl (by kernel_rfl) rfl ?_
 refine GW.seq ?_
 refine GW.region ?_
 refine R.assign ⟨Z,Z,Z,Z⟩ Z ?_
 refine GOps.nil ?_
 refine GW.seq ?_
 refine GW.seq ?_
 refine GW.region ?_
 refine R.move ⟨Z,Z,Z,Z⟩ Z ?_
 refine R.lenS ⟨Z,Z,Z,Z⟩ Z Z Tryz.underlying29 ?_
 refine R.move ⟨Z,Z,Z,Z⟩ Z ?_
 refine GOps.nil ?_
 refine GW.block ?_
 refine GW.loopI (fun i : Nat => [(0, .slice A ls.length c), (1, .func (.func k) #[] cap), (7, .int .i64 ls.length), (8, .int .i64 i)]) (fun i => G) (fun i => ls.length - i) (fun i => i ≤ ls.length ∧ (ls.take i).any p = false) 0
  (keepG) (Hs.refl _) (⟨by omega, by simp⟩) ?_
 rintro i ⟨hi, h0⟩
 refine GW.seq ?_
 refine GW.region ?_
 refine R.lss ⟨Z,Z,Z,Z⟩ Z Z ?_
 refine GOps.nil ?_
 refine GW.seq ?_
 refine GW.ite Z (fun hc1 => ?_) (fun hc1 => ?_)
 ·try simp only [dcQ] at hc1
  obtain ⟨x, hx⟩ : ∃ x, ls[i]? = some x := ⟨_, List.getElem?_eq_getElem (by omega)⟩
  obtain ⟨bb, oo, cs, rfl, rfl, hrd⟩ := hl i x hx
  refine GW.skip ?_
  refine GW.seq ?_
  refine GW.block ?_
  refine GW.seq ?_
  refine GW.region ?_
  refine R.move ⟨Z,Z,Z,Z⟩ Z ?_
  refine R.assign ⟨Z,Z,Z,Z⟩ Z ?_
  refine GOps.nil ?_
  refine GW.seq ?_
  refine GW.region ?_
  refine R.move ⟨Z,Z,Z,Z⟩ Z ?_
  refine R.move ⟨Z,Z,Z,Z⟩ Z ?_
  refine R.move ⟨Z,Z,Z,Z⟩ Z ?_
  refine R.indexAddrS ⟨Z,Z,Z,Z⟩ Z Z Tryz.underlying29 Tryz.sizeOf89 (by omega) (by omega) ?_
  refine R.loadA ⟨Z,Z,Z,Z⟩ Z Tryz.underlying89 Z Tryz.sizeOf89 (hrd) (by rfl) ?_
  refine R.call ⟨Z,Z,Z,Z⟩ Z (vs := [_]) Z ((hf x (List.mem_of_getElem? hx)).mono ?_)
  rintro _ _ ⟨rfl, rfl⟩
  refine GOps.nil ?_
  refine GW.ite Z (fun hc2 => ?_) (fun hc2 => ?_)
  ·try simp only [dcQ] at hc2
   refine GW.seq ?_
   refine GW.region ?_
   refine R.move ⟨Z,Z,Z,Z⟩ Z ?_
   refine R.assign ⟨Z,Z,Z,Z⟩ Z ?_
   refine GOps.nil ?_
   first | exact GW.ret (Out.of (Res.one rfl rfl) (Hs.refl _) ⟨_, rfl, by rw [any_of_get p ls i x hx (by assumption)]; exact decide_eq_true (by omega), rfl⟩) | exact GW.ret (Out.of (Res.one rfl rfl) (Hs.refl _) ⟨_, rfl, by rw [any_of_take p ls i (by omega) h0]; rfl, rfl⟩)
  ·try simp only [dcQ] at hc2
   refine GW.skip ?_
   refine GW.region ?_
   refine R.add (r := (((i + 1) : Nat) : Int)) ⟨Z,Z,Z,Z⟩ Z Z (by rw [wrap64_id (by omega) (by omega)]; omega) ?_
   refine R.move ⟨Z,Z,Z,Z⟩ Z ?_
   refine GOps.nil ?_
   exact ⟨i + 1, by omega, ⟨by omega, any_take_succ p ls i x hx h0 (by assumption)⟩, rfl, keepG, by first | exact Hs.refl _ | exact Hs.tl _ | exact Hs.tl2 _ _⟩
 ·try simp only [dcQ] at hc1
  refine GW.exit ?_
  refine GW.seq ?_
  refine GW.region ?_
  refine R.assign ⟨Z,Z,Z,Z⟩ Z ?_
  refine GOps.nil ?_
  first | exact GW.ret (Out.of (Res.one rfl rfl) (Hs.refl _) ⟨_, rfl, by rw [any_of_get p ls i x hx (by assumption)]; exact decide_eq_true (by omega), rfl⟩) | exact GW.ret (Out.of (Res.one rfl rfl) (Hs.refl _) ⟨_, rfl, by rw [any_of_take p ls i (by omega) h0]; rfl, rfl⟩)
theorem has_Lit (w0 : World) (G : Hp) (A : Option Addr) (ls : List Lt) (c : Nat) (k : FuncId) (cap : Array Value) (p : Lt → Bool) (hl : LtsAt w0 G A ls) (hm : ls.length ≤ 1048576)
  (hf : ∀ l ∈ ls, GC Tryz.prog w0 k (#[] ++ [Value.agg (LtC l).toArray].toArray ++ cap) (fun v G' => v = .bool (p l) ∧ G = G') G) :
  GC Tryz.prog w0 82 #[.slice A ls.length c, .func (.func k) #[] cap] (fun v G' => v = .bool (ls.any p) ∧ G = G') G := by
 refine GC.body (args := [.slice A ls.length c, .func (.func k) #[] cap]) Tryz.func82 rfl (by kernel_rfl) rfl ?_
 refine GW.seq ?_
 refine GW.region ?_
 refine R.assign ⟨Z,Z,Z,Z⟩ Z ?_
 refine GOps.nil ?_
 refine GW.seq ?_
 refine GW.region ?_
 refine R.move ⟨Z,Z,Z,Z⟩ Z ?_
 refine R.move ⟨Z,Z,Z,Z⟩ Z ?_
 refine R.call ⟨Z,Z,Z,Z⟩ Z (vs := [_, _]) Z ((idx_Lit _ _ _ _ _ _ _ p hl hm hf).mono ?_)
 rintro _ _ ⟨r, rfl, hr, rfl⟩
 refine R.geq ⟨Z,Z,Z,Z⟩ Z Z ?_
 refine R.assign ⟨Z,Z,Z,Z⟩ Z ?_
 refine GOps.nil ?_
 refine GW.ret (Out.of (Res.one Z Z) hsA ⟨?_, Z⟩)
 rw [← hr]
end Go.Proofs.YtfddkcmooommeaaGreatDoor.Gl
end
section
namespace Go.Proofs.YtfddkcmooommeaaGreatDoor.Gl
open Go.RowKit Go.Shelf
set_option linter.unusedVariables false
set_option linter.unnecessarySimpa false
set_option linter.unusedSimpArgs false
attribute [-simp] List.getD_eq_getElem?_getD
theorem any_not {α : Type} (p : α → Bool) (l : List α) : (!(l.any fun x => !(p x))) = l.all p := by
 induction l with
 | nil => rfl
 | cons a l ih => rw [List.any_cons, List.all_cons, ← ih]; cases p a <;> simp
theorem all_take_succ {α : Type} (p : α → Bool) (l : List α) (i : Nat) (x : α) (h : l[i]? = some x) (h0 : (l.take i).all p = true) (hx : p x = true) : (l.take (i + 1)).all p = true := by
 rw [List.take_add_one, h]
 simp [h0, hx]
theorem all_of_get {α : Type} (p : α → Bool) (l : List α) (i : Nat) (x : α) (h : l[i]? = some x) (hx : p x = false) : l.all p = false :=
 List.all_eq_false.2 ⟨x, List.mem_of_getElem? h, by simp [hx]⟩
theorem all_of_take {α : Type} (p : α → Bool) (l : List α) (i : Nat) (h : l.length ≤ i) (h0 : (l.take i).all p = true) : l.all p = true := by
 rwa [List.take_of_length_le h] at h0
theorem rules_May (w0 : World) (G : Hp) (r : Rl) (A : Option Addr) (c : Nat) (hl : LtsAt w0 G A r.body) (hm : r.body.length ≤ 1048576) (h : RlOk r) : GC Tryz.prog w0 52 #[.agg (RlC r.head (.slice A r.body.length c)).toArray] (fun v G' => v = .bool (mayRl r) ∧ G = G') G := by
 refine GC.body (args := [.agg (RlC r.head (.slice A r.body.length c)).toArray]) Tryz.func52 rfl (by kernel_rfl) rfl ?_
 refine GW.seq ?_
 refine GW.region ?_
 refine R.box ⟨Z,Z,Z,Z⟩ Z fun b1 => ?_
 refine R.assign ⟨Z,Z,Z,Z⟩ Z ?_
 refine GOps.nil ?_
 refine GW.seq ?_
 refine GW.region ?_
 refine R.fieldAddr ⟨Z,Z,Z,Z⟩ Z Tryz.underlying31 Z Tryz.sizeOf28 ?_
 refine R.load_own (cs := PtC r.head) ⟨Z,Z,Z,Z⟩ Z Tryz.underlying28 Z Tryz.sizeOf28 memG (by rfl) (by rfl) ?_
 refine R.call ⟨Z,Z,Z,Z⟩ Z (vs := [_]) Z ((rules_pattern _ _ r.head h.1).mono ?_)
 rintro _ _ ⟨rfl, rfl⟩
 refine R.move ⟨Z,Z,Z,Z⟩ Z ?_
 refine GOps.caseB 6 Z (fun hg1 => ?_) (fun hg1 => ?_)
 ·try simp only [dcQ] at hg1
  refine R.fieldAddr ⟨Z,Z,Z,Z⟩ Z Tryz.underlying31 Z Tryz.sizeOf29 ?_
  refine R.load1 ⟨Z,Z,Z,Z⟩ Z Tryz.underlying29 Z (.own' memG (by rfl)) ?_
  refine R.lenS ⟨Z,Z,Z,Z⟩ Z Z Tryz.underlying29 ?_
  refine R.leq ⟨Z,Z,Z,Z⟩ Z Z ?_
  refine R.pick_t ⟨Z,Z,Z,Z⟩ Z Z ?_
  refine R.move ⟨Z,Z,Z,Z⟩ Z ?_
  refine GOps.caseB 12 Z (fun hg2 => ?_) (fun hg2 => ?_)
  ·try simp only [dcQ] at hg2
   refine R.fieldAddr ⟨Z,Z,Z,Z⟩ Z Tryz.underlying31 Z Tryz.sizeOf29 ?_
   refine R.load1 ⟨Z,Z,Z,Z⟩ Z Tryz.underlying29 Z (.own' memG (by rfl)) ?_
   refine R.call ⟨Z,Z,Z,Z⟩ Z (vs := [_, _]) Z ((has_Lit _ _ A r.body c 83 #[] (fun l => !(mayLt l)) (hl.mono (sub_cons _)) hm (fun l hm => rules_May1 _ _ l (h.2 l hm))).mono ?_)
   rintro _ _ ⟨rfl, rfl⟩
   refine R.not ⟨Z,Z,Z,Z⟩ Z ?_
   refine R.pick_t ⟨Z,Z,Z,Z⟩ Z Z ?_
   refine R.assign ⟨Z,Z,Z,Z⟩ Z ?_
   refine GOps.nil ?_
   refine GW.ret (Out.of (Res.one Z Z) hsA ⟨?_, Z⟩)
   refine vb ?_; unfold mayRl; first | (rw [show mayPt r.head = false from hg1]; rfl) | (rw [show mayPt r.head = true from hg1, decide_eq_false (show ¬ r.body.length ≤ 64 by omega)]; rfl) | (rw [show mayPt r.head = true from hg1, decide_eq_true (show r.body.length ≤ 64 by omega), any_not]; rfl)
  ·try simp only [dcQ] at hg2
   refine GOps.skip Z Z Z ?_
   refine GOps.skip Z Z Z ?_
   refine GOps.skip Z Z Z ?_
   refine GOps.skip Z Z Z ?_
   refine R.pick_f ⟨Z,Z,Z,Z⟩ Z Z ?_
   refine R.assign ⟨Z,Z,Z,Z⟩ Z ?_
   refine GOps.nil ?_
   refine GW.ret (Out.of (Res.one Z Z) hsA ⟨?_, Z⟩)
   refine vb ?_; unfold mayRl; first | (rw [show mayPt r.head = false from hg1]; rfl) | (rw [show mayPt r.head = true from hg1, decide_eq_false (show ¬ r.body.length ≤ 64 by omega)]; rfl) | (rw [show mayPt r.head = true from hg1, decide_eq_true (show r.body.length ≤ 64 by omega), any_not]; rfl)
 ·try simp only [dcQ] at hg1
  refine GOps.skip Z Z Z ?_
  refine GOps.skip Z Z Z ?_
  refine GOps.skip Z Z Z ?_
  refine GOps.skip Z Z Z ?_
  refine R.pick_f ⟨Z,Z,Z,Z⟩ Z Z ?_
  refine R.move ⟨Z,Z,Z,Z⟩ Z ?_
  refine GOps.skip Z Z Z ?_
  refine GOps.skip Z Z Z ?_
  refine GOps.skip Z Z Z ?_
  refine GOps.skip Z Z Z ?_
  refine R.pick_f ⟨Z,Z,Z,Z⟩ Z Z ?_
  refine R.assign ⟨Z,Z,Z,Z⟩ Z ?_
  refine GOps.nil ?_
  refine GW.ret (Out.of (Res.one Z Z) hsA ⟨?_, Z⟩)
  refine vb ?_; unfold mayRl; first | (rw [show mayPt r.head = false from hg1]; rfl) | (rw [show mayPt r.head = true from hg1, decide_eq_false (show ¬ r.body.length ≤ 64 by omega)]; rfl) | (rw [show mayPt r.head = true from hg1, decide_eq_true (show r.body.length ≤ 64 by omega), any_not]; rfl)
end Go.Proofs.YtfddkcmooommeaaGreatDoor.Gl
end
section
namespace Go.Proofs.YtfddkcmooommeaaGreatDoor.Gl
open Go.RowKit Go.Shelf
set_option linter.unusedVariables false
set_option linter.unnecessarySimpa false
set_option linter.unusedSimpArgs false
attribute [-simp] List.getD_eq_getElem?_getD
def StAt (w0 : World) (G : Hp) (A : Option Addr) (xs : List ByteArray) : Prop := RowAt w0 G 1 (fun s cs => cs = [.string s]) A xs
def eqB (s : ByteArray) (x : ByteArray) : Bool := x.toList == s.toList
def inB (xs : List ByteArray) (s : ByteArray) : Bool := xs.any (eqB s)
def slotsOf (l : Lt) : List Sl := bif (decide (l.kind = 1) || decide (l.kind = 2)) then [l.pat.s0, l.pat.s1, l.pat.s2] else [l.a, l.b]
theorem slotsOf_t {l : Lt} (h : l.kind = 1 ∨ l.kind = 2) : slotsOf l = [l.pat.s0, l.pat.s1, l.pat.s2] := by
 unfold slotsOf
 rcases h with h | h <;> rw [h] <;> rfl
theorem slotsOf_f {l : Lt} (h : ¬ l.kind = 1) (h2 : ¬ l.kind = 2) : slotsOf l = [l.a, l.b] := by
 unfold slotsOf
 rw [decide_eq_false h, decide_eq_false h2]; rfl
theorem ref_In (w0 : World) (G : Hp) (A : Option Addr) (xs : List ByteArray) (c : Nat) (s : ByteArray) (hx : StAt w0 G A xs) (hm : xs.length ≤ 100000000) : GC Tryz.prog w0 26 #[.slice A xs.length c, .string s] (fun v G' => v = .bool (inB xs s) ∧ G = G') G := by
 refine GC.body (args := [.slice A xs.length c, .string s]) Tryz.func26 rfl (by kernel_rfl) rfl ?_
 refine GW.seq ?_
 refine GW.region ?_
 refine R.assign ⟨Z,Z,Z,Z⟩ Z ?_
 refine GOps.nil ?_
 refine GW.seq ?_
 refine GW.seq ?_
 refine GW.region ?_
 refine R.assign ⟨Z,Z,Z,Z⟩ Z ?_
 refine GOps.nil ?_
 refine GW.block ?_
 refine GW.loopI (fun i : Nat => [(0, .slice A xs.length c), (1, .string s), (5, .int .i64 i)]) (fun i => G) (fun i => xs.length - i) (fun i => i ≤ xs.length ∧ (xs.take i).any (eqB s) = false) 0
  (keepG) (Hs.refl _) (⟨by omega, by simp⟩) ?_
 rintro i ⟨hi, h0⟩
 refine GW.seq ?_
 refine GW.seq ?_
 refine GW.region ?_
 refine R.move ⟨Z,Z,Z,Z⟩ Z ?_
 refine R.move ⟨Z,Z,Z,Z⟩ Z ?_
 refine R.lenS ⟨Z,Z,Z,Z⟩ Z Z Tryz.underlying61 ?_
 refine R.lss ⟨Z,Z,Z,Z⟩ Z Z ?_
 refine GOps.nil ?_
 refine GW.ite Z (fun hc1 => ?_) (fun hc1 => ?_)
 ·try simp only [dcQ] at hc1
  obtain ⟨x, hx1⟩ : ∃ x, xs[i]? = some x := ⟨_, List.getElem?_eq_getElem (by omega)⟩
  obtain ⟨bb, oo, cs, rfl, rfl, hrd⟩ := hx i x hx1
  refine GW.skip ?_
  refine GW.seq ?_
  refine GW.block ?_
  refine GW.seq ?_
  refine GW.region ?_
  refine R.move ⟨Z,Z,Z,Z⟩ Z ?_
  refine R.move ⟨Z,Z,Z,Z⟩ Z ?_
  refine R.indexAddrS ⟨Z,Z,Z,Z⟩ Z Z Tryz.underlying61 Tryz.sizeOf9 (by omega) (by omega) ?_
  refine R.load1 ⟨Z,Z,Z,Z⟩ Z Tryz.underlying9 Z (hrd 0 _ Z) ?_
  refine R.move ⟨Z,Z,Z,Z⟩ Z ?_
  refine R.eqS ⟨Z,Z,Z,Z⟩ Z Z ?_
  refine GOps.nil ?_
  refine GW.ite Z (fun hc2 => ?_) (fun hc2 => ?_)
  ·try simp only [dcQ] at hc2
   refine GW.seq ?_
   refine GW.region ?_
   refine R.assign ⟨Z,Z,Z,Z⟩ Z ?_
   refine GOps.nil ?_
   refine GW.ret (Out.of (Res.one Z Z) hsA ⟨?_, Z⟩)
   refine vb ?_; symm; first | exact any_of_get (eqB s) xs i x hx1 (by assumption) | exact any_of_take (eqB s) xs i (by omega) h0
  ·try simp only [dcQ] at hc2
   refine GW.skip ?_
   refine GW.region ?_
   refine R.move ⟨Z,Z,Z,Z⟩ Z ?_
   refine R.add (r := (((i + 1) : Nat) : Int)) ⟨Z,Z,Z,Z⟩ Z Z (by rw [wrap64_id (by omega) (by omega)]; omega) ?_
   refine R.assign ⟨Z,Z,Z,Z⟩ Z ?_
   refine GOps.nil ?_
   exact ⟨i + 1, by omega, ⟨by omega, any_take_succ (eqB s) xs i x hx1 h0 (by assumption)⟩, rfl, keepG, by first | exact Hs.refl _ | exact Hs.tl _ | exact Hs.tl2 _ _⟩
 ·try simp only [dcQ] at hc1
  refine GW.exit ?_
  refine GW.seq ?_
  refine GW.region ?_
  refine R.assign ⟨Z,Z,Z,Z⟩ Z ?_
  refine GOps.nil ?_
  refine GW.ret (Out.of (Res.one Z Z) hsA ⟨?_, Z⟩)
  refine vb ?_; symm; first | exact any_of_get (eqB s) xs i x hx1 (by assumption) | exact any_of_take (eqB s) xs i (by omega) h0
theorem ref_Slots (w0 : World) (G : Hp) (l : Lt) : GC Tryz.prog w0 37 #[.agg (LtC l).toArray] (fun v G' => ∃ b, v = .slice (some ⟨b, 0, none⟩) (slotsOf l).length (slotsOf l).length ∧ (b, .exact (.cells ((slotsOf l).flatMap SlC).toArray 26 (0, 0))) :: G = G') G := by
 refine GC.body (args := [.agg (LtC l).toArray]) Tryz.func37 rfl (by kernel_rfl) rfl ?_
 refine GW.seq ?_
 refine GW.region ?_
 refine R.box ⟨Z,Z,Z,Z⟩ Z fun b1 => ?_
 refine R.assign ⟨Z,Z,Z,Z⟩ Z ?_
 refine GOps.nil ?_
 refine GW.seq ?_
 refine GW.seq ?_
 refine GW.region ?_
 refine R.fieldAddr ⟨Z,Z,Z,Z⟩ Z Tryz.underlying89 Z Tryz.sizeOf87 ?_
 refine R.load1 ⟨Z,Z,Z,Z⟩ Z Tryz.underlying87 Z (.own' memG (by rfl)) ?_
 refine R.eqI ⟨Z,Z,Z,Z⟩ Z Z ?_
 refine R.move ⟨Z,Z,Z,Z⟩ Z ?_
 refine GOps.caseB 6 Z (fun hg1 => ?_) (fun hg1 => ?_)
 ·try simp only [dcQ] at hg1
  refine GOps.skip Z Z Z ?_
  refine GOps.skip Z Z Z ?_
  refine GOps.skip Z Z Z ?_
  refine R.pick_t ⟨Z,Z,Z,Z⟩ Z Z ?_
  refine GOps.nil ?_
  refine GW.cond_t Z ?_
  refine GW.seq ?_
  refine GW.region ?_
  refine R.fieldAddr ⟨Z,Z,Z,Z⟩ Z Tryz.underlying89 Z Tryz.sizeOf28 ?_
  refine R.indexAddrA ⟨Z,Z,Z,Z⟩ Z Z Tryz.underlying28 Tryz.sizeOf26 (by omega) (by omega) ?_
  refine R.load_own (cs := SlC l.pat.s0) ⟨Z,Z,Z,Z⟩ Z Tryz.underlying26 Z Tryz.sizeOf26 memG (by rfl) (by rfl) ?_
  refine R.fieldAddr ⟨Z,Z,Z,Z⟩ Z Tryz.underlying89 Z Tryz.sizeOf28 ?_
  refine R.indexAddrA ⟨Z,Z,Z,Z⟩ Z Z Tryz.underlying28 Tryz.sizeOf26 (by omega) (by omega) ?_
  refine R.load_own (cs := SlC l.pat.s1) ⟨Z,Z,Z,Z⟩ Z Tryz.underlying26 Z Tryz.sizeOf26 memG (by rfl) (by rfl) ?_
  refine R.fieldAddr ⟨Z,Z,Z,Z⟩ Z Tryz.underlying89 Z Tryz.sizeOf28 ?_
  refine R.indexAddrA ⟨Z,Z,Z,Z⟩ Z Z Tryz.underlying28 Tryz.sizeOf26 (by omega) (by omega) ?_
  refine R.load_own (cs := SlC l.pat.s2) ⟨Z,Z,Z,Z⟩ Z Tryz.underlying26 Z Tryz.sizeOf26 memG (by rfl) (by rfl) ?_
  refine R.buildSliceF (sz := 4) (bytes := 56) (vs := [_, _, _]) (cs := [_, _, _, _, _, _, _, _, _, _, _, _]) ⟨Z,Z,Z,Z⟩ Z Tryz.underlying106 (InfoE.mk (by kernel_rfl)) Z Z Z Z Z fun b20 => ?_
  refine R.assign ⟨Z,Z,Z,Z⟩ Z ?_
  refine GOps.nil ?_
  first | rw [slotsOf_t (l := l) (by omega)] | rw [slotsOf_f (l := l) (by omega) (by omega)]
  exact GW.ret (Out.of (Res.one rfl rfl) (by first | exact Hs.refl _ | exact Hs.swapDrop _ _ _) ⟨_, rfl, rfl⟩)
 ·try simp only [dcQ] at hg1
  refine R.fieldAddr ⟨Z,Z,Z,Z⟩ Z Tryz.underlying89 Z Tryz.sizeOf87 ?_
  refine R.load1 ⟨Z,Z,Z,Z⟩ Z Tryz.underlying87 Z (.own' memG (by rfl)) ?_
  refine R.eqI ⟨Z,Z,Z,Z⟩ Z Z ?_
  refine R.pick_f ⟨Z,Z,Z,Z⟩ Z Z ?_
  refine GOps.nil ?_
  refine GW.ite Z (fun hc2 => ?_) (fun hc2 => ?_)
  ·try simp only [dcQ] at hc2
   refine GW.seq ?_
   refine GW.region ?_
   refine R.fieldAddr ⟨Z,Z,Z,Z⟩ Z Tryz.underlying89 Z Tryz.sizeOf28 ?_
   refine R.indexAddrA ⟨Z,Z,Z,Z⟩ Z Z Tryz.underlying28 Tryz.sizeOf26 (by omega) (by omega) ?_
   refine R.load_own (cs := SlC l.pat.s0) ⟨Z,Z,Z,Z⟩ Z Tryz.underlying26 Z Tryz.sizeOf26 memG (by rfl) (by rfl) ?_
   refine R.fieldAddr ⟨Z,Z,Z,Z⟩ Z Tryz.underlying89 Z Tryz.sizeOf28 ?_
   refine R.indexAddrA ⟨Z,Z,Z,Z⟩ Z Z Tryz.underlying28 Tryz.sizeOf26 (by omega) (by omega) ?_
   refine R.load_own (cs := SlC l.pat.s1) ⟨Z,Z,Z,Z⟩ Z Tryz.underlying26 Z Tryz.sizeOf26 memG (by rfl) (by rfl) ?_
   refine R.fieldAddr ⟨Z,Z,Z,Z⟩ Z Tryz.underlying89 Z Tryz.sizeOf28 ?_
   refine R.indexAddrA ⟨Z,Z,Z,Z⟩ Z Z Tryz.underlying28 Tryz.sizeOf26 (by omega) (by omega) ?_
   refine R.load_own (cs := SlC l.pat.s2) ⟨Z,Z,Z,Z⟩ Z Tryz.underlying26 Z Tryz.sizeOf26 memG (by rfl) (by rfl) ?_
   refine R.buildSliceF (sz := 4) (bytes := 56) (vs := [_, _, _]) (cs := [_, _, _, _, _, _, _, _, _, _, _, _]) ⟨Z,Z,Z,Z⟩ Z Tryz.underlying106 (InfoE.mk (by kernel_rfl)) Z Z Z Z Z fun b20 => ?_
   refine R.assign ⟨Z,Z,Z,Z⟩ Z ?_
   refine GOps.nil ?_
   first | rw [slotsOf_t (l := l) (by omega)] | rw [slotsOf_f (l := l) (by omega) (by omega)]
   exact GW.ret (Out.of (Res.one rfl rfl) (by first | exact Hs.refl _ | exact Hs.swapDrop _ _ _) ⟨_, rfl, rfl⟩)
  ·try simp only [dcQ] at hc2
   refine GW.skip ?_
   refine GW.seq ?_
   refine GW.region ?_
   refine R.fieldAddr ⟨Z,Z,Z,Z⟩ Z Tryz.underlying89 Z Tryz.sizeOf26 ?_
   refine R.load_own (cs := SlC l.a) ⟨Z,Z,Z,Z⟩ Z Tryz.underlying26 Z Tryz.sizeOf26 memG (by rfl) (by rfl) ?_
   refine R.fieldAddr ⟨Z,Z,Z,Z⟩ Z Tryz.underlying89 Z Tryz.sizeOf26 ?_
   refine R.load_own (cs := SlC l.b) ⟨Z,Z,Z,Z⟩ Z Tryz.underlying26 Z Tryz.sizeOf26 memG (by rfl) (by rfl) ?_
   refine R.buildSliceF (sz := 4) (bytes := 56) (vs := [_, _]) (cs := [_, _, _, _, _, _, _, _]) ⟨Z,Z,Z,Z⟩ Z Tryz.underlying106 (InfoE.mk (by kernel_rfl)) Z Z Z Z Z fun b25 => ?_
   refine R.assign ⟨Z,Z,Z,Z⟩ Z ?_
   refine GOps.nil ?_
   first | rw [slotsOf_t (l := l) (by omega)] | rw [slotsOf_f (l := l) (by omega) (by omega)]
   exact GW.ret (Out.of (Res.one rfl rfl) (by first | exact Hs.refl _ | exact Hs.swapDrop _ _ _) ⟨_, rfl, rfl⟩)
end Go.Proofs.YtfddkcmooommeaaGreatDoor.Gl
end
section
namespace Go.Proofs.YtfddkcmooommeaaGreatDoor.Gl
open Go.RowKit Go.Shelf
set_option linter.unusedVariables false
set_option linter.unnecessarySimpa false
set_option linter.unusedSimpArgs false
attribute [-simp] List.getD_eq_getElem?_getD
theorem slotsOf_cases (l : Lt) : slotsOf l = [l.pat.s0, l.pat.s1, l.pat.s2] ∨ slotsOf l = [l.a, l.b] := by
 unfold slotsOf
 cases (decide (l.kind = 1) || decide (l.kind = 2)) <;> simp
theorem slotsOf_len (l : Lt) : 2 ≤ (slotsOf l).length ∧ (slotsOf l).length ≤ 3 := by rcases slotsOf_cases l with h | h <;> rw [h] <;> simp
theorem flat_get : ∀ (ss : List Sl) (i : Nat) (s : Sl), ss[i]? = some s → ∀ j v, (SlC s)[j]? = some v → (ss.flatMap SlC)[i * 4 + j]? = some v
 | [], i, s, h, _, _, _ => by simp at h
 | t :: ss, 0, s, h, j, v, hv => by
  simp at h
  subst h
  have hj : j < (SlC t).length := (List.getElem?_eq_some_iff.1 hv).1
  rw [List.flatMap_cons, Nat.zero_mul, Nat.zero_add, List.getElem?_append_left hj]
  exact hv
 | t :: ss, i + 1, s, h, j, v, hv => by
  have ih := flat_get ss i s (by simpa using h) j v hv
  rw [List.flatMap_cons, List.getElem?_append_right (by simp [SlC]; omega)]
  have e : (i + 1) * 4 + j - (SlC t).length = i * 4 + j := by simp [SlC]; omega
  rw [e]
  exact ih
def allTake (r : Rl) (i : Nat) : List Sl := [r.head.s0, r.head.s1, r.head.s2] ++ (r.body.take i).flatMap slotsOf
def allSlots (r : Rl) : List Sl := allTake r r.body.length
theorem allTake_len (r : Rl) (i : Nat) : 3 ≤ (allTake r i).length ∧ (allTake r i).length ≤ 3 + 3 * i := by
 unfold allTake
 refine ⟨by simp, ?_⟩
 have h : ∀ l : List Lt, (l.flatMap slotsOf).length ≤ 3 * l.length := by
  intro l
  induction l with
  | nil => simp
  | cons x l ih => have := slotsOf_len x; rw [List.flatMap_cons, List.length_append, List.length_cons]; omega
 have h1 := h (r.body.take i)
 have h2 : (r.body.take i).length ≤ i := by rw [List.length_take]; omega
 rw [List.length_append]
 simp only [List.length_cons, List.length_nil]
 omega
def ddStep (out : List ByteArray) (s : Sl) : List ByteArray := bif (!emp s.v && !inB out s.v) then out ++ [s.v] else out
def dd (q : List Sl) : List ByteArray := q.foldl ddStep []
theorem dd_succ {q : List Sl} {i : Nat} {x : Sl} (h : q[i]? = some x) : dd (q.take (i + 1)) = ddStep (dd (q.take i)) x := by
 unfold dd
 rw [List.take_add_one, h, List.foldl_append]
 rfl
theorem dd_len (q : List Sl) : (dd q).length ≤ q.length := by
 have h : ∀ (q : List Sl) (out : List ByteArray), (q.foldl ddStep out).length ≤ out.length + q.length := by
  intro q
  induction q with
  | nil => intro out; simp
  | cons x q ih =>
   intro out
   have h1 := ih (ddStep out x)
   have h2 : (ddStep out x).length ≤ out.length + 1 := by
    unfold ddStep
    cases (!emp x.v && !inB out x.v) <;> simp
   rw [List.foldl_cons, List.length_cons]
   omega
 have := h q []
 simpa [dd] using this
theorem SlAt.row_of {sz : Nat} {e : TypeId} {cs : List Value} {n : Nat} {v : Value} {H : Hp} (h : SlAt sz e cs n v H) (hn : 0 < n) : ∃ b cap, v = .slice (some ⟨b, 0, none⟩) n cap ∧ H = [(b, .row cs e (cap * sz))] ∧ n ≤ cap := by
 cases h with
 | nil h0 => omega
 | row b cap hl hc => exact ⟨b, cap, rfl, rfl, hc⟩
theorem SlAt.strs {e : TypeId} {xs : List ByteArray} {v : Value} {H : Hp} (w0 : World) (G : Hp) (h : SlAt 1 e (xs.map Value.string) xs.length v H) : ∃ A c, v = .slice A xs.length c ∧ StAt w0 (H ++ G) A xs := by
 generalize hn : xs.length = n at h
 cases h with
 | nil h0 hc =>
  subst h0
  refine ⟨none, 0, rfl, fun i x hx => ?_⟩
  rw [List.length_eq_zero_iff.1 hn] at hx
  cases hx
 | row b cap hl hc =>
  refine ⟨some ⟨b, 0, none⟩, cap, rfl, fun i x hx => ⟨b, 0, _, rfl, rfl, fun j v hv => ?_⟩⟩
  refine .own (List.mem_append_left _ List.mem_cons_self) ?_
  cases j with
  | zero =>
   simp at hv
   subst hv
   simp only [Know.cell, Nat.zero_add, Nat.mul_one, Nat.add_zero]
   rw [List.getElem?_map, hx]
   rfl
  | succ j => simp at hv
theorem toRow {b : Nat} {cs : List Value} {e : TypeId} {n : Nat} (G : Hp) (hn : cs.length = n) : Hs ((b, .exact (.cells cs.toArray e (0, 0))) :: G) ([(b, .row cs e n)] ++ G) := fun w0 w hw =>
 Sat.weakKnow (G1 := []) hw (fun x hx => by
  simp only [Know.holds] at hx ⊢
  exact ⟨_, hx, by simpa using hn, fun j v hv => by simpa using hv⟩)
theorem ddStep_yes {out : List ByteArray} {x : Sl} (h1 : emp x.v = false) (h2 : inB out x.v = false) : ddStep out x = out ++ [x.v] := by unfold ddStep; rw [h1, h2]; rfl
theorem ddStep_no1 {out : List ByteArray} {x : Sl} (h1 : emp x.v = true) : ddStep out x = out := by unfold ddStep; rw [h1]; rfl
theorem ddStep_no2 {out : List ByteArray} {x : Sl} (h2 : inB out x.v = true) : ddStep out x = out := by unfold ddStep; rw [h2]; simp
theorem SlAt.snoc {out : List ByteArray} {s : ByteArray} {v : Value} {H : Hp} (h : SlAt 1 9 (out.map Value.string ++ [.string s]) (out.length + 1) v H) : SlAt 1 9 ((out ++ [s]).map Value.string) (out ++ [s]).length v H := by
 rw [List.map_append, List.length_append]
 exact h
end Go.Proofs.YtfddkcmooommeaaGreatDoor.Gl
end
section
namespace Go.Proofs.YtfddkcmooommeaaGreatDoor.Gl
open Go.RowKit Go.Shelf
set_option linter.unusedVariables false
set_option linter.unnecessarySimpa false
set_option linter.unusedSimpArgs false
attribute [-simp] List.getD_eq_getElem?_getD
def patL (l : Lt) : List ByteArray := [l.pat.s0.v, l.pat.s1.v, l.pat.s2.v]
def givenOf (l : Lt) : List ByteArray := if l.kind = 1 then patL l else []
def givenTake (r : Rl) (i : Nat) : List ByteArray := (r.body.take i).flatMap givenOf
def givenL (r : Rl) : List ByteArray := givenTake r r.body.length
theorem patL_get {x : Lt} {k : Nat} (h : k < 3) : ∃ s, (patL x)[k]? = some s ∧ (LtC x)[1 + k * 4]? = some (.string s) := by
 rcases (by omega : k = 0 ∨ k = 1 ∨ k = 2) with rfl | rfl | rfl
 ·exact ⟨_, rfl, rfl⟩
 ·exact ⟨_, rfl, rfl⟩
 ·exact ⟨_, rfl, rfl⟩
theorem pat_cell {w0 : World} {G : Hp} {b o k : Nat} {x : Lt} {s : ByteArray} (h : Rds w0 G b o (LtC x)) (hs : (LtC x)[1 + k * 4]? = some (.string s)) : Rd w0 G b (o + 1 + (k : Int).toNat * 4 + 0) (.string s) := by
 have := h _ _ hs
 simpa [Nat.add_assoc] using this
def ruleE (r : Rl) : Int := bif mayRl r then (bif (dd (allSlots r)).all (inB (givenL r)) then 0 else 5) else 2
end Go.Proofs.YtfddkcmooommeaaGreatDoor.Gl
end
section
namespace Go.Proofs.YtfddkcmooommeaaGreatDoor.Gl
open Go.RowKit Go.Shelf
set_option linter.unusedVariables false
set_option linter.unnecessarySimpa false
set_option linter.unusedSimpArgs false
attribute [-simp] List.getD_eq_getElem?_getD
end Go.Proofs.YtfddkcmooommeaaGreatDoor.Gl
end
