import Derived.Test.YtgjmandjhjfgkaaDoorS2
namespace Go.Proofs.YtgjmandjhjfgkaaDoor.Gl
set_option linter.unusedVariables false
set_option linter.unnecessarySimpa false
set_option linter.unusedSimpArgs false
attribute [-simp] List.getD_eq_getElem?_getD

/-! ### plain: the reference's way to a rune -/
def putL (r : Nat) : List Nat :=
  if r ≤ 127 then [r] else if r ≤ 2047 then [192 + r / 64, 128 + r % 64] else if r ≤ 65535 then [224 + r / 4096, 128 + r / 64 % 64, 128 + r % 64]
  else [240 + r / 262144, 128 + r / 4096 % 64, 128 + r / 64 % 64, 128 + r % 64]
def hdm : Nat → Nat
  | 2 => 32
  | 3 => 16
  | 4 => 8
  | _ => 1
def refC (l : List Nat) (n i : Nat) : Nat := if 0 < i then (if i = 0 ∧ 1 < n then l.getD i 0 % hdm n else l.getD i 0) % 64 else (if i = 0 ∧ 1 < n then l.getD i 0 % hdm n else l.getD i 0)
def refAcc (l : List Nat) (n : Nat) : Nat → Nat
  | 0 => 0
  | i + 1 => 64 * refAcc l n i + refC l n i
def tryR (l : List Nat) (n : Nat) : Bool := mayR (refAcc l n n) && (putL (refAcc l n n) == l.take n)
theorem hdm_pos (n : Nat) : 0 < hdm n := by unfold hdm; split <;> omega
theorem refC_lt {l : List Nat} (h : ∀ i, l.getD i 0 < 256) (n i : Nat) : refC l n i < 256 := by
  have h1 := h i
  have h2 := Nat.mod_le (l.getD i 0) (hdm n)
  unfold refC
  have h3 := Nat.mod_le (if i = 0 ∧ 1 < n then l.getD i 0 % hdm n else l.getD i 0) 64
  repeat' split
  all_goals omega
theorem refAcc_bound {l : List Nat} (h : ∀ i, l.getD i 0 < 256) (n : Nat) : ∀ i, i ≤ 4 → refAcc l n i < 1073741824 := by
  intro i hi
  have a0 := refC_lt h n 0
  have a1 := refC_lt h n 1
  have a2 := refC_lt h n 2
  have a3 := refC_lt h n 3
  rcases (by omega : i = 0 ∨ i = 1 ∨ i = 2 ∨ i = 3 ∨ i = 4) with rfl | rfl | rfl | rfl | rfl <;> simp only [refAcc] <;> omega
theorem bs_getD_lt (s : ByteArray) (i : Nat) : (bs s).getD i 0 < 256 := by
  rw [List.getD]
  cases h : (bs s)[i]? with
  | none => simp
  | some c => exact bs_lt s i c h
theorem putL_lt {r : Nat} (h : r ≤ 1114111) : ∀ c ∈ putL r, c < 256 := by
  unfold putL
  repeat' split
  all_goals simp only [List.mem_cons, List.not_mem_nil, or_false]; omega
theorem putL_len (r : Nat) : (putL r).length ≤ 4 := by
  unfold putL
  repeat' split
  all_goals simp
theorem take_getD {l : List Nat} {n : Nat} (h : n ≤ l.length) : l.take n = (List.range n).map fun i => l.getD i 0 := by
  apply List.ext_getElem?
  intro i
  rw [List.getElem?_map]
  rcases Nat.lt_or_ge i n with hi | hi
  · rw [List.getElem?_take_of_lt hi, List.getElem?_range hi, List.getElem?_eq_getElem (by omega)]
    simp [List.getD, List.getElem?_eq_getElem (show i < l.length by omega)]
  · rw [List.getElem?_eq_none (by simp; omega), List.getElem?_eq_none (by simp; omega)]
    rfl

theorem range1 : List.range 1 = [0] := rfl
theorem range2 : List.range 2 = [0, 1] := rfl
theorem range3 : List.range 3 = [0, 1, 2] := rfl
theorem range4 : List.range 4 = [0, 1, 2, 3] := rfl

theorem try_iff {l : List Nat} {n : Nat} (hl : n ≤ l.length) : tryR l n = true ↔ mayR (refAcc l n n) = true ∧ putL (refAcc l n n) = (List.range n).map fun i => l.getD i 0 := by
  unfold tryR
  rw [take_getD hl]
  simp

/-- What is found at the first byte, by cases. -/
theorem getS_iff {l : List Nat} (hb : ∀ i, l.getD i 0 < 256) {r n : Nat} : getS l = some (r, n) ↔ 1 ≤ n ∧ n ≤ 4 ∧ n ≤ l.length ∧ refAcc l n n = r ∧ tryR l n = true := by
  have b0 := hb 0
  have b1 := hb 1
  have b2 := hb 2
  have b3 := hb 3
  have m1 : ∀ x : Nat, x % 64 < 64 := fun x => Nat.mod_lt _ (by omega)
  have e0 : ∀ i, allTo (fun i => isCont (l.getD (i + 1) 0)) (i + 1) = (allTo (fun i => isCont (l.getD (i + 1) 0)) i && isCont (l.getD (i + 1) 0)) := fun i => by
    unfold allTo
    rw [List.range_succ, List.all_append]
    simp
  constructor
  · intro h
    unfold getS at h
    simp only at h
    split at h
    case isFalse => cases h
    rename_i hc
    obtain ⟨h1, h2, h3, h4, h5⟩ := hc
    simp only [Option.some.injEq, Prod.mk.injEq] at h
    obtain ⟨rfl, rfl⟩ := h
    generalize hc0 : l.getD 0 0 = c0 at *
    generalize hc1 : l.getD 1 0 = c1 at *
    generalize hc2 : l.getD 2 0 = c2 at *
    generalize hc3 : l.getD 3 0 = c3 at *
    have hm : (hdM c0 = 0 ∧ c0 < 128 ∧ hdR c0 = c0) ∨ (hdM c0 = 1 ∧ 194 ≤ c0 ∧ c0 < 224 ∧ hdR c0 = c0 % 32) ∨ (hdM c0 = 2 ∧ 224 ≤ c0 ∧ c0 < 240 ∧ hdR c0 = c0 % 16) ∨ (hdM c0 = 3 ∧ 240 ≤ c0 ∧ c0 < 245 ∧ hdR c0 = c0 % 8) := by
      rcases (by omega : c0 < 128 ∨ (194 ≤ c0 ∧ c0 < 224) ∨ (224 ≤ c0 ∧ c0 < 240) ∨ (240 ≤ c0 ∧ c0 < 245) ∨ ((128 ≤ c0 ∧ c0 < 194) ∨ 245 ≤ c0)) with g | g | g | g | g
      · exact .inl ⟨by unfold hdM; rw [if_pos (by omega)], g, by unfold hdR; rw [if_pos (by omega)]⟩
      · exact .inr (.inl ⟨by unfold hdM; rw [if_neg (by omega), if_pos (by omega)], g.1, g.2, by unfold hdR; rw [if_neg (by omega), if_pos (by omega)]⟩)
      · exact .inr (.inr (.inl ⟨by unfold hdM; rw [if_neg (by omega), if_neg (by omega), if_pos (by omega)], g.1, g.2, by unfold hdR; rw [if_neg (by omega), if_neg (by omega), if_pos (by omega)]⟩))
      · exact .inr (.inr (.inr ⟨by unfold hdM; rw [if_neg (by omega), if_neg (by omega), if_neg (by omega), if_pos (by omega)], g.1, g.2, by unfold hdR; rw [if_neg (by omega), if_neg (by omega), if_neg (by omega), if_pos (by omega)]⟩))
      · exfalso
        have : hdM c0 = -1 := by unfold hdM; rw [if_neg (by omega), if_neg (by omega), if_neg (by omega), if_neg (by omega)]
        omega
    rcases hm with ⟨hm, hr⟩ | ⟨hm, hr1, hr2, hr⟩ | ⟨hm, hr1, hr2, hr⟩ | ⟨hm, hr1, hr2, hr⟩
    · rw [hm] at h2 h3 h4 h5 ⊢
      simp only [Int.toNat_zero, accR, hr.2, Nat.zero_add] at *
      refine ⟨by omega, by omega, by omega, ?_, ?_⟩
      · simp [refAcc, refC, hc0]
      · rw [try_iff (by omega)]
        have e : refAcc l 1 1 = c0 := by simp [refAcc, refC, hc0]
        rw [e]
        refine ⟨h4, ?_⟩
        simp [putL, range1, hc0]; omega
    · rw [hm] at h2 h3 h4 h5 ⊢
      simp only [show (1 : Int).toNat = 1 from rfl, accR, hr, Nat.zero_add, hc1] at h2 h3 h4 h5 ⊢
      have e : refAcc l 2 2 = c0 % 32 * 64 + c1 % 64 := by simp [refAcc, refC, hc0, hc1, hdm]; omega
      refine ⟨by omega, by omega, by omega, e, ?_⟩
      rw [try_iff (by omega), e]
      refine ⟨h4, ?_⟩
      have h3' := e0 0
      simp only [Nat.zero_add] at h3'
      rw [h3] at h3'
      simp only [hc1, isCont, allTo_zero, Bool.true_and] at h3'
      have k1 : 128 ≤ c1 ∧ c1 < 192 := by simpa using h3'.symm
      rw [putL, if_neg (by omega), if_pos (by omega)]
      change _ = List.map (fun i => l.getD i 0) (List.range 2)
      simp only [range2, List.map_cons, List.map_nil, hc0, hc1, List.cons.injEq, and_true]
      omega
    · rw [hm] at h2 h3 h4 h5 ⊢
      simp only [show (2 : Int).toNat = 2 from rfl, accR, hr, Nat.zero_add, hc1, hc2] at h2 h3 h4 h5 ⊢
      have e : refAcc l 3 3 = (c0 % 16 * 64 + c1 % 64) * 64 + c2 % 64 := by simp [refAcc, refC, hc0, hc1, hc2, hdm]; omega
      refine ⟨by omega, by omega, by omega, e, ?_⟩
      rw [try_iff (by omega), e]
      refine ⟨h4, ?_⟩
      have h3' := e0 1
      rw [h3, e0 0] at h3'
      simp only [Nat.zero_add, hc1, hc2, isCont, allTo_zero, Bool.true_and, show (1 : Nat) + 1 = 2 from rfl] at h3'
      have k1 : (128 ≤ c1 ∧ c1 < 192) ∧ (128 ≤ c2 ∧ c2 < 192) := by simpa using h3'.symm
      unfold sizeR at h5
      have h5' : 2048 ≤ (c0 % 16 * 64 + c1 % 64) * 64 + c2 % 64 := by
        (repeat' split at h5) <;> omega
      rw [putL, if_neg (by omega), if_neg (by omega), if_pos (by omega)]
      change _ = List.map (fun i => l.getD i 0) (List.range 3)
      simp only [range3, List.map_cons, List.map_nil, hc0, hc1, hc2, List.cons.injEq, and_true]
      omega
    · rw [hm] at h2 h3 h4 h5 ⊢
      simp only [show (3 : Int).toNat = 3 from rfl, accR, hr, Nat.zero_add, hc1, hc2, hc3] at h2 h3 h4 h5 ⊢
      have e : refAcc l 4 4 = ((c0 % 8 * 64 + c1 % 64) * 64 + c2 % 64) * 64 + c3 % 64 := by simp [refAcc, refC, hc0, hc1, hc2, hc3, hdm]; omega
      refine ⟨by omega, by omega, by omega, e, ?_⟩
      rw [try_iff (by omega), e]
      refine ⟨h4, ?_⟩
      have h3' := e0 2
      rw [h3, e0 1, e0 0] at h3'
      simp only [Nat.zero_add, hc1, hc2, hc3, isCont, allTo_zero, Bool.true_and, show (1 : Nat) + 1 = 2 from rfl, show (2 : Nat) + 1 = 3 from rfl] at h3'
      have k1 : ((128 ≤ c1 ∧ c1 < 192) ∧ (128 ≤ c2 ∧ c2 < 192)) ∧ (128 ≤ c3 ∧ c3 < 192) := by simpa using h3'.symm
      unfold sizeR at h5
      have h5' : 65536 ≤ ((c0 % 8 * 64 + c1 % 64) * 64 + c2 % 64) * 64 + c3 % 64 := by
        (repeat' split at h5) <;> omega
      rw [putL, if_neg (by omega), if_neg (by omega), if_neg (by omega)]
      change _ = List.map (fun i => l.getD i 0) (List.range 4)
      simp only [range4, List.map_cons, List.map_nil, hc0, hc1, hc2, hc3, List.cons.injEq, and_true]
      omega
  · rintro ⟨h1, h2, h3, h4, h5⟩
    rw [try_iff h3] at h5
    obtain ⟨h5, h6⟩ := h5
    have hmay : refAcc l n n ≤ 1114111 := by simp [mayR] at h5; omega
    generalize hc0 : l.getD 0 0 = c0 at *
    generalize hc1 : l.getD 1 0 = c1 at *
    generalize hc2 : l.getD 2 0 = c2 at *
    generalize hc3 : l.getD 3 0 = c3 at *
    have fin : ∀ m : Nat, hdM c0 = m → m < l.length → allTo (fun i => isCont (l.getD (i + 1) 0)) m = true → accR l (hdR c0) m = r → mayR r = true → sizeR r = m + 1 → n = m + 1 → getS l = some (r, n) := by
      intro m g1 g2 g3 g4 g5 g6 g7
      unfold getS
      simp only [hc0, g1, Int.toNat_natCast, g4]
      rw [if_pos ⟨by omega, g2, g3, g5, g6⟩, g7]
    rcases (by omega : n = 1 ∨ n = 2 ∨ n = 3 ∨ n = 4) with rfl | rfl | rfl | rfl
    · have e : refAcc l 1 1 = c0 := by simp [refAcc, refC, hc0]
      rw [e] at h4 h5 h6 hmay
      subst h4
      simp only [range1, List.map_cons, List.map_nil, hc0] at h6
      have hlt : c0 ≤ 127 := by
        rcases Nat.lt_or_ge 127 c0 with hh | hh
        · rw [putL, if_neg (by omega)] at h6
          (repeat' split at h6) <;> simp at h6
        · exact hh
      exact fin 0 (by simp [hdM]; omega) (by omega) rfl (by simp [accR, hdR]; omega) h5 (by simp [sizeR]; omega) rfl
    · have e : refAcc l 2 2 = c0 % 32 * 64 + c1 % 64 := by simp [refAcc, refC, hc0, hc1, hdm]; omega
      rw [e] at h4 h5 h6 hmay
      simp only [range2, List.map_cons, List.map_nil, hc0, hc1] at h6
      rw [h4] at h5 h6 hmay
      have hk : 128 ≤ r ∧ r ≤ 2047 ∧ 192 + r / 64 = c0 ∧ 128 + r % 64 = c1 := by
        rw [putL] at h6
        (repeat' split at h6) <;> simp at h6 <;> omega
      exact fin 1 (by unfold hdM; rw [if_neg (by omega), if_pos (by omega)]; rfl) (by omega) (by rw [e0 0]; simp [allTo_zero, hc1, isCont]; omega)
        (by simp only [accR, Nat.zero_add, hc1]; unfold hdR; rw [if_neg (by omega), if_pos (by omega)]; omega) h5 (by unfold sizeR; rw [if_neg (by omega), if_pos (by omega)]) rfl
    · have e : refAcc l 3 3 = (c0 % 16 * 64 + c1 % 64) * 64 + c2 % 64 := by simp [refAcc, refC, hc0, hc1, hc2, hdm]; omega
      rw [e] at h4 h5 h6 hmay
      simp only [range3, List.map_cons, List.map_nil, hc0, hc1, hc2] at h6
      rw [h4] at h5 h6 hmay
      have hk : 2048 ≤ r ∧ r ≤ 65535 ∧ 224 + r / 4096 = c0 ∧ 128 + r / 64 % 64 = c1 ∧ 128 + r % 64 = c2 := by
        rw [putL] at h6
        (repeat' split at h6) <;> simp at h6 <;> omega
      exact fin 2 (by unfold hdM; rw [if_neg (by omega), if_neg (by omega), if_pos (by omega)]; rfl) (by omega) (by rw [e0 1, e0 0]; simp [allTo_zero, hc1, hc2, isCont]; omega)
        (by simp only [accR, Nat.zero_add, hc1, hc2]; unfold hdR; rw [if_neg (by omega), if_neg (by omega), if_pos (by omega)]; omega) h5 (by unfold sizeR; rw [if_neg (by omega), if_neg (by omega), if_pos (by omega)]) rfl
    · have e : refAcc l 4 4 = ((c0 % 8 * 64 + c1 % 64) * 64 + c2 % 64) * 64 + c3 % 64 := by simp [refAcc, refC, hc0, hc1, hc2, hc3, hdm]; omega
      rw [e] at h4 h5 h6 hmay
      simp only [range4, List.map_cons, List.map_nil, hc0, hc1, hc2, hc3] at h6
      rw [h4] at h5 h6 hmay
      have hk : 65536 ≤ r ∧ 240 + r / 262144 = c0 ∧ 128 + r / 4096 % 64 = c1 ∧ 128 + r / 64 % 64 = c2 ∧ 128 + r % 64 = c3 := by
        rw [putL] at h6
        (repeat' split at h6) <;> simp at h6 <;> omega
      exact fin 3 (by unfold hdM; rw [if_neg (by omega), if_neg (by omega), if_neg (by omega), if_pos (by omega)]; rfl) (by omega) (by rw [e0 2, e0 1, e0 0]; simp [allTo_zero, hc1, hc2, hc3, isCont]; omega)
        (by simp only [accR, Nat.zero_add, hc1, hc2, hc3]; unfold hdR; rw [if_neg (by omega), if_neg (by omega), if_neg (by omega), if_pos (by omega)]; omega) h5 (by unfold sizeR; rw [if_neg (by omega), if_neg (by omega), if_neg (by omega)]) rfl
end Go.Proofs.YtgjmandjhjfgkaaDoor.Gl
