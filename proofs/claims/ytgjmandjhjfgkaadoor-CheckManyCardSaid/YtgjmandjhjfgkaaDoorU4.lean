/- The plain law of many rules: up to 1010 of them are safe, none alike, and just so many may be as may be. -/
import Derived.Test.YtgjmandjhjfgkaaDoorS23
namespace Go.Proofs.YtgjmandjhjfgkaaDoor.Gl
open Go.RowKit Go.Shelf
set_option linter.unusedVariables false
set_option linter.unnecessarySimpa false
set_option linter.unusedSimpArgs false
attribute [-simp] List.getD_eq_getElem?_getD

section
variable {X : Cx} {Q : Post} {fr : Fr} {ds : List Deferred} {G : Hp} {ops : Array Oper} {o : Oper} {rest : List Oper} {d : Nat}
theorem R.addS {t u : TypeId} {x y : Operand} {m n : ByteArray} (h : At X ops fr o (.binOp .add t x y u) d) (hx : evO fr x = some (.string m)) (hy : evO fr y = some (.string n)) (hz : m.size + n.size ≤ 9223372036854775807)
    (K : GOps X ops Q rest ((d, .string (m ++ n)) :: fr) ds G) : GOps X ops Q (o :: rest) fr ds G :=
  R.bin h hx hy (fun w _ => by rw [Sem.run_bind, run_guard_string]; simp [binOp, Op.stringOp]; omega) K
end

/-! ### many rules -/
def kQ : ByteArray := ⟨#[104, 116, 116, 112, 58, 47, 47, 113, 47]⟩
def qL (i : Nat) : List Nat := [97 + i / 676, 97 + i / 26 % 26, 97 + i % 26]
def qS (i : Nat) : Sl := ⟨ByteArray.empty, ⟨1, kQ ++ strOf (qL i), ByteArray.empty⟩⟩
def kM : Lt := ⟨1, ⟨kV kx, kP, kV kx⟩, zSl, zSl⟩
def mkR (i : Nat) : Rl := ⟨⟨kV kx, kP, qS i⟩, [kM]⟩
def rulesOf (n : Nat) : List Rl := (List.range n).map mkR
theorem rulesOf_len (n : Nat) : (rulesOf n).length = n := by simp [rulesOf]
theorem rulesOf_get {n i : Nat} (h : i < n) : (rulesOf n)[i]? = some (mkR i) := by simp [rulesOf, h]
theorem kM_ok : LtOk kM := by unfold LtOk PtOk SlOk; decide +kernel
theorem qS_size (i : Nat) : (kQ ++ strOf (qL i)).size = 12 := by
  rw [ByteArray.size_append]; rfl
theorem kVx_ok : SlOk (kV kx) := by unfold SlOk; decide +kernel
theorem kP_ok : SlOk kP := by unfold SlOk; decide +kernel
theorem qS_ok (i : Nat) : SlOk (qS i) := ⟨Nat.zero_le _, by show (kQ ++ strOf (qL i)).size ≤ 1048576; rw [qS_size]; decide, Nat.zero_le _⟩
theorem mkR_ok (i : Nat) : RlOk (mkR i) := ⟨⟨kVx_ok, kP_ok, qS_ok i⟩, fun l hl => by rw [show (mkR i).body = [kM] from rfl, List.mem_singleton] at hl; subst hl; exact kM_ok⟩
theorem many_z0 : (List.range 1010).all (fun i => zE (mkR i)) = true := by decide +kernel
theorem many_z {n : Nat} (h : n ≤ 1010) : (rulesOf n).all zE = true := by
  have h0 := many_z0
  rw [List.all_eq_true] at h0 ⊢
  intro r hr
  obtain ⟨i, hi, rfl⟩ := List.mem_map.1 hr
  exact h0 i (List.mem_range.2 (by have := List.mem_range.1 hi; omega))
theorem many_neg (n : Nat) : negates (rulesOf n) = false := by
  unfold negates
  rw [List.any_eq_false]
  intro r hr
  obtain ⟨i, hi, rfl⟩ := List.mem_map.1 hr
  exact (by decide : ¬ (([kM] : List Lt).any litNot = true))
theorem bs_qS {i : Nat} (h : i < 1010) : bs (kQ ++ strOf (qL i)) = bs kQ ++ qL i := by
  have h1 : bs (kQ ++ strOf (qL i)) = bs kQ ++ bs (strOf (qL i)) := by
    simp [bs, ByteArray.data_append]
  rw [h1, bs_strOf]
  intro c hc
  simp [qL] at hc
  omega
theorem qL_inj {i k : Nat} (h : qL i = qL k) : i = k := by
  simp only [qL, List.cons.injEq, and_true] at h
  omega
theorem many_same {i k : Nat} (hi : i < 1010) (hk : k < 1010) (h : sameRl (mkR i) (mkR k) = true) : i = k := by
  simp only [sameRl, ptEq, slEq, tmEq, Bool.and_eq_true] at h
  have h1 : ((kQ ++ strOf (qL i)).toList == (kQ ++ strOf (qL k)).toList) = true := h.1.2.2.2.1.2.1
  rw [toList_beq, bs_qS hi, bs_qS hk, beq_iff_eq] at h1
  exact qL_inj (List.append_cancel_left h1)
theorem many_dup {n : Nat} (h : n ≤ 1010) : noDup (rulesOf n) = true := by
  refine allTo_all fun k hk => allTo_all fun l hl => ?_
  rw [rulesOf_len] at hk
  rw [sameAt_of (rulesOf_get hk) (rulesOf_get (by omega))]
  cases e : sameRl (mkR k) (mkR l) with
  | false => rfl
  | true => have := many_same (by omega) (by omega) e; omega
theorem many_prog {n : Nat} (h : n ≤ 1010) : (1000 < n ∧ progE (rulesOf n) = 9) ∨ (n ≤ 1000 ∧ progE (rulesOf n) = 0) := by
  rcases Nat.lt_or_ge 1000 n with h1 | h1
  · exact .inl ⟨h1, prog_9 (many_z h) (nb2 (many_neg n)) (many_dup h) (by rw [rulesOf_len]; exact h1)⟩
  · exact .inr ⟨h1, prog_0 (many_z h) (nb2 (many_neg n)) (many_dup h) (by rw [rulesOf_len]; omega)⟩

end Go.Proofs.YtgjmandjhjfgkaaDoor.Gl
