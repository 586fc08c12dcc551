import Derived.Test.YtgjmandjhjfgkaaDoorGs
namespace Go.Proofs.YtgjmandjhjfgkaaDoor.Gl
open Go.RowKit Go.Shelf
set_option linter.unusedVariables false
set_option linter.unnecessarySimpa false
set_option linter.unusedSimpArgs false

section
variable {X : Cx} {Q : Post} {fr : Fr} {ds : List Deferred} {G : Hp} {ops : Array Oper} {o : Oper} {rest : List Oper} {d : Nat}

/-- make of a slice. -/
theorem R.makeSlice {t e : TypeId} {x y : Operand} {n sz bytes : Nat} (h : At X ops fr o (.makeSlice t x y) d) (hx : evO fr x = some (.int .i64 (n : Int))) (hy : evO fr y = some (.int .i64 (n : Int))) (hu : X.P.underlying t = some (.slice e)) (hi : InfoE X.P e sz bytes)
    (hb : bytes * n ≤ 281474976710656) (h63 : n ≤ 9223372036854775807)
    (K : ∀ b (C : Array Value), C.size = n * sz → GOps X ops Q rest ((d, .slice (some ⟨b, 0, none⟩) n n) :: fr) ds ((b, .exact (.cells C e (0, 0))) :: G)) : GOps X ops Q (o :: rest) fr ds G := by
  obtain ⟨i, z, hi1, hz, hzs, hs1, hb1⟩ := hi.ex
  refine R.stepW h (by simp) fun ρ w hρ hw => ?_
  have hb' : (i.bytes : Int) * (n : Int) ≤ 281474976710656 := by
    rw [hb1]
    have h : ((bytes * n : Nat) : Int) ≤ 281474976710656 := by omega
    rwa [Int.natCast_mul] at h
  have hr := run_make (P := X.P) w t e i z hu hi1 hz .i64 .i64 n n (by omega) (by omega) hb' (by omega)
  simp only [Int.toNat_natCast] at hr
  exact ⟨_, _, _, by
    simp only [execOp, h.op, hρ _ _ hx, hρ _ _ hy, Sem.run_bind, hr, Result.andThen_ok]
    rfl, hw.alloc _, K w.heap.size _ (by simp [madeCells, hs1])⟩

/-! ### Pieces of slices -/
theorem R.sliceSH {t e : TypeId} {x y : Operand} {k : IntKind} {A : Option Addr} {n c z m : Nat} {j : Int} (h : At X ops fr o (.slice t x none (some y) none) d) (hx : evO fr x = some (.slice A n c)) (hy : evO fr y = some (.int k j)) (hu : X.P.underlying t = some (.slice e)) (hz : ∀ w, (sizeOf e).run X.P w = .ok z w)
    (hA : ∀ a, A = some a → a.spot = none) (h0 : 0 ≤ j) (h1 : j ≤ c) (hjm : j.toNat = m) (K : GOps X ops Q rest ((d, .slice A m c) :: fr) ds G) : GOps X ops Q (o :: rest) fr ds G := by
  subst hjm
  exact R.val h (by simp) (fun ρ w hρ hw => by
    have e : (if c = 0 then A else A.map (·.add (0 * z))) = A := by
      split
      · rfl
      · cases A with
        | none => rfl
        | some a =>
          obtain ⟨b, f, s⟩ := a
          have := hA _ rfl
          simp only at this
          subst this
          simp [add_none]
    simp only [execOp, h.op, Option.map_some, Option.map_none, hρ _ _ hx, hρ _ _ hy, Instr.sliceAt, Sem.run_bind, run_und hu, Result.andThen_ok, Instr.slice, Instr.sliceBounds, Sem.run_pure, Go.run_sliceBound w k j c _ h0 h1, hz]
    simp only [Nat.sub_zero, e]) K
end
end Go.Proofs.YtgjmandjhjfgkaaDoor.Gl
