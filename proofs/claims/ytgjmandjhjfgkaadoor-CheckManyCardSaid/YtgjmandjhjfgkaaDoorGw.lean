import Derived.Test.YtgjmandjhjfgkaaDoorGu
import Derived.Test.YtgjmandjhjfgkaaDoorDa
namespace Go.Proofs.YtgjmandjhjfgkaaDoor.Gl
open Go.RowKit Go.Shelf
set_option linter.unusedVariables false
set_option linter.unnecessarySimpa false
set_option linter.unusedSimpArgs false

/-- Where a piece of a slice begins. -/
def cutA (A : Option Addr) (l z c : Nat) : Option Addr := if c = l then A else A.map (·.add (l * z))

section
variable {X : Cx} {Q : Post} {fr : Fr} {ds : List Deferred} {G : Hp} {ops : Array Oper} {o : Oper} {rest : List Oper} {d : Nat}
theorem V.sliceSLH {t e : TypeId} {x y y' : Operand} {k k' : IntKind} {A : Option Addr} {n c z : Nat} {i j : Int} (h : At X ops fr o (.slice t x (some y) (some y') none) d) (hx : evO fr x = some (.slice A n c)) (hy : evO fr y = some (.int k i)) (hy' : evO fr y' = some (.int k' j)) (hu : X.P.underlying t = some (.slice e)) (hz : ∀ w, (sizeOf e).run X.P w = .ok z w)
    (h0 : 0 ≤ i) (h1 : i ≤ j) (h2 : j ≤ c) : GV X ops fr G o d (.slice (cutA A i.toNat z c) (j.toNat - i.toNat) (c - i.toNat)) :=
  GV.of h (by simp) (fun ρ w hρ hw => by
    simp only [execOp, h.op, Option.map_some, Option.map_none, hρ _ _ hx, hρ _ _ hy, hρ _ _ hy', Instr.sliceAt, Sem.run_bind, run_und hu, Result.andThen_ok, Instr.slice, Instr.sliceBounds, Sem.run_pure, Go.run_sliceBound w k' j c _ (by omega) h2, Go.run_sliceBound w k i j.toNat _ h0 (by omega), hz]
    rfl)
theorem R.sliceSLH {t e : TypeId} {x y y' : Operand} {k k' : IntKind} {A : Option Addr} {n c z : Nat} {i j : Int} (h : At X ops fr o (.slice t x (some y) (some y') none) d) (hx : evO fr x = some (.slice A n c)) (hy : evO fr y = some (.int k i)) (hy' : evO fr y' = some (.int k' j)) (hu : X.P.underlying t = some (.slice e)) (hz : ∀ w, (sizeOf e).run X.P w = .ok z w)
    (h0 : 0 ≤ i) (h1 : i ≤ j) (h2 : j ≤ c) (K : GOps X ops Q rest ((d, .slice (cutA A i.toNat z c) (j.toNat - i.toNat) (c - i.toNat)) :: fr) ds G) : GOps X ops Q (o :: rest) fr ds G :=
  R.val h (by simp) (V.sliceSLH (G := G) h hx hy hy' hu hz h0 h1 h2).run K

/-- An array in memory as a slice. -/
theorem R.sliceArr {t e : TypeId} {x : Operand} {b f n z : Nat} (h : At X ops fr o (.slice t x none none none) d) (hx : evO fr x = some (.pointer (some ⟨b, f, none⟩))) (hu : X.P.underlying t = some (.array n e)) (hz : ∀ w, (sizeOf e).run X.P w = .ok z w)
    (K : GOps X ops Q rest ((d, .slice (some ⟨b, f, none⟩) n n) :: fr) ds G) : GOps X ops Q (o :: rest) fr ds G :=
  R.val h (by simp) (fun ρ w hρ hw => by
    have e : (if n = 0 then (⟨b, f, none⟩ : Addr) else (⟨b, f, none⟩ : Addr).add (0 * z)) = ⟨b, f, none⟩ := by split <;> simp [add_none]
    simp only [execOp, h.op, Option.map_none, hρ _ _ hx, Instr.sliceAt, Sem.run_bind, run_und hu, Result.andThen_ok, run_sureAddr, Instr.sliceBounds, Sem.run_pure, hz, e]
    simp) K

theorem run_partAgg {P : Program} {w : World} {t : TypeId} {dsc : TypeDesc} {n : Nat} (hu : P.underlying t = some dsc) (ha : isA dsc = true) (hz : ∀ w, (sizeOf t).run P w = .ok n w) {cs : Array Value} {o : Nat} : (part t cs o).run P w = .ok (.agg (cs.extract o (o + n))) w := by
  simp only [part, Sem.run_bind, run_isAgg hu, ha, Result.andThen_ok, if_true, hz]
  rfl
/-- An element (itself of several cells) of an array value. -/
theorem R.indexArr {t e : TypeId} {x y : Operand} {k : IntKind} {n z : Nat} {cs : Array Value} {i : Int} {dsc : TypeDesc} {es : Array Value} (h : At X ops fr o (.index t x y) d) (hx : evO fr x = some (.agg cs)) (hy : evO fr y = some (.int k i)) (hu : X.P.underlying t = some (.array n e)) (he : X.P.underlying e = some dsc) (ha : isA dsc = true) (hz : ∀ w, (sizeOf e).run X.P w = .ok z w)
    (h0 : 0 ≤ i) (h1 : i < n) (hes : cs.extract (i.toNat * z) (i.toNat * z + z) = es) (K : GOps X ops Q rest ((d, .agg es) :: fr) ds G) : GOps X ops Q (o :: rest) fr ds G := by
  subst hes
  exact R.val h (by simp) (fun ρ w hρ hw => by
    simp only [execOp, h.op, hρ _ _ hx, hρ _ _ hy, Instr.index, asIntOf, Sem.run_bind, Sem.run_pure, Result.andThen_ok, run_und hu, if_pos (show 0 ≤ i ∧ i < (n : Int) from ⟨h0, h1⟩), hz, run_partAgg he ha hz]) K

/-- A field (of one cell) of a struct value. -/
theorem R.field1 {s : TypeId} {x : Operand} {i : Nat} {fs : Array Field} {fld : Field} {cs : Array Value} {v : Value} {dsc : TypeDesc} (h : At X ops fr o (.field s x i) d) (hx : evO fr x = some (.agg cs)) (hu : X.P.underlying s = some (.struct fs)) (hf : fs[i]? = some fld) (he : X.P.underlying fld.type = some dsc) (ha : isA dsc = false) (hv : cs[fld.offset]? = some v)
    (K : GOps X ops Q rest ((d, v) :: fr) ds G) : GOps X ops Q (o :: rest) fr ds G :=
  R.val h (by simp) (fun ρ w hρ hw => by
    simp only [execOp, h.op, hρ _ _ hx, Instr.field, Sem.run_bind, run_und hu, Result.andThen_ok, hf, asAgg, Sem.run_pure, part, run_isAgg he, ha]
    simp [hv]) K
end

/-- A struct's cell and a slot. -/
theorem resCellTmp {X : Cx} {fn : Func} {t u : Tmp} {ty : TypeId} {dsc : TypeDesc} {fr : Fr} {G : Hp} {b n : Nat} {cs : List Value} {v : Value} (hr : fn.results = #[.cell t ty, .tmp u]) (hv : lk fr t = some (.pointer (some ⟨b, 0, none⟩))) (hv2 : lk fr u = some v) (hu : X.P.underlying ty = some dsc) (ha : isA dsc = true) (hz : ∀ w, (sizeOf ty).run X.P w = .ok n w) (hrd : Rds X.w0 G b 0 cs) (hn : cs.length = n) : Res X fn fr G (.tuple #[.agg cs.toArray, v]) := fun a w ds hf hs => by
  subst hn
  have h1 := hf.look t _ hv
  have h1' := hf.look u _ hv2
  have h2 := run_loadVar_agg (P := X.P) hu ha hz hs hrd
  have h4 : (asAddr (.pointer (some ⟨b, 0, none⟩))).run X.P w = .ok ⟨b, 0, none⟩ w := rfl
  have h3' : (a.tmps[t]?.getD undef) = .pointer (some ⟨b, 0, none⟩) := by rw [h1]; rfl
  have h5 : (a.tmps[u]?.getD undef) = v := by rw [h1']; rfl
  simp [results, hr, h3', h4, h2, h5]

theorem resCellA {X : Cx} {fn : Func} {t : Tmp} {ty : TypeId} {dsc : TypeDesc} {fr : Fr} {G : Hp} {b n : Nat} {cs : List Value} (hr : fn.results = #[.cell t ty]) (hv : lk fr t = some (.pointer (some ⟨b, 0, none⟩))) (hu : X.P.underlying ty = some dsc) (ha : isA dsc = true) (hz : ∀ w, (sizeOf ty).run X.P w = .ok n w) (hrd : Rds X.w0 G b 0 cs) (hn : cs.length = n) : Res X fn fr G (.agg cs.toArray) := fun a w ds hf hs => by
  subst hn
  have h1 := hf.look t _ hv
  have h2 := run_loadVar_agg (P := X.P) hu ha hz hs hrd
  have h4 : (asAddr (.pointer (some ⟨b, 0, none⟩))).run X.P w = .ok ⟨b, 0, none⟩ w := rfl
  have h3' : (a.tmps[t]?.getD undef) = .pointer (some ⟨b, 0, none⟩) := by rw [h1]; rfl
  simp [results, hr, h3', h4, h2]
/-- The ways through a region meet again, up to the numbers of two blocks. -/
theorem GW.cutE {X : Cx} {x y : Code} {Q : Post} {fr : Fr} {ds : List Deferred} {G : Hp} (FR : Nat → Nat → Fr) (GG : Nat → Nat → Hp) (h1 : GW X x (fun e fr1 ds1 G1 => e = .normal ∧ ds1 = ds ∧ ∃ i j, Keeps fr1 (FR i j) ∧ Hs G1 (GG i j)) fr ds G)
    (h2 : ∀ i j, GW X y Q (FR i j) ds (GG i j)) : GW X (.seq x y) Q fr ds G := by
  refine GW.seq (h1.mono ?_)
  rintro e fr1 ds1 G1 ⟨rfl, rfl, i, j, hk, hs⟩
  exact GW.weak hk hs (h2 i j)

theorem RowAt.cut {α : Type} {w0 : World} {G : Hp} {sz : Nat} {C : α → List Value → Prop} {A : Option Addr} {xs : List α} {c i j : Nat} (h : RowAt w0 G sz C A xs) (hc : xs.length ≤ c) : RowAt w0 G sz C (cutA A i sz c) ((xs.take j).drop i) := by
  intro k x hx
  rw [List.getElem?_drop] at hx
  have hlt : i + k < (xs.take j).length := (List.getElem?_eq_some_iff.1 hx).1
  rw [List.length_take] at hlt
  rw [List.getElem?_take_of_lt (by omega)] at hx
  obtain ⟨b, o, cs, hA, h2, h3⟩ := h (i + k) x hx
  refine ⟨b, o + i * sz, cs, ?_, h2, ?_⟩
  · unfold cutA
    rw [if_neg (by omega), hA]
    simp [add_none]
  · rw [Nat.add_mul, ← Nat.add_assoc] at h3
    exact h3
end Go.Proofs.YtgjmandjhjfgkaaDoor.Gl
