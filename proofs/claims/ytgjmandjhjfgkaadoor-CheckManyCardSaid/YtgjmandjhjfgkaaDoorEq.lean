import Derived.Test.YtgjmandjhjfgkaaDoorDa
import Derived.Test.YtgjmandjhjfgkaaDoorProg
namespace Go.Proofs.YtgjmandjhjfgkaaDoor.Gl
open Go.RowKit Go.Shelf
set_option linter.unusedVariables false
set_option linter.unnecessarySimpa false
set_option linter.unusedSimpArgs false

section
variable {P : Program} {w : World} {d : Nat} {xs ys : Array Value} {f : Field} {fs : List Field} {a b : Value} {r s : Bool}
theorem eqF_nil : (Op.eqFields d xs ys []).run P w = .ok true w := by rw [Op.eqFields]; rfl
theorem eqF_cons (hn : (f.name == "_") = false) (ha : (part f.type xs f.offset).run P w = .ok a w) (hb : (part f.type ys f.offset).run P w = .ok b w) (he : (Op.equalIn d f.type a b).run P w = .ok r w)
    (hr : (Op.eqFields d xs ys fs).run P w = .ok s w) : (Op.eqFields d xs ys (f :: fs)).run P w = .ok (r && s) w := by
  have hn' : f.name ≠ "_" := by simpa using hn
  rw [Op.eqFields]
  simp only [if_pos hn', Sem.run_bind, ha, hb, he, Result.andThen_ok]
  cases r
  · simp
  · simpa using hr
theorem eqA_struct {t : TypeId} {fs : Array Field} (hu : P.underlying t = some (.struct fs)) (hp : P.stoodInHeld t = false) (h : (Op.eqFields d xs ys fs.toList).run P w = .ok r w) : (Op.equalIn (d + 1) t (.agg xs) (.agg ys)).run P w = .ok r w := by
  have hf : P.fieldsOf t = fs := by simp [Program.fieldsOf, hu]
  rw [run_equalIn_struct (P := P) w d t xs ys (by rw [hf]; exact hu) hp, hf]
  exact h
theorem run_part1 {t : TypeId} {dsc : TypeDesc} (hu : P.underlying t = some dsc) (ha : isA dsc = false) {cs : Array Value} {o : Nat} {v : Value} (h : cs[o]? = some v) : (part t cs o).run P w = .ok v w := by
  simp only [part, Sem.run_bind, run_isAgg hu, ha, Result.andThen_ok]
  simp [h]
theorem run_partA {t : TypeId} {dsc : TypeDesc} {n : Nat} (hu : P.underlying t = some dsc) (ha : isA dsc = true) (hz : ∀ w, (sizeOf t).run P w = .ok n w) {cs : Array Value} {o : Nat} : (part t cs o).run P w = .ok (.agg (cs.extract o (o + n))) w := by
  simp only [part, Sem.run_bind, run_isAgg hu, ha, Result.andThen_ok, if_true, hz]
  rfl
theorem eqA_array3 {t e : TypeId} {n : Nat} {a0 a1 a2 b0 b1 b2 : Value} {r0 r1 r2 : Bool} (hu : P.underlying t = some (.array 3 e)) (hz : ∀ w, (sizeOf e).run P w = .ok n w)
    (ha0 : (part e xs (0 * n)).run P w = .ok a0 w) (hb0 : (part e ys (0 * n)).run P w = .ok b0 w) (h0 : (Op.equalIn d e a0 b0).run P w = .ok r0 w)
    (ha1 : (part e xs (1 * n)).run P w = .ok a1 w) (hb1 : (part e ys (1 * n)).run P w = .ok b1 w) (h1 : (Op.equalIn d e a1 b1).run P w = .ok r1 w)
    (ha2 : (part e xs (2 * n)).run P w = .ok a2 w) (hb2 : (part e ys (2 * n)).run P w = .ok b2 w) (h2 : (Op.equalIn d e a2 b2).run P w = .ok r2 w) : (Op.equalIn (d + 1) t (.agg xs) (.agg ys)).run P w = .ok (r0 && (r1 && r2)) w := by
  rw [Op.equalIn, Sem.run_bind, run_und hu]
  simp only [Result.andThen_ok, Sem.run_bind, hz]
  simp only [Std.Legacy.Range.forIn_eq_forIn_range', Std.Legacy.Range.size, List.range', List.forIn_cons, List.forIn_nil, Sem.run_bind, Nat.sub_zero, Nat.zero_add, Nat.add_one_sub_one, Nat.div_one, ha0, hb0, h0, Result.andThen_ok]
  cases r0 <;> cases r1 <;> cases r2 <;> simp_all
end

def tmEq (a b : Tm) : Bool := a.kind == b.kind && (a.text.toList == b.text.toList && (a.ext.toList == b.ext.toList && true))
def slEq (a b : Sl) : Bool := a.v.toList == b.v.toList && (tmEq a.t b.t && true)
def ptEq (a b : Pt) : Bool := slEq a.s0 b.s0 && (slEq a.s1 b.s1 && slEq a.s2 b.s2)
def ltEq (a b : Lt) : Bool := a.kind == b.kind && (ptEq a.pat b.pat && (slEq a.a b.a && (slEq a.b b.b && true)))

theorem run_eqTm (d : Nat) (a b : Tm) (w : World) : (Op.equalIn (d + 2) 35 (.agg (TmC a).toArray) (.agg (TmC b).toArray)).run Tryd.prog w = .ok (tmEq a b) w := by
  refine eqA_struct Tryd.underlying35 (by kernel_rfl) ?_
  refine eqF_cons (by rfl) (run_part1 Tryd.underlying33 rfl rfl) (run_part1 Tryd.underlying33 rfl rfl) (run_equalIn_int Tryd.underlying33 _ _ _ _) ?_
  refine eqF_cons (by rfl) (run_part1 Tryd.underlying9 rfl rfl) (run_part1 Tryd.underlying9 rfl rfl) (Go.run_equalIn_string _ _ _ _ _ Tryd.underlying9) ?_
  refine eqF_cons (by rfl) (run_part1 Tryd.underlying9 rfl rfl) (run_part1 Tryd.underlying9 rfl rfl) (Go.run_equalIn_string _ _ _ _ _ Tryd.underlying9) ?_
  exact eqF_nil
theorem run_eqSl (d : Nat) (a b : Sl) (w : World) : (Op.equalIn (d + 3) 37 (.agg (SlC a).toArray) (.agg (SlC b).toArray)).run Tryd.prog w = .ok (slEq a b) w := by
  refine eqA_struct Tryd.underlying37 (by kernel_rfl) ?_
  refine eqF_cons (by rfl) (run_part1 Tryd.underlying9 rfl rfl) (run_part1 Tryd.underlying9 rfl rfl) (Go.run_equalIn_string _ _ _ _ _ Tryd.underlying9) ?_
  refine eqF_cons (by rfl) (run_partA Tryd.underlying35 rfl Tryd.sizeOf35) (run_partA Tryd.underlying35 rfl Tryd.sizeOf35) (run_eqTm d a.t b.t w) ?_
  exact eqF_nil
theorem run_eqPt (t : TypeId) (hu : Tryd.prog.underlying t = some (.array 3 37)) (d : Nat) (a b : Pt) (w : World) : (Op.equalIn (d + 4) t (.agg (PtC a).toArray) (.agg (PtC b).toArray)).run Tryd.prog w = .ok (ptEq a b) w :=
  eqA_array3 hu Tryd.sizeOf37 (run_partA Tryd.underlying37 rfl Tryd.sizeOf37) (run_partA Tryd.underlying37 rfl Tryd.sizeOf37) (run_eqSl d a.s0 b.s0 w)
    (run_partA Tryd.underlying37 rfl Tryd.sizeOf37) (run_partA Tryd.underlying37 rfl Tryd.sizeOf37) (run_eqSl d a.s1 b.s1 w)
    (run_partA Tryd.underlying37 rfl Tryd.sizeOf37) (run_partA Tryd.underlying37 rfl Tryd.sizeOf37) (run_eqSl d a.s2 b.s2 w)
theorem run_eqLt (d : Nat) (a b : Lt) (w : World) : (Op.equalIn (d + 5) 43 (.agg (LtC a).toArray) (.agg (LtC b).toArray)).run Tryd.prog w = .ok (ltEq a b) w := by
  refine eqA_struct Tryd.underlying43 (by kernel_rfl) ?_
  refine eqF_cons (by rfl) (run_part1 Tryd.underlying41 rfl rfl) (run_part1 Tryd.underlying41 rfl rfl) (run_equalIn_int Tryd.underlying41 _ _ _ _) ?_
  refine eqF_cons (by rfl) (run_partA Tryd.underlying40 rfl Tryd.sizeOf40) (run_partA Tryd.underlying40 rfl Tryd.sizeOf40) (run_eqPt 40 Tryd.underlying40 d a.pat b.pat w) ?_
  refine eqF_cons (by rfl) (run_partA Tryd.underlying37 rfl Tryd.sizeOf37) (run_partA Tryd.underlying37 rfl Tryd.sizeOf37) (run_eqSl (d + 1) a.a b.a w) ?_
  refine eqF_cons (by rfl) (run_partA Tryd.underlying37 rfl Tryd.sizeOf37) (run_partA Tryd.underlying37 rfl Tryd.sizeOf37) (run_eqSl (d + 1) a.b b.b w) ?_
  exact eqF_nil
theorem equal_of {P : Program} {t : TypeId} {x y : Value} {r : Bool} (d : Nat) (hd : d = 9990) (h : ∀ w, (Op.equalIn (d + 10) t x y).run P w = .ok r w) (w : World) : (Op.equal t x y).run P w = .ok r w := by
  subst hd
  exact h w
theorem guard_of {P : Program} {op : BinOp} {t : TypeId} {x y : Operand} {xs ys : Array Value} (hm : P.eqGuardType P.depth t = false) (w : World) : (eqGuard op t x y (.agg xs) (.agg ys)).run P w = .ok () w := run_eqGuard_agg w op t x y xs ys hm
theorem g35 : Tryd.prog.eqGuardType Tryd.prog.depth 35 = false := by kernel_rfl
theorem g37 : Tryd.prog.eqGuardType Tryd.prog.depth 37 = false := by kernel_rfl
theorem g40 : Tryd.prog.eqGuardType Tryd.prog.depth 40 = false := by kernel_rfl
theorem g43 : Tryd.prog.eqGuardType Tryd.prog.depth 43 = false := by kernel_rfl
end Go.Proofs.YtgjmandjhjfgkaaDoor.Gl
