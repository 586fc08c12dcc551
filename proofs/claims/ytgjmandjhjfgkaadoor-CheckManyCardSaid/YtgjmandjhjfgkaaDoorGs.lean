import Derived.Test.YtgjmandjhjfgkaaDoorGd
import Derived.Test.YtgjmandjhjfgkaaDoorGr
import Derived.Lib.Bytealg
namespace Go.Proofs.YtgjmandjhjfgkaaDoor.Gl
open Go.RowKit Go.Shelf
set_option linter.unusedVariables false
set_option linter.unnecessarySimpa false
set_option linter.unusedSimpArgs false

section
variable {X : Cx} {Q : Post} {fr : Fr} {ds : List Deferred} {G : Hp} {ops : Array Oper} {o : Oper} {rest : List Oper} {d : Nat}

/-- A call of a function that the model itself answers. -/
theorem V.ext {f : FuncId} {xs : Array Operand} {ats : Array TypeId} {fn : Func} {e : Array Value → Sem Value} {vs : List Value} {v : Value} (h : At X ops fr o (.call { callee := .value (.func f), args := xs, argTypes := ats }) d)
    (hf : X.P.funcs[f]? = some fn) (hname : (fn.name == "runtime.NumGoroutine") = false) (hb : fn.body.isNone = true) (hn : Extern.findNext fn = none) (he : Extern.find fn = some e)
    (hxs : xs.toList.map (evO fr) = vs.map some) (hv : ∀ w, (e vs.toArray).run X.P w = .ok v w) : GV X ops fr G o d v :=
  GV.of h (by simp) (fun ρ w hρ hw => by
    have hg : ρ (.func f) = .func (.func f) #[] #[] := hρ _ _ rfl
    have hname' : ¬ fn.name = "runtime.NumGoroutine" := by simpa using hname
    have hb' : fn.body = none := by simpa using hb
    simp [execOp, h.op, resolve, hg, args_of hρ hxs, Deferred.ofValue, invoke, callFunc, hf, hname', hb', hn, he, mark]
    simp [Sem.run, hv w])
theorem R.ext {f : FuncId} {xs : Array Operand} {ats : Array TypeId} {fn : Func} {e : Array Value → Sem Value} {vs : List Value} {v : Value} (h : At X ops fr o (.call { callee := .value (.func f), args := xs, argTypes := ats }) d)
    (hf : X.P.funcs[f]? = some fn) (hname : (fn.name == "runtime.NumGoroutine") = false) (hb : fn.body.isNone = true) (hn : Extern.findNext fn = none) (he : Extern.find fn = some e)
    (hxs : xs.toList.map (evO fr) = vs.map some) (hv : ∀ w, (e vs.toArray).run X.P w = .ok v w) (K : GOps X ops Q rest ((d, v) :: fr) ds G) : GOps X ops Q (o :: rest) fr ds G :=
  R.val h (by simp) (V.ext (G := G) h hf hname hb hn he hxs hv).run K
end

/-! ### Ways out behind ranges over functions -/
def mk1 (D : Nat) : Deferred := { target := .collected D, args := #[] }
theorem Out.of1 {X : Cx} {fn : Func} {R : Value → Hp → Prop} {fr : Fr} {G G' : Hp} {v : Value} {D : Nat} (hr : Res X fn fr G v) (hs : Hs G G') (h : R v G') : Out X fn R .ret fr [mk1 D] ((D, .exact (.deferred (some []))) :: G) :=
  ⟨.inr rfl, D, [], G, rfl, rfl, v, G', hs, hr, h⟩
theorem Out.of2 {X : Cx} {fn : Func} {R : Value → Hp → Prop} {fr : Fr} {G G' : Hp} {v : Value} {D D' : Nat} (hr : Res X fn fr G v) (hs : Hs G G') (h : R v G') : Out X fn R .ret fr [mk1 D, mk1 D'] ((D, .exact (.deferred (some []))) :: (D', .exact (.deferred (some []))) :: G) :=
  ⟨.inr rfl, D, [], _, rfl, rfl, D', [], G, rfl, rfl, v, G', hs, hr, h⟩
theorem Out.weak {X : Cx} {fn : Func} {R : Value → Hp → Prop} {fr : Fr} {ds : List Deferred} {c : Code} {G G' : Hp} (hs : Hs G G') (h : GW X c (Out X fn R) fr ds G') : GW X c (Out X fn R) fr ds G := GW.weak (Keeps.refl _) hs h
theorem resCell {X : Cx} {fn : Func} {t : Tmp} {ty : TypeId} {dsc : TypeDesc} {fr : Fr} {G : Hp} {b : Nat} {v : Value} (hr : fn.results = #[.cell t ty]) (hv : lk fr t = some (.pointer (some ⟨b, 0, none⟩))) (hu : X.P.underlying ty = some dsc) (ha : isA dsc = false) (hrd : Rd X.w0 G b 0 v) : Res X fn fr G v := fun a w ds hf hs => by
  have h1 := hf.look t _ hv
  have h2 := run_loadVar_one (P := X.P) hu ha hs hrd
  have h3 : a.tmps.getD t undef = .pointer (some ⟨b, 0, none⟩) := by simp [Array.getD_eq_getD_getElem?, h1]
  have h4 : (asAddr (.pointer (some ⟨b, 0, none⟩))).run X.P w = .ok ⟨b, 0, none⟩ w := rfl
  have h3' : (a.tmps[t]?.getD undef) = .pointer (some ⟨b, 0, none⟩) := by rw [h1]; rfl
  simp [results, hr, h3', h4, h2]
theorem GW.cutS {X : Cx} {y : Code} {Q : Post} {fr : Fr} {ds : List Deferred} {G : Hp} (d : Nat) (t : Bool) (fr' : Fr) {id : Nat} {l : List Oper} (h1 : GOps X l.toArray (fun e fr1 ds1 G1 => e = .normal ∧ ds1 = ds ∧ Keeps fr1 fr' ∧ Hs G1 G ∧ lk fr1 d = some (.bool t)) l fr ds G)
    (h2 : GW X y Q ((d, .bool t) :: fr') ds G) : GW X (.seq (.region id l.toArray false) y) Q fr ds G := GW.cutB d t fr' h1 h2
/-- A loop with three things more that go along. -/
theorem GW.loop4 {X : Cx} {c : Code} {Q : Post} {fr : Fr} {ds : List Deferred} {G : Hp} {ι α β γ : Type} (FR : ι → α → β → γ → Fr) (GG : ι → α → β → γ → Hp) (μ : ι → Nat) (I : ι → α → β → γ → Prop) (i0 : ι) (a0 : α) (b0 : β) (c0 : γ)
    (hk : Keeps fr (FR i0 a0 b0 c0)) (hs : Hs G (GG i0 a0 b0 c0)) (h0 : I i0 a0 b0 c0)
    (hb : ∀ i x y z, I i x y z → GW X c (Post.then (fun fr' ds' G' => ∃ j x' y' z', μ j < μ i ∧ I j x' y' z' ∧ ds' = ds ∧ Keeps fr' (FR j x' y' z') ∧ Hs G' (GG j x' y' z')) Q) (FR i x y z) ds (GG i x y z)) : GW X (.loop c) Q fr ds G := by
  refine GW.loopI (ι := ι × α × β × γ) (fun p => FR p.1 p.2.1 p.2.2.1 p.2.2.2) (fun p => GG p.1 p.2.1 p.2.2.1 p.2.2.2) (fun p => μ p.1) (fun p => I p.1 p.2.1 p.2.2.1 p.2.2.2) (i0, a0, b0, c0) hk hs h0 ?_
  rintro ⟨i, x, y, z⟩ hi
  refine (hb i x y z hi).mono ?_
  intro e fr1 ds1 G1 h
  cases e with
  | normal =>
    obtain ⟨j, x', y', z', h1, h2⟩ := h
    exact ⟨(j, x', y', z'), h1, h2⟩
  | _ => exact h
theorem bs_from (s : ByteArray) (k : Nat) : bs (s.extract k s.size) = (bs s).drop k := by
  rw [bs_extract, List.take_of_length_le]
  rw [List.length_drop, bs_length]
  exact Nat.le_refl _
theorem size_from (s : ByteArray) (k : Nat) : (s.extract k s.size).size = s.size - k := by simp
end Go.Proofs.YtgjmandjhjfgkaaDoor.Gl
