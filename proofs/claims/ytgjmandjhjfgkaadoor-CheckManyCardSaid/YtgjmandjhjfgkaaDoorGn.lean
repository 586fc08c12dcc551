import Derived.Test.YtgjmandjhjfgkaaDoorGm
import Derived.Shelf.Abstract
namespace Go.Proofs.YtgjmandjhjfgkaaDoor.Gl
open Go.RowKit Go.Shelf
set_option linter.unusedVariables false
set_option linter.unnecessarySimpa false
set_option linter.unusedSimpArgs false

/-! ### Calls -/
/-- The call returns; of what it hands back and of the heap's knowledge R holds. -/
def GC (P : Program) (w0 : World) (f : FuncId) (args : Array Value) (R : Value → Hp → Prop) (G : Hp) : Prop :=
  Enters P f ∧ ∀ n w, Sat w0 G w → CallsIn (Fw none) n P f args w fun e w' => ∃ v G', e = .returned v ∧ Sat w0 G' w' ∧ R v G'

theorem GC.mono {P : Program} {w0 : World} {f : FuncId} {args : Array Value} {R R' : Value → Hp → Prop} {G : Hp} (h : GC P w0 f args R G) (hr : ∀ v G, R v G → R' v G) : GC P w0 f args R' G :=
  ⟨h.1, fun n w hw => (h.2 n w hw).mono fun _ _ ⟨v, G', e, hs, hR⟩ => ⟨v, G', e, hs, hr _ _ hR⟩⟩

theorem GC.weak {P : Program} {w0 : World} {f : FuncId} {args : Array Value} {R : Value → Hp → Prop} {G G' : Hp} (hs : Hs G G') (h : GC P w0 f args R G') : GC P w0 f args R G :=
  ⟨h.1, fun n w hw => h.2 n w (hs _ _ hw)⟩

section
variable {X : Cx} {Q : Post} {fr : Fr} {ds : List Deferred} {G : Hp} {ops : Array Oper} {o : Oper} {rest : List Oper} {d : Nat}

theorem args_of {ρ : Operand → Value} {xs : Array Operand} {vs : List Value} (hρ : ∀ x v, evO fr x = some v → ρ x = v) (hxs : xs.toList.map (evO fr) = vs.map some) : xs.map ρ = vs.toArray := by
  obtain ⟨l⟩ := xs
  simp only [List.map_toArray]
  congr 1
  simp only at hxs
  induction l generalizing vs with
  | nil => cases vs with
    | nil => rfl
    | cons v vs => simp at hxs
  | cons x l ih => cases vs with
    | nil => simp at hxs
    | cons v vs =>
      simp only [List.map_cons, List.cons.injEq] at hxs
      rw [List.map_cons, hρ x v hxs.1, ih hxs.2]

/-- A call of a function, or of a closure. -/
theorem R.call {cf : Operand} {xs : Array Operand} {ats : Array TypeId} {f : FuncId} {first cap : Array Value} {vs : List Value} (h : At X ops fr o (.call { callee := .value cf, args := xs, argTypes := ats }) d)
    (hcf : evO fr cf = some (.func (.func f) first cap)) (hxs : xs.toList.map (evO fr) = vs.map some) (hc : GC X.P X.w0 f (first ++ vs.toArray ++ cap) (fun v G' => GOps X ops Q rest ((d, v) :: fr) ds G') G) : GOps X ops Q (o :: rest) fr ds G := fun n a w hf hs => by
  have hρ : ∀ x v, evO fr x = some v → a.eval x = v := fun x v hx => hf.eval hx
  simp only [wpListIn, wanted_of hf h.on, if_true]
  refine ⟨fun _ _ => trivial, ?_⟩
  have hrun : (execOp a.eval o).run X.P w = .ok (.enter f (first ++ vs.toArray ++ cap)) w := by
    have he := hc.1 (first ++ vs.toArray ++ cap) w
    simp only [execOp, h.op, resolve, hρ _ _ hcf, args_of hρ hxs, Deferred.ofValue, Sem.run_bind, Sem.run_pure, Result.andThen_ok, invoke]
    exact he
  rw [Oper.semAt_eq _ _ _ (fun c => by rw [h.op]; simp), hrun, Oper.uponIn_enter]
  refine ⟨fun hd => by simp [Fw] at hd, ?_⟩
  have hcall : CallsIn (Fw X.r) (n - 1) X.P f (first ++ vs.toArray ++ cap) w _ := hc.2 (n - 1) w hs
  refine hcall.mono ?_
  rintro e w' ⟨v, G', rfl, hs', hK⟩
  rw [h.dst]
  exact hK n _ w' (hf.put (Nat.le_of_ble_eq_true h.lt) v) hs'

theorem R.callU {cf : Operand} {xs : Array Operand} {ats : Array TypeId} {f : FuncId} {first cap : Array Value} {vs : List Value} (ho : o.op = .call { callee := .value cf, args := xs, argTypes := ats }) (hd : o.dst = none) (hon : wantedO ops fr o = some true)
    (hcf : evO fr cf = some (.func (.func f) first cap)) (hxs : xs.toList.map (evO fr) = vs.map some) (hc : GC X.P X.w0 f (first ++ vs.toArray ++ cap) (fun _ G' => GOps X ops Q rest fr ds G') G) : GOps X ops Q (o :: rest) fr ds G := fun n a w hf hs => by
  have hρ : ∀ x v, evO fr x = some v → a.eval x = v := fun x v hx => hf.eval hx
  simp only [wpListIn, wanted_of hf hon, if_true]
  refine ⟨fun _ _ => trivial, ?_⟩
  have hrun : (execOp a.eval o).run X.P w = .ok (.enter f (first ++ vs.toArray ++ cap)) w := by
    have he := hc.1 (first ++ vs.toArray ++ cap) w
    simp only [execOp, ho, resolve, hρ _ _ hcf, args_of hρ hxs, Deferred.ofValue, Sem.run_bind, Sem.run_pure, Result.andThen_ok, invoke]
    exact he
  rw [Oper.semAt_eq _ _ _ (fun c => by rw [ho]; simp), hrun, Oper.uponIn_enter]
  refine ⟨fun hd => by simp [Fw] at hd, ?_⟩
  have hcall : CallsIn (Fw X.r) (n - 1) X.P f (first ++ vs.toArray ++ cap) w _ := hc.2 (n - 1) w hs
  refine hcall.mono ?_
  rintro e w' ⟨v, G', rfl, hs', hK⟩
  rw [hd]
  exact hK n _ w' hf hs'
end

/-! ### A function's body -/
/-- What its result variables hold. -/
def Res (X : Cx) (fn : Func) (fr : Fr) (G : Hp) (v : Value) : Prop := ∀ a w ds, FRep X.nt fr ds a → Sat X.w0 G w → (results fn a.tmps).run X.P w = .ok v w

/-- The marks of ranges over functions are taken off. -/
def Marks (K : Hp → Prop) : List Deferred → Hp → Prop
  | [], G => K G
  | d :: ds, G => ∃ D G1 G2, d.target = .collected D ∧ G = G1 ++ (D, .exact (.deferred (some []))) :: G2 ∧ Marks K ds (G1 ++ G2)

def Out (X : Cx) (fn : Func) (R : Value → Hp → Prop) : Post := fun e fr ds G => (e = .normal ∨ e = .ret) ∧ Marks (fun G' => ∃ v G'', Hs G' G'' ∧ Res X fn fr G' v ∧ R v G'') ds G

def frOf : Nat → List Value → Fr
  | _, [] => []
  | i, v :: vs => (i, v) :: frOf (i + 1) vs

theorem lk_frOf : ∀ (vs : List Value) (i j : Nat) (v : Value), lk (frOf i vs) j = some v → i ≤ j ∧ vs[j - i]? = some v
  | [], i, j, v, h => by simp [frOf, lk] at h
  | u :: vs, i, j, v, h => by
    rw [frOf, lk_cons] at h
    split at h
    · rename_i e; subst e; simpa using h
    · rename_i e
      obtain ⟨h1, h2⟩ := lk_frOf vs (i + 1) j v h
      refine ⟨by omega, ?_⟩
      rw [show j - i = (j - (i + 1)) + 1 by omega]
      simpa using h2

theorem Sat.drop {w0 w : World} {G1 G2 : Hp} {b : Nat} {k : Know} (h : Sat w0 (G1 ++ (b, k) :: G2) w) : Sat w0 (G1 ++ G2) w :=
  h.sub (List.Sublist.append (List.Sublist.refl _) (List.sublist_cons_self _ _))

theorem leaves_of_marks {X : Cx} {fn : Func} {R : Value → Hp → Prop} {n : Nat} {fr : Fr} {dd : List Deferred} {a : Act} (hf : FRep X.nt fr dd a) : ∀ (ds : List Deferred) (G : Hp) (w : World),
    Marks (fun G' => ∃ v G'', Hs G' G'' ∧ Res X fn fr G' v ∧ R v G'') ds G → Sat X.w0 G w → LeavesInM (Fw none) n X.P fn a.tmps (fun e w' => ∃ v G', e = .returned v ∧ Sat X.w0 G' w' ∧ R v G') ds .returning w
  | [], G, w, ⟨v, G'', hh, hr, hR⟩, hs => ⟨v, hr a w dd hf hs, v, G'', rfl, hh _ _ hs, hR⟩
  | d :: ds, G, w, ⟨D, G1, G2, ht, hG, hm⟩, hs => by
    subst hG
    refine ⟨by simp, .inl ⟨D, { w with heap := w.heap.setIfInBounds D (.deferred none) }, ht, ?_, leaves_of_marks hf ds (G1 ++ G2) _ hm ?_⟩⟩
    · have hD := (hs.own D _ (List.mem_append_right _ List.mem_cons_self)).2
      simp only [Know.holds] at hD
      simp [Instr.takeDeferred, getObj, setObj, Sem.run, hD]
    · have hD := (hs.own D _ (List.mem_append_right _ List.mem_cons_self)).2
      simp only [Know.holds] at hD
      have hlt : D < w.heap.size := (Array.getElem?_eq_some_iff.1 hD).1
      refine (Sat.turn (w' := { w with heap := w.heap.setIfInBounds D (.deferred none) }) (k' := .exact (.deferred none)) hs rfl rfl rfl (by simp) (fun i hi => ?_) ?_).drop
      · rw [Array.getElem?_setIfInBounds, if_neg (fun e => hi e.symm)]
      · simp [Know.holds, hlt]

theorem GC.body {P : Program} {w0 : World} {f : FuncId} {fn : Func} {c : Code} {args : List Value} {R : Value → Hp → Prop} {G : Hp} (hf : P.funcs[f]? = some fn) (hb : fn.body = some c) (hname : (fn.name == "runtime.NumGoroutine") = false)
    (hn : Nat.ble args.length fn.ntmps = true) (h : GW ⟨P, w0, none, fn.ntmps⟩ c (Out ⟨P, w0, none, fn.ntmps⟩ fn R) (frOf 0 args) [] G) : GC P w0 f args.toArray R G := by
  refine ⟨enters_of hf hname hb, fun n w hw => ?_⟩
  have hle := Nat.le_of_ble_eq_true hn
  refine callsIn_of_wp_marks hf hb trivial ?_
  refine wpIn_mono (h n _ w ⟨?_, ?_, rfl⟩ hw) ?_
  · simp; omega
  · intro i v hv
    obtain ⟨_, h2⟩ := lk_frOf args 0 i v hv
    have hi : i < args.length := by
      rcases Nat.lt_or_ge i args.length with hi | hi
      · exact hi
      · rw [List.getElem?_eq_none (by omega)] at h2; cases h2
    simp only [Nat.sub_zero] at h2
    rw [Array.getElem?_append_left (by simpa using hi)]
    simpa using h2
  · rintro e a' w' ⟨fr, ds, G', h1, h2, he, hm⟩
    have := leaves_of_marks (n := n) h1 ds G' w' hm h2
    rw [← h1.defers] at this
    rcases he with rfl | rfl
    · exact this
    · exact this

theorem Res.one {X : Cx} {fn : Func} {t : Tmp} {fr : Fr} {G : Hp} {v : Value} (hr : fn.results = #[.tmp t]) (hv : lk fr t = some v) : Res X fn fr G v := fun a w ds hf hs => by
  rw [results_tmp hr]
  simp [Array.getD_eq_getD_getElem?, hf.look t v hv]
theorem Res.two {X : Cx} {fn : Func} {t u : Tmp} {fr : Fr} {G : Hp} {v v' : Value} (hr : fn.results = #[.tmp t, .tmp u]) (hv : lk fr t = some v) (hv' : lk fr u = some v') : Res X fn fr G (.tuple #[v, v']) := fun a w ds hf hs => by
  rw [results_tmp2 hr]
  simp [Array.getD_eq_getD_getElem?, hf.look t v hv, hf.look u v' hv']
theorem Res.none {X : Cx} {fn : Func} {fr : Fr} {G : Hp} (hr : fn.results = #[]) : Res X fn fr G (.tuple #[]) := fun a w ds hf hs => results_none hr _ _ _

/-- The plain way out. -/
theorem Out.of {X : Cx} {fn : Func} {R : Value → Hp → Prop} {fr : Fr} {G G' : Hp} {v : Value} (hr : Res X fn fr G v) (hs : Hs G G') (h : R v G') : Out X fn R .ret fr [] G := ⟨.inr rfl, v, G', hs, hr, h⟩
theorem Out.end_ {X : Cx} {fn : Func} {R : Value → Hp → Prop} {fr : Fr} {G G' : Hp} {v : Value} (hr : Res X fn fr G v) (hs : Hs G G') (h : R v G') : Out X fn R .normal fr [] G := ⟨.inl rfl, v, G', hs, hr, h⟩
theorem Hs.tl {G : Hp} (x : Nat × Know) : Hs (x :: G) G := Hs.sub (List.sublist_cons_self _ _)
theorem Hs.tl2 {G : Hp} (x y : Nat × Know) : Hs (x :: y :: G) G := (Hs.tl x).trans (Hs.tl y)
theorem Hs.tl3 {G : Hp} (x y z : Nat × Know) : Hs (x :: y :: z :: G) G := (Hs.tl x).trans (Hs.tl2 y z)
theorem Hs.app {G : Hp} (l : Hp) : Hs (l ++ G) G := Hs.sub (List.sublist_append_right _ _)

end Go.Proofs.YtgjmandjhjfgkaaDoor.Gl
