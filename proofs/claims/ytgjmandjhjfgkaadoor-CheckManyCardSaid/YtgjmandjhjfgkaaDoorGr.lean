import Derived.Test.YtgjmandjhjfgkaaDoorGp
namespace Go.Proofs.YtgjmandjhjfgkaaDoor.Gl
open Go.RowKit Go.Shelf
set_option linter.unusedVariables false
set_option linter.unnecessarySimpa false
set_option linter.unusedSimpArgs false

/-! ### Ranges over functions -/
def lrec (r : Loop) (s : LoopState) (p : Option Code) : Know := .exact (.loop { r with state := s, pending := p })

/-- A call of the yield of loop l returns. -/
def GY (P : Program) (w0 : World) (l : Nat) (args : List Value) (R : Value → Hp → Prop) (G : Hp) : Prop :=
  ∀ n w, Sat w0 G w → ∃ fn tmps assign body, (Instr.yield l args.toArray).run P w = .ok (.round l fn tmps assign body) w ∧
    RoundIn (Fw none) n P l fn tmps assign body w (fun e w' => ∃ v G', e = .returned v ∧ Sat w0 G' w' ∧ R v G')

theorem GY.mono {P : Program} {w0 : World} {l : Nat} {args : List Value} {R R' : Value → Hp → Prop} {G : Hp} (h : GY P w0 l args R G) (hr : ∀ v G, R v G → R' v G) : GY P w0 l args R' G := fun n w hw => by
  obtain ⟨fn, tmps, assign, body, h1, h2⟩ := h n w hw
  exact ⟨fn, tmps, assign, body, h1, h2.mono fun _ _ ⟨v, G', e, hs, hR⟩ => ⟨v, G', e, hs, hr _ _ hR⟩⟩
theorem GY.weak {P : Program} {w0 : World} {l : Nat} {args : List Value} {R : Value → Hp → Prop} {G G' : Hp} (hs : Hs G G') (h : GY P w0 l args R G') : GY P w0 l args R G := fun n w hw => h n w (hs _ _ hw)

section
variable {X : Cx} {Q : Post} {fr : Fr} {ds : List Deferred} {G : Hp} {ops : Array Oper} {o : Oper} {rest : List Oper} {d : Nat}

theorem R.yield {cf : Operand} {xs : Array Operand} {ats : Array TypeId} {l : Nat} {vs : List Value} (h : At X ops fr o (.call { callee := .value cf, args := xs, argTypes := ats }) d)
    (hcf : evO fr cf = some (.func (.yield l) #[] #[])) (hxs : xs.toList.map (evO fr) = vs.map some) (hc : GY X.P X.w0 l vs (fun v G' => GOps X ops Q rest ((d, v) :: fr) ds G') G) : GOps X ops Q (o :: rest) fr ds G := fun n a w hf hs => by
  have hρ : ∀ x v, evO fr x = some v → a.eval x = v := fun x v hx => hf.eval hx
  simp only [wpListIn, wanted_of hf h.on, if_true]
  refine ⟨fun _ _ => trivial, ?_⟩
  obtain ⟨fn, tmps, assign, body, hy, hR⟩ := hc (n - 1) w hs
  have hrun : (execOp a.eval o).run X.P w = .ok (.round l fn tmps assign body) w := by
    simp only [execOp, h.op, resolve, hρ _ _ hcf, args_of hρ hxs, Deferred.ofValue, Sem.run_bind, Sem.run_pure, Result.andThen_ok, invoke]
    simpa using hy
  rw [Oper.semAt_eq _ _ _ (fun c => by rw [h.op]; simp), hrun, Oper.uponIn_round]
  refine ⟨fun hd => by simp [Fw] at hd, ?_⟩
  have hcall : RoundIn (Fw X.r) (n - 1) X.P l fn tmps assign body w _ := hR
  refine hcall.mono ?_
  rintro e w' ⟨v, G', rfl, hs', hK⟩
  rw [h.dst]
  exact hK n _ w' (hf.put (Nat.le_of_ble_eq_true h.lt) v) hs'
end

def putAll (fr : Fr) : List (Nat × Value) → Fr
  | [] => fr
  | (p, v) :: r => putAll ((p, v) :: fr) r

theorem FRep.putAll {nt : Nat} {ds : List Deferred} : ∀ (l : List (Nat × Value)) (fr : Fr) (tm : Array Value), (∀ x ∈ l, x.1 < nt) → FRep nt fr ds { tmps := tm, defers := ds } →
    FRep nt (putAll fr l) ds { tmps := l.foldl (fun t x => t.setIfInBounds x.1 x.2) tm, defers := ds }
  | [], fr, tm, _, h => h
  | (p, v) :: r, fr, tm, hl, h => by
    have h1 := h.put (hl (p, v) (by simp)) v
    exact FRep.putAll r ((p, v) :: fr) (tm.setIfInBounds p v) (fun x hx => hl x (by simp [hx])) h1

/-- At a round's end. -/
def RPost (l : Nat) (r : Loop) (R : Value → Hp → Prop) : Post
  | .normal, _, _, G => ∃ G2, Hs G ((l, lrec r .busy none) :: G2) ∧ R (.bool true) ((l, lrec r .ready none) :: G2)
  | .ret, _, _, G => ∃ G2, Hs G ((l, lrec r .busy none) :: G2) ∧ R (.bool false) ((l, lrec r .done (some .ret)) :: G2)
  | .exit id, _, _, G => ∃ G2, Hs G ((l, lrec r .busy none) :: G2) ∧ R (.bool false) ((l, lrec r .done (some (.exit id))) :: G2)
  | .goto t, _, _, G => ∃ G2, Hs G ((l, lrec r .busy none) :: G2) ∧ R (.bool false) ((l, lrec r .done (some (.goto t))) :: G2)
  | _, _, _, _ => False

theorem run_setLoop {P : Program} {w : World} {l : Nat} {o : Obj} {x : Loop} (h : w.heap[l]? = some (.loop x)) : (setObj l o).run P w = .ok () { w with heap := w.heap.setIfInBounds l o } := by
  simp [setObj, Sem.run, h]
theorem run_getLoop {P : Program} {w : World} {l : Nat} {x : Loop} (h : w.heap[l]? = some (.loop x)) : (Instr.getLoop l).run P w = .ok x w := by
  simp [Instr.getLoop, getObj, Sem.run, h]

theorem Sat.setObj {w0 w : World} {G : Hp} {l : Nat} {o o' : Obj} (h : Sat w0 ((l, .exact o) :: G) w) (ho : coolO o' := by first | exact rfl | exact trivial) : Sat w0 ((l, .exact o') :: G) { w with heap := w.heap.setIfInBounds l o' } := by
  have hl : l < w.heap.size := h.lt List.mem_cons_self
  exact Sat.turn (G1 := []) h rfl rfl rfl (by simp) (fun i hi => by
    show (w.heap.setIfInBounds l o')[i]? = _
    rw [Array.getElem?_setIfInBounds, if_neg (fun e => hi e.symm)]) (by simp [Know.holds, hl]) ho

theorem GY.intro {P : Program} {w0 : World} {nt : Nat} {l : Nat} {r : Loop} {fr : Fr} {vs : List Value} {R : Value → Hp → Prop} {G : Hp} (hf : FRep nt fr [] { tmps := r.tmps, defers := [] }) (hn : vs.length = r.params.size) (hp : r.params.toList.all (fun p => Nat.blt p nt) = true)
    (h : GW ⟨P, w0, some l, nt⟩ r.assign (Post.then (fun fr1 ds1 G1 => ∃ G2, Hs G1 ((l, lrec r .ready none) :: G2) ∧ GW ⟨P, w0, some l, nt⟩ r.body (RPost l r R) fr1 ds1 ((l, lrec r .busy none) :: G2)) (fun _ _ _ _ => False))
      (putAll fr (r.params.toList.zip vs)) [] ((l, lrec r .ready none) :: G)) : GY P w0 l vs R ((l, lrec r .ready none) :: G) := by
  intro n w hw
  have hl := (hw.own l _ List.mem_cons_self).2
  simp only [Know.holds, lrec] at hl
  refine ⟨r.fn, (r.params.zip vs.toArray).foldl (fun tmps x => tmps.setIfInBounds x.1 x.2) r.tmps, r.assign, r.body, ?_, ?_⟩
  · simp [Instr.yield, run_getLoop hl, hn]
  · refine roundIn_of_wpIn trivial ?_
    have hfold : (r.params.zip vs.toArray).foldl (fun tmps x => tmps.setIfInBounds x.1 x.2) r.tmps = (r.params.toList.zip vs).foldl (fun t x => t.setIfInBounds x.1 x.2) r.tmps := by
      rw [← Array.foldl_toList]
      simp
    rw [hfold]
    have hfr := FRep.putAll (ds := []) (r.params.toList.zip vs) fr r.tmps (fun x hx => by
      have := List.all_eq_true.1 hp x.1 (List.of_mem_zip hx).1
      exact Nat.le_of_ble_eq_true this) hf
    refine wpIn_mono (h n _ w hfr hw) ?_
    rintro e a1 w1 ⟨fr1, ds1, G1, h1, h2, h3⟩
    cases e with
    | normal =>
      obtain ⟨G2, hh, hb⟩ := h3
      have hs := hh _ _ h2
      have hl1 := (hs.own l _ List.mem_cons_self).2
      simp only [Know.holds, lrec] at hl1
      refine ⟨{ w1 with heap := w1.heap.setIfInBounds l (.loop { r with state := .busy, pending := none }) }, ?_, ?_⟩
      · simp [Instr.beginRound, run_getLoop hl1, run_setLoop hl1]
      · refine wpIn_mono (hb n a1 _ h1 (Sat.setObj hs)) ?_
        rintro e a2 w2 ⟨fr2, ds2, G3, g1, g2, g3⟩
        cases e with
        | normal =>
          obtain ⟨G4, hh4, hR⟩ := g3
          have hs4 := hh4 _ _ g2
          have hl2 := (hs4.own l _ List.mem_cons_self).2
          simp only [Know.holds, lrec] at hl2
          exact ⟨.bool true, { w2 with heap := w2.heap.setIfInBounds l (.loop { r with state := .ready, pending := none }) }, by simp [Instr.endRound, run_getLoop hl2, run_setLoop hl2], _, _, rfl, Sat.setObj hs4, hR⟩
        | ret =>
          obtain ⟨G4, hh4, hR⟩ := g3
          have hs4 := hh4 _ _ g2
          have hl2 := (hs4.own l _ List.mem_cons_self).2
          simp only [Know.holds, lrec] at hl2
          exact ⟨.bool false, { w2 with heap := w2.heap.setIfInBounds l (.loop { r with state := .done, pending := some .ret }) }, by simp [Instr.endRound, run_getLoop hl2, run_setLoop hl2], _, _, rfl, Sat.setObj hs4, hR⟩
        | exit id =>
          obtain ⟨G4, hh4, hR⟩ := g3
          have hs4 := hh4 _ _ g2
          have hl2 := (hs4.own l _ List.mem_cons_self).2
          simp only [Know.holds, lrec] at hl2
          exact ⟨.bool false, { w2 with heap := w2.heap.setIfInBounds l (.loop { r with state := .done, pending := some (.exit id) }) }, by simp [Instr.endRound, run_getLoop hl2, run_setLoop hl2], _, _, rfl, Sat.setObj hs4, hR⟩
        | goto t =>
          obtain ⟨G4, hh4, hR⟩ := g3
          have hs4 := hh4 _ _ g2
          have hl2 := (hs4.own l _ List.mem_cons_self).2
          simp only [Know.holds, lrec] at hl2
          exact ⟨.bool false, { w2 with heap := w2.heap.setIfInBounds l (.loop { r with state := .done, pending := some (.goto t) }) }, by simp [Instr.endRound, run_getLoop hl2, run_setLoop hl2], _, _, rfl, Sat.setObj hs4, hR⟩
        | panic c => exact g3.elim
        | outgrown => exact g3.elim
    | _ => exact h3.elim

/-- 'for .. := range f { .. }' outside of any round. -/
theorem GW.rangeFunc {P : Program} {w0 : World} {nt : Nat} {g : Operand} {ps : Array Tmp} {assign body : Code} {Q : Post} {fr : Fr} {ds : List Deferred} {G : Hp} {f : FuncId} {first cap : Array Value} (hg : evO fr g = some (.func (.func f) first cap))
    (h : ∀ (D l : Nat) (r : Loop), r.params = ps → r.assign = assign → r.body = body → FRep nt fr [] { tmps := r.tmps, defers := [] } →
      GC P w0 f (first ++ #[.func (.yield l) #[] #[]] ++ cap) (fun _ G' => ∃ s p G1, s ≠ LoopState.busy ∧ Hs G' ((l, lrec r s p) :: (D, .exact (.deferred (some []))) :: G1) ∧
        (match p with
         | none => Q .normal fr ({ target := .collected D, args := #[] } :: ds) ((D, .exact (.deferred (some []))) :: G1)
         | some c => GW ⟨P, w0, none, nt⟩ c Q fr ({ target := .collected D, args := #[] } :: ds) ((D, .exact (.deferred (some []))) :: G1)))
        ((l, lrec r .ready none) :: (D, .exact (.deferred (some []))) :: G)) : GW ⟨P, w0, none, nt⟩ (.rangeFunc g ps assign body) Q fr ds G := by
  intro n a w hf hw
  refine wpIn_rangeFunc fun fn _ => ?_
  let r : Loop := { state := .ready, pending := none, fn := fn, tmps := a.tmps, params := ps, assign := assign, body := body, defers := w.heap.size }
  have hfr : FRep nt fr [] { tmps := r.tmps, defers := [] } := ⟨hf.size, hf.look, rfl⟩
  have H := h w.heap.size (w.heap.size + 1) r rfl rfl rfl hfr
  refine ⟨w.heap.size + 1, [{ target := .collected w.heap.size, args := #[] }], (w.alloc (.deferred (some []))).alloc (.loop r), { target := .fn (.func f) cap, args := first ++ #[.func (.yield (w.heap.size + 1)) #[] #[]] }, (w.alloc (.deferred (some []))).alloc (.loop r), f, first ++ #[.func (.yield (w.heap.size + 1)) #[] #[]] ++ cap, (w.alloc (.deferred (some []))).alloc (.loop r), ?_, ?_, fun _ _ => trivial, ?_, fun hd => by simp [Fw] at hd, ?_⟩
  · simp [Instr.enterLoop, newObj, Sem.run, Fw, r]
  · have hgv := hf.eval hg
    simp only [resolve, rangeCall]
    rw [hgv]
    simp [Deferred.ofValue, Act.eval]
  · exact H.1 _ _
  · have hs1 := hw.alloc (.deferred (some []))
    have hs2 := hs1.alloc (.loop r)
    rw [World.size_alloc] at hs2
    refine (H.2 (n - 1) _ hs2).mono ?_
    rintro e w3 ⟨v, G', rfl, hs3, s, p, G1, hsb, hh, hQ⟩
    have hs4 := hh _ _ hs3
    have hl := (hs4.own _ _ List.mem_cons_self).2
    simp only [Know.holds, lrec] at hl
    refine ⟨p, { w3 with heap := w3.heap.setIfInBounds (w.heap.size + 1) (.loop { r with state := .exhausted, pending := p }) }, ?_, ?_⟩
    · simp [Instr.endLoop, run_getLoop hl, run_setLoop hl, hsb]
    · have hs5 : Sat w0 ((w.heap.size, .exact (.deferred (some []))) :: G1) { w3 with heap := w3.heap.setIfInBounds (w.heap.size + 1) (.loop { r with state := .exhausted, pending := p }) } :=
        (Sat.setObj hs4).sub (List.sublist_cons_self _ _)
      have hf' : FRep nt fr ({ target := .collected w.heap.size, args := #[] } :: ds) { a with defers := [{ target := .collected w.heap.size, args := #[] }] ++ a.defers } := ⟨hf.size, hf.look, by simp [hf.defers]⟩
      cases p with
      | none => exact ⟨_, _, _, hf', hs5, hQ⟩
      | some c => exact hQ n _ _ hf' hs5
end Go.Proofs.YtgjmandjhjfgkaaDoor.Gl
