import Derived.Test.YtgjmandjhjfgkaaDoorGv
namespace Go.Proofs.YtgjmandjhjfgkaaDoor.Gl
open Go.RowKit Go.Shelf
set_option linter.unusedVariables false
set_option linter.unnecessarySimpa false
set_option linter.unusedSimpArgs false

/-! ### Regions that draw their order -/
/-- As the kit's wpAnyIn, and J holds of the world all the way. -/
def wpAnyJ (J : World → Prop) (F : Fence) (n : Nat) (P : Program) (md : Region.Mode) (ops : Array Oper) (Q : Exit → Act → World → Prop) : Nat → Array Bool → Act → World → Prop
  | 0, listed, a, w => J w ∧ Region.ready md ops listed = [] ∧ Q .normal a w
  | fuel + 1, listed, a, w => J w ∧
    (Region.ready md ops listed = [] → Q .normal a w) ∧
    ∀ i ∈ Region.ready md ops listed, wpOpIn F n P ops Q i (wpAnyJ J F n P md ops Q fuel (listed.setIfInBounds i true)) a w

section
variable {J : World → Prop} {F : Fence} {n : Nat} {P : Program} {ops : Array Oper} {Q : Exit → Act → World → Prop} {md : Region.Mode}

theorem wpAnyJ.world : ∀ {fuel : Nat} {listed : Array Bool} {a : Act} {w : World}, wpAnyJ J F n P md ops Q fuel listed a w → J w
  | 0, _, _, _, h => h.1
  | _ + 1, _, _, _, h => h.1

theorem wpAnyJ.plain : ∀ {fuel : Nat} {listed : Array Bool} {a : Act} {w : World}, wpAnyJ J F n P md ops Q fuel listed a w → wpAnyIn F n P md ops Q fuel listed a w
  | 0, _, _, _, h => ⟨h.2.1, h.2.2⟩
  | fuel + 1, listed, a, w, h => ⟨h.2.1, fun i hi => wpOpIn_mono (fun a w h => wpAnyJ.plain h) (h.2.2 i hi)⟩

def YieldsJ (J : World → Prop) (P : Program) (ops : Array Oper) (o : Oper) (v : Value) (a : Act) : Prop :=
  (Region.wanted o (yielded ops a.tmps) = true ∧ ∀ w, J w → (execOp a.eval o).run P w = .ok (.value v) w) ∨ (Region.wanted o (yielded ops a.tmps) = false ∧ v = undef)

theorem YieldsJ.wpOpIn {i : Nat} {o : Oper} {v : Value} {a : Act} (hro : F.round = none) (hfn : ∀ f, F.fn f) (hi : ops[i]? = some o) (hy : YieldsJ J P ops o v a)
    {K : Act → World → Prop} {w : World} (hJ : J w) (h : K (a.put o.dst v) w) : wpOpIn F n P ops Q i K a w := by
  unfold Go.wpOpIn
  simp only [hi]
  have hab : ∀ f, o.about P w a.eval = some f → F.fn f := fun f _ => hfn f
  rcases hy with ⟨hw, hv⟩ | ⟨hw, rfl⟩
  · simp only [hw, if_true, Oper.wpIn, hro, Oper.semAt_none, hv w hJ, Oper.uponIn]; exact ⟨hab, h⟩
  · simp only [hw, Bool.false_eq_true, if_false]; exact ⟨hab, h⟩

theorem YieldsJ.of_same {o : Oper} {v : Value} {a a' : Act} (hy : YieldsJ J P ops o v a) (he : execOp a'.eval o = execOp a.eval o)
    (hw : Region.wanted o (yielded ops a'.tmps) = Region.wanted o (yielded ops a.tmps)) : YieldsJ J P ops o v a' := by
  unfold YieldsJ
  rw [he, hw]
  exact hy

theorem wpOpIn_putJ {j : Nat} {oi oj : Oper} {v : Value} (hro : F.round = none) (hj : ops[j]? = some oj) (hap : oi.apart ops oj = true)
    (hsi : ∀ cs b, oi.op ≠ .select cs b) (hsj : ∀ cs b, oj.op ≠ .select cs b)
    (hQ : ∀ c a w, Q (.panic c) (a.put oi.dst v) w → Q (.panic c) a w) {K : Act → World → Prop} {a : Act} {w : World}
    (hy : YieldsJ J P ops oi v a) (h : wpOpIn F n P ops Q j K (a.put oi.dst v) w) :
    wpOpIn F n P ops Q j (fun a' w' => YieldsJ J P ops oi v a' ∧ K (a'.put oi.dst v) w') a w := by
  obtain ⟨h1, h2, h3⟩ := Oper.apart_spec hap
  have keep : ∀ (a : Act), YieldsJ J P ops oi v a → ∀ u, YieldsJ J P ops oi v (a.put oj.dst u) := fun a hy u =>
    hy.of_same (execOp_put oi hsi a oj.dst u h3) (wanted_put oi a oj.dst u h3)
  have keepD : ∀ d, YieldsJ J P ops oi v { a with defers := d :: a.defers } := fun d => hy.of_same rfl rfl
  unfold wpOpIn at *
  simp only [hj] at *
  rw [wanted_put oj a oi.dst v h1, about_put oj w a oi.dst v h1] at h
  split
  · rename_i hw
    simp only [hw, if_true] at h
    unfold Oper.wpIn at *
    rw [about_put oj w a oi.dst v h1] at h
    refine ⟨h.1, ?_⟩
    have h := h.2
    rw [hro, Oper.semAt_none, execOp_put oj hsj a oi.dst v h1] at h
    rw [hro, Oper.semAt_none]
    generalize (execOp a.eval oj).run P w = r at *
    cases r with
    | ok x w' =>
      cases x <;> simp only [Oper.uponIn] at h ⊢
      case value u => exact ⟨keep a hy u, by rw [← Act.put_comm a v u h2]; exact h⟩
      case skip => exact ⟨keep a hy _, by rw [← Act.put_comm a v undef h2]; exact h⟩
      case defer d =>
        refine ⟨keep _ (keepD d) _, ?_⟩
        rw [← Act.put_comm _ v undef h2, ← Act.put_defers]
        exact h
      case enter f args =>
        refine ⟨h.1, CallsIn.mono h.2 fun e w'' he => ?_⟩
        cases e with
        | returned u => exact ⟨keep a hy u, by rw [← Act.put_comm a v u h2]; exact he⟩
        | panicked c => exact hQ _ _ _ he
        | outgrown => exact he
      case row row args => exact ⟨h.1, RowsIn.mono h.2 fun u w'' he => ⟨keep a hy u, by rw [← Act.put_comm a v u h2]; exact he⟩⟩
      case round l f tmps assign body =>
        refine ⟨h.1, RoundIn.mono h.2 fun e w'' he => ?_⟩
        cases e with
        | returned u => exact ⟨keep a hy u, by rw [← Act.put_comm a v u h2]; exact he⟩
        | panicked c => exact hQ _ _ _ he
        | outgrown => exact he
    | halt x w' =>
      cases x <;> simp only [Oper.uponIn] at h ⊢
      case panic u => exact hQ _ _ _ h
  · rename_i hw
    simp only [hw] at h
    exact ⟨h.1, keep a hy _, by rw [← Act.put_comm a v undef h2]; exact h.2⟩

theorem wpAnyJ_first {i : Nat} {oi : Oper} {v : Value} (hro : F.round = none) (hfn : ∀ f, F.fn f) (hi : ops[i]? = some oi) (hsel : ∀ (j : Nat) (o : Oper) cs b, ops[j]? = some o → o.op ≠ .select cs b)
    (hQ : ∀ c a w, Q (.panic c) (a.put oi.dst v) w → Q (.panic c) a w) :
    ∀ (fuel : Nat) (listed : Array Bool) (a : Act) (w : World),
      (∀ j oj, ops[j]? = some oj → j ≠ i → listed.getD j true = false → (∀ e ∈ oj.after, Region.binds md e = true → e.on ≠ i) → oi.apart ops oj = true) →
      i ∈ Region.ready md ops listed → YieldsJ J P ops oi v a →
      wpAnyJ J F n P md ops Q fuel (listed.setIfInBounds i true) (a.put oi.dst v) w → wpAnyJ J F n P md ops Q (fuel + 1) listed a w := by
  intro fuel
  induction fuel with
  | zero =>
    intro listed a w _ hr hy H
    refine ⟨H.1, fun h => (by rw [h] at hr; cases hr), fun j hj => ?_⟩
    by_cases hji : j = i
    · subst hji; exact hy.wpOpIn hro hfn hi H.1 H
    · have := ready_mono hj hji
      rw [H.2.1] at this
      cases this
  | succ fuel ih =>
    intro listed a w hfree hr hy H
    refine ⟨H.1, fun h => (by rw [h] at hr; cases hr), fun j hj => ?_⟩
    by_cases hji : j = i
    · subst hji; exact hy.wpOpIn hro hfn hi H.1 H
    · have h1 := H.2.2 j (ready_mono hj hji)
      obtain ⟨hjun, oj, hoj, hall⟩ := mem_ready.1 hj
      have hnot : ∀ e ∈ oj.after, Region.binds md e = true → e.on ≠ i := fun e he hb heq => by
        have h1 := hall e he hb
        have h0 := (mem_ready.1 hr).1
        rw [heq] at h1
        rcases Nat.lt_or_ge i listed.size with h' | h'
        · simp [h'] at h0 h1; rw [h0] at h1; cases h1
        · simp [Array.getElem?_eq_none h'] at h1
      have h2 := wpOpIn_putJ hro hoj (hfree j oj hoj hji hjun hnot) (fun cs b => hsel i oi cs b hi) (fun cs b => hsel j oj cs b hoj) hQ hy h1
      have hfree' : ∀ k ok, ops[k]? = some ok → k ≠ i → (listed.setIfInBounds j true).getD k true = false →
          (∀ e ∈ ok.after, Region.binds md e = true → e.on ≠ i) → oi.apart ops ok = true := fun k ok hk hki hun hno => by
        refine hfree k ok hk hki ?_ hno
        by_cases hjk : j = k
        · subst hjk; exact hjun
        · rw [getD_set_ne true hjk] at hun; exact hun
      refine wpOpIn_mono (fun a' w' h3 => ih (listed.setIfInBounds j true) a' w' hfree' (ready_mono hr (Ne.symm hji)) h3.1 ?_) h2
      rw [Array.setIfInBounds_comm _ _ hji]
      exact h3.2
end

/-- No panic. -/
def Post.calm (Q : Post) : Post
  | .panic _, _, _, _ => False
  | e, fr, ds, G => Q e fr ds G
theorem Post.calm_le {Q : Post} {e : Exit} {fr : Fr} {ds : List Deferred} {G : Hp} (h : Post.calm Q e fr ds G) : Q e fr ds G := by
  cases e <;> first | exact h | exact h.elim

/-- GA X ops Q GJ fuel listed: the rest of such a region; GJ is known all the way. -/
def GA (X : Cx) (ops : Array Oper) (Q : Post) (GJ : Hp) (fuel : Nat) (listed : List Bool) (fr : Fr) (ds : List Deferred) (G : Hp) : Prop :=
  ∀ n a w, FRep X.nt fr ds a → Sat X.w0 G w → wpAnyJ (fun w => Sat X.w0 GJ w) (Fw X.r) n X.P .any ops (Lands X (Post.calm Q)) fuel listed.toArray a w

section
variable {X : Cx} {Q : Post} {GJ : Hp} {fr fr' : Fr} {ds : List Deferred} {G G' : Hp} {ops : Array Oper} {o : Oper} {d fuel : Nat} {L : List Bool}

theorem GA.weak (hk : Keeps fr fr') (hs : Hs G G') (h : GA X ops Q GJ fuel L fr' ds G') : GA X ops Q GJ fuel L fr ds G := fun n a w hf hw => h n a w (hf.weak hk) (hs _ _ hw)

theorem GW.draw {id : Nat} {l : List Oper} (GJ : Hp) (m : Nat) (hn : l.length = m) (hm : X.P.follows .mixedOrders = true) (h : GA X l.toArray Q GJ m (List.replicate m false) fr ds G) : GW X (.region id l.toArray true) Q fr ds G := fun n a w hf hs => by
  subst hn
  refine wpIn_region_any hm ?_
  have := (h n a w.drew hf hs.drew).plain
  have e : (List.replicate l.length false).toArray = Array.replicate l.toArray.size false := by simp
  rw [e] at this
  have hmono : ∀ (fuel : Nat) (listed : Array Bool) (a : Act) (w : World), wpAnyIn (Fw X.r) n X.P .any l.toArray (Lands X (Post.calm Q)) fuel listed a w → wpAnyIn (Fw X.r) n X.P .any l.toArray (Lands X Q) fuel listed a w := by
    intro fuel
    have hq : ∀ e a w, Lands X (Post.calm Q) e a w → Lands X Q e a w := fun e a w ⟨fr, ds, G, h1, h2, h3⟩ => ⟨fr, ds, G, h1, h2, Post.calm_le h3⟩
    induction fuel with
    | zero => exact fun listed a w h => ⟨h.1, hq _ _ _ h.2⟩
    | succ fuel ih =>
      intro listed a w h
      refine ⟨fun hr => hq _ _ _ (h.1 hr), fun i hi => ?_⟩
      have h2 := wpOpIn_mono (fun a w h => ih _ a w h) (h.2 i hi)
      unfold wpOpIn at h2 ⊢
      split
      · rename_i hn; simp only [hn] at h2; exact h2
      · rename_i o ho
        simp only [ho] at h2
        split
        · rename_i hw
          simp only [hw, if_true] at h2
          unfold Oper.wpIn at *
          refine ⟨h2.1, ?_⟩
          have h2 := h2.2
          generalize (o.semAt (Fw X.r).round a.eval).run X.P w = r at *
          cases r with
          | ok x w' =>
            cases x <;> simp only [Oper.uponIn] at h2 ⊢ <;>
              first
                | exact h2
                | exact ⟨h2.1, CallsIn.mono h2.2 (fun e w'' he => by
                    cases e with
                    | returned v => exact he
                    | panicked c => exact hq _ _ _ he
                    | outgrown => exact ⟨he.choose, he.choose_spec.choose, hq _ _ _ he.choose_spec.choose_spec⟩)⟩
                | exact ⟨h2.1, RowsIn.mono h2.2 (fun _ _ he => he)⟩
                | exact ⟨h2.1, RoundIn.mono h2.2 (fun e w'' he => by
                    cases e with
                    | returned v => exact he
                    | panicked c => exact hq _ _ _ he
                    | outgrown => exact ⟨he.choose, he.choose_spec.choose, hq _ _ _ he.choose_spec.choose_spec⟩)⟩
          | halt x w' => cases x <;> simp only [Oper.uponIn] at h2 ⊢ <;> first | exact h2.elim | exact hq _ _ _ h2
        · rename_i hw; simp only [hw] at h2; exact h2
  exact hmono _ _ _ _ this

theorem GW.drawS {id : Nat} {l : List Oper} (m : Nat) (hn : l.length = m) (hm : X.P.follows .mixedOrders = true) (h : GA X l.toArray Q G m (List.replicate m false) fr ds G) : GW X (.region id l.toArray true) Q fr ds G := GW.draw G m hn hm h

/-- An operation that may be taken first: it only reads what is known all the way. -/
theorem GA.val (i : Nat) {v : Value} (hi : ops[i]? = some o) (hg : GV X ops fr GJ o d v) (hro : X.r = none) (hs : Region.noSelect ops = true) (hf : Region.free .any ops L.toArray i = true) (hr : (Region.ready .any ops L.toArray).contains i = true)
    (h : GA X ops Q GJ fuel (L.set i true) ((d, v) :: fr) ds G) : GA X ops Q GJ (fuel + 1) L fr ds G := fun n a w hfr hw => by
  refine wpAnyJ_first (i := i) (oi := o) (v := v) (by simp [Fw, hro]) (fun _ => trivial) hi (Region.noSelect_spec hs) (fun c a w ⟨_, _, _, _, _, h3⟩ => h3.elim) fuel _ a w (Region.free_spec hi hf) (by simpa using hr) (.inl ⟨wanted_of hfr hg.on, fun w' hw' => hg.run _ w' (fun x v hx => hfr.eval hx) hw'⟩) ?_
  rw [hg.dst]
  have := h n _ w (hfr.put (Nat.le_of_ble_eq_true hg.lt) v) hw
  simpa using this

/-- One whose guard says no. -/
theorem GA.skip (i : Nat) (hi : ops[i]? = some o) (hw0 : wantedO ops fr o = some false) (hd : o.dst = some d) (hlt : Nat.blt d X.nt = true) (hro : X.r = none) (hs : Region.noSelect ops = true) (hf : Region.free .any ops L.toArray i = true) (hr : (Region.ready .any ops L.toArray).contains i = true)
    (h : GA X ops Q GJ fuel (L.set i true) ((d, undef) :: fr) ds G) : GA X ops Q GJ (fuel + 1) L fr ds G := fun n a w hfr hw => by
  refine wpAnyJ_first (i := i) (oi := o) (v := undef) (by simp [Fw, hro]) (fun _ => trivial) hi (Region.noSelect_spec hs) (fun c a w ⟨_, _, _, _, _, h3⟩ => h3.elim) fuel _ a w (Region.free_spec hi hf) (by simpa using hr) (.inr ⟨wanted_of hfr hw0, rfl⟩) ?_
  rw [hd]
  have := h n _ w (hfr.put (Nat.le_of_ble_eq_true hlt) undef) hw
  simpa using this

theorem wpOpIn_of {n : Nat} {i : Nat} {a : Act} {w : World} {K : Act → World → Prop} (hi : ops[i]? = some o) (hK : ∀ a w, Lands X (Post.then (fun fr ds G => ∀ a w, FRep X.nt fr ds a → Sat X.w0 G w → K a w) (Post.calm Q)) .normal a w → K a w)
    (h : wpListIn (Fw X.r) n X.P ops (Lands X (Post.then (fun fr ds G => ∀ a w, FRep X.nt fr ds a → Sat X.w0 G w → K a w) (Post.calm Q))) [o] a w) : wpOpIn (Fw X.r) n X.P ops (Lands X (Post.calm Q)) i K a w := by
  unfold wpOpIn
  simp only [hi, wpListIn] at h ⊢
  have hq : ∀ c a w, Lands X (Post.then (fun fr ds G => ∀ a w, FRep X.nt fr ds a → Sat X.w0 G w → K a w) (Post.calm Q)) (.panic c) a w → Lands X (Post.calm Q) (.panic c) a w := fun c a w h => h
  split
  · rename_i hw
    rw [if_pos hw] at h
    unfold Oper.wpIn at *
    refine ⟨h.1, ?_⟩
    have h := h.2
    generalize (o.semAt (Fw X.r).round a.eval).run X.P w = r at *
    cases r with
    | ok x w' =>
      cases x <;> simp only [Oper.uponIn] at h ⊢ <;>
        first
          | exact hK _ _ h
          | exact ⟨h.1, CallsIn.mono h.2 (fun e w'' he => by
              cases e with
              | returned v => exact hK _ _ he
              | panicked c => exact hq _ _ _ he
              | outgrown => exact ⟨he.choose, he.choose_spec.choose, he.choose_spec.choose_spec⟩)⟩
          | exact ⟨h.1, RowsIn.mono h.2 (fun _ _ he => hK _ _ he)⟩
          | exact ⟨h.1, RoundIn.mono h.2 (fun e w'' he => by
              cases e with
              | returned v => exact hK _ _ he
              | panicked c => exact hq _ _ _ he
              | outgrown => exact ⟨he.choose, he.choose_spec.choose, he.choose_spec.choose_spec⟩)⟩
    | halt x w' => cases x <;> simp only [Oper.uponIn] at h ⊢ <;> first | exact h.elim | exact hq _ _ _ h
  · rename_i hw
    rw [if_neg hw] at h
    exact ⟨h.1, hK _ _ h.2⟩

/-- All that are ready, one by one. -/
theorem GA.all (rs : List Nat) (hJ : Hs G GJ) (hr : Region.ready .any ops L.toArray = rs) (hne : rs ≠ [])
    (h : ∀ i ∈ rs, ∃ o, ops[i]? = some o ∧ GOps X ops (Post.then (GA X ops Q GJ fuel (L.set i true)) (Post.calm Q)) [o] fr ds G) : GA X ops Q GJ (fuel + 1) L fr ds G := fun n a w hf hw => by
  refine ⟨hJ _ _ hw, fun h0 => absurd (hr ▸ h0) hne, fun i hi => ?_⟩
  rw [hr] at hi
  obtain ⟨o, ho, hk⟩ := h i hi
  refine wpOpIn_of (Q := Q) ho (fun a w ⟨fr, ds, G, h1, h2, h3⟩ => h3 a w h1 h2) ?_
  refine wpListIn_mono' (hk n a w hf hw) ?_
  rintro e a' w' ⟨fr1, ds1, G1, h1, h2, h3⟩
  refine ⟨fr1, ds1, G1, h1, h2, ?_⟩
  cases e with
  | normal =>
    intro a2 w2 g1 g2
    have := h3 n a2 w2 g1 g2
    simpa using this
  | _ => exact h3
theorem GA.one (i : Nat) (hJ : Hs G GJ) (hr : Region.ready .any ops L.toArray = [i]) (hi : ops[i]? = some o) (h : GOps X ops (Post.then (GA X ops Q GJ fuel (L.set i true)) (Post.calm Q)) [o] fr ds G) : GA X ops Q GJ (fuel + 1) L fr ds G :=
  GA.all [i] hJ hr (by simp) (fun j hj => by rw [List.mem_singleton] at hj; subst hj; exact ⟨o, hi, h⟩)
theorem GA.two (i j : Nat) {o' : Oper} (hJ : Hs G GJ) (hr : Region.ready .any ops L.toArray = [i, j]) (hi : ops[i]? = some o) (hj : ops[j]? = some o') (h : GOps X ops (Post.then (GA X ops Q GJ fuel (L.set i true)) (Post.calm Q)) [o] fr ds G)
    (h' : GOps X ops (Post.then (GA X ops Q GJ fuel (L.set j true)) (Post.calm Q)) [o'] fr ds G) : GA X ops Q GJ (fuel + 1) L fr ds G :=
  GA.all [i, j] hJ hr (by simp) (fun k hk => by
    simp only [List.mem_cons, List.not_mem_nil, or_false] at hk
    rcases hk with rfl | rfl
    · exact ⟨o, hi, h⟩
    · exact ⟨o', hj, h'⟩)
theorem GA.done (hJ : Hs G GJ) (hr : Region.ready .any ops L.toArray = []) (h : Q .normal fr ds G) : GA X ops Q GJ fuel L fr ds G := fun n a w hf hw => by
  cases fuel with
  | zero => exact ⟨hJ _ _ hw, hr, _, _, _, hf, hw, h⟩
  | succ k => exact ⟨hJ _ _ hw, fun _ => ⟨_, _, _, hf, hw, h⟩, by rw [hr]; simp⟩
theorem GA.caseB (d : Nat) {t : Bool} (hd : lk fr d = some (.bool t)) (h1 : t = true → GA X ops Q GJ fuel L ((d, .bool true) :: fr) ds G) (h2 : t = false → GA X ops Q GJ fuel L ((d, .bool false) :: fr) ds G) : GA X ops Q GJ fuel L fr ds G := by
  have hk : Keeps fr ((d, .bool t) :: fr) := Keeps.cons hd (Keeps.refl _)
  cases t with
  | true => exact GA.weak hk (Hs.refl _) (h1 rfl)
  | false => exact GA.weak hk (Hs.refl _) (h2 rfl)
end
end Go.Proofs.YtgjmandjhjfgkaaDoor.Gl
