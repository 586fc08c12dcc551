import Derived.Test.YtgjmandjhjfgkaaDoorGn
namespace Go.Proofs.YtgjmandjhjfgkaaDoor.Gl
open Go.RowKit Go.Shelf
set_option linter.unusedVariables false
set_option linter.unnecessarySimpa false
set_option linter.unusedSimpArgs false

/-! ### Rounds one by one; scopes with one label -/
def GR (X : Cx) (c : Code) (Q : Post) : Nat → Fr → List Deferred → Hp → Prop
  | 0, _, _, _ => False
  | m + 1, fr, ds, G => GW X c (Post.then (GR X c Q m) Q) fr ds G

theorem GW.rounds {X : Cx} {c : Code} {Q : Post} {fr : Fr} {ds : List Deferred} {G : Hp} (m : Nat) (h : GR X c Q m fr ds G) : GW X (.loop c) Q fr ds G := by
  refine GW.loop (fun k fr ds G => GR X c Q k fr ds G) h ?_
  intro k fr ds G hk
  cases k with
  | zero => exact hk.elim
  | succ k => exact GW.mono hk (fun e fr ds G h => by
      cases e with
      | normal => exact ⟨k, Nat.lt_succ_self k, h⟩
      | _ => exact h)

section
variable {P : Program} {b : Frame} {a : Act} {k : List Item} {cs : List Frame} {w : World}
theorem stepR_scope {c : Code} : step P (lone (b.atR a (.code (.scope c) :: k)) cs w) = .next (lone (b.atR a (.code c :: .inScope c :: k)) cs w) :=
  step_lone_go (by simp [stepG, stepG.exec, Frame.atR])
theorem stepR_inScope {c : Code} : step P (lone (b.atR a (.inScope c :: k)) cs w) = .next (lone (b.atR a k) cs w) :=
  step_lone_go (by simp [stepG, stepG.exec, Frame.atR])
end

/-- By a goto to label l: J; by no other goto. -/
def Post.jump (l : Nat) (J : Fr → List Deferred → Hp → Prop) (Q : Post) : Post
  | .goto l', fr, ds, G => l' = l ∧ J fr ds G
  | e, fr, ds, G => Q e fr ds G
def Post.noGoto (Q : Post) : Post
  | .goto _, _, _, _ => False
  | e, fr, ds, G => Q e fr ds G

theorem gotoIn_scope_none {c : Code} {l : Nat} {rest : Code} {k : List Item} (h : findLabel c l = some rest) : gotoIn l (.inScope c :: k) = some (.code rest :: .inScope c :: k) := by simp [gotoIn, h]

/-- A scope that is left forward: a goto comes to its label at most once, and behind the label there is none. -/
theorem GW.scope {X : Cx} {c rest : Code} {Q : Post} {fr : Fr} {ds : List Deferred} {G : Hp} (l : Nat) (J : Fr → List Deferred → Hp → Prop) (hf : findLabel c l = some rest)
    (first : GW X c (Post.jump l J Q) fr ds G) (pass : ∀ fr ds G, J fr ds G → GW X rest (Post.noGoto Q) fr ds G) : GW X (.scope c) Q fr ds G := by
  intro n a w hfr hw b k cs hro hb hr
  have hg : gotoIn l (.inScope c :: k) = some (.code rest :: .inScope c :: k) := gotoIn_scope_none hf
  have h0 : (lone (b.atR a (.code (.scope c) :: k)) cs w).fenced X.P (Fw X.r) := fenced_calm hb hr rfl
  have hend : ∀ a w, (lone (b.atR a (.inScope c :: k)) cs w).fenced X.P (Fw X.r) := fun a w => fenced_calm hb hr rfl
  have second : ∀ a w, (∃ fr ds G, FRep X.nt fr ds a ∧ Sat X.w0 G w ∧ J fr ds G) → ∃ e a' w', Lands X Q e a' w' ∧ ArrivesIn (Machine.fenced X.P (Fw X.r)) X.P (lone (b.atR a (.code rest :: .inScope c :: k)) cs w) b k cs e a' w' := by
    rintro a w ⟨fr, ds, G, h1, h2, h3⟩
    obtain ⟨e, a₁, w₁, ⟨fr1, ds1, G1, g1, g2, g3⟩, harr⟩ := pass fr ds G h3 n a w h1 h2 b (.inScope c :: k) cs hro hb hr
    cases e with
    | normal => exact ⟨.normal, a₁, w₁, ⟨fr1, ds1, G1, g1, g2, g3⟩, StepsIn.trans harr (.one (hend _ _) stepR_inScope)⟩
    | exit id => exact ⟨.exit id, a₁, w₁, ⟨fr1, ds1, G1, g1, g2, g3⟩, fun k' hk => harr.1 k' (by simp [exitTo, hk]), fun hr' hk => harr.2 hr' (by simp [exitTo, hk])⟩
    | goto l' => exact g3.elim
    | ret => exact ⟨_, a₁, w₁, ⟨fr1, ds1, G1, g1, g2, g3⟩, harr⟩
    | panic ch => exact ⟨_, a₁, w₁, ⟨fr1, ds1, G1, g1, g2, g3⟩, harr⟩
    | outgrown => exact ⟨_, a₁, w₁, ⟨fr1, ds1, G1, g1, g2, g3⟩, harr⟩
  obtain ⟨e, a₁, w₁, ⟨fr1, ds1, G1, g1, g2, g3⟩, harr⟩ := first n a w hfr hw b (.inScope c :: k) cs hro hb hr
  cases e with
  | normal => exact ⟨.normal, a₁, w₁, ⟨fr1, ds1, G1, g1, g2, g3⟩, .head h0 stepR_scope (StepsIn.trans harr (.one (hend _ _) stepR_inScope))⟩
  | exit id => exact ⟨.exit id, a₁, w₁, ⟨fr1, ds1, G1, g1, g2, g3⟩, fun k' hk => .head h0 stepR_scope (harr.1 k' (by simp [exitTo, hk])), fun hr' hk => let ⟨k₁, e1, e2⟩ := harr.2 hr' (by simp [exitTo, hk]); ⟨k₁, e1, .head h0 stepR_scope e2⟩⟩
  | goto l' =>
    obtain ⟨rfl, hJ⟩ := g3
    obtain ⟨e₂, a₂, w₂, hq₂, harr₂⟩ := second a₁ w₁ ⟨fr1, ds1, G1, g1, g2, hJ⟩
    exact ⟨e₂, a₂, w₂, hq₂, .of_steps (.head h0 stepR_scope (harr.1 _ hg)) harr₂⟩
  | ret => exact ⟨_, a₁, w₁, ⟨fr1, ds1, G1, g1, g2, g3⟩, .of_steps (.one h0 stepR_scope) harr⟩
  | panic ch => exact ⟨_, a₁, w₁, ⟨fr1, ds1, G1, g1, g2, g3⟩, .of_steps (.one h0 stepR_scope) harr⟩
  | outgrown => exact ⟨_, a₁, w₁, ⟨fr1, ds1, G1, g1, g2, g3⟩, .of_steps (.one h0 stepR_scope) harr⟩

section
variable {X : Cx} {Q : Post} {fr : Fr} {ds : List Deferred} {G : Hp} {ops : Array Oper} {o : Oper} {rest : List Oper} {d : Nat}

/-! ### Pieces of strings -/
theorem R.sliceStrL {t : TypeId} {x y : Operand} {k : IntKind} {s : ByteArray} {i : Int} (h : At X ops fr o (.slice t x (some y) none none) d) (hx : evO fr x = some (.string s)) (hy : evO fr y = some (.int k i)) (hu : X.P.underlying t = some .string)
    (h0 : 0 ≤ i) (h1 : i ≤ s.size) (K : GOps X ops Q rest ((d, .string (s.extract i.toNat s.size)) :: fr) ds G) : GOps X ops Q (o :: rest) fr ds G :=
  R.val h (by simp) (fun ρ w hρ hw => by
    have e := run_slice_string_l w t s hu k i h0 h1
    simp only [execOp, h.op, Option.map_some, Option.map_none, hρ _ _ hx, hρ _ _ hy, Instr.sliceAt, Sem.run_bind, run_und hu, Result.andThen_ok, e]
    rfl) K
theorem R.sliceStrH {t : TypeId} {x y : Operand} {k : IntKind} {s : ByteArray} {i : Int} (h : At X ops fr o (.slice t x none (some y) none) d) (hx : evO fr x = some (.string s)) (hy : evO fr y = some (.int k i)) (hu : X.P.underlying t = some .string)
    (h0 : 0 ≤ i) (h1 : i ≤ s.size) (K : GOps X ops Q rest ((d, .string (s.extract 0 i.toNat)) :: fr) ds G) : GOps X ops Q (o :: rest) fr ds G :=
  R.val h (by simp) (fun ρ w hρ hw => by
    have e := run_slice_string_h w t s hu k i h0 h1
    simp only [execOp, h.op, Option.map_some, Option.map_none, hρ _ _ hx, hρ _ _ hy, Instr.sliceAt, Sem.run_bind, run_und hu, Result.andThen_ok, e]
    rfl) K
theorem R.sliceStrLH {t : TypeId} {x y z : Operand} {k k' : IntKind} {s : ByteArray} {i j : Int} (h : At X ops fr o (.slice t x (some y) (some z) none) d) (hx : evO fr x = some (.string s)) (hy : evO fr y = some (.int k i)) (hz : evO fr z = some (.int k' j)) (hu : X.P.underlying t = some .string)
    (h0 : 0 ≤ i) (h1 : i ≤ j) (h2 : j ≤ s.size) (K : GOps X ops Q rest ((d, .string (s.extract i.toNat j.toNat)) :: fr) ds G) : GOps X ops Q (o :: rest) fr ds G :=
  R.val h (by simp) (fun ρ w hρ hw => by
    simp only [execOp, h.op, Option.map_some, Option.map_none, hρ _ _ hx, hρ _ _ hy, hρ _ _ hz, Instr.sliceAt, Sem.run_bind, run_und hu, Result.andThen_ok, Instr.slice, Instr.sliceBounds, Option.isSome_none, Bool.false_eq_true, if_false, Sem.run_pure, Go.run_sliceBound w k' j s.size _ (by omega) h2, Go.run_sliceBound w k i j.toNat _ h0 (by omega)]) K
theorem bs_extract (s : ByteArray) (i j : Nat) : bs (s.extract i j) = ((bs s).drop i).take (j - i) := by
  unfold bs
  rw [← List.map_drop, ← List.map_take]
  congr 1
  rw [ByteArray.data_extract, Array.toList_extract]
end
end Go.Proofs.YtgjmandjhjfgkaaDoor.Gl
