/- PlanQueries up to the bulk: the row and its card. -/
import Derived.Test.YtfddkcmooommeaaGreatDoorMX5
import Derived.Laws.Cover2
section
namespace Go.Proofs.YtfddkcmooommeaaGreatDoor.Gl
open Go.RowKit Go.Shelf
set_option linter.unusedVariables false
set_option linter.unnecessarySimpa false
set_option linter.unusedSimpArgs false
attribute [-simp] List.getD_eq_getElem?_getD
section
variable {X : Cx} {Q : Post} {fr : Fr} {ds : List Deferred} {G : Hp} {ops : Array Oper} {o : Oper} {rest : List Oper} {d : Nat}
theorem V.sliceSH {t e : TypeId} {x y : Operand} {k : IntKind} {A : Option Addr} {n c z m : Nat} {j : Int} (h : At X ops fr o (.slice t x none (some y) none) d) (hx : evO fr x = some (.slice A n c)) (hy : evO fr y = some (.int k j)) (hu : X.P.underlying t = some (.slice e)) (hz : ∀ w, (sizeOf e).run X.P w = .ok z w)
  (hA : ∀ a, A = some a → a.spot = none) (h0 : 0 ≤ j) (h1 : j ≤ c) (hjm : j.toNat = m) : GV X ops fr G o d (.slice A m c) := by
 subst hjm
 exact GV.of h (by simp) (fun ρ w hρ hw => by
  have e : (if c = 0 then A else A.map (·.add (0 * z))) = A := by
   split
   ·rfl
   ·rw [Nat.zero_mul]
    cases A with
    | none => rfl
    | some a =>
     have ha := hA a rfl
     obtain ⟨b, f, sp⟩ := a
     simp only at ha
     subst ha
     rw [Option.map_some, add_none, Nat.add_zero]
  simp only [execOp, h.op, Option.map_some, Option.map_none, hρ _ _ hx, hρ _ _ hy, Instr.sliceAt, Sem.run_bind, run_und hu, Result.andThen_ok, Instr.slice, Instr.sliceBounds, Sem.run_pure, Go.run_sliceBound w k j c _ h0 h1, hz]
  simp only [Nat.sub_zero, e])
end
theorem StAt_take {w0 : World} {G : Hp} {A : Option Addr} {xs : List ByteArray} (h : StAt w0 G A xs) (i : Nat) : StAt w0 G A (xs.take i) := fun j x hx => h j x (by
 have hj : j < i := by
  have := (List.getElem?_eq_some_iff.1 hx).1
  rw [List.length_take] at this
  omega
 rwa [List.getElem?_take_of_lt hj] at hx)
theorem anyS_flat (l : List Lt) (s : ByteArray) : anyS (l.flatMap slotsOf) s = l.any (fun x => anyS (slotsOf x) s) := by
 induction l with
 | nil => rfl
 | cons x l ih =>
  rw [List.flatMap_cons, List.any_cons, ← ih]
  simp [anyS]
theorem bound_mem (body : List Lt) (s : ByteArray) : inB (dd (bS (body.filter isMt) (body.filter isMt).length)) s = memT body body.length s := by
 rw [inB_dd]
 unfold bS memT
 rw [List.take_length, List.take_length, anyS_flat]
 induction body with
 | nil => rfl
 | cons x l ih =>
  cases h : isMt x <;> simp [List.filter_cons, h, ih]
def headR (q : Qr) : Bool := (q.ask != decide (0 < q.vars.length)) && !(q.ask && q.dis)
theorem headQ_of {q : Qr} (h1 : 1 ≤ q.body.length ∧ q.body.length ≤ 64 ∧ q.vars.length ≤ 32) (h2 : headR q = true) : headQ q = true := by
 unfold headQ
 unfold headR at h2
 rw [h2]
 simp [h1]
theorem headQ_no1 {q : Qr} (h1 : ¬ (1 ≤ q.body.length ∧ q.body.length ≤ 64 ∧ q.vars.length ≤ 32)) : headQ q = false := by
 unfold headQ
 rw [← Bool.not_eq_true]
 simp only [Bool.and_eq_true, decide_eq_true_eq]
 exact fun h => h1 ⟨h.1, h.2.1, h.2.2.1⟩
theorem headQ_no2 {q : Qr} (h2 : headR q = false) : headQ q = false := by
 unfold headQ
 unfold headR at h2
 rw [h2]
 simp
theorem ref07_May (w0 : World) (G : Hp) (q : Qr) (vA bA : Option Addr) (vc bc : Nat) (hv : StAt w0 G vA q.vars) (hl : LtsAt w0 G bA q.body) (hvm : q.vars.length ≤ 1048576) (hbm : q.body.length ≤ 1048576) (hok : QrOk q) (hvc : q.vars.length ≤ vc) : GC Tryz.prog w0 23 #[.agg (QrC q (.slice vA q.vars.length vc) (.slice bA q.body.length bc)).toArray] (fun v G' => v = .bool (mayQ q) ∧ G = G') G := by
 refine GC.body (args := [.agg (QrC q (.slice vA q.vars.length vc) (.slice bA q.body.length bc)).toArray]) Tryz.func23 rfl (by kernel_rfl) rfl ?_
 refine GW.seq ?_
 refine GW.region ?_
 refine R.box ⟨Z,Z,Z,Z⟩ Z fun b1 => ?_
 refine R.assign ⟨Z,Z,Z,Z⟩ Z ?_
 refine GOps.nil ?_
 refine GW.seq ?_
 refine GW.cutS 24 (decide (¬ (1 ≤ q.body.length ∧ q.body.length ≤ 64 ∧ q.vars.length ≤ 32))) [(1, .pointer (some ⟨b1, 0, none⟩))] ?_ ?_
 ·refine R.fieldAddr ⟨Z,Z,Z,Z⟩ Z Tryz.underlying81 Z Tryz.sizeOf29 ?_
  refine R.load1 ⟨Z,Z,Z,Z⟩ Z Tryz.underlying29 Z (.own memH Z) ?_
  refine R.lenS ⟨Z,Z,Z,Z⟩ Z Z Tryz.underlying29 ?_
  refine R.lss ⟨Z,Z,Z,Z⟩ Z Z ?_
  refine R.move ⟨Z,Z,Z,Z⟩ Z ?_
  refine GOps.caseB 13 Z (fun hg1 => ?_) (fun hg1 => ?_)
  ·try simp only [dcQ] at hg1
   refine GOps.skip Z Z Z ?_
   refine GOps.skip Z Z Z ?_
   refine GOps.skip Z Z Z ?_
   refine GOps.skip Z Z Z ?_
   refine R.pick_t ⟨Z,Z,Z,Z⟩ Z Z ?_
   refine R.move ⟨Z,Z,Z,Z⟩ Z ?_
   refine GOps.skip Z Z Z ?_
   refine GOps.skip Z Z Z ?_
   refine GOps.skip Z Z Z ?_
   refine GOps.skip Z Z Z ?_
   refine R.pick_t ⟨Z,Z,Z,Z⟩ Z Z ?_
   refine GOps.nil ?_
   exact ⟨rfl, rfl, keepG, by first | exact Hs.refl _ | exact Hs.tl _, vbs (by rw [Bool.eq_iff_iff]; simp only [decide_eq_true_eq, decide_eq_false_iff_not, iff_true, true_iff, iff_false, false_iff, Bool.false_eq_true, Bool.true_eq_false] at *; omega)⟩
  ·try simp only [dcQ] at hg1
   refine R.fieldAddr ⟨Z,Z,Z,Z⟩ Z Tryz.underlying81 Z Tryz.sizeOf29 ?_
   refine R.load1 ⟨Z,Z,Z,Z⟩ Z Tryz.underlying29 Z (.own memH Z) ?_
   refine R.lenS ⟨Z,Z,Z,Z⟩ Z Z Tryz.underlying29 ?_
   refine R.gtr ⟨Z,Z,Z,Z⟩ Z Z ?_
   refine R.pick_f ⟨Z,Z,Z,Z⟩ Z Z ?_
   refine R.move ⟨Z,Z,Z,Z⟩ Z ?_
   refine GOps.caseB 19 Z (fun hg2 => ?_) (fun hg2 => ?_)
   ·try simp only [dcQ] at hg2
    refine GOps.skip Z Z Z ?_
    refine GOps.skip Z Z Z ?_
    refine GOps.skip Z Z Z ?_
    refine GOps.skip Z Z Z ?_
    refine R.pick_t ⟨Z,Z,Z,Z⟩ Z Z ?_
    refine GOps.nil ?_
    exact ⟨rfl, rfl, keepG, by first | exact Hs.refl _ | exact Hs.tl _, vbs (by rw [Bool.eq_iff_iff]; simp only [decide_eq_true_eq, decide_eq_false_iff_not, iff_true, true_iff, iff_false, false_iff, Bool.false_eq_true, Bool.true_eq_false] at *; omega)⟩
   ·try simp only [dcQ] at hg2
    refine R.fieldAddr ⟨Z,Z,Z,Z⟩ Z Tryz.underlying81 Z Tryz.sizeOf61 ?_
    refine R.load1 ⟨Z,Z,Z,Z⟩ Z Tryz.underlying61 Z (.own memH Z) ?_
    refine R.lenS ⟨Z,Z,Z,Z⟩ Z Z Tryz.underlying61 ?_
    refine R.gtr ⟨Z,Z,Z,Z⟩ Z Z ?_
    refine R.pick_f ⟨Z,Z,Z,Z⟩ Z Z ?_
    refine GOps.nil ?_
    exact ⟨rfl, rfl, keepG, by first | exact Hs.refl _ | exact Hs.tl _, vbs (by rw [Bool.eq_iff_iff]; simp only [decide_eq_true_eq, decide_eq_false_iff_not, iff_true, true_iff, iff_false, false_iff, Bool.false_eq_true, Bool.true_eq_false] at *; omega)⟩
 ·refine GW.ite Z (fun hc3 => ?_) (fun hc3 => ?_)
  ·try simp only [dcQ] at hc3
   have hmq := mayQ_1 (headQ_no1 hc3)
   refine GW.seq ?_
   refine GW.region ?_
   refine R.assign ⟨Z,Z,Z,Z⟩ Z ?_
   refine GOps.nil ?_
   exact GW.ret (Out.of (Res.one rfl rfl) (by exact Hs.sub subG) ⟨by rw [hmq], rfl⟩)
  ·try simp only [dcQ] at hc3
   replace hc3 := Decidable.not_not.1 hc3
   refine GW.skip ?_
   refine GW.seq ?_
   refine GW.cutS 47 (!headR q) [(1, .pointer (some ⟨b1, 0, none⟩))] ?_ ?_
   ·refine R.fieldAddr ⟨Z,Z,Z,Z⟩ Z Tryz.underlying81 Z Tryz.sizeOf4 ?_
    refine R.load1 ⟨Z,Z,Z,Z⟩ Z Tryz.underlying4 Z (.own (v := .bool q.ask) memH Z) ?_
    refine R.move ⟨Z,Z,Z,Z⟩ Z ?_
    refine GOps.caseB 27 Z (fun hg4 => ?_) (fun hg4 => ?_)
    ·try simp only [dcQ] at hg4
     refine R.fieldAddr ⟨Z,Z,Z,Z⟩ Z Tryz.underlying81 Z Tryz.sizeOf61 ?_
     refine R.load1 ⟨Z,Z,Z,Z⟩ Z Tryz.underlying61 Z (.own memH Z) ?_
     refine R.lenS ⟨Z,Z,Z,Z⟩ Z Z Tryz.underlying61 ?_
     refine R.gtr ⟨Z,Z,Z,Z⟩ Z Z ?_
     refine R.move ⟨Z,Z,Z,Z⟩ Z ?_
     refine GOps.caseB 32 Z (fun hg5 => ?_) (fun hg5 => ?_)
     ·try simp only [dcQ] at hg5
      refine GOps.skip Z Z Z ?_
      refine GOps.skip Z Z Z ?_
      refine R.pick_t ⟨Z,Z,Z,Z⟩ Z Z ?_
      refine R.pick_t ⟨Z,Z,Z,Z⟩ Z Z ?_
      refine R.move ⟨Z,Z,Z,Z⟩ Z ?_
      refine GOps.skip Z Z Z ?_
      refine GOps.skip Z Z Z ?_
      refine GOps.skip Z Z Z ?_
      refine GOps.skip Z Z Z ?_
      refine GOps.skip Z Z Z ?_
      refine GOps.skip Z Z Z ?_
      refine GOps.skip Z Z Z ?_
      refine GOps.skip Z Z Z ?_
      refine GOps.skip Z Z Z ?_
      refine R.pick_t ⟨Z,Z,Z,Z⟩ Z Z ?_
      refine GOps.nil ?_
      exact ⟨rfl, rfl, keepG, by first | exact Hs.refl _ | exact Hs.tl _, vbs (by unfold headR; cases ha : q.ask <;> cases hd : q.dis <;> by_cases hz : 0 < q.vars.length <;> simp_all <;> (try rw [← List.length_eq_zero_iff]) <;> omega)⟩
     ·try simp only [dcQ] at hg5
      refine R.fieldAddr ⟨Z,Z,Z,Z⟩ Z Tryz.underlying81 Z Tryz.sizeOf4 ?_
      refine R.load1 ⟨Z,Z,Z,Z⟩ Z Tryz.underlying4 Z (.own (v := .bool q.dis) memH Z) ?_
      refine R.pick_f ⟨Z,Z,Z,Z⟩ Z Z ?_
      refine R.pick_t ⟨Z,Z,Z,Z⟩ Z Z ?_
      refine R.move ⟨Z,Z,Z,Z⟩ Z ?_
      refine GOps.caseB 37 Z (fun hg6 => ?_) (fun hg6 => ?_)
      ·try simp only [dcQ] at hg6
       refine GOps.skip Z Z Z ?_
       refine GOps.skip Z Z Z ?_
       refine GOps.skip Z Z Z ?_
       refine GOps.skip Z Z Z ?_
       refine GOps.skip Z Z Z ?_
       refine GOps.skip Z Z Z ?_
       refine GOps.skip Z Z Z ?_
       refine GOps.skip Z Z Z ?_
       refine GOps.skip Z Z Z ?_
       refine R.pick_t ⟨Z,Z,Z,Z⟩ Z Z ?_
       refine GOps.nil ?_
       exact ⟨rfl, rfl, keepG, by first | exact Hs.refl _ | exact Hs.tl _, vbs (by unfold headR; cases ha : q.ask <;> cases hd : q.dis <;> by_cases hz : 0 < q.vars.length <;> simp_all <;> (try rw [← List.length_eq_zero_iff]) <;> omega)⟩
      ·try simp only [dcQ] at hg6
       refine R.fieldAddr ⟨Z,Z,Z,Z⟩ Z Tryz.underlying81 Z Tryz.sizeOf4 ?_
       refine R.load1 ⟨Z,Z,Z,Z⟩ Z Tryz.underlying4 Z (.own (v := .bool q.ask) memH Z) ?_
       refine R.not ⟨Z,Z,Z,Z⟩ Z ?_
       refine R.move ⟨Z,Z,Z,Z⟩ Z ?_
       refine GOps.caseB 41 Z (fun hg7 => ?_) (fun hg7 => ?_)
       ·try simp only [dcQ] at hg7
        refine R.fieldAddr ⟨Z,Z,Z,Z⟩ Z Tryz.underlying81 Z Tryz.sizeOf61 ?_
        refine R.load1 ⟨Z,Z,Z,Z⟩ Z Tryz.underlying61 Z (.own memH Z) ?_
        refine R.lenS ⟨Z,Z,Z,Z⟩ Z Z Tryz.underlying61 ?_
        refine R.eqI ⟨Z,Z,Z,Z⟩ Z Z ?_
        refine R.pick_t ⟨Z,Z,Z,Z⟩ Z Z ?_
        refine R.pick_f ⟨Z,Z,Z,Z⟩ Z Z ?_
        refine GOps.nil ?_
        exact ⟨rfl, rfl, keepG, by first | exact Hs.refl _ | exact Hs.tl _, vbs (by unfold headR; cases ha : q.ask <;> cases hd : q.dis <;> by_cases hz : 0 < q.vars.length <;> simp_all <;> (try rw [← List.length_eq_zero_iff]) <;> omega)⟩
       ·try simp only [dcQ] at hg7
        refine GOps.skip Z Z Z ?_
        refine GOps.skip Z Z Z ?_
        refine GOps.skip Z Z Z ?_
        refine GOps.skip Z Z Z ?_
        refine R.pick_f ⟨Z,Z,Z,Z⟩ Z Z ?_
        refine R.pick_f ⟨Z,Z,Z,Z⟩ Z Z ?_
        refine GOps.nil ?_
        exact ⟨rfl, rfl, keepG, by first | exact Hs.refl _ | exact Hs.tl _, vbs (by unfold headR; cases ha : q.ask <;> cases hd : q.dis <;> by_cases hz : 0 < q.vars.length <;> simp_all <;> (try rw [← List.length_eq_zero_iff]) <;> omega)⟩
    ·try simp only [dcQ] at hg4
     refine GOps.skip Z Z Z ?_
     refine GOps.skip Z Z Z ?_
     refine GOps.skip Z Z Z ?_
     refine GOps.skip Z Z Z ?_
     refine GOps.skip Z Z Z ?_
     refine GOps.skip Z Z Z ?_
     refine GOps.skip Z Z Z ?_
     refine GOps.skip Z Z Z ?_
     refine R.pick_f ⟨Z,Z,Z,Z⟩ Z Z ?_
     refine R.move ⟨Z,Z,Z,Z⟩ Z ?_
     refine R.fieldAddr ⟨Z,Z,Z,Z⟩ Z Tryz.underlying81 Z Tryz.sizeOf4 ?_
     refine R.load1 ⟨Z,Z,Z,Z⟩ Z Tryz.underlying4 Z (.own (v := .bool q.ask) memH Z) ?_
     refine R.not ⟨Z,Z,Z,Z⟩ Z ?_
     refine R.move ⟨Z,Z,Z,Z⟩ Z ?_
     refine GOps.caseB 41 Z (fun hg8 => ?_) (fun hg8 => ?_)
     ·try simp only [dcQ] at hg8
      refine R.fieldAddr ⟨Z,Z,Z,Z⟩ Z Tryz.underlying81 Z Tryz.sizeOf61 ?_
      refine R.load1 ⟨Z,Z,Z,Z⟩ Z Tryz.underlying61 Z (.own memH Z) ?_
      refine R.lenS ⟨Z,Z,Z,Z⟩ Z Z Tryz.underlying61 ?_
      refine R.eqI ⟨Z,Z,Z,Z⟩ Z Z ?_
      refine R.pick_t ⟨Z,Z,Z,Z⟩ Z Z ?_
      refine R.pick_f ⟨Z,Z,Z,Z⟩ Z Z ?_
      refine GOps.nil ?_
      exact ⟨rfl, rfl, keepG, by first | exact Hs.refl _ | exact Hs.tl _, vbs (by unfold headR; cases ha : q.ask <;> cases hd : q.dis <;> by_cases hz : 0 < q.vars.length <;> simp_all <;> (try rw [← List.length_eq_zero_iff]) <;> omega)⟩
     ·try simp only [dcQ] at hg8
      refine GOps.skip Z Z Z ?_
      refine GOps.skip Z Z Z ?_
      refine GOps.skip Z Z Z ?_
      refine GOps.skip Z Z Z ?_
      refine R.pick_f ⟨Z,Z,Z,Z⟩ Z Z ?_
      refine R.pick_f ⟨Z,Z,Z,Z⟩ Z Z ?_
      refine GOps.nil ?_
      exact ⟨rfl, rfl, keepG, by first | exact Hs.refl _ | exact Hs.tl _, vbs (by unfold headR; cases ha : q.ask <;> cases hd : q.dis <;> by_cases hz : 0 < q.vars.length <;> simp_all <;> (try rw [← List.length_eq_zero_iff]) <;> omega)⟩
   ·refine GW.ite Z (fun hc9 => ?_) (fun hc9 => ?_)
    ·try simp only [dcQ] at hc9
     replace hc9 : headR q = false := by simpa using hc9
     have hmq := mayQ_1 (headQ_no2 hc9)
     refine GW.seq ?_
     refine GW.region ?_
     refine R.assign ⟨Z,Z,Z,Z⟩ Z ?_
     refine GOps.nil ?_
     exact GW.ret (Out.of (Res.one rfl rfl) (by exact Hs.sub subG) ⟨by rw [hmq], rfl⟩)
    ·try simp only [dcQ] at hc9
     replace hc9 : headR q = true := by simpa using hc9
     have hH := headQ_of hc3 hc9
     refine GW.skip ?_
     refine GW.seq ?_
     refine GW.region ?_
     refine R.assign ⟨Z,Z,Z,Z⟩ Z ?_
     refine GOps.nil ?_
     refine GW.seq ?_
     refine GW.seq ?_
     refine GW.region ?_
     refine R.assign ⟨Z,Z,Z,Z⟩ Z ?_
     refine GOps.nil ?_
     refine GW.block ?_
     refine GW.loop4 (fun (i : Nat) (h : Value × Hp) (u1 : Unit) (u2 : Unit) => [(1, .pointer (some ⟨b1, 0, none⟩)), (3, h.1), (4, .int .i64 i)]) (fun (i : Nat) (h : Value × Hp) (u1 : Unit) (u2 : Unit) => h.2 ++ ((b1, .exact (.cells (Value.agg (QrC q (.slice vA q.vars.length vc) (.slice bA q.body.length bc)).toArray).cells 81 (0, 0))) :: G)) (fun i : Nat => q.body.length - i) (fun (i : Nat) (h : Value × Hp) (u1 : Unit) (u2 : Unit) => i ≤ q.body.length ∧ (q.body.take i).all partQ = true ∧ SlAt 21 89 (ltsC (fT isMt q.body i)) (fT isMt q.body i).length h.1 h.2) 0 ((.slice none 0 0, [])) (()) (())
      (keepG) (Hs.refl _) (⟨Nat.zero_le _, by simp, .nil rfl rfl⟩) ?_
     rintro i h u1 u2 ⟨hi, h0, hO⟩
     obtain ⟨vo, Ho⟩ := h
     simp only at hO
     have hfl := fT_le isMt q.body i
     refine GW.seq ?_
     refine GW.seq ?_
     refine GW.region ?_
     refine R.move ⟨Z,Z,Z,Z⟩ Z ?_
     refine R.fieldAddr ⟨Z,Z,Z,Z⟩ Z Tryz.underlying81 Z Tryz.sizeOf29 ?_
     refine R.load1 ⟨Z,Z,Z,Z⟩ Z Tryz.underlying29 Z (.own memH Z) ?_
     refine R.lenS ⟨Z,Z,Z,Z⟩ Z Z Tryz.underlying29 ?_
     refine R.lss ⟨Z,Z,Z,Z⟩ Z Z ?_
     refine GOps.nil ?_
     refine GW.ite Z (fun hc10 => ?_) (fun hc10 => ?_)
     ·try simp only [dcQ] at hc10
      obtain ⟨x, hx⟩ : ∃ x, q.body[i]? = some x := ⟨_, List.getElem?_eq_getElem (by omega)⟩
      obtain ⟨xb, xo, cs0, rfl, rfl, hrd⟩ := hl i x hx
      have hxo := hok.2 x (List.mem_of_getElem? hx)
      refine GW.skip ?_
      refine GW.seq ?_
      refine GW.block ?_
      refine GW.seq ?_
      refine GW.seq ?_
      refine GW.region ?_
      refine R.fieldAddr ⟨Z,Z,Z,Z⟩ Z Tryz.underlying81 Z Tryz.sizeOf29 ?_
      refine R.load1 ⟨Z,Z,Z,Z⟩ Z Tryz.underlying29 Z (.own memH Z) ?_
      refine R.move ⟨Z,Z,Z,Z⟩ Z ?_
      refine R.indexAddrS ⟨Z,Z,Z,Z⟩ Z Z Tryz.underlying29 Tryz.sizeOf89 (by omega) (by omega) ?_
      refine R.fieldAddr ⟨Z,Z,Z,Z⟩ Z Tryz.underlying89 Z Tryz.sizeOf87 ?_
      refine R.load1 ⟨Z,Z,Z,Z⟩ Z Tryz.underlying87 Z ((hrd 0 _ Z).mono (fun y hy => by repeat (first | exact List.mem_append_left _ hy | exact hy | apply List.mem_cons_of_mem | apply List.mem_append_right))) ?_
      refine R.eqI ⟨Z,Z,Z,Z⟩ Z Z ?_
      refine R.move ⟨Z,Z,Z,Z⟩ Z ?_
      refine GOps.caseB 62 Z (fun hg11 => ?_) (fun hg11 => ?_)
      ·try simp only [dcQ] at hg11
       have hmq := mayQ_2 hx (part_no2 hg11)
       refine GOps.skip Z Z Z ?_
       refine GOps.skip Z Z Z ?_
       refine GOps.skip Z Z Z ?_
       refine GOps.skip Z Z Z ?_
       refine GOps.skip Z Z Z ?_
       refine GOps.skip Z Z Z ?_
       refine GOps.skip Z Z Z ?_
       refine R.pick_t ⟨Z,Z,Z,Z⟩ Z Z ?_
       refine GOps.nil ?_
       refine GW.cond_t Z ?_
       refine GW.seq ?_
       refine GW.region ?_
       refine R.assign ⟨Z,Z,Z,Z⟩ Z ?_
       refine GOps.nil ?_
       exact GW.ret (Out.of (Res.one rfl rfl) (by exact Hs.sub subG) ⟨by rw [hmq], rfl⟩)
      ·try simp only [dcQ] at hg11
       refine R.fieldAddr ⟨Z,Z,Z,Z⟩ Z Tryz.underlying81 Z Tryz.sizeOf29 ?_
       refine R.load1 ⟨Z,Z,Z,Z⟩ Z Tryz.underlying29 Z (.own memH Z) ?_
       refine R.move ⟨Z,Z,Z,Z⟩ Z ?_
       refine R.indexAddrS ⟨Z,Z,Z,Z⟩ Z Z Tryz.underlying29 Tryz.sizeOf89 (by omega) (by omega) ?_
       refine R.loadA ⟨Z,Z,Z,Z⟩ Z Tryz.underlying89 Z Tryz.sizeOf89 (hrd.mono (fun y hy => by repeat (first | exact List.mem_append_left _ hy | exact hy | apply List.mem_cons_of_mem | apply List.mem_append_right))) (by rfl) ?_
       refine R.call ⟨Z,Z,Z,Z⟩ Z (vs := [_]) Z ((ref_MayPart _ _ x hxo).mono ?_)
       rintro _ _ ⟨rfl, rfl⟩
       refine R.not ⟨Z,Z,Z,Z⟩ Z ?_
       refine R.pick_f ⟨Z,Z,Z,Z⟩ Z Z ?_
       refine GOps.nil ?_
       refine GW.ite Z (fun hc12 => ?_) (fun hc12 => ?_)
       ·try simp only [dcQ] at hc12
        have hmq := mayQ_2 hx (by unfold partQ; rw [show mayLt x = false from hc12]; rfl)
        refine GW.seq ?_
        refine GW.region ?_
        refine R.assign ⟨Z,Z,Z,Z⟩ Z ?_
        refine GOps.nil ?_
        exact GW.ret (Out.of (Res.one rfl rfl) (by exact Hs.sub subG) ⟨by rw [hmq], rfl⟩)
       ·try simp only [dcQ] at hc12
        have hpy : partQ x = true := by unfold partQ; rw [show mayLt x = true from hc12]; simp; omega
        refine GW.skip ?_
        refine GW.seq ?_
        refine GW.region ?_
        refine R.fieldAddr ⟨Z,Z,Z,Z⟩ Z Tryz.underlying81 Z Tryz.sizeOf29 ?_
        refine R.load1 ⟨Z,Z,Z,Z⟩ Z Tryz.underlying29 Z (.own memH Z) ?_
        refine R.move ⟨Z,Z,Z,Z⟩ Z ?_
        refine R.indexAddrS ⟨Z,Z,Z,Z⟩ Z Z Tryz.underlying29 Tryz.sizeOf89 (by omega) (by omega) ?_
        refine R.fieldAddr ⟨Z,Z,Z,Z⟩ Z Tryz.underlying89 Z Tryz.sizeOf87 ?_
        refine R.load1 ⟨Z,Z,Z,Z⟩ Z Tryz.underlying87 Z ((hrd 0 _ Z).mono (fun y hy => by repeat (first | exact List.mem_append_left _ hy | exact hy | apply List.mem_cons_of_mem | apply List.mem_append_right))) ?_
        refine R.eqI ⟨Z,Z,Z,Z⟩ Z Z ?_
        refine GOps.nil ?_
        refine GW.ite Z (fun hc13 => ?_) (fun hc13 => ?_)
        ·try simp only [dcQ] at hc13
         have hmt : isMt x = true := by simp [isMt]; omega
         refine GW.region ?_
         refine R.move ⟨Z,Z,Z,Z⟩ Z ?_
         refine R.fieldAddr ⟨Z,Z,Z,Z⟩ Z Tryz.underlying81 Z Tryz.sizeOf29 ?_
         refine R.load1 ⟨Z,Z,Z,Z⟩ Z Tryz.underlying29 Z (.own memH Z) ?_
         refine R.move ⟨Z,Z,Z,Z⟩ Z ?_
         refine R.indexAddrS ⟨Z,Z,Z,Z⟩ Z Z Tryz.underlying29 Tryz.sizeOf89 (by omega) (by omega) ?_
         refine R.loadA ⟨Z,Z,Z,Z⟩ Z Tryz.underlying89 Z Tryz.sizeOf89 (hrd.mono (fun y hy => by repeat (first | exact List.mem_append_left _ hy | exact hy | apply List.mem_cons_of_mem | apply List.mem_append_right))) (by rfl) ?_
         refine R.buildSliceF (sz := 21) (bytes := 288) (vs := [_]) (cs := LtC x) ⟨Z,Z,Z,Z⟩ Z Tryz.underlying29 (InfoE.mk (by kernel_rfl)) Z Z Z Z Z fun b84 => ?_
         refine R.append (sz := 21) (bytes := 288) (G1 := [_]) (H := Ho) (news := LtC x) ⟨Z,Z,Z,Z⟩ Z Z Z Tryz.underlying29 (InfoE.mk (by kernel_rfl)) (hO) (Z) (Z) (.own memH 0 _ (fun j v hv => by simpa using hv)) (by omega) (by rfl) (by omega) (by omega) fun v85 H85 hv85 => ?_
         obtain ⟨A85, c85, rfl, hc85⟩ := hv85.split
         refine R.assign ⟨Z,Z,Z,Z⟩ Z ?_
         refine GOps.nil ?_
         refine GW.region ?_
         refine R.move ⟨Z,Z,Z,Z⟩ Z ?_
         refine R.add (r := (((i + 1) : Nat) : Int)) ⟨Z,Z,Z,Z⟩ Z Z (by rw [wrap64_id (by omega) (by omega)]; omega) ?_
         refine R.assign ⟨Z,Z,Z,Z⟩ Z ?_
         refine GOps.nil ?_
         first | exact ⟨i + 1, (.slice A85 _ c85, H85), (), (), by omega, ⟨by omega, all_take_succ partQ q.body i x hx h0 hpy, by rw [fT_yes hx hmt]; exact lts_snoc hv85⟩, rfl, keepG, Hs.tl _⟩ | exact ⟨i + 1, (vo, Ho), (), (), by omega, ⟨by omega, all_take_succ partQ q.body i x hx h0 hpy, by rw [fT_no hx hmt]; exact hO⟩, rfl, keepG, Hs.refl _⟩
        ·try simp only [dcQ] at hc13
         have hmt : isMt x = false := by simp [isMt]; omega
         refine GW.skip ?_
         refine GW.region ?_
         refine R.move ⟨Z,Z,Z,Z⟩ Z ?_
         refine R.add (r := (((i + 1) : Nat) : Int)) ⟨Z,Z,Z,Z⟩ Z Z (by rw [wrap64_id (by omega) (by omega)]; omega) ?_
         refine R.assign ⟨Z,Z,Z,Z⟩ Z ?_
         refine GOps.nil ?_
         first | exact ⟨i + 1, (.slice A85 _ c85, H85), (), (), by omega, ⟨by omega, all_take_succ partQ q.body i x hx h0 hpy, by rw [fT_yes hx hmt]; exact lts_snoc hv85⟩, rfl, keepG, Hs.tl _⟩ | exact ⟨i + 1, (vo, Ho), (), (), by omega, ⟨by omega, all_take_succ partQ q.body i x hx h0 hpy, by rw [fT_no hx hmt]; exact hO⟩, rfl, keepG, Hs.refl _⟩
     ·try simp only [dcQ] at hc10
      rw [List.take_of_length_le (by omega)] at h0
      rw [fT_all (by omega)] at hO
      obtain ⟨Am, cm, rfl, hms, hcm⟩ := hO.lts w0
      refine GW.exit ?_
      refine GW.seq ?_
      refine GW.draw ((b1, .exact (.cells (Value.agg (QrC q (.slice vA q.vars.length vc) (.slice bA q.body.length bc)).toArray).cells 81 (0, 0))) :: G) 7 Z (by kernel_rfl) ?_
      refine GA.w 0 Z (V.move ⟨Z,Z,Z,Z⟩ Z) Z ?_
      refine GA.w 2 Z (V.fieldAddr ⟨Z,Z,Z,Z⟩ Z Tryz.underlying81 Z Tryz.sizeOf29) Z ?_
      refine GA.val 3 Z (V.load1 ⟨Z,Z,Z,Z⟩ Z Tryz.underlying29 Z (.own memH Z)) Z (by kernel_rfl) (by kernel_rfl) (by kernel_rfl) ?_
      refine GA.one 1 hsD (by kernel_rfl) Z ?_
      refine R.call ⟨Z,Z,Z,Z⟩ Z (vs := [_]) Z ((ref06_Vars _ _ Am (q.body.filter isMt) cm (LtsAt.mono' hms (fun y hy => by repeat (first | exact List.mem_append_left _ hy | exact hy | apply List.mem_cons_of_mem | apply List.mem_append_right))) (by have := List.length_filter_le isMt q.body; omega)).mono ?_)
      rintro v87 _ ⟨H87, h87, rfl⟩
      obtain ⟨Ab, cb, rfl, hbs⟩ := h87.strs w0 []
      rw [List.append_nil] at hbs
      have hdb := dd_len (bS (q.body.filter isMt) (q.body.filter isMt).length)
      have hbb := bS_len (q.body.filter isMt) (q.body.filter isMt).length
      have hfb := List.length_filter_le isMt q.body
      refine GOps.nil ?_
      refine GA.one 4 hsD (by kernel_rfl) Z ?_
      refine R.call ⟨Z,Z,Z,Z⟩ Z (vs := [_]) Z ((ref06_Vars _ _ bA q.body bc (hl.mono (fun y hy => by repeat (first | exact hy | apply List.mem_cons_of_mem | apply List.mem_append_right))) hbm).mono ?_)
      rintro v90 _ ⟨H90, h90, rfl⟩
      obtain ⟨Av, cv, rfl, hvs⟩ := h90.strs w0 []
      rw [List.append_nil] at hvs
      have hdl := dd_len (bS q.body q.body.length)
      have hbl := bS_len q.body q.body.length
      refine GOps.nil ?_
      refine GA.w 5 Z (V.assign ⟨Z,Z,Z,Z⟩ Z) Z ?_
      refine GA.w 6 Z (V.assign ⟨Z,Z,Z,Z⟩ Z) Z ?_
      refine GA.done hsD (by kernel_rfl) ?_
      refine GW.seq ?_
      refine GW.seq ?_
      refine GW.region ?_
      refine R.assign ⟨Z,Z,Z,Z⟩ Z ?_
      refine GOps.nil ?_
      refine GW.block ?_
      refine GW.loopI (fun i : Nat => [(1, .pointer (some ⟨b1, 0, none⟩)), (5, .slice Ab (dd (bS (q.body.filter isMt) (q.body.filter isMt).length)).length cb), (6, .slice Av (dd (bS q.body q.body.length)).length cv), (7, .int .i64 i)]) (fun i => H90 ++ (H87 ++ (Ho ++ ((b1, .exact (.cells (Value.agg (QrC q (.slice vA q.vars.length vc) (.slice bA q.body.length bc)).toArray).cells 81 (0, 0))) :: G)))) (fun i => (dd (bS q.body q.body.length)).length - i) (fun i => i ≤ (dd (bS q.body q.body.length)).length ∧ ((dd (bS q.body q.body.length)).take i).all (memT q.body q.body.length) = true) 0
       (keepG) (Hs.refl _) (⟨Nat.zero_le _, by simp⟩) ?_
      rintro i ⟨hi, h2⟩
      refine GW.seq ?_
      refine GW.seq ?_
      refine GW.region ?_
      refine R.move ⟨Z,Z,Z,Z⟩ Z ?_
      refine R.move ⟨Z,Z,Z,Z⟩ Z ?_
      refine R.lenS ⟨Z,Z,Z,Z⟩ Z Z Tryz.underlying61 ?_
      refine R.lss ⟨Z,Z,Z,Z⟩ Z Z ?_
      refine GOps.nil ?_
      refine GW.ite Z (fun hc14 => ?_) (fun hc14 => ?_)
      ·try simp only [dcQ] at hc14
       obtain ⟨y, hy⟩ : ∃ y, (dd (bS q.body q.body.length))[i]? = some y := ⟨_, List.getElem?_eq_getElem (by omega)⟩
       obtain ⟨yb, yo, rfl, hyr⟩ := str_load hvs hy
       refine GW.skip ?_
       refine GW.seq ?_
       refine GW.block ?_
       refine GW.seq ?_
       refine GW.region ?_
       refine R.move ⟨Z,Z,Z,Z⟩ Z ?_
       refine R.move ⟨Z,Z,Z,Z⟩ Z ?_
       refine R.move ⟨Z,Z,Z,Z⟩ Z ?_
       refine R.indexAddrS ⟨Z,Z,Z,Z⟩ Z Z Tryz.underlying61 Tryz.sizeOf9 (by omega) (by omega) ?_
       refine R.load1 ⟨Z,Z,Z,Z⟩ Z Tryz.underlying9 Z (hyr.mono (fun y hy => by repeat (first | exact List.mem_append_left _ hy | exact hy | apply List.mem_cons_of_mem | apply List.mem_append_right))) ?_
       refine R.call ⟨Z,Z,Z,Z⟩ Z (vs := [_, _]) Z ((ref07_in _ _ Ab (dd (bS (q.body.filter isMt) (q.body.filter isMt).length)) cb y (hbs.mono (fun y hy => by repeat (first | exact List.mem_append_left _ hy | exact hy | apply List.mem_cons_of_mem | apply List.mem_append_right))) (by omega)).mono ?_)
       rintro _ _ ⟨rfl, rfl⟩
       refine R.not ⟨Z,Z,Z,Z⟩ Z ?_
       refine GOps.nil ?_
       refine GW.ite Z (fun hc15 => ?_) (fun hc15 => ?_)
       ·try simp only [dcQ] at hc15
        have hmq := mayQ_3 hy (by rw [← bound_mem]; exact hc15)
        refine GW.seq ?_
        refine GW.region ?_
        refine R.assign ⟨Z,Z,Z,Z⟩ Z ?_
        refine GOps.nil ?_
        exact GW.ret (Out.of (Res.one rfl rfl) (by exact Hs.sub subG) ⟨by rw [hmq], rfl⟩)
       ·try simp only [dcQ] at hc15
        refine GW.skip ?_
        refine GW.region ?_
        refine R.move ⟨Z,Z,Z,Z⟩ Z ?_
        refine R.add (r := (((i + 1) : Nat) : Int)) ⟨Z,Z,Z,Z⟩ Z Z (by rw [wrap64_id (by omega) (by omega)]; omega) ?_
        refine R.assign ⟨Z,Z,Z,Z⟩ Z ?_
        refine GOps.nil ?_
        exact ⟨i + 1, by omega, ⟨by omega, all_take_succ (memT q.body q.body.length) (dd (bS q.body q.body.length)) i y hy h2 (by rw [← bound_mem]; assumption)⟩, rfl, keepG, by first | exact Hs.refl _ | exact Hs.tl _ | exact Hs.tl2 _ _⟩
      ·try simp only [dcQ] at hc14
       rw [List.take_of_length_le (by omega)] at h2
       refine GW.exit ?_
       refine GW.seq ?_
       refine GW.seq ?_
       refine GW.region ?_
       refine R.assign ⟨Z,Z,Z,Z⟩ Z ?_
       refine GOps.nil ?_
       refine GW.block ?_
       refine GW.loopI (fun i : Nat => [(1, .pointer (some ⟨b1, 0, none⟩)), (5, .slice Ab (dd (bS (q.body.filter isMt) (q.body.filter isMt).length)).length cb), (8, .int .i64 i)]) (fun i => H90 ++ (H87 ++ (Ho ++ ((b1, .exact (.cells (Value.agg (QrC q (.slice vA q.vars.length vc) (.slice bA q.body.length bc)).toArray).cells 81 (0, 0))) :: G)))) (fun i => q.vars.length - i) (fun i => i ≤ q.vars.length ∧ okV (memT q.body q.body.length) [] (q.vars.take i) = true) 0
        (keepG) (Hs.refl _) (⟨Nat.zero_le _, by simp [okV]⟩) ?_
       rintro i ⟨hi, h3⟩
       refine GW.seq ?_
       refine GW.seq ?_
       refine GW.region ?_
       refine R.move ⟨Z,Z,Z,Z⟩ Z ?_
       refine R.fieldAddr ⟨Z,Z,Z,Z⟩ Z Tryz.underlying81 Z Tryz.sizeOf61 ?_
       refine R.load1 ⟨Z,Z,Z,Z⟩ Z Tryz.underlying61 Z (.own memH Z) ?_
       refine R.lenS ⟨Z,Z,Z,Z⟩ Z Z Tryz.underlying61 ?_
       refine R.lss ⟨Z,Z,Z,Z⟩ Z Z ?_
       refine GOps.nil ?_
       refine GW.ite Z (fun hc16 => ?_) (fun hc16 => ?_)
       ·try simp only [dcQ] at hc16
        obtain ⟨y, hy⟩ : ∃ y, q.vars[i]? = some y := ⟨_, List.getElem?_eq_getElem (by omega)⟩
        obtain ⟨yb, yo, rfl, hyr⟩ := str_load hv hy
        refine GW.skip ?_
        refine GW.seq ?_
        refine GW.block ?_
        refine GW.seq ?_
        refine GW.draw (H90 ++ (H87 ++ (Ho ++ ((b1, .exact (.cells (Value.agg (QrC q (.slice (some ⟨yb, yo, none⟩) q.vars.length vc) (.slice bA q.body.length bc)).toArray).cells 81 (0, 0))) :: G)))) 20 Z (by kernel_rfl) ?_
        refine GA.w 0 Z (V.move ⟨Z,Z,Z,Z⟩ Z) Z ?_
        refine GA.w 1 Z (V.fieldAddr ⟨Z,Z,Z,Z⟩ Z Tryz.underlying81 Z Tryz.sizeOf61) Z ?_
        refine GA.val 2 Z (V.load1 ⟨Z,Z,Z,Z⟩ Z Tryz.underlying61 Z (.own memH Z)) Z (by kernel_rfl) (by kernel_rfl) (by kernel_rfl) ?_
        refine GA.w 3 Z (V.move ⟨Z,Z,Z,Z⟩ Z) Z ?_
        refine GA.val 4 Z (V.indexAddrS ⟨Z,Z,Z,Z⟩ Z Z Tryz.underlying61 Tryz.sizeOf9 (by omega) (by omega)) Z (by kernel_rfl) (by kernel_rfl) (by kernel_rfl) ?_
        refine GA.val 5 Z (V.load1 ⟨Z,Z,Z,Z⟩ Z Tryz.underlying9 Z (hyr.mono (fun y hy => by repeat (first | exact List.mem_append_left _ hy | exact hy | apply List.mem_cons_of_mem | apply List.mem_append_right)))) Z (by kernel_rfl) (by kernel_rfl) (by kernel_rfl) ?_
        refine GA.one 6 hsD (by kernel_rfl) Z ?_
        refine R.call ⟨Z,Z,Z,Z⟩ Z (vs := [_, _]) Z ((ref07_in _ _ Ab (dd (bS (q.body.filter isMt) (q.body.filter isMt).length)) cb y (hbs.mono (fun y hy => by repeat (first | exact List.mem_append_left _ hy | exact hy | apply List.mem_cons_of_mem | apply List.mem_append_right))) (by omega)).mono ?_)
        rintro _ _ ⟨rfl, rfl⟩
        refine GOps.nil ?_
        refine GA.w 7 Z (V.not ⟨Z,Z,Z,Z⟩ Z) Z ?_
        refine GA.w 8 Z (V.move ⟨Z,Z,Z,Z⟩ Z) Z ?_
        refine GA.caseB 119 Z (fun hg17 => ?_) (fun hg17 => ?_)
        ·try simp only [dcQ] at hg17
         have hmq := mayQ_4 hy (by rw [← bound_mem, show inB (dd (bS (q.body.filter isMt) (q.body.filter isMt).length)) y = false from hg17]; rfl)
         refine GA.sk 9 Z Z Z Z Z ?_
         refine GA.sk 10 Z Z Z Z Z ?_
         refine GA.sk 11 Z Z Z Z Z ?_
         refine GA.sk 12 Z Z Z Z Z ?_
         refine GA.sk 13 Z Z Z Z Z ?_
         refine GA.sk 14 Z Z Z Z Z ?_
         refine GA.sk 15 Z Z Z Z Z ?_
         refine GA.sk 16 Z Z Z Z Z ?_
         refine GA.sk 17 Z Z Z Z Z ?_
         refine GA.sk 18 Z Z Z Z Z ?_
         refine GA.w 19 Z (V.pick_t ⟨Z,Z,Z,Z⟩ Z Z) Z ?_
         refine GA.done hsD (by kernel_rfl) ?_
         refine GW.cond_t Z ?_
         refine GW.seq ?_
         refine GW.region ?_
         refine R.assign ⟨Z,Z,Z,Z⟩ Z ?_
         refine GOps.nil ?_
         exact GW.ret (Out.of (Res.one rfl rfl) (by exact Hs.sub subG) ⟨by rw [hmq], rfl⟩)
        ·try simp only [dcQ] at hg17
         have hbt : inB (dd (bS (q.body.filter isMt) (q.body.filter isMt).length)) y = true := hg17
         refine GA.w 9 Z (V.fieldAddr ⟨Z,Z,Z,Z⟩ Z Tryz.underlying81 Z Tryz.sizeOf61) Z ?_
         refine GA.val 10 Z (V.load1 ⟨Z,Z,Z,Z⟩ Z Tryz.underlying61 Z (.own memH Z)) Z (by kernel_rfl) (by kernel_rfl) (by kernel_rfl) ?_
         refine GA.w 11 Z (V.move ⟨Z,Z,Z,Z⟩ Z) Z ?_
         refine GA.w 12 Z (V.sliceSH (m := (q.vars.take i).length) ⟨Z,Z,Z,Z⟩ Z Z Tryz.underlying61 Tryz.sizeOf9 (fun a h => by cases h; rfl) (by omega) (by omega) (by rw [List.length_take]; omega)) Z ?_
         refine GA.w 13 Z (V.fieldAddr ⟨Z,Z,Z,Z⟩ Z Tryz.underlying81 Z Tryz.sizeOf61) Z ?_
         refine GA.val 14 Z (V.load1 ⟨Z,Z,Z,Z⟩ Z Tryz.underlying61 Z (.own memH Z)) Z (by kernel_rfl) (by kernel_rfl) (by kernel_rfl) ?_
         refine GA.w 15 Z (V.move ⟨Z,Z,Z,Z⟩ Z) Z ?_
         refine GA.val 16 Z (V.indexAddrS ⟨Z,Z,Z,Z⟩ Z Z Tryz.underlying61 Tryz.sizeOf9 (by omega) (by omega)) Z (by kernel_rfl) (by kernel_rfl) (by kernel_rfl) ?_
         refine GA.val 17 Z (V.load1 ⟨Z,Z,Z,Z⟩ Z Tryz.underlying9 Z (hyr.mono (fun y hy => by repeat (first | exact List.mem_append_left _ hy | exact hy | apply List.mem_cons_of_mem | apply List.mem_append_right)))) Z (by kernel_rfl) (by kernel_rfl) (by kernel_rfl) ?_
         refine GA.one 18 hsD (by kernel_rfl) Z ?_
         refine R.call ⟨Z,Z,Z,Z⟩ Z (vs := [_, _]) Z ((ref07_in _ _ _ (q.vars.take i) vc y ((StAt_take hv i).mono (fun y hy => by repeat (first | exact hy | apply List.mem_cons_of_mem | apply List.mem_append_right))) (by rw [List.length_take]; omega)).mono ?_)
         rintro _ _ ⟨rfl, rfl⟩
         refine GOps.nil ?_
         refine GA.w 19 Z (V.pick_f ⟨Z,Z,Z,Z⟩ Z Z) Z ?_
         refine GA.done hsD (by kernel_rfl) ?_
         refine GW.ite Z (fun hc18 => ?_) (fun hc18 => ?_)
         ·try simp only [dcQ] at hc18
          have hmq := mayQ_4 hy (by rw [show inB (q.vars.take i) y = true from hc18]; simp)
          refine GW.seq ?_
          refine GW.region ?_
          refine R.assign ⟨Z,Z,Z,Z⟩ Z ?_
          refine GOps.nil ?_
          exact GW.ret (Out.of (Res.one rfl rfl) (by exact Hs.sub subG) ⟨by rw [hmq], rfl⟩)
         ·try simp only [dcQ] at hc18
          have hn : inB (q.vars.take i) y = false := hc18
          refine GW.skip ?_
          refine GW.region ?_
          refine R.move ⟨Z,Z,Z,Z⟩ Z ?_
          refine R.add (r := (((i + 1) : Nat) : Int)) ⟨Z,Z,Z,Z⟩ Z Z (by rw [wrap64_id (by omega) (by omega)]; omega) ?_
          refine R.assign ⟨Z,Z,Z,Z⟩ Z ?_
          refine GOps.nil ?_
          exact ⟨i + 1, by omega, ⟨by omega, by rw [okV_take hy, h3, ← bound_mem, hbt, hn]; rfl⟩, rfl, keepG, by first | exact Hs.refl _ | exact Hs.tl _ | exact Hs.tl2 _ _⟩
       ·try simp only [dcQ] at hc16
        rw [List.take_of_length_le (by omega)] at h3
        have hmq := mayQ_5 hH h0 h2 h3
        refine GW.exit ?_
        refine GW.seq ?_
        refine GW.region ?_
        refine R.assign ⟨Z,Z,Z,Z⟩ Z ?_
        refine GOps.nil ?_
        exact GW.ret (Out.of (Res.one rfl rfl) (by exact Hs.sub subG) ⟨by rw [hmq], rfl⟩)
end Go.Proofs.YtfddkcmooommeaaGreatDoor.Gl
end
section
namespace Go.Proofs.YtfddkcmooommeaaGreatDoor.Gl
open Go.RowKit Go.Shelf
set_option linter.unusedVariables false
set_option linter.unnecessarySimpa false
set_option linter.unusedSimpArgs false
attribute [-simp] List.getD_eq_getElem?_getD
theorem run_buildSlice0 {P : Program} (w : World) {t e : TypeId} {ie : TypeInfo} (hu : P.underlying t = some (.slice e)) (hie : P.info? e = some ie) : (Instr.buildSlice t 0 #[]).run P w = .ok (.slice (some ⟨w.heap.size, 0, none⟩) 0 0) (w.alloc (.cells #[] e)) := by
 simp [Instr.buildSlice, run_underlying hu, sizeOf, typeInfo, hie, newRow, Instr.fill]
 rw [show (Array.map (fun x => (default : Value)) (Array.range 0)) = #[] from Array.eq_empty_of_size_eq_zero (by simp)]
section
variable {X : Cx} {Q : Post} {fr : Fr} {ds : List Deferred} {G : Hp} {ops : Array Oper} {o : Oper} {rest : List Oper} {d : Nat}
theorem R.buildSlice0 {t e : TypeId} {sz bytes : Nat} (h : At X ops fr o (.buildSlice t 0 #[]) d) (hu : X.P.underlying t = some (.slice e)) (hi : InfoE X.P e sz bytes)
  (K : ∀ b, GOps X ops Q rest ((d, .slice (some ⟨b, 0, none⟩) 0 0) :: fr) ds ((b, .exact (.cells #[] e)) :: G)) : GOps X ops Q (o :: rest) fr ds G := by
 obtain ⟨i, z, hi1, hz, hzs, hs1, hb1⟩ := hi.ex
 exact R.buildSlice (vs := []) h rfl (fun w => run_buildSlice0 w hu hi1) K
end
theorem slots_load {w0 : World} {G : Hp} {b o i : Nat} {ls : List Sl} {y : Sl} (h : Rds w0 G b o (ls.flatMap SlC)) (hy : ls[i]? = some y) : Rds w0 G b (o + i * 4) (SlC y) := fun j v hv => by
 have := h (i * 4 + j) v (fl_get sl_len ls i y hy j v hv)
 rwa [← Nat.add_assoc] at this
theorem Hs.sO2 (x x' y : Nat × Know) (H G : Hp) : Hs (x :: x' :: y :: (H ++ G)) (y :: (H ++ (x :: x' :: G))) := Hs.perm (by
 have h1 : (y :: (H ++ (x :: x' :: G))).Perm (x :: (y :: (H ++ (x' :: G)))) := by
  have := @List.perm_middle _ x (y :: H) (x' :: G)
  simpa only [List.cons_append] using this
 have h2 : (y :: (H ++ (x' :: G))).Perm (x' :: (y :: (H ++ G))) := by
  have := @List.perm_middle _ x' (y :: H) G
  simpa only [List.cons_append] using this
 exact h1.trans (h2.cons x))
theorem Hs.dropX2 (x x' y : Nat × Know) (H G : Hp) : Hs (y :: (H ++ (x :: x' :: G))) (y :: (H ++ G)) := (Hs.dropX x y H (x' :: G)).trans (Hs.dropX x' y H G)
theorem Hs.rowIn {b3 b9 : Nat} {k : Know} {C : Array Value} (hC : C = #[]) (R : Hp) : Hs ((b3, k) :: (b9, .exact (.cells C 9 (0, 0))) :: R) ((b3, k) :: ([(b9, .row [] 9 (0 * 1))] ++ R)) := fun w0 w hw =>
 Sat.weakKnow (G1 := [(b3, k)]) hw (fun x hx => by
  subst hC
  simp only [Know.holds] at hx ⊢
  exact ⟨_, hx, rfl, fun j v hv => by simp at hv⟩)
theorem app_take {q ls : List Sl} {i : Nat} {y : Sl} (h : ls[i]? = some y) : q ++ ls.take (i + 1) = (q ++ ls.take i) ++ [y] := by rw [List.take_add_one, h, List.append_assoc]; rfl
theorem map_take_kV {vs : List ByteArray} {i : Nat} {y : ByteArray} (h : vs[i]? = some y) : (vs.take (i + 1)).map kV = (vs.take i).map kV ++ [kV y] := by rw [List.take_add_one, h, List.map_append]; rfl
theorem bS_app {v : List Sl} {body : List Lt} {i : Nat} {x : Lt} (h : body[i]? = some x) : v ++ bS body (i + 1) = (v ++ bS body i) ++ slotsOf x := by rw [bS_succ h, List.append_assoc]
theorem plan_note (w0 : World) (G : Hp) (q ls : List Sl) (bO : Nat) (vo : Value) (Ho : Hp) (hO : SlAt 1 9 ((dd (q)).map Value.string) (dd (q)).length vo Ho) (lb lo lc : Nat) (hrd : Rds w0 G lb lo (ls.flatMap SlC)) (hm : q.length ≤ 10000000) (hls : ls.length ≤ 100) : GC Tryz.prog w0 75 (#[] ++ #[.slice (some ⟨lb, lo, none⟩) ls.length lc] ++ #[.pointer (some ⟨bO, 0, none⟩)]) (fun v G' => ∃ vo' Ho', (v = .tuple #[] ∧ SlAt 1 9 ((dd (q ++ ls)).map Value.string) (dd (q ++ ls)).length vo' Ho') ∧ (bO, slS vo') :: (Ho' ++ G) = G') ((bO, slS vo) :: (Ho ++ G)) := by
 refine GC.body (args := [.slice (some ⟨lb, lo, none⟩) ls.length lc, .pointer (some ⟨bO, 0, none⟩)]) Tryz.func75 rfl (by kernel_rfl) rfl ?_
 refine GW.seq ?_
 refine GW.region ?_
 refine R.move ⟨Z,Z,Z,Z⟩ Z ?_
 refine R.lenS ⟨Z,Z,Z,Z⟩ Z Z Tryz.underlying106 ?_
 refine R.move ⟨Z,Z,Z,Z⟩ Z ?_
 refine GOps.nil ?_
 refine GW.block ?_
 refine GW.loop4 (fun (i : Nat) (h : Value × Hp) (u1 : Unit) (u2 : Unit) => [(1, .pointer (some ⟨bO, 0, none⟩)), (5, .slice (some ⟨lb, lo, none⟩) ls.length lc), (6, .int .i64 ls.length), (7, .int .i64 i)]) (fun (i : Nat) (h : Value × Hp) (u1 : Unit) (u2 : Unit) => (bO, slS h.1) :: (h.2 ++ G)) (fun i : Nat => ls.length - i) (fun (i : Nat) (h : Value × Hp) (u1 : Unit) (u2 : Unit) => i ≤ ls.length ∧ SlAt 1 9 ((dd (q ++ ls.take i)).map Value.string) (dd (q ++ ls.take i)).length h.1 h.2) 0 ((vo, Ho)) (()) (())
  (keepG) (Hs.refl _) (⟨Nat.zero_le _, by rw [List.take_zero, List.append_nil]; exact hO⟩) ?_
 rintro i h u1 u2 ⟨hi, hO⟩
 obtain ⟨vo, Ho⟩ := h
 simp only at hO
 refine GW.seq ?_
 refine GW.region ?_
 refine R.lss ⟨Z,Z,Z,Z⟩ Z Z ?_
 refine GOps.nil ?_
 refine GW.seq ?_
 refine GW.ite Z (fun hc1 => ?_) (fun hc1 => ?_)
 ·try simp only [dcQ] at hc1
  obtain ⟨y, hy⟩ : ∃ y, ls[i]? = some y := ⟨_, List.getElem?_eq_getElem (by omega)⟩
  obtain ⟨Ao, co, rfl, hSt⟩ := hO.strs w0 []
  rw [List.append_nil] at hSt
  have hdl := dd_len (q ++ ls.take i)
  rw [List.length_append, List.length_take] at hdl
  refine GW.skip ?_
  refine GW.seq ?_
  refine GW.block ?_
  refine GW.seq ?_
  refine GW.region ?_
  refine R.indexAddrS ⟨Z,Z,Z,Z⟩ Z Z Tryz.underlying106 Tryz.sizeOf26 (by omega) (by omega) ?_
  refine R.loadA ⟨Z,Z,Z,Z⟩ Z Tryz.underlying26 Z Tryz.sizeOf26 (slots_load (hrd.mono (fun y hy => by repeat (first | exact hy | apply List.mem_cons_of_mem | apply List.mem_append_right))) hy) (by rfl) ?_
  refine R.alloc ⟨Z,Z,Z,Z⟩ Tryz.zeroValue26 fun b4 => ?_
  refine R.storeAll (G1 := []) Z Z Z Z Z Tryz.sizeOf26 Z Z Z Z ?_
  refine GOps.nil ?_
  refine GW.seq ?_
  refine GW.region ?_
  refine R.fieldAddr ⟨Z,Z,Z,Z⟩ Z Tryz.underlying26 Z Tryz.sizeOf9 ?_
  refine R.load1 ⟨Z,Z,Z,Z⟩ Z Tryz.underlying9 Z (.own (v := .string y.v) memH Z) ?_
  refine R.neS ⟨Z,Z,Z,Z⟩ Z Z ?_
  refine R.move ⟨Z,Z,Z,Z⟩ Z ?_
  refine GOps.caseB 14 Z (fun hg2 => ?_) (fun hg2 => ?_)
  ·try simp only [dcQ] at hg2
   refine R.load1 ⟨Z,Z,Z,Z⟩ Z Tryz.underlying61 Z (.own memH Z) ?_
   refine R.fieldAddr ⟨Z,Z,Z,Z⟩ Z Tryz.underlying26 Z Tryz.sizeOf9 ?_
   refine R.load1 ⟨Z,Z,Z,Z⟩ Z Tryz.underlying9 Z (.own (v := .string y.v) memH Z) ?_
   refine R.call ⟨Z,Z,Z,Z⟩ Z (vs := [_, _]) Z ((sl_Contains _ _ Ao (dd (q ++ ls.take i)) co y.v (hSt.mono (fun y hy => by repeat (first | exact List.mem_append_left _ hy | exact hy | apply List.mem_cons_of_mem | apply List.mem_append_right))) (by omega)).mono ?_)
   rintro _ _ ⟨rfl, rfl⟩
   refine R.not ⟨Z,Z,Z,Z⟩ Z ?_
   refine R.pick_t ⟨Z,Z,Z,Z⟩ Z Z ?_
   refine GOps.nil ?_
   refine GW.ite Z (fun hc3 => ?_) (fun hc3 => ?_)
   ·try simp only [dcQ] at hc3
    refine GW.region ?_
    refine R.load1 ⟨Z,Z,Z,Z⟩ Z Tryz.underlying61 Z (.own memH Z) ?_
    refine R.fieldAddr ⟨Z,Z,Z,Z⟩ Z Tryz.underlying26 Z Tryz.sizeOf9 ?_
    refine R.load1 ⟨Z,Z,Z,Z⟩ Z Tryz.underlying9 Z (.own (v := .string y.v) memH Z) ?_
    refine R.buildSliceF (sz := 1) (bytes := 16) (vs := [_]) (cs := [_]) ⟨Z,Z,Z,Z⟩ Z Tryz.underlying61 (InfoE.mk (by kernel_rfl)) Z Z Z Z Z fun b24 => ?_
    refine R.append (sz := 1) (bytes := 16) (G1 := [_, _, _]) (H := Ho) (news := [.string y.v]) ⟨Z,Z,Z,Z⟩ Z Z Z Tryz.underlying61 (InfoE.mk (by kernel_rfl)) (hO) (Z) (Z) (.own memH 0 _ (fun j v hv => by simpa using hv)) (by omega) (by rfl) (by omega) (by omega) fun v25 H25 hv25 => ?_
    obtain ⟨A25, c25, rfl, hc25⟩ := hv25.split
    refine R.storeAll (G1 := [_, _]) Z Z Z Z Z Tryz.sizeOf61 Z Z Z Z ?_
    refine GOps.nil ?_
    refine GW.region ?_
    refine R.add (r := (((i + 1) : Nat) : Int)) ⟨Z,Z,Z,Z⟩ Z Z (by rw [wrap64_id (by omega) (by omega)]; omega) ?_
    refine R.move ⟨Z,Z,Z,Z⟩ Z ?_
    refine GOps.nil ?_
    first | exact ⟨i + 1, (.slice A25 _ c25, H25), (), (), by omega, ⟨by omega, by rw [app_take hy, dd_snoc, ddStep_yes (by assumption) (by assumption)]; exact hv25.snoc⟩, rfl, keepG, Hs.tl2 _ _⟩ | exact ⟨i + 1, (.slice Ao _ co, Ho), (), (), by omega, ⟨by omega, by rw [app_take hy, dd_snoc, ddStep_no1 (by assumption)]; exact hO⟩, rfl, keepG, Hs.tl _⟩ | exact ⟨i + 1, (.slice Ao _ co, Ho), (), (), by omega, ⟨by omega, by rw [app_take hy, dd_snoc, ddStep_no2 (by assumption)]; exact hO⟩, rfl, keepG, Hs.tl _⟩
   ·try simp only [dcQ] at hc3
    refine GW.skip ?_
    refine GW.region ?_
    refine R.add (r := (((i + 1) : Nat) : Int)) ⟨Z,Z,Z,Z⟩ Z Z (by rw [wrap64_id (by omega) (by omega)]; omega) ?_
    refine R.move ⟨Z,Z,Z,Z⟩ Z ?_
    refine GOps.nil ?_
    first | exact ⟨i + 1, (.slice A25 _ c25, H25), (), (), by omega, ⟨by omega, by rw [app_take hy, dd_snoc, ddStep_yes (by assumption) (by assumption)]; exact hv25.snoc⟩, rfl, keepG, Hs.tl2 _ _⟩ | exact ⟨i + 1, (.slice Ao _ co, Ho), (), (), by omega, ⟨by omega, by rw [app_take hy, dd_snoc, ddStep_no1 (by assumption)]; exact hO⟩, rfl, keepG, Hs.tl _⟩ | exact ⟨i + 1, (.slice Ao _ co, Ho), (), (), by omega, ⟨by omega, by rw [app_take hy, dd_snoc, ddStep_no2 (by assumption)]; exact hO⟩, rfl, keepG, Hs.tl _⟩
  ·try simp only [dcQ] at hg2
   refine GOps.skip Z Z Z ?_
   refine GOps.skip Z Z Z ?_
   refine GOps.skip Z Z Z ?_
   refine GOps.skip Z Z Z ?_
   refine GOps.skip Z Z Z ?_
   refine R.pick_f ⟨Z,Z,Z,Z⟩ Z Z ?_
   refine GOps.nil ?_
   refine GW.cond_f Z ?_
   refine GW.skip ?_
   refine GW.region ?_
   refine R.add (r := (((i + 1) : Nat) : Int)) ⟨Z,Z,Z,Z⟩ Z Z (by rw [wrap64_id (by omega) (by omega)]; omega) ?_
   refine R.move ⟨Z,Z,Z,Z⟩ Z ?_
   refine GOps.nil ?_
   first | exact ⟨i + 1, (.slice A25 _ c25, H25), (), (), by omega, ⟨by omega, by rw [app_take hy, dd_snoc, ddStep_yes (by assumption) (by assumption)]; exact hv25.snoc⟩, rfl, keepG, Hs.tl2 _ _⟩ | exact ⟨i + 1, (.slice Ao _ co, Ho), (), (), by omega, ⟨by omega, by rw [app_take hy, dd_snoc, ddStep_no1 (by assumption)]; exact hO⟩, rfl, keepG, Hs.tl _⟩ | exact ⟨i + 1, (.slice Ao _ co, Ho), (), (), by omega, ⟨by omega, by rw [app_take hy, dd_snoc, ddStep_no2 (by assumption)]; exact hO⟩, rfl, keepG, Hs.tl _⟩
 ·try simp only [dcQ] at hc1
  rw [List.take_of_length_le (by omega)] at hO
  refine GW.exit ?_
  refine Out.end_ (Res.none rfl) (Hs.refl _) ⟨vo, Ho, ⟨rfl, hO⟩, rfl⟩
theorem plan_VarsQ (w0 : World) (G : Hp) (q : Qr) (vA bA : Option Addr) (vc bc : Nat) (hv : StAt w0 G vA q.vars) (hl : LtsAt w0 G bA q.body) (hvm : q.vars.length ≤ 1048576) (hbm : q.body.length ≤ 1048576) (hok : QrOk q) : GC Tryz.prog w0 43 #[.agg (QrC q (.slice vA q.vars.length vc) (.slice bA q.body.length bc)).toArray] (fun v G' => ∃ H, SlAt 1 9 ((dd (q.vars.map kV ++ bS q.body q.body.length)).map Value.string) (dd (q.vars.map kV ++ bS q.body q.body.length)).length v H ∧ H ++ G = G') G := by
 refine GC.body (args := [.agg (QrC q (.slice vA q.vars.length vc) (.slice bA q.body.length bc)).toArray]) Tryz.func43 rfl (by kernel_rfl) rfl ?_
 refine GW.seq ?_
 refine GW.region ?_
 refine R.box ⟨Z,Z,Z,Z⟩ Z fun b1 => ?_
 refine R.assign ⟨Z,Z,Z,Z⟩ Z ?_
 refine GOps.nil ?_
 refine GW.seq ?_
 refine GW.region ?_
 refine R.buildSlice0 (sz := 1) (bytes := 16) ⟨Z,Z,Z,Z⟩ Tryz.underlying61 (InfoE.mk (by kernel_rfl)) fun b9 => ?_
 refine R.alloc ⟨Z,Z,Z,Z⟩ Tryz.zeroValue61 fun b3 => ?_
 refine R.storeAll (G1 := []) Z Z Z Z Z Tryz.sizeOf61 Z Z Z Z ?_
 refine GOps.nil ?_
 refine GW.seq ?_
 refine GW.region ?_
 refine R.makeFunc (vs := []) (us := [_]) ⟨Z,Z,Z,Z⟩ Z Z ?_
 refine R.assign ⟨Z,Z,Z,Z⟩ Z ?_
 refine GOps.nil ?_
 refine GW.seq ?_
 refine GW.seq ?_
 refine GW.region ?_
 refine R.fieldAddr ⟨Z,Z,Z,Z⟩ Z Tryz.underlying81 Z Tryz.sizeOf61 ?_
 refine R.load1 ⟨Z,Z,Z,Z⟩ Z Tryz.underlying61 Z (.own memH Z) ?_
 refine R.lenS ⟨Z,Z,Z,Z⟩ Z Z Tryz.underlying61 ?_
 refine R.move ⟨Z,Z,Z,Z⟩ Z ?_
 refine GOps.nil ?_
 refine GW.block ?_
 refine GW.loop4 (fun (i : Nat) (h : Value × Hp) (u1 : Unit) (u2 : Unit) => [(1, .pointer (some ⟨b1, 0, none⟩)), (3, .pointer (some ⟨b3, 0, none⟩)), (4, .func (.func 75) #[] #[.pointer (some ⟨b3, 0, none⟩)]), (12, .slice vA q.vars.length vc), (13, .int .i64 q.vars.length), (14, .int .i64 i)]) (fun (i : Nat) (h : Value × Hp) (u1 : Unit) (u2 : Unit) => (b3, slS h.1) :: (h.2 ++ ((b1, .exact (.cells (Value.agg (QrC q (.slice vA q.vars.length vc) (.slice bA q.body.length bc)).toArray).cells 81 (0, 0))) :: G))) (fun i : Nat => q.vars.length - i) (fun (i : Nat) (h : Value × Hp) (u1 : Unit) (u2 : Unit) => i ≤ q.vars.length ∧ SlAt 1 9 ((dd ((q.vars.take i).map kV)).map Value.string) (dd ((q.vars.take i).map kV)).length h.1 h.2) 0 ((.slice (some ⟨b9, 0, none⟩) 0 0, [(b9, .row [] 9 (0 * 1))])) (()) (())
  (keepG) (Hs.rowIn rfl _) (⟨Nat.zero_le _, SlAt.row b9 0 rfl (Nat.le_refl 0)⟩) ?_
 rintro i h u1 u2 ⟨hi, hO⟩
 obtain ⟨vo, Ho⟩ := h
 simp only at hO
 refine GW.seq ?_
 refine GW.region ?_
 refine R.lss ⟨Z,Z,Z,Z⟩ Z Z ?_
 refine GOps.nil ?_
 refine GW.seq ?_
 refine GW.ite Z (fun hc1 => ?_) (fun hc1 => ?_)
 ·try simp only [dcQ] at hc1
  obtain ⟨y, hy⟩ : ∃ y, q.vars[i]? = some y := ⟨_, List.getElem?_eq_getElem (by omega)⟩
  obtain ⟨yb, yo, rfl, hyr⟩ := str_load hv hy
  refine GW.skip ?_
  refine GW.seq ?_
  refine GW.block ?_
  refine GW.seq ?_
  refine GW.region ?_
  refine R.indexAddrS ⟨Z,Z,Z,Z⟩ Z Z Tryz.underlying61 Tryz.sizeOf9 (by omega) (by omega) ?_
  refine R.load1 ⟨Z,Z,Z,Z⟩ Z Tryz.underlying9 Z (hyr.mono (fun y hy => by repeat (first | exact List.mem_append_left _ hy | exact hy | apply List.mem_cons_of_mem | apply List.mem_append_right))) ?_
  refine R.assign ⟨Z,Z,Z,Z⟩ Z ?_
  refine GOps.nil ?_
  refine GW.region ?_
  refine R.move ⟨Z,Z,Z,Z⟩ Z ?_
  refine R.move ⟨Z,Z,Z,Z⟩ Z ?_
  refine R.build (vs := [(0, _)]) (cells := (SlC (kV y)).toArray) ⟨Z,Z,Z,Z⟩ Z (fun w => run_build w 26 _ _ (by kernel_rfl)) ?_
  refine R.buildSliceF (sz := 4) (bytes := 56) (vs := [_]) (cs := [kV y].flatMap SlC) ⟨Z,Z,Z,Z⟩ Z Tryz.underlying106 (InfoE.mk (by kernel_rfl)) Z Z Z Z Z fun b21 => ?_
  refine GOps.weak (Keeps.refl _) (Hs.sO _ _ _ _) ?_
  refine R.call ⟨Z,Z,Z,Z⟩ Z (vs := [_]) Z ((plan_note _ _ ((q.vars.take i).map kV) ([kV y]) b3 vo Ho hO b21 0 1 (Rds.own List.mem_cons_self 0 _ (fun j v hv => by simpa using hv)) (by simp; omega) (by simp)).mono ?_)
  rintro _ _ ⟨vo2, Ho2, ⟨rfl, hO2⟩, rfl⟩
  refine GOps.nil ?_
  refine GW.region ?_
  refine R.add (r := (((i + 1) : Nat) : Int)) ⟨Z,Z,Z,Z⟩ Z Z (by rw [wrap64_id (by omega) (by omega)]; omega) ?_
  refine R.move ⟨Z,Z,Z,Z⟩ Z ?_
  refine GOps.nil ?_
  exact ⟨i + 1, (vo2, Ho2), (), (), by omega, ⟨by omega, by rw [map_take_kV hy]; exact hO2⟩, rfl, keepG, by first | exact Hs.refl _ | exact Hs.tl _ | exact Hs.tl2 _ _ | exact Hs.dropX _ _ _ _⟩
 ·try simp only [dcQ] at hc1
  rw [List.take_of_length_le (by omega)] at hO
  refine GW.exit ?_
  refine GW.seq ?_
  refine GW.seq ?_
  refine GW.region ?_
  refine R.fieldAddr ⟨Z,Z,Z,Z⟩ Z Tryz.underlying81 Z Tryz.sizeOf29 ?_
  refine R.load1 ⟨Z,Z,Z,Z⟩ Z Tryz.underlying29 Z (.own memH Z) ?_
  refine R.lenS ⟨Z,Z,Z,Z⟩ Z Z Tryz.underlying29 ?_
  refine R.move ⟨Z,Z,Z,Z⟩ Z ?_
  refine GOps.nil ?_
  refine GW.block ?_
  refine GW.loop4 (fun (i : Nat) (h : Value × Hp) (u1 : Unit) (u2 : Unit) => [(3, .pointer (some ⟨b3, 0, none⟩)), (4, .func (.func 75) #[] #[.pointer (some ⟨b3, 0, none⟩)]), (25, .slice bA q.body.length bc), (26, .int .i64 q.body.length), (27, .int .i64 i)]) (fun (i : Nat) (h : Value × Hp) (u1 : Unit) (u2 : Unit) => (b3, slS h.1) :: (h.2 ++ ((b1, .exact (.cells (Value.agg (QrC q (.slice vA q.vars.length vc) (.slice bA q.body.length bc)).toArray).cells 81 (0, 0))) :: G))) (fun i : Nat => q.body.length - i) (fun (i : Nat) (h : Value × Hp) (u1 : Unit) (u2 : Unit) => i ≤ q.body.length ∧ SlAt 1 9 ((dd (q.vars.map kV ++ bS q.body i)).map Value.string) (dd (q.vars.map kV ++ bS q.body i)).length h.1 h.2) 0 ((vo, Ho)) (()) (())
   (keepG) (Hs.refl _) (⟨Nat.zero_le _, by rw [show bS q.body 0 = [] from rfl, List.append_nil]; exact hO⟩) ?_
  rintro i h u1 u2 ⟨hi, hO⟩
  obtain ⟨vo, Ho⟩ := h
  simp only at hO
  have hbl := bS_len q.body i
  refine GW.seq ?_
  refine GW.region ?_
  refine R.lss ⟨Z,Z,Z,Z⟩ Z Z ?_
  refine GOps.nil ?_
  refine GW.seq ?_
  refine GW.ite Z (fun hc2 => ?_) (fun hc2 => ?_)
  ·try simp only [dcQ] at hc2
   obtain ⟨x, hx⟩ : ∃ x, q.body[i]? = some x := ⟨_, List.getElem?_eq_getElem (by omega)⟩
   obtain ⟨xb, xo, cs0, rfl, rfl, hrd⟩ := hl i x hx
   refine GW.skip ?_
   refine GW.seq ?_
   refine GW.block ?_
   refine GW.seq ?_
   refine GW.region ?_
   refine R.indexAddrS ⟨Z,Z,Z,Z⟩ Z Z Tryz.underlying29 Tryz.sizeOf89 (by omega) (by omega) ?_
   refine R.loadA ⟨Z,Z,Z,Z⟩ Z Tryz.underlying89 Z Tryz.sizeOf89 (hrd.mono (fun y hy => by repeat (first | exact List.mem_append_left _ hy | exact hy | apply List.mem_cons_of_mem | apply List.mem_append_right))) (by rfl) ?_
   refine R.alloc ⟨Z,Z,Z,Z⟩ Tryz.zeroValue89 fun b8 => ?_
   refine R.storeAll (G1 := []) Z Z Z Z Z Tryz.sizeOf89 Z Z Z Z ?_
   refine GOps.nil ?_
   refine GW.seq ?_
   refine GW.region ?_
   refine R.fieldAddr ⟨Z,Z,Z,Z⟩ Z Tryz.underlying89 Z Tryz.sizeOf87 ?_
   refine R.load1 ⟨Z,Z,Z,Z⟩ Z Tryz.underlying87 Z (.own (v := .int .i64 x.kind) memH Z) ?_
   refine R.eqI ⟨Z,Z,Z,Z⟩ Z Z ?_
   refine R.move ⟨Z,Z,Z,Z⟩ Z ?_
   refine GOps.caseB 34 Z (fun hg3 => ?_) (fun hg3 => ?_)
   ·try simp only [dcQ] at hg3
    refine GOps.skip Z Z Z ?_
    refine GOps.skip Z Z Z ?_
    refine GOps.skip Z Z Z ?_
    refine R.pick_t ⟨Z,Z,Z,Z⟩ Z Z ?_
    refine GOps.nil ?_
    refine GW.cond_t Z ?_
    refine GW.region ?_
    refine R.move ⟨Z,Z,Z,Z⟩ Z ?_
    refine R.fieldAddr ⟨Z,Z,Z,Z⟩ Z Tryz.underlying89 Z Tryz.sizeOf28 ?_
    refine R.sliceArr ⟨Z,Z,Z,Z⟩ Z Tryz.underlying28 Tryz.sizeOf26 ?_
    refine GOps.weak (Keeps.refl _) (Hs.sO _ _ _ _) ?_
    refine R.call ⟨Z,Z,Z,Z⟩ Z (vs := [_]) Z ((plan_note _ _ (q.vars.map kV ++ bS q.body i) ([x.pat.s0, x.pat.s1, x.pat.s2]) b3 vo Ho hO b8 (0 + 1) 3 (lt_pat List.mem_cons_self) (by simp; omega) (by simp)).mono ?_)
    rintro _ _ ⟨vo2, Ho2, ⟨rfl, hO2⟩, rfl⟩
    refine GOps.nil ?_
    refine GW.region ?_
    refine R.add (r := (((i + 1) : Nat) : Int)) ⟨Z,Z,Z,Z⟩ Z Z (by rw [wrap64_id (by omega) (by omega)]; omega) ?_
    refine R.move ⟨Z,Z,Z,Z⟩ Z ?_
    refine GOps.nil ?_
    exact ⟨i + 1, (vo2, Ho2), (), (), by omega, ⟨by omega, by rw [bS_app hx]; first | (rw [slotsOf_t (by omega)]; exact hO2) | (rw [slotsOf_f (by assumption) (by assumption)]; exact hO2)⟩, rfl, keepG, by first | exact Hs.refl _ | exact Hs.tl _ | exact Hs.tl2 _ _ | exact Hs.dropX2 _ _ _ _ _ | exact Hs.dropX _ _ _ _⟩
   ·try simp only [dcQ] at hg3
    refine R.fieldAddr ⟨Z,Z,Z,Z⟩ Z Tryz.underlying89 Z Tryz.sizeOf87 ?_
    refine R.load1 ⟨Z,Z,Z,Z⟩ Z Tryz.underlying87 Z (.own (v := .int .i64 x.kind) memH Z) ?_
    refine R.eqI ⟨Z,Z,Z,Z⟩ Z Z ?_
    refine R.pick_f ⟨Z,Z,Z,Z⟩ Z Z ?_
    refine GOps.nil ?_
    refine GW.ite Z (fun hc4 => ?_) (fun hc4 => ?_)
    ·try simp only [dcQ] at hc4
     refine GW.region ?_
     refine R.move ⟨Z,Z,Z,Z⟩ Z ?_
     refine R.fieldAddr ⟨Z,Z,Z,Z⟩ Z Tryz.underlying89 Z Tryz.sizeOf28 ?_
     refine R.sliceArr ⟨Z,Z,Z,Z⟩ Z Tryz.underlying28 Tryz.sizeOf26 ?_
     refine GOps.weak (Keeps.refl _) (Hs.sO _ _ _ _) ?_
     refine R.call ⟨Z,Z,Z,Z⟩ Z (vs := [_]) Z ((plan_note _ _ (q.vars.map kV ++ bS q.body i) ([x.pat.s0, x.pat.s1, x.pat.s2]) b3 vo Ho hO b8 (0 + 1) 3 (lt_pat List.mem_cons_self) (by simp; omega) (by simp)).mono ?_)
     rintro _ _ ⟨vo2, Ho2, ⟨rfl, hO2⟩, rfl⟩
     refine GOps.nil ?_
     refine GW.region ?_
     refine R.add (r := (((i + 1) : Nat) : Int)) ⟨Z,Z,Z,Z⟩ Z Z (by rw [wrap64_id (by omega) (by omega)]; omega) ?_
     refine R.move ⟨Z,Z,Z,Z⟩ Z ?_
     refine GOps.nil ?_
     exact ⟨i + 1, (vo2, Ho2), (), (), by omega, ⟨by omega, by rw [bS_app hx]; first | (rw [slotsOf_t (by omega)]; exact hO2) | (rw [slotsOf_f (by assumption) (by assumption)]; exact hO2)⟩, rfl, keepG, by first | exact Hs.refl _ | exact Hs.tl _ | exact Hs.tl2 _ _ | exact Hs.dropX2 _ _ _ _ _ | exact Hs.dropX _ _ _ _⟩
    ·try simp only [dcQ] at hc4
     refine GW.region ?_
     refine R.move ⟨Z,Z,Z,Z⟩ Z ?_
     refine R.fieldAddr ⟨Z,Z,Z,Z⟩ Z Tryz.underlying89 Z Tryz.sizeOf26 ?_
     refine R.load_own (cs := SlC x.a) ⟨Z,Z,Z,Z⟩ Z Tryz.underlying26 Z Tryz.sizeOf26 memG (by rfl) (by rfl) ?_
     refine R.fieldAddr ⟨Z,Z,Z,Z⟩ Z Tryz.underlying89 Z Tryz.sizeOf26 ?_
     refine R.load_own (cs := SlC x.b) ⟨Z,Z,Z,Z⟩ Z Tryz.underlying26 Z Tryz.sizeOf26 memG (by rfl) (by rfl) ?_
     refine R.buildSliceF (sz := 4) (bytes := 56) (vs := [_, _]) (cs := [x.a, x.b].flatMap SlC) ⟨Z,Z,Z,Z⟩ Z Tryz.underlying106 (InfoE.mk (by kernel_rfl)) Z Z Z Z Z fun b48 => ?_
     refine GOps.weak (Keeps.refl _) (Hs.sO2 _ _ _ _ _) ?_
     refine R.call ⟨Z,Z,Z,Z⟩ Z (vs := [_]) Z ((plan_note _ _ (q.vars.map kV ++ bS q.body i) ([x.a, x.b]) b3 vo Ho hO b48 0 2 (Rds.own List.mem_cons_self 0 _ (fun j v hv => by simpa using hv)) (by simp; omega) (by simp)).mono ?_)
     rintro _ _ ⟨vo2, Ho2, ⟨rfl, hO2⟩, rfl⟩
     refine GOps.nil ?_
     refine GW.region ?_
     refine R.add (r := (((i + 1) : Nat) : Int)) ⟨Z,Z,Z,Z⟩ Z Z (by rw [wrap64_id (by omega) (by omega)]; omega) ?_
     refine R.move ⟨Z,Z,Z,Z⟩ Z ?_
     refine GOps.nil ?_
     exact ⟨i + 1, (vo2, Ho2), (), (), by omega, ⟨by omega, by rw [bS_app hx]; first | (rw [slotsOf_t (by omega)]; exact hO2) | (rw [slotsOf_f (by assumption) (by assumption)]; exact hO2)⟩, rfl, keepG, by first | exact Hs.refl _ | exact Hs.tl _ | exact Hs.tl2 _ _ | exact Hs.dropX2 _ _ _ _ _ | exact Hs.dropX _ _ _ _⟩
  ·try simp only [dcQ] at hc2
   obtain rfl : i = q.body.length := by omega
   refine GW.exit ?_
   refine GW.seq ?_
   refine GW.region ?_
   refine R.load1 ⟨Z,Z,Z,Z⟩ Z Tryz.underlying61 Z (.own memH Z) ?_
   refine R.assign ⟨Z,Z,Z,Z⟩ Z ?_
   refine GOps.nil ?_
   exact GW.ret (Out.of (Res.one rfl rfl) ((Hs.tl _).trans (Hs.app1 _ _ _)) ⟨Ho, hO, rfl⟩)
theorem ref13_Vars (w0 : World) (G : Hp) (q : Qr) (vA bA : Option Addr) (vc bc : Nat) (hv : StAt w0 G vA q.vars) (hl : LtsAt w0 G bA q.body) (hvm : q.vars.length ≤ 1048576) (hbm : q.body.length ≤ 1048576) (hok : QrOk q) (hne : ∀ v ∈ q.vars, emp v = false) : GC Tryz.prog w0 24 #[.agg (QrC q (.slice vA q.vars.length vc) (.slice bA q.body.length bc)).toArray] (fun v G' => ∃ H, SlAt 1 9 ((dd (q.vars.map kV ++ bS q.body q.body.length)).map Value.string) (dd (q.vars.map kV ++ bS q.body q.body.length)).length v H ∧ H ++ G = G') G := by
 refine GC.body (args := [.agg (QrC q (.slice vA q.vars.length vc) (.slice bA q.body.length bc)).toArray]) Tryz.func24 rfl (by kernel_rfl) rfl ?_
 refine GW.seq ?_
 refine GW.region ?_
 refine R.box ⟨Z,Z,Z,Z⟩ Z fun b1 => ?_
 refine R.assign ⟨Z,Z,Z,Z⟩ Z ?_
 refine GOps.nil ?_
 refine GW.seq ?_
 refine GW.region ?_
 refine R.assign ⟨Z,Z,Z,Z⟩ Z ?_
 refine GOps.nil ?_
 refine GW.seq ?_
 refine GW.seq ?_
 refine GW.region ?_
 refine R.assign ⟨Z,Z,Z,Z⟩ Z ?_
 refine GOps.nil ?_
 refine GW.block ?_
 refine GW.loop4 (fun (i : Nat) (h : Value × Hp) (u1 : Unit) (u2 : Unit) => [(1, .pointer (some ⟨b1, 0, none⟩)), (3, h.1), (4, .int .i64 i)]) (fun (i : Nat) (h : Value × Hp) (u1 : Unit) (u2 : Unit) => h.2 ++ ((b1, .exact (.cells (Value.agg (QrC q (.slice vA q.vars.length vc) (.slice bA q.body.length bc)).toArray).cells 81 (0, 0))) :: G)) (fun i : Nat => q.vars.length - i) (fun (i : Nat) (h : Value × Hp) (u1 : Unit) (u2 : Unit) => i ≤ q.vars.length ∧ SlAt 1 9 ((dd ((q.vars.take i).map kV)).map Value.string) (dd ((q.vars.take i).map kV)).length h.1 h.2) 0 ((.slice none 0 0, [])) (()) (())
  (keepG) (Hs.refl _) (⟨Nat.zero_le _, .nil rfl rfl⟩) ?_
 rintro i h u1 u2 ⟨hi, hO⟩
 obtain ⟨vo, Ho⟩ := h
 simp only at hO
 refine GW.seq ?_
 refine GW.seq ?_
 refine GW.region ?_
 refine R.move ⟨Z,Z,Z,Z⟩ Z ?_
 refine R.fieldAddr ⟨Z,Z,Z,Z⟩ Z Tryz.underlying81 Z Tryz.sizeOf61 ?_
 refine R.load1 ⟨Z,Z,Z,Z⟩ Z Tryz.underlying61 Z (.own memH Z) ?_
 refine R.lenS ⟨Z,Z,Z,Z⟩ Z Z Tryz.underlying61 ?_
 refine R.lss ⟨Z,Z,Z,Z⟩ Z Z ?_
 refine GOps.nil ?_
 refine GW.ite Z (fun hc1 => ?_) (fun hc1 => ?_)
 ·try simp only [dcQ] at hc1
  obtain ⟨y, hy⟩ : ∃ y, q.vars[i]? = some y := ⟨_, List.getElem?_eq_getElem (by omega)⟩
  obtain ⟨yb, yo, rfl, hyr⟩ := str_load hv hy
  obtain ⟨Ao, co, rfl, hSt⟩ := hO.strs w0 []
  rw [List.append_nil] at hSt
  have hdl := dd_len ((q.vars.take i).map kV)
  rw [List.length_map, List.length_take] at hdl
  have hye : emp (kV y).v = false := hne y (List.mem_of_getElem? hy)
  refine GW.skip ?_
  refine GW.seq ?_
  refine GW.block ?_
  refine GW.seq ?_
  refine GW.region ?_
  refine R.move ⟨Z,Z,Z,Z⟩ Z ?_
  refine R.fieldAddr ⟨Z,Z,Z,Z⟩ Z Tryz.underlying81 Z Tryz.sizeOf61 ?_
  refine R.load1 ⟨Z,Z,Z,Z⟩ Z Tryz.underlying61 Z (.own memH Z) ?_
  refine R.move ⟨Z,Z,Z,Z⟩ Z ?_
  refine R.indexAddrS ⟨Z,Z,Z,Z⟩ Z Z Tryz.underlying61 Tryz.sizeOf9 (by omega) (by omega) ?_
  refine R.load1 ⟨Z,Z,Z,Z⟩ Z Tryz.underlying9 Z (hyr.mono (fun y hy => by repeat (first | exact List.mem_append_left _ hy | exact hy | apply List.mem_cons_of_mem | apply List.mem_append_right))) ?_
  refine R.call ⟨Z,Z,Z,Z⟩ Z (vs := [_, _]) Z ((ref_In _ _ Ao (dd ((q.vars.take i).map kV)) co y (hSt.mono (fun y hy => by repeat (first | exact List.mem_append_left _ hy | exact hy | apply List.mem_cons_of_mem | apply List.mem_append_right))) (by omega)).mono ?_)
  rintro _ _ ⟨rfl, rfl⟩
  refine R.not ⟨Z,Z,Z,Z⟩ Z ?_
  refine GOps.nil ?_
  refine GW.ite Z (fun hc2 => ?_) (fun hc2 => ?_)
  ·try simp only [dcQ] at hc2
   replace hc2 : inB (dd ((q.vars.take i).map kV)) (kV y).v = false := hc2
   refine GW.region ?_
   refine R.move ⟨Z,Z,Z,Z⟩ Z ?_
   refine R.fieldAddr ⟨Z,Z,Z,Z⟩ Z Tryz.underlying81 Z Tryz.sizeOf61 ?_
   refine R.load1 ⟨Z,Z,Z,Z⟩ Z Tryz.underlying61 Z (.own memH Z) ?_
   refine R.move ⟨Z,Z,Z,Z⟩ Z ?_
   refine R.indexAddrS ⟨Z,Z,Z,Z⟩ Z Z Tryz.underlying61 Tryz.sizeOf9 (by omega) (by omega) ?_
   refine R.load1 ⟨Z,Z,Z,Z⟩ Z Tryz.underlying9 Z (hyr.mono (fun y hy => by repeat (first | exact List.mem_append_left _ hy | exact hy | apply List.mem_cons_of_mem | apply List.mem_append_right))) ?_
   refine R.buildSliceF (sz := 1) (bytes := 16) (vs := [_]) (cs := [_]) ⟨Z,Z,Z,Z⟩ Z Tryz.underlying61 (InfoE.mk (by kernel_rfl)) Z Z Z Z Z fun b29 => ?_
   refine R.append (sz := 1) (bytes := 16) (G1 := [_]) (H := Ho) (news := [.string y]) ⟨Z,Z,Z,Z⟩ Z Z Z Tryz.underlying61 (InfoE.mk (by kernel_rfl)) (hO) (Z) (Z) (.own memH 0 _ (fun j v hv => by simpa using hv)) (by omega) (by rfl) (by omega) (by omega) fun v30 H30 hv30 => ?_
   obtain ⟨A30, c30, rfl, hc30⟩ := hv30.split
   refine R.assign ⟨Z,Z,Z,Z⟩ Z ?_
   refine GOps.nil ?_
   refine GW.region ?_
   refine R.move ⟨Z,Z,Z,Z⟩ Z ?_
   refine R.add (r := (((i + 1) : Nat) : Int)) ⟨Z,Z,Z,Z⟩ Z Z (by rw [wrap64_id (by omega) (by omega)]; omega) ?_
   refine R.assign ⟨Z,Z,Z,Z⟩ Z ?_
   refine GOps.nil ?_
   first | exact ⟨i + 1, (.slice A30 _ c30, H30), (), (), by omega, ⟨by omega, by rw [map_take_kV hy, dd_snoc, ddStep_yes hye hc2]; exact hv30.snoc⟩, rfl, keepG, Hs.tl _⟩ | exact ⟨i + 1, (.slice Ao _ co, Ho), (), (), by omega, ⟨by omega, by rw [map_take_kV hy, dd_snoc, ddStep_no2 hc2]; exact hO⟩, rfl, keepG, Hs.refl _⟩
  ·try simp only [dcQ] at hc2
   replace hc2 : inB (dd ((q.vars.take i).map kV)) (kV y).v = true := hc2
   refine GW.skip ?_
   refine GW.region ?_
   refine R.move ⟨Z,Z,Z,Z⟩ Z ?_
   refine R.add (r := (((i + 1) : Nat) : Int)) ⟨Z,Z,Z,Z⟩ Z Z (by rw [wrap64_id (by omega) (by omega)]; omega) ?_
   refine R.assign ⟨Z,Z,Z,Z⟩ Z ?_
   refine GOps.nil ?_
   first | exact ⟨i + 1, (.slice A30 _ c30, H30), (), (), by omega, ⟨by omega, by rw [map_take_kV hy, dd_snoc, ddStep_yes hye hc2]; exact hv30.snoc⟩, rfl, keepG, Hs.tl _⟩ | exact ⟨i + 1, (.slice Ao _ co, Ho), (), (), by omega, ⟨by omega, by rw [map_take_kV hy, dd_snoc, ddStep_no2 hc2]; exact hO⟩, rfl, keepG, Hs.refl _⟩
 ·try simp only [dcQ] at hc1
  rw [List.take_of_length_le (by omega)] at hO
  refine GW.exit ?_
  refine GW.seq ?_
  refine GW.seq ?_
  refine GW.region ?_
  refine R.assign ⟨Z,Z,Z,Z⟩ Z ?_
  refine GOps.nil ?_
  refine GW.block ?_
  refine GW.loop4 (fun (i : Nat) (h : Value × Hp) (u1 : Unit) (u2 : Unit) => [(1, .pointer (some ⟨b1, 0, none⟩)), (3, h.1), (5, .int .i64 i)]) (fun (i : Nat) (h : Value × Hp) (u1 : Unit) (u2 : Unit) => h.2 ++ ((b1, .exact (.cells (Value.agg (QrC q (.slice vA q.vars.length vc) (.slice bA q.body.length bc)).toArray).cells 81 (0, 0))) :: G)) (fun i : Nat => q.body.length - i) (fun (i : Nat) (h : Value × Hp) (u1 : Unit) (u2 : Unit) => i ≤ q.body.length ∧ SlAt 1 9 ((dd (q.vars.map kV ++ bS q.body i)).map Value.string) (dd (q.vars.map kV ++ bS q.body i)).length h.1 h.2) 0 ((vo, Ho)) (()) (())
   (keepG) (Hs.refl _) (⟨Nat.zero_le _, by rw [show bS q.body 0 = [] from rfl, List.append_nil]; exact hO⟩) ?_
  rintro i h u1 u2 ⟨hi, hO⟩
  obtain ⟨vo, Ho⟩ := h
  simp only at hO
  refine GW.seq ?_
  refine GW.seq ?_
  refine GW.region ?_
  refine R.move ⟨Z,Z,Z,Z⟩ Z ?_
  refine R.fieldAddr ⟨Z,Z,Z,Z⟩ Z Tryz.underlying81 Z Tryz.sizeOf29 ?_
  refine R.load1 ⟨Z,Z,Z,Z⟩ Z Tryz.underlying29 Z (.own memH Z) ?_
  refine R.lenS ⟨Z,Z,Z,Z⟩ Z Z Tryz.underlying29 ?_
  refine R.lss ⟨Z,Z,Z,Z⟩ Z Z ?_
  refine GOps.nil ?_
  refine GW.ite Z (fun hc3 => ?_) (fun hc3 => ?_)
  ·try simp only [dcQ] at hc3
   obtain ⟨x, hx⟩ : ∃ x, q.body[i]? = some x := ⟨_, List.getElem?_eq_getElem (by omega)⟩
   obtain ⟨xb, xo, cs0, rfl, rfl, hrd⟩ := hl i x hx
   refine GW.skip ?_
   refine GW.seq ?_
   refine GW.block ?_
   refine GW.seq ?_
   refine GW.region ?_
   refine R.fieldAddr ⟨Z,Z,Z,Z⟩ Z Tryz.underlying81 Z Tryz.sizeOf29 ?_
   refine R.load1 ⟨Z,Z,Z,Z⟩ Z Tryz.underlying29 Z (.own memH Z) ?_
   refine R.move ⟨Z,Z,Z,Z⟩ Z ?_
   refine R.indexAddrS ⟨Z,Z,Z,Z⟩ Z Z Tryz.underlying29 Tryz.sizeOf89 (by omega) (by omega) ?_
   refine R.loadA ⟨Z,Z,Z,Z⟩ Z Tryz.underlying89 Z Tryz.sizeOf89 (hrd.mono (fun y hy => by repeat (first | exact List.mem_append_left _ hy | exact hy | apply List.mem_cons_of_mem | apply List.mem_append_right))) (by rfl) ?_
   refine R.call ⟨Z,Z,Z,Z⟩ Z (vs := [_]) Z ((ref_Slots _ _ x).mono ?_)
   rintro _ _ ⟨b43, rfl, rfl⟩
   have hsl := slots_le x
   have hbl := bS_len q.body i
   refine R.assign ⟨Z,Z,Z,Z⟩ Z ?_
   refine GOps.nil ?_
   refine GW.seq ?_
   refine GW.region ?_
   refine R.assign ⟨Z,Z,Z,Z⟩ Z ?_
   refine GOps.nil ?_
   refine GW.block ?_
   refine GW.loop4 (fun (k : Nat) (h : Value × Hp) (u1 : Unit) (u2 : Unit) => [(1, .pointer (some ⟨b1, 0, none⟩)), (3, h.1), (5, .int .i64 i), (6, .slice (some ⟨b43, 0, none⟩) (slotsOf x).length (slotsOf x).length), (7, .int .i64 k)]) (fun (k : Nat) (h : Value × Hp) (u1 : Unit) (u2 : Unit) => (b43, .exact (.cells ((slotsOf x).flatMap SlC).toArray 26 (0, 0))) :: (h.2 ++ ((b1, .exact (.cells (Value.agg (QrC q (.slice vA q.vars.length vc) (.slice (some ⟨xb, xo, none⟩) q.body.length bc)).toArray).cells 81 (0, 0))) :: G))) (fun k : Nat => (slotsOf x).length - k) (fun (k : Nat) (h : Value × Hp) (u1 : Unit) (u2 : Unit) => k ≤ (slotsOf x).length ∧ SlAt 1 9 ((dd (q.vars.map kV ++ bS q.body i ++ (slotsOf x).take k)).map Value.string) (dd (q.vars.map kV ++ bS q.body i ++ (slotsOf x).take k)).length h.1 h.2) 0 ((vo, Ho)) (()) (())
    (keepG) (Hs.refl _) (⟨Nat.zero_le _, by rw [List.take_zero, List.append_nil]; exact hO⟩) ?_
   rintro k h u1 u2 ⟨hk, hO⟩
   obtain ⟨vo, Ho⟩ := h
   simp only at hO
   refine GW.seq ?_
   refine GW.seq ?_
   refine GW.region ?_
   refine R.move ⟨Z,Z,Z,Z⟩ Z ?_
   refine R.move ⟨Z,Z,Z,Z⟩ Z ?_
   refine R.lenS ⟨Z,Z,Z,Z⟩ Z Z Tryz.underlying106 ?_
   refine R.lss ⟨Z,Z,Z,Z⟩ Z Z ?_
   refine GOps.nil ?_
   refine GW.ite Z (fun hc4 => ?_) (fun hc4 => ?_)
   ·try simp only [dcQ] at hc4
    obtain ⟨y, hy⟩ : ∃ y, (slotsOf x)[k]? = some y := ⟨_, List.getElem?_eq_getElem (by omega)⟩
    obtain ⟨Ao, co, rfl, hSt⟩ := hO.strs w0 []
    rw [List.append_nil] at hSt
    have hdl := dd_len (q.vars.map kV ++ bS q.body i ++ (slotsOf x).take k)
    rw [List.length_append, List.length_append, List.length_map, List.length_take] at hdl
    refine GW.skip ?_
    refine GW.seq ?_
    refine GW.block ?_
    refine GW.seq ?_
    refine GW.region ?_
    refine R.move ⟨Z,Z,Z,Z⟩ Z ?_
    refine R.move ⟨Z,Z,Z,Z⟩ Z ?_
    refine R.indexAddrS ⟨Z,Z,Z,Z⟩ Z Z Tryz.underlying106 Tryz.sizeOf26 (by omega) (by omega) ?_
    refine R.fieldAddr ⟨Z,Z,Z,Z⟩ Z Tryz.underlying26 Z Tryz.sizeOf9 ?_
    refine R.load1 ⟨Z,Z,Z,Z⟩ Z Tryz.underlying9 Z (.own (k := .exact (.cells ((slotsOf x).flatMap SlC).toArray 26 (0, 0))) memH (slot_cellE hy)) ?_
    refine R.neS ⟨Z,Z,Z,Z⟩ Z Z ?_
    refine R.move ⟨Z,Z,Z,Z⟩ Z ?_
    refine GOps.caseB 56 Z (fun hg5 => ?_) (fun hg5 => ?_)
    ·try simp only [dcQ] at hg5
     refine R.move ⟨Z,Z,Z,Z⟩ Z ?_
     refine R.move ⟨Z,Z,Z,Z⟩ Z ?_
     refine R.move ⟨Z,Z,Z,Z⟩ Z ?_
     refine R.indexAddrS ⟨Z,Z,Z,Z⟩ Z Z Tryz.underlying106 Tryz.sizeOf26 (by omega) (by omega) ?_
     refine R.fieldAddr ⟨Z,Z,Z,Z⟩ Z Tryz.underlying26 Z Tryz.sizeOf9 ?_
     refine R.load1 ⟨Z,Z,Z,Z⟩ Z Tryz.underlying9 Z (.own (k := .exact (.cells ((slotsOf x).flatMap SlC).toArray 26 (0, 0))) memH (slot_cellE hy)) ?_
     refine R.call ⟨Z,Z,Z,Z⟩ Z (vs := [_, _]) Z ((ref_In _ _ Ao (dd (q.vars.map kV ++ bS q.body i ++ (slotsOf x).take k)) co y.v (hSt.mono (fun y hy => by repeat (first | exact List.mem_append_left _ hy | exact hy | apply List.mem_cons_of_mem | apply List.mem_append_right))) (by omega)).mono ?_)
     rintro _ _ ⟨rfl, rfl⟩
     refine R.not ⟨Z,Z,Z,Z⟩ Z ?_
     refine R.pick_t ⟨Z,Z,Z,Z⟩ Z Z ?_
     refine GOps.nil ?_
     refine GW.ite Z (fun hc6 => ?_) (fun hc6 => ?_)
     ·try simp only [dcQ] at hc6
      refine GW.region ?_
      refine R.move ⟨Z,Z,Z,Z⟩ Z ?_
      refine R.move ⟨Z,Z,Z,Z⟩ Z ?_
      refine R.move ⟨Z,Z,Z,Z⟩ Z ?_
      refine R.indexAddrS ⟨Z,Z,Z,Z⟩ Z Z Tryz.underlying106 Tryz.sizeOf26 (by omega) (by omega) ?_
      refine R.fieldAddr ⟨Z,Z,Z,Z⟩ Z Tryz.underlying26 Z Tryz.sizeOf9 ?_
      refine R.load1 ⟨Z,Z,Z,Z⟩ Z Tryz.underlying9 Z (.own (k := .exact (.cells ((slotsOf x).flatMap SlC).toArray 26 (0, 0))) memH (slot_cellE hy)) ?_
      refine R.buildSliceF (sz := 1) (bytes := 16) (vs := [_]) (cs := [_]) ⟨Z,Z,Z,Z⟩ Z Tryz.underlying61 (InfoE.mk (by kernel_rfl)) Z Z Z Z Z fun b72 => ?_
      refine R.append (sz := 1) (bytes := 16) (G1 := [_, _]) (H := Ho) (news := [.string y.v]) ⟨Z,Z,Z,Z⟩ Z Z Z Tryz.underlying61 (InfoE.mk (by kernel_rfl)) (hO) (Z) (Z) (.own memH 0 _ (fun j v hv => by simpa using hv)) (by omega) (by rfl) (by omega) (by omega) fun v73 H73 hv73 => ?_
      obtain ⟨A73, c73, rfl, hc73⟩ := hv73.split
      refine R.assign ⟨Z,Z,Z,Z⟩ Z ?_
      refine GOps.nil ?_
      refine GW.region ?_
      refine R.move ⟨Z,Z,Z,Z⟩ Z ?_
      refine R.add (r := (((k + 1) : Nat) : Int)) ⟨Z,Z,Z,Z⟩ Z Z (by rw [wrap64_id (by omega) (by omega)]; omega) ?_
      refine R.assign ⟨Z,Z,Z,Z⟩ Z ?_
      refine GOps.nil ?_
      first | exact ⟨k + 1, (.slice A73 _ c73, H73), (), (), by omega, ⟨by omega, by rw [dd_take_snoc hy, ddStep_yes (by assumption) (by assumption)]; exact hv73.snoc⟩, rfl, keepG, Hs.tl _⟩ | exact ⟨k + 1, (.slice Ao _ co, Ho), (), (), by omega, ⟨by omega, by rw [dd_take_snoc hy, ddStep_no1 (by assumption)]; exact hO⟩, rfl, keepG, Hs.refl _⟩ | exact ⟨k + 1, (.slice Ao _ co, Ho), (), (), by omega, ⟨by omega, by rw [dd_take_snoc hy, ddStep_no2 (by assumption)]; exact hO⟩, rfl, keepG, Hs.refl _⟩
     ·try simp only [dcQ] at hc6
      refine GW.skip ?_
      refine GW.region ?_
      refine R.move ⟨Z,Z,Z,Z⟩ Z ?_
      refine R.add (r := (((k + 1) : Nat) : Int)) ⟨Z,Z,Z,Z⟩ Z Z (by rw [wrap64_id (by omega) (by omega)]; omega) ?_
      refine R.assign ⟨Z,Z,Z,Z⟩ Z ?_
      refine GOps.nil ?_
      first | exact ⟨k + 1, (.slice A73 _ c73, H73), (), (), by omega, ⟨by omega, by rw [dd_take_snoc hy, ddStep_yes (by assumption) (by assumption)]; exact hv73.snoc⟩, rfl, keepG, Hs.tl _⟩ | exact ⟨k + 1, (.slice Ao _ co, Ho), (), (), by omega, ⟨by omega, by rw [dd_take_snoc hy, ddStep_no1 (by assumption)]; exact hO⟩, rfl, keepG, Hs.refl _⟩ | exact ⟨k + 1, (.slice Ao _ co, Ho), (), (), by omega, ⟨by omega, by rw [dd_take_snoc hy, ddStep_no2 (by assumption)]; exact hO⟩, rfl, keepG, Hs.refl _⟩
    ·try simp only [dcQ] at hg5
     refine GOps.skip Z Z Z ?_
     refine GOps.skip Z Z Z ?_
     refine GOps.skip Z Z Z ?_
     refine GOps.skip Z Z Z ?_
     refine GOps.skip Z Z Z ?_
     refine GOps.skip Z Z Z ?_
     refine GOps.skip Z Z Z ?_
     refine GOps.skip Z Z Z ?_
     refine R.pick_f ⟨Z,Z,Z,Z⟩ Z Z ?_
     refine GOps.nil ?_
     refine GW.cond_f Z ?_
     refine GW.skip ?_
     refine GW.region ?_
     refine R.move ⟨Z,Z,Z,Z⟩ Z ?_
     refine R.add (r := (((k + 1) : Nat) : Int)) ⟨Z,Z,Z,Z⟩ Z Z (by rw [wrap64_id (by omega) (by omega)]; omega) ?_
     refine R.assign ⟨Z,Z,Z,Z⟩ Z ?_
     refine GOps.nil ?_
     first | exact ⟨k + 1, (.slice A73 _ c73, H73), (), (), by omega, ⟨by omega, by rw [dd_take_snoc hy, ddStep_yes (by assumption) (by assumption)]; exact hv73.snoc⟩, rfl, keepG, Hs.tl _⟩ | exact ⟨k + 1, (.slice Ao _ co, Ho), (), (), by omega, ⟨by omega, by rw [dd_take_snoc hy, ddStep_no1 (by assumption)]; exact hO⟩, rfl, keepG, Hs.refl _⟩ | exact ⟨k + 1, (.slice Ao _ co, Ho), (), (), by omega, ⟨by omega, by rw [dd_take_snoc hy, ddStep_no2 (by assumption)]; exact hO⟩, rfl, keepG, Hs.refl _⟩
   ·try simp only [dcQ] at hc4
    refine GW.exit ?_
    refine GW.region ?_
    refine R.move ⟨Z,Z,Z,Z⟩ Z ?_
    refine R.add (r := (((i + 1) : Nat) : Int)) ⟨Z,Z,Z,Z⟩ Z Z (by rw [wrap64_id (by omega) (by omega)]; omega) ?_
    refine R.assign ⟨Z,Z,Z,Z⟩ Z ?_
    refine GOps.nil ?_
    exact ⟨i + 1, (vo, Ho), (), (), by omega, ⟨by omega, by rw [List.take_of_length_le (by omega), ← bS_app hx] at hO; exact hO⟩, rfl, keepG, by first | exact Hs.refl _ | exact Hs.tl _ | exact Hs.tl2 _ _⟩
  ·try simp only [dcQ] at hc3
   obtain rfl : i = q.body.length := by omega
   refine GW.exit ?_
   refine GW.seq ?_
   refine GW.region ?_
   refine R.move ⟨Z,Z,Z,Z⟩ Z ?_
   refine R.assign ⟨Z,Z,Z,Z⟩ Z ?_
   refine GOps.nil ?_
   exact GW.ret (Out.of (Res.one rfl rfl) (Hs.app1 _ _ _) ⟨Ho, hO, rfl⟩)
end Go.Proofs.YtfddkcmooommeaaGreatDoor.Gl
end
section
namespace Go.Proofs.YtfddkcmooommeaaGreatDoor.Gl
open Go.RowKit Go.Shelf
set_option linter.unusedVariables false
set_option linter.unnecessarySimpa false
set_option linter.unusedSimpArgs false
attribute [-simp] List.getD_eq_getElem?_getD
def mkS (g : List Bool) (s : St) : List Bool := if s.kind = 1 then markTo g s.row 3 else g
def mkA (g : List Bool) (o : List St) : List Bool := o.foldl mkS g
def chk : List Bool → List St → Prop
 | _, [] => True
 | g, s :: o => (¬ s.kind = 1 → readyF g s = true) ∧ chk (mkS g s) o
theorem mkA_app (g : List Bool) (o o' : List St) : mkA g (o ++ o') = mkA (mkA g o) o' := List.foldl_append
theorem chk_app : ∀ (o : List St) (g : List Bool) (o' : List St), chk g o → chk (mkA g o) o' → chk g (o ++ o')
 | [], _, _, _, h => h
 | s :: o, g, o', h1, h2 => ⟨h1.1, chk_app o (mkS g s) o' h1.2 h2⟩
theorem chk_ready : ∀ (o : List St) (g : List Bool), (∀ s ∈ o, ¬ s.kind = 1 ∧ readyF g s = true) → chk g o ∧ mkA g o = g
 | [], _, _ => ⟨trivial, rfl⟩
 | s :: o, g, h => by
  have hs := h s List.mem_cons_self
  have e : mkS g s = g := if_neg hs.1
  obtain ⟨h1, h2⟩ := chk_ready o g (fun t ht => h t (List.mem_cons_of_mem _ ht))
  exact ⟨⟨fun _ => hs.2, by rw [e]; exact h1⟩, by show mkA (mkS g s) o = g; rw [e]; exact h2⟩
structure ChkQ (g0 : List Bool) (q : RS) : Prop where
 c : chk g0 q.o
 k : mkA g0 q.o = q.kn
 w : ∀ s ∈ q.w, ¬ s.kind = 1
theorem ChkQ.flush {g0 : List Bool} {q : RS} (h : ChkQ g0 q) : ChkQ g0 (flushR q) := by
 have hr := chk_ready (q.w.filter (readyF q.kn)) q.kn (fun s hs => ⟨h.w s (List.mem_filter.1 hs).1, (List.mem_filter.1 hs).2⟩)
 refine ⟨?_, ?_, fun s hs => h.w s (List.mem_filter.1 hs).1⟩
 ·show chk g0 (q.o ++ q.w.filter (readyF q.kn))
  exact chk_app _ _ _ h.c (by rw [h.k]; exact hr.1)
 ·show mkA g0 (q.o ++ q.w.filter (readyF q.kn)) = q.kn
  rw [mkA_app, h.k, hr.2]
theorem ChkQ.take {g0 : List Bool} {q : RS} {ms : List St} {z : Int} (h : ChkQ g0 q) (hm : (ms.getD z.toNat zSt).kind = 1) : ChkQ g0 (takeR ms q z) := by
 refine ChkQ.flush ⟨?_, ?_, h.w⟩
 ·exact chk_app _ _ _ h.c ⟨fun hk => absurd hm hk, trivial⟩
 ·show mkA g0 (q.o ++ [ms.getD z.toNat zSt]) = markTo q.kn (ms.getD z.toNat zSt).row 3
  rw [mkA_app, h.k]
  exact if_pos hm
theorem ChkQ.run {g0 : List Bool} {ms : List St} {q : RS} {ord : List Int} (h : ChkQ g0 q) (hm : ∀ z ∈ ord, (ms.getD z.toNat zSt).kind = 1) : ∀ i, i ≤ ord.length → ChkQ g0 (runTo ms q ord i)
 | 0, _ => h.flush
 | i + 1, hi => by
  obtain ⟨z, hz⟩ : ∃ z, ord[i]? = some z := ⟨_, List.getElem?_eq_getElem (by omega)⟩
  rw [runTo_succ hz]
  exact (ChkQ.run h hm i (by omega)).take (hm z (List.mem_of_getElem? hz))
end Go.Proofs.YtfddkcmooommeaaGreatDoor.Gl
end
section
namespace Go.Proofs.YtfddkcmooommeaaGreatDoor.Gl
open Go.RowKit Go.Shelf
set_option linter.unusedVariables false
set_option linter.unnecessarySimpa false
set_option linter.unusedSimpArgs false
attribute [-simp] List.getD_eq_getElem?_getD
section
variable {X : Cx} {Q : Post} {fr : Fr} {ds : List Deferred} {G : Hp} {ops : Array Oper} {o : Oper} {rest : List Oper} {d : Nat}
end
def upto (k : Nat) (f : Nat → Value) (z : Value) (i : Nat) : Value := if i < k then f i else z
structure Lk where
 c : Nat
 v : Nat → Int
 d : Nat → Nat
end Go.Proofs.YtfddkcmooommeaaGreatDoor.Gl
end
section
namespace Go.Proofs.YtfddkcmooommeaaGreatDoor.Gl
open Go.RowKit Go.Shelf
set_option linter.unusedVariables false
set_option linter.unnecessarySimpa false
set_option linter.unusedSimpArgs false
attribute [-simp] List.getD_eq_getElem?_getD
section
variable {s : St} {k : Nat} {df : Nat → Nat} {c : Value}
end
end Go.Proofs.YtfddkcmooommeaaGreatDoor.Gl
end
section
namespace Go.Proofs.YtfddkcmooommeaaGreatDoor.Gl
open Go.RowKit Go.Shelf
set_option linter.unusedVariables false
set_option linter.unnecessarySimpa false
set_option linter.unusedSimpArgs false
attribute [-simp] List.getD_eq_getElem?_getD
theorem internF_room {lim : Nat} {ts : List Tm} {t : Tm} (h : ts.length < lim) : (internF lim ts t).2.1 = 0 ∧ (internF lim ts t).2.2.length ≤ ts.length + 1 := by
 unfold internF
 cases idxT ts t with
 | some n => exact ⟨rfl, Nat.le_succ _⟩
 | none =>
  simp only
  rw [if_neg (by omega)]
  exact ⟨rfl, by simp⟩
theorem placeF_room {lim : Nat} {vars : List ByteArray} {q : List Tm × Int} {s : Sl} (h : q.1.length < lim) (hb : q.2 = 0) : (placeF lim vars q s).2.2 = 0 ∧ (placeF lim vars q s).2.1.length ≤ q.1.length + 1 := by
 cases he : emp s.v with
 | false => rw [placeF_var he]; exact ⟨hb, Nat.le_succ _⟩
 | true => rw [placeF_t0 he hb]; exact internF_room h
theorem rowF_room {lim : Nat} {vars : List ByteArray} {q : List Tm × Int} {p : Pt} (h : q.1.length + 3 ≤ lim) (hb : q.2 = 0) : (rowF lim vars q p).2.2 = 0 ∧ (rowF lim vars q p).2.1.length ≤ q.1.length + 3 := by
 obtain ⟨a1, a2⟩ := placeF_room (lim := lim) (vars := vars) (s := p.s0) (show q.1.length < lim by omega) hb
 obtain ⟨b1, b2⟩ := placeF_room (lim := lim) (vars := vars) (s := p.s1) (show (placeF lim vars q p.s0).2.1.length < lim by omega) a1
 obtain ⟨c1, c2⟩ := placeF_room (lim := lim) (vars := vars) (s := p.s2) (show (placeF lim vars (placeF lim vars q p.s0).2 p.s1).2.1.length < lim by omega) b1
 exact ⟨c1, by show (placeF lim vars (placeF lim vars (placeF lim vars q p.s0).2 p.s1).2 p.s2).2.1.length ≤ _; omega⟩
theorem stepF_room {lim : Nat} {vars : List ByteArray} {q : List Tm × Int} {l : Lt} (h : q.1.length + 3 ≤ lim) (hb : q.2 = 0) : (stepF lim vars q l).2.2 = 0 ∧ (stepF lim vars q l).2.1.length ≤ q.1.length + 3 := by
 by_cases h1 : l.kind = 1
 ·rw [stepF_1 h1]; exact rowF_room h hb
 by_cases h2 : l.kind = 2
 ·rw [stepF_2 h1 h2]; exact rowF_room h hb
 have hab : (placeF lim vars (placeF lim vars q l.a).2 l.b).2.2 = 0 ∧ (placeF lim vars (placeF lim vars q l.a).2 l.b).2.1.length ≤ q.1.length + 3 := by
  obtain ⟨a1, a2⟩ := placeF_room (lim := lim) (vars := vars) (s := l.a) (show q.1.length < lim by omega) hb
  obtain ⟨b1, b2⟩ := placeF_room (lim := lim) (vars := vars) (s := l.b) (show (placeF lim vars q l.a).2.1.length < lim by omega) a1
  exact ⟨b1, by omega⟩
 by_cases h3 : l.kind = 3
 ·rw [stepF_3 h1 h2 h3]; exact hab
 ·rw [stepF_4 h1 h2 h3]; exact hab
theorem bodyStep_room {lim : Nat} {vars : List ByteArray} {a : BS} {l : Lt} (h : a.ts.length + 3 ≤ lim) (hb : a.bad = 0) : (bodyStep lim vars a l).bad = 0 ∧ (bodyStep lim vars a l).ts.length ≤ a.ts.length + 3 := by
 have hs := stepF_room (lim := lim) (vars := vars) (q := (a.ts, a.bad)) (l := l) h hb
 by_cases h1 : (stepF lim vars (a.ts, a.bad) l).1.kind = 1
 ·rw [bodyStep_1 h1]; exact hs
 by_cases h2 : (stepF lim vars (a.ts, a.bad) l).1.kind = 2
 ·rw [bodyStep_2 h1 h2]; exact hs
 ·rw [bodyStep_3 h1 h2]; exact hs
theorem bodyTo_room {lim : Nat} {vars : List ByteArray} {ts : List Tm} {body : List Lt} (h : ts.length + 3 * body.length ≤ lim) : ∀ i, i ≤ body.length → (bodyTo lim vars ts 0 body i).bad = 0 ∧ (bodyTo lim vars ts 0 body i).ts.length ≤ ts.length + 3 * i
 | 0, _ => ⟨rfl, Nat.le_refl _⟩
 | i + 1, hi => by
  obtain ⟨h1, h2⟩ := bodyTo_room h i (by omega)
  rw [bodyTo_succ (List.getElem?_eq_getElem (show i < body.length by omega))]
  obtain ⟨h3, h4⟩ := bodyStep_room (lim := lim) (vars := vars) (l := body[i]) (show (bodyTo lim vars ts 0 body i).ts.length + 3 ≤ lim by omega) h1
  exact ⟨h3, by omega⟩
end Go.Proofs.YtfddkcmooommeaaGreatDoor.Gl
end
section
namespace Go.Proofs.YtfddkcmooommeaaGreatDoor.Gl
open Go.RowKit Go.Shelf
set_option linter.unusedVariables false
set_option linter.unnecessarySimpa false
set_option linter.unusedSimpArgs false
attribute [-simp] List.getD_eq_getElem?_getD
theorem StsAt.mono {w0 : World} {G G' : Hp} {A : Option Addr} {ss : List St} (h : StsAt w0 G A ss) (hs : ∀ y ∈ G, y ∈ G') : StsAt w0 G' A ss := fun i x hx => by obtain ⟨b, o, cs, h1, h2, h3⟩ := h i x hx; exact ⟨b, o, cs, h1, h2, h3.mono hs⟩
end Go.Proofs.YtfddkcmooommeaaGreatDoor.Gl
end
section
namespace Go.Proofs.YtfddkcmooommeaaGreatDoor.Gl
open Go.RowKit Go.Shelf
set_option linter.unusedVariables false
set_option linter.unnecessarySimpa false
set_option linter.unusedSimpArgs false
attribute [-simp] List.getD_eq_getElem?_getD
end Go.Proofs.YtfddkcmooommeaaGreatDoor.Gl
end
section
namespace Go.Proofs.YtfddkcmooommeaaGreatDoor.Gl
open Go.RowKit Go.Shelf
set_option linter.unusedVariables false
set_option linter.unnecessarySimpa false
set_option linter.unusedSimpArgs false
attribute [-simp] List.getD_eq_getElem?_getD
theorem Dic.len {ts : List Tm} {lim b : Nat} {H : Hp} (h : Dic ts lim b H) : ts.length ≤ 1000 := by
 obtain ⟨va, ve, Ha, He, bt, k, tab, _, hr, _⟩ := h
 exact hr.most
theorem Hs.b13 (w x : Nat × Know) (L O R : Hp) : Hs (w :: (L ++ (O ++ (x :: R)))) (x :: (w :: (L ++ (O ++ R)))) := Hs.perm (by
 have := @List.perm_middle _ x (w :: (L ++ O)) R
 simpa only [List.cons_append, List.append_assoc] using this.symm)
theorem Hs.numG (x w p b : Nat × Know) (L O V D Q G : Hp) : Hs (x :: (w :: (L ++ (O ++ (V ++ (p :: (D ++ (Q ++ (b :: G))))))))) (w :: (L ++ (D ++ G))) :=
 Hs.sub (List.Sublist.cons _ (List.Sublist.cons_cons _ (List.Sublist.append_left (((List.Sublist.cons p (List.Sublist.append_left ((List.sublist_cons_self b G).trans (List.sublist_append_right Q _)) D)).trans (List.sublist_append_right V _)).trans (List.sublist_append_right O _)) L)))
end Go.Proofs.YtfddkcmooommeaaGreatDoor.Gl
end
section
namespace Go.Proofs.YtfddkcmooommeaaGreatDoor.Gl
open Go.RowKit Go.Shelf
set_option linter.unusedVariables false
set_option linter.unnecessarySimpa false
set_option linter.unusedSimpArgs false
attribute [-simp] List.getD_eq_getElem?_getD
def qVars (q : Qr) : List ByteArray := dd (q.vars.map kV ++ bS q.body q.body.length)
def planQuery (lim : Nat) (ts : List Tm) (q : Qr) (order srt : List Int) : PRes :=
 if mayQ q = true then
  if (planSteps lim (qVars q) ts 0 q.body order srt).2.2 = 0 then ⟨zRw, (planSteps lim (qVars q) ts 0 q.body order srt).1, (qVars q).length, 0, (planSteps lim (qVars q) ts 0 q.body order srt).2.1⟩ else ⟨zRw, [], 0, (planSteps lim (qVars q) ts 0 q.body order srt).2.2, (planSteps lim (qVars q) ts 0 q.body order srt).2.1⟩
 else ⟨zRw, [], 0, 2, ts⟩
theorem pq_bad {lim : Nat} {ts : List Tm} {q : Qr} {order srt : List Int} (h : mayQ q = false) : planQuery lim ts q order srt = ⟨zRw, [], 0, 2, ts⟩ := by unfold planQuery; rw [if_neg (by rw [h]; simp)]
theorem pq_full {lim : Nat} {ts : List Tm} {q : Qr} {order srt : List Int} (h : mayQ q = true) (h2 : ¬ (planSteps lim (qVars q) ts 0 q.body order srt).2.2 = 0) : planQuery lim ts q order srt = ⟨zRw, [], 0, (planSteps lim (qVars q) ts 0 q.body order srt).2.2, (planSteps lim (qVars q) ts 0 q.body order srt).2.1⟩ := by unfold planQuery; rw [if_pos h, if_neg h2]
theorem pq_ok {lim : Nat} {ts : List Tm} {q : Qr} {order srt : List Int} (h : mayQ q = true) (h2 : (planSteps lim (qVars q) ts 0 q.body order srt).2.2 = 0) : planQuery lim ts q order srt = ⟨zRw, (planSteps lim (qVars q) ts 0 q.body order srt).1, (qVars q).length, 0, (planSteps lim (qVars q) ts 0 q.body order srt).2.1⟩ := by unfold planQuery; rw [if_pos h, if_pos h2]
theorem mayQ_parts {q : Qr} (h : mayQ q = true) : headQ q = true ∧ (∀ l ∈ q.body, mayLt l = true) ∧ (∀ s ∈ dd (bS q.body q.body.length), memT q.body q.body.length s = true) ∧ okV (memT q.body q.body.length) [] q.vars = true := by
 unfold mayQ at h
 simp only [Bool.and_eq_true, List.all_eq_true] at h
 refine ⟨h.1, fun l hl => ?_, h.2.2.1, h.2.2.2⟩
 have := h.2.1 l hl
 unfold partQ at this
 rw [Bool.and_eq_true] at this
 exact this.1
theorem mayQ_body {q : Qr} (h : mayQ q = true) : ∀ l ∈ q.body, ∀ s ∈ stepSl l, emp s.v = true → mayT s.t = true := fun l hl => may_lt ((mayQ_parts h).2.1 l hl)
theorem mayQ_len {q : Qr} (h : mayQ q = true) : q.body.length ≤ 64 ∧ q.vars.length ≤ 32 := by
 have := (mayQ_parts h).1
 unfold headQ at this
 simp only [Bool.and_eq_true, decide_eq_true_eq] at this
 exact ⟨this.2.1, this.2.2.1⟩
theorem qVars_len (q : Qr) : (qVars q).length ≤ q.vars.length + 3 * q.body.length := by
 have h1 := dd_len (q.vars.map kV ++ bS q.body q.body.length)
 have h2 := bS_len q.body q.body.length
 rw [List.length_append, List.length_map] at h1
 unfold qVars
 omega
theorem plan_Query (w0 : World) (G : Hp) (HD : Hp) (ts : List Tm) (lim bD : Nat) (hD : Dic ts lim bD HD) (q : Qr) (vA bA : Option Addr) (vc bc : Nat) (hv : StAt w0 G vA q.vars) (hl : LtsAt w0 G bA q.body) (hvm : q.vars.length ≤ 1048576) (hbm : q.body.length ≤ 1048576) (hok : QrOk q)
  (oA : Option Addr) (order srt : List Int) (oc : Nat) (ho : IntsAt w0 G oA order) (hol : order.length ≤ 1000) (hsl : srt.length ≤ 1000) (hmem : ∀ z ∈ order, z ∈ srt) (hS : ∀ (b1 : Nat) (G0 : Hp), (b1, Know.exact (.cells #[.slice oA order.length oc] 32 (0, 0))) ∈ G0 → IntsAt w0 G0 oA order → GC Tryz.prog w0 57 #[.func (.func 89) #[] #[.pointer (some ⟨b1, 0, none⟩)]] (fun v G' => ∃ H, SlAt 1 3 (zC srt) srt.length v H ∧ H ++ G0 = G') G0) :
  GC Tryz.prog w0 22 #[.pointer (some ⟨bD, 0, none⟩), .agg (QrC q (.slice vA q.vars.length vc) (.slice bA q.body.length bc)).toArray, .slice oA order.length oc] (fun v G' => ∃ vs Ho HD', (v = .tuple #[.agg (planC (planQuery lim ts q order srt).head vs (planQuery lim ts q order srt).vars).toArray, .int .i64 (planQuery lim ts q order srt).e] ∧ SlAt 11 50 (stsC (planQuery lim ts q order srt).steps) (planQuery lim ts q order srt).steps.length vs Ho ∧ Dic (planQuery lim ts q order srt).ts lim bD HD') ∧ HD' ++ (Ho ++ G) = G') (HD ++ G) := by
 obtain ⟨va, ve, bt, nk, hmD⟩ := hD.mem
 refine GC.body (args := [.pointer (some ⟨bD, 0, none⟩), .agg (QrC q (.slice vA q.vars.length vc) (.slice bA q.body.length bc)).toArray, .slice oA order.length oc]) Tryz.func22 rfl (by kernel_rfl) rfl ?_
 refine GW.seq ?_
 refine GW.region ?_
 refine R.box ⟨Z,Z,Z,Z⟩ Z fun b4 => ?_
 refine R.alloc ⟨Z,Z,Z,Z⟩ Tryz.zeroValue41 fun b6 => ?_
 refine R.assign ⟨Z,Z,Z,Z⟩ Z ?_
 refine GOps.nil ?_
 refine GW.seq ?_
 refine GW.seq ?_
 refine GW.region ?_
 refine R.move ⟨Z,Z,Z,Z⟩ Z ?_
 refine R.build (vs := []) (cells := #[.int .i64 0, .string (ByteArray.mk #[]), .string (ByteArray.mk #[])]) ⟨Z,Z,Z,Z⟩ Z (fun w => run_build w 24 _ _ (by kernel_rfl)) ?_
 refine R.call ⟨Z,Z,Z,Z⟩ Z (vs := [_, _]) Z ((int_zero _ _ va ve bD bt lim nk (List.mem_cons_of_mem _ (List.mem_cons_of_mem _ (List.mem_append_left _ hmD)))).mono ?_)
 rintro _ _ ⟨rfl, rfl⟩
 refine R.move ⟨Z,Z,Z,Z⟩ Z ?_
 refine R.extract ⟨Z,Z,Z,Z⟩ Z Z ?_
 refine R.extract ⟨Z,Z,Z,Z⟩ Z Z ?_
 refine R.assign ⟨Z,Z,Z,Z⟩ Z ?_
 refine R.assign ⟨Z,Z,Z,Z⟩ Z ?_
 refine GOps.nil ?_
 refine GW.seq ?_
 refine GW.region ?_
 refine R.move ⟨Z,Z,Z,Z⟩ Z ?_
 refine R.eqI ⟨Z,Z,Z,Z⟩ Z Z ?_
 refine GOps.nil ?_
 refine GW.cond_f Z ?_
 refine GW.skip ?_
 refine GW.seq ?_
 refine GW.seq ?_
 refine GW.region ?_
 refine R.load_own (cs := QrC q (.slice vA q.vars.length vc) (.slice bA q.body.length bc)) ⟨Z,Z,Z,Z⟩ Z Tryz.underlying81 Z Tryz.sizeOf81 memG (by rfl) (by rfl) ?_
 refine R.call ⟨Z,Z,Z,Z⟩ Z (vs := [_]) Z ((q_May _ _ q vA bA vc bc (hv.mono (fun y hy => by repeat (first | exact hy | apply List.mem_cons_of_mem | apply List.mem_append_right))) (hl.mono (fun y hy => by repeat (first | exact hy | apply List.mem_cons_of_mem | apply List.mem_append_right))) hvm hbm hok).mono ?_)
 rintro _ _ ⟨rfl, rfl⟩
 refine R.not ⟨Z,Z,Z,Z⟩ Z ?_
 refine GOps.nil ?_
 refine GW.ite Z (fun hc1 => ?_) (fun hc1 => ?_)
 ·try simp only [dcQ] at hc1
  have hr0 : mayQ q = false := hc1
  refine GW.seq ?_
  refine GW.region ?_
  refine R.build (vs := []) (cells := (planC zRw (.slice none 0 0) 0).toArray) ⟨Z,Z,Z,Z⟩ Z (fun w => run_build w 41 _ _ (by kernel_rfl)) ?_
  refine R.storeAll (G1 := []) Z Z Z Z Z Tryz.sizeOf41 Z Z Z Z ?_
  refine R.assign ⟨Z,Z,Z,Z⟩ Z ?_
  refine GOps.nil ?_
  first | (rw [pq_bad hr0]; exact GW.ret (Out.of (resCellTmp rfl rfl rfl Tryz.underlying41 rfl Tryz.sizeOf41 (Rds.own (C := (planC zRw (.slice none 0 0) 0).toArray) memH 0 (planC zRw (.slice none 0 0) 0) (fun j v hv => by simpa using hv)) rfl) (Hs.tl2 _ _) ⟨.slice none 0 0, [], HD, ⟨rfl, .nil rfl rfl, hD⟩, rfl⟩)) | (rw [pq_full hr0 (by first | assumption | omega)]; exact GW.ret (Out.of (resCellTmp rfl rfl rfl Tryz.underlying41 rfl Tryz.sizeOf41 (Rds.own (C := (planC zRw (.slice none 0 0) 0).toArray) memH 0 (planC zRw (.slice none 0 0) 0) (fun j v hv => by simpa using hv)) rfl) (Hs.endY0 _ _ _ _ _ _ _ _) ⟨.slice none 0 0, [], HD3, ⟨rfl, .nil rfl rfl, hD3⟩, rfl⟩)) | (rw [pq_ok hr0 (by first | assumption | omega)]; exact GW.ret (Out.of (resCellTmp rfl rfl rfl Tryz.underlying41 rfl Tryz.sizeOf41 (Rds.own (C := (planC zRw (.slice A41 (planSteps lim (qVars q) ts 0 q.body order srt).1.length c41) (qVars q).length).toArray) memH 0 (planC zRw (.slice A41 (planSteps lim (qVars q) ts 0 q.body order srt).1.length c41) (qVars q).length) (fun j v hv => by simpa using hv)) rfl) (Hs.endY _ _ _ _ _ _ _ _) ⟨.slice A41 _ c41, Ho, HD3, ⟨rfl, hst, hD3⟩, rfl⟩))
 ·try simp only [dcQ] at hc1
  have hr0 : mayQ q = true := hc1
  refine GW.skip ?_
  refine GW.cutX (fun a : (Option Addr × Nat × Nat) × Hp => [(2, .slice oA order.length oc), (4, .pointer (some ⟨b4, 0, none⟩)), (6, .pointer (some ⟨b6, 0, none⟩)), (10, .pointer (some ⟨a.1.2.1, 0, none⟩))]) (fun a : (Option Addr × Nat × Nat) × Hp => (a.1.2.1, mkC bD a.1.1 (qVars q).length a.1.2.2 0) :: (HD ++ (a.2 ++ ((b6, .exact (.cells (planC zRw (.slice none 0 0) 0).toArray 41 (0, 0))) :: (b4, .exact (.cells (Value.agg (QrC q (.slice vA q.vars.length vc) (.slice bA q.body.length bc)).toArray).cells 81 (0, 0))) :: G)))) (fun a : (Option Addr × Nat × Nat) × Hp => StAt w0 (a.2 ++ []) a.1.1 (qVars q)) ?_ ?_
  ·refine GW.region ?_
   refine R.move ⟨Z,Z,Z,Z⟩ Z ?_
   refine R.load_own (cs := QrC q (.slice vA q.vars.length vc) (.slice bA q.body.length bc)) ⟨Z,Z,Z,Z⟩ Z Tryz.underlying81 Z Tryz.sizeOf81 memG (by rfl) (by rfl) ?_
   refine R.call ⟨Z,Z,Z,Z⟩ Z (vs := [_]) Z ((plan_VarsQ _ _ q vA bA vc bc (hv.mono (fun y hy => by repeat (first | exact hy | apply List.mem_cons_of_mem | apply List.mem_append_right))) (hl.mono (fun y hy => by repeat (first | exact hy | apply List.mem_cons_of_mem | apply List.mem_append_right))) hvm hbm hok).mono ?_)
   rintro v28 _ ⟨Hv, hv28, rfl⟩
   replace hv28 : SlAt 1 9 ((qVars q).map Value.string) (qVars q).length v28 Hv := hv28
   obtain ⟨Av, cv, rfl, hvs⟩ := hv28.strs w0 []
   have hvl := qVars_len q
   have hbl := mayQ_len hr0
   refine R.build (vs := [(0, _), (1, _)]) (cells := #[.pointer (some ⟨bD, 0, none⟩), .slice Av (qVars q).length cv, .int .i64 0]) ⟨Z,Z,Z,Z⟩ Z (fun w => run_build w 97 _ _ (by kernel_rfl)) ?_
   refine R.box ⟨Z,Z,Z,Z⟩ Z fun b30 => ?_
   refine R.assign ⟨Z,Z,Z,Z⟩ Z ?_
   refine GOps.nil ?_
   exact ⟨rfl, rfl, ((Av, b30, cv), Hv), hvs, keepG, Hs.newMk _ _ _ _ _ _⟩
  ·rintro ⟨⟨Av, b30, cv⟩, Hv⟩ hvs
   simp only at hvs
   have hvl := qVars_len q
   have hbl := mayQ_len hr0
   refine GW.seq ?_
   refine GW.region ?_
   refine R.move ⟨Z,Z,Z,Z⟩ Z ?_
   refine R.nilCheck ⟨Z,Z,Z,Z⟩ Z ?_
   refine R.fieldAddr ⟨Z,Z,Z,Z⟩ Z Tryz.underlying97 Z Tryz.sizeOf61 ?_
   refine R.load1 ⟨Z,Z,Z,Z⟩ Z Tryz.underlying61 Z (.own memH Z) ?_
   refine R.lenS ⟨Z,Z,Z,Z⟩ Z Z Tryz.underlying61 ?_
   refine R.build (vs := [(2, _)]) (cells := (planC zRw (.slice none 0 0) (qVars q).length).toArray) ⟨Z,Z,Z,Z⟩ Z (fun w => run_build w 41 _ _ (by kernel_rfl)) ?_
   refine R.alloc ⟨Z,Z,Z,Z⟩ Tryz.zeroValue41 fun b11 => ?_
   refine R.storeAll (G1 := []) Z Z Z Z Z Tryz.sizeOf41 Z Z Z Z ?_
   refine GOps.nil ?_
   refine GW.seq ?_
   refine GW.region ?_
   refine R.move ⟨Z,Z,Z,Z⟩ Z ?_
   refine R.fieldAddr ⟨Z,Z,Z,Z⟩ Z Tryz.underlying81 Z Tryz.sizeOf29 ?_
   refine R.load1 ⟨Z,Z,Z,Z⟩ Z Tryz.underlying29 Z (.own memH Z) ?_
   refine R.move ⟨Z,Z,Z,Z⟩ Z ?_
   refine GOps.weak (Keeps.refl _) (Hs.toM1 _ _ _ _) ?_
   refine R.call ⟨Z,Z,Z,Z⟩ Z (vs := [_, _, _]) Z ((plan_steps _ _ HD ts lim bD b30 cv Av (qVars q) 0 hD (hvs.mono (fun y hy => by rw [List.append_nil] at hy; repeat (first | exact List.mem_append_left _ hy | apply List.mem_cons_of_mem | apply List.mem_append_right))) (by omega) bA q.body bc (hl.mono (fun y hy => by repeat (first | exact hy | apply List.mem_cons_of_mem | apply List.mem_append_right))) (by omega) (mayQ_body hr0) oA order srt oc (ho.mono (fun y hy => by repeat (first | exact hy | apply List.mem_cons_of_mem | apply List.mem_append_right))) hol hsl hmem hS).mono ?_)
   rintro v41 _ ⟨HD3, Ho, ⟨hst, hD3⟩, rfl⟩
   refine GOps.weak (Keeps.refl _) (Hs.fromM1o _ _ _ _ _) ?_
   obtain ⟨A41, c41, rfl, hc41⟩ := hst.split
   refine R.fieldAddr ⟨Z,Z,Z,Z⟩ Z Tryz.underlying41 Z Tryz.sizeOf39 ?_
   refine R.store (G1 := []) Z Z Z Z Z Tryz.sizeOf39 Z Z (Z) (Nat.le_of_ble_eq_true Z) ?_
   refine GOps.nil ?_
   refine GW.seq ?_
   refine GW.seq ?_
   refine GW.region ?_
   refine R.move ⟨Z,Z,Z,Z⟩ Z ?_
   refine R.nilCheck ⟨Z,Z,Z,Z⟩ Z ?_
   refine R.fieldAddr ⟨Z,Z,Z,Z⟩ Z Tryz.underlying97 Z Tryz.sizeOf42 ?_
   refine R.load1 ⟨Z,Z,Z,Z⟩ Z Tryz.underlying42 Z (.own memH Z) ?_
   refine R.neI ⟨Z,Z,Z,Z⟩ Z Z ?_
   refine GOps.nil ?_
   refine GW.ite Z (fun hc2 => ?_) (fun hc2 => ?_)
   ·try simp only [dcQ] at hc2
    refine GW.weak (Keeps.refl _) (Hs.deep6 _ _ _ _ _ _ _ _) ?_
    refine GW.seq ?_
    refine GW.draw ((b30, mkC bD Av (qVars q).length cv (planSteps lim (qVars q) ts 0 q.body order srt).2.2) :: (Ho ++ (Hv ++ ((b4, .exact (.cells (Value.agg (QrC q (.slice vA q.vars.length vc) (.slice bA q.body.length bc)).toArray).cells 81 (0, 0))) :: G)))) 7 Z (by kernel_rfl) ?_
    refine GA.val 0 Z (V.build (vs := []) (cells := (planC zRw (.slice none 0 0) 0).toArray) ⟨Z,Z,Z,Z⟩ Z (fun w => run_build w 41 _ _ (by kernel_rfl))) Z (by kernel_rfl) (by kernel_rfl) (by kernel_rfl) ?_
    refine GA.w 1 Z (V.move ⟨Z,Z,Z,Z⟩ Z) Z ?_
    refine GA.w 2 Z (V.nilCheck ⟨Z,Z,Z,Z⟩ Z) Z ?_
    refine GA.w 3 Z (V.fieldAddr ⟨Z,Z,Z,Z⟩ Z Tryz.underlying97 Z Tryz.sizeOf42) Z ?_
    refine GA.val 4 Z (V.load1 ⟨Z,Z,Z,Z⟩ Z Tryz.underlying42 Z (.own memH Z)) Z (by kernel_rfl) (by kernel_rfl) (by kernel_rfl) ?_
    refine GA.one 5 (by first | exact Hs.gj11 _ _ _ _ _ | exact Hs.refl _ | exact Hs.tl _ | exact Hs.tl2 _ _ | exact Hs.tl3 _ _ _ | exact Hs.app _ | exact Hs.sub (by simp)) (by kernel_rfl) Z ?_
    refine R.storeAll (G1 := []) Z Z Z Z Z Tryz.sizeOf41 Z Z Z Z ?_
    refine GOps.nil ?_
    refine GA.w 6 Z (V.assign ⟨Z,Z,Z,Z⟩ Z) Z ?_
    refine GA.done (by first | exact Hs.gj11 _ _ _ _ _ | exact Hs.refl _ | exact Hs.tl _ | exact Hs.tl2 _ _ | exact Hs.tl3 _ _ _ | exact Hs.app _ | exact Hs.sub (by simp)) (by kernel_rfl) ?_
    first | (rw [pq_bad hr0]; exact GW.ret (Out.of (resCellTmp rfl rfl rfl Tryz.underlying41 rfl Tryz.sizeOf41 (Rds.own (C := (planC zRw (.slice none 0 0) 0).toArray) memH 0 (planC zRw (.slice none 0 0) 0) (fun j v hv => by simpa using hv)) rfl) (Hs.tl2 _ _) ⟨.slice none 0 0, [], HD, ⟨rfl, .nil rfl rfl, hD⟩, rfl⟩)) | (rw [pq_full hr0 (by first | assumption | omega)]; exact GW.ret (Out.of (resCellTmp rfl rfl rfl Tryz.underlying41 rfl Tryz.sizeOf41 (Rds.own (C := (planC zRw (.slice none 0 0) 0).toArray) memH 0 (planC zRw (.slice none 0 0) 0) (fun j v hv => by simpa using hv)) rfl) (Hs.endY0 _ _ _ _ _ _ _ _) ⟨.slice none 0 0, [], HD3, ⟨rfl, .nil rfl rfl, hD3⟩, rfl⟩)) | (rw [pq_ok hr0 (by first | assumption | omega)]; exact GW.ret (Out.of (resCellTmp rfl rfl rfl Tryz.underlying41 rfl Tryz.sizeOf41 (Rds.own (C := (planC zRw (.slice A41 (planSteps lim (qVars q) ts 0 q.body order srt).1.length c41) (qVars q).length).toArray) memH 0 (planC zRw (.slice A41 (planSteps lim (qVars q) ts 0 q.body order srt).1.length c41) (qVars q).length) (fun j v hv => by simpa using hv)) rfl) (Hs.endY _ _ _ _ _ _ _ _) ⟨.slice A41 _ c41, Ho, HD3, ⟨rfl, hst, hD3⟩, rfl⟩))
   ·try simp only [dcQ] at hc2
    refine GW.weak (Keeps.refl _) (Hs.deep6 _ _ _ _ _ _ _ _) ?_
    refine GW.skip ?_
    refine GW.seq ?_
    refine GW.region ?_
    refine R.load_own (cs := planC zRw (.slice A41 (planSteps lim (qVars q) ts 0 q.body order srt).1.length c41) (qVars q).length) ⟨Z,Z,Z,Z⟩ Z Tryz.underlying41 Z Tryz.sizeOf41 memG (by rfl) (by rfl) ?_
    refine R.storeAll (G1 := []) Z Z Z Z Z Tryz.sizeOf41 Z Z Z Z ?_
    refine R.assign ⟨Z,Z,Z,Z⟩ Z ?_
    refine GOps.nil ?_
    first | (rw [pq_bad hr0]; exact GW.ret (Out.of (resCellTmp rfl rfl rfl Tryz.underlying41 rfl Tryz.sizeOf41 (Rds.own (C := (planC zRw (.slice none 0 0) 0).toArray) memH 0 (planC zRw (.slice none 0 0) 0) (fun j v hv => by simpa using hv)) rfl) (Hs.tl2 _ _) ⟨.slice none 0 0, [], HD, ⟨rfl, .nil rfl rfl, hD⟩, rfl⟩)) | (rw [pq_full hr0 (by first | assumption | omega)]; exact GW.ret (Out.of (resCellTmp rfl rfl rfl Tryz.underlying41 rfl Tryz.sizeOf41 (Rds.own (C := (planC zRw (.slice none 0 0) 0).toArray) memH 0 (planC zRw (.slice none 0 0) 0) (fun j v hv => by simpa using hv)) rfl) (Hs.endY0 _ _ _ _ _ _ _ _) ⟨.slice none 0 0, [], HD3, ⟨rfl, .nil rfl rfl, hD3⟩, rfl⟩)) | (rw [pq_ok hr0 (by first | assumption | omega)]; exact GW.ret (Out.of (resCellTmp rfl rfl rfl Tryz.underlying41 rfl Tryz.sizeOf41 (Rds.own (C := (planC zRw (.slice A41 (planSteps lim (qVars q) ts 0 q.body order srt).1.length c41) (qVars q).length).toArray) memH 0 (planC zRw (.slice A41 (planSteps lim (qVars q) ts 0 q.body order srt).1.length c41) (qVars q).length) (fun j v hv => by simpa using hv)) rfl) (Hs.endY _ _ _ _ _ _ _ _) ⟨.slice A41 _ c41, Ho, HD3, ⟨rfl, hst, hD3⟩, rfl⟩))
end Go.Proofs.YtfddkcmooommeaaGreatDoor.Gl
end
section
namespace Go.Proofs.YtfddkcmooommeaaGreatDoor.Gl
open Go.RowKit Go.Shelf
set_option linter.unusedVariables false
set_option linter.unnecessarySimpa false
set_option linter.unusedSimpArgs false
attribute [-simp] List.getD_eq_getElem?_getD
theorem qBody_has (q : Qr) : ∀ l ∈ q.body, ∀ s ∈ stepSl l, HasV (qVars q) s := fun l hl s hs => hasV_of (by
 rw [stepSl_slots] at hs
 unfold bS
 rw [List.take_length]
 exact List.mem_append_right _ (List.mem_flatMap.2 ⟨l, hl, hs⟩))
theorem mayQ_ne {q : Qr} (h : mayQ q = true) : ∀ v ∈ q.vars, emp v = false := by
 have h0 := (mayQ_parts h).2.2.2
 have key : ∀ (vs acc : List ByteArray), okV (memT q.body q.body.length) acc vs = true → ∀ v ∈ vs, memT q.body q.body.length v = true := by
  intro vs
  induction vs with
  | nil => intro acc _ v hv; cases hv
  | cons y vs ih =>
   intro acc h v hv
   have h' : ((memT q.body q.body.length y && !inB acc y) && okV (memT q.body q.body.length) (acc ++ [y]) vs) = true := h
   simp only [Bool.and_eq_true] at h'
   rcases List.mem_cons.1 hv with rfl | hv
   ·exact h'.1.1
   ·exact ih _ h'.2 v hv
 intro v hv
 have hm := key q.vars [] h0 v hv
 unfold memT at hm
 rw [List.any_eq_true] at hm
 obtain ⟨l, _, hl⟩ := hm
 rw [Bool.and_eq_true] at hl
 have h2 := hl.2
 unfold anyS at h2
 rw [List.any_eq_true] at h2
 obtain ⟨t, _, ht⟩ := h2
 rw [Bool.and_eq_true] at ht
 have h3 : t.v = v := eqB_iff.1 ht.2
 rw [← h3]
 simpa using ht.1
theorem planQuery_same {lim : Nat} {ts : List Tm} {q : Qr} (order : List Int) (hm : mayQ q = true) (hl : ts.length + 3 * q.body.length ≤ lim) :
  (planQuery lim ts q order (srtZ order)).e = 0 ∧ (planQuery lim ts q order (srtZ order)).head = zRw ∧ (planQuery lim ts q order (srtZ order)).steps = (bodyW (qVars q) ts q.body order).1 ∧ (planQuery lim ts q order (srtZ order)).ts = (bodyW (qVars q) ts q.body order).2 ∧ (planQuery lim ts q order (srtZ order)).vars = (qVars q).length := by
 have hb : (planSteps lim (qVars q) ts 0 q.body order (srtZ order)).2.2 = 0 := (bodyTo_room hl _ (Nat.le_refl _)).1
 have hk : ∀ l ∈ q.body, kd l := fun l hl => kd_may ((mayQ_parts hm).2.1 l hl)
 obtain ⟨s1, s2⟩ := steps_same order hk (qBody_has q) (.inl ⟨rfl, rfl, by show ts.length ≤ lim; omega⟩) hb
 rw [pq_ok hm hb]
 exact ⟨rfl, rfl, s1, s2, rfl⟩
theorem planQuery_len {lim : Nat} {ts : List Tm} {q : Qr} {order srt : List Int} (hmem : ∀ z ∈ order, z ∈ srt) (hol : order.length ≤ 1000) (hb : q.body.length ≤ 1000) : (planQuery lim ts q order srt).steps.length ≤ 5000 := by
 unfold planQuery
 split
 ·split
  ·have hbo := BOk.all (lim := lim) (vars := qVars q) (ts := ts) (bad := 0) (body := q.body) q.body.length (Nat.le_refl _)
   have hl := hbo.len
   have hr := (run_ok (ms := (bodyTo lim (qVars q) ts 0 q.body q.body.length).m) (ord := ordF (bodyTo lim (qVars q) ts 0 q.body q.body.length).m.length order srt) (nv := (qVars q).length) (b := 2000) (q := ⟨List.replicate (qVars q).length false, (bodyTo lim (qVars q) ts 0 q.body q.body.length).w ++ (bodyTo lim (qVars q) ts 0 q.body q.body.length).n, []⟩) ⟨by simp, fun s hs => hbo.pl s (List.mem_append_right _ hs), by simp; omega⟩ _).2 (Nat.le_refl _)
   have hol2 : (ordF (bodyTo lim (qVars q) ts 0 q.body q.body.length).m.length order srt).length ≤ 1000 := by
    unfold ordF
    split
    ·exact hol
    ·simp; omega
   simp only [List.length_append, List.length_nil] at hr
   show (runTo _ _ _ _).o.length ≤ 5000
   omega
  ·simp
 ·simp
theorem plan_QueryO (w0 : World) (G : Hp) (HD : Hp) (ts : List Tm) (lim bD : Nat) (hD : Dic ts lim bD HD) (q : Qr) (vA bA : Option Addr) (vc bc : Nat) (hv : StAt w0 G vA q.vars) (hl : LtsAt w0 G bA q.body) (hvm : q.vars.length ≤ 1048576) (hbm : q.body.length ≤ 1048576) (hok : QrOk q) (oA : Option Addr) (order : List Int) (oc : Nat) (ho : IntsAt w0 G oA order) (hol : order.length ≤ 1000) :
  GC Tryz.prog w0 22 #[.pointer (some ⟨bD, 0, none⟩), .agg (QrC q (.slice vA q.vars.length vc) (.slice bA q.body.length bc)).toArray, .slice oA order.length oc] (fun v G' => ∃ vs Ho HD', (v = .tuple #[.agg (planC (planQuery lim ts q order (srtZ order)).head vs (planQuery lim ts q order (srtZ order)).vars).toArray, .int .i64 (planQuery lim ts q order (srtZ order)).e] ∧ SlAt 11 50 (stsC (planQuery lim ts q order (srtZ order)).steps) (planQuery lim ts q order (srtZ order)).steps.length vs Ho ∧ Dic (planQuery lim ts q order (srtZ order)).ts lim bD HD') ∧ HD' ++ (Ho ++ G) = G') (HD ++ G) :=
 plan_Query w0 G HD ts lim bD hD q vA bA vc bc hv hl hvm hbm hok oA order (srtZ order) oc ho hol (by rw [srtZ_len]; exact hol) (fun z hz => srtZ_mem.2 hz) (fun b1 G0 hm hx => sorted_own w0 G0 oA order oc b1 hm hx (by omega))
theorem Hs.wX (x p w : Nat × Know) (V D O L R : Hp) : Hs (x :: (V ++ (p :: (D ++ (O ++ (w :: (L ++ R))))))) (w :: (L ++ (x :: (V ++ (p :: (D ++ (O ++ R))))))) := Hs.perm (by
 have a : (x :: (V ++ (p :: (D ++ (O ++ (w :: (L ++ R))))))).Perm (w :: (x :: (V ++ (p :: (D ++ (O ++ (L ++ R))))))) := by
  have := @List.perm_middle _ w (x :: (V ++ (p :: (D ++ O)))) (L ++ R)
  simpa only [List.append_assoc, List.cons_append] using this
 have b : (x :: (V ++ (p :: (D ++ (O ++ (L ++ R)))))).Perm (L ++ (x :: (V ++ (p :: (D ++ (O ++ R)))))) := by
  have := (List.perm_append_comm (l₁ := x :: (V ++ (p :: (D ++ O)))) (l₂ := L)).append_right R
  simpa only [List.append_assoc, List.cons_append] using this
 exact (a.trans (b.cons w)).symm)
theorem law_PlanQueries (w0 : World) (G : Hp) (uA : Option Addr) (us : List Tm) (uc : Nat) (hu : TmsAt w0 G uA us) (hum : us.length ≤ 1048576) (huk : ∀ t ∈ us, TmOk t) (q : Qr) (vA bA : Option Addr) (vc bc : Nat) (hv : StAt w0 G vA q.vars) (hl : LtsAt w0 G bA q.body) (hvm : q.vars.length ≤ 1048576) (hbm : q.body.length ≤ 1048576) (hok : QrOk q) (hvc : q.vars.length ≤ vc) (oA : Option Addr) (order : List Int) (oc : Nat) (ho : IntsAt w0 G oA order) (hom : order.length ≤ 1048576) : GC Tryz.prog w0 7 #[.slice uA us.length uc, .agg (QrC q (.slice vA q.vars.length vc) (.slice bA q.body.length bc)).toArray, .slice oA order.length oc] (fun v G' => v = .bool true ∧ G = G') G := by
 refine GC.body (args := [.slice uA us.length uc, .agg (QrC q (.slice vA q.vars.length vc) (.slice bA q.body.length bc)).toArray, .slice oA order.length oc]) Tryz.func7 rfl (by kernel_rfl) rfl ?_
 refine GW.seq ?_
 refine GW.region ?_
 refine R.box ⟨Z,Z,Z,Z⟩ Z fun b4 => ?_
 refine R.assign ⟨Z,Z,Z,Z⟩ Z ?_
 refine GOps.nil ?_
 refine GW.seq ?_
 refine GW.cutS 33 (decide (¬ (us.length ≤ 30 ∧ q.body.length ≤ 20 ∧ q.vars.length ≤ 20 ∧ order.length ≤ 30))) [(0, .slice uA us.length uc), (2, .slice oA order.length oc), (4, .pointer (some ⟨b4, 0, none⟩))] ?_ ?_
 ·refine R.move ⟨Z,Z,Z,Z⟩ Z ?_
  refine R.lenS ⟨Z,Z,Z,Z⟩ Z Z Tryz.underlying53 ?_
  refine R.gtr ⟨Z,Z,Z,Z⟩ Z Z ?_
  refine R.move ⟨Z,Z,Z,Z⟩ Z ?_
  refine GOps.caseB 17 Z (fun hg1 => ?_) (fun hg1 => ?_)
  ·try simp only [dcQ] at hg1
   refine GOps.skip Z Z Z ?_
   refine GOps.skip Z Z Z ?_
   refine GOps.skip Z Z Z ?_
   refine GOps.skip Z Z Z ?_
   refine R.pick_t ⟨Z,Z,Z,Z⟩ Z Z ?_
   refine R.move ⟨Z,Z,Z,Z⟩ Z ?_
   refine GOps.skip Z Z Z ?_
   refine GOps.skip Z Z Z ?_
   refine GOps.skip Z Z Z ?_
   refine GOps.skip Z Z Z ?_
   refine R.pick_t ⟨Z,Z,Z,Z⟩ Z Z ?_
   refine R.move ⟨Z,Z,Z,Z⟩ Z ?_
   refine GOps.skip Z Z Z ?_
   refine GOps.skip Z Z Z ?_
   refine GOps.skip Z Z Z ?_
   refine R.pick_t ⟨Z,Z,Z,Z⟩ Z Z ?_
   refine GOps.nil ?_
   exact ⟨rfl, rfl, keepG, by first | exact Hs.refl _ | exact Hs.tl _, vbs (by rw [Bool.eq_iff_iff]; simp only [decide_eq_true_eq, decide_eq_false_iff_not, iff_true, true_iff, iff_false, false_iff, Bool.false_eq_true, Bool.true_eq_false] at *; omega)⟩
  ·try simp only [dcQ] at hg1
   refine R.fieldAddr ⟨Z,Z,Z,Z⟩ Z Tryz.underlying81 Z Tryz.sizeOf29 ?_
   refine R.load1 ⟨Z,Z,Z,Z⟩ Z Tryz.underlying29 Z (.own memH Z) ?_
   refine R.lenS ⟨Z,Z,Z,Z⟩ Z Z Tryz.underlying29 ?_
   refine R.gtr ⟨Z,Z,Z,Z⟩ Z Z ?_
   refine R.pick_f ⟨Z,Z,Z,Z⟩ Z Z ?_
   refine R.move ⟨Z,Z,Z,Z⟩ Z ?_
   refine GOps.caseB 23 Z (fun hg2 => ?_) (fun hg2 => ?_)
   ·try simp only [dcQ] at hg2
    refine GOps.skip Z Z Z ?_
    refine GOps.skip Z Z Z ?_
    refine GOps.skip Z Z Z ?_
    refine GOps.skip Z Z Z ?_
    refine R.pick_t ⟨Z,Z,Z,Z⟩ Z Z ?_
    refine R.move ⟨Z,Z,Z,Z⟩ Z ?_
    refine GOps.skip Z Z Z ?_
    refine GOps.skip Z Z Z ?_
    refine GOps.skip Z Z Z ?_
    refine R.pick_t ⟨Z,Z,Z,Z⟩ Z Z ?_
    refine GOps.nil ?_
    exact ⟨rfl, rfl, keepG, by first | exact Hs.refl _ | exact Hs.tl _, vbs (by rw [Bool.eq_iff_iff]; simp only [decide_eq_true_eq, decide_eq_false_iff_not, iff_true, true_iff, iff_false, false_iff, Bool.false_eq_true, Bool.true_eq_false] at *; omega)⟩
   ·try simp only [dcQ] at hg2
    refine R.fieldAddr ⟨Z,Z,Z,Z⟩ Z Tryz.underlying81 Z Tryz.sizeOf61 ?_
    refine R.load1 ⟨Z,Z,Z,Z⟩ Z Tryz.underlying61 Z (.own memH Z) ?_
    refine R.lenS ⟨Z,Z,Z,Z⟩ Z Z Tryz.underlying61 ?_
    refine R.gtr ⟨Z,Z,Z,Z⟩ Z Z ?_
    refine R.pick_f ⟨Z,Z,Z,Z⟩ Z Z ?_
    refine R.move ⟨Z,Z,Z,Z⟩ Z ?_
    refine GOps.caseB 29 Z (fun hg3 => ?_) (fun hg3 => ?_)
    ·try simp only [dcQ] at hg3
     refine GOps.skip Z Z Z ?_
     refine GOps.skip Z Z Z ?_
     refine GOps.skip Z Z Z ?_
     refine R.pick_t ⟨Z,Z,Z,Z⟩ Z Z ?_
     refine GOps.nil ?_
     exact ⟨rfl, rfl, keepG, by first | exact Hs.refl _ | exact Hs.tl _, vbs (by rw [Bool.eq_iff_iff]; simp only [decide_eq_true_eq, decide_eq_false_iff_not, iff_true, true_iff, iff_false, false_iff, Bool.false_eq_true, Bool.true_eq_false] at *; omega)⟩
    ·try simp only [dcQ] at hg3
     refine R.move ⟨Z,Z,Z,Z⟩ Z ?_
     refine R.lenS ⟨Z,Z,Z,Z⟩ Z Z Tryz.underlying32 ?_
     refine R.gtr ⟨Z,Z,Z,Z⟩ Z Z ?_
     refine R.pick_f ⟨Z,Z,Z,Z⟩ Z Z ?_
     refine GOps.nil ?_
     exact ⟨rfl, rfl, keepG, by first | exact Hs.refl _ | exact Hs.tl _, vbs (by rw [Bool.eq_iff_iff]; simp only [decide_eq_true_eq, decide_eq_false_iff_not, iff_true, true_iff, iff_false, false_iff, Bool.false_eq_true, Bool.true_eq_false] at *; omega)⟩
 ·refine GW.ite Z (fun hc4 => ?_) (fun hc4 => ?_)
  ·try simp only [dcQ] at hc4
   refine GW.seq ?_
   refine GW.region ?_
   refine R.call ⟨Z,Z,Z,Z⟩ Z (vs := []) Z ((law_known _ _).mono ?_)
   rintro _ _ ⟨rfl, rfl⟩
   refine R.assign ⟨Z,Z,Z,Z⟩ Z ?_
   refine GOps.nil ?_
   refine GW.ret (Out.of (Res.one Z Z) (by first | exact Hs.refl _ | (exact Hs.sub subG)) ⟨?_, Z⟩)
   first | rfl | (exfalso; omega)
  ·try simp only [dcQ] at hc4
   refine GW.skip ?_
   refine GW.seq ?_
   refine GW.region ?_
   refine R.move ⟨Z,Z,Z,Z⟩ Z ?_
   refine R.call ⟨Z,Z,Z,Z⟩ Z (vs := [_, _]) Z ((law_begin _ _ uA us uc (hu.mono (fun y hy => by repeat (first | exact hy | apply List.mem_cons_of_mem | apply List.mem_append_right))) (by omega) huk).mono ?_)
   rintro _ _ (⟨rfl, hmay, rfl⟩ | ⟨bD, HD, bW, vl, Hl, rfl, hmay, ⟨hD, hL⟩, rfl⟩)
   ·refine R.move ⟨Z,Z,Z,Z⟩ Z ?_
    refine R.extract ⟨Z,Z,Z,Z⟩ Z Z ?_
    refine R.extract ⟨Z,Z,Z,Z⟩ Z Z ?_
    refine R.extract ⟨Z,Z,Z,Z⟩ Z Z ?_
    refine R.assign ⟨Z,Z,Z,Z⟩ Z ?_
    refine R.assign ⟨Z,Z,Z,Z⟩ Z ?_
    refine R.assign ⟨Z,Z,Z,Z⟩ Z ?_
    refine GOps.nil ?_
    refine GW.seq ?_
    refine GW.seq ?_
    refine GW.region ?_
    refine R.move ⟨Z,Z,Z,Z⟩ Z ?_
    refine R.not ⟨Z,Z,Z,Z⟩ Z ?_
    refine GOps.nil ?_
    refine GW.cond_t Z ?_
    refine GW.seq ?_
    refine GW.region ?_
    refine R.call ⟨Z,Z,Z,Z⟩ Z (vs := []) Z ((law_known _ _).mono ?_)
    rintro _ _ ⟨rfl, rfl⟩
    refine R.assign ⟨Z,Z,Z,Z⟩ Z ?_
    refine GOps.nil ?_
    refine GW.ret (Out.of (Res.one Z Z) (by first | exact Hs.refl _ | (exact Hs.sub subG)) ⟨?_, Z⟩)
    first | rfl | (exfalso; omega)
   ·have hnl := numAll_le us us.length (Nat.le_refl _)
    rw [List.take_length] at hnl
    refine R.move ⟨Z,Z,Z,Z⟩ Z ?_
    refine R.extract ⟨Z,Z,Z,Z⟩ Z Z ?_
    refine R.extract ⟨Z,Z,Z,Z⟩ Z Z ?_
    refine R.extract ⟨Z,Z,Z,Z⟩ Z Z ?_
    refine R.assign ⟨Z,Z,Z,Z⟩ Z ?_
    refine R.assign ⟨Z,Z,Z,Z⟩ Z ?_
    refine R.assign ⟨Z,Z,Z,Z⟩ Z ?_
    refine GOps.nil ?_
    refine GW.seq ?_
    refine GW.seq ?_
    refine GW.region ?_
    refine R.move ⟨Z,Z,Z,Z⟩ Z ?_
    refine R.not ⟨Z,Z,Z,Z⟩ Z ?_
    refine GOps.nil ?_
    refine GW.cond_f Z ?_
    refine GW.skip ?_
    refine GW.seq ?_
    refine GW.region ?_
    refine R.move ⟨Z,Z,Z,Z⟩ Z ?_
    refine R.load_own (cs := QrC q (.slice vA q.vars.length vc) (.slice bA q.body.length bc)) ⟨Z,Z,Z,Z⟩ Z Tryz.underlying81 Z Tryz.sizeOf81 memG (by rfl) (by rfl) ?_
    refine R.move ⟨Z,Z,Z,Z⟩ Z ?_
    refine GOps.weak (Keeps.refl _) (Hs.dFront _ _ _ _) ?_
    refine R.call ⟨Z,Z,Z,Z⟩ Z (vs := [_, _, _]) Z ((plan_QueryO _ _ HD (numAll us) 1000 bD hD q vA bA vc bc (hv.mono (fun y hy => by repeat (first | exact hy | apply List.mem_cons_of_mem | apply List.mem_append_right))) (hl.mono (fun y hy => by repeat (first | exact hy | apply List.mem_cons_of_mem | apply List.mem_append_right))) hvm hbm hok oA order oc (ho.mono (fun y hy => by repeat (first | exact hy | apply List.mem_cons_of_mem | apply List.mem_append_right))) (by omega)).mono ?_)
    rintro _ _ ⟨vs, Ho, HD2, ⟨rfl, hst, hD2⟩, rfl⟩
    have hst0 := hst
    obtain ⟨As, cs, rfl, hss, hcs⟩ := hst.sts w0 []
    rw [List.append_nil] at hss
    obtain ⟨Al, cl, rfl, hcl⟩ := hL.split
    refine R.move ⟨Z,Z,Z,Z⟩ Z ?_
    refine R.extract ⟨Z,Z,Z,Z⟩ Z Z ?_
    refine R.extract ⟨Z,Z,Z,Z⟩ Z Z ?_
    refine R.alloc ⟨Z,Z,Z,Z⟩ Tryz.zeroValue41 fun b10 => ?_
    refine R.storeAll (G1 := []) Z Z Z Z Z Tryz.sizeOf41 Z Z Z Z ?_
    refine R.assign ⟨Z,Z,Z,Z⟩ Z ?_
    refine GOps.nil ?_
    refine GW.seq ?_
    refine GW.seq ?_
    refine GW.region ?_
    refine R.load_own (cs := QrC q (.slice vA q.vars.length vc) (.slice bA q.body.length bc)) ⟨Z,Z,Z,Z⟩ Z Tryz.underlying81 Z Tryz.sizeOf81 memG (by rfl) (by rfl) ?_
    refine R.call ⟨Z,Z,Z,Z⟩ Z (vs := [_]) Z ((ref07_May _ _ q vA bA vc bc (hv.mono (fun y hy => by repeat (first | exact hy | apply List.mem_cons_of_mem | apply List.mem_append_right))) (hl.mono (fun y hy => by repeat (first | exact hy | apply List.mem_cons_of_mem | apply List.mem_append_right))) hvm hbm hok hvc).mono ?_)
    rintro _ _ ⟨rfl, rfl⟩
    refine R.not ⟨Z,Z,Z,Z⟩ Z ?_
    refine GOps.nil ?_
    refine GW.ite Z (fun hc5 => ?_) (fun hc5 => ?_)
    ·try simp only [dcQ] at hc5
     replace hc5 : mayQ q = false := hc5
     have hpb := pq_bad (lim := 1000) (ts := numAll us) (order := order) (srt := srtZ order) hc5
     have hb1 : (planQuery 1000 (numAll us) q order (srtZ order)).head = zRw := by rw [hpb]
     have hb2 : (planQuery 1000 (numAll us) q order (srtZ order)).vars = 0 := by rw [hpb]
     have hb3 : (planQuery 1000 (numAll us) q order (srtZ order)).steps = [] := by rw [hpb]
     have hE2 : (planQuery 1000 (numAll us) q order (srtZ order)).e = 2 := by rw [hpb]
     have hts2 : (planQuery 1000 (numAll us) q order (srtZ order)).ts = numAll us := by rw [hpb]
     have hsl : (planQuery 1000 (numAll us) q order (srtZ order)).steps.length ≤ 100000 := by rw [hb3]; simp
     refine GW.seq ?_
     refine GW.drawS 21 Z (by kernel_rfl) ?_
     refine GA.w 0 Z (V.move ⟨Z,Z,Z,Z⟩ Z) Z ?_
     refine GA.val 1 Z (V.eqI ⟨Z,Z,Z,Z⟩ Z Z) Z (by kernel_rfl) (by kernel_rfl) (by kernel_rfl) ?_
     refine GA.w 2 Z (V.move ⟨Z,Z,Z,Z⟩ Z) Z ?_
     refine GA.caseB 56 Z (fun hg6 => ?_) (fun hg6 => ?_)
     ·try simp only [dcQ] at hg6
      refine GA.val 3 Z (V.loadA ⟨Z,Z,Z,Z⟩ Z Tryz.underlying41 Z Tryz.sizeOf41 (Rds.own (C := (planC (planQuery 1000 (numAll us) q order (srtZ order)).head (.slice As (planQuery 1000 (numAll us) q order (srtZ order)).steps.length cs) (planQuery 1000 (numAll us) q order (srtZ order)).vars).toArray) memH 0 _ (fun j v hv => by simpa using hv)) (by rfl)) Z (by kernel_rfl) (by kernel_rfl) (by kernel_rfl) ?_
      refine GA.val 4 Z (V.build (vs := []) (cells := (planC zRw (.slice none 0 0) 0).toArray) ⟨Z,Z,Z,Z⟩ Z (fun w => run_build w 41 _ _ (by kernel_rfl))) Z (by kernel_rfl) (by kernel_rfl) (by kernel_rfl) ?_
      refine GA.one 5 hsC (by kernel_rfl) Z ?_
      refine R.call ⟨Z,Z,Z,Z⟩ Z (vs := [_, _]) Z ((ref_SameP (ys := []) _ _ As none cs 0 (hss.mono (fun y hy => by repeat (first | exact List.mem_append_left _ hy | exact hy | apply List.mem_cons_of_mem | apply List.mem_append_right))) (fun i x hx => by simp at hx) (by omega) hcs (Nat.le_refl _) hb1 hb2 hb3).mono ?_)
      rintro _ _ ⟨rfl, rfl⟩
      refine GOps.nil ?_
      refine GA.w 6 Z (V.pick_t ⟨Z,Z,Z,Z⟩ Z Z) Z ?_
      refine GA.w 7 Z (V.move ⟨Z,Z,Z,Z⟩ Z) Z ?_
      refine GA.caseB 61 Z (fun hg7 => ?_) (fun hg7 => ?_)
      ·try simp only [dcQ] at hg7
       refine GA.w 8 Z (V.move ⟨Z,Z,Z,Z⟩ Z) Z ?_
       refine GA.w 10 Z (V.move ⟨Z,Z,Z,Z⟩ Z) Z ?_
       refine GA.w 11 Z (V.nilCheck ⟨Z,Z,Z,Z⟩ Z) Z ?_
       refine GA.w 12 Z (V.fieldAddr ⟨Z,Z,Z,Z⟩ Z Tryz.underlying60 Z Tryz.sizeOf53) Z ?_
       refine GA.val 13 Z (V.load1 ⟨Z,Z,Z,Z⟩ Z Tryz.underlying53 Z (.own memH Z)) Z (by kernel_rfl) (by kernel_rfl) (by kernel_rfl) ?_
       refine GA.w 14 Z (V.lenS ⟨Z,Z,Z,Z⟩ Z Z Tryz.underlying53) Z ?_
       refine GA.one 9 hsC (by kernel_rfl) Z ?_
       refine R.call ⟨Z,Z,Z,Z⟩ Z (vs := [_]) Z ((dic_len hD2 _ _ (fun x hx => List.mem_cons_of_mem _ (List.mem_append_left _ hx))).mono ?_)
       rintro _ _ ⟨rfl, rfl⟩
       refine GOps.nil ?_
       refine GA.val 15 Z (V.eqI ⟨Z,Z,Z,Z⟩ Z Z) Z (by kernel_rfl) (by kernel_rfl) (by kernel_rfl) ?_
       refine GA.w 16 Z (V.pick_t ⟨Z,Z,Z,Z⟩ Z Z) Z ?_
       refine GA.w 17 Z (V.move ⟨Z,Z,Z,Z⟩ Z) Z ?_
       refine GA.caseB 71 Z (fun hg8 => ?_) (fun hg8 => ?_)
       ·try simp only [dcQ] at hg8
        refine GA.one 18 hsC (by kernel_rfl) Z ?_
        refine R.call ⟨Z,Z,Z,Z⟩ Z (vs := []) Z ((law_known _ _).mono ?_)
        rintro _ _ ⟨rfl, rfl⟩
        refine GOps.nil ?_
        refine GA.w 19 Z (V.pick_t ⟨Z,Z,Z,Z⟩ Z Z) Z ?_
        refine GA.w 20 Z (V.assign ⟨Z,Z,Z,Z⟩ Z) Z ?_
        refine GA.done hsC (by kernel_rfl) ?_
        refine GW.ret (Out.of (Res.one Z Z) (by first | exact Hs.refl _ | (exact Hs.sub subG)) ⟨?_, Z⟩)
        first | rfl | (exfalso; omega)
       ·try simp only [dcQ] at hg8
        exfalso; rw [hts2] at hg8; simp at hg8
      ·try simp only [dcQ] at hg7
       exfalso; simp at hg7
     ·try simp only [dcQ] at hg6
      exact absurd hE2 (by assumption)
    ·try simp only [dcQ] at hc5
     have hm0 : mayQ q = true := hc5
     obtain ⟨hE, hq1, hq2, hq3, hq4⟩ := planQuery_same (lim := 1000) (ts := numAll us) order hm0 (by omega)
     have hsl := planQuery_len (lim := 1000) (ts := numAll us) (q := q) (order := order) (srt := srtZ order) (fun z hz => srtZ_mem.2 hz) (by omega) (by omega)
     have hvl := qVars_len q
     have hdl := hD2.len
     refine GW.skip ?_
     refine GW.seq ?_
     refine GW.region ?_
     refine R.load_own (cs := QrC q (.slice vA q.vars.length vc) (.slice bA q.body.length bc)) ⟨Z,Z,Z,Z⟩ Z Tryz.underlying81 Z Tryz.sizeOf81 memG (by rfl) (by rfl) ?_
     refine R.call ⟨Z,Z,Z,Z⟩ Z (vs := [_]) Z ((ref13_Vars _ _ q vA bA vc bc (hv.mono (fun y hy => by repeat (first | exact hy | apply List.mem_cons_of_mem | apply List.mem_append_right))) (hl.mono (fun y hy => by repeat (first | exact hy | apply List.mem_cons_of_mem | apply List.mem_append_right))) hvm hbm hok (mayQ_ne hm0)).mono ?_)
     rintro v75 _ ⟨Hv, hv75, rfl⟩
     replace hv75 : SlAt 1 9 ((qVars q).map Value.string) (qVars q).length v75 Hv := hv75
     obtain ⟨Av, cv, rfl, hvs⟩ := hv75.strs w0 []
     rw [List.append_nil] at hvs
     refine R.assign ⟨Z,Z,Z,Z⟩ Z ?_
     refine GOps.nil ?_
     refine GW.seq ?_
     refine GW.region ?_
     refine R.move ⟨Z,Z,Z,Z⟩ Z ?_
     refine R.lenS ⟨Z,Z,Z,Z⟩ Z Z Tryz.underlying61 ?_
     refine R.build (vs := [(2, _)]) (cells := (planC zRw (.slice none 0 0) (qVars q).length).toArray) ⟨Z,Z,Z,Z⟩ Z (fun w => run_build w 41 _ _ (by kernel_rfl)) ?_
     refine R.alloc ⟨Z,Z,Z,Z⟩ Tryz.zeroValue41 fun b13 => ?_
     refine R.storeAll (G1 := []) Z Z Z Z Z Tryz.sizeOf41 Z Z Z Z ?_
     refine GOps.nil ?_
     refine GW.seq ?_
     refine GW.region ?_
     refine R.move ⟨Z,Z,Z,Z⟩ Z ?_
     refine R.move ⟨Z,Z,Z,Z⟩ Z ?_
     refine R.fieldAddr ⟨Z,Z,Z,Z⟩ Z Tryz.underlying81 Z Tryz.sizeOf29 ?_
     refine R.load1 ⟨Z,Z,Z,Z⟩ Z Tryz.underlying29 Z (.own memH Z) ?_
     refine R.move ⟨Z,Z,Z,Z⟩ Z ?_
     refine GOps.weak (Keeps.refl _) (Hs.wX _ _ _ _ _ _ _ _) ?_
     refine R.call ⟨Z,Z,Z,Z⟩ Z (vs := [_, _, _, _]) Z ((ref_Body _ _ (numAll us) bW (.slice Al (numAll us).length cl) Hl hL (by omega) Av (qVars q) cv (hvs.mono (fun y hy => by repeat (first | exact List.mem_append_left _ hy | exact hy | apply List.mem_cons_of_mem | apply List.mem_append_right))) (by omega) bA q.body bc (hl.mono (fun y hy => by repeat (first | exact hy | apply List.mem_cons_of_mem | apply List.mem_append_right))) (by omega) oA order oc (ho.mono (fun y hy => by repeat (first | exact hy | apply List.mem_cons_of_mem | apply List.mem_append_right))) (by omega)).mono ?_)
     rintro v84 _ ⟨v3, Hl3, Hb, ⟨hbs, hL3⟩, rfl⟩
     refine GOps.weak (Keeps.refl _) (Hs.b13 _ _ _ _ _) ?_
     obtain ⟨Ab, cb, rfl, hbss, hcb⟩ := hbs.sts w0 []
     rw [List.append_nil] at hbss
     refine R.fieldAddr ⟨Z,Z,Z,Z⟩ Z Tryz.underlying41 Z Tryz.sizeOf39 ?_
     refine R.store (G1 := []) Z Z Z Z Z Tryz.sizeOf39 Z Z (Z) (Nat.le_of_ble_eq_true Z) ?_
     refine GOps.nil ?_
     refine GW.seq ?_
     refine GW.region ?_
     refine R.move ⟨Z,Z,Z,Z⟩ Z ?_
     refine R.eqI ⟨Z,Z,Z,Z⟩ Z Z ?_
     refine R.move ⟨Z,Z,Z,Z⟩ Z ?_
     refine GOps.caseB 88 Z (fun hg9 => ?_) (fun hg9 => ?_)
     ·try simp only [dcQ] at hg9
      refine R.load_own (cs := planC (planQuery 1000 (numAll us) q order (srtZ order)).head (.slice As (planQuery 1000 (numAll us) q order (srtZ order)).steps.length cs) (planQuery 1000 (numAll us) q order (srtZ order)).vars) ⟨Z,Z,Z,Z⟩ Z Tryz.underlying41 Z Tryz.sizeOf41 memG (by rfl) (by rfl) ?_
      refine R.load_own (cs := planC zRw (.slice Ab (bodyW (qVars q) (numAll us) q.body order).1.length cb) (qVars q).length) ⟨Z,Z,Z,Z⟩ Z Tryz.underlying41 Z Tryz.sizeOf41 memG (by rfl) (by rfl) ?_
      refine R.call ⟨Z,Z,Z,Z⟩ Z (vs := [_, _]) Z ((ref_SameP _ _ As Ab cs cb (hss.mono (fun y hy => by repeat (first | exact List.mem_append_left _ hy | exact hy | apply List.mem_cons_of_mem | apply List.mem_append_right))) (hbss.mono (fun y hy => by repeat (first | exact List.mem_append_left _ hy | exact hy | apply List.mem_cons_of_mem | apply List.mem_append_right))) (by omega) hcs hcb hq1 hq4 hq2).mono ?_)
      rintro _ _ ⟨rfl, rfl⟩
      refine R.pick_t ⟨Z,Z,Z,Z⟩ Z Z ?_
      refine R.move ⟨Z,Z,Z,Z⟩ Z ?_
      refine GOps.caseB 93 Z (fun hg10 => ?_) (fun hg10 => ?_)
      ·try simp only [dcQ] at hg10
       refine R.move ⟨Z,Z,Z,Z⟩ Z ?_
       refine R.move ⟨Z,Z,Z,Z⟩ Z ?_
       refine GOps.weak (Keeps.refl _) (Hs.numG _ _ _ _ _ _ _ _ _ _) ?_
       refine R.call ⟨Z,Z,Z,Z⟩ Z (vs := [_, _]) Z ((law_numbered _ _ 1000 bD bW HD2 v3 Hl3 hD2 hL3 (by omega) hq3).mono ?_)
       rintro _ _ ⟨rfl, rfl⟩
       refine R.pick_t ⟨Z,Z,Z,Z⟩ Z Z ?_
       refine R.move ⟨Z,Z,Z,Z⟩ Z ?_
       refine GOps.caseB 98 Z (fun hg11 => ?_) (fun hg11 => ?_)
       ·try simp only [dcQ] at hg11
        refine R.call ⟨Z,Z,Z,Z⟩ Z (vs := []) Z ((law_known _ _).mono ?_)
        rintro _ _ ⟨rfl, rfl⟩
        refine R.pick_t ⟨Z,Z,Z,Z⟩ Z Z ?_
        refine R.assign ⟨Z,Z,Z,Z⟩ Z ?_
        refine GOps.nil ?_
        refine GW.ret (Out.of (Res.one Z Z) (by first | exact Hs.refl _ | (exact Hs.sub subG)) ⟨?_, Z⟩)
        first | rfl | (exfalso; omega)
       ·try simp only [dcQ] at hg11
        exfalso; simp at hg11
      ·try simp only [dcQ] at hg10
       exfalso; simp at hg10
     ·try simp only [dcQ] at hg9
      exact absurd hE (by assumption)
end Go.Proofs.YtfddkcmooommeaaGreatDoor.Gl
end
section
namespace Go.Proofs.YtfddkcmooommeaaGreatDoor.Gl
open Go.ChangeShapes Go.WideShapes Go.ChangeAt Go.RowKit Go.Lib
set_option linter.unusedVariables false
set_option linter.unnecessarySimpa false
set_option linter.unusedSimpArgs false
theorem trod_Tms {w : World} {H : Type} {enc : TypeId × Value → H} {base : Nat} {spare : Nat → Bool} {held : Bool} {fuel : Nat} {cs : List Value} {x : DataW H × List MemPlace} (hb : Rows.uptoBulk x.1 ≤ 1048576) (h : DataW.trod enc Tryz.prog w base spare held fuel 53 cs = some x) :
  ∃ (A : Option Addr) (us : List Tm) (c : Nat), cs = [.slice A us.length c] ∧ us.length ≤ c ∧ c ≤ 9223372036854775807 ∧ us.length ≤ 1048576 ∧ TmsAt w [] A us ∧ ∀ t ∈ us, TmOk t := by
 obtain ⟨A, us, c, e2, h1, h2, h3, hr⟩ := trod_row (sz := 3) (fun t cs => cs = TmC t ∧ TmOk t) Tryz.underlying53 (by kernel_rfl) (by omega) hb h (fun n cs' y hy hz => by
  obtain ⟨t, e, a1, a2⟩ := trod_Tm hz
  exact ⟨t, e, by omega, by omega⟩)
 obtain ⟨hr1, hr2⟩ := row_all hr
 exact ⟨A, us, c, e2, h1, h2, h3, hr1, hr2⟩
theorem c4 : Tryz.prog.cellsOf 4 = 1 := by kernel_rfl
theorem c61 : Tryz.prog.cellsOf 61 = 1 := by kernel_rfl
theorem c81 : Tryz.prog.cellsOf 81 = 4 := by kernel_rfl
theorem trod_Qr {w : World} {H : Type} {enc : TypeId × Value → H} {base : Nat} {spare : Nat → Bool} {held : Bool} {fuel : Nat} {cs : List Value} {x : DataW H × List MemPlace} (hb : Rows.uptoBulk x.1 ≤ 1048576) (h : DataW.trod enc Tryz.prog w base spare held fuel 81 cs = some x) :
  ∃ (q : Qr) (vA bA : Option Addr) (vc bc : Nat), cs = QrC q (.slice vA q.vars.length vc) (.slice bA q.body.length bc) ∧ q.vars.length ≤ vc ∧ q.vars.length ≤ 1048576 ∧ q.body.length ≤ 1048576 ∧ StAt w [] vA q.vars ∧ LtsAt w [] bA q.body ∧ QrOk q := by
 obtain ⟨hl, f', xs, hm, hx⟩ := trod_struct Tryz.underlying81 h
 rw [c81] at hl
 simp only [List.mapM_cons, List.mapM_nil, c4, c61, c44, Option.bind_eq_bind, Option.bind_eq_some_iff, Option.pure_def, Option.some.injEq] at hm
 obtain ⟨a, ha, _, ⟨b, hb2, _, ⟨c, hc, _, ⟨d, hd, _, rfl, rfl⟩, rfl⟩, rfl⟩, rfl⟩ := hm
 rw [hx, bulk_agg] at hb
 have m3 := bulk_mem (List.map (fun x => x.1) [a, b, c, d]) c.1 (by simp)
 have m4 := bulk_mem (List.map (fun x => x.1) [a, b, c, d]) d.1 (by simp)
 obtain ⟨k, e0, _⟩ := DataW.trod_bool Tryz.underlying4 ha
 obtain ⟨k2, e1, _⟩ := DataW.trod_bool Tryz.underlying4 hb2
 obtain ⟨A, vs, vc, e2, h1, h2, h3, hr⟩ := trod_row (sz := 1) (fun s cs => cs = [.string s] ∧ s.size ≤ 1048576) Tryz.underlying61 (by kernel_rfl) (by omega) (by omega) hc (fun n cs' y hy hz => by
  obtain ⟨s, e, d1⟩ := trod_string Tryz.underlying9 hz
  refine ⟨s, e, ?_⟩
  rw [d1] at hy
  simp only [Rows.uptoBulk] at hy
  have : s.data.toList.length = s.size := by rw [Array.length_toList]; rfl
  omega)
 obtain ⟨hr1, hr2⟩ := row_all hr
 obtain ⟨B, ls, bc, e3, g1, g2, g3, gr⟩ := trod_row (fun l cs => cs = LtC l ∧ LtOk l) Tryz.underlying29 c43 (by omega) (by omega) hd (fun n cs' y hy hz => trod_Lt hy hz)
 obtain ⟨gr1, gr2⟩ := row_all gr
 refine ⟨⟨k, k2, vs, ls⟩, A, B, vc, bc, ?_, h1, h3, g3, hr1, gr1, hr2, gr2⟩
 have e : cs = (cs.drop 0).take (1 + (1 + (1 + 1))) := by rw [List.drop_zero, List.take_of_length_le (by omega)]
 rw [e, seg_app, seg_app, seg_app, e0, e1, e2, e3]
 rfl
set_option maxRecDepth 100000 in
theorem contract_PlanQueries (H : Type) (enc : TypeId × Value → H) (W : World) (base : Nat) (args : Array Value) (ds gs : List (DataW H)) (before : List MemPlace)
  (hval : ∀ (j : Nat) t v, Tryz.f7.params[j]? = some t → args[j]? = some v → Value.okWide Tryz.prog W .any base t v)
  (hW : DataW.Whole enc Tryz.prog Tryz.f7.params.toList Rows.planQueriesSpec.vars false W args.toList ds gs before) (hk : Rows.uptoSmall H (ds ++ gs) = true) :
  Calls Tryz.prog 7 args W fun e W' => ∃ v, e = .returned v ∧ Rows.planQueriesSpec.post enc Tryz.prog Tryz.f7 false true false false W args v W' := by
 have hW' := hW
 obtain ⟨p, q, hA0, hV, rfl, hfz, hnd⟩ := hW
 have hA : DataW.TrodAll enc Tryz.prog W 0 (fun _ => true) true Tryz.f7.params.toList args.toList ds p := hA0
 rw [Tryz.params7] at hA hval
 obtain ⟨v2, v0, v1, d2, d0, d1, p2, p0, p1, rfl, rfl, rfl, g2, h0, g1⟩ := trodAll_three hA
 obtain ⟨rfl, rfl⟩ := trodVars_none hV
 have hkb := of_decide_eq_true hk
 simp only [List.append_nil, Rows.uptoBulkAll] at hkb
 have h0' := h0
 have g1' := g1
 have g2' := g2
 obtain ⟨fuel, h0'⟩ := h0'
 obtain ⟨fuel1, g1'⟩ := g1'
 obtain ⟨fuel2, g2'⟩ := g2'
 obtain ⟨r, vA, bA, vc, bc, e, hvc, hvm, hbm, hv, hl, hok⟩ := trod_Qr (x := (d0, p0)) (by simp only; omega) h0'
 obtain ⟨oA, order, oc, e1, k1, k2, k3, ho⟩ := trod_Zs (x := (d1, p1)) (by simp only; omega) g1'
 obtain ⟨uA, us, uc, e2, m1, m2, m3, hu, huk⟩ := trod_Tms (x := (d2, p2)) (by simp only; omega) g2'
 obtain ⟨cs, rfl, _⟩ := okWide_struct Tryz.underlying81 (hval 1 81 v0 (by simp) (by simp))
 obtain rfl : v1 = .slice oA order.length oc := by
  obtain ⟨a, l, k, rfl⟩ := okWide_slice Tryz.underlying32 (hval 2 32 v1 (by simp) (by simp))
  simpa [Value.cells] using e1
 obtain rfl : v2 = .slice uA us.length uc := by
  obtain ⟨a, l, k, rfl⟩ := okWide_slice Tryz.underlying53 (hval 0 53 v2 (by simp) (by simp))
  simpa [Value.cells] using e2
 rw [agg_of e] at h0 hW' ⊢
 clear hA0
 simp only [List.append_nil] at hW'
 have walk := calls_of_GC (law_PlanQueries W [] uA us uc hu m3 huk r vA bA vc bc hv hl hvm hbm hok hvc oA order oc ho k3)
 refine walk.mono fun e W' ⟨v, G', he, hs, hv, _⟩ => ?_
 subst hv
 have hlt : ∀ x ∈ p2 ++ (p0 ++ p1), x.block < W.heap.size := fun x hx => by simpa using hW'.lt x (by simpa using hx)
 refine ⟨_, he, post_old (pa := p2 ++ (p0 ++ p1)) (pv := []) hW' (fun _ _ _ => trodAll_cons_mk (shut_bool Tryz.underlying4 _) trodAll_mk0) (fun sp hsp => ?_) (fun _ _ => rfl) (by simp) hs.below (ok_one (by kernel_rfl) rfl (okWide_bool_mk Tryz.underlying4 _))⟩
 rw [Tryz.params7]
 have h4 := trodAll_mk2 (WideElems.Trod_stays laidOut (by kernel_rfl) (of_decide_eq_true (by kernel_rfl)) h0 (fun x hx => hs.below.same (hlt x (List.mem_append_right _ (List.mem_append_left _ hx)))) (fun x hx => hsp x (by simp [hx]))) (WideElems.Trod_stays laidOut (by kernel_rfl) (of_decide_eq_true (by kernel_rfl)) g1 (fun x hx => hs.below.same (hlt x (List.mem_append_right _ (List.mem_append_right _ hx)))) (fun x hx => hsp x (by simp [hx])))
 exact trodAll_cons_mk (WideElems.Trod_stays laidOut (by kernel_rfl) (of_decide_eq_true (by kernel_rfl)) g2 (fun x hx => hs.below.same (hlt x (List.mem_append_left _ hx))) (fun x hx => hsp x (by simp [hx]))) h4
def noQr : Value := .agg #[.bool false, .bool false, .slice Option.none 0 0, .slice Option.none 0 0]
def noQrD {H : Type} : DataW H := .agg [.lit (.bool false), .lit (.bool false), .nil, .nil]
theorem reads_PlanQueries (os : Os) {H : Type} (enc : TypeId × Value → H) : ∃ places, DataW.whole enc Tryz.prog ((laidWorld os).forCall (fun _ _ => 0) ⟨#[], #[.slice Option.none 0 0, noQr, .slice Option.none 0 0], []⟩).memory Tryz.f7.params.toList Rows.planQueriesSpec.vars false #[.slice Option.none 0 0, noQr, .slice Option.none 0 0].toList 8 = some ([.nil, noQrD, .nil], [], places) :=
 ⟨[], by kernel_rfl⟩
set_option maxRecDepth 100000 in
theorem lifted_PlanQueries (os : Os) (started : os.Started) (H : Type) (enc : TypeId × Value → H) (F : Stop.Interp) :
  ReturnsInHanded {} Tryz.checked os 7 .any ((Rows.OpenSpec.upto Rows.planQueriesSpec).preRow enc Tryz.prog Tryz.f7 Rows.planQueriesUptoRow.domain false Rows.planQueriesUptoRow.laid) (((Rows.OpenSpec.upto Rows.planQueriesSpec).at F).post enc Tryz.prog Tryz.f7 false true false false) := by
 obtain ⟨places, hx⟩ := reads_PlanQueries os enc
 refine returnsInHanded_of_row (C := Tryz.checked) (s := Rows.OpenSpec.upto Rows.planQueriesSpec) ownK started (by kernel_rfl) Tryz.func7
  (witness_row_at (enc := enc) (C := Tryz.checked) false (laidWorld os) #[.slice Option.none 0 0, noQr, .slice Option.none 0 0] rfl (by kernel_rfl) (by kernel_rfl) (by kernel_rfl)
   (OpenSpec.preRow_of_cond 8 hx (by kernel_rfl) (fun k hk => by cases hk; kernel_rfl) (by kernel_rfl) (laid_met os _))) ?_
 intro W base args ds gs before hval hW _ hcond _ hL _ _
 first
  | exact contract_PlanQueries H enc W base args ds gs before hval hW (hcond _ rfl)
  | exact contract_PlanQueries H enc W base args ds gs before hval hW (by assumption)
set_option maxRecDepth 100000 in
theorem saidUpto_PlanQueries : Rows.PlanQueriesUptoSaid :=
 OpenClaim.holds_of_cond 7 Tryz.f7 rfl rfl rfl rfl rfl rfl rfl ⟨rfl, rfl, rfl, rfl, rfl⟩ rfl rfl rfl rfl rfl (by kernel_rfl) Tryz.func7 (by kernel_rfl)
  (of_decide_eq_true (by kernel_rfl)) (by unfold Func.isWrapper; first | (rw [if_pos (by decide +kernel)]; kernel_rfl) | (rw [if_neg (by decide +kernel)]; exact ⟨rfl, rfl⟩))
  (fun os started H enc _ F => by rw [OpenClaim.pre_eq_preRow]; exact lifted_PlanQueries os started H enc F)
theorem plain_PlanQueries (f : FuncId) (fn : Func) (hf : Tryz.pinned.checked.prog.funcNamed "rhizome/rhizomelaw13.PlanQueries" = some f) (hfn : Tryz.pinned.checked.prog.funcs[f]? = some fn) :
  false = Tryz.pinned.checked.prog.looks [] ∧ ∀ (j : Nat) t, fn.params[j]? = some t → Tryz.pinned.checked.prog.wantsStandIn t = false := by
 obtain rfl : f = 7 := Option.some.inj ((show Tryz.prog.funcNamed "rhizome/rhizomelaw13.PlanQueries" = some 7 by kernel_rfl).symm.trans hf) |>.symm
 obtain rfl : fn = Tryz.f7 := (Option.some.inj (Tryz.func7.symm.trans hfn)).symm
 refine ⟨by kernel_rfl, fun j t ht => ?_⟩
 rw [Tryz.params7] at ht
 have h22 : t = 53 ∨ t = 81 ∨ t = 32 := by simpa using Array.mem_of_getElem? ht
 rcases h22 with rfl | rfl | rfl
 ·exact (show Tryz.prog.wantsStandIn 53 = false by kernel_rfl)
 ·exact (show Tryz.prog.wantsStandIn 81 = false by kernel_rfl)
 ·exact (show Tryz.prog.wantsStandIn 32 = false by kernel_rfl)
set_option maxRecDepth 100000 in
theorem cardUpto_PlanQueries : Rows.PlanQueriesUptoCardSaid :=
 Claim7.holds_tied_plain_at .later [] _ _ _ _ saidUpto_PlanQueries (fun _ h => by cases h) (by kernel_rfl) (fun _ h => by cases h) planQueriesUpto_row_tie rfl ⟨rfl, rfl⟩ (by kernel_rfl) rfl plain_PlanQueries (by kernel_rfl)
end Go.Proofs.YtfddkcmooommeaaGreatDoor.Gl
end
