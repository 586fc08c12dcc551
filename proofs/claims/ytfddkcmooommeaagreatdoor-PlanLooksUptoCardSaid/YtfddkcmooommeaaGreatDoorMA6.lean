/- PlanLooks up to the bulk: the row and its card. -/
import Derived.Test.YtfddkcmooommeaaGreatDoorMA5
import Derived.Test.YtfddkcmooommeaaGreatDoorRows
import Derived.ChangeShapes
import Derived.Deep.Slices
import Derived.Test.YtfddkcmooommeaaGreatDoorCards
import Derived.Test.YtfddkcmooommeaaGreatDoorTie
import Derived.WalkKit
import Derived.ProofKit
import Derived.OpenShut
import Derived.Carry
import Derived.Deep.DeepHandedRow
import Derived.Lib.LaidTab
import Derived.Lib.LaidIn
import Derived.Lib.LaidU8T
section
namespace Go.Proofs.YtfddkcmooommeaaGreatDoor.Gl
open Go.RowKit Go.Shelf
set_option linter.unusedVariables false
set_option linter.unnecessarySimpa false
set_option linter.unusedSimpArgs false
attribute [-simp] List.getD_eq_getElem?_getD
theorem Hs.up1 (D O : Hp) (x y z w : Nat × Know) (R : Hp) : Hs (D ++ (O ++ (x :: y :: z :: w :: R))) (x :: (D ++ (O ++ (y :: z :: w :: R)))) := Hs.perm (by
  have h0 := @List.perm_middle _ x (D ++ O) (y :: z :: w :: R)
  simp only [List.append_assoc] at h0
  exact h0.symm)
theorem StsAt.mono {w0 : World} {G G' : Hp} {A : Option Addr} {ss : List St} (h : StsAt w0 G A ss) (hs : ∀ y ∈ G, y ∈ G') : StsAt w0 G' A ss := fun i x hx => by obtain ⟨b, o, cs, h1, h2, h3⟩ := h i x hx; exact ⟨b, o, cs, h1, h2, h3.mono hs⟩
theorem Hs.tlEq {b14 : Nat} {C D : Array Value} (h : C = D) (x : Nat × Know) (R : Hp) : Hs (x :: (b14, .exact (.cells C 68 (0, 0))) :: R) ((b14, .exact (.cells D 68 (0, 0))) :: R) := h ▸ Hs.tl x
theorem bne_self (n : Int) : (FloatKind.f64.format.order (flt n) (flt n) != some Ordering.eq) = false := by rw [flt_self]; rfl
theorem bne_zero : (FloatKind.f64.format.order 0 0 != some Ordering.eq) = false := by rw [zero_self]; rfl
theorem law_Looks (w0 : World) (G : Hp) (r : Rl) (bA : Option Addr) (bc : Nat) (a b : Int) (hl : LtsAt w0 G bA r.body) (hm : r.body.length ≤ 1048576) (hok : RlOk r) : GC Tryz.prog w0 5 #[.agg (RlC r.head (.slice bA r.body.length bc)).toArray, .int .i64 a, .int .i64 b] (fun v G' => v = .bool true ∧ G = G') G := by
  refine GC.body (args := [.agg (RlC r.head (.slice bA r.body.length bc)).toArray, .int .i64 a, .int .i64 b]) Tryz.func5 rfl (by kernel_rfl) rfl ?_
  refine GW.seq ?_
  refine GW.region ?_
  refine R.box ⟨rfl, rfl, rfl, rfl⟩ rfl fun b3 => ?_   -- type 31
  refine R.box ⟨rfl, rfl, rfl, rfl⟩ rfl fun b4 => ?_   -- type 3
  refine R.box ⟨rfl, rfl, rfl, rfl⟩ rfl fun b5 => ?_   -- type 3
  refine R.assign ⟨rfl, rfl, rfl, rfl⟩ rfl ?_
  refine GOps.nil ?_
  refine GW.seq ?_
  refine GW.cutS 41 (decide (¬ (r.body.length ≤ 20 ∧ ruleE r = 0 ∧ 0 ≤ a ∧ a ≤ 1000 ∧ 0 ≤ b ∧ b ≤ 1000))) [(3, .pointer (some ⟨b3, 0, none⟩)), (4, .pointer (some ⟨b4, 0, none⟩)), (5, .pointer (some ⟨b5, 0, none⟩))] ?_ ?_
  · refine R.fieldAddr ⟨rfl, rfl, rfl, rfl⟩ rfl Tryz.underlying31 rfl Tryz.sizeOf29 ?_   -- "Body"
    refine R.load1 ⟨rfl, rfl, rfl, rfl⟩ rfl Tryz.underlying29 rfl (.own (by repeat (first | exact List.mem_cons_self | apply List.mem_cons_of_mem | apply List.mem_append_right | exact List.mem_append_left _ List.mem_cons_self)) rfl) ?_   -- load 0 law.go:126
    refine R.lenS ⟨rfl, rfl, rfl, rfl⟩ rfl rfl Tryz.underlying29 ?_
    refine R.gtr ⟨rfl, rfl, rfl, rfl⟩ rfl rfl ?_   -- gtr ['t19', '20']
    refine R.move ⟨rfl, rfl, rfl, rfl⟩ rfl ?_
    refine GOps.caseB 21 rfl (fun hg1 => ?_) (fun hg1 => ?_)
    · try simp only [decide_eq_true_eq, decide_eq_false_iff_not, Bool.not_eq_true', Bool.not_eq_false'] at hg1
      refine GOps.skip rfl rfl rfl ?_
      refine GOps.skip rfl rfl rfl ?_
      refine GOps.skip rfl rfl rfl ?_
      refine R.pick_t ⟨rfl, rfl, rfl, rfl⟩ rfl rfl ?_
      refine R.move ⟨rfl, rfl, rfl, rfl⟩ rfl ?_
      refine GOps.skip rfl rfl rfl ?_
      refine GOps.skip rfl rfl rfl ?_
      refine R.pick_t ⟨rfl, rfl, rfl, rfl⟩ rfl rfl ?_
      refine R.move ⟨rfl, rfl, rfl, rfl⟩ rfl ?_
      refine GOps.skip rfl rfl rfl ?_
      refine GOps.skip rfl rfl rfl ?_
      refine R.pick_t ⟨rfl, rfl, rfl, rfl⟩ rfl rfl ?_
      refine R.move ⟨rfl, rfl, rfl, rfl⟩ rfl ?_
      refine GOps.skip rfl rfl rfl ?_
      refine GOps.skip rfl rfl rfl ?_
      refine R.pick_t ⟨rfl, rfl, rfl, rfl⟩ rfl rfl ?_
      refine R.move ⟨rfl, rfl, rfl, rfl⟩ rfl ?_
      refine GOps.skip rfl rfl rfl ?_
      refine GOps.skip rfl rfl rfl ?_
      refine R.pick_t ⟨rfl, rfl, rfl, rfl⟩ rfl rfl ?_
      refine GOps.nil ?_
      exact ⟨rfl, rfl, by repeat (first | exact Keeps.nil _ | refine Keeps.cons rfl ?_), by first | exact Hs.refl _ | exact Hs.tl _, vbs (by rw [Bool.eq_iff_iff]; simp only [decide_eq_true_eq, decide_eq_false_iff_not, iff_true, true_iff, iff_false, false_iff, Bool.false_eq_true, Bool.true_eq_false] at *; omega)⟩
    · try simp only [decide_eq_true_eq, decide_eq_false_iff_not, Bool.not_eq_true', Bool.not_eq_false'] at hg1
      refine R.load_own (cs := RlC r.head (.slice bA r.body.length bc)) ⟨rfl, rfl, rfl, rfl⟩ rfl Tryz.underlying31 rfl Tryz.sizeOf31 (by repeat (first | exact List.mem_cons_self | apply List.mem_cons_of_mem | apply List.mem_append_right)) (by rfl) (by rfl) ?_   -- load 1 law.go:126 t3:r
      refine R.call ⟨rfl, rfl, rfl, rfl⟩ rfl (vs := [_]) rfl ((ref_Rule _ _ r bA bc (hl.mono (fun y hy => by repeat (first | exact hy | apply List.mem_cons_of_mem | apply List.mem_append_right))) hm hok).mono ?_)
      rintro _ _ ⟨rfl, rfl⟩
      refine R.neI ⟨rfl, rfl, rfl, rfl⟩ rfl rfl ?_   -- neq ['t23', '0']
      refine R.pick_f ⟨rfl, rfl, rfl, rfl⟩ rfl rfl ?_
      refine R.move ⟨rfl, rfl, rfl, rfl⟩ rfl ?_
      refine GOps.caseB 26 rfl (fun hg2 => ?_) (fun hg2 => ?_)
      · try simp only [decide_eq_true_eq, decide_eq_false_iff_not, Bool.not_eq_true', Bool.not_eq_false'] at hg2
        refine GOps.skip rfl rfl rfl ?_
        refine GOps.skip rfl rfl rfl ?_
        refine R.pick_t ⟨rfl, rfl, rfl, rfl⟩ rfl rfl ?_
        refine R.move ⟨rfl, rfl, rfl, rfl⟩ rfl ?_
        refine GOps.skip rfl rfl rfl ?_
        refine GOps.skip rfl rfl rfl ?_
        refine R.pick_t ⟨rfl, rfl, rfl, rfl⟩ rfl rfl ?_
        refine R.move ⟨rfl, rfl, rfl, rfl⟩ rfl ?_
        refine GOps.skip rfl rfl rfl ?_
        refine GOps.skip rfl rfl rfl ?_
        refine R.pick_t ⟨rfl, rfl, rfl, rfl⟩ rfl rfl ?_
        refine R.move ⟨rfl, rfl, rfl, rfl⟩ rfl ?_
        refine GOps.skip rfl rfl rfl ?_
        refine GOps.skip rfl rfl rfl ?_
        refine R.pick_t ⟨rfl, rfl, rfl, rfl⟩ rfl rfl ?_
        refine GOps.nil ?_
        exact ⟨rfl, rfl, by repeat (first | exact Keeps.nil _ | refine Keeps.cons rfl ?_), by first | exact Hs.refl _ | exact Hs.tl _, vbs (by rw [Bool.eq_iff_iff]; simp only [decide_eq_true_eq, decide_eq_false_iff_not, iff_true, true_iff, iff_false, false_iff, Bool.false_eq_true, Bool.true_eq_false] at *; omega)⟩
      · try simp only [decide_eq_true_eq, decide_eq_false_iff_not, Bool.not_eq_true', Bool.not_eq_false'] at hg2
        refine R.load1 ⟨rfl, rfl, rfl, rfl⟩ rfl Tryz.underlying3 rfl (.own' (by repeat (first | exact List.mem_cons_self | apply List.mem_cons_of_mem | apply List.mem_append_right)) (by rfl)) ?_   -- load 2 law.go:126 t4:a
        refine R.lss ⟨rfl, rfl, rfl, rfl⟩ rfl rfl ?_   -- lss ['t27', '0']
        refine R.pick_f ⟨rfl, rfl, rfl, rfl⟩ rfl rfl ?_
        refine R.move ⟨rfl, rfl, rfl, rfl⟩ rfl ?_
        refine GOps.caseB 30 rfl (fun hg3 => ?_) (fun hg3 => ?_)
        · try simp only [decide_eq_true_eq, decide_eq_false_iff_not, Bool.not_eq_true', Bool.not_eq_false'] at hg3
          refine GOps.skip rfl rfl rfl ?_
          refine GOps.skip rfl rfl rfl ?_
          refine R.pick_t ⟨rfl, rfl, rfl, rfl⟩ rfl rfl ?_
          refine R.move ⟨rfl, rfl, rfl, rfl⟩ rfl ?_
          refine GOps.skip rfl rfl rfl ?_
          refine GOps.skip rfl rfl rfl ?_
          refine R.pick_t ⟨rfl, rfl, rfl, rfl⟩ rfl rfl ?_
          refine R.move ⟨rfl, rfl, rfl, rfl⟩ rfl ?_
          refine GOps.skip rfl rfl rfl ?_
          refine GOps.skip rfl rfl rfl ?_
          refine R.pick_t ⟨rfl, rfl, rfl, rfl⟩ rfl rfl ?_
          refine GOps.nil ?_
          exact ⟨rfl, rfl, by repeat (first | exact Keeps.nil _ | refine Keeps.cons rfl ?_), by first | exact Hs.refl _ | exact Hs.tl _, vbs (by rw [Bool.eq_iff_iff]; simp only [decide_eq_true_eq, decide_eq_false_iff_not, iff_true, true_iff, iff_false, false_iff, Bool.false_eq_true, Bool.true_eq_false] at *; omega)⟩
        · try simp only [decide_eq_true_eq, decide_eq_false_iff_not, Bool.not_eq_true', Bool.not_eq_false'] at hg3
          refine R.load1 ⟨rfl, rfl, rfl, rfl⟩ rfl Tryz.underlying3 rfl (.own' (by repeat (first | exact List.mem_cons_self | apply List.mem_cons_of_mem | apply List.mem_append_right)) (by rfl)) ?_   -- load 3 law.go:126 t4:a
          refine R.gtr ⟨rfl, rfl, rfl, rfl⟩ rfl rfl ?_   -- gtr ['t31', '1000']
          refine R.pick_f ⟨rfl, rfl, rfl, rfl⟩ rfl rfl ?_
          refine R.move ⟨rfl, rfl, rfl, rfl⟩ rfl ?_
          refine GOps.caseB 34 rfl (fun hg4 => ?_) (fun hg4 => ?_)
          · try simp only [decide_eq_true_eq, decide_eq_false_iff_not, Bool.not_eq_true', Bool.not_eq_false'] at hg4
            refine GOps.skip rfl rfl rfl ?_
            refine GOps.skip rfl rfl rfl ?_
            refine R.pick_t ⟨rfl, rfl, rfl, rfl⟩ rfl rfl ?_
            refine R.move ⟨rfl, rfl, rfl, rfl⟩ rfl ?_
            refine GOps.skip rfl rfl rfl ?_
            refine GOps.skip rfl rfl rfl ?_
            refine R.pick_t ⟨rfl, rfl, rfl, rfl⟩ rfl rfl ?_
            refine GOps.nil ?_
            exact ⟨rfl, rfl, by repeat (first | exact Keeps.nil _ | refine Keeps.cons rfl ?_), by first | exact Hs.refl _ | exact Hs.tl _, vbs (by rw [Bool.eq_iff_iff]; simp only [decide_eq_true_eq, decide_eq_false_iff_not, iff_true, true_iff, iff_false, false_iff, Bool.false_eq_true, Bool.true_eq_false] at *; omega)⟩
          · try simp only [decide_eq_true_eq, decide_eq_false_iff_not, Bool.not_eq_true', Bool.not_eq_false'] at hg4
            refine R.load1 ⟨rfl, rfl, rfl, rfl⟩ rfl Tryz.underlying3 rfl (.own' (by repeat (first | exact List.mem_cons_self | apply List.mem_cons_of_mem | apply List.mem_append_right)) (by rfl)) ?_   -- load 4 law.go:126 t5:b
            refine R.lss ⟨rfl, rfl, rfl, rfl⟩ rfl rfl ?_   -- lss ['t35', '0']
            refine R.pick_f ⟨rfl, rfl, rfl, rfl⟩ rfl rfl ?_
            refine R.move ⟨rfl, rfl, rfl, rfl⟩ rfl ?_
            refine GOps.caseB 38 rfl (fun hg5 => ?_) (fun hg5 => ?_)
            · try simp only [decide_eq_true_eq, decide_eq_false_iff_not, Bool.not_eq_true', Bool.not_eq_false'] at hg5
              refine GOps.skip rfl rfl rfl ?_
              refine GOps.skip rfl rfl rfl ?_
              refine R.pick_t ⟨rfl, rfl, rfl, rfl⟩ rfl rfl ?_
              refine GOps.nil ?_
              exact ⟨rfl, rfl, by repeat (first | exact Keeps.nil _ | refine Keeps.cons rfl ?_), by first | exact Hs.refl _ | exact Hs.tl _, vbs (by rw [Bool.eq_iff_iff]; simp only [decide_eq_true_eq, decide_eq_false_iff_not, iff_true, true_iff, iff_false, false_iff, Bool.false_eq_true, Bool.true_eq_false] at *; omega)⟩
            · try simp only [decide_eq_true_eq, decide_eq_false_iff_not, Bool.not_eq_true', Bool.not_eq_false'] at hg5
              refine R.load1 ⟨rfl, rfl, rfl, rfl⟩ rfl Tryz.underlying3 rfl (.own' (by repeat (first | exact List.mem_cons_self | apply List.mem_cons_of_mem | apply List.mem_append_right)) (by rfl)) ?_   -- load 5 law.go:126 t5:b
              refine R.gtr ⟨rfl, rfl, rfl, rfl⟩ rfl rfl ?_   -- gtr ['t39', '1000']
              refine R.pick_f ⟨rfl, rfl, rfl, rfl⟩ rfl rfl ?_
              refine GOps.nil ?_
              exact ⟨rfl, rfl, by repeat (first | exact Keeps.nil _ | refine Keeps.cons rfl ?_), by first | exact Hs.refl _ | exact Hs.tl _, vbs (by rw [Bool.eq_iff_iff]; simp only [decide_eq_true_eq, decide_eq_false_iff_not, iff_true, true_iff, iff_false, false_iff, Bool.false_eq_true, Bool.true_eq_false] at *; omega)⟩
  · refine GW.ite rfl (fun hc6 => ?_) (fun hc6 => ?_)
    · try simp only [decide_eq_true_eq, decide_eq_false_iff_not, Bool.not_eq_true', Bool.not_eq_false'] at hc6
      refine GW.seq ?_
      refine GW.region ?_
      refine R.call ⟨rfl, rfl, rfl, rfl⟩ rfl (vs := []) rfl ((law_known _ _).mono ?_)
      rintro _ _ ⟨rfl, rfl⟩
      refine R.assign ⟨rfl, rfl, rfl, rfl⟩ rfl ?_
      refine GOps.nil ?_
      refine GW.ret (Out.of (Res.one rfl rfl) (by first | exact Hs.refl _ | (exact Hs.sub (by repeat (first | exact List.Sublist.refl _ | apply List.Sublist.cons | refine List.Sublist.trans ?_ (List.sublist_append_right _ _))))) ⟨?_, rfl⟩)
      first | rfl | (exfalso; omega) | (exfalso; exact absurd hlv (by assumption)) | (exfalso; exact Bool.noConfusion (hb1.symm.trans (by assumption))) | (exfalso; exact Bool.noConfusion (hb0.symm.trans (by assumption)))
    · try simp only [decide_eq_true_eq, decide_eq_false_iff_not, Bool.not_eq_true', Bool.not_eq_false'] at hc6
      refine GW.skip ?_
      refine GW.cutX (fun q0 : (Nat × Value) × (Hp × Hp) => [(4, .pointer (some ⟨b4, 0, none⟩)), (5, .pointer (some ⟨b5, 0, none⟩)), (7, .pointer (some ⟨q0.1.1, 0, none⟩)), (8, .int .i64 (planRule 1000 [] r [] []).e)]) (fun q0 : (Nat × Value) × (Hp × Hp) => (q0.1.1, .exact (.cells (planC (planRule 1000 [] r [] []).head q0.1.2 (planRule 1000 [] r [] []).vars).toArray 41 (0, 0))) :: (q0.2.1 ++ (q0.2.2 ++ ((b5, .exact (.cells #[.int .i64 b] 3 (0, 0))) :: (b4, .exact (.cells #[.int .i64 a] 3 (0, 0))) :: (b3, .exact (.cells (Value.agg (RlC r.head (.slice bA r.body.length bc)).toArray).cells 31 (0, 0))) :: G)))) (fun q0 : (Nat × Value) × (Hp × Hp) => SlAt 11 50 (stsC (planRule 1000 [] r [] []).steps) (planRule 1000 [] r [] []).steps.length q0.1.2 q0.2.2) ?_ ?_
      · refine GW.draw ((b5, .exact (.cells #[.int .i64 b] 3 (0, 0))) :: (b4, .exact (.cells #[.int .i64 a] 3 (0, 0))) :: (b3, .exact (.cells (Value.agg (RlC r.head (.slice bA r.body.length bc)).toArray).cells 31 (0, 0))) :: G) 9 rfl (by kernel_rfl) ?_
        refine GA.val 1 rfl (V.load_own (cs := RlC r.head (.slice bA r.body.length bc)) ⟨rfl, rfl, rfl, rfl⟩ rfl Tryz.underlying31 rfl Tryz.sizeOf31 (by repeat (first | exact List.mem_cons_self | apply List.mem_cons_of_mem | apply List.mem_append_right)) (by rfl) (by rfl)) rfl (by kernel_rfl) (by kernel_rfl) (by kernel_rfl) ?_   -- load 6 law.go:129 t3:r
        refine GA.two 0 6 (by first | exact Hs.sub (by repeat (first | exact List.Sublist.refl _ | apply List.Sublist.cons | refine List.Sublist.trans ?_ (List.sublist_append_right _ _))) | exact Hs.refl _ | exact Hs.tl _ | exact Hs.tl2 _ _ | exact Hs.tl3 _ _ _ | exact Hs.app _ | exact Hs.sub (by simp)) (by kernel_rfl) rfl rfl ?_ ?_
        · refine R.call ⟨rfl, rfl, rfl, rfl⟩ rfl (vs := [_]) rfl ((dict_New _ _ 1000 (by decide)).mono ?_)
          rintro _ _ ⟨bD, HD, ⟨rfl, hD⟩, rfl⟩
          refine GOps.nil ?_
          refine GA.two 2 6 (by first | exact Hs.sub (by repeat (first | exact List.Sublist.refl _ | apply List.Sublist.cons | refine List.Sublist.trans ?_ (List.sublist_append_right _ _))) | exact Hs.refl _ | exact Hs.tl _ | exact Hs.tl2 _ _ | exact Hs.tl3 _ _ _ | exact Hs.app _ | exact Hs.sub (by simp)) (by kernel_rfl) rfl rfl ?_ ?_
          · first | refine GOps.weak (Keeps.refl _) (Hs.perm (pm1 _ _ _)) ?_ | skip
            refine R.call ⟨rfl, rfl, rfl, rfl⟩ rfl (vs := [_, _, _]) rfl ((plan_Rule0 _ _ HD [] 1000 bD hD r bA bc (hl.mono (fun y hy => by repeat (first | exact hy | apply List.mem_cons_of_mem | apply List.mem_append_right))) (by omega) hok).mono ?_)
            rintro _ _ ⟨vs, Ho, HD2, ⟨rfl, hst, hD2⟩, rfl⟩
            first | refine GOps.weak (Keeps.refl _) (Hs.up1 _ _ _ _ _ _ _) ?_ | skip
            obtain ⟨As0, cs0, rfl, hcs0⟩ := hst.split
            refine GOps.nil ?_
            refine GA.val 3 rfl (V.move ⟨rfl, rfl, rfl, rfl⟩ rfl) rfl (by kernel_rfl) (by kernel_rfl) (by kernel_rfl) ?_
            refine GA.val 4 rfl (V.extract ⟨rfl, rfl, rfl, rfl⟩ rfl rfl) rfl (by kernel_rfl) (by kernel_rfl) (by kernel_rfl) ?_
            refine GA.val 5 rfl (V.extract ⟨rfl, rfl, rfl, rfl⟩ rfl rfl) rfl (by kernel_rfl) (by kernel_rfl) (by kernel_rfl) ?_
            refine GA.one 6 (by first | exact Hs.sub (by repeat (first | exact List.Sublist.refl _ | apply List.Sublist.cons | refine List.Sublist.trans ?_ (List.sublist_append_right _ _))) | exact Hs.refl _ | exact Hs.tl _ | exact Hs.tl2 _ _ | exact Hs.tl3 _ _ _ | exact Hs.app _ | exact Hs.sub (by simp)) (by kernel_rfl) rfl ?_
            refine R.alloc ⟨rfl, rfl, rfl, rfl⟩ Tryz.zeroValue41 fun b7 => ?_
            refine GOps.nil ?_
            refine GA.one 7 (by first | exact Hs.sub (by repeat (first | exact List.Sublist.refl _ | apply List.Sublist.cons | refine List.Sublist.trans ?_ (List.sublist_append_right _ _))) | exact Hs.refl _ | exact Hs.tl _ | exact Hs.tl2 _ _ | exact Hs.tl3 _ _ _ | exact Hs.app _ | exact Hs.sub (by simp)) (by kernel_rfl) rfl ?_
            refine R.storeAll (G1 := []) rfl rfl rfl rfl rfl Tryz.sizeOf41 rfl rfl rfl rfl ?_   -- t7:p
            refine GOps.nil ?_
            refine GA.val 8 rfl (V.assign ⟨rfl, rfl, rfl, rfl⟩ rfl) rfl (by kernel_rfl) (by kernel_rfl) (by kernel_rfl) ?_
            refine GA.done (by first | exact Hs.sub (by repeat (first | exact List.Sublist.refl _ | apply List.Sublist.cons | refine List.Sublist.trans ?_ (List.sublist_append_right _ _))) | exact Hs.refl _ | exact Hs.tl _ | exact Hs.tl2 _ _ | exact Hs.tl3 _ _ _ | exact Hs.app _ | exact Hs.sub (by simp)) (by kernel_rfl) ?_
            exact ⟨rfl, rfl, ((b7, _), (HD2, Ho)), hst, by repeat (first | exact Keeps.nil _ | refine Keeps.cons rfl ?_), Hs.refl _⟩
          · refine R.alloc ⟨rfl, rfl, rfl, rfl⟩ Tryz.zeroValue41 fun b7 => ?_
            refine GOps.nil ?_
            refine GA.one 2 (by first | exact Hs.sub (by repeat (first | exact List.Sublist.refl _ | apply List.Sublist.cons | refine List.Sublist.trans ?_ (List.sublist_append_right _ _))) | exact Hs.refl _ | exact Hs.tl _ | exact Hs.tl2 _ _ | exact Hs.tl3 _ _ _ | exact Hs.app _ | exact Hs.sub (by simp)) (by kernel_rfl) rfl ?_
            first | refine GOps.weak (Keeps.refl _) (Hs.perm (pm1 _ _ _)) ?_ | skip
            refine R.call ⟨rfl, rfl, rfl, rfl⟩ rfl (vs := [_, _, _]) rfl ((plan_Rule0 _ _ HD [] 1000 bD hD r bA bc (hl.mono (fun y hy => by repeat (first | exact hy | apply List.mem_cons_of_mem | apply List.mem_append_right))) (by omega) hok).mono ?_)
            rintro _ _ ⟨vs, Ho, HD2, ⟨rfl, hst, hD2⟩, rfl⟩
            first | refine GOps.weak (Keeps.refl _) (Hs.up1 _ _ _ _ _ _ _) ?_ | skip
            obtain ⟨As0, cs0, rfl, hcs0⟩ := hst.split
            refine GOps.nil ?_
            refine GA.val 3 rfl (V.move ⟨rfl, rfl, rfl, rfl⟩ rfl) rfl (by kernel_rfl) (by kernel_rfl) (by kernel_rfl) ?_
            refine GA.val 4 rfl (V.extract ⟨rfl, rfl, rfl, rfl⟩ rfl rfl) rfl (by kernel_rfl) (by kernel_rfl) (by kernel_rfl) ?_
            refine GA.val 5 rfl (V.extract ⟨rfl, rfl, rfl, rfl⟩ rfl rfl) rfl (by kernel_rfl) (by kernel_rfl) (by kernel_rfl) ?_
            refine GA.one 7 (by first | exact Hs.sub (by repeat (first | exact List.Sublist.refl _ | apply List.Sublist.cons | refine List.Sublist.trans ?_ (List.sublist_append_right _ _))) | exact Hs.refl _ | exact Hs.tl _ | exact Hs.tl2 _ _ | exact Hs.tl3 _ _ _ | exact Hs.app _ | exact Hs.sub (by simp)) (by kernel_rfl) rfl ?_
            refine R.storeAll (G1 := []) rfl rfl rfl rfl rfl Tryz.sizeOf41 rfl rfl rfl rfl ?_   -- t7:p
            refine GOps.nil ?_
            refine GA.val 8 rfl (V.assign ⟨rfl, rfl, rfl, rfl⟩ rfl) rfl (by kernel_rfl) (by kernel_rfl) (by kernel_rfl) ?_
            refine GA.done (by first | exact Hs.sub (by repeat (first | exact List.Sublist.refl _ | apply List.Sublist.cons | refine List.Sublist.trans ?_ (List.sublist_append_right _ _))) | exact Hs.refl _ | exact Hs.tl _ | exact Hs.tl2 _ _ | exact Hs.tl3 _ _ _ | exact Hs.app _ | exact Hs.sub (by simp)) (by kernel_rfl) ?_
            exact ⟨rfl, rfl, ((b7, _), (HD2, Ho)), hst, by repeat (first | exact Keeps.nil _ | refine Keeps.cons rfl ?_), Hs.refl _⟩
        · refine R.alloc ⟨rfl, rfl, rfl, rfl⟩ Tryz.zeroValue41 fun b7 => ?_
          refine GOps.nil ?_
          refine GA.one 0 (by first | exact Hs.sub (by repeat (first | exact List.Sublist.refl _ | apply List.Sublist.cons | refine List.Sublist.trans ?_ (List.sublist_append_right _ _))) | exact Hs.refl _ | exact Hs.tl _ | exact Hs.tl2 _ _ | exact Hs.tl3 _ _ _ | exact Hs.app _ | exact Hs.sub (by simp)) (by kernel_rfl) rfl ?_
          refine R.call ⟨rfl, rfl, rfl, rfl⟩ rfl (vs := [_]) rfl ((dict_New _ _ 1000 (by decide)).mono ?_)
          rintro _ _ ⟨bD, HD, ⟨rfl, hD⟩, rfl⟩
          refine GOps.nil ?_
          refine GA.one 2 (by first | exact Hs.sub (by repeat (first | exact List.Sublist.refl _ | apply List.Sublist.cons | refine List.Sublist.trans ?_ (List.sublist_append_right _ _))) | exact Hs.refl _ | exact Hs.tl _ | exact Hs.tl2 _ _ | exact Hs.tl3 _ _ _ | exact Hs.app _ | exact Hs.sub (by simp)) (by kernel_rfl) rfl ?_
          first | refine GOps.weak (Keeps.refl _) (Hs.perm (pm1 _ _ _)) ?_ | skip
          refine R.call ⟨rfl, rfl, rfl, rfl⟩ rfl (vs := [_, _, _]) rfl ((plan_Rule0 _ _ HD [] 1000 bD hD r bA bc (hl.mono (fun y hy => by repeat (first | exact hy | apply List.mem_cons_of_mem | apply List.mem_append_right))) (by omega) hok).mono ?_)
          rintro _ _ ⟨vs, Ho, HD2, ⟨rfl, hst, hD2⟩, rfl⟩
          first | refine GOps.weak (Keeps.refl _) (Hs.up1 _ _ _ _ _ _ _) ?_ | skip
          obtain ⟨As0, cs0, rfl, hcs0⟩ := hst.split
          refine GOps.nil ?_
          refine GA.val 3 rfl (V.move ⟨rfl, rfl, rfl, rfl⟩ rfl) rfl (by kernel_rfl) (by kernel_rfl) (by kernel_rfl) ?_
          refine GA.val 4 rfl (V.extract ⟨rfl, rfl, rfl, rfl⟩ rfl rfl) rfl (by kernel_rfl) (by kernel_rfl) (by kernel_rfl) ?_
          refine GA.val 5 rfl (V.extract ⟨rfl, rfl, rfl, rfl⟩ rfl rfl) rfl (by kernel_rfl) (by kernel_rfl) (by kernel_rfl) ?_
          refine GA.one 7 (by first | exact Hs.sub (by repeat (first | exact List.Sublist.refl _ | apply List.Sublist.cons | refine List.Sublist.trans ?_ (List.sublist_append_right _ _))) | exact Hs.refl _ | exact Hs.tl _ | exact Hs.tl2 _ _ | exact Hs.tl3 _ _ _ | exact Hs.app _ | exact Hs.sub (by simp)) (by kernel_rfl) rfl ?_
          refine R.storeAll (G1 := []) rfl rfl rfl rfl rfl Tryz.sizeOf41 rfl rfl rfl rfl ?_   -- t7:p
          refine GOps.nil ?_
          refine GA.val 8 rfl (V.assign ⟨rfl, rfl, rfl, rfl⟩ rfl) rfl (by kernel_rfl) (by kernel_rfl) (by kernel_rfl) ?_
          refine GA.done (by first | exact Hs.sub (by repeat (first | exact List.Sublist.refl _ | apply List.Sublist.cons | refine List.Sublist.trans ?_ (List.sublist_append_right _ _))) | exact Hs.refl _ | exact Hs.tl _ | exact Hs.tl2 _ _ | exact Hs.tl3 _ _ _ | exact Hs.app _ | exact Hs.sub (by simp)) (by kernel_rfl) ?_
          exact ⟨rfl, rfl, ((b7, _), (HD2, Ho)), hst, by repeat (first | exact Keeps.nil _ | refine Keeps.cons rfl ?_), Hs.refl _⟩
      · rintro ⟨⟨b7, vs⟩, HD2, Ho⟩ hst
        simp only at hst
        have hE := planRule_room (lim := 1000) (r := r) (order := []) (srt := []) (by omega) (by omega)
        have hlen := planRule_len (lim := 1000) (ts := []) (r := r) (order := []) (srt := []) (by simp) (by simp) (by omega)
        have hlow := planRule_low (lim := 1000) (ts := []) (r := r) (order := []) (srt := [])
        obtain ⟨As, cs, rfl, hss, hcs⟩ := hst.sts w0 []
        rw [List.append_nil] at hss
        refine GW.seq ?_
        refine GW.seq ?_
        refine GW.region ?_
        refine R.move ⟨rfl, rfl, rfl, rfl⟩ rfl ?_
        refine R.neI ⟨rfl, rfl, rfl, rfl⟩ rfl rfl ?_   -- neq ['t49', '0']
        refine GOps.nil ?_
        refine GW.ite rfl (fun hc7 => ?_) (fun hc7 => ?_)
        · try simp only [decide_eq_true_eq, decide_eq_false_iff_not, Bool.not_eq_true', Bool.not_eq_false'] at hc7
          exact absurd hE (by assumption)
        · try simp only [decide_eq_true_eq, decide_eq_false_iff_not, Bool.not_eq_true', Bool.not_eq_false'] at hc7
          refine GW.skip ?_
          refine GW.seq ?_
          refine GW.region ?_
          refine R.makeFunc (vs := []) (us := [_]) ⟨rfl, rfl, rfl, rfl⟩ rfl rfl ?_
          refine R.assign ⟨rfl, rfl, rfl, rfl⟩ rfl ?_
          refine GOps.nil ?_
          refine GW.seq ?_
          refine GW.region ?_
          refine R.load_own (cs := planC (planRule 1000 [] r [] []).head (.slice As (planRule 1000 [] r [] []).steps.length cs) (planRule 1000 [] r [] []).vars) ⟨rfl, rfl, rfl, rfl⟩ rfl Tryz.underlying41 rfl Tryz.sizeOf41 (by repeat (first | exact List.mem_cons_self | apply List.mem_cons_of_mem | apply List.mem_append_right)) (by rfl) (by rfl) ?_   -- load 7 law.go:134 t7:p
          refine R.move ⟨rfl, rfl, rfl, rfl⟩ rfl ?_
          refine R.makeFunc (vs := []) (us := [_]) ⟨rfl, rfl, rfl, rfl⟩ rfl rfl ?_
          refine R.call ⟨rfl, rfl, rfl, rfl⟩ rfl (vs := [_, _, _]) rfl ((looks_fn _ _ (planRule 1000 [] r [] []).head As (planRule 1000 [] r [] []).steps cs (planRule 1000 [] r [] []).vars a b b4 b5 (StsAt.mono hss (fun y hy => List.mem_cons_of_mem _ (List.mem_append_right _ (List.mem_append_left _ (hy))))) (by omega) (by repeat (first | exact List.mem_cons_self | apply List.mem_cons_of_mem | apply List.mem_append_right | exact List.mem_append_left _ List.mem_cons_self)) (by repeat (first | exact List.mem_cons_self | apply List.mem_cons_of_mem | apply List.mem_append_right | exact List.mem_append_left _ List.mem_cons_self))).mono ?_)
          rintro v55 _ ⟨H10, h10, rfl⟩
          obtain ⟨Al, cl, rfl, hlk1⟩ := h10.lks
          refine R.assign ⟨rfl, rfl, rfl, rfl⟩ rfl ?_
          refine GOps.nil ?_
          refine GW.seq ?_
          refine GW.region ?_
          refine R.load_own (cs := planC (planRule 1000 [] r [] []).head (.slice As (planRule 1000 [] r [] []).steps.length cs) (planRule 1000 [] r [] []).vars) ⟨rfl, rfl, rfl, rfl⟩ rfl Tryz.underlying41 rfl Tryz.sizeOf41 (by repeat (first | exact List.mem_cons_self | apply List.mem_cons_of_mem | apply List.mem_append_right)) (by rfl) (by rfl) ?_   -- load 8 law.go:135 t7:p
          refine R.call ⟨rfl, rfl, rfl, rfl⟩ rfl (vs := [_, _, _]) rfl ((looks_nil _ _ (planRule 1000 [] r [] []).head As (planRule 1000 [] r [] []).steps cs (planRule 1000 [] r [] []).vars (StsAt.mono hss (fun y hy => List.mem_append_right _ (List.mem_cons_of_mem _ (List.mem_append_right _ (List.mem_append_left _ (hy)))))) (by omega)).mono ?_)
          rintro v57 _ ⟨H11, h11, rfl⟩
          obtain ⟨An, cn, rfl, hlk0⟩ := h11.lks
          refine R.assign ⟨rfl, rfl, rfl, rfl⟩ rfl ?_
          refine GOps.nil ?_
          refine GW.seq ?_
          refine GW.region ?_
          refine R.assign ⟨rfl, rfl, rfl, rfl⟩ rfl ?_
          refine GOps.nil ?_
          refine GW.seq ?_
          refine GW.seq ?_
          refine GW.region ?_
          refine R.assign ⟨rfl, rfl, rfl, rfl⟩ rfl ?_
          refine GOps.nil ?_
          refine GW.block ?_
          -- LOOP: live 5:b, 7:p, 9:count, 10:l, 11:none, 12:at, 13:i
          refine GW.loopI (fun i : Nat => [(5, .pointer (some ⟨b5, 0, none⟩)), (7, .pointer (some ⟨b7, 0, none⟩)), (9, .func (.func 19) #[] #[.pointer (some ⟨b4, 0, none⟩)]), (10, .slice Al (looksF (fun q : Nat × Nat × Nat => flt (cI a q.1 q.2.1 q.2.2)) (fun i : Nat => flt (IntKind.i64.wrap (b + (i : Nat)))) (planRule 1000 [] r [] []).steps).length cl), (11, .slice An (looksF (fun _ : Nat × Nat × Nat => 0) (fun _ : Nat => 0) (planRule 1000 [] r [] []).steps).length cn), (12, .int .i64 ((mN (planRule 1000 [] r [] []).steps i : Nat) : Int)), (13, .int .i64 i)]) (fun i => H11 ++ (H10 ++ ((b7, .exact (.cells (planC (planRule 1000 [] r [] []).head (.slice As (planRule 1000 [] r [] []).steps.length cs) (planRule 1000 [] r [] []).vars).toArray 41 (0, 0))) :: (HD2 ++ (Ho ++ ((b5, .exact (.cells #[.int .i64 b] 3 (0, 0))) :: (b4, .exact (.cells #[.int .i64 a] 3 (0, 0))) :: (b3, .exact (.cells (Value.agg (RlC r.head (.slice bA r.body.length bc)).toArray).cells 31 (0, 0))) :: G)))))) (fun i => (planRule 1000 [] r [] []).steps.length - i) (fun i => i ≤ (planRule 1000 [] r [] []).steps.length) 0
            (by repeat (first | exact Keeps.nil _ | refine Keeps.cons rfl ?_)) (Hs.refl _) (Nat.zero_le _) ?_
          rintro i hi
          have hmn := mN_le (planRule 1000 [] r [] []).steps i
          refine GW.seq ?_
          refine GW.seq ?_
          refine GW.region ?_
          refine R.move ⟨rfl, rfl, rfl, rfl⟩ rfl ?_
          refine R.fieldAddr ⟨rfl, rfl, rfl, rfl⟩ rfl Tryz.underlying41 rfl Tryz.sizeOf39 ?_   -- "Steps"
          refine R.load1 ⟨rfl, rfl, rfl, rfl⟩ rfl Tryz.underlying39 rfl (.own' (by repeat (first | exact List.mem_cons_self | apply List.mem_cons_of_mem | apply List.mem_append_right)) (by rfl)) ?_   -- load 9 law.go:137 t59
          refine R.lenS ⟨rfl, rfl, rfl, rfl⟩ rfl rfl Tryz.underlying39 ?_
          refine R.lss ⟨rfl, rfl, rfl, rfl⟩ rfl rfl ?_   -- lss ['t58', 't61']
          refine GOps.nil ?_
          refine GW.ite rfl (fun hc8 => ?_) (fun hc8 => ?_)
          · try simp only [decide_eq_true_eq, decide_eq_false_iff_not, Bool.not_eq_true', Bool.not_eq_false'] at hc8
            obtain ⟨s, hx⟩ : ∃ s, (planRule 1000 [] r [] []).steps[i]? = some s := ⟨_, List.getElem?_eq_getElem (by omega)⟩
            obtain ⟨sb, so, cs0, rfl, rfl, hrd⟩ := hss i s hx
            refine GW.skip ?_
            refine GW.seq ?_
            refine GW.block ?_
            refine GW.seq ?_
            refine GW.seq ?_
            refine GW.region ?_
            refine R.fieldAddr ⟨rfl, rfl, rfl, rfl⟩ rfl Tryz.underlying41 rfl Tryz.sizeOf39 ?_   -- "Steps"
            refine R.load1 ⟨rfl, rfl, rfl, rfl⟩ rfl Tryz.underlying39 rfl (.own' (by repeat (first | exact List.mem_cons_self | apply List.mem_cons_of_mem | apply List.mem_append_right)) (by rfl)) ?_   -- load 10 law.go:138 t65
            refine R.move ⟨rfl, rfl, rfl, rfl⟩ rfl ?_
            refine R.indexAddrS ⟨rfl, rfl, rfl, rfl⟩ rfl rfl Tryz.underlying39 Tryz.sizeOf50 (by omega) (by omega) ?_   -- ['t66', 't67']
            refine R.fieldAddr ⟨rfl, rfl, rfl, rfl⟩ rfl Tryz.underlying50 rfl Tryz.sizeOf48 ?_   -- "Kind"
            refine R.load1 ⟨rfl, rfl, rfl, rfl⟩ rfl Tryz.underlying48 rfl ((hrd.mono (fun y hy => by repeat (first | exact List.mem_append_left _ hy | exact hy | apply List.mem_cons_of_mem | apply List.mem_append_right))) 0 _ rfl) ?_   -- load 11 law.go:138
            refine R.neI ⟨rfl, rfl, rfl, rfl⟩ rfl rfl ?_   -- neq ['t70', '1']
            refine GOps.nil ?_
            refine GW.ite rfl (fun hc9 => ?_) (fun hc9 => ?_)
            · try simp only [decide_eq_true_eq, decide_eq_false_iff_not, Bool.not_eq_true', Bool.not_eq_false'] at hc9
              refine GW.exit ?_
              refine GW.region ?_
              refine R.move ⟨rfl, rfl, rfl, rfl⟩ rfl ?_
              refine R.add (r := (((i + 1) : Nat) : Int)) ⟨rfl, rfl, rfl, rfl⟩ rfl rfl (by rw [wrap64_id (by omega) (by omega)]; omega) ?_   -- add ['t63', '1']
              refine R.assign ⟨rfl, rfl, rfl, rfl⟩ rfl ?_
              refine GOps.nil ?_
              first | exact ⟨i + 1, by omega, by omega, rfl, by repeat (first | exact Keeps.nil _ | refine Keeps.cons rfl ?_), Hs.tl _⟩ | (rw [← mN_no hx (by omega)]; exact ⟨i + 1, by omega, by omega, rfl, by repeat (first | exact Keeps.nil _ | refine Keeps.cons rfl ?_), Hs.refl _⟩)
            · try simp only [decide_eq_true_eq, decide_eq_false_iff_not, Bool.not_eq_true', Bool.not_eq_false'] at hc9
              have hk1 : s.kind = 1 := by omega
              have hat1 := mN_at (cf := (fun q : Nat × Nat × Nat => flt (cI a q.1 q.2.1 q.2.2))) (df := (fun i : Nat => flt (IntKind.i64.wrap (b + (i : Nat))))) hx hk1
              have hat0 := mN_at (cf := (fun _ : Nat × Nat × Nat => 0)) (df := (fun _ : Nat => 0)) hx hk1
              obtain ⟨bl, rfl, hl1⟩ := hlk1 w0 H10 (fun y hy => hy) _ _ hat1
              obtain ⟨bn, rfl, hl0⟩ := hlk0 w0 H11 (fun y hy => hy) _ _ hat0
              have hlt1 := (List.getElem?_eq_some_iff.1 hat1).1
              have hlt0 := (List.getElem?_eq_some_iff.1 hat0).1
              have hls := hlow s (List.mem_of_getElem? hx)
              refine GW.skip ?_
              refine GW.seq ?_
              refine GW.seq ?_
              refine GW.region ?_
              refine R.move ⟨rfl, rfl, rfl, rfl⟩ rfl ?_
              refine R.move ⟨rfl, rfl, rfl, rfl⟩ rfl ?_
              refine R.lenS ⟨rfl, rfl, rfl, rfl⟩ rfl rfl Tryz.underlying70 ?_
              refine R.geq ⟨rfl, rfl, rfl, rfl⟩ rfl rfl ?_   -- geq ['t72', 't74']
              refine R.move ⟨rfl, rfl, rfl, rfl⟩ rfl ?_
              refine GOps.caseB 76 rfl (fun hg10 => ?_) (fun hg10 => ?_)
              · try simp only [decide_eq_true_eq, decide_eq_false_iff_not, Bool.not_eq_true', Bool.not_eq_false'] at hg10
                refine GOps.skip rfl rfl rfl ?_
                refine GOps.skip rfl rfl rfl ?_
                refine GOps.skip rfl rfl rfl ?_
                refine GOps.skip rfl rfl rfl ?_
                refine R.pick_t ⟨rfl, rfl, rfl, rfl⟩ rfl rfl ?_
                refine GOps.nil ?_
                refine GW.cond_t rfl ?_
                refine GW.seq ?_
                refine GW.region ?_
                refine R.assign ⟨rfl, rfl, rfl, rfl⟩ rfl ?_
                refine GOps.nil ?_
                refine GW.ret (Out.of (Res.one rfl rfl) (by first | exact Hs.refl _ | (exact Hs.sub (by repeat (first | exact List.Sublist.refl _ | apply List.Sublist.cons | refine List.Sublist.trans ?_ (List.sublist_append_right _ _))))) ⟨?_, rfl⟩)
                first | rfl | (exfalso; omega) | (exfalso; exact absurd hlv (by assumption)) | (exfalso; exact Bool.noConfusion (hb1.symm.trans (by assumption))) | (exfalso; exact Bool.noConfusion (hb0.symm.trans (by assumption)))
              · try simp only [decide_eq_true_eq, decide_eq_false_iff_not, Bool.not_eq_true', Bool.not_eq_false'] at hg10
                refine R.move ⟨rfl, rfl, rfl, rfl⟩ rfl ?_
                refine R.move ⟨rfl, rfl, rfl, rfl⟩ rfl ?_
                refine R.lenS ⟨rfl, rfl, rfl, rfl⟩ rfl rfl Tryz.underlying70 ?_
                refine R.geq ⟨rfl, rfl, rfl, rfl⟩ rfl rfl ?_   -- geq ['t77', 't79']
                refine R.pick_f ⟨rfl, rfl, rfl, rfl⟩ rfl rfl ?_
                refine GOps.nil ?_
                refine GW.ite rfl (fun hc11 => ?_) (fun hc11 => ?_)
                · try simp only [decide_eq_true_eq, decide_eq_false_iff_not, Bool.not_eq_true', Bool.not_eq_false'] at hc11
                  refine GW.seq ?_
                  refine GW.region ?_
                  refine R.assign ⟨rfl, rfl, rfl, rfl⟩ rfl ?_
                  refine GOps.nil ?_
                  refine GW.ret (Out.of (Res.one rfl rfl) (by first | exact Hs.refl _ | (exact Hs.sub (by repeat (first | exact List.Sublist.refl _ | apply List.Sublist.cons | refine List.Sublist.trans ?_ (List.sublist_append_right _ _))))) ⟨?_, rfl⟩)
                  first | rfl | (exfalso; omega) | (exfalso; exact absurd hlv (by assumption)) | (exfalso; exact Bool.noConfusion (hb1.symm.trans (by assumption))) | (exfalso; exact Bool.noConfusion (hb0.symm.trans (by assumption)))
                · try simp only [decide_eq_true_eq, decide_eq_false_iff_not, Bool.not_eq_true', Bool.not_eq_false'] at hc11
                  refine GW.skip ?_
                  refine GW.seq ?_
                  refine GW.region ?_
                  refine R.alloc ⟨rfl, rfl, rfl, rfl⟩ Tryz.zeroValue68 fun b14 => ?_
                  refine GOps.nil ?_
                  refine GW.seq ?_
                  refine GW.seq ?_
                  refine GW.region ?_
                  refine R.assign ⟨rfl, rfl, rfl, rfl⟩ rfl ?_
                  refine GOps.nil ?_
                  refine GW.block ?_
                  -- LOOP: live 5:b, 7:p, 9:count, 10:l, 11:none, 12:at, 13:i, 14:row, 15:k
                  refine GW.loopI (fun k : Nat => [(5, .pointer (some ⟨b5, 0, none⟩)), (7, .pointer (some ⟨b7, 0, none⟩)), (9, .func (.func 19) #[] #[.pointer (some ⟨b4, 0, none⟩)]), (10, .slice (some ⟨bl, 0, none⟩) (looksF (fun q : Nat × Nat × Nat => flt (cI a q.1 q.2.1 q.2.2)) (fun i : Nat => flt (IntKind.i64.wrap (b + (i : Nat)))) (planRule 1000 [] r [] []).steps).length cl), (11, .slice (some ⟨bn, 0, none⟩) (looksF (fun _ : Nat × Nat × Nat => 0) (fun _ : Nat => 0) (planRule 1000 [] r [] []).steps).length cn), (12, .int .i64 ((mN (planRule 1000 [] r [] []).steps i : Nat) : Int)), (13, .int .i64 i), (14, .pointer (some ⟨b14, 0, none⟩)), (15, .int .i64 k)]) (fun k => (b14, .exact (.cells (mk3 (upto k (fun i => Value.int .u32 (rid (pk s.row i) : Nat)) (Value.int .u32 0))) 68 (0, 0))) :: (H11 ++ (H10 ++ ((b7, .exact (.cells (planC (planRule 1000 [] r [] []).head (.slice (some ⟨sb, so, none⟩) (planRule 1000 [] r [] []).steps.length cs) (planRule 1000 [] r [] []).vars).toArray 41 (0, 0))) :: (HD2 ++ (Ho ++ ((b5, .exact (.cells #[.int .i64 b] 3 (0, 0))) :: (b4, .exact (.cells #[.int .i64 a] 3 (0, 0))) :: (b3, .exact (.cells (Value.agg (RlC r.head (.slice bA r.body.length bc)).toArray).cells 31 (0, 0))) :: G))))))) (fun k => 3 - k) (fun k => k ≤ 3) 0
                    (by repeat (first | exact Keeps.nil _ | refine Keeps.cons rfl ?_)) (Hs.refl _) (Nat.zero_le _) ?_
                  rintro k hk
                  refine GW.seq ?_
                  refine GW.seq ?_
                  refine GW.region ?_
                  refine R.move ⟨rfl, rfl, rfl, rfl⟩ rfl ?_
                  refine R.lss ⟨rfl, rfl, rfl, rfl⟩ rfl rfl ?_   -- lss ['t82', '3']
                  refine GOps.nil ?_
                  refine GW.ite rfl (fun hc12 => ?_) (fun hc12 => ?_)
                  · try simp only [decide_eq_true_eq, decide_eq_false_iff_not, Bool.not_eq_true', Bool.not_eq_false'] at hc12
                    have hlv := low_lv hls (k := k) (by omega)
                    have hb1 := bne_self (IntKind.i64.wrap (b + (k : Nat)))
                    have hb0 := bne_zero
                    refine GW.skip ?_
                    refine GW.seq ?_
                    refine GW.block ?_
                    refine GW.seq ?_
                    refine GW.region ?_
                    refine R.fieldAddr ⟨rfl, rfl, rfl, rfl⟩ rfl Tryz.underlying41 rfl Tryz.sizeOf39 ?_   -- "Steps"
                    refine R.load1 ⟨rfl, rfl, rfl, rfl⟩ rfl Tryz.underlying39 rfl (.own' (by repeat (first | exact List.mem_cons_self | apply List.mem_cons_of_mem | apply List.mem_append_right)) (by rfl)) ?_   -- load 12 law.go:146 t86
                    refine R.move ⟨rfl, rfl, rfl, rfl⟩ rfl ?_
                    refine R.move ⟨rfl, rfl, rfl, rfl⟩ rfl ?_
                    refine R.indexAddrS ⟨rfl, rfl, rfl, rfl⟩ rfl rfl Tryz.underlying39 Tryz.sizeOf50 (by omega) (by omega) ?_   -- ['t87', 't88']
                    refine R.fieldAddr ⟨rfl, rfl, rfl, rfl⟩ rfl Tryz.underlying50 rfl Tryz.sizeOf38 ?_   -- "Row"
                    refine R.indexAddrA ⟨rfl, rfl, rfl, rfl⟩ rfl rfl Tryz.underlying38 Tryz.sizeOf37 (by omega) (by omega) ?_   -- ['t91', 't89']
                    refine R.loadA ⟨rfl, rfl, rfl, rfl⟩ rfl Tryz.underlying37 rfl Tryz.sizeOf37 (pk_load (k := k) (row_in (hrd.mono (fun y hy => by repeat (first | exact List.mem_append_left _ hy | exact hy | apply List.mem_cons_of_mem | apply List.mem_append_right)))) (by omega)) (by rfl) ?_   -- load 13 law.go:146
                    refine R.alloc ⟨rfl, rfl, rfl, rfl⟩ Tryz.zeroValue37 fun b16 => ?_
                    refine R.storeAll (G1 := []) rfl rfl rfl rfl rfl Tryz.sizeOf37 rfl rfl rfl rfl ?_   -- t16:x
                    refine GOps.nil ?_
                    refine GW.seq ?_
                    refine GW.seq ?_
                    refine GW.region ?_
                    refine R.fieldAddr ⟨rfl, rfl, rfl, rfl⟩ rfl Tryz.underlying37 rfl Tryz.sizeOf3 ?_   -- "Var"
                    refine R.load1 ⟨rfl, rfl, rfl, rfl⟩ rfl Tryz.underlying3 rfl (.own' (by repeat (first | exact List.mem_cons_self | apply List.mem_cons_of_mem | apply List.mem_append_right)) (by rfl)) ?_   -- load 14 law.go:147 t94
                    refine R.lss ⟨rfl, rfl, rfl, rfl⟩ rfl rfl ?_   -- lss ['t95', '0']
                    refine GOps.nil ?_
                    refine GW.ite rfl (fun hc13 => ?_) (fun hc13 => ?_)
                    · try simp only [decide_eq_true_eq, decide_eq_false_iff_not, Bool.not_eq_true', Bool.not_eq_false'] at hc13
                      refine GW.region ?_
                      refine R.move ⟨rfl, rfl, rfl, rfl⟩ rfl ?_
                      refine R.fieldAddr ⟨rfl, rfl, rfl, rfl⟩ rfl Tryz.underlying37 rfl Tryz.sizeOf35 ?_   -- "ID"
                      refine R.load1 ⟨rfl, rfl, rfl, rfl⟩ rfl Tryz.underlying35 rfl (.own' (by repeat (first | exact List.mem_cons_self | apply List.mem_cons_of_mem | apply List.mem_append_right)) (by rfl)) ?_   -- load 15 law.go:148 t98
                      refine R.indexAddrA ⟨rfl, rfl, rfl, rfl⟩ rfl rfl Tryz.underlying68 Tryz.sizeOf35 (by omega) (by omega) ?_   -- ['t14:row', 't97']
                      refine R.store (G1 := [_]) rfl rfl rfl rfl rfl Tryz.sizeOf35 rfl rfl (rfl) (by show 0 + k * 1 + 1 ≤ 3; omega) ?_   -- t100
                      refine GOps.nil ?_
                      refine GW.seq ?_
                      refine GW.drawS 46 rfl (by kernel_rfl) ?_
                      refine GA.val 0 rfl (V.move ⟨rfl, rfl, rfl, rfl⟩ rfl) rfl (by kernel_rfl) (by kernel_rfl) (by kernel_rfl) ?_
                      refine GA.val 1 rfl (V.move ⟨rfl, rfl, rfl, rfl⟩ rfl) rfl (by kernel_rfl) (by kernel_rfl) (by kernel_rfl) ?_
                      refine GA.val 2 rfl (V.move ⟨rfl, rfl, rfl, rfl⟩ rfl) rfl (by kernel_rfl) (by kernel_rfl) (by kernel_rfl) ?_
                      refine GA.val 3 rfl (V.indexAddrS ⟨rfl, rfl, rfl, rfl⟩ rfl rfl Tryz.underlying70 Tryz.sizeOf77 (by omega) (by omega)) rfl (by kernel_rfl) (by kernel_rfl) (by kernel_rfl) ?_   -- ['t101', 't102']
                      refine GA.val 4 rfl (V.fieldAddr ⟨rfl, rfl, rfl, rfl⟩ rfl Tryz.underlying77 rfl Tryz.sizeOf74) rfl (by kernel_rfl) (by kernel_rfl) (by kernel_rfl) ?_   -- "Vars"
                      refine GA.val 5 rfl (V.indexAddrA ⟨rfl, rfl, rfl, rfl⟩ rfl rfl Tryz.underlying74 Tryz.sizeOf3 (by omega) (by omega)) rfl (by kernel_rfl) (by kernel_rfl) (by kernel_rfl) ?_   -- ['t105', 't103']
                      refine GA.val 6 rfl (V.load1 ⟨rfl, rfl, rfl, rfl⟩ rfl Tryz.underlying3 rfl (lk_v (k := k) (l := lookF (fun q : Nat × Nat × Nat => flt (cI a q.1 q.2.1 q.2.2)) (fun i : Nat => flt (IntKind.i64.wrap (b + (i : Nat)))) s) (hl1.mono (fun y hy => by repeat (first | exact List.mem_append_left _ hy | exact hy | apply List.mem_cons_of_mem | apply List.mem_append_right))) (by omega))) rfl (by kernel_rfl) (by kernel_rfl) (by kernel_rfl) ?_   -- load 16 law.go:150
                      refine GA.val 7 rfl (V.fieldAddr ⟨rfl, rfl, rfl, rfl⟩ rfl Tryz.underlying37 rfl Tryz.sizeOf3) rfl (by kernel_rfl) (by kernel_rfl) (by kernel_rfl) ?_   -- "Var"
                      refine GA.val 8 rfl (V.load1 ⟨rfl, rfl, rfl, rfl⟩ rfl Tryz.underlying3 rfl (.own' (by repeat (first | exact List.mem_cons_self | apply List.mem_cons_of_mem | apply List.mem_append_right)) (by rfl))) rfl (by kernel_rfl) (by kernel_rfl) (by kernel_rfl) ?_   -- load 17 law.go:150 t108
                      refine GA.val 9 rfl (V.neI ⟨rfl, rfl, rfl, rfl⟩ rfl rfl) rfl (by kernel_rfl) (by kernel_rfl) (by kernel_rfl) ?_   -- neq ['t107', 't109']
                      refine GA.val 10 rfl (V.move ⟨rfl, rfl, rfl, rfl⟩ rfl) rfl (by kernel_rfl) (by kernel_rfl) (by kernel_rfl) ?_
                      refine GA.caseB 111 rfl (fun hg14 => ?_) (fun hg14 => ?_)
                      · try simp only [decide_eq_true_eq, decide_eq_false_iff_not, Bool.not_eq_true', Bool.not_eq_false'] at hg14
                        refine GA.skip 11 rfl rfl rfl rfl rfl (by kernel_rfl) (by kernel_rfl) (by kernel_rfl) ?_
                        refine GA.skip 12 rfl rfl rfl rfl rfl (by kernel_rfl) (by kernel_rfl) (by kernel_rfl) ?_
                        refine GA.skip 13 rfl rfl rfl rfl rfl (by kernel_rfl) (by kernel_rfl) (by kernel_rfl) ?_
                        refine GA.skip 14 rfl rfl rfl rfl rfl (by kernel_rfl) (by kernel_rfl) (by kernel_rfl) ?_
                        refine GA.skip 15 rfl rfl rfl rfl rfl (by kernel_rfl) (by kernel_rfl) (by kernel_rfl) ?_
                        refine GA.skip 16 rfl rfl rfl rfl rfl (by kernel_rfl) (by kernel_rfl) (by kernel_rfl) ?_
                        refine GA.skip 17 rfl rfl rfl rfl rfl (by kernel_rfl) (by kernel_rfl) (by kernel_rfl) ?_
                        refine GA.skip 18 rfl rfl rfl rfl rfl (by kernel_rfl) (by kernel_rfl) (by kernel_rfl) ?_
                        refine GA.skip 19 rfl rfl rfl rfl rfl (by kernel_rfl) (by kernel_rfl) (by kernel_rfl) ?_
                        refine GA.skip 20 rfl rfl rfl rfl rfl (by kernel_rfl) (by kernel_rfl) (by kernel_rfl) ?_
                        refine GA.val 21 rfl (V.pick_t ⟨rfl, rfl, rfl, rfl⟩ rfl rfl) rfl (by kernel_rfl) (by kernel_rfl) (by kernel_rfl) ?_
                        refine GA.val 22 rfl (V.move ⟨rfl, rfl, rfl, rfl⟩ rfl) rfl (by kernel_rfl) (by kernel_rfl) (by kernel_rfl) ?_
                        refine GA.skip 23 rfl rfl rfl rfl rfl (by kernel_rfl) (by kernel_rfl) (by kernel_rfl) ?_
                        refine GA.skip 24 rfl rfl rfl rfl rfl (by kernel_rfl) (by kernel_rfl) (by kernel_rfl) ?_
                        refine GA.skip 25 rfl rfl rfl rfl rfl (by kernel_rfl) (by kernel_rfl) (by kernel_rfl) ?_
                        refine GA.skip 26 rfl rfl rfl rfl rfl (by kernel_rfl) (by kernel_rfl) (by kernel_rfl) ?_
                        refine GA.skip 27 rfl rfl rfl rfl rfl (by kernel_rfl) (by kernel_rfl) (by kernel_rfl) ?_
                        refine GA.skip 28 rfl rfl rfl rfl rfl (by kernel_rfl) (by kernel_rfl) (by kernel_rfl) ?_
                        refine GA.skip 29 rfl rfl rfl rfl rfl (by kernel_rfl) (by kernel_rfl) (by kernel_rfl) ?_
                        refine GA.skip 30 rfl rfl rfl rfl rfl (by kernel_rfl) (by kernel_rfl) (by kernel_rfl) ?_
                        refine GA.skip 31 rfl rfl rfl rfl rfl (by kernel_rfl) (by kernel_rfl) (by kernel_rfl) ?_
                        refine GA.skip 32 rfl rfl rfl rfl rfl (by kernel_rfl) (by kernel_rfl) (by kernel_rfl) ?_
                        refine GA.skip 33 rfl rfl rfl rfl rfl (by kernel_rfl) (by kernel_rfl) (by kernel_rfl) ?_
                        refine GA.skip 34 rfl rfl rfl rfl rfl (by kernel_rfl) (by kernel_rfl) (by kernel_rfl) ?_
                        refine GA.val 35 rfl (V.pick_t ⟨rfl, rfl, rfl, rfl⟩ rfl rfl) rfl (by kernel_rfl) (by kernel_rfl) (by kernel_rfl) ?_
                        refine GA.val 36 rfl (V.move ⟨rfl, rfl, rfl, rfl⟩ rfl) rfl (by kernel_rfl) (by kernel_rfl) (by kernel_rfl) ?_
                        refine GA.skip 37 rfl rfl rfl rfl rfl (by kernel_rfl) (by kernel_rfl) (by kernel_rfl) ?_
                        refine GA.skip 38 rfl rfl rfl rfl rfl (by kernel_rfl) (by kernel_rfl) (by kernel_rfl) ?_
                        refine GA.skip 39 rfl rfl rfl rfl rfl (by kernel_rfl) (by kernel_rfl) (by kernel_rfl) ?_
                        refine GA.skip 40 rfl rfl rfl rfl rfl (by kernel_rfl) (by kernel_rfl) (by kernel_rfl) ?_
                        refine GA.skip 41 rfl rfl rfl rfl rfl (by kernel_rfl) (by kernel_rfl) (by kernel_rfl) ?_
                        refine GA.skip 42 rfl rfl rfl rfl rfl (by kernel_rfl) (by kernel_rfl) (by kernel_rfl) ?_
                        refine GA.skip 43 rfl rfl rfl rfl rfl (by kernel_rfl) (by kernel_rfl) (by kernel_rfl) ?_
                        refine GA.skip 44 rfl rfl rfl rfl rfl (by kernel_rfl) (by kernel_rfl) (by kernel_rfl) ?_
                        refine GA.val 45 rfl (V.pick_t ⟨rfl, rfl, rfl, rfl⟩ rfl rfl) rfl (by kernel_rfl) (by kernel_rfl) (by kernel_rfl) ?_
                        refine GA.done (by first | exact Hs.refl _ | exact Hs.tl _ | exact Hs.tl2 _ _ | exact Hs.tl3 _ _ _ | exact Hs.app _ | exact Hs.sub (by simp)) (by kernel_rfl) ?_
                        refine GW.cond_t rfl ?_
                        refine GW.seq ?_
                        refine GW.region ?_
                        refine R.assign ⟨rfl, rfl, rfl, rfl⟩ rfl ?_
                        refine GOps.nil ?_
                        refine GW.ret (Out.of (Res.one rfl rfl) (by first | exact Hs.refl _ | (exact Hs.sub (by repeat (first | exact List.Sublist.refl _ | apply List.Sublist.cons | refine List.Sublist.trans ?_ (List.sublist_append_right _ _))))) ⟨?_, rfl⟩)
                        first | rfl | (exfalso; omega) | (exfalso; exact absurd hlv (by assumption)) | (exfalso; exact Bool.noConfusion (hb1.symm.trans (by assumption))) | (exfalso; exact Bool.noConfusion (hb0.symm.trans (by assumption)))
                      · try simp only [decide_eq_true_eq, decide_eq_false_iff_not, Bool.not_eq_true', Bool.not_eq_false'] at hg14
                        refine GA.val 11 rfl (V.move ⟨rfl, rfl, rfl, rfl⟩ rfl) rfl (by kernel_rfl) (by kernel_rfl) (by kernel_rfl) ?_
                        refine GA.val 12 rfl (V.move ⟨rfl, rfl, rfl, rfl⟩ rfl) rfl (by kernel_rfl) (by kernel_rfl) (by kernel_rfl) ?_
                        refine GA.val 13 rfl (V.move ⟨rfl, rfl, rfl, rfl⟩ rfl) rfl (by kernel_rfl) (by kernel_rfl) (by kernel_rfl) ?_
                        refine GA.val 14 rfl (V.indexAddrS ⟨rfl, rfl, rfl, rfl⟩ rfl rfl Tryz.underlying70 Tryz.sizeOf77 (by omega) (by omega)) rfl (by kernel_rfl) (by kernel_rfl) (by kernel_rfl) ?_   -- ['t112', 't113']
                        refine GA.val 15 rfl (V.fieldAddr ⟨rfl, rfl, rfl, rfl⟩ rfl Tryz.underlying77 rfl Tryz.sizeOf74) rfl (by kernel_rfl) (by kernel_rfl) (by kernel_rfl) ?_   -- "Vars"
                        refine GA.val 16 rfl (V.indexAddrA ⟨rfl, rfl, rfl, rfl⟩ rfl rfl Tryz.underlying74 Tryz.sizeOf3 (by omega) (by omega)) rfl (by kernel_rfl) (by kernel_rfl) (by kernel_rfl) ?_   -- ['t116', 't114']
                        refine GA.val 17 rfl (V.load1 ⟨rfl, rfl, rfl, rfl⟩ rfl Tryz.underlying3 rfl (lk_v (k := k) (l := lookF (fun _ : Nat × Nat × Nat => 0) (fun _ : Nat => 0) s) (hl0.mono (fun y hy => by repeat (first | exact List.mem_append_left _ hy | exact hy | apply List.mem_cons_of_mem | apply List.mem_append_right))) (by omega))) rfl (by kernel_rfl) (by kernel_rfl) (by kernel_rfl) ?_   -- load 18 law.go:150
                        refine GA.val 18 rfl (V.fieldAddr ⟨rfl, rfl, rfl, rfl⟩ rfl Tryz.underlying37 rfl Tryz.sizeOf3) rfl (by kernel_rfl) (by kernel_rfl) (by kernel_rfl) ?_   -- "Var"
                        refine GA.val 19 rfl (V.load1 ⟨rfl, rfl, rfl, rfl⟩ rfl Tryz.underlying3 rfl (.own' (by repeat (first | exact List.mem_cons_self | apply List.mem_cons_of_mem | apply List.mem_append_right)) (by rfl))) rfl (by kernel_rfl) (by kernel_rfl) (by kernel_rfl) ?_   -- load 19 law.go:150 t119
                        refine GA.val 20 rfl (V.neI ⟨rfl, rfl, rfl, rfl⟩ rfl rfl) rfl (by kernel_rfl) (by kernel_rfl) (by kernel_rfl) ?_   -- neq ['t118', 't120']
                        refine GA.val 21 rfl (V.pick_f ⟨rfl, rfl, rfl, rfl⟩ rfl rfl) rfl (by kernel_rfl) (by kernel_rfl) (by kernel_rfl) ?_
                        refine GA.val 22 rfl (V.move ⟨rfl, rfl, rfl, rfl⟩ rfl) rfl (by kernel_rfl) (by kernel_rfl) (by kernel_rfl) ?_
                        refine GA.caseB 123 rfl (fun hg15 => ?_) (fun hg15 => ?_)
                        · try simp only [decide_eq_true_eq, decide_eq_false_iff_not, Bool.not_eq_true', Bool.not_eq_false'] at hg15
                          refine GA.skip 23 rfl rfl rfl rfl rfl (by kernel_rfl) (by kernel_rfl) (by kernel_rfl) ?_
                          refine GA.skip 24 rfl rfl rfl rfl rfl (by kernel_rfl) (by kernel_rfl) (by kernel_rfl) ?_
                          refine GA.skip 25 rfl rfl rfl rfl rfl (by kernel_rfl) (by kernel_rfl) (by kernel_rfl) ?_
                          refine GA.skip 26 rfl rfl rfl rfl rfl (by kernel_rfl) (by kernel_rfl) (by kernel_rfl) ?_
                          refine GA.skip 27 rfl rfl rfl rfl rfl (by kernel_rfl) (by kernel_rfl) (by kernel_rfl) ?_
                          refine GA.skip 28 rfl rfl rfl rfl rfl (by kernel_rfl) (by kernel_rfl) (by kernel_rfl) ?_
                          refine GA.skip 29 rfl rfl rfl rfl rfl (by kernel_rfl) (by kernel_rfl) (by kernel_rfl) ?_
                          refine GA.skip 30 rfl rfl rfl rfl rfl (by kernel_rfl) (by kernel_rfl) (by kernel_rfl) ?_
                          refine GA.skip 31 rfl rfl rfl rfl rfl (by kernel_rfl) (by kernel_rfl) (by kernel_rfl) ?_
                          refine GA.skip 32 rfl rfl rfl rfl rfl (by kernel_rfl) (by kernel_rfl) (by kernel_rfl) ?_
                          refine GA.skip 33 rfl rfl rfl rfl rfl (by kernel_rfl) (by kernel_rfl) (by kernel_rfl) ?_
                          refine GA.skip 34 rfl rfl rfl rfl rfl (by kernel_rfl) (by kernel_rfl) (by kernel_rfl) ?_
                          refine GA.val 35 rfl (V.pick_t ⟨rfl, rfl, rfl, rfl⟩ rfl rfl) rfl (by kernel_rfl) (by kernel_rfl) (by kernel_rfl) ?_
                          refine GA.val 36 rfl (V.move ⟨rfl, rfl, rfl, rfl⟩ rfl) rfl (by kernel_rfl) (by kernel_rfl) (by kernel_rfl) ?_
                          refine GA.skip 37 rfl rfl rfl rfl rfl (by kernel_rfl) (by kernel_rfl) (by kernel_rfl) ?_
                          refine GA.skip 38 rfl rfl rfl rfl rfl (by kernel_rfl) (by kernel_rfl) (by kernel_rfl) ?_
                          refine GA.skip 39 rfl rfl rfl rfl rfl (by kernel_rfl) (by kernel_rfl) (by kernel_rfl) ?_
                          refine GA.skip 40 rfl rfl rfl rfl rfl (by kernel_rfl) (by kernel_rfl) (by kernel_rfl) ?_
                          refine GA.skip 41 rfl rfl rfl rfl rfl (by kernel_rfl) (by kernel_rfl) (by kernel_rfl) ?_
                          refine GA.skip 42 rfl rfl rfl rfl rfl (by kernel_rfl) (by kernel_rfl) (by kernel_rfl) ?_
                          refine GA.skip 43 rfl rfl rfl rfl rfl (by kernel_rfl) (by kernel_rfl) (by kernel_rfl) ?_
                          refine GA.skip 44 rfl rfl rfl rfl rfl (by kernel_rfl) (by kernel_rfl) (by kernel_rfl) ?_
                          refine GA.val 45 rfl (V.pick_t ⟨rfl, rfl, rfl, rfl⟩ rfl rfl) rfl (by kernel_rfl) (by kernel_rfl) (by kernel_rfl) ?_
                          refine GA.done (by first | exact Hs.refl _ | exact Hs.tl _ | exact Hs.tl2 _ _ | exact Hs.tl3 _ _ _ | exact Hs.app _ | exact Hs.sub (by simp)) (by kernel_rfl) ?_
                          refine GW.cond_t rfl ?_
                          refine GW.seq ?_
                          refine GW.region ?_
                          refine R.assign ⟨rfl, rfl, rfl, rfl⟩ rfl ?_
                          refine GOps.nil ?_
                          refine GW.ret (Out.of (Res.one rfl rfl) (by first | exact Hs.refl _ | (exact Hs.sub (by repeat (first | exact List.Sublist.refl _ | apply List.Sublist.cons | refine List.Sublist.trans ?_ (List.sublist_append_right _ _))))) ⟨?_, rfl⟩)
                          first | rfl | (exfalso; omega) | (exfalso; exact absurd hlv (by assumption)) | (exfalso; exact Bool.noConfusion (hb1.symm.trans (by assumption))) | (exfalso; exact Bool.noConfusion (hb0.symm.trans (by assumption)))
                        · try simp only [decide_eq_true_eq, decide_eq_false_iff_not, Bool.not_eq_true', Bool.not_eq_false'] at hg15
                          refine GA.val 23 rfl (V.move ⟨rfl, rfl, rfl, rfl⟩ rfl) rfl (by kernel_rfl) (by kernel_rfl) (by kernel_rfl) ?_
                          refine GA.val 24 rfl (V.move ⟨rfl, rfl, rfl, rfl⟩ rfl) rfl (by kernel_rfl) (by kernel_rfl) (by kernel_rfl) ?_
                          refine GA.val 25 rfl (V.move ⟨rfl, rfl, rfl, rfl⟩ rfl) rfl (by kernel_rfl) (by kernel_rfl) (by kernel_rfl) ?_
                          refine GA.val 26 rfl (V.indexAddrS ⟨rfl, rfl, rfl, rfl⟩ rfl rfl Tryz.underlying70 Tryz.sizeOf77 (by omega) (by omega)) rfl (by kernel_rfl) (by kernel_rfl) (by kernel_rfl) ?_   -- ['t124', 't125']
                          refine GA.val 27 rfl (V.fieldAddr ⟨rfl, rfl, rfl, rfl⟩ rfl Tryz.underlying77 rfl Tryz.sizeOf75) rfl (by kernel_rfl) (by kernel_rfl) (by kernel_rfl) ?_   -- "Distinct"
                          refine GA.val 28 rfl (V.indexAddrA ⟨rfl, rfl, rfl, rfl⟩ rfl rfl Tryz.underlying75 Tryz.sizeOf73 (by omega) (by omega)) rfl (by kernel_rfl) (by kernel_rfl) (by kernel_rfl) ?_   -- ['t128', 't126']
                          refine GA.val 29 rfl (V.load1 ⟨rfl, rfl, rfl, rfl⟩ rfl Tryz.underlying73 rfl (lk_d (k := k) (l := lookF (fun q : Nat × Nat × Nat => flt (cI a q.1 q.2.1 q.2.2)) (fun i : Nat => flt (IntKind.i64.wrap (b + (i : Nat)))) s) (hl1.mono (fun y hy => by repeat (first | exact List.mem_append_left _ hy | exact hy | apply List.mem_cons_of_mem | apply List.mem_append_right))) (by omega))) rfl (by kernel_rfl) (by kernel_rfl) (by kernel_rfl) ?_   -- load 20 law.go:150
                          refine GA.val 30 rfl (V.load1 ⟨rfl, rfl, rfl, rfl⟩ rfl Tryz.underlying3 rfl (.own' (by repeat (first | exact List.mem_cons_self | apply List.mem_cons_of_mem | apply List.mem_append_right)) (by rfl))) rfl (by kernel_rfl) (by kernel_rfl) (by kernel_rfl) ?_   -- load 21 law.go:150 t5:b
                          refine GA.val 31 rfl (V.move ⟨rfl, rfl, rfl, rfl⟩ rfl) rfl (by kernel_rfl) (by kernel_rfl) (by kernel_rfl) ?_
                          refine GA.val 32 rfl (V.add (r := _) ⟨rfl, rfl, rfl, rfl⟩ rfl rfl (rfl)) rfl (by kernel_rfl) (by kernel_rfl) (by kernel_rfl) ?_   -- add ['t131', 't132']
                          refine GA.val 33 rfl (V.convF ⟨rfl, rfl, rfl, rfl⟩ rfl Tryz.underlying3 Tryz.underlying73) rfl (by kernel_rfl) (by kernel_rfl) (by kernel_rfl) ?_
                          refine GA.val 34 rfl (V.neF ⟨rfl, rfl, rfl, rfl⟩ rfl rfl) rfl (by kernel_rfl) (by kernel_rfl) (by kernel_rfl) ?_   -- neq ['t130', 't134']
                          refine GA.val 35 rfl (V.pick_f ⟨rfl, rfl, rfl, rfl⟩ rfl rfl) rfl (by kernel_rfl) (by kernel_rfl) (by kernel_rfl) ?_
                          refine GA.val 36 rfl (V.move ⟨rfl, rfl, rfl, rfl⟩ rfl) rfl (by kernel_rfl) (by kernel_rfl) (by kernel_rfl) ?_
                          refine GA.caseB 137 rfl (fun hg16 => ?_) (fun hg16 => ?_)
                          · try simp only [decide_eq_true_eq, decide_eq_false_iff_not, Bool.not_eq_true', Bool.not_eq_false'] at hg16
                            refine GA.skip 37 rfl rfl rfl rfl rfl (by kernel_rfl) (by kernel_rfl) (by kernel_rfl) ?_
                            refine GA.skip 38 rfl rfl rfl rfl rfl (by kernel_rfl) (by kernel_rfl) (by kernel_rfl) ?_
                            refine GA.skip 39 rfl rfl rfl rfl rfl (by kernel_rfl) (by kernel_rfl) (by kernel_rfl) ?_
                            refine GA.skip 40 rfl rfl rfl rfl rfl (by kernel_rfl) (by kernel_rfl) (by kernel_rfl) ?_
                            refine GA.skip 41 rfl rfl rfl rfl rfl (by kernel_rfl) (by kernel_rfl) (by kernel_rfl) ?_
                            refine GA.skip 42 rfl rfl rfl rfl rfl (by kernel_rfl) (by kernel_rfl) (by kernel_rfl) ?_
                            refine GA.skip 43 rfl rfl rfl rfl rfl (by kernel_rfl) (by kernel_rfl) (by kernel_rfl) ?_
                            refine GA.skip 44 rfl rfl rfl rfl rfl (by kernel_rfl) (by kernel_rfl) (by kernel_rfl) ?_
                            refine GA.val 45 rfl (V.pick_t ⟨rfl, rfl, rfl, rfl⟩ rfl rfl) rfl (by kernel_rfl) (by kernel_rfl) (by kernel_rfl) ?_
                            refine GA.done (by first | exact Hs.refl _ | exact Hs.tl _ | exact Hs.tl2 _ _ | exact Hs.tl3 _ _ _ | exact Hs.app _ | exact Hs.sub (by simp)) (by kernel_rfl) ?_
                            refine GW.cond_t rfl ?_
                            refine GW.seq ?_
                            refine GW.region ?_
                            refine R.assign ⟨rfl, rfl, rfl, rfl⟩ rfl ?_
                            refine GOps.nil ?_
                            refine GW.ret (Out.of (Res.one rfl rfl) (by first | exact Hs.refl _ | (exact Hs.sub (by repeat (first | exact List.Sublist.refl _ | apply List.Sublist.cons | refine List.Sublist.trans ?_ (List.sublist_append_right _ _))))) ⟨?_, rfl⟩)
                            first | rfl | (exfalso; omega) | (exfalso; exact absurd hlv (by assumption)) | (exfalso; exact Bool.noConfusion (hb1.symm.trans (by assumption))) | (exfalso; exact Bool.noConfusion (hb0.symm.trans (by assumption)))
                          · try simp only [decide_eq_true_eq, decide_eq_false_iff_not, Bool.not_eq_true', Bool.not_eq_false'] at hg16
                            refine GA.val 37 rfl (V.move ⟨rfl, rfl, rfl, rfl⟩ rfl) rfl (by kernel_rfl) (by kernel_rfl) (by kernel_rfl) ?_
                            refine GA.val 38 rfl (V.move ⟨rfl, rfl, rfl, rfl⟩ rfl) rfl (by kernel_rfl) (by kernel_rfl) (by kernel_rfl) ?_
                            refine GA.val 39 rfl (V.move ⟨rfl, rfl, rfl, rfl⟩ rfl) rfl (by kernel_rfl) (by kernel_rfl) (by kernel_rfl) ?_
                            refine GA.val 40 rfl (V.indexAddrS ⟨rfl, rfl, rfl, rfl⟩ rfl rfl Tryz.underlying70 Tryz.sizeOf77 (by omega) (by omega)) rfl (by kernel_rfl) (by kernel_rfl) (by kernel_rfl) ?_   -- ['t138', 't139']
                            refine GA.val 41 rfl (V.fieldAddr ⟨rfl, rfl, rfl, rfl⟩ rfl Tryz.underlying77 rfl Tryz.sizeOf75) rfl (by kernel_rfl) (by kernel_rfl) (by kernel_rfl) ?_   -- "Distinct"
                            refine GA.val 42 rfl (V.indexAddrA ⟨rfl, rfl, rfl, rfl⟩ rfl rfl Tryz.underlying75 Tryz.sizeOf73 (by omega) (by omega)) rfl (by kernel_rfl) (by kernel_rfl) (by kernel_rfl) ?_   -- ['t142', 't140']
                            refine GA.val 43 rfl (V.load1 ⟨rfl, rfl, rfl, rfl⟩ rfl Tryz.underlying73 rfl (lk_d (k := k) (l := lookF (fun _ : Nat × Nat × Nat => 0) (fun _ : Nat => 0) s) (hl0.mono (fun y hy => by repeat (first | exact List.mem_append_left _ hy | exact hy | apply List.mem_cons_of_mem | apply List.mem_append_right))) (by omega))) rfl (by kernel_rfl) (by kernel_rfl) (by kernel_rfl) ?_   -- load 22 law.go:150
                            refine GA.val 44 rfl (V.neF ⟨rfl, rfl, rfl, rfl⟩ rfl rfl) rfl (by kernel_rfl) (by kernel_rfl) (by kernel_rfl) ?_   -- neq ['t144', 'const']
                            refine GA.val 45 rfl (V.pick_f ⟨rfl, rfl, rfl, rfl⟩ rfl rfl) rfl (by kernel_rfl) (by kernel_rfl) (by kernel_rfl) ?_
                            refine GA.done (by first | exact Hs.refl _ | exact Hs.tl _ | exact Hs.tl2 _ _ | exact Hs.tl3 _ _ _ | exact Hs.app _ | exact Hs.sub (by simp)) (by kernel_rfl) ?_
                            refine GW.ite rfl (fun hc17 => ?_) (fun hc17 => ?_)
                            · try simp only [decide_eq_true_eq, decide_eq_false_iff_not, Bool.not_eq_true', Bool.not_eq_false'] at hc17
                              refine GW.seq ?_
                              refine GW.region ?_
                              refine R.assign ⟨rfl, rfl, rfl, rfl⟩ rfl ?_
                              refine GOps.nil ?_
                              refine GW.ret (Out.of (Res.one rfl rfl) (by first | exact Hs.refl _ | (exact Hs.sub (by repeat (first | exact List.Sublist.refl _ | apply List.Sublist.cons | refine List.Sublist.trans ?_ (List.sublist_append_right _ _))))) ⟨?_, rfl⟩)
                              first | rfl | (exfalso; omega) | (exfalso; exact absurd hlv (by assumption)) | (exfalso; exact Bool.noConfusion (hb1.symm.trans (by assumption))) | (exfalso; exact Bool.noConfusion (hb0.symm.trans (by assumption)))
                            · try simp only [decide_eq_true_eq, decide_eq_false_iff_not, Bool.not_eq_true', Bool.not_eq_false'] at hc17
                              refine GW.skip ?_
                              refine GW.region ?_
                              refine R.move ⟨rfl, rfl, rfl, rfl⟩ rfl ?_
                              refine R.add (r := (((k + 1) : Nat) : Int)) ⟨rfl, rfl, rfl, rfl⟩ rfl rfl (by rw [wrap64_id (by omega) (by omega)]; omega) ?_   -- add ['t84', '1']
                              refine R.assign ⟨rfl, rfl, rfl, rfl⟩ rfl ?_
                              refine GOps.nil ?_
                              first | exact ⟨k + 1, by omega, by omega, rfl, by repeat (first | exact Keeps.nil _ | refine Keeps.cons rfl ?_), Hs.tlEq (ids_neg (by omega) (by omega)) _ _⟩ | exact ⟨k + 1, by omega, by omega, rfl, by repeat (first | exact Keeps.nil _ | refine Keeps.cons rfl ?_), Hs.tlEq (ids_pos (by omega)) _ _⟩
                    · try simp only [decide_eq_true_eq, decide_eq_false_iff_not, Bool.not_eq_true', Bool.not_eq_false'] at hc13
                      refine GW.skip ?_
                      refine GW.seq ?_
                      refine GW.drawS 46 rfl (by kernel_rfl) ?_
                      refine GA.val 0 rfl (V.move ⟨rfl, rfl, rfl, rfl⟩ rfl) rfl (by kernel_rfl) (by kernel_rfl) (by kernel_rfl) ?_
                      refine GA.val 1 rfl (V.move ⟨rfl, rfl, rfl, rfl⟩ rfl) rfl (by kernel_rfl) (by kernel_rfl) (by kernel_rfl) ?_
                      refine GA.val 2 rfl (V.move ⟨rfl, rfl, rfl, rfl⟩ rfl) rfl (by kernel_rfl) (by kernel_rfl) (by kernel_rfl) ?_
                      refine GA.val 3 rfl (V.indexAddrS ⟨rfl, rfl, rfl, rfl⟩ rfl rfl Tryz.underlying70 Tryz.sizeOf77 (by omega) (by omega)) rfl (by kernel_rfl) (by kernel_rfl) (by kernel_rfl) ?_   -- ['t101', 't102']
                      refine GA.val 4 rfl (V.fieldAddr ⟨rfl, rfl, rfl, rfl⟩ rfl Tryz.underlying77 rfl Tryz.sizeOf74) rfl (by kernel_rfl) (by kernel_rfl) (by kernel_rfl) ?_   -- "Vars"
                      refine GA.val 5 rfl (V.indexAddrA ⟨rfl, rfl, rfl, rfl⟩ rfl rfl Tryz.underlying74 Tryz.sizeOf3 (by omega) (by omega)) rfl (by kernel_rfl) (by kernel_rfl) (by kernel_rfl) ?_   -- ['t105', 't103']
                      refine GA.val 6 rfl (V.load1 ⟨rfl, rfl, rfl, rfl⟩ rfl Tryz.underlying3 rfl (lk_v (k := k) (l := lookF (fun q : Nat × Nat × Nat => flt (cI a q.1 q.2.1 q.2.2)) (fun i : Nat => flt (IntKind.i64.wrap (b + (i : Nat)))) s) (hl1.mono (fun y hy => by repeat (first | exact List.mem_append_left _ hy | exact hy | apply List.mem_cons_of_mem | apply List.mem_append_right))) (by omega))) rfl (by kernel_rfl) (by kernel_rfl) (by kernel_rfl) ?_   -- load 23 law.go:150
                      refine GA.val 7 rfl (V.fieldAddr ⟨rfl, rfl, rfl, rfl⟩ rfl Tryz.underlying37 rfl Tryz.sizeOf3) rfl (by kernel_rfl) (by kernel_rfl) (by kernel_rfl) ?_   -- "Var"
                      refine GA.val 8 rfl (V.load1 ⟨rfl, rfl, rfl, rfl⟩ rfl Tryz.underlying3 rfl (.own' (by repeat (first | exact List.mem_cons_self | apply List.mem_cons_of_mem | apply List.mem_append_right)) (by rfl))) rfl (by kernel_rfl) (by kernel_rfl) (by kernel_rfl) ?_   -- load 24 law.go:150 t108
                      refine GA.val 9 rfl (V.neI ⟨rfl, rfl, rfl, rfl⟩ rfl rfl) rfl (by kernel_rfl) (by kernel_rfl) (by kernel_rfl) ?_   -- neq ['t107', 't109']
                      refine GA.val 10 rfl (V.move ⟨rfl, rfl, rfl, rfl⟩ rfl) rfl (by kernel_rfl) (by kernel_rfl) (by kernel_rfl) ?_
                      refine GA.caseB 111 rfl (fun hg18 => ?_) (fun hg18 => ?_)
                      · try simp only [decide_eq_true_eq, decide_eq_false_iff_not, Bool.not_eq_true', Bool.not_eq_false'] at hg18
                        refine GA.skip 11 rfl rfl rfl rfl rfl (by kernel_rfl) (by kernel_rfl) (by kernel_rfl) ?_
                        refine GA.skip 12 rfl rfl rfl rfl rfl (by kernel_rfl) (by kernel_rfl) (by kernel_rfl) ?_
                        refine GA.skip 13 rfl rfl rfl rfl rfl (by kernel_rfl) (by kernel_rfl) (by kernel_rfl) ?_
                        refine GA.skip 14 rfl rfl rfl rfl rfl (by kernel_rfl) (by kernel_rfl) (by kernel_rfl) ?_
                        refine GA.skip 15 rfl rfl rfl rfl rfl (by kernel_rfl) (by kernel_rfl) (by kernel_rfl) ?_
                        refine GA.skip 16 rfl rfl rfl rfl rfl (by kernel_rfl) (by kernel_rfl) (by kernel_rfl) ?_
                        refine GA.skip 17 rfl rfl rfl rfl rfl (by kernel_rfl) (by kernel_rfl) (by kernel_rfl) ?_
                        refine GA.skip 18 rfl rfl rfl rfl rfl (by kernel_rfl) (by kernel_rfl) (by kernel_rfl) ?_
                        refine GA.skip 19 rfl rfl rfl rfl rfl (by kernel_rfl) (by kernel_rfl) (by kernel_rfl) ?_
                        refine GA.skip 20 rfl rfl rfl rfl rfl (by kernel_rfl) (by kernel_rfl) (by kernel_rfl) ?_
                        refine GA.val 21 rfl (V.pick_t ⟨rfl, rfl, rfl, rfl⟩ rfl rfl) rfl (by kernel_rfl) (by kernel_rfl) (by kernel_rfl) ?_
                        refine GA.val 22 rfl (V.move ⟨rfl, rfl, rfl, rfl⟩ rfl) rfl (by kernel_rfl) (by kernel_rfl) (by kernel_rfl) ?_
                        refine GA.skip 23 rfl rfl rfl rfl rfl (by kernel_rfl) (by kernel_rfl) (by kernel_rfl) ?_
                        refine GA.skip 24 rfl rfl rfl rfl rfl (by kernel_rfl) (by kernel_rfl) (by kernel_rfl) ?_
                        refine GA.skip 25 rfl rfl rfl rfl rfl (by kernel_rfl) (by kernel_rfl) (by kernel_rfl) ?_
                        refine GA.skip 26 rfl rfl rfl rfl rfl (by kernel_rfl) (by kernel_rfl) (by kernel_rfl) ?_
                        refine GA.skip 27 rfl rfl rfl rfl rfl (by kernel_rfl) (by kernel_rfl) (by kernel_rfl) ?_
                        refine GA.skip 28 rfl rfl rfl rfl rfl (by kernel_rfl) (by kernel_rfl) (by kernel_rfl) ?_
                        refine GA.skip 29 rfl rfl rfl rfl rfl (by kernel_rfl) (by kernel_rfl) (by kernel_rfl) ?_
                        refine GA.skip 30 rfl rfl rfl rfl rfl (by kernel_rfl) (by kernel_rfl) (by kernel_rfl) ?_
                        refine GA.skip 31 rfl rfl rfl rfl rfl (by kernel_rfl) (by kernel_rfl) (by kernel_rfl) ?_
                        refine GA.skip 32 rfl rfl rfl rfl rfl (by kernel_rfl) (by kernel_rfl) (by kernel_rfl) ?_
                        refine GA.skip 33 rfl rfl rfl rfl rfl (by kernel_rfl) (by kernel_rfl) (by kernel_rfl) ?_
                        refine GA.skip 34 rfl rfl rfl rfl rfl (by kernel_rfl) (by kernel_rfl) (by kernel_rfl) ?_
                        refine GA.val 35 rfl (V.pick_t ⟨rfl, rfl, rfl, rfl⟩ rfl rfl) rfl (by kernel_rfl) (by kernel_rfl) (by kernel_rfl) ?_
                        refine GA.val 36 rfl (V.move ⟨rfl, rfl, rfl, rfl⟩ rfl) rfl (by kernel_rfl) (by kernel_rfl) (by kernel_rfl) ?_
                        refine GA.skip 37 rfl rfl rfl rfl rfl (by kernel_rfl) (by kernel_rfl) (by kernel_rfl) ?_
                        refine GA.skip 38 rfl rfl rfl rfl rfl (by kernel_rfl) (by kernel_rfl) (by kernel_rfl) ?_
                        refine GA.skip 39 rfl rfl rfl rfl rfl (by kernel_rfl) (by kernel_rfl) (by kernel_rfl) ?_
                        refine GA.skip 40 rfl rfl rfl rfl rfl (by kernel_rfl) (by kernel_rfl) (by kernel_rfl) ?_
                        refine GA.skip 41 rfl rfl rfl rfl rfl (by kernel_rfl) (by kernel_rfl) (by kernel_rfl) ?_
                        refine GA.skip 42 rfl rfl rfl rfl rfl (by kernel_rfl) (by kernel_rfl) (by kernel_rfl) ?_
                        refine GA.skip 43 rfl rfl rfl rfl rfl (by kernel_rfl) (by kernel_rfl) (by kernel_rfl) ?_
                        refine GA.skip 44 rfl rfl rfl rfl rfl (by kernel_rfl) (by kernel_rfl) (by kernel_rfl) ?_
                        refine GA.val 45 rfl (V.pick_t ⟨rfl, rfl, rfl, rfl⟩ rfl rfl) rfl (by kernel_rfl) (by kernel_rfl) (by kernel_rfl) ?_
                        refine GA.done (by first | exact Hs.refl _ | exact Hs.tl _ | exact Hs.tl2 _ _ | exact Hs.tl3 _ _ _ | exact Hs.app _ | exact Hs.sub (by simp)) (by kernel_rfl) ?_
                        refine GW.cond_t rfl ?_
                        refine GW.seq ?_
                        refine GW.region ?_
                        refine R.assign ⟨rfl, rfl, rfl, rfl⟩ rfl ?_
                        refine GOps.nil ?_
                        refine GW.ret (Out.of (Res.one rfl rfl) (by first | exact Hs.refl _ | (exact Hs.sub (by repeat (first | exact List.Sublist.refl _ | apply List.Sublist.cons | refine List.Sublist.trans ?_ (List.sublist_append_right _ _))))) ⟨?_, rfl⟩)
                        first | rfl | (exfalso; omega) | (exfalso; exact absurd hlv (by assumption)) | (exfalso; exact Bool.noConfusion (hb1.symm.trans (by assumption))) | (exfalso; exact Bool.noConfusion (hb0.symm.trans (by assumption)))
                      · try simp only [decide_eq_true_eq, decide_eq_false_iff_not, Bool.not_eq_true', Bool.not_eq_false'] at hg18
                        refine GA.val 11 rfl (V.move ⟨rfl, rfl, rfl, rfl⟩ rfl) rfl (by kernel_rfl) (by kernel_rfl) (by kernel_rfl) ?_
                        refine GA.val 12 rfl (V.move ⟨rfl, rfl, rfl, rfl⟩ rfl) rfl (by kernel_rfl) (by kernel_rfl) (by kernel_rfl) ?_
                        refine GA.val 13 rfl (V.move ⟨rfl, rfl, rfl, rfl⟩ rfl) rfl (by kernel_rfl) (by kernel_rfl) (by kernel_rfl) ?_
                        refine GA.val 14 rfl (V.indexAddrS ⟨rfl, rfl, rfl, rfl⟩ rfl rfl Tryz.underlying70 Tryz.sizeOf77 (by omega) (by omega)) rfl (by kernel_rfl) (by kernel_rfl) (by kernel_rfl) ?_   -- ['t112', 't113']
                        refine GA.val 15 rfl (V.fieldAddr ⟨rfl, rfl, rfl, rfl⟩ rfl Tryz.underlying77 rfl Tryz.sizeOf74) rfl (by kernel_rfl) (by kernel_rfl) (by kernel_rfl) ?_   -- "Vars"
                        refine GA.val 16 rfl (V.indexAddrA ⟨rfl, rfl, rfl, rfl⟩ rfl rfl Tryz.underlying74 Tryz.sizeOf3 (by omega) (by omega)) rfl (by kernel_rfl) (by kernel_rfl) (by kernel_rfl) ?_   -- ['t116', 't114']
                        refine GA.val 17 rfl (V.load1 ⟨rfl, rfl, rfl, rfl⟩ rfl Tryz.underlying3 rfl (lk_v (k := k) (l := lookF (fun _ : Nat × Nat × Nat => 0) (fun _ : Nat => 0) s) (hl0.mono (fun y hy => by repeat (first | exact List.mem_append_left _ hy | exact hy | apply List.mem_cons_of_mem | apply List.mem_append_right))) (by omega))) rfl (by kernel_rfl) (by kernel_rfl) (by kernel_rfl) ?_   -- load 25 law.go:150
                        refine GA.val 18 rfl (V.fieldAddr ⟨rfl, rfl, rfl, rfl⟩ rfl Tryz.underlying37 rfl Tryz.sizeOf3) rfl (by kernel_rfl) (by kernel_rfl) (by kernel_rfl) ?_   -- "Var"
                        refine GA.val 19 rfl (V.load1 ⟨rfl, rfl, rfl, rfl⟩ rfl Tryz.underlying3 rfl (.own' (by repeat (first | exact List.mem_cons_self | apply List.mem_cons_of_mem | apply List.mem_append_right)) (by rfl))) rfl (by kernel_rfl) (by kernel_rfl) (by kernel_rfl) ?_   -- load 26 law.go:150 t119
                        refine GA.val 20 rfl (V.neI ⟨rfl, rfl, rfl, rfl⟩ rfl rfl) rfl (by kernel_rfl) (by kernel_rfl) (by kernel_rfl) ?_   -- neq ['t118', 't120']
                        refine GA.val 21 rfl (V.pick_f ⟨rfl, rfl, rfl, rfl⟩ rfl rfl) rfl (by kernel_rfl) (by kernel_rfl) (by kernel_rfl) ?_
                        refine GA.val 22 rfl (V.move ⟨rfl, rfl, rfl, rfl⟩ rfl) rfl (by kernel_rfl) (by kernel_rfl) (by kernel_rfl) ?_
                        refine GA.caseB 123 rfl (fun hg19 => ?_) (fun hg19 => ?_)
                        · try simp only [decide_eq_true_eq, decide_eq_false_iff_not, Bool.not_eq_true', Bool.not_eq_false'] at hg19
                          refine GA.skip 23 rfl rfl rfl rfl rfl (by kernel_rfl) (by kernel_rfl) (by kernel_rfl) ?_
                          refine GA.skip 24 rfl rfl rfl rfl rfl (by kernel_rfl) (by kernel_rfl) (by kernel_rfl) ?_
                          refine GA.skip 25 rfl rfl rfl rfl rfl (by kernel_rfl) (by kernel_rfl) (by kernel_rfl) ?_
                          refine GA.skip 26 rfl rfl rfl rfl rfl (by kernel_rfl) (by kernel_rfl) (by kernel_rfl) ?_
                          refine GA.skip 27 rfl rfl rfl rfl rfl (by kernel_rfl) (by kernel_rfl) (by kernel_rfl) ?_
                          refine GA.skip 28 rfl rfl rfl rfl rfl (by kernel_rfl) (by kernel_rfl) (by kernel_rfl) ?_
                          refine GA.skip 29 rfl rfl rfl rfl rfl (by kernel_rfl) (by kernel_rfl) (by kernel_rfl) ?_
                          refine GA.skip 30 rfl rfl rfl rfl rfl (by kernel_rfl) (by kernel_rfl) (by kernel_rfl) ?_
                          refine GA.skip 31 rfl rfl rfl rfl rfl (by kernel_rfl) (by kernel_rfl) (by kernel_rfl) ?_
                          refine GA.skip 32 rfl rfl rfl rfl rfl (by kernel_rfl) (by kernel_rfl) (by kernel_rfl) ?_
                          refine GA.skip 33 rfl rfl rfl rfl rfl (by kernel_rfl) (by kernel_rfl) (by kernel_rfl) ?_
                          refine GA.skip 34 rfl rfl rfl rfl rfl (by kernel_rfl) (by kernel_rfl) (by kernel_rfl) ?_
                          refine GA.val 35 rfl (V.pick_t ⟨rfl, rfl, rfl, rfl⟩ rfl rfl) rfl (by kernel_rfl) (by kernel_rfl) (by kernel_rfl) ?_
                          refine GA.val 36 rfl (V.move ⟨rfl, rfl, rfl, rfl⟩ rfl) rfl (by kernel_rfl) (by kernel_rfl) (by kernel_rfl) ?_
                          refine GA.skip 37 rfl rfl rfl rfl rfl (by kernel_rfl) (by kernel_rfl) (by kernel_rfl) ?_
                          refine GA.skip 38 rfl rfl rfl rfl rfl (by kernel_rfl) (by kernel_rfl) (by kernel_rfl) ?_
                          refine GA.skip 39 rfl rfl rfl rfl rfl (by kernel_rfl) (by kernel_rfl) (by kernel_rfl) ?_
                          refine GA.skip 40 rfl rfl rfl rfl rfl (by kernel_rfl) (by kernel_rfl) (by kernel_rfl) ?_
                          refine GA.skip 41 rfl rfl rfl rfl rfl (by kernel_rfl) (by kernel_rfl) (by kernel_rfl) ?_
                          refine GA.skip 42 rfl rfl rfl rfl rfl (by kernel_rfl) (by kernel_rfl) (by kernel_rfl) ?_
                          refine GA.skip 43 rfl rfl rfl rfl rfl (by kernel_rfl) (by kernel_rfl) (by kernel_rfl) ?_
                          refine GA.skip 44 rfl rfl rfl rfl rfl (by kernel_rfl) (by kernel_rfl) (by kernel_rfl) ?_
                          refine GA.val 45 rfl (V.pick_t ⟨rfl, rfl, rfl, rfl⟩ rfl rfl) rfl (by kernel_rfl) (by kernel_rfl) (by kernel_rfl) ?_
                          refine GA.done (by first | exact Hs.refl _ | exact Hs.tl _ | exact Hs.tl2 _ _ | exact Hs.tl3 _ _ _ | exact Hs.app _ | exact Hs.sub (by simp)) (by kernel_rfl) ?_
                          refine GW.cond_t rfl ?_
                          refine GW.seq ?_
                          refine GW.region ?_
                          refine R.assign ⟨rfl, rfl, rfl, rfl⟩ rfl ?_
                          refine GOps.nil ?_
                          refine GW.ret (Out.of (Res.one rfl rfl) (by first | exact Hs.refl _ | (exact Hs.sub (by repeat (first | exact List.Sublist.refl _ | apply List.Sublist.cons | refine List.Sublist.trans ?_ (List.sublist_append_right _ _))))) ⟨?_, rfl⟩)
                          first | rfl | (exfalso; omega) | (exfalso; exact absurd hlv (by assumption)) | (exfalso; exact Bool.noConfusion (hb1.symm.trans (by assumption))) | (exfalso; exact Bool.noConfusion (hb0.symm.trans (by assumption)))
                        · try simp only [decide_eq_true_eq, decide_eq_false_iff_not, Bool.not_eq_true', Bool.not_eq_false'] at hg19
                          refine GA.val 23 rfl (V.move ⟨rfl, rfl, rfl, rfl⟩ rfl) rfl (by kernel_rfl) (by kernel_rfl) (by kernel_rfl) ?_
                          refine GA.val 24 rfl (V.move ⟨rfl, rfl, rfl, rfl⟩ rfl) rfl (by kernel_rfl) (by kernel_rfl) (by kernel_rfl) ?_
                          refine GA.val 25 rfl (V.move ⟨rfl, rfl, rfl, rfl⟩ rfl) rfl (by kernel_rfl) (by kernel_rfl) (by kernel_rfl) ?_
                          refine GA.val 26 rfl (V.indexAddrS ⟨rfl, rfl, rfl, rfl⟩ rfl rfl Tryz.underlying70 Tryz.sizeOf77 (by omega) (by omega)) rfl (by kernel_rfl) (by kernel_rfl) (by kernel_rfl) ?_   -- ['t124', 't125']
                          refine GA.val 27 rfl (V.fieldAddr ⟨rfl, rfl, rfl, rfl⟩ rfl Tryz.underlying77 rfl Tryz.sizeOf75) rfl (by kernel_rfl) (by kernel_rfl) (by kernel_rfl) ?_   -- "Distinct"
                          refine GA.val 28 rfl (V.indexAddrA ⟨rfl, rfl, rfl, rfl⟩ rfl rfl Tryz.underlying75 Tryz.sizeOf73 (by omega) (by omega)) rfl (by kernel_rfl) (by kernel_rfl) (by kernel_rfl) ?_   -- ['t128', 't126']
                          refine GA.val 29 rfl (V.load1 ⟨rfl, rfl, rfl, rfl⟩ rfl Tryz.underlying73 rfl (lk_d (k := k) (l := lookF (fun q : Nat × Nat × Nat => flt (cI a q.1 q.2.1 q.2.2)) (fun i : Nat => flt (IntKind.i64.wrap (b + (i : Nat)))) s) (hl1.mono (fun y hy => by repeat (first | exact List.mem_append_left _ hy | exact hy | apply List.mem_cons_of_mem | apply List.mem_append_right))) (by omega))) rfl (by kernel_rfl) (by kernel_rfl) (by kernel_rfl) ?_   -- load 27 law.go:150
                          refine GA.val 30 rfl (V.load1 ⟨rfl, rfl, rfl, rfl⟩ rfl Tryz.underlying3 rfl (.own' (by repeat (first | exact List.mem_cons_self | apply List.mem_cons_of_mem | apply List.mem_append_right)) (by rfl))) rfl (by kernel_rfl) (by kernel_rfl) (by kernel_rfl) ?_   -- load 28 law.go:150 t5:b
                          refine GA.val 31 rfl (V.move ⟨rfl, rfl, rfl, rfl⟩ rfl) rfl (by kernel_rfl) (by kernel_rfl) (by kernel_rfl) ?_
                          refine GA.val 32 rfl (V.add (r := _) ⟨rfl, rfl, rfl, rfl⟩ rfl rfl (rfl)) rfl (by kernel_rfl) (by kernel_rfl) (by kernel_rfl) ?_   -- add ['t131', 't132']
                          refine GA.val 33 rfl (V.convF ⟨rfl, rfl, rfl, rfl⟩ rfl Tryz.underlying3 Tryz.underlying73) rfl (by kernel_rfl) (by kernel_rfl) (by kernel_rfl) ?_
                          refine GA.val 34 rfl (V.neF ⟨rfl, rfl, rfl, rfl⟩ rfl rfl) rfl (by kernel_rfl) (by kernel_rfl) (by kernel_rfl) ?_   -- neq ['t130', 't134']
                          refine GA.val 35 rfl (V.pick_f ⟨rfl, rfl, rfl, rfl⟩ rfl rfl) rfl (by kernel_rfl) (by kernel_rfl) (by kernel_rfl) ?_
                          refine GA.val 36 rfl (V.move ⟨rfl, rfl, rfl, rfl⟩ rfl) rfl (by kernel_rfl) (by kernel_rfl) (by kernel_rfl) ?_
                          refine GA.caseB 137 rfl (fun hg20 => ?_) (fun hg20 => ?_)
                          · try simp only [decide_eq_true_eq, decide_eq_false_iff_not, Bool.not_eq_true', Bool.not_eq_false'] at hg20
                            refine GA.skip 37 rfl rfl rfl rfl rfl (by kernel_rfl) (by kernel_rfl) (by kernel_rfl) ?_
                            refine GA.skip 38 rfl rfl rfl rfl rfl (by kernel_rfl) (by kernel_rfl) (by kernel_rfl) ?_
                            refine GA.skip 39 rfl rfl rfl rfl rfl (by kernel_rfl) (by kernel_rfl) (by kernel_rfl) ?_
                            refine GA.skip 40 rfl rfl rfl rfl rfl (by kernel_rfl) (by kernel_rfl) (by kernel_rfl) ?_
                            refine GA.skip 41 rfl rfl rfl rfl rfl (by kernel_rfl) (by kernel_rfl) (by kernel_rfl) ?_
                            refine GA.skip 42 rfl rfl rfl rfl rfl (by kernel_rfl) (by kernel_rfl) (by kernel_rfl) ?_
                            refine GA.skip 43 rfl rfl rfl rfl rfl (by kernel_rfl) (by kernel_rfl) (by kernel_rfl) ?_
                            refine GA.skip 44 rfl rfl rfl rfl rfl (by kernel_rfl) (by kernel_rfl) (by kernel_rfl) ?_
                            refine GA.val 45 rfl (V.pick_t ⟨rfl, rfl, rfl, rfl⟩ rfl rfl) rfl (by kernel_rfl) (by kernel_rfl) (by kernel_rfl) ?_
                            refine GA.done (by first | exact Hs.refl _ | exact Hs.tl _ | exact Hs.tl2 _ _ | exact Hs.tl3 _ _ _ | exact Hs.app _ | exact Hs.sub (by simp)) (by kernel_rfl) ?_
                            refine GW.cond_t rfl ?_
                            refine GW.seq ?_
                            refine GW.region ?_
                            refine R.assign ⟨rfl, rfl, rfl, rfl⟩ rfl ?_
                            refine GOps.nil ?_
                            refine GW.ret (Out.of (Res.one rfl rfl) (by first | exact Hs.refl _ | (exact Hs.sub (by repeat (first | exact List.Sublist.refl _ | apply List.Sublist.cons | refine List.Sublist.trans ?_ (List.sublist_append_right _ _))))) ⟨?_, rfl⟩)
                            first | rfl | (exfalso; omega) | (exfalso; exact absurd hlv (by assumption)) | (exfalso; exact Bool.noConfusion (hb1.symm.trans (by assumption))) | (exfalso; exact Bool.noConfusion (hb0.symm.trans (by assumption)))
                          · try simp only [decide_eq_true_eq, decide_eq_false_iff_not, Bool.not_eq_true', Bool.not_eq_false'] at hg20
                            refine GA.val 37 rfl (V.move ⟨rfl, rfl, rfl, rfl⟩ rfl) rfl (by kernel_rfl) (by kernel_rfl) (by kernel_rfl) ?_
                            refine GA.val 38 rfl (V.move ⟨rfl, rfl, rfl, rfl⟩ rfl) rfl (by kernel_rfl) (by kernel_rfl) (by kernel_rfl) ?_
                            refine GA.val 39 rfl (V.move ⟨rfl, rfl, rfl, rfl⟩ rfl) rfl (by kernel_rfl) (by kernel_rfl) (by kernel_rfl) ?_
                            refine GA.val 40 rfl (V.indexAddrS ⟨rfl, rfl, rfl, rfl⟩ rfl rfl Tryz.underlying70 Tryz.sizeOf77 (by omega) (by omega)) rfl (by kernel_rfl) (by kernel_rfl) (by kernel_rfl) ?_   -- ['t138', 't139']
                            refine GA.val 41 rfl (V.fieldAddr ⟨rfl, rfl, rfl, rfl⟩ rfl Tryz.underlying77 rfl Tryz.sizeOf75) rfl (by kernel_rfl) (by kernel_rfl) (by kernel_rfl) ?_   -- "Distinct"
                            refine GA.val 42 rfl (V.indexAddrA ⟨rfl, rfl, rfl, rfl⟩ rfl rfl Tryz.underlying75 Tryz.sizeOf73 (by omega) (by omega)) rfl (by kernel_rfl) (by kernel_rfl) (by kernel_rfl) ?_   -- ['t142', 't140']
                            refine GA.val 43 rfl (V.load1 ⟨rfl, rfl, rfl, rfl⟩ rfl Tryz.underlying73 rfl (lk_d (k := k) (l := lookF (fun _ : Nat × Nat × Nat => 0) (fun _ : Nat => 0) s) (hl0.mono (fun y hy => by repeat (first | exact List.mem_append_left _ hy | exact hy | apply List.mem_cons_of_mem | apply List.mem_append_right))) (by omega))) rfl (by kernel_rfl) (by kernel_rfl) (by kernel_rfl) ?_   -- load 29 law.go:150
                            refine GA.val 44 rfl (V.neF ⟨rfl, rfl, rfl, rfl⟩ rfl rfl) rfl (by kernel_rfl) (by kernel_rfl) (by kernel_rfl) ?_   -- neq ['t144', 'const']
                            refine GA.val 45 rfl (V.pick_f ⟨rfl, rfl, rfl, rfl⟩ rfl rfl) rfl (by kernel_rfl) (by kernel_rfl) (by kernel_rfl) ?_
                            refine GA.done (by first | exact Hs.refl _ | exact Hs.tl _ | exact Hs.tl2 _ _ | exact Hs.tl3 _ _ _ | exact Hs.app _ | exact Hs.sub (by simp)) (by kernel_rfl) ?_
                            refine GW.ite rfl (fun hc21 => ?_) (fun hc21 => ?_)
                            · try simp only [decide_eq_true_eq, decide_eq_false_iff_not, Bool.not_eq_true', Bool.not_eq_false'] at hc21
                              refine GW.seq ?_
                              refine GW.region ?_
                              refine R.assign ⟨rfl, rfl, rfl, rfl⟩ rfl ?_
                              refine GOps.nil ?_
                              refine GW.ret (Out.of (Res.one rfl rfl) (by first | exact Hs.refl _ | (exact Hs.sub (by repeat (first | exact List.Sublist.refl _ | apply List.Sublist.cons | refine List.Sublist.trans ?_ (List.sublist_append_right _ _))))) ⟨?_, rfl⟩)
                              first | rfl | (exfalso; omega) | (exfalso; exact absurd hlv (by assumption)) | (exfalso; exact Bool.noConfusion (hb1.symm.trans (by assumption))) | (exfalso; exact Bool.noConfusion (hb0.symm.trans (by assumption)))
                            · try simp only [decide_eq_true_eq, decide_eq_false_iff_not, Bool.not_eq_true', Bool.not_eq_false'] at hc21
                              refine GW.skip ?_
                              refine GW.region ?_
                              refine R.move ⟨rfl, rfl, rfl, rfl⟩ rfl ?_
                              refine R.add (r := (((k + 1) : Nat) : Int)) ⟨rfl, rfl, rfl, rfl⟩ rfl rfl (by rw [wrap64_id (by omega) (by omega)]; omega) ?_   -- add ['t84', '1']
                              refine R.assign ⟨rfl, rfl, rfl, rfl⟩ rfl ?_
                              refine GOps.nil ?_
                              first | exact ⟨k + 1, by omega, by omega, rfl, by repeat (first | exact Keeps.nil _ | refine Keeps.cons rfl ?_), Hs.tlEq (ids_neg (by omega) (by omega)) _ _⟩ | exact ⟨k + 1, by omega, by omega, rfl, by repeat (first | exact Keeps.nil _ | refine Keeps.cons rfl ?_), Hs.tlEq (ids_pos (by omega)) _ _⟩
                  · try simp only [decide_eq_true_eq, decide_eq_false_iff_not, Bool.not_eq_true', Bool.not_eq_false'] at hc12
                    obtain rfl : k = 3 := by omega
                    have hb1 := bne_self (cI a (rid s.row.p0) (rid s.row.p1) (rid s.row.p2))
                    have hb0 := bne_zero
                    refine GW.exit ?_
                    refine GW.seq ?_
                    refine GW.seq ?_
                    refine GW.drawS 18 rfl (by kernel_rfl) ?_
                    refine GA.val 0 rfl (V.move ⟨rfl, rfl, rfl, rfl⟩ rfl) rfl (by kernel_rfl) (by kernel_rfl) (by kernel_rfl) ?_
                    refine GA.val 1 rfl (V.move ⟨rfl, rfl, rfl, rfl⟩ rfl) rfl (by kernel_rfl) (by kernel_rfl) (by kernel_rfl) ?_
                    refine GA.val 2 rfl (V.indexAddrS ⟨rfl, rfl, rfl, rfl⟩ rfl rfl Tryz.underlying70 Tryz.sizeOf77 (by omega) (by omega)) rfl (by kernel_rfl) (by kernel_rfl) (by kernel_rfl) ?_   -- ['t147', 't148']
                    refine GA.val 3 rfl (V.fieldAddr ⟨rfl, rfl, rfl, rfl⟩ rfl Tryz.underlying77 rfl Tryz.sizeOf73) rfl (by kernel_rfl) (by kernel_rfl) (by kernel_rfl) ?_   -- "Count"
                    refine GA.val 4 rfl (V.load1 ⟨rfl, rfl, rfl, rfl⟩ rfl Tryz.underlying73 rfl (lk_c (l := lookF (fun q : Nat × Nat × Nat => flt (cI a q.1 q.2.1 q.2.2)) (fun i : Nat => flt (IntKind.i64.wrap (b + (i : Nat)))) s) (hl1.mono (fun y hy => by repeat (first | exact List.mem_append_left _ hy | exact hy | apply List.mem_cons_of_mem | apply List.mem_append_right))))) rfl (by kernel_rfl) (by kernel_rfl) (by kernel_rfl) ?_   -- load 30 law.go:154
                    refine GA.val 5 rfl (V.move ⟨rfl, rfl, rfl, rfl⟩ rfl) rfl (by kernel_rfl) (by kernel_rfl) (by kernel_rfl) ?_
                    refine GA.val 6 rfl (V.load_own (cs := [.int .u32 (rid s.row.p0 : Nat), .int .u32 (rid s.row.p1 : Nat), .int .u32 (rid s.row.p2 : Nat)]) ⟨rfl, rfl, rfl, rfl⟩ rfl Tryz.underlying68 rfl Tryz.sizeOf68 (by repeat (first | exact List.mem_cons_self | apply List.mem_cons_of_mem | apply List.mem_append_right)) (by rfl) (by rfl)) rfl (by kernel_rfl) (by kernel_rfl) (by kernel_rfl) ?_   -- load 31 law.go:154 t14:row
                    refine GA.one 7 (by first | exact Hs.refl _ | exact Hs.tl _ | exact Hs.tl2 _ _ | exact Hs.tl3 _ _ _ | exact Hs.app _ | exact Hs.sub (by simp)) (by kernel_rfl) rfl ?_
                    refine R.call ⟨rfl, rfl, rfl, rfl⟩ rfl (vs := [_]) rfl ((cnt19 _ _ b4 a (rid s.row.p0) (rid s.row.p1) (rid s.row.p2) (by repeat (first | exact List.mem_cons_self | apply List.mem_cons_of_mem | apply List.mem_append_right | exact List.mem_append_left _ List.mem_cons_self))).mono ?_)
                    rintro _ _ ⟨rfl, rfl⟩
                    refine GOps.nil ?_
                    refine GA.val 8 rfl (V.convF ⟨rfl, rfl, rfl, rfl⟩ rfl Tryz.underlying3 Tryz.underlying73) rfl (by kernel_rfl) (by kernel_rfl) (by kernel_rfl) ?_
                    refine GA.val 9 rfl (V.neF ⟨rfl, rfl, rfl, rfl⟩ rfl rfl) rfl (by kernel_rfl) (by kernel_rfl) (by kernel_rfl) ?_   -- neq ['t151', 't155']
                    refine GA.val 10 rfl (V.move ⟨rfl, rfl, rfl, rfl⟩ rfl) rfl (by kernel_rfl) (by kernel_rfl) (by kernel_rfl) ?_
                    refine GA.caseB 157 rfl (fun hg22 => ?_) (fun hg22 => ?_)
                    · try simp only [decide_eq_true_eq, decide_eq_false_iff_not, Bool.not_eq_true', Bool.not_eq_false'] at hg22
                      refine GA.skip 11 rfl rfl rfl rfl rfl (by kernel_rfl) (by kernel_rfl) (by kernel_rfl) ?_
                      refine GA.skip 12 rfl rfl rfl rfl rfl (by kernel_rfl) (by kernel_rfl) (by kernel_rfl) ?_
                      refine GA.skip 13 rfl rfl rfl rfl rfl (by kernel_rfl) (by kernel_rfl) (by kernel_rfl) ?_
                      refine GA.skip 14 rfl rfl rfl rfl rfl (by kernel_rfl) (by kernel_rfl) (by kernel_rfl) ?_
                      refine GA.skip 15 rfl rfl rfl rfl rfl (by kernel_rfl) (by kernel_rfl) (by kernel_rfl) ?_
                      refine GA.skip 16 rfl rfl rfl rfl rfl (by kernel_rfl) (by kernel_rfl) (by kernel_rfl) ?_
                      refine GA.val 17 rfl (V.pick_t ⟨rfl, rfl, rfl, rfl⟩ rfl rfl) rfl (by kernel_rfl) (by kernel_rfl) (by kernel_rfl) ?_
                      refine GA.done (by first | exact Hs.refl _ | exact Hs.tl _ | exact Hs.tl2 _ _ | exact Hs.tl3 _ _ _ | exact Hs.app _ | exact Hs.sub (by simp)) (by kernel_rfl) ?_
                      refine GW.cond_t rfl ?_
                      refine GW.seq ?_
                      refine GW.region ?_
                      refine R.assign ⟨rfl, rfl, rfl, rfl⟩ rfl ?_
                      refine GOps.nil ?_
                      refine GW.ret (Out.of (Res.one rfl rfl) (by first | exact Hs.refl _ | (exact Hs.sub (by repeat (first | exact List.Sublist.refl _ | apply List.Sublist.cons | refine List.Sublist.trans ?_ (List.sublist_append_right _ _))))) ⟨?_, rfl⟩)
                      first | rfl | (exfalso; omega) | (exfalso; exact absurd hlv (by assumption)) | (exfalso; exact Bool.noConfusion (hb1.symm.trans (by assumption))) | (exfalso; exact Bool.noConfusion (hb0.symm.trans (by assumption)))
                    · try simp only [decide_eq_true_eq, decide_eq_false_iff_not, Bool.not_eq_true', Bool.not_eq_false'] at hg22
                      refine GA.val 11 rfl (V.move ⟨rfl, rfl, rfl, rfl⟩ rfl) rfl (by kernel_rfl) (by kernel_rfl) (by kernel_rfl) ?_
                      refine GA.val 12 rfl (V.move ⟨rfl, rfl, rfl, rfl⟩ rfl) rfl (by kernel_rfl) (by kernel_rfl) (by kernel_rfl) ?_
                      refine GA.val 13 rfl (V.indexAddrS ⟨rfl, rfl, rfl, rfl⟩ rfl rfl Tryz.underlying70 Tryz.sizeOf77 (by omega) (by omega)) rfl (by kernel_rfl) (by kernel_rfl) (by kernel_rfl) ?_   -- ['t158', 't159']
                      refine GA.val 14 rfl (V.fieldAddr ⟨rfl, rfl, rfl, rfl⟩ rfl Tryz.underlying77 rfl Tryz.sizeOf73) rfl (by kernel_rfl) (by kernel_rfl) (by kernel_rfl) ?_   -- "Count"
                      refine GA.val 15 rfl (V.load1 ⟨rfl, rfl, rfl, rfl⟩ rfl Tryz.underlying73 rfl (lk_c (l := lookF (fun _ : Nat × Nat × Nat => 0) (fun _ : Nat => 0) s) (hl0.mono (fun y hy => by repeat (first | exact List.mem_append_left _ hy | exact hy | apply List.mem_cons_of_mem | apply List.mem_append_right))))) rfl (by kernel_rfl) (by kernel_rfl) (by kernel_rfl) ?_   -- load 32 law.go:154
                      refine GA.val 16 rfl (V.neF ⟨rfl, rfl, rfl, rfl⟩ rfl rfl) rfl (by kernel_rfl) (by kernel_rfl) (by kernel_rfl) ?_   -- neq ['t162', 'const']
                      refine GA.val 17 rfl (V.pick_f ⟨rfl, rfl, rfl, rfl⟩ rfl rfl) rfl (by kernel_rfl) (by kernel_rfl) (by kernel_rfl) ?_
                      refine GA.done (by first | exact Hs.refl _ | exact Hs.tl _ | exact Hs.tl2 _ _ | exact Hs.tl3 _ _ _ | exact Hs.app _ | exact Hs.sub (by simp)) (by kernel_rfl) ?_
                      refine GW.ite rfl (fun hc23 => ?_) (fun hc23 => ?_)
                      · try simp only [decide_eq_true_eq, decide_eq_false_iff_not, Bool.not_eq_true', Bool.not_eq_false'] at hc23
                        refine GW.seq ?_
                        refine GW.region ?_
                        refine R.assign ⟨rfl, rfl, rfl, rfl⟩ rfl ?_
                        refine GOps.nil ?_
                        refine GW.ret (Out.of (Res.one rfl rfl) (by first | exact Hs.refl _ | (exact Hs.sub (by repeat (first | exact List.Sublist.refl _ | apply List.Sublist.cons | refine List.Sublist.trans ?_ (List.sublist_append_right _ _))))) ⟨?_, rfl⟩)
                        first | rfl | (exfalso; omega) | (exfalso; exact absurd hlv (by assumption)) | (exfalso; exact Bool.noConfusion (hb1.symm.trans (by assumption))) | (exfalso; exact Bool.noConfusion (hb0.symm.trans (by assumption)))
                      · try simp only [decide_eq_true_eq, decide_eq_false_iff_not, Bool.not_eq_true', Bool.not_eq_false'] at hc23
                        refine GW.skip ?_
                        refine GW.region ?_
                        refine R.move ⟨rfl, rfl, rfl, rfl⟩ rfl ?_
                        refine R.add (r := ((mN (planRule 1000 [] r [] []).steps (i + 1) : Nat) : Int)) ⟨rfl, rfl, rfl, rfl⟩ rfl rfl (by rw [mN_yes hx (by omega), wrap64_id (by omega) (by omega)]; omega) ?_   -- add ['t165', '1']
                        refine R.assign ⟨rfl, rfl, rfl, rfl⟩ rfl ?_
                        refine GOps.nil ?_
                        refine GW.region ?_
                        refine R.move ⟨rfl, rfl, rfl, rfl⟩ rfl ?_
                        refine R.add (r := (((i + 1) : Nat) : Int)) ⟨rfl, rfl, rfl, rfl⟩ rfl rfl (by rw [wrap64_id (by omega) (by omega)]; omega) ?_   -- add ['t63', '1']
                        refine R.assign ⟨rfl, rfl, rfl, rfl⟩ rfl ?_
                        refine GOps.nil ?_
                        first | exact ⟨i + 1, by omega, by omega, rfl, by repeat (first | exact Keeps.nil _ | refine Keeps.cons rfl ?_), Hs.tl _⟩ | (rw [← mN_no hx (by omega)]; exact ⟨i + 1, by omega, by omega, rfl, by repeat (first | exact Keeps.nil _ | refine Keeps.cons rfl ?_), Hs.refl _⟩)
          · try simp only [decide_eq_true_eq, decide_eq_false_iff_not, Bool.not_eq_true', Bool.not_eq_false'] at hc8
            obtain rfl : i = (planRule 1000 [] r [] []).steps.length := by omega
            have hall := mN_all (planRule 1000 [] r [] []).steps (fun q : Nat × Nat × Nat => flt (cI a q.1 q.2.1 q.2.2)) (fun i : Nat => flt (IntKind.i64.wrap (b + (i : Nat))))
            refine GW.exit ?_
            refine GW.seq ?_
            refine GW.region ?_
            refine R.move ⟨rfl, rfl, rfl, rfl⟩ rfl ?_
            refine R.move ⟨rfl, rfl, rfl, rfl⟩ rfl ?_
            refine R.lenS ⟨rfl, rfl, rfl, rfl⟩ rfl rfl Tryz.underlying70 ?_
            refine R.eqI ⟨rfl, rfl, rfl, rfl⟩ rfl rfl ?_   -- eql ['t167', 't169']
            refine R.move ⟨rfl, rfl, rfl, rfl⟩ rfl ?_
            refine GOps.caseB 171 rfl (fun hg24 => ?_) (fun hg24 => ?_)
            · try simp only [decide_eq_true_eq, decide_eq_false_iff_not, Bool.not_eq_true', Bool.not_eq_false'] at hg24
              refine R.call ⟨rfl, rfl, rfl, rfl⟩ rfl (vs := []) rfl ((law_known _ _).mono ?_)
              rintro _ _ ⟨rfl, rfl⟩
              refine R.pick_t ⟨rfl, rfl, rfl, rfl⟩ rfl rfl ?_
              refine R.assign ⟨rfl, rfl, rfl, rfl⟩ rfl ?_
              refine GOps.nil ?_
              refine GW.ret (Out.of (Res.one rfl rfl) (by first | exact Hs.refl _ | (exact Hs.sub (by repeat (first | exact List.Sublist.refl _ | apply List.Sublist.cons | refine List.Sublist.trans ?_ (List.sublist_append_right _ _))))) ⟨?_, rfl⟩)
              first | rfl | (exfalso; omega) | (exfalso; exact absurd hlv (by assumption)) | (exfalso; exact Bool.noConfusion (hb1.symm.trans (by assumption))) | (exfalso; exact Bool.noConfusion (hb0.symm.trans (by assumption)))
            · try simp only [decide_eq_true_eq, decide_eq_false_iff_not, Bool.not_eq_true', Bool.not_eq_false'] at hg24
              refine GOps.skip rfl rfl rfl ?_
              refine R.pick_f ⟨rfl, rfl, rfl, rfl⟩ rfl rfl ?_
              refine R.assign ⟨rfl, rfl, rfl, rfl⟩ rfl ?_
              refine GOps.nil ?_
              refine GW.ret (Out.of (Res.one rfl rfl) (by first | exact Hs.refl _ | (exact Hs.sub (by repeat (first | exact List.Sublist.refl _ | apply List.Sublist.cons | refine List.Sublist.trans ?_ (List.sublist_append_right _ _))))) ⟨?_, rfl⟩)
              first | rfl | (exfalso; omega) | (exfalso; exact absurd hlv (by assumption)) | (exfalso; exact Bool.noConfusion (hb1.symm.trans (by assumption))) | (exfalso; exact Bool.noConfusion (hb0.symm.trans (by assumption)))
end Go.Proofs.YtfddkcmooommeaaGreatDoor.Gl
end
section
namespace Go.Proofs.YtfddkcmooommeaaGreatDoor.Gl
open Go.RowKit Go.Shelf
set_option linter.unusedVariables false
set_option linter.unnecessarySimpa false
set_option linter.unusedSimpArgs false
section
variable {H : Type} {enc : TypeId × Value → H} {P : Program} {w : World} {base : Nat} {spare : Nat → Bool} {held : Bool} {fuel : Nat} {t : TypeId} {cs : List Value} {x : DataW H × List MemPlace}
theorem trod_string (hu : P.underlying t = some .string) (h : DataW.trod enc P w base spare held fuel t cs = some x) : ∃ s : ByteArray, cs = [.string s] ∧ x.1 = .lit (.string s.data.toList) := by
  cases fuel with
  | zero => simp [DataW.trod] at h
  | succ fuel =>
    simp only [DataW.trod, hu] at h
    split at h <;> first | contradiction | skip
    all_goals simp_all
    all_goals first | (obtain ⟨_, rfl⟩ := h; rfl) | skip
theorem trod_int {k : IntKind} (hu : P.underlying t = some (.int k)) (h : DataW.trod enc P w base spare held fuel t cs = some x) : ∃ n : Int, cs = [.int k n] ∧ x.1 = .lit (.int k n) := by
  cases fuel with
  | zero => simp [DataW.trod] at h
  | succ fuel =>
    simp only [DataW.trod, hu] at h
    split at h <;> first | contradiction | skip
    all_goals simp_all
    all_goals first | (obtain ⟨_, rfl⟩ := h; rfl) | skip
theorem trod_struct {fs : Array Field} (hu : P.underlying t = some (.struct fs)) (h : DataW.trod enc P w base spare held fuel t cs = some x) : cs.length = P.cellsOf t ∧ ∃ (fuel' : Nat) (xs : List (DataW H × List MemPlace)), (fs.toList.mapM fun f => DataW.trod enc P w base spare held fuel' f.type ((cs.drop f.offset).take (P.cellsOf f.type))) = some xs ∧ x.1 = .agg (xs.map (·.1)) := by
  cases fuel with
  | zero => simp [DataW.trod] at h
  | succ fuel =>
    simp only [DataW.trod, hu] at h
    split at h <;> first | contradiction | skip
    all_goals simp_all
    all_goals (obtain ⟨xs, h2, h3⟩ := h; exact ⟨fuel, xs, h2, by rw [← h3]⟩)
theorem trod_array {n : Nat} {e : TypeId} (hu : P.underlying t = some (.array n e)) (h : DataW.trod enc P w base spare held fuel t cs = some x) : cs.length = P.cellsOf t ∧ ∃ (fuel' : Nat) (xs : List (DataW H × List MemPlace)), ((List.range n).mapM fun i => DataW.trod enc P w base spare held fuel' e ((cs.drop (i * P.cellsOf e)).take (P.cellsOf e))) = some xs ∧ x.1 = .agg (xs.map (·.1)) := by
  cases fuel with
  | zero => simp [DataW.trod] at h
  | succ fuel =>
    simp only [DataW.trod, hu] at h
    split at h <;> first | contradiction | skip
    all_goals simp_all
    all_goals (obtain ⟨xs, h2, h3⟩ := h; exact ⟨fuel, xs, h2, by rw [← h3]⟩)
theorem seg_app (cs : List Value) (o n m : Nat) : (cs.drop o).take (n + m) = (cs.drop o).take n ++ (cs.drop (o + n)).take m := by
  rw [List.take_add, List.drop_drop]
end
section
open _root_.Go.Proofs.YtfddkcmooommeaaGreatDoor.Rows
variable {H : Type} {enc : TypeId × Value → H} {w : World} {base : Nat} {spare : Nat → Bool} {held : Bool} {fuel : Nat} {cs : List Value} {x : DataW H × List MemPlace}
theorem c9 : Tryz.prog.cellsOf 9 = 1 := by kernel_rfl
theorem c33 : Tryz.prog.cellsOf 22 = 1 := by kernel_rfl
theorem c35 : Tryz.prog.cellsOf 24 = 3 := by kernel_rfl
theorem c37 : Tryz.prog.cellsOf 26 = 4 := by kernel_rfl
theorem c40 : Tryz.prog.cellsOf 28 = 12 := by kernel_rfl
theorem c41 : Tryz.prog.cellsOf 87 = 1 := by kernel_rfl
theorem c43 : Tryz.prog.cellsOf 89 = 21 := by kernel_rfl
theorem c44 : Tryz.prog.cellsOf 29 = 1 := by kernel_rfl
theorem c46 : Tryz.prog.cellsOf 31 = 13 := by kernel_rfl
theorem trod_Tm (h : DataW.trod enc Tryz.prog w base spare held fuel 24 cs = some x) : ∃ t : Tm, cs = TmC t ∧ t.text.size ≤ uptoBulk x.1 ∧ t.ext.size ≤ uptoBulk x.1 := by
  obtain ⟨hl, f', xs, hm, hx⟩ := trod_struct Tryz.underlying24 h
  rw [c35] at hl
  simp only [List.mapM_cons, List.mapM_nil, c33, c9, Option.bind_eq_bind, Option.bind_eq_some_iff, Option.pure_def, Option.some.injEq] at hm
  obtain ⟨a, ha, _, ⟨b, hb, _, ⟨c, hc, _, rfl, rfl⟩, rfl⟩, rfl⟩ := hm
  obtain ⟨n, e1, d1⟩ := trod_int Tryz.underlying22 ha
  obtain ⟨s, e2, d2⟩ := trod_string Tryz.underlying9 hb
  obtain ⟨u, e3, d3⟩ := trod_string Tryz.underlying9 hc
  refine ⟨⟨n, s, u⟩, ?_, ?_, ?_⟩
  · have e : cs = (cs.drop 0).take (1 + (1 + 1)) := by rw [List.drop_zero, List.take_of_length_le (by omega)]
    rw [e, seg_app, seg_app, e1, e2, e3]
    rfl
  · rw [hx]
    simp [uptoBulk, uptoBulkAll, d1, d2, d3]
    have : s.data.size = s.size := rfl
    omega
  · rw [hx]
    simp [uptoBulk, uptoBulkAll, d1, d2, d3]
    have : u.data.size = u.size := rfl
    omega
theorem bulk_agg (ps : List (DataW H)) : uptoBulk (.agg ps) = uptoBulkAll ps + 1 := by simp [uptoBulk]
theorem bulk_mem : ∀ (ps : List (DataW H)) (d : DataW H), d ∈ ps → uptoBulk d ≤ uptoBulkAll ps
  | [], d, h => by simp at h
  | p :: ps, d, h => by
    simp only [uptoBulkAll]
    rcases List.mem_cons.1 h with rfl | h
    · omega
    · have := bulk_mem ps d h; omega
theorem bulk_pos (d : DataW H) : 1 ≤ uptoBulk d := by
  cases d with
  | lit l => cases l <;> simp [uptoBulk]
  | _ => simp [uptoBulk]
theorem bulk_len : ∀ (ps : List (DataW H)), ps.length ≤ uptoBulkAll ps
  | [] => by simp [uptoBulkAll]
  | p :: ps => by have := bulk_len ps; have := bulk_pos p; simp only [uptoBulkAll, List.length_cons]; omega
theorem trod_Sl (hb : uptoBulk x.1 ≤ 1048576) (h : DataW.trod enc Tryz.prog w base spare held fuel 26 cs = some x) : ∃ s : Sl, cs = SlC s ∧ SlOk s := by
  obtain ⟨hl, f', xs, hm, hx⟩ := trod_struct Tryz.underlying26 h
  rw [c37] at hl
  simp only [List.mapM_cons, List.mapM_nil, c35, c9, Option.bind_eq_bind, Option.bind_eq_some_iff, Option.pure_def, Option.some.injEq] at hm
  obtain ⟨a, ha, _, ⟨b, hb2, _, rfl, rfl⟩, rfl⟩ := hm
  obtain ⟨s, e1, d1⟩ := trod_string Tryz.underlying9 ha
  obtain ⟨t, e2, b1, b2⟩ := trod_Tm hb2
  rw [hx, bulk_agg] at hb
  have m1 := bulk_mem (List.map (fun x => x.1) [a, b]) a.1 (by simp)
  have m2 := bulk_mem (List.map (fun x => x.1) [a, b]) b.1 (by simp)
  refine ⟨⟨s, t⟩, ?_, ?_, by simp only; omega, by simp only; omega⟩
  · have e : cs = (cs.drop 0).take (1 + 3) := by rw [List.drop_zero, List.take_of_length_le (by omega)]
    rw [e, seg_app, e1, e2]
    rfl
  · rw [d1] at m1
    simp only [uptoBulk] at m1
    have : s.data.toList.length = s.size := by rw [Array.length_toList]; rfl
    simp only
    omega
theorem trod_Pt (hb : uptoBulk x.1 ≤ 1048576) (h : DataW.trod enc Tryz.prog w base spare held fuel 28 cs = some x) : ∃ p : Pt, cs = PtC p ∧ PtOk p := by
  obtain ⟨hl, f', xs, hm, hx⟩ := trod_array Tryz.underlying28 h
  rw [c40] at hl
  rw [range3] at hm
  simp only [List.mapM_cons, List.mapM_nil, c37, Option.bind_eq_bind, Option.bind_eq_some_iff, Option.pure_def, Option.some.injEq] at hm
  obtain ⟨a, ha, _, ⟨b, hb2, _, ⟨c, hc, _, rfl, rfl⟩, rfl⟩, rfl⟩ := hm
  rw [hx, bulk_agg] at hb
  have m1 := bulk_mem (List.map (fun x => x.1) [a, b, c]) a.1 (by simp)
  have m2 := bulk_mem (List.map (fun x => x.1) [a, b, c]) b.1 (by simp)
  have m3 := bulk_mem (List.map (fun x => x.1) [a, b, c]) c.1 (by simp)
  obtain ⟨s0, e0, o0⟩ := trod_Sl (by omega) ha
  obtain ⟨s1, e1, o1⟩ := trod_Sl (by omega) hb2
  obtain ⟨s2, e2, o2⟩ := trod_Sl (by omega) hc
  refine ⟨⟨s0, s1, s2⟩, ?_, o0, o1, o2⟩
  have e : cs = (cs.drop 0).take (4 + (4 + 4)) := by rw [List.drop_zero, List.take_of_length_le (by omega)]
  rw [e, seg_app, seg_app, show cs.drop 0 = cs.drop (0 * 4) from rfl, e0, show (0 + 4) = 1 * 4 from rfl, e1, show (1 * 4 + 4) = 2 * 4 from rfl, e2]
  rfl
theorem trod_Lt (hb : uptoBulk x.1 ≤ 1048576) (h : DataW.trod enc Tryz.prog w base spare held fuel 89 cs = some x) : ∃ l : Lt, cs = LtC l ∧ LtOk l := by
  obtain ⟨hl, f', xs, hm, hx⟩ := trod_struct Tryz.underlying89 h
  rw [c43] at hl
  simp only [List.mapM_cons, List.mapM_nil, c41, c40, c37, Option.bind_eq_bind, Option.bind_eq_some_iff, Option.pure_def, Option.some.injEq] at hm
  obtain ⟨a, ha, _, ⟨b, hb2, _, ⟨c, hc, _, ⟨d, hd, _, rfl, rfl⟩, rfl⟩, rfl⟩, rfl⟩ := hm
  rw [hx, bulk_agg] at hb
  have m2 := bulk_mem (List.map (fun x => x.1) [a, b, c, d]) b.1 (by simp)
  have m3 := bulk_mem (List.map (fun x => x.1) [a, b, c, d]) c.1 (by simp)
  have m4 := bulk_mem (List.map (fun x => x.1) [a, b, c, d]) d.1 (by simp)
  obtain ⟨k, e0, d0⟩ := trod_int Tryz.underlying87 ha
  obtain ⟨p, e1, o1⟩ := trod_Pt (by omega) hb2
  obtain ⟨s, e2, o2⟩ := trod_Sl (by omega) hc
  obtain ⟨u, e3, o3⟩ := trod_Sl (by omega) hd
  refine ⟨⟨k, p, s, u⟩, ?_, o1, o2, o3⟩
  have e : cs = (cs.drop 0).take (1 + (12 + (4 + 4))) := by rw [List.drop_zero, List.take_of_length_le (by omega)]
  rw [e, seg_app, seg_app, seg_app, e0, e1, e2, e3]
  rfl
theorem list_choose {α : Type} (p : Nat → α → Prop) : ∀ n, (∀ i, i < n → ∃ a, p i a) → ∃ l : List α, l.length = n ∧ ∀ (i : Nat) a, l[i]? = some a → p i a
  | 0, _ => ⟨[], rfl, fun i a h => by simp at h⟩
  | n + 1, h => by
    obtain ⟨l, hl, hp⟩ := list_choose p n (fun i hi => h i (by omega))
    obtain ⟨a, ha⟩ := h n (by omega)
    refine ⟨l ++ [a], by simp [hl], fun i b hb => ?_⟩
    rcases Nat.lt_or_ge i l.length with hi | hi
    · rw [List.getElem?_append_left hi] at hb
      exact hp i b hb
    · have : i = n := by
        have := (List.getElem?_eq_some_iff.1 hb).1
        simp at this
        omega
      subst this
      rw [List.getElem?_append_right (by omega), hl, Nat.sub_self] at hb
      simp at hb
      subst hb
      exact ha
theorem trod_row {α : Type} {t e : TypeId} {sz : Nat} (C : α → List Value → Prop) (ht : Tryz.prog.underlying t = some (.slice e)) (hc : Tryz.prog.cellsOf e = sz) (hsz : 0 < sz) (hb : uptoBulk x.1 ≤ 1048576) (h : DataW.trod enc Tryz.prog w base spare held fuel t cs = some x)
    (hel : ∀ (n : Nat) (cs' : List Value) (y : DataW H × List MemPlace), uptoBulk y.1 ≤ 1048576 → DataW.trod enc Tryz.prog w base spare held n e cs' = some y → ∃ a, C a cs') :
    ∃ (A : Option Addr) (as_ : List α) (c : Nat), cs = [.slice A as_.length c] ∧ as_.length ≤ c ∧ c ≤ 9223372036854775807 ∧ as_.length ≤ 1048576 ∧ RowAt w [] sz C A as_ := by
  rcases Go.Deep.open_slice ht h with ⟨rfl, _⟩ | ⟨a, len, cap, m, n, D, Pl, rfl, _, hl, hm, hmm, hx, hall⟩
  · exact ⟨Option.none, [], 0, rfl, by simp, by omega, by simp, fun i y hy => by simp at hy⟩
  · have hlm : len ≤ m := by rw [hmm]; split <;> omega
    have hx1 : x.1 = .slice ((List.range len).map D) ((List.range (m - len)).map fun j => D (len + j)) := by rw [hx]
    rw [hx1] at hb
    simp only [uptoBulk] at hb
    have hlen := bulk_len ((List.range len).map D)
    rw [List.length_map, List.length_range] at hlen
    obtain ⟨l, hl2, hp⟩ := list_choose (fun i y => ∃ cs', w.cells? base (a.add (i * sz)) sz = some cs' ∧ C y cs') len (fun i hi => by
      obtain ⟨cs', h1, h2⟩ := hall i (by omega)
      rw [hc] at h1
      have hbi := bulk_mem ((List.range len).map D) (D i) (List.mem_map.2 ⟨i, List.mem_range.2 hi, rfl⟩)
      obtain ⟨y, hy⟩ := hel n cs' (D i, Pl i) (by simp only; omega) h2
      exact ⟨y, cs', h1, hy⟩)
    subst hl2
    refine ⟨some a, l, cap, rfl, hl, hm, by omega, fun i y hy => ?_⟩
    obtain ⟨cs', h1, h2⟩ := hp i y hy
    obtain ⟨_, hlen2, hcell⟩ := World.cells?_some h1
    have hspot : a.spot = Option.none := by
      have hil : 0 < l.length := by have := (List.getElem?_eq_some_iff.1 hy).1; omega
      obtain ⟨cs0, g1, g2⟩ := hp 0 l[0] (List.getElem?_eq_getElem hil)
      obtain ⟨_, glen, gcell⟩ := World.cells?_some g1
      have h0 := gcell 0 (by omega)
      rw [List.getElem?_eq_getElem (by omega)] at h0
      have := World.cell?_spot h0
      rw [Nat.zero_mul] at this
      simpa [Addr.add] using this
    obtain ⟨b, o, sp⟩ := a
    simp only at hspot
    subst hspot
    refine ⟨b, o, cs', rfl, h2, fun j v hv => .old ?_⟩
    have hj : j < sz := by rw [← hlen2]; exact (List.getElem?_eq_some_iff.1 hv).1
    have := hcell j hj
    rw [hv, add_none, add_none] at this
    exact this
theorem row_all {α : Type} {sz : Nat} {C : α → List Value → Prop} {ok : α → Prop} {G : Hp} {A : Option Addr} {xs : List α} (h : RowAt w G sz (fun a c => C a c ∧ ok a) A xs) : RowAt w G sz C A xs ∧ ∀ a ∈ xs, ok a :=
  ⟨fun i a hi => by obtain ⟨b, o, cs, h1, h2, h3⟩ := h i a hi; exact ⟨b, o, cs, h1, h2.1, h3⟩, fun a ha => by
    obtain ⟨i, hi, rfl⟩ := List.mem_iff_getElem.1 ha
    obtain ⟨b, o, cs, h1, h2, h3⟩ := h i _ (List.getElem?_eq_getElem hi)
    exact h2.2⟩
theorem trod_Rl (hb : uptoBulk x.1 ≤ 1048576) (h : DataW.trod enc Tryz.prog w base spare held fuel 31 cs = some x) : ∃ r : Rl, RlIs w [] r cs ∧ RlOk r ∧ r.body.length ≤ 1048576 := by
  obtain ⟨hl, f', xs, hm, hx⟩ := trod_struct Tryz.underlying31 h
  rw [c46] at hl
  simp only [List.mapM_cons, List.mapM_nil, c40, c44, Option.bind_eq_bind, Option.bind_eq_some_iff, Option.pure_def, Option.some.injEq] at hm
  obtain ⟨a, ha, _, ⟨b, hb2, _, rfl, rfl⟩, rfl⟩ := hm
  rw [hx, bulk_agg] at hb
  have m1 := bulk_mem (List.map (fun x => x.1) [a, b]) a.1 (by simp)
  have m2 := bulk_mem (List.map (fun x => x.1) [a, b]) b.1 (by simp)
  obtain ⟨p, e1, o1⟩ := trod_Pt (by omega) ha
  obtain ⟨A, ls, c, e2, h1, h2, h3, hr⟩ := trod_row (fun l cs => cs = LtC l ∧ LtOk l) Tryz.underlying29 c43 (by omega) (by omega) hb2 (fun n cs' y hy hz => trod_Lt hy hz)
  obtain ⟨hr1, hr2⟩ := row_all hr
  refine ⟨⟨p, ls⟩, ⟨A, c, ?_, h1, h2, hr1⟩, ⟨o1, hr2⟩, h3⟩
  have e : cs = (cs.drop 0).take (12 + 1) := by rw [List.drop_zero, List.take_of_length_le (by omega)]
  rw [e, seg_app, e1, e2]
  rfl
end
end Go.Proofs.YtfddkcmooommeaaGreatDoor.Gl
end
section
namespace Go.Proofs.YtfddkcmooommeaaGreatDoor.Gl
open Go.ChangeShapes Go.WideShapes Go.ChangeAt Go.RowKit
set_option linter.unusedVariables false
set_option linter.unnecessarySimpa false
set_option linter.unusedSimpArgs false
theorem laidOut : laidOutB Tryz.prog = true := by kernel_rfl
theorem sat_self (W : World) : Sat W [] W :=
  ⟨Below.refl _ _, fun _ _ h => by simp at h, by simp, fun b o hb h => by rw [Array.getElem?_eq_none hb] at h; cases h⟩
theorem frozen_same {W W' : World} {G : Hp} (hs : Sat W G W') (a : Addr) : W'.frozen? a = W.frozen? a := by
  rcases Nat.lt_or_ge a.block W.heap.size with h | h
  · exact hs.below.frozen h
  · have e0 : W.heap[a.block]? = Option.none := Array.getElem?_eq_none h
    cases e : W'.heap[a.block]? with
    | none => simp [World.frozen?, e, e0]
    | some o =>
      have hc := hs.cool _ _ h e
      cases o <;> simp_all [World.frozen?, coolO]
theorem calls_of_GC {W : World} {f : FuncId} {args : Array Value} {R : Value → Hp → Prop} (h : GC Tryz.prog W f args R []) : Calls Tryz.prog f args W fun e W' => ∃ v G', e = .returned v ∧ Sat W G' W' ∧ R v G' :=
  (callsIn_wide (n := 0)).1 (h.2 0 W (sat_self W))
theorem agg_of {cs : Array Value} {l : List Value} (h : (Value.agg cs).cells.toList = l) : Value.agg cs = .agg l.toArray := by
  have : cs.toList = l := h
  rw [← this]
set_option maxRecDepth 100000 in
theorem contract_Looks (H : Type) (enc : TypeId × Value → H) (W : World) (base : Nat) (args : Array Value) (ds gs : List (DataW H)) (before : List MemPlace)
    (hval : ∀ (j : Nat) t v, Tryz.f5.params[j]? = some t → args[j]? = some v → Value.okWide Tryz.prog W .any base t v)
    (hW : DataW.Whole enc Tryz.prog Tryz.f5.params.toList Rows.planLooksSpec.vars false W args.toList ds gs before) (hk : Rows.uptoSmall H (ds ++ gs) = true) :
    Calls Tryz.prog 5 args W fun e W' => ∃ v, e = .returned v ∧ Rows.planLooksSpec.post enc Tryz.prog Tryz.f5 false true false false W args v W' := by
  have hW' := hW
  obtain ⟨p, q, hA0, hV, rfl, hfz, hnd⟩ := hW
  have hA : DataW.TrodAll enc Tryz.prog W 0 (fun _ => true) true Tryz.f5.params.toList args.toList ds p := hA0
  rw [Tryz.params5] at hA hval
  obtain ⟨v0, v1, v2, d0, d1, d2, p0, p1, p2, rfl, rfl, rfl, h0, g1, g2⟩ := trodAll_three hA
  obtain ⟨i, rfl, rfl, rfl, wi⟩ := open_int Tryz.underlying3 (hval 1 3 v1 (by simp) (by simp)) g1
  obtain ⟨j, rfl, rfl, rfl, wj⟩ := open_int Tryz.underlying3 (hval 2 3 v2 (by simp) (by simp)) g2
  obtain ⟨rfl, rfl⟩ := trodVars_none hV
  have hkb := of_decide_eq_true hk
  simp only [List.append_nil, Rows.uptoBulkAll] at hkb
  have h0' := h0
  obtain ⟨fuel, h0'⟩ := h0'
  obtain ⟨r, ⟨bA, bc, e, h1, h2, hl⟩, hok, hbl⟩ := trod_Rl (x := (d0, p0)) (by simp only; omega) h0'
  obtain ⟨cs, rfl, _⟩ := okWide_struct Tryz.underlying31 (hval 0 31 v0 (by simp) (by simp))
  rw [agg_of e] at h0 hW' ⊢
  clear hA0
  simp only [List.append_nil] at hW'
  have walk := calls_of_GC (law_Looks W [] r bA bc i j hl hbl hok)
  refine walk.mono fun e W' ⟨v, G', he, hs, hv, _⟩ => ?_
  subst hv
  have hlt : ∀ x ∈ p0, x.block < W.heap.size := fun x hx => by simpa using hW'.lt x hx
  refine ⟨_, he, post_of_same (pa := p0) (pv := []) hW' (fun _ _ _ => trodAll_cons_mk (shut_bool Tryz.underlying4 _) trodAll_mk0) (fun sp hsp => ?_) (fun _ _ => rfl) (by simp) (hs.below.frame _) (frozen_same hs) (ok_one (by kernel_rfl) rfl (okWide_bool_mk Tryz.underlying4 _))⟩
  rw [Tryz.params5]
  have h4 := trodAll_mk3 (WideElems.Trod_stays laidOut (by kernel_rfl) (of_decide_eq_true (by kernel_rfl)) h0 (fun x hx => hs.below.same (hlt x hx)) (fun x hx => hsp x hx)) (shut_int (enc := enc) (w := W') (base := 0) (spare := sp) (held := true) Tryz.underlying3 wi) (shut_int (enc := enc) (w := W') (base := 0) (spare := sp) (held := true) Tryz.underlying3 wj)
  simp only [List.append_nil] at h4
  exact h4
end Go.Proofs.YtfddkcmooommeaaGreatDoor.Gl
end
section
namespace Go.Proofs.YtfddkcmooommeaaGreatDoor.Gl
open Go.ChangeShapes Go.WideShapes Go.ChangeAt Go.RowKit Go.Lib
set_option linter.unusedVariables false
set_option linter.unnecessarySimpa false
set_option linter.unusedSimpArgs false
theorem ownK : ownKnob Tryz.prog.godebug = Option.none := by kernel_rfl
noncomputable def laidWorld (os : Os) : World :=
  let w0 := World.holding Tryz.prog os ⟨#[], #[], []⟩
  let put (h : Array Obj) (g : Nat) (cs : Array Value) : Array Obj := h.modify g fun
    | .cells _ t frozen => .cells cs t frozen
    | o => o
  let h1 := put w0.heap 1 (Lib.firstTab.map fun z => Value.int .u8 z).toArray
  let h2 := put h1 2 ((List.range 16).flatMap fun i => [Value.int .u8 (Lib.accLo i), Value.int .u8 (Lib.accHi i)]).toArray
  { w0 with heap := h2 }
theorem laid_met (os : Os) (args : Array Value) : laidMet Tryz.prog Rows.planLooksUptoRow.laid ((laidWorld os).forCall (fun _ _ => 0) ⟨#[], args, []⟩).memory :=
  (LaidIn.of_run (l := [("unicode/utf8.acceptRanges", Rows.laid_unicode_utf8_acceptRanges), ("unicode/utf8.first", Rows.laid_unicode_utf8_first)]) [2, 1] 8 (by kernel_rfl) (by kernel_rfl) (by kernel_rfl) (by kernel_rfl)).met
def noRule : Value := .agg #[.string "".toUTF8, .int .i64 0, .string "".toUTF8, .string "".toUTF8, .string "".toUTF8, .int .i64 0, .string "".toUTF8, .string "".toUTF8, .string "".toUTF8, .int .i64 0, .string "".toUTF8, .string "".toUTF8, .slice Option.none 0 0]
def noSl {H : Type} : DataW H := .agg [.lit (.string []), .agg [.lit (.int .i64 0), .lit (.string []), .lit (.string [])]]
def noRuleD {H : Type} : DataW H := .agg [.agg [noSl, noSl, noSl], .nil]
theorem reads_Looks (os : Os) {H : Type} (enc : TypeId × Value → H) : ∃ places, DataW.whole enc Tryz.prog ((laidWorld os).forCall (fun _ _ => 0) ⟨#[], #[noRule, .int .i64 0, .int .i64 0], []⟩).memory Tryz.f5.params.toList Rows.planLooksSpec.vars false #[noRule, .int .i64 0, .int .i64 0].toList 8 = some ([noRuleD, .lit (.int .i64 0), .lit (.int .i64 0)], [], places) :=
  ⟨[], by kernel_rfl⟩
set_option maxRecDepth 100000 in
theorem lifted_Looks (os : Os) (started : os.Started) (H : Type) (enc : TypeId × Value → H) (F : Stop.Interp) :
    ReturnsInHanded {} Tryz.checked os 5 .any ((Rows.OpenSpec.upto Rows.planLooksSpec).preRow enc Tryz.prog Tryz.f5 Rows.planLooksUptoRow.domain false Rows.planLooksUptoRow.laid) (((Rows.OpenSpec.upto Rows.planLooksSpec).at F).post enc Tryz.prog Tryz.f5 false true false false) := by
  obtain ⟨places, hx⟩ := reads_Looks os enc
  refine returnsInHanded_of_row (C := Tryz.checked) (s := Rows.OpenSpec.upto Rows.planLooksSpec) ownK started (by kernel_rfl) Tryz.func5
    (witness_row_at (enc := enc) (C := Tryz.checked) false (laidWorld os) #[noRule, .int .i64 0, .int .i64 0] rfl (by kernel_rfl) (by kernel_rfl) (by kernel_rfl)
      (OpenSpec.preRow_of_cond 8 hx (by kernel_rfl) (fun k hk => by cases hk; kernel_rfl) (by kernel_rfl) (laid_met os _))) ?_
  intro W base args ds gs before hval hW _ hcond _ hL _ _
  first
    | exact contract_Looks H enc W base args ds gs before hval hW (hcond _ rfl)
    | exact contract_Looks H enc W base args ds gs before hval hW (by assumption)
set_option maxRecDepth 100000 in
theorem saidUpto_Looks : Rows.PlanLooksUptoSaid :=
  OpenClaim.holds_of_cond 5 Tryz.f5 rfl rfl rfl rfl rfl rfl rfl ⟨rfl, rfl, rfl, rfl, rfl⟩ rfl rfl rfl rfl rfl (by kernel_rfl) Tryz.func5 (by kernel_rfl)
    (of_decide_eq_true (by kernel_rfl)) (by unfold Func.isWrapper; first | (rw [if_pos (by decide +kernel)]; kernel_rfl) | (rw [if_neg (by decide +kernel)]; exact ⟨rfl, rfl⟩))
    (fun os started H enc _ F => by rw [OpenClaim.pre_eq_preRow]; exact lifted_Looks os started H enc F)
theorem plain_Looks (f : FuncId) (fn : Func) (hf : Tryz.pinned.checked.prog.funcNamed "rhizome/rhizomelaw13.PlanLooks" = some f) (hfn : Tryz.pinned.checked.prog.funcs[f]? = some fn) :
    false = Tryz.pinned.checked.prog.looks [] ∧ ∀ (j : Nat) t, fn.params[j]? = some t → Tryz.pinned.checked.prog.wantsStandIn t = false := by
  obtain rfl : f = 5 := Option.some.inj ((show Tryz.prog.funcNamed "rhizome/rhizomelaw13.PlanLooks" = some 5 by kernel_rfl).symm.trans hf) |>.symm
  obtain rfl : fn = Tryz.f5 := (Option.some.inj (Tryz.func5.symm.trans hfn)).symm
  refine ⟨by kernel_rfl, fun j t ht => ?_⟩
  rw [Tryz.params5] at ht
  have h22 : t = 31 ∨ t = 3 := by simpa using Array.mem_of_getElem? ht
  rcases h22 with rfl | rfl
  · exact (show Tryz.prog.wantsStandIn 31 = false by kernel_rfl)
  · exact (show Tryz.prog.wantsStandIn 3 = false by kernel_rfl)
set_option maxRecDepth 100000 in
theorem cardUpto_Looks : Rows.PlanLooksUptoCardSaid :=
  Claim7.holds_tied_plain_at .later [] _ _ _ _ saidUpto_Looks (fun _ h => by cases h) (by kernel_rfl) (fun _ h => by cases h) planLooksUpto_row_tie rfl ⟨rfl, rfl⟩ (by kernel_rfl) rfl plain_Looks (by kernel_rfl)
end Go.Proofs.YtfddkcmooommeaaGreatDoor.Gl
end
