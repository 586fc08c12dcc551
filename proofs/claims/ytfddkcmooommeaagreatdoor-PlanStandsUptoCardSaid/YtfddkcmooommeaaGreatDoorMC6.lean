/- PlanStands up to the bulk: the row and its card. -/
import Derived.Test.YtfddkcmooommeaaGreatDoorMC5
section
namespace Go.Proofs.YtfddkcmooommeaaGreatDoor.Gl
open Go.RowKit Go.Shelf
set_option linter.unusedVariables false
set_option linter.unnecessarySimpa false
set_option linter.unusedSimpArgs false
attribute [-simp] List.getD_eq_getElem?_getD
def mkK (g : List Bool) (s : St) (k : Nat) : List Bool := if s.kind = 1 then markTo g s.row k else g
theorem mkK_len (g : List Bool) (s : St) (k : Nat) : (mkK g s k).length = g.length := by
  unfold mkK
  split
  · exact markTo_len _ _ _
  · rfl
theorem mkK_zero (g : List Bool) (s : St) : mkK g s 0 = g := by unfold mkK; split <;> rfl
theorem mkK_neg {g : List Bool} {s : St} {k : Nat} {p : Pl} (hp : (placesSt s)[k]? = some p) (h : p.var < 0) : mkK g s (k + 1) = mkK g s k := by
  unfold mkK
  split
  · rename_i h1
    rw [placesSt_r (.inl h1)] at hp
    rw [markTo_succ hp]
    unfold markP
    rw [if_neg (by omega)]
  · rfl
theorem mkK_pos {g : List Bool} {s : St} {k : Nat} {p : Pl} (hp : (placesSt s)[k]? = some p) (h1 : s.kind = 1) (h : ¬ p.var < 0) : mkK g s (k + 1) = (mkK g s k).set p.var.toNat true := by
  unfold mkK
  rw [if_pos h1, if_pos h1]
  rw [placesSt_r (.inl h1)] at hp
  rw [markTo_succ hp]
  unfold markP
  rw [if_pos (by omega)]
theorem mkK_else {g : List Bool} {s : St} {k : Nat} (h1 : ¬ s.kind = 1) : mkK g s k = g := by unfold mkK; rw [if_neg h1]
theorem mkK_end {g : List Bool} {s : St} {k : Nat} (h : k = (placesSt s).length) : mkK g s k = mkS g s := by
  unfold mkK mkS
  split
  · rename_i h1
    rw [h, placesSt_r (.inl h1)]
    rfl
  · rfl
theorem mkA_succ {g : List Bool} {o : List St} {i : Nat} {s : St} (h : o[i]? = some s) : mkA g (o.take (i + 1)) = mkS (mkA g (o.take i)) s := by
  unfold mkA
  rw [List.take_add_one, h, List.foldl_append]
  rfl
theorem mkA_len : ∀ (o : List St) (g : List Bool), (mkA g o).length = g.length
  | [], _ => rfl
  | s :: o, g => (mkA_len o (mkS g s)).trans (by unfold mkS; split; exact markTo_len _ _ _; rfl)
theorem okPl_at {kn : List Bool} {p : Pl} (h : okPl kn p = true) (h0 : ¬ p.var < 0) (hl : p.var < kn.length) : kn[p.var.toNat]? = some true := by
  obtain ⟨x, hx⟩ : ∃ x, kn[p.var.toNat]? = some x := ⟨_, List.getElem?_eq_getElem (by omega)⟩
  rw [okPl_pos (by omega) hx] at h
  rw [hx, h]
theorem head_var {h : Rw} (v : Value) (n : Nat) {k : Nat} {p : Pl} (hp : (row3 h)[k]? = some p) : (Know.exact (.cells (planC h v n).toArray 41 (0, 0))).cell (0 + 0 + (k : Int).toNat * 2 + 0) = some (.int .i64 p.var) := by
  have hk : k < 3 := (List.getElem?_eq_some_iff.1 hp).1
  rcases (by omega : k = 0 ∨ k = 1 ∨ k = 2) with rfl | rfl | rfl <;> (cases hp; rfl)
theorem plan_RuleO (w0 : World) (G : Hp) (HD : Hp) (ts : List Tm) (lim bD : Nat) (hD : Dic ts lim bD HD) (r : Rl) (bA : Option Addr) (bc : Nat) (hl : LtsAt w0 G bA r.body) (hbl : r.body.length ≤ 1000) (hok : RlOk r) (oA : Option Addr) (order : List Int) (oc : Nat) (ho : IntsAt w0 G oA order) (hol : order.length ≤ 1000) :
    GC Tryz.prog w0 10 #[.pointer (some ⟨bD, 0, none⟩), .agg (RlC r.head (.slice bA r.body.length bc)).toArray, .slice oA order.length oc] (fun v G' => ∃ vs Ho HD', (v = .tuple #[.agg (planC (planRule lim ts r order (srtZ order)).head vs (planRule lim ts r order (srtZ order)).vars).toArray, .int .i64 (planRule lim ts r order (srtZ order)).e] ∧ SlAt 11 50 (stsC (planRule lim ts r order (srtZ order)).steps) (planRule lim ts r order (srtZ order)).steps.length vs Ho ∧ Dic (planRule lim ts r order (srtZ order)).ts lim bD HD') ∧ HD' ++ (Ho ++ G) = G') (HD ++ G) :=
  plan_Rule w0 G HD ts lim bD hD r bA bc hl hbl hok oA order (srtZ order) oc ho hol (by rw [srtZ_len]; exact hol) (fun z hz => srtZ_mem.2 hz) (fun b1 G0 hm hx => sorted_own w0 G0 oA order oc b1 hm hx (by omega))
theorem rule_ord {r : Rl} {order : List Int} (h0 : ruleE r = 0) (hb : r.body.length ≤ 20) : (planRule 1000 [] r order (srtZ order)).e = 0 := planRule_room h0 (by omega)
theorem planRule_vars {lim : Nat} {ts : List Tm} {r : Rl} {order srt : List Int} : (planRule lim ts r order srt).vars ≤ 3 + 3 * r.body.length := by
  have h : (dd (allSlots r)).length ≤ 3 + 3 * r.body.length := Nat.le_trans (dd_len _) (allTake_len r r.body.length).2
  unfold planRule
  split
  · split
    · exact h
    · exact Nat.zero_le _
  · exact Nat.zero_le _
theorem Hs.skip2 (x y : Nat × Know) (R : Hp) : Hs (x :: y :: R) (x :: R) := Hs.sub ((List.sublist_cons_self y R).cons_cons x)
theorem Hs.up2 (D O : Hp) (x y : Nat × Know) (R : Hp) : Hs (D ++ (O ++ (x :: y :: R))) (x :: (D ++ (O ++ (y :: R)))) := Hs.perm (by
  have h0 := @List.perm_middle _ x (D ++ O) (y :: R)
  simp only [List.append_assoc] at h0
  exact h0.symm)
theorem Hs.lastK {b : Nat} {kn kn' : List Bool} (h : kn' = kn) (x y : Nat × Know) {R : Hp} : Hs (x :: y :: (b, knC kn) :: R) ((b, knC kn') :: R) := h ▸ Hs.tl2 x y
theorem Hs.stepK {b : Nat} {kn kn' : List Bool} (h : kn' = kn) (x y : Nat × Know) (R : Hp) : Hs (x :: y :: (b, knC kn) :: R) (x :: y :: (b, knC kn') :: R) := h ▸ Hs.refl _
theorem Hs.stepP {b : Nat} {C : Array Value} {kn : List Bool} (h : C = (boolC kn).toArray) (x y : Nat × Know) (R : Hp) : Hs (x :: y :: (b, .exact (.cells C 4 (0, 0))) :: R) (x :: y :: (b, knC kn) :: R) := h ▸ Hs.refl _
theorem Hs.allK {b : Nat} {kn kn' : List Bool} (h : kn = kn') (R : Hp) : Hs ((b, knC kn) :: R) ((b, knC kn') :: R) := h ▸ Hs.refl _
theorem kn_splice {kn : List Bool} {i : Nat} (h : i < kn.length) : (Know.exact (.cells (splice (boolC kn).toArray (0 + i * 1) (Value.bool true).cells.toList) 4 (0, 0))).cell (0 + i * 1) = some (.bool true) := by
  rw [mark_put h]
  show (boolC (kn.set i true)).toArray[0 + i * 1]? = _
  rw [Nat.zero_add, Nat.mul_one, List.getElem?_toArray]
  simp [boolC, h]
theorem kn_room {kn : List Bool} {i : Nat} (h : i < kn.length) : 0 + i * 1 + (Value.bool true).cells.toList.length ≤ (boolC kn).toArray.size := by
  show 0 + i * 1 + 1 ≤ _
  simp [boolC]
  omega
theorem law_Stands (w0 : World) (G : Hp) (r : Rl) (bA : Option Addr) (bc : Nat) (oA : Option Addr) (order : List Int) (oc : Nat) (hl : LtsAt w0 G bA r.body) (hm : r.body.length ≤ 1048576) (hok : RlOk r) (ho : IntsAt w0 G oA order) (hom : order.length ≤ 1048576) : GC Tryz.prog w0 3 #[.agg (RlC r.head (.slice bA r.body.length bc)).toArray, .slice oA order.length oc] (fun v G' => v = .bool true ∧ G = G') G := by
  refine GC.body (args := [.agg (RlC r.head (.slice bA r.body.length bc)).toArray, .slice oA order.length oc]) Tryz.func3 rfl (by kernel_rfl) rfl ?_
  refine GW.seq ?_
  refine GW.region ?_
  refine R.box ⟨rfl, rfl, rfl, rfl⟩ rfl fun b2 => ?_
  refine R.assign ⟨rfl, rfl, rfl, rfl⟩ rfl ?_
  refine GOps.nil ?_
  refine GW.seq ?_
  refine GW.cutS 27 (decide (¬ (r.body.length ≤ 20 ∧ order.length ≤ 30 ∧ ruleE r = 0))) [(1, .slice oA order.length oc), (2, .pointer (some ⟨b2, 0, none⟩))] ?_ ?_
  · refine R.fieldAddr ⟨rfl, rfl, rfl, rfl⟩ rfl Tryz.underlying31 rfl Tryz.sizeOf29 ?_   -- "Body"
    refine R.load1 ⟨rfl, rfl, rfl, rfl⟩ rfl Tryz.underlying29 rfl (.own (by repeat (first | exact List.mem_cons_self | apply List.mem_cons_of_mem | apply List.mem_append_right | exact List.mem_append_left _ List.mem_cons_self)) rfl) ?_
    refine R.lenS ⟨rfl, rfl, rfl, rfl⟩ rfl rfl Tryz.underlying29 ?_
    refine R.gtr ⟨rfl, rfl, rfl, rfl⟩ rfl rfl ?_
    refine R.move ⟨rfl, rfl, rfl, rfl⟩ rfl ?_
    refine GOps.caseB 18 rfl (fun hg1 => ?_) (fun hg1 => ?_)
    · try simp only [decide_eq_true_eq, decide_eq_false_iff_not, Bool.not_eq_true', Bool.not_eq_false'] at hg1
      refine GOps.skip rfl rfl rfl ?_
      refine GOps.skip rfl rfl rfl ?_
      refine GOps.skip rfl rfl rfl ?_
      refine R.pick_t ⟨rfl, rfl, rfl, rfl⟩ rfl rfl ?_
      refine R.move ⟨rfl, rfl, rfl, rfl⟩ rfl ?_
      refine GOps.skip rfl rfl rfl ?_
      refine GOps.skip rfl rfl rfl ?_
      refine GOps.skip rfl rfl rfl ?_
      refine R.pick_t ⟨rfl, rfl, rfl, rfl⟩ rfl rfl ?_
      refine GOps.nil ?_
      exact ⟨rfl, rfl, by repeat (first | exact Keeps.nil _ | refine Keeps.cons rfl ?_), by first | exact Hs.refl _ | exact Hs.tl _, vbs (by rw [Bool.eq_iff_iff]; simp only [decide_eq_true_eq, decide_eq_false_iff_not, iff_true, true_iff, iff_false, false_iff, Bool.false_eq_true, Bool.true_eq_false] at *; omega)⟩
    · try simp only [decide_eq_true_eq, decide_eq_false_iff_not, Bool.not_eq_true', Bool.not_eq_false'] at hg1
      refine R.move ⟨rfl, rfl, rfl, rfl⟩ rfl ?_
      refine R.lenS ⟨rfl, rfl, rfl, rfl⟩ rfl rfl Tryz.underlying32 ?_
      refine R.gtr ⟨rfl, rfl, rfl, rfl⟩ rfl rfl ?_
      refine R.pick_f ⟨rfl, rfl, rfl, rfl⟩ rfl rfl ?_
      refine R.move ⟨rfl, rfl, rfl, rfl⟩ rfl ?_
      refine GOps.caseB 23 rfl (fun hg2 => ?_) (fun hg2 => ?_)
      · try simp only [decide_eq_true_eq, decide_eq_false_iff_not, Bool.not_eq_true', Bool.not_eq_false'] at hg2
        refine GOps.skip rfl rfl rfl ?_
        refine GOps.skip rfl rfl rfl ?_
        refine GOps.skip rfl rfl rfl ?_
        refine R.pick_t ⟨rfl, rfl, rfl, rfl⟩ rfl rfl ?_
        refine GOps.nil ?_
        exact ⟨rfl, rfl, by repeat (first | exact Keeps.nil _ | refine Keeps.cons rfl ?_), by first | exact Hs.refl _ | exact Hs.tl _, vbs (by rw [Bool.eq_iff_iff]; simp only [decide_eq_true_eq, decide_eq_false_iff_not, iff_true, true_iff, iff_false, false_iff, Bool.false_eq_true, Bool.true_eq_false] at *; omega)⟩
      · try simp only [decide_eq_true_eq, decide_eq_false_iff_not, Bool.not_eq_true', Bool.not_eq_false'] at hg2
        refine R.load_own (cs := RlC r.head (.slice bA r.body.length bc)) ⟨rfl, rfl, rfl, rfl⟩ rfl Tryz.underlying31 rfl Tryz.sizeOf31 (by repeat (first | exact List.mem_cons_self | apply List.mem_cons_of_mem | apply List.mem_append_right)) (by rfl) (by rfl) ?_
        refine R.call ⟨rfl, rfl, rfl, rfl⟩ rfl (vs := [_]) rfl ((ref_Rule _ _ r bA bc (hl.mono (fun y hy => by repeat (first | exact hy | apply List.mem_cons_of_mem | apply List.mem_append_right))) hm hok).mono ?_)
        rintro _ _ ⟨rfl, rfl⟩
        refine R.neI ⟨rfl, rfl, rfl, rfl⟩ rfl rfl ?_
        refine R.pick_f ⟨rfl, rfl, rfl, rfl⟩ rfl rfl ?_
        refine GOps.nil ?_
        exact ⟨rfl, rfl, by repeat (first | exact Keeps.nil _ | refine Keeps.cons rfl ?_), by first | exact Hs.refl _ | exact Hs.tl _, vbs (by rw [Bool.eq_iff_iff]; simp only [decide_eq_true_eq, decide_eq_false_iff_not, iff_true, true_iff, iff_false, false_iff, Bool.false_eq_true, Bool.true_eq_false] at *; omega)⟩
  · refine GW.ite rfl (fun hc3 => ?_) (fun hc3 => ?_)
    · try simp only [decide_eq_true_eq, decide_eq_false_iff_not, Bool.not_eq_true', Bool.not_eq_false'] at hc3
      refine GW.seq ?_
      refine GW.region ?_
      refine R.call ⟨rfl, rfl, rfl, rfl⟩ rfl (vs := []) rfl ((law_known _ _).mono ?_)
      rintro _ _ ⟨rfl, rfl⟩
      refine R.assign ⟨rfl, rfl, rfl, rfl⟩ rfl ?_
      refine GOps.nil ?_
      refine GW.ret (Out.of (Res.one rfl rfl) (by first | exact Hs.refl _ | (exact Hs.sub (by repeat (first | exact List.Sublist.refl _ | apply List.Sublist.cons | refine List.Sublist.trans ?_ (List.sublist_append_right _ _))))) ⟨?_, rfl⟩)
      first | rfl | (exfalso; omega)
    · try simp only [decide_eq_true_eq, decide_eq_false_iff_not, Bool.not_eq_true', Bool.not_eq_false'] at hc3
      refine GW.skip ?_
      refine GW.cutX (fun q0 : (Nat × Value) × (Hp × Hp) => [(2, .pointer (some ⟨b2, 0, none⟩)), (5, .pointer (some ⟨q0.1.1, 0, none⟩)), (6, .int .i64 (planRule 1000 [] r order (srtZ order)).e)]) (fun q0 : (Nat × Value) × (Hp × Hp) => (q0.1.1, .exact (.cells (planC (planRule 1000 [] r order (srtZ order)).head q0.1.2 (planRule 1000 [] r order (srtZ order)).vars).toArray 41 (0, 0))) :: (q0.2.1 ++ (q0.2.2 ++ ((b2, .exact (.cells (Value.agg (RlC r.head (.slice bA r.body.length bc)).toArray).cells 31 (0, 0))) :: G)))) (fun q0 : (Nat × Value) × (Hp × Hp) => SlAt 11 50 (stsC (planRule 1000 [] r order (srtZ order)).steps) (planRule 1000 [] r order (srtZ order)).steps.length q0.1.2 q0.2.2) ?_ ?_
      · refine GW.draw ((b2, .exact (.cells (Value.agg (RlC r.head (.slice bA r.body.length bc)).toArray).cells 31 (0, 0))) :: G) 10 rfl (by kernel_rfl) ?_
        refine GA.val 1 rfl (V.load_own (cs := RlC r.head (.slice bA r.body.length bc)) ⟨rfl, rfl, rfl, rfl⟩ rfl Tryz.underlying31 rfl Tryz.sizeOf31 (by repeat (first | exact List.mem_cons_self | apply List.mem_cons_of_mem | apply List.mem_append_right)) (by rfl) (by rfl)) rfl (by kernel_rfl) (by kernel_rfl) (by kernel_rfl) ?_
        refine GA.val 2 rfl (V.move ⟨rfl, rfl, rfl, rfl⟩ rfl) rfl (by kernel_rfl) (by kernel_rfl) (by kernel_rfl) ?_
        refine GA.two 0 7 (by first | exact Hs.sub (by repeat (first | exact List.Sublist.refl _ | apply List.Sublist.cons | refine List.Sublist.trans ?_ (List.sublist_append_right _ _))) | exact Hs.refl _ | exact Hs.tl _ | exact Hs.tl2 _ _ | exact Hs.tl3 _ _ _ | exact Hs.app _ | exact Hs.sub (by simp)) (by kernel_rfl) rfl rfl ?_ ?_
        · refine R.call ⟨rfl, rfl, rfl, rfl⟩ rfl (vs := [_]) rfl ((dict_New _ _ 1000 (by decide)).mono ?_)
          rintro _ _ ⟨bD, HD, ⟨rfl, hD⟩, rfl⟩
          refine GOps.nil ?_
          refine GA.two 3 7 (by first | exact Hs.sub (by repeat (first | exact List.Sublist.refl _ | apply List.Sublist.cons | refine List.Sublist.trans ?_ (List.sublist_append_right _ _))) | exact Hs.refl _ | exact Hs.tl _ | exact Hs.tl2 _ _ | exact Hs.tl3 _ _ _ | exact Hs.app _ | exact Hs.sub (by simp)) (by kernel_rfl) rfl rfl ?_ ?_
          · first | refine GOps.weak (Keeps.refl _) (Hs.perm (pm1 _ _ _)) ?_ | skip
            refine R.call ⟨rfl, rfl, rfl, rfl⟩ rfl (vs := [_, _, _]) rfl ((plan_RuleO _ _ HD [] 1000 bD hD r bA bc (hl.mono (fun y hy => by repeat (first | exact hy | apply List.mem_cons_of_mem | apply List.mem_append_right))) (by omega) hok oA order oc (ho.mono (fun y hy => by repeat (first | exact hy | apply List.mem_cons_of_mem | apply List.mem_append_right))) (by omega)).mono ?_)
            rintro _ _ ⟨vs, Ho, HD2, ⟨rfl, hst, hD2⟩, rfl⟩
            first | refine GOps.weak (Keeps.refl _) (Hs.up2 _ _ _ _ _) ?_ | skip
            obtain ⟨As0, cs0, rfl, hcs0⟩ := hst.split
            refine GOps.nil ?_
            refine GA.val 4 rfl (V.move ⟨rfl, rfl, rfl, rfl⟩ rfl) rfl (by kernel_rfl) (by kernel_rfl) (by kernel_rfl) ?_
            refine GA.val 5 rfl (V.extract ⟨rfl, rfl, rfl, rfl⟩ rfl rfl) rfl (by kernel_rfl) (by kernel_rfl) (by kernel_rfl) ?_
            refine GA.val 6 rfl (V.extract ⟨rfl, rfl, rfl, rfl⟩ rfl rfl) rfl (by kernel_rfl) (by kernel_rfl) (by kernel_rfl) ?_
            refine GA.one 7 (by first | exact Hs.sub (by repeat (first | exact List.Sublist.refl _ | apply List.Sublist.cons | refine List.Sublist.trans ?_ (List.sublist_append_right _ _))) | exact Hs.refl _ | exact Hs.tl _ | exact Hs.tl2 _ _ | exact Hs.tl3 _ _ _ | exact Hs.app _ | exact Hs.sub (by simp)) (by kernel_rfl) rfl ?_
            refine R.alloc ⟨rfl, rfl, rfl, rfl⟩ Tryz.zeroValue41 fun b5 => ?_
            refine GOps.nil ?_
            refine GA.one 8 (by first | exact Hs.sub (by repeat (first | exact List.Sublist.refl _ | apply List.Sublist.cons | refine List.Sublist.trans ?_ (List.sublist_append_right _ _))) | exact Hs.refl _ | exact Hs.tl _ | exact Hs.tl2 _ _ | exact Hs.tl3 _ _ _ | exact Hs.app _ | exact Hs.sub (by simp)) (by kernel_rfl) rfl ?_
            refine R.storeAll (G1 := []) rfl rfl rfl rfl rfl Tryz.sizeOf41 rfl rfl rfl rfl ?_
            refine GOps.nil ?_
            refine GA.val 9 rfl (V.assign ⟨rfl, rfl, rfl, rfl⟩ rfl) rfl (by kernel_rfl) (by kernel_rfl) (by kernel_rfl) ?_
            refine GA.done (by first | exact Hs.sub (by repeat (first | exact List.Sublist.refl _ | apply List.Sublist.cons | refine List.Sublist.trans ?_ (List.sublist_append_right _ _))) | exact Hs.refl _ | exact Hs.tl _ | exact Hs.tl2 _ _ | exact Hs.tl3 _ _ _ | exact Hs.app _ | exact Hs.sub (by simp)) (by kernel_rfl) ?_
            exact ⟨rfl, rfl, ((b5, _), (HD2, Ho)), hst, by repeat (first | exact Keeps.nil _ | refine Keeps.cons rfl ?_), Hs.refl _⟩
          · refine R.alloc ⟨rfl, rfl, rfl, rfl⟩ Tryz.zeroValue41 fun b5 => ?_
            refine GOps.nil ?_
            refine GA.one 3 (by first | exact Hs.sub (by repeat (first | exact List.Sublist.refl _ | apply List.Sublist.cons | refine List.Sublist.trans ?_ (List.sublist_append_right _ _))) | exact Hs.refl _ | exact Hs.tl _ | exact Hs.tl2 _ _ | exact Hs.tl3 _ _ _ | exact Hs.app _ | exact Hs.sub (by simp)) (by kernel_rfl) rfl ?_
            first | refine GOps.weak (Keeps.refl _) (Hs.perm (pm1 _ _ _)) ?_ | skip
            refine R.call ⟨rfl, rfl, rfl, rfl⟩ rfl (vs := [_, _, _]) rfl ((plan_RuleO _ _ HD [] 1000 bD hD r bA bc (hl.mono (fun y hy => by repeat (first | exact hy | apply List.mem_cons_of_mem | apply List.mem_append_right))) (by omega) hok oA order oc (ho.mono (fun y hy => by repeat (first | exact hy | apply List.mem_cons_of_mem | apply List.mem_append_right))) (by omega)).mono ?_)
            rintro _ _ ⟨vs, Ho, HD2, ⟨rfl, hst, hD2⟩, rfl⟩
            first | refine GOps.weak (Keeps.refl _) (Hs.up2 _ _ _ _ _) ?_ | skip
            obtain ⟨As0, cs0, rfl, hcs0⟩ := hst.split
            refine GOps.nil ?_
            refine GA.val 4 rfl (V.move ⟨rfl, rfl, rfl, rfl⟩ rfl) rfl (by kernel_rfl) (by kernel_rfl) (by kernel_rfl) ?_
            refine GA.val 5 rfl (V.extract ⟨rfl, rfl, rfl, rfl⟩ rfl rfl) rfl (by kernel_rfl) (by kernel_rfl) (by kernel_rfl) ?_
            refine GA.val 6 rfl (V.extract ⟨rfl, rfl, rfl, rfl⟩ rfl rfl) rfl (by kernel_rfl) (by kernel_rfl) (by kernel_rfl) ?_
            refine GA.one 8 (by first | exact Hs.sub (by repeat (first | exact List.Sublist.refl _ | apply List.Sublist.cons | refine List.Sublist.trans ?_ (List.sublist_append_right _ _))) | exact Hs.refl _ | exact Hs.tl _ | exact Hs.tl2 _ _ | exact Hs.tl3 _ _ _ | exact Hs.app _ | exact Hs.sub (by simp)) (by kernel_rfl) rfl ?_
            refine R.storeAll (G1 := []) rfl rfl rfl rfl rfl Tryz.sizeOf41 rfl rfl rfl rfl ?_
            refine GOps.nil ?_
            refine GA.val 9 rfl (V.assign ⟨rfl, rfl, rfl, rfl⟩ rfl) rfl (by kernel_rfl) (by kernel_rfl) (by kernel_rfl) ?_
            refine GA.done (by first | exact Hs.sub (by repeat (first | exact List.Sublist.refl _ | apply List.Sublist.cons | refine List.Sublist.trans ?_ (List.sublist_append_right _ _))) | exact Hs.refl _ | exact Hs.tl _ | exact Hs.tl2 _ _ | exact Hs.tl3 _ _ _ | exact Hs.app _ | exact Hs.sub (by simp)) (by kernel_rfl) ?_
            exact ⟨rfl, rfl, ((b5, _), (HD2, Ho)), hst, by repeat (first | exact Keeps.nil _ | refine Keeps.cons rfl ?_), Hs.refl _⟩
        · refine R.alloc ⟨rfl, rfl, rfl, rfl⟩ Tryz.zeroValue41 fun b5 => ?_
          refine GOps.nil ?_
          refine GA.one 0 (by first | exact Hs.sub (by repeat (first | exact List.Sublist.refl _ | apply List.Sublist.cons | refine List.Sublist.trans ?_ (List.sublist_append_right _ _))) | exact Hs.refl _ | exact Hs.tl _ | exact Hs.tl2 _ _ | exact Hs.tl3 _ _ _ | exact Hs.app _ | exact Hs.sub (by simp)) (by kernel_rfl) rfl ?_
          refine R.call ⟨rfl, rfl, rfl, rfl⟩ rfl (vs := [_]) rfl ((dict_New _ _ 1000 (by decide)).mono ?_)
          rintro _ _ ⟨bD, HD, ⟨rfl, hD⟩, rfl⟩
          refine GOps.nil ?_
          refine GA.one 3 (by first | exact Hs.sub (by repeat (first | exact List.Sublist.refl _ | apply List.Sublist.cons | refine List.Sublist.trans ?_ (List.sublist_append_right _ _))) | exact Hs.refl _ | exact Hs.tl _ | exact Hs.tl2 _ _ | exact Hs.tl3 _ _ _ | exact Hs.app _ | exact Hs.sub (by simp)) (by kernel_rfl) rfl ?_
          first | refine GOps.weak (Keeps.refl _) (Hs.perm (pm1 _ _ _)) ?_ | skip
          refine R.call ⟨rfl, rfl, rfl, rfl⟩ rfl (vs := [_, _, _]) rfl ((plan_RuleO _ _ HD [] 1000 bD hD r bA bc (hl.mono (fun y hy => by repeat (first | exact hy | apply List.mem_cons_of_mem | apply List.mem_append_right))) (by omega) hok oA order oc (ho.mono (fun y hy => by repeat (first | exact hy | apply List.mem_cons_of_mem | apply List.mem_append_right))) (by omega)).mono ?_)
          rintro _ _ ⟨vs, Ho, HD2, ⟨rfl, hst, hD2⟩, rfl⟩
          first | refine GOps.weak (Keeps.refl _) (Hs.up2 _ _ _ _ _) ?_ | skip
          obtain ⟨As0, cs0, rfl, hcs0⟩ := hst.split
          refine GOps.nil ?_
          refine GA.val 4 rfl (V.move ⟨rfl, rfl, rfl, rfl⟩ rfl) rfl (by kernel_rfl) (by kernel_rfl) (by kernel_rfl) ?_
          refine GA.val 5 rfl (V.extract ⟨rfl, rfl, rfl, rfl⟩ rfl rfl) rfl (by kernel_rfl) (by kernel_rfl) (by kernel_rfl) ?_
          refine GA.val 6 rfl (V.extract ⟨rfl, rfl, rfl, rfl⟩ rfl rfl) rfl (by kernel_rfl) (by kernel_rfl) (by kernel_rfl) ?_
          refine GA.one 8 (by first | exact Hs.sub (by repeat (first | exact List.Sublist.refl _ | apply List.Sublist.cons | refine List.Sublist.trans ?_ (List.sublist_append_right _ _))) | exact Hs.refl _ | exact Hs.tl _ | exact Hs.tl2 _ _ | exact Hs.tl3 _ _ _ | exact Hs.app _ | exact Hs.sub (by simp)) (by kernel_rfl) rfl ?_
          refine R.storeAll (G1 := []) rfl rfl rfl rfl rfl Tryz.sizeOf41 rfl rfl rfl rfl ?_
          refine GOps.nil ?_
          refine GA.val 9 rfl (V.assign ⟨rfl, rfl, rfl, rfl⟩ rfl) rfl (by kernel_rfl) (by kernel_rfl) (by kernel_rfl) ?_
          refine GA.done (by first | exact Hs.sub (by repeat (first | exact List.Sublist.refl _ | apply List.Sublist.cons | refine List.Sublist.trans ?_ (List.sublist_append_right _ _))) | exact Hs.refl _ | exact Hs.tl _ | exact Hs.tl2 _ _ | exact Hs.tl3 _ _ _ | exact Hs.app _ | exact Hs.sub (by simp)) (by kernel_rfl) ?_
          exact ⟨rfl, rfl, ((b5, _), (HD2, Ho)), hst, by repeat (first | exact Keeps.nil _ | refine Keeps.cons rfl ?_), Hs.refl _⟩
      · rintro ⟨⟨b5, vs⟩, HD2, Ho⟩ hst
        simp only at hst
        have hE := rule_ord (order := order) (r := r) (by omega) (by omega)
        obtain ⟨hlen, hkd, hchk, hhead⟩ := stands_law (lim := 1000) (r := r) (order := order) (by omega) hE
        have hvars : (planRule 1000 [] r order (srtZ order)).vars ≤ 100000 := Nat.le_trans planRule_vars (by omega)
        obtain ⟨As, cs, rfl, hss, hcs⟩ := hst.sts w0 []
        rw [List.append_nil] at hss
        refine GW.seq ?_
        refine GW.seq ?_
        refine GW.region ?_
        refine R.move ⟨rfl, rfl, rfl, rfl⟩ rfl ?_
        refine R.neI ⟨rfl, rfl, rfl, rfl⟩ rfl rfl ?_
        refine R.move ⟨rfl, rfl, rfl, rfl⟩ rfl ?_
        refine GOps.caseB 38 rfl (fun hg4 => ?_) (fun hg4 => ?_)
        · try simp only [decide_eq_true_eq, decide_eq_false_iff_not, Bool.not_eq_true', Bool.not_eq_false'] at hg4
          exact absurd hE (by assumption)
        · try simp only [decide_eq_true_eq, decide_eq_false_iff_not, Bool.not_eq_true', Bool.not_eq_false'] at hg4
          refine R.fieldAddr ⟨rfl, rfl, rfl, rfl⟩ rfl Tryz.underlying41 rfl Tryz.sizeOf39 ?_   -- "Steps"
          refine R.load1 ⟨rfl, rfl, rfl, rfl⟩ rfl Tryz.underlying39 rfl (.own' (by repeat (first | exact List.mem_cons_self | apply List.mem_cons_of_mem | apply List.mem_append_right)) (by rfl)) ?_
          refine R.lenS ⟨rfl, rfl, rfl, rfl⟩ rfl rfl Tryz.underlying39 ?_
          refine R.fieldAddr ⟨rfl, rfl, rfl, rfl⟩ rfl Tryz.underlying31 rfl Tryz.sizeOf29 ?_   -- "Body"
          refine R.load1 ⟨rfl, rfl, rfl, rfl⟩ rfl Tryz.underlying29 rfl (.own (by repeat (first | exact List.mem_cons_self | apply List.mem_cons_of_mem | apply List.mem_append_right | exact List.mem_append_left _ List.mem_cons_self)) rfl) ?_
          refine R.lenS ⟨rfl, rfl, rfl, rfl⟩ rfl rfl Tryz.underlying29 ?_
          refine R.neI ⟨rfl, rfl, rfl, rfl⟩ rfl rfl ?_
          refine R.pick_f ⟨rfl, rfl, rfl, rfl⟩ rfl rfl ?_
          refine GOps.nil ?_
          refine GW.ite rfl (fun hc5 => ?_) (fun hc5 => ?_)
          · try simp only [decide_eq_true_eq, decide_eq_false_iff_not, Bool.not_eq_true', Bool.not_eq_false'] at hc5
            exfalso; omega
          · try simp only [decide_eq_true_eq, decide_eq_false_iff_not, Bool.not_eq_true', Bool.not_eq_false'] at hc5
            refine GW.skip ?_
            refine GW.seq ?_
            refine GW.region ?_
            refine R.fieldAddr ⟨rfl, rfl, rfl, rfl⟩ rfl Tryz.underlying41 rfl Tryz.sizeOf3 ?_   -- "Vars"
            refine R.load1 ⟨rfl, rfl, rfl, rfl⟩ rfl Tryz.underlying3 rfl (.own' (by repeat (first | exact List.mem_cons_self | apply List.mem_cons_of_mem | apply List.mem_append_right)) (by rfl)) ?_
            refine R.makeZero (n := (planRule 1000 [] r order (srtZ order)).vars) (bytes := 1) (z0 := .bool false) ⟨rfl, rfl, rfl, rfl⟩ (by rfl) (by rfl) Tryz.underlying47 (InfoE.mk (by kernel_rfl)) (InfoZ.mk (by kernel_rfl)) (by omega) (by omega) fun b49 => ?_
            refine R.assign ⟨rfl, rfl, rfl, rfl⟩ rfl ?_
            refine GOps.nil ?_
            refine GW.seq ?_
            refine GW.seq ?_
            refine GW.region ?_
            refine R.assign ⟨rfl, rfl, rfl, rfl⟩ rfl ?_
            refine GOps.nil ?_
            refine GW.block ?_
            refine GW.loopI (fun i : Nat => [(5, .pointer (some ⟨b5, 0, none⟩)), (7, .slice (some ⟨b49, 0, none⟩) (planRule 1000 [] r order (srtZ order)).vars (planRule 1000 [] r order (srtZ order)).vars), (8, .int .i64 i)]) (fun i => (b49, knC (mkA (List.replicate (planRule 1000 [] r order (srtZ order)).vars false) ((planRule 1000 [] r order (srtZ order)).steps.take i))) :: (b5, .exact (.cells (planC (planRule 1000 [] r order (srtZ order)).head (.slice As (planRule 1000 [] r order (srtZ order)).steps.length cs) (planRule 1000 [] r order (srtZ order)).vars).toArray 41 (0, 0))) :: (HD2 ++ (Ho ++ ((b2, .exact (.cells (Value.agg (RlC r.head (.slice bA r.body.length bc)).toArray).cells 31 (0, 0))) :: G)))) (fun i => (planRule 1000 [] r order (srtZ order)).steps.length - i) (fun i => i ≤ (planRule 1000 [] r order (srtZ order)).steps.length) 0
              (by repeat (first | exact Keeps.nil _ | refine Keeps.cons rfl ?_)) (Hs.kn (kn_zero _)) (Nat.zero_le _) ?_
            rintro i hi
            refine GW.seq ?_
            refine GW.seq ?_
            refine GW.region ?_
            refine R.move ⟨rfl, rfl, rfl, rfl⟩ rfl ?_
            refine R.fieldAddr ⟨rfl, rfl, rfl, rfl⟩ rfl Tryz.underlying41 rfl Tryz.sizeOf39 ?_   -- "Steps"
            refine R.load1 ⟨rfl, rfl, rfl, rfl⟩ rfl Tryz.underlying39 rfl (.own' (by repeat (first | exact List.mem_cons_self | apply List.mem_cons_of_mem | apply List.mem_append_right)) (by rfl)) ?_
            refine R.lenS ⟨rfl, rfl, rfl, rfl⟩ rfl rfl Tryz.underlying39 ?_
            refine R.lss ⟨rfl, rfl, rfl, rfl⟩ rfl rfl ?_
            refine GOps.nil ?_
            refine GW.ite rfl (fun hc6 => ?_) (fun hc6 => ?_)
            · try simp only [decide_eq_true_eq, decide_eq_false_iff_not, Bool.not_eq_true', Bool.not_eq_false'] at hc6
              obtain ⟨s, hx⟩ : ∃ s, (planRule 1000 [] r order (srtZ order)).steps[i]? = some s := ⟨_, List.getElem?_eq_getElem (by omega)⟩
              obtain ⟨sb, so, cs0, rfl, rfl, hrd⟩ := hss i s hx
              have hks := (hkd s (List.mem_of_getElem? hx)).1
              refine GW.skip ?_
              refine GW.seq ?_
              refine GW.block ?_
              refine GW.seq ?_
              refine GW.region ?_
              refine R.fieldAddr ⟨rfl, rfl, rfl, rfl⟩ rfl Tryz.underlying41 rfl Tryz.sizeOf39 ?_   -- "Steps"
              refine R.load1 ⟨rfl, rfl, rfl, rfl⟩ rfl Tryz.underlying39 rfl (.own' (by repeat (first | exact List.mem_cons_self | apply List.mem_cons_of_mem | apply List.mem_append_right)) (by rfl)) ?_
              refine R.move ⟨rfl, rfl, rfl, rfl⟩ rfl ?_
              refine R.indexAddrS ⟨rfl, rfl, rfl, rfl⟩ rfl rfl Tryz.underlying39 Tryz.sizeOf50 (by omega) (by omega) ?_
              refine R.loadA ⟨rfl, rfl, rfl, rfl⟩ rfl Tryz.underlying50 rfl Tryz.sizeOf50 (hrd.mono (fun y hy => by repeat (first | exact List.mem_append_left _ hy | exact hy | apply List.mem_cons_of_mem | apply List.mem_append_right))) (by rfl) ?_
              refine R.alloc ⟨rfl, rfl, rfl, rfl⟩ Tryz.zeroValue50 fun b9 => ?_
              refine R.storeAll (G1 := []) rfl rfl rfl rfl rfl Tryz.sizeOf50 rfl rfl rfl rfl ?_
              refine GOps.nil ?_
              refine GW.seq ?_
              refine GW.region ?_
              refine R.fieldAddr ⟨rfl, rfl, rfl, rfl⟩ rfl Tryz.underlying50 rfl Tryz.sizeOf38 ?_   -- "Row"
              refine R.indexAddrA ⟨rfl, rfl, rfl, rfl⟩ rfl rfl Tryz.underlying38 Tryz.sizeOf37 (by omega) (by omega) ?_
              refine R.load_own (cs := PlC s.row.p0) ⟨rfl, rfl, rfl, rfl⟩ rfl Tryz.underlying37 rfl Tryz.sizeOf37 (by repeat (first | exact List.mem_cons_self | apply List.mem_cons_of_mem | apply List.mem_append_right)) (by rfl) (by rfl) ?_
              refine R.fieldAddr ⟨rfl, rfl, rfl, rfl⟩ rfl Tryz.underlying50 rfl Tryz.sizeOf38 ?_   -- "Row"
              refine R.indexAddrA ⟨rfl, rfl, rfl, rfl⟩ rfl rfl Tryz.underlying38 Tryz.sizeOf37 (by omega) (by omega) ?_
              refine R.load_own (cs := PlC s.row.p1) ⟨rfl, rfl, rfl, rfl⟩ rfl Tryz.underlying37 rfl Tryz.sizeOf37 (by repeat (first | exact List.mem_cons_self | apply List.mem_cons_of_mem | apply List.mem_append_right)) (by rfl) (by rfl) ?_
              refine R.fieldAddr ⟨rfl, rfl, rfl, rfl⟩ rfl Tryz.underlying50 rfl Tryz.sizeOf38 ?_   -- "Row"
              refine R.indexAddrA ⟨rfl, rfl, rfl, rfl⟩ rfl rfl Tryz.underlying38 Tryz.sizeOf37 (by omega) (by omega) ?_
              refine R.load_own (cs := PlC s.row.p2) ⟨rfl, rfl, rfl, rfl⟩ rfl Tryz.underlying37 rfl Tryz.sizeOf37 (by repeat (first | exact List.mem_cons_self | apply List.mem_cons_of_mem | apply List.mem_append_right)) (by rfl) (by rfl) ?_
              refine R.buildSliceF (sz := 2) (bytes := 16) (vs := [_, _, _]) (cs := plsC [s.row.p0, s.row.p1, s.row.p2]) ⟨rfl, rfl, rfl, rfl⟩ rfl Tryz.underlying51 (InfoE.mk (by kernel_rfl)) rfl rfl rfl rfl rfl fun b71 => ?_
              refine R.assign ⟨rfl, rfl, rfl, rfl⟩ rfl ?_
              refine GOps.nil ?_
              refine GW.cutX (fun a : Nat => [(5, .pointer (some ⟨b5, 0, none⟩)), (7, .slice (some ⟨b49, 0, none⟩) (planRule 1000 [] r order (srtZ order)).vars (planRule 1000 [] r order (srtZ order)).vars), (8, .int .i64 i), (9, .pointer (some ⟨b9, 0, none⟩)), (10, .slice (some ⟨a, 0, none⟩) (placesSt s).length (placesSt s).length)]) (fun a : Nat => (a, .exact (.cells (plsC (placesSt s)).toArray 37 (0, 0))) :: (b9, .exact (.cells (Value.agg (StC s).toArray).cells 50 (0, 0))) :: (b49, knC (mkA (List.replicate (planRule 1000 [] r order (srtZ order)).vars false) ((planRule 1000 [] r order (srtZ order)).steps.take i))) :: (b5, .exact (.cells (planC (planRule 1000 [] r order (srtZ order)).head (.slice (some ⟨sb, so, none⟩) (planRule 1000 [] r order (srtZ order)).steps.length cs) (planRule 1000 [] r order (srtZ order)).vars).toArray 41 (0, 0))) :: (HD2 ++ (Ho ++ ((b2, .exact (.cells (Value.agg (RlC r.head (.slice bA r.body.length bc)).toArray).cells 31 (0, 0))) :: G)))) (fun a : Nat => True) ?_ ?_
              · refine GW.seq ?_
                refine GW.region ?_
                refine R.fieldAddr ⟨rfl, rfl, rfl, rfl⟩ rfl Tryz.underlying50 rfl Tryz.sizeOf48 ?_   -- "Kind"
                refine R.load1 ⟨rfl, rfl, rfl, rfl⟩ rfl Tryz.underlying48 rfl (.own' (by repeat (first | exact List.mem_cons_self | apply List.mem_cons_of_mem | apply List.mem_append_right)) (by rfl)) ?_
                refine R.eqI ⟨rfl, rfl, rfl, rfl⟩ rfl rfl ?_
                refine R.move ⟨rfl, rfl, rfl, rfl⟩ rfl ?_
                refine GOps.caseB 75 rfl (fun hg7 => ?_) (fun hg7 => ?_)
                · try simp only [decide_eq_true_eq, decide_eq_false_iff_not, Bool.not_eq_true', Bool.not_eq_false'] at hg7
                  refine GOps.skip rfl rfl rfl ?_
                  refine GOps.skip rfl rfl rfl ?_
                  refine GOps.skip rfl rfl rfl ?_
                  refine R.pick_t ⟨rfl, rfl, rfl, rfl⟩ rfl rfl ?_
                  refine GOps.nil ?_
                  refine GW.cond_t rfl ?_
                  refine GW.region ?_
                  refine R.fieldAddr ⟨rfl, rfl, rfl, rfl⟩ rfl Tryz.underlying50 rfl Tryz.sizeOf37 ?_   -- "A"
                  refine R.load_own (cs := PlC s.a) ⟨rfl, rfl, rfl, rfl⟩ rfl Tryz.underlying37 rfl Tryz.sizeOf37 (by repeat (first | exact List.mem_cons_self | apply List.mem_cons_of_mem | apply List.mem_append_right)) (by rfl) (by rfl) ?_
                  refine R.fieldAddr ⟨rfl, rfl, rfl, rfl⟩ rfl Tryz.underlying50 rfl Tryz.sizeOf37 ?_   -- "B"
                  refine R.load_own (cs := PlC s.b) ⟨rfl, rfl, rfl, rfl⟩ rfl Tryz.underlying37 rfl Tryz.sizeOf37 (by repeat (first | exact List.mem_cons_self | apply List.mem_cons_of_mem | apply List.mem_append_right)) (by rfl) (by rfl) ?_
                  refine R.buildSliceF (sz := 2) (bytes := 16) (vs := [_, _]) (cs := plsC [s.a, s.b]) ⟨rfl, rfl, rfl, rfl⟩ rfl Tryz.underlying51 (InfoE.mk (by kernel_rfl)) rfl rfl rfl rfl rfl fun b84 => ?_
                  refine R.assign ⟨rfl, rfl, rfl, rfl⟩ rfl ?_
                  refine GOps.nil ?_
                  first | (rw [placesSt_r (by omega)]; exact ⟨rfl, rfl, b71, trivial, by repeat (first | exact Keeps.nil _ | refine Keeps.cons rfl ?_), (Hs.refl _)⟩) | (rw [placesSt_ab (by omega) (by omega)]; exact ⟨rfl, rfl, b84, trivial, by repeat (first | exact Keeps.nil _ | refine Keeps.cons rfl ?_), (Hs.skip2 _ _ _)⟩)
                · try simp only [decide_eq_true_eq, decide_eq_false_iff_not, Bool.not_eq_true', Bool.not_eq_false'] at hg7
                  refine R.fieldAddr ⟨rfl, rfl, rfl, rfl⟩ rfl Tryz.underlying50 rfl Tryz.sizeOf48 ?_   -- "Kind"
                  refine R.load1 ⟨rfl, rfl, rfl, rfl⟩ rfl Tryz.underlying48 rfl (.own' (by repeat (first | exact List.mem_cons_self | apply List.mem_cons_of_mem | apply List.mem_append_right)) (by rfl)) ?_
                  refine R.eqI ⟨rfl, rfl, rfl, rfl⟩ rfl rfl ?_
                  refine R.pick_f ⟨rfl, rfl, rfl, rfl⟩ rfl rfl ?_
                  refine GOps.nil ?_
                  refine GW.ite rfl (fun hc8 => ?_) (fun hc8 => ?_)
                  · try simp only [decide_eq_true_eq, decide_eq_false_iff_not, Bool.not_eq_true', Bool.not_eq_false'] at hc8
                    refine GW.region ?_
                    refine R.fieldAddr ⟨rfl, rfl, rfl, rfl⟩ rfl Tryz.underlying50 rfl Tryz.sizeOf37 ?_   -- "A"
                    refine R.load_own (cs := PlC s.a) ⟨rfl, rfl, rfl, rfl⟩ rfl Tryz.underlying37 rfl Tryz.sizeOf37 (by repeat (first | exact List.mem_cons_self | apply List.mem_cons_of_mem | apply List.mem_append_right)) (by rfl) (by rfl) ?_
                    refine R.fieldAddr ⟨rfl, rfl, rfl, rfl⟩ rfl Tryz.underlying50 rfl Tryz.sizeOf37 ?_   -- "B"
                    refine R.load_own (cs := PlC s.b) ⟨rfl, rfl, rfl, rfl⟩ rfl Tryz.underlying37 rfl Tryz.sizeOf37 (by repeat (first | exact List.mem_cons_self | apply List.mem_cons_of_mem | apply List.mem_append_right)) (by rfl) (by rfl) ?_
                    refine R.buildSliceF (sz := 2) (bytes := 16) (vs := [_, _]) (cs := plsC [s.a, s.b]) ⟨rfl, rfl, rfl, rfl⟩ rfl Tryz.underlying51 (InfoE.mk (by kernel_rfl)) rfl rfl rfl rfl rfl fun b84 => ?_
                    refine R.assign ⟨rfl, rfl, rfl, rfl⟩ rfl ?_
                    refine GOps.nil ?_
                    first | (rw [placesSt_r (by omega)]; exact ⟨rfl, rfl, b71, trivial, by repeat (first | exact Keeps.nil _ | refine Keeps.cons rfl ?_), (Hs.refl _)⟩) | (rw [placesSt_ab (by omega) (by omega)]; exact ⟨rfl, rfl, b84, trivial, by repeat (first | exact Keeps.nil _ | refine Keeps.cons rfl ?_), (Hs.skip2 _ _ _)⟩)
                  · try simp only [decide_eq_true_eq, decide_eq_false_iff_not, Bool.not_eq_true', Bool.not_eq_false'] at hc8
                    refine GW.skip ?_
                    first | (rw [placesSt_r (by omega)]; exact ⟨rfl, rfl, b71, trivial, by repeat (first | exact Keeps.nil _ | refine Keeps.cons rfl ?_), (Hs.refl _)⟩) | (rw [placesSt_ab (by omega) (by omega)]; exact ⟨rfl, rfl, b84, trivial, by repeat (first | exact Keeps.nil _ | refine Keeps.cons rfl ?_), (Hs.skip2 _ _ _)⟩)
              · rintro b10 _
                have hpl := placesSt_len s
                have hgl : (mkA (List.replicate (planRule 1000 [] r order (srtZ order)).vars false) ((planRule 1000 [] r order (srtZ order)).steps.take i)).length = (planRule 1000 [] r order (srtZ order)).vars := by rw [mkA_len]; simp
                refine GW.seq ?_
                refine GW.region ?_
                refine R.assign ⟨rfl, rfl, rfl, rfl⟩ rfl ?_
                refine GOps.nil ?_
                refine GW.block ?_
                refine GW.loopI (fun k : Nat => [(5, .pointer (some ⟨b5, 0, none⟩)), (7, .slice (some ⟨b49, 0, none⟩) (planRule 1000 [] r order (srtZ order)).vars (planRule 1000 [] r order (srtZ order)).vars), (8, .int .i64 i), (9, .pointer (some ⟨b9, 0, none⟩)), (10, .slice (some ⟨b10, 0, none⟩) (placesSt s).length (placesSt s).length), (11, .int .i64 k)]) (fun k => (b10, .exact (.cells (plsC (placesSt s)).toArray 37 (0, 0))) :: (b9, .exact (.cells (Value.agg (StC s).toArray).cells 50 (0, 0))) :: (b49, knC (mkK (mkA (List.replicate (planRule 1000 [] r order (srtZ order)).vars false) ((planRule 1000 [] r order (srtZ order)).steps.take i)) s k)) :: (b5, .exact (.cells (planC (planRule 1000 [] r order (srtZ order)).head (.slice (some ⟨sb, so, none⟩) (planRule 1000 [] r order (srtZ order)).steps.length cs) (planRule 1000 [] r order (srtZ order)).vars).toArray 41 (0, 0))) :: (HD2 ++ (Ho ++ ((b2, .exact (.cells (Value.agg (RlC r.head (.slice bA r.body.length bc)).toArray).cells 31 (0, 0))) :: G)))) (fun k => (placesSt s).length - k) (fun k => k ≤ (placesSt s).length) 0
                  (by repeat (first | exact Keeps.nil _ | refine Keeps.cons rfl ?_)) (Hs.stepK (mkK_zero _ _) _ _ _) (Nat.zero_le _) ?_
                rintro k hk
                refine GW.seq ?_
                refine GW.seq ?_
                refine GW.region ?_
                refine R.move ⟨rfl, rfl, rfl, rfl⟩ rfl ?_
                refine R.move ⟨rfl, rfl, rfl, rfl⟩ rfl ?_
                refine R.lenS ⟨rfl, rfl, rfl, rfl⟩ rfl rfl Tryz.underlying51 ?_
                refine R.lss ⟨rfl, rfl, rfl, rfl⟩ rfl rfl ?_
                refine GOps.nil ?_
                refine GW.ite rfl (fun hc9 => ?_) (fun hc9 => ?_)
                · try simp only [decide_eq_true_eq, decide_eq_false_iff_not, Bool.not_eq_true', Bool.not_eq_false'] at hc9
                  obtain ⟨p, hp⟩ : ∃ p, (placesSt s)[k]? = some p := ⟨_, List.getElem?_eq_getElem (by omega)⟩
                  have hpb := (hkd s (List.mem_of_getElem? hx)).2 p (List.mem_of_getElem? hp)
                  have hml := mkK_len (mkA (List.replicate (planRule 1000 [] r order (srtZ order)).vars false) ((planRule 1000 [] r order (srtZ order)).steps.take i)) s k
                  refine GW.skip ?_
                  refine GW.seq ?_
                  refine GW.block ?_
                  refine GW.seq ?_
                  refine GW.seq ?_
                  refine GW.region ?_
                  refine R.move ⟨rfl, rfl, rfl, rfl⟩ rfl ?_
                  refine R.move ⟨rfl, rfl, rfl, rfl⟩ rfl ?_
                  refine R.indexAddrS ⟨rfl, rfl, rfl, rfl⟩ rfl rfl Tryz.underlying51 Tryz.sizeOf37 (by omega) (by omega) ?_
                  refine R.fieldAddr ⟨rfl, rfl, rfl, rfl⟩ rfl Tryz.underlying37 rfl Tryz.sizeOf3 ?_   -- "Var"
                  refine R.load1 ⟨rfl, rfl, rfl, rfl⟩ rfl Tryz.underlying3 rfl (pl_load (i := k) (Rds.own (C := (plsC (placesSt s)).toArray) (by repeat (first | exact List.mem_cons_self | apply List.mem_cons_of_mem | apply List.mem_append_right | exact List.mem_append_left _ List.mem_cons_self)) 0 _ (fun j v hv => by simpa using hv)) hp 0 _ rfl) ?_
                  refine R.lss ⟨rfl, rfl, rfl, rfl⟩ rfl rfl ?_
                  refine GOps.nil ?_
                  refine GW.ite rfl (fun hc10 => ?_) (fun hc10 => ?_)
                  · try simp only [decide_eq_true_eq, decide_eq_false_iff_not, Bool.not_eq_true', Bool.not_eq_false'] at hc10
                    refine GW.exit ?_
                    refine GW.region ?_
                    refine R.move ⟨rfl, rfl, rfl, rfl⟩ rfl ?_
                    refine R.add (r := (((k + 1) : Nat) : Int)) ⟨rfl, rfl, rfl, rfl⟩ rfl rfl (by rw [wrap64_id (by omega) (by omega)]; omega) ?_
                    refine R.assign ⟨rfl, rfl, rfl, rfl⟩ rfl ?_
                    refine GOps.nil ?_
                    first | exact ⟨k + 1, by omega, by omega, rfl, by repeat (first | exact Keeps.nil _ | refine Keeps.cons rfl ?_), Hs.stepK (mkK_neg hp (by omega)) _ _ _⟩ | exact ⟨k + 1, by omega, by omega, rfl, by repeat (first | exact Keeps.nil _ | refine Keeps.cons rfl ?_), Hs.stepK (by rw [mkK_else (by assumption), mkK_else (by assumption)]) _ _ _⟩ | exact ⟨k + 1, by omega, by omega, rfl, by repeat (first | exact Keeps.nil _ | refine Keeps.cons rfl ?_), Hs.stepP (by rw [mkK_pos hp (by omega) (by omega)]; exact mark_put (by rw [mkK_len]; omega)) _ _ _⟩
                  · try simp only [decide_eq_true_eq, decide_eq_false_iff_not, Bool.not_eq_true', Bool.not_eq_false'] at hc10
                    refine GW.skip ?_
                    refine GW.seq ?_
                    refine GW.seq ?_
                    refine GW.region ?_
                    refine R.move ⟨rfl, rfl, rfl, rfl⟩ rfl ?_
                    refine R.move ⟨rfl, rfl, rfl, rfl⟩ rfl ?_
                    refine R.indexAddrS ⟨rfl, rfl, rfl, rfl⟩ rfl rfl Tryz.underlying51 Tryz.sizeOf37 (by omega) (by omega) ?_
                    refine R.fieldAddr ⟨rfl, rfl, rfl, rfl⟩ rfl Tryz.underlying37 rfl Tryz.sizeOf3 ?_   -- "Var"
                    refine R.load1 ⟨rfl, rfl, rfl, rfl⟩ rfl Tryz.underlying3 rfl (pl_load (i := k) (Rds.own (C := (plsC (placesSt s)).toArray) (by repeat (first | exact List.mem_cons_self | apply List.mem_cons_of_mem | apply List.mem_append_right | exact List.mem_append_left _ List.mem_cons_self)) 0 _ (fun j v hv => by simpa using hv)) hp 0 _ rfl) ?_
                    refine R.move ⟨rfl, rfl, rfl, rfl⟩ rfl ?_
                    refine R.lenS ⟨rfl, rfl, rfl, rfl⟩ rfl rfl Tryz.underlying47 ?_
                    refine R.geq ⟨rfl, rfl, rfl, rfl⟩ rfl rfl ?_
                    refine GOps.nil ?_
                    refine GW.ite rfl (fun hc11 => ?_) (fun hc11 => ?_)
                    · try simp only [decide_eq_true_eq, decide_eq_false_iff_not, Bool.not_eq_true', Bool.not_eq_false'] at hc11
                      exfalso; omega
                    · try simp only [decide_eq_true_eq, decide_eq_false_iff_not, Bool.not_eq_true', Bool.not_eq_false'] at hc11
                      refine GW.skip ?_
                      refine GW.seq ?_
                      refine GW.seq ?_
                      refine GW.region ?_
                      refine R.fieldAddr ⟨rfl, rfl, rfl, rfl⟩ rfl Tryz.underlying50 rfl Tryz.sizeOf48 ?_   -- "Kind"
                      refine R.load1 ⟨rfl, rfl, rfl, rfl⟩ rfl Tryz.underlying48 rfl (.own' (by repeat (first | exact List.mem_cons_self | apply List.mem_cons_of_mem | apply List.mem_append_right)) (by rfl)) ?_
                      refine R.eqI ⟨rfl, rfl, rfl, rfl⟩ rfl rfl ?_
                      refine GOps.nil ?_
                      refine GW.ite rfl (fun hc12 => ?_) (fun hc12 => ?_)
                      · try simp only [decide_eq_true_eq, decide_eq_false_iff_not, Bool.not_eq_true', Bool.not_eq_false'] at hc12
                        refine GW.region ?_
                        refine R.move ⟨rfl, rfl, rfl, rfl⟩ rfl ?_
                        refine R.move ⟨rfl, rfl, rfl, rfl⟩ rfl ?_
                        refine R.move ⟨rfl, rfl, rfl, rfl⟩ rfl ?_
                        refine R.indexAddrS ⟨rfl, rfl, rfl, rfl⟩ rfl rfl Tryz.underlying51 Tryz.sizeOf37 (by omega) (by omega) ?_
                        refine R.fieldAddr ⟨rfl, rfl, rfl, rfl⟩ rfl Tryz.underlying37 rfl Tryz.sizeOf3 ?_   -- "Var"
                        refine R.load1 ⟨rfl, rfl, rfl, rfl⟩ rfl Tryz.underlying3 rfl (pl_load (i := k) (Rds.own (C := (plsC (placesSt s)).toArray) (by repeat (first | exact List.mem_cons_self | apply List.mem_cons_of_mem | apply List.mem_append_right | exact List.mem_append_left _ List.mem_cons_self)) 0 _ (fun j v hv => by simpa using hv)) hp 0 _ rfl) ?_
                        refine R.indexAddrS ⟨rfl, rfl, rfl, rfl⟩ rfl rfl Tryz.underlying47 Tryz.sizeOf4 (by omega) (by omega) ?_
                        refine R.store (G1 := [_, _]) rfl rfl rfl rfl rfl Tryz.sizeOf4 rfl rfl (rfl) (kn_room (by omega)) ?_
                        refine GOps.nil ?_
                        refine GW.seq ?_
                        refine GW.region ?_
                        refine R.move ⟨rfl, rfl, rfl, rfl⟩ rfl ?_
                        refine R.move ⟨rfl, rfl, rfl, rfl⟩ rfl ?_
                        refine R.move ⟨rfl, rfl, rfl, rfl⟩ rfl ?_
                        refine R.indexAddrS ⟨rfl, rfl, rfl, rfl⟩ rfl rfl Tryz.underlying51 Tryz.sizeOf37 (by omega) (by omega) ?_
                        refine R.fieldAddr ⟨rfl, rfl, rfl, rfl⟩ rfl Tryz.underlying37 rfl Tryz.sizeOf3 ?_   -- "Var"
                        refine R.load1 ⟨rfl, rfl, rfl, rfl⟩ rfl Tryz.underlying3 rfl (pl_load (i := k) (Rds.own (C := (plsC (placesSt s)).toArray) (by repeat (first | exact List.mem_cons_self | apply List.mem_cons_of_mem | apply List.mem_append_right | exact List.mem_append_left _ List.mem_cons_self)) 0 _ (fun j v hv => by simpa using hv)) hp 0 _ rfl) ?_
                        refine R.indexAddrS ⟨rfl, rfl, rfl, rfl⟩ rfl rfl Tryz.underlying47 Tryz.sizeOf4 (by omega) (by omega) ?_
                        refine R.load1 ⟨rfl, rfl, rfl, rfl⟩ rfl Tryz.underlying4 rfl (by first | exact bool_load (x := true) (i := p.var.toNat) (by repeat (first | exact List.mem_cons_self | apply List.mem_cons_of_mem | apply List.mem_append_right | exact List.mem_append_left _ List.mem_cons_self)) hky | exact .own (by repeat (first | exact List.mem_cons_self | apply List.mem_cons_of_mem | apply List.mem_append_right | exact List.mem_append_left _ List.mem_cons_self)) (kn_splice (by omega))) ?_
                        refine R.not ⟨rfl, rfl, rfl, rfl⟩ rfl ?_
                        refine GOps.nil ?_
                        refine GW.ite rfl (fun hc13 => ?_) (fun hc13 => ?_)
                        · try simp only [decide_eq_true_eq, decide_eq_false_iff_not, Bool.not_eq_true', Bool.not_eq_false'] at hc13
                          exfalso; simp at hc13
                        · try simp only [decide_eq_true_eq, decide_eq_false_iff_not, Bool.not_eq_true', Bool.not_eq_false'] at hc13
                          refine GW.skip ?_
                          refine GW.region ?_
                          refine R.move ⟨rfl, rfl, rfl, rfl⟩ rfl ?_
                          refine R.add (r := (((k + 1) : Nat) : Int)) ⟨rfl, rfl, rfl, rfl⟩ rfl rfl (by rw [wrap64_id (by omega) (by omega)]; omega) ?_
                          refine R.assign ⟨rfl, rfl, rfl, rfl⟩ rfl ?_
                          refine GOps.nil ?_
                          first | exact ⟨k + 1, by omega, by omega, rfl, by repeat (first | exact Keeps.nil _ | refine Keeps.cons rfl ?_), Hs.stepK (mkK_neg hp (by omega)) _ _ _⟩ | exact ⟨k + 1, by omega, by omega, rfl, by repeat (first | exact Keeps.nil _ | refine Keeps.cons rfl ?_), Hs.stepK (by rw [mkK_else (by assumption), mkK_else (by assumption)]) _ _ _⟩ | exact ⟨k + 1, by omega, by omega, rfl, by repeat (first | exact Keeps.nil _ | refine Keeps.cons rfl ?_), Hs.stepP (by rw [mkK_pos hp (by omega) (by omega)]; exact mark_put (by rw [mkK_len]; omega)) _ _ _⟩
                      · try simp only [decide_eq_true_eq, decide_eq_false_iff_not, Bool.not_eq_true', Bool.not_eq_false'] at hc12
                        have hkx := okPl_at (List.all_eq_true.1 (chk_at _ _ i s hchk hx (by assumption)) p (List.mem_of_getElem? hp)) (by omega) (by rw [hgl]; exact hpb)
                        have hky : (mkK (mkA (List.replicate (planRule 1000 [] r order (srtZ order)).vars false) ((planRule 1000 [] r order (srtZ order)).steps.take i)) s k)[p.var.toNat]? = some true := by rw [mkK_else (by assumption)]; exact hkx
                        refine GW.skip ?_
                        refine GW.seq ?_
                        refine GW.region ?_
                        refine R.move ⟨rfl, rfl, rfl, rfl⟩ rfl ?_
                        refine R.move ⟨rfl, rfl, rfl, rfl⟩ rfl ?_
                        refine R.move ⟨rfl, rfl, rfl, rfl⟩ rfl ?_
                        refine R.indexAddrS ⟨rfl, rfl, rfl, rfl⟩ rfl rfl Tryz.underlying51 Tryz.sizeOf37 (by omega) (by omega) ?_
                        refine R.fieldAddr ⟨rfl, rfl, rfl, rfl⟩ rfl Tryz.underlying37 rfl Tryz.sizeOf3 ?_   -- "Var"
                        refine R.load1 ⟨rfl, rfl, rfl, rfl⟩ rfl Tryz.underlying3 rfl (pl_load (i := k) (Rds.own (C := (plsC (placesSt s)).toArray) (by repeat (first | exact List.mem_cons_self | apply List.mem_cons_of_mem | apply List.mem_append_right | exact List.mem_append_left _ List.mem_cons_self)) 0 _ (fun j v hv => by simpa using hv)) hp 0 _ rfl) ?_
                        refine R.indexAddrS ⟨rfl, rfl, rfl, rfl⟩ rfl rfl Tryz.underlying47 Tryz.sizeOf4 (by omega) (by omega) ?_
                        refine R.load1 ⟨rfl, rfl, rfl, rfl⟩ rfl Tryz.underlying4 rfl (by first | exact bool_load (x := true) (i := p.var.toNat) (by repeat (first | exact List.mem_cons_self | apply List.mem_cons_of_mem | apply List.mem_append_right | exact List.mem_append_left _ List.mem_cons_self)) hky | exact .own (by repeat (first | exact List.mem_cons_self | apply List.mem_cons_of_mem | apply List.mem_append_right | exact List.mem_append_left _ List.mem_cons_self)) (kn_splice (by omega))) ?_
                        refine R.not ⟨rfl, rfl, rfl, rfl⟩ rfl ?_
                        refine GOps.nil ?_
                        refine GW.ite rfl (fun hc14 => ?_) (fun hc14 => ?_)
                        · try simp only [decide_eq_true_eq, decide_eq_false_iff_not, Bool.not_eq_true', Bool.not_eq_false'] at hc14
                          exfalso; simp at hc14
                        · try simp only [decide_eq_true_eq, decide_eq_false_iff_not, Bool.not_eq_true', Bool.not_eq_false'] at hc14
                          refine GW.skip ?_
                          refine GW.region ?_
                          refine R.move ⟨rfl, rfl, rfl, rfl⟩ rfl ?_
                          refine R.add (r := (((k + 1) : Nat) : Int)) ⟨rfl, rfl, rfl, rfl⟩ rfl rfl (by rw [wrap64_id (by omega) (by omega)]; omega) ?_
                          refine R.assign ⟨rfl, rfl, rfl, rfl⟩ rfl ?_
                          refine GOps.nil ?_
                          first | exact ⟨k + 1, by omega, by omega, rfl, by repeat (first | exact Keeps.nil _ | refine Keeps.cons rfl ?_), Hs.stepK (mkK_neg hp (by omega)) _ _ _⟩ | exact ⟨k + 1, by omega, by omega, rfl, by repeat (first | exact Keeps.nil _ | refine Keeps.cons rfl ?_), Hs.stepK (by rw [mkK_else (by assumption), mkK_else (by assumption)]) _ _ _⟩ | exact ⟨k + 1, by omega, by omega, rfl, by repeat (first | exact Keeps.nil _ | refine Keeps.cons rfl ?_), Hs.stepP (by rw [mkK_pos hp (by omega) (by omega)]; exact mark_put (by rw [mkK_len]; omega)) _ _ _⟩
                · try simp only [decide_eq_true_eq, decide_eq_false_iff_not, Bool.not_eq_true', Bool.not_eq_false'] at hc9
                  have hkl : k = (placesSt s).length := by omega
                  refine GW.exit ?_
                  refine GW.region ?_
                  refine R.move ⟨rfl, rfl, rfl, rfl⟩ rfl ?_
                  refine R.add (r := (((i + 1) : Nat) : Int)) ⟨rfl, rfl, rfl, rfl⟩ rfl rfl (by rw [wrap64_id (by omega) (by omega)]; omega) ?_
                  refine R.assign ⟨rfl, rfl, rfl, rfl⟩ rfl ?_
                  refine GOps.nil ?_
                  exact ⟨i + 1, by omega, by omega, rfl, by repeat (first | exact Keeps.nil _ | refine Keeps.cons rfl ?_), Hs.lastK (by rw [mkA_succ hx]; exact (mkK_end hkl).symm) _ _⟩
            · try simp only [decide_eq_true_eq, decide_eq_false_iff_not, Bool.not_eq_true', Bool.not_eq_false'] at hc6
              refine GW.exit ?_
              refine GW.seq ?_
              refine GW.seq ?_
              refine GW.region ?_
              refine R.assign ⟨rfl, rfl, rfl, rfl⟩ rfl ?_
              refine GOps.nil ?_
              refine GW.block ?_
              refine GW.loopI (fun k : Nat => [(5, .pointer (some ⟨b5, 0, none⟩)), (7, .slice (some ⟨b49, 0, none⟩) (planRule 1000 [] r order (srtZ order)).vars (planRule 1000 [] r order (srtZ order)).vars), (12, .int .i64 k)]) (fun k => (b49, knC (mkA (List.replicate (planRule 1000 [] r order (srtZ order)).vars false) (planRule 1000 [] r order (srtZ order)).steps)) :: (b5, .exact (.cells (planC (planRule 1000 [] r order (srtZ order)).head (.slice As (planRule 1000 [] r order (srtZ order)).steps.length cs) (planRule 1000 [] r order (srtZ order)).vars).toArray 41 (0, 0))) :: (HD2 ++ (Ho ++ ((b2, .exact (.cells (Value.agg (RlC r.head (.slice bA r.body.length bc)).toArray).cells 31 (0, 0))) :: G)))) (fun k => 3 - k) (fun k => k ≤ 3) 0
                (by repeat (first | exact Keeps.nil _ | refine Keeps.cons rfl ?_)) (Hs.allK (by rw [List.take_of_length_le (by omega)]) _) (Nat.zero_le _) ?_
              rintro k hk
              refine GW.seq ?_
              refine GW.seq ?_
              refine GW.region ?_
              refine R.move ⟨rfl, rfl, rfl, rfl⟩ rfl ?_
              refine R.lss ⟨rfl, rfl, rfl, rfl⟩ rfl rfl ?_
              refine GOps.nil ?_
              refine GW.ite rfl (fun hc15 => ?_) (fun hc15 => ?_)
              · try simp only [decide_eq_true_eq, decide_eq_false_iff_not, Bool.not_eq_true', Bool.not_eq_false'] at hc15
                obtain ⟨p, hp⟩ : ∃ p, (row3 (planRule 1000 [] r order (srtZ order)).head)[k]? = some p := ⟨_, pk_get (by omega)⟩
                have hpb := hhead p (List.mem_of_getElem? hp)
                refine GW.skip ?_
                refine GW.seq ?_
                refine GW.block ?_
                refine GW.seq ?_
                refine GW.region ?_
                refine R.move ⟨rfl, rfl, rfl, rfl⟩ rfl ?_
                refine R.fieldAddr ⟨rfl, rfl, rfl, rfl⟩ rfl Tryz.underlying41 rfl Tryz.sizeOf38 ?_   -- "Head"
                refine R.indexAddrA ⟨rfl, rfl, rfl, rfl⟩ rfl rfl Tryz.underlying38 Tryz.sizeOf37 (by omega) (by omega) ?_
                refine R.fieldAddr ⟨rfl, rfl, rfl, rfl⟩ rfl Tryz.underlying37 rfl Tryz.sizeOf3 ?_   -- "Var"
                refine R.load1 ⟨rfl, rfl, rfl, rfl⟩ rfl Tryz.underlying3 rfl (.own (k := .exact (.cells (planC (planRule 1000 [] r order (srtZ order)).head (.slice As (planRule 1000 [] r order (srtZ order)).steps.length cs) (planRule 1000 [] r order (srtZ order)).vars).toArray 41 (0, 0))) (by repeat (first | exact List.mem_cons_self | apply List.mem_cons_of_mem | apply List.mem_append_right | exact List.mem_append_left _ List.mem_cons_self)) (head_var _ _ hp)) ?_
                refine R.assign ⟨rfl, rfl, rfl, rfl⟩ rfl ?_
                refine GOps.nil ?_
                refine GW.seq ?_
                refine GW.region ?_
                refine R.move ⟨rfl, rfl, rfl, rfl⟩ rfl ?_
                refine R.move ⟨rfl, rfl, rfl, rfl⟩ rfl ?_
                refine R.lenS ⟨rfl, rfl, rfl, rfl⟩ rfl rfl Tryz.underlying47 ?_
                refine R.geq ⟨rfl, rfl, rfl, rfl⟩ rfl rfl ?_
                refine R.move ⟨rfl, rfl, rfl, rfl⟩ rfl ?_
                refine GOps.caseB 137 rfl (fun hg16 => ?_) (fun hg16 => ?_)
                · try simp only [decide_eq_true_eq, decide_eq_false_iff_not, Bool.not_eq_true', Bool.not_eq_false'] at hg16
                  exfalso; omega
                · try simp only [decide_eq_true_eq, decide_eq_false_iff_not, Bool.not_eq_true', Bool.not_eq_false'] at hg16
                  refine R.move ⟨rfl, rfl, rfl, rfl⟩ rfl ?_
                  refine R.geq ⟨rfl, rfl, rfl, rfl⟩ rfl rfl ?_
                  refine R.move ⟨rfl, rfl, rfl, rfl⟩ rfl ?_
                  refine GOps.caseB 140 rfl (fun hg17 => ?_) (fun hg17 => ?_)
                  · try simp only [decide_eq_true_eq, decide_eq_false_iff_not, Bool.not_eq_true', Bool.not_eq_false'] at hg17
                    have hkx := okPl_at hpb.2 (by omega) (by rw [mkA_len, List.length_replicate]; exact hpb.1)
                    refine R.move ⟨rfl, rfl, rfl, rfl⟩ rfl ?_
                    refine R.move ⟨rfl, rfl, rfl, rfl⟩ rfl ?_
                    refine R.indexAddrS ⟨rfl, rfl, rfl, rfl⟩ rfl rfl Tryz.underlying47 Tryz.sizeOf4 (by omega) (by omega) ?_
                    refine R.load1 ⟨rfl, rfl, rfl, rfl⟩ rfl Tryz.underlying4 rfl (bool_load (x := true) (i := p.var.toNat) (by repeat (first | exact List.mem_cons_self | apply List.mem_cons_of_mem | apply List.mem_append_right | exact List.mem_append_left _ List.mem_cons_self)) hkx) ?_
                    refine R.not ⟨rfl, rfl, rfl, rfl⟩ rfl ?_
                    refine R.pick_t ⟨rfl, rfl, rfl, rfl⟩ rfl rfl ?_
                    refine R.pick_f ⟨rfl, rfl, rfl, rfl⟩ rfl rfl ?_
                    refine GOps.nil ?_
                    refine GW.ite rfl (fun hc18 => ?_) (fun hc18 => ?_)
                    · try simp only [decide_eq_true_eq, decide_eq_false_iff_not, Bool.not_eq_true', Bool.not_eq_false'] at hc18
                      exfalso; simp at hc18
                    · try simp only [decide_eq_true_eq, decide_eq_false_iff_not, Bool.not_eq_true', Bool.not_eq_false'] at hc18
                      refine GW.skip ?_
                      refine GW.region ?_
                      refine R.move ⟨rfl, rfl, rfl, rfl⟩ rfl ?_
                      refine R.add (r := (((k + 1) : Nat) : Int)) ⟨rfl, rfl, rfl, rfl⟩ rfl rfl (by rw [wrap64_id (by omega) (by omega)]; omega) ?_
                      refine R.assign ⟨rfl, rfl, rfl, rfl⟩ rfl ?_
                      refine GOps.nil ?_
                      exact ⟨k + 1, by omega, by omega, rfl, by repeat (first | exact Keeps.nil _ | refine Keeps.cons rfl ?_), by first | exact Hs.refl _ | exact Hs.tl _ | exact Hs.tl2 _ _⟩
                  · try simp only [decide_eq_true_eq, decide_eq_false_iff_not, Bool.not_eq_true', Bool.not_eq_false'] at hg17
                    refine GOps.skip rfl rfl rfl ?_
                    refine GOps.skip rfl rfl rfl ?_
                    refine GOps.skip rfl rfl rfl ?_
                    refine GOps.skip rfl rfl rfl ?_
                    refine GOps.skip rfl rfl rfl ?_
                    refine R.pick_f ⟨rfl, rfl, rfl, rfl⟩ rfl rfl ?_
                    refine R.pick_f ⟨rfl, rfl, rfl, rfl⟩ rfl rfl ?_
                    refine GOps.nil ?_
                    refine GW.cond_f rfl ?_
                    refine GW.skip ?_
                    refine GW.region ?_
                    refine R.move ⟨rfl, rfl, rfl, rfl⟩ rfl ?_
                    refine R.add (r := (((k + 1) : Nat) : Int)) ⟨rfl, rfl, rfl, rfl⟩ rfl rfl (by rw [wrap64_id (by omega) (by omega)]; omega) ?_
                    refine R.assign ⟨rfl, rfl, rfl, rfl⟩ rfl ?_
                    refine GOps.nil ?_
                    exact ⟨k + 1, by omega, by omega, rfl, by repeat (first | exact Keeps.nil _ | refine Keeps.cons rfl ?_), by first | exact Hs.refl _ | exact Hs.tl _ | exact Hs.tl2 _ _⟩
              · try simp only [decide_eq_true_eq, decide_eq_false_iff_not, Bool.not_eq_true', Bool.not_eq_false'] at hc15
                refine GW.exit ?_
                refine GW.seq ?_
                refine GW.region ?_
                refine R.call ⟨rfl, rfl, rfl, rfl⟩ rfl (vs := []) rfl ((law_known _ _).mono ?_)
                rintro _ _ ⟨rfl, rfl⟩
                refine R.assign ⟨rfl, rfl, rfl, rfl⟩ rfl ?_
                refine GOps.nil ?_
                refine GW.ret (Out.of (Res.one rfl rfl) (by first | exact Hs.refl _ | (exact Hs.sub (by repeat (first | exact List.Sublist.refl _ | apply List.Sublist.cons | refine List.Sublist.trans ?_ (List.sublist_append_right _ _))))) ⟨?_, rfl⟩)
                first | rfl | (exfalso; omega)
end Go.Proofs.YtfddkcmooommeaaGreatDoor.Gl
end
section
namespace Go.Proofs.YtfddkcmooommeaaGreatDoor.Gl
open Go.ChangeShapes Go.WideShapes Go.ChangeAt Go.RowKit Go.Lib
set_option linter.unusedVariables false
set_option linter.unnecessarySimpa false
set_option linter.unusedSimpArgs false
set_option maxRecDepth 100000 in
theorem contract_Stands (H : Type) (enc : TypeId × Value → H) (W : World) (base : Nat) (args : Array Value) (ds gs : List (DataW H)) (before : List MemPlace)
    (hval : ∀ (j : Nat) t v, Tryz.f3.params[j]? = some t → args[j]? = some v → Value.okWide Tryz.prog W .any base t v)
    (hW : DataW.Whole enc Tryz.prog Tryz.f3.params.toList Rows.planStandsSpec.vars false W args.toList ds gs before) (hk : Rows.uptoSmall H (ds ++ gs) = true) :
    Calls Tryz.prog 3 args W fun e W' => ∃ v, e = .returned v ∧ Rows.planStandsSpec.post enc Tryz.prog Tryz.f3 false true false false W args v W' := by
  have hW' := hW
  obtain ⟨p, q, hA0, hV, rfl, hfz, hnd⟩ := hW
  have hA : DataW.TrodAll enc Tryz.prog W 0 (fun _ => true) true Tryz.f3.params.toList args.toList ds p := hA0
  rw [Tryz.params3] at hA hval
  obtain ⟨v0, v1, d0, d1, p0, p1, rfl, rfl, rfl, h0, g1⟩ := trodAll_two hA
  obtain ⟨rfl, rfl⟩ := trodVars_none hV
  have hkb := of_decide_eq_true hk
  simp only [List.append_nil, Rows.uptoBulkAll] at hkb
  have h0' := h0
  have g1' := g1
  obtain ⟨fuel, h0'⟩ := h0'
  obtain ⟨fuel1, g1'⟩ := g1'
  obtain ⟨r, ⟨bA, bc, e, h1, h2, hl⟩, hok, hbl⟩ := trod_Rl (x := (d0, p0)) (by simp only; omega) h0'
  obtain ⟨oA, order, oc, e1, k1, k2, k3, ho⟩ := trod_Zs (x := (d1, p1)) (by simp only; omega) g1'
  obtain ⟨cs, rfl, _⟩ := okWide_struct Tryz.underlying31 (hval 0 31 v0 (by simp) (by simp))
  obtain rfl : v1 = .slice oA order.length oc := by
    obtain ⟨a, l, k, rfl⟩ := okWide_slice Tryz.underlying32 (hval 1 32 v1 (by simp) (by simp))
    simpa [Value.cells] using e1
  rw [agg_of e] at h0 hW' ⊢
  clear hA0
  simp only [List.append_nil] at hW'
  have walk := calls_of_GC (law_Stands W [] r bA bc oA order oc hl hbl hok ho k3)
  refine walk.mono fun e W' ⟨v, G', he, hs, hv, _⟩ => ?_
  subst hv
  have hlt : ∀ x ∈ p0 ++ p1, x.block < W.heap.size := fun x hx => by simpa using hW'.lt x (by simpa using hx)
  refine ⟨_, he, post_old (pa := p0 ++ p1) (pv := []) hW' (fun _ _ _ => trodAll_cons_mk (shut_bool Tryz.underlying4 _) trodAll_mk0) (fun sp hsp => ?_) (fun _ _ => rfl) (by simp) hs.below (ok_one (by kernel_rfl) rfl (okWide_bool_mk Tryz.underlying4 _))⟩
  rw [Tryz.params3]
  have h4 := trodAll_mk2 (WideElems.Trod_stays laidOut (by kernel_rfl) (of_decide_eq_true (by kernel_rfl)) h0 (fun x hx => hs.below.same (hlt x (List.mem_append_left _ hx))) (fun x hx => hsp x (by simp [hx]))) (WideElems.Trod_stays laidOut (by kernel_rfl) (of_decide_eq_true (by kernel_rfl)) g1 (fun x hx => hs.below.same (hlt x (List.mem_append_right _ hx))) (fun x hx => hsp x (by simp [hx])))
  exact h4
theorem reads_Stands (os : Os) {H : Type} (enc : TypeId × Value → H) : ∃ places, DataW.whole enc Tryz.prog ((laidWorld os).forCall (fun _ _ => 0) ⟨#[], #[noRule, .slice Option.none 0 0], []⟩).memory Tryz.f3.params.toList Rows.planStandsSpec.vars false #[noRule, .slice Option.none 0 0].toList 8 = some ([noRuleD, .nil], [], places) :=
  ⟨[], by kernel_rfl⟩
set_option maxRecDepth 100000 in
theorem lifted_Stands (os : Os) (started : os.Started) (H : Type) (enc : TypeId × Value → H) (F : Stop.Interp) :
    ReturnsInHanded {} Tryz.checked os 3 .any ((Rows.OpenSpec.upto Rows.planStandsSpec).preRow enc Tryz.prog Tryz.f3 Rows.planStandsUptoRow.domain false Rows.planStandsUptoRow.laid) (((Rows.OpenSpec.upto Rows.planStandsSpec).at F).post enc Tryz.prog Tryz.f3 false true false false) := by
  obtain ⟨places, hx⟩ := reads_Stands os enc
  refine returnsInHanded_of_row (C := Tryz.checked) (s := Rows.OpenSpec.upto Rows.planStandsSpec) ownK started (by kernel_rfl) Tryz.func3
    (witness_row_at (enc := enc) (C := Tryz.checked) false (laidWorld os) #[noRule, .slice Option.none 0 0] rfl (by kernel_rfl) (by kernel_rfl) (by kernel_rfl)
      (OpenSpec.preRow_of_cond 8 hx (by kernel_rfl) (fun k hk => by cases hk; kernel_rfl) (by kernel_rfl) (laid_met os _))) ?_
  intro W base args ds gs before hval hW _ hcond _ hL _ _
  first
    | exact contract_Stands H enc W base args ds gs before hval hW (hcond _ rfl)
    | exact contract_Stands H enc W base args ds gs before hval hW (by assumption)
set_option maxRecDepth 100000 in
theorem saidUpto_Stands : Rows.PlanStandsUptoSaid :=
  OpenClaim.holds_of_cond 3 Tryz.f3 rfl rfl rfl rfl rfl rfl rfl ⟨rfl, rfl, rfl, rfl, rfl⟩ rfl rfl rfl rfl rfl (by kernel_rfl) Tryz.func3 (by kernel_rfl)
    (of_decide_eq_true (by kernel_rfl)) (by unfold Func.isWrapper; first | (rw [if_pos (by decide +kernel)]; kernel_rfl) | (rw [if_neg (by decide +kernel)]; exact ⟨rfl, rfl⟩))
    (fun os started H enc _ F => by rw [OpenClaim.pre_eq_preRow]; exact lifted_Stands os started H enc F)
theorem plain_Stands (f : FuncId) (fn : Func) (hf : Tryz.pinned.checked.prog.funcNamed "rhizome/rhizomelaw13.PlanStands" = some f) (hfn : Tryz.pinned.checked.prog.funcs[f]? = some fn) :
    false = Tryz.pinned.checked.prog.looks [] ∧ ∀ (j : Nat) t, fn.params[j]? = some t → Tryz.pinned.checked.prog.wantsStandIn t = false := by
  obtain rfl : f = 3 := Option.some.inj ((show Tryz.prog.funcNamed "rhizome/rhizomelaw13.PlanStands" = some 3 by kernel_rfl).symm.trans hf) |>.symm
  obtain rfl : fn = Tryz.f3 := (Option.some.inj (Tryz.func3.symm.trans hfn)).symm
  refine ⟨by kernel_rfl, fun j t ht => ?_⟩
  rw [Tryz.params3] at ht
  have h22 : t = 31 ∨ t = 32 := by simpa using Array.mem_of_getElem? ht
  rcases h22 with rfl | rfl
  · exact (show Tryz.prog.wantsStandIn 31 = false by kernel_rfl)
  · exact (show Tryz.prog.wantsStandIn 32 = false by kernel_rfl)
set_option maxRecDepth 100000 in
theorem cardUpto_Stands : Rows.PlanStandsUptoCardSaid :=
  Claim7.holds_tied_plain_at .later [] _ _ _ _ saidUpto_Stands (fun _ h => by cases h) (by kernel_rfl) (fun _ h => by cases h) planStandsUpto_row_tie rfl ⟨rfl, rfl⟩ (by kernel_rfl) rfl plain_Stands (by kernel_rfl)
end Go.Proofs.YtfddkcmooommeaaGreatDoor.Gl
end
