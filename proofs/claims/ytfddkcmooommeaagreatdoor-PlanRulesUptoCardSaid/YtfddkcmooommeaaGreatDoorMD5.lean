/- Part 5 of the proof: X10 X11 X12 Qa Qc Z1 Z2 Z3. -/
import Derived.Test.YtfddkcmooommeaaGreatDoorMD4
import Derived.Test.YtfddkcmooommeaaGreatDoorRows
import Derived.ChangeShapes
import Derived.Deep.Slices
import Derived.Test.YtfddkcmooommeaaGreatDoorCards
import Derived.Test.YtfddkcmooommeaaGreatDoorTie
import Derived.WalkKit
import Derived.ProofKit
import Derived.OpenShut
import Derived.Carry
import Derived.Deep.DeepHandedRow
import Derived.Lib.LaidTab
import Derived.Lib.LaidIn
import Derived.Lib.LaidU8T
section
namespace Go.Proofs.YtfddkcmooommeaaGreatDoor.Gl
open Go.RowKit Go.Shelf
set_option linter.unusedVariables false
set_option linter.unnecessarySimpa false
set_option linter.unusedSimpArgs false
attribute [-simp] List.getD_eq_getElem?_getD
theorem plan_steps (w0 : World) (G : Hp) (HD : Hp) (ts : List Tm) (lim bD bM c : Nat) (A : Option Addr) (vars : List ByteArray) (bad : Int) (hD : Dic ts lim bD HD) (hv : StAt w0 G A vars) (hm : vars.length ≤ 100000)
  (bA : Option Addr) (body : List Lt) (bc : Nat) (hl : LtsAt w0 G bA body) (hbl : body.length ≤ 1000) (hterm : ∀ l ∈ body, ∀ s ∈ stepSl l, emp s.v = true → mayT s.t = true)
  (oA : Option Addr) (order srt : List Int) (oc : Nat) (ho : IntsAt w0 G oA order) (hol : order.length ≤ 1000) (hsl : srt.length ≤ 1000) (hmem : ∀ z ∈ order, z ∈ srt)
  (hS : ∀ (b1 : Nat) (G0 : Hp), (b1, Know.exact (.cells #[.slice oA order.length oc] 32 (0, 0))) ∈ G0 → IntsAt w0 G0 oA order → GC Tryz.prog w0 57 #[.func (.func 89) #[] #[.pointer (some ⟨b1, 0, none⟩)]] (fun v G' => ∃ H, SlAt 1 3 (zC srt) srt.length v H ∧ H ++ G0 = G') G0) :
  GC Tryz.prog w0 33 #[.pointer (some ⟨bM, 0, none⟩), .slice bA body.length bc, .slice oA order.length oc] (fun v G' => ∃ HD' Ho, (SlAt 11 50 (stsC (planSteps lim vars ts bad body order srt).1) (planSteps lim vars ts bad body order srt).1.length v Ho ∧ Dic (planSteps lim vars ts bad body order srt).2.1 lim bD HD') ∧ (bM, mkC bD A vars.length c (planSteps lim vars ts bad body order srt).2.2) :: (HD' ++ (Ho ++ G)) = G') ((bM, mkC bD A vars.length c bad) :: (HD ++ G)) := by
 refine GC.body (args := [.pointer (some ⟨bM, 0, none⟩), .slice bA body.length bc, .slice oA order.length oc]) Tryz.func33 rfl (by kernel_rfl) rfl ?_
 refine GW.seq ?_
 refine GW.region ?_
 refine R.assign ⟨rfl, rfl, rfl, rfl⟩ rfl ?_
 refine GOps.nil ?_
 refine GW.seq ?_
 refine GW.region ?_
 refine R.assign ⟨rfl, rfl, rfl, rfl⟩ rfl ?_
 refine R.alloc ⟨rfl, rfl, rfl, rfl⟩ Tryz.zeroValue39 fun b8 => ?_
 refine R.alloc ⟨rfl, rfl, rfl, rfl⟩ Tryz.zeroValue39 fun b9 => ?_
 refine GOps.nil ?_
 refine GW.seq ?_
 refine GW.region ?_
 refine R.assign ⟨rfl, rfl, rfl, rfl⟩ rfl ?_
 refine GOps.nil ?_
 refine GW.seq ?_
 refine GW.seq ?_
 refine GW.region ?_
 refine R.move ⟨rfl, rfl, rfl, rfl⟩ rfl ?_
 refine R.lenS ⟨rfl, rfl, rfl, rfl⟩ rfl rfl Tryz.underlying29 ?_
 refine R.move ⟨rfl, rfl, rfl, rfl⟩ rfl ?_
 refine GOps.nil ?_
 refine GW.block ?_
 refine GW.loop4 (fun (i : Nat) (a : BS) (h : (Value × Value × Value) × (Hp × Hp × Hp × Hp)) (u1 : Unit) => [(0, .pointer (some ⟨bM, 0, none⟩)), (2, .slice oA order.length oc), (7, h.1.1), (8, .pointer (some ⟨b8, 0, none⟩)), (9, .pointer (some ⟨b9, 0, none⟩)), (10, h.1.2.2), (22, .slice bA body.length bc), (23, .int .i64 body.length), (24, .int .i64 i)]) (fun (i : Nat) (a : BS) (h : (Value × Value × Value) × (Hp × Hp × Hp × Hp)) (u1 : Unit) => (b9, slC1 (.slice none 0 0)) :: (b8, slC1 h.1.2.1) :: (bM, mkC bD A vars.length c a.bad) :: (h.2.2.2.2 ++ (h.2.1 ++ (h.2.2.1 ++ (h.2.2.2.1 ++ G))))) (fun i : Nat => body.length - i) (fun (i : Nat) (a : BS) (h : (Value × Value × Value) × (Hp × Hp × Hp × Hp)) (u1 : Unit) => i ≤ body.length ∧ a = bodyTo lim vars ts bad body i ∧ SlAt 11 50 (stsC (a.m)) (a.m).length h.1.1 h.2.1 ∧ SlAt 11 50 (stsC (a.w)) (a.w).length h.1.2.1 h.2.2.1 ∧ SlAt 11 50 (stsC (a.n)) (a.n).length h.1.2.2 h.2.2.2.1 ∧ Dic a.ts lim bD h.2.2.2.2 ∧ (a.n.length = 0 → h.1.2.2 = .slice none 0 0 ∧ h.2.2.2.1 = [])) 0 (⟨[], [], [], ts, bad⟩) (((.slice none 0 0, .slice none 0 0, .slice none 0 0), ([], [], [], HD))) (())
  (by repeat (first | exact Keeps.nil _ | refine Keeps.cons rfl ?_)) (Hs.refl _) (⟨Nat.zero_le _, rfl, .nil rfl rfl, .nil rfl rfl, .nil rfl rfl, hD, fun _ => ⟨rfl, rfl⟩⟩) ?_
 rintro i a h u1 ⟨hi, ha, hM, hW, hN, hD2, hnil⟩
 obtain ⟨⟨vm, vw, vn⟩, Hm, Hw, Hn, HD2⟩ := h
 have hbo : BOk vars.length i a := by rw [ha]; exact BOk.all i hi
 obtain ⟨hbl1, hbl2, hbl3⟩ := hbo.len
 refine GW.seq ?_
 refine GW.region ?_
 refine R.lss ⟨rfl, rfl, rfl, rfl⟩ rfl rfl ?_
 refine GOps.nil ?_
 refine GW.seq ?_
 refine GW.ite rfl (fun hc1 => ?_) (fun hc1 => ?_)
 ·try simp only [dcQ] at hc1
  obtain ⟨l, hx⟩ : ∃ l, body[i]? = some l := ⟨_, List.getElem?_eq_getElem (by omega)⟩
  obtain ⟨lb, lo, cs0, rfl, rfl, hrd⟩ := hl i l hx
  refine GW.skip ?_
  refine GW.seq ?_
  refine GW.block ?_
  refine GW.seq ?_
  refine GW.region ?_
  refine R.indexAddrS ⟨rfl, rfl, rfl, rfl⟩ rfl rfl Tryz.underlying29 Tryz.sizeOf89 (by omega) (by omega) ?_
  refine R.loadA ⟨rfl, rfl, rfl, rfl⟩ rfl Tryz.underlying89 rfl Tryz.sizeOf89 (hrd.mono (fun y hy => by repeat (first | exact hy | apply List.mem_cons_of_mem | apply List.mem_append_right))) (by rfl) ?_
  refine R.alloc ⟨rfl, rfl, rfl, rfl⟩ Tryz.zeroValue89 fun b12 => ?_
  refine R.storeAll (G1 := []) rfl rfl rfl rfl rfl Tryz.sizeOf89 rfl rfl rfl rfl ?_
  refine GOps.nil ?_
  refine GW.seq ?_
  refine GW.region ?_
  refine R.move ⟨rfl, rfl, rfl, rfl⟩ rfl ?_
  refine R.load_own (cs := LtC l) ⟨rfl, rfl, rfl, rfl⟩ rfl Tryz.underlying89 rfl Tryz.sizeOf89 memG (by rfl) (by rfl) ?_
  refine GOps.weak (Keeps.refl _) (Hs.toM3 _ _ _ _ _ _) ?_
  refine R.call ⟨rfl, rfl, rfl, rfl⟩ rfl (vs := [_, _]) rfl ((plan_step _ _ HD2 a.ts lim bD bM c A vars a.bad hD2 (hv.mono (fun y hy => by repeat (first | exact hy | apply List.mem_cons_of_mem | apply List.mem_append_right))) (by omega) l (hterm l (List.mem_of_getElem? hx))).mono ?_)
  rintro _ _ ⟨HD3, ⟨rfl, hD3⟩, rfl⟩
  refine GOps.weak (Keeps.refl _) (Hs.fromM3 _ _ _ _ _ _) ?_
  refine R.alloc ⟨rfl, rfl, rfl, rfl⟩ Tryz.zeroValue50 fun b13 => ?_
  refine R.storeAll (G1 := []) rfl rfl rfl rfl rfl Tryz.sizeOf50 rfl rfl rfl rfl ?_
  refine GOps.nil ?_
  refine GW.seq ?_
  refine GW.region ?_
  refine R.fieldAddr ⟨rfl, rfl, rfl, rfl⟩ rfl Tryz.underlying50 rfl Tryz.sizeOf48 ?_   -- "Kind"
  refine R.load1 ⟨rfl, rfl, rfl, rfl⟩ rfl Tryz.underlying48 rfl (.own' memG (by rfl)) ?_
  refine GOps.nil ?_
  refine GW.block ?_
  refine GW.seq ?_
  refine GW.region ?_
  refine R.eqI ⟨rfl, rfl, rfl, rfl⟩ rfl rfl ?_
  refine R.assign ⟨rfl, rfl, rfl, rfl⟩ rfl ?_
  refine GOps.nil ?_
  refine GW.ite rfl (fun hc2 => ?_) (fun hc2 => ?_)
  ·try simp only [dcQ] at hc2
   refine GW.region ?_
   refine R.move ⟨rfl, rfl, rfl, rfl⟩ rfl ?_
   refine R.load_own (cs := StC (stepF lim vars (a.ts, a.bad) l).1) ⟨rfl, rfl, rfl, rfl⟩ rfl Tryz.underlying50 rfl Tryz.sizeOf50 memG (by rfl) (by rfl) ?_
   refine R.buildSliceF (sz := 11) (bytes := 88) (vs := [_]) (cs := StC (stepF lim vars (a.ts, a.bad) l).1) ⟨rfl, rfl, rfl, rfl⟩ rfl Tryz.underlying39 (InfoE.mk (by kernel_rfl)) rfl rfl rfl rfl rfl fun b41 => ?_
   refine R.append (sz := 11) (bytes := 88) (G1 := [_, _, _, _, _, _] ++ HD3) (H := Hm) (news := StC (stepF lim vars (a.ts, a.bad) l).1) ⟨rfl, rfl, rfl, rfl⟩ rfl rfl rfl Tryz.underlying39 (InfoE.mk (by kernel_rfl)) (hM) (rfl) (rfl) (.own (by repeat (first | exact List.mem_cons_self | apply List.mem_cons_of_mem | apply List.mem_append_right | exact List.mem_append_left _ List.mem_cons_self)) 0 _ (fun j v hv => by simpa using hv)) (by omega) (by rfl) (by omega) (by omega) fun v42 H42 hv42 => ?_
   obtain ⟨A42, c42, rfl, hc42⟩ := hv42.split
   refine R.assign ⟨rfl, rfl, rfl, rfl⟩ rfl ?_
   refine GOps.nil ?_
   refine GW.region ?_
   refine R.add (r := (((i + 1) : Nat) : Int)) ⟨rfl, rfl, rfl, rfl⟩ rfl rfl (by rw [wrap64_id (by omega) (by omega)]; omega) ?_
   refine R.move ⟨rfl, rfl, rfl, rfl⟩ rfl ?_
   refine GOps.nil ?_
   first | exact ⟨i + 1, ⟨a.m ++ [(stepF lim vars (a.ts, a.bad) l).1], a.w, a.n, (stepF lim vars (a.ts, a.bad) l).2.1, (stepF lim vars (a.ts, a.bad) l).2.2⟩, ((.slice A42 _ c42, vw, vn), (H42, Hw, Hn, HD3)), (), by omega, ⟨by omega, by rw [bodyTo_succ hx, ← ha, bodyStep_1 (by assumption)], (by show SlAt 11 50 (stsC (a.m ++ [(stepF lim vars (a.ts, a.bad) l).1])) (a.m ++ [(stepF lim vars (a.ts, a.bad) l).1]).length _ _; rw [sts_app, sts_one, List.length_append]; exact hv42), hW, hN, hD3, hnil⟩, rfl, by repeat (first | exact Keeps.nil _ | refine Keeps.cons rfl ?_), Hs.tl3 _ _ _⟩ | exact ⟨i + 1, ⟨a.m, a.w, a.n ++ [(stepF lim vars (a.ts, a.bad) l).1], (stepF lim vars (a.ts, a.bad) l).2.1, (stepF lim vars (a.ts, a.bad) l).2.2⟩, ((vm, vw, .slice A48 _ c48), (Hm, Hw, H48, HD3)), (), by omega, ⟨by omega, by rw [bodyTo_succ hx, ← ha, bodyStep_2 (by assumption) (by assumption)], hM, hW, (by show SlAt 11 50 (stsC (a.n ++ [(stepF lim vars (a.ts, a.bad) l).1])) (a.n ++ [(stepF lim vars (a.ts, a.bad) l).1]).length _ _; rw [sts_app, sts_one, List.length_append]; exact hv48), hD3, fun e => by simp at e⟩, rfl, by repeat (first | exact Keeps.nil _ | refine Keeps.cons rfl ?_), Hs.tl3 _ _ _⟩ | exact ⟨i + 1, ⟨a.m, a.w ++ [(stepF lim vars (a.ts, a.bad) l).1], a.n, (stepF lim vars (a.ts, a.bad) l).2.1, (stepF lim vars (a.ts, a.bad) l).2.2⟩, ((vm, .slice A36 _ c36, vn), (Hm, H36, Hn, HD3)), (), by omega, ⟨by omega, by rw [bodyTo_succ hx, ← ha, bodyStep_3 (by assumption) (by assumption)], hM, (by show SlAt 11 50 (stsC (a.w ++ [(stepF lim vars (a.ts, a.bad) l).1])) (a.w ++ [(stepF lim vars (a.ts, a.bad) l).1]).length _ _; rw [sts_app, sts_one, List.length_append]; exact hv36), hN, hD3, hnil⟩, rfl, by repeat (first | exact Keeps.nil _ | refine Keeps.cons rfl ?_), Hs.tl3 _ _ _⟩
  ·try simp only [dcQ] at hc2
   refine GW.seq ?_
   refine GW.region ?_
   refine R.eqI ⟨rfl, rfl, rfl, rfl⟩ rfl rfl ?_
   refine R.assign ⟨rfl, rfl, rfl, rfl⟩ rfl ?_
   refine GOps.nil ?_
   refine GW.ite rfl (fun hc3 => ?_) (fun hc3 => ?_)
   ·try simp only [dcQ] at hc3
    refine GW.region ?_
    refine R.move ⟨rfl, rfl, rfl, rfl⟩ rfl ?_
    refine R.load_own (cs := StC (stepF lim vars (a.ts, a.bad) l).1) ⟨rfl, rfl, rfl, rfl⟩ rfl Tryz.underlying50 rfl Tryz.sizeOf50 memG (by rfl) (by rfl) ?_
    refine R.buildSliceF (sz := 11) (bytes := 88) (vs := [_]) (cs := StC (stepF lim vars (a.ts, a.bad) l).1) ⟨rfl, rfl, rfl, rfl⟩ rfl Tryz.underlying39 (InfoE.mk (by kernel_rfl)) rfl rfl rfl rfl rfl fun b47 => ?_
    refine GOps.weak (Keeps.refl _) (Hs.asc2 _ _ _ _ _ _ _ _ _ _) ?_
    refine R.append (sz := 11) (bytes := 88) (G1 := [_, _, _, _, _, _] ++ (HD3 ++ (Hm ++ Hw))) (H := Hn) (news := StC (stepF lim vars (a.ts, a.bad) l).1) ⟨rfl, rfl, rfl, rfl⟩ rfl rfl rfl Tryz.underlying39 (InfoE.mk (by kernel_rfl)) (hN) (rfl) (rfl) (.own (by repeat (first | exact List.mem_cons_self | apply List.mem_cons_of_mem | apply List.mem_append_right | exact List.mem_append_left _ List.mem_cons_self)) 0 _ (fun j v hv => by simpa using hv)) (by omega) (by rfl) (by omega) (by omega) fun v48 H48 hv48 => ?_
    refine GOps.weak (Keeps.refl _) (Hs.asc2' _ _ _ _ _ _ HD3 Hm Hw (H48 ++ G)) ?_
    obtain ⟨A48, c48, rfl, hc48⟩ := hv48.split
    refine R.assign ⟨rfl, rfl, rfl, rfl⟩ rfl ?_
    refine GOps.nil ?_
    refine GW.region ?_
    refine R.add (r := (((i + 1) : Nat) : Int)) ⟨rfl, rfl, rfl, rfl⟩ rfl rfl (by rw [wrap64_id (by omega) (by omega)]; omega) ?_
    refine R.move ⟨rfl, rfl, rfl, rfl⟩ rfl ?_
    refine GOps.nil ?_
    first | exact ⟨i + 1, ⟨a.m ++ [(stepF lim vars (a.ts, a.bad) l).1], a.w, a.n, (stepF lim vars (a.ts, a.bad) l).2.1, (stepF lim vars (a.ts, a.bad) l).2.2⟩, ((.slice A42 _ c42, vw, vn), (H42, Hw, Hn, HD3)), (), by omega, ⟨by omega, by rw [bodyTo_succ hx, ← ha, bodyStep_1 (by assumption)], (by show SlAt 11 50 (stsC (a.m ++ [(stepF lim vars (a.ts, a.bad) l).1])) (a.m ++ [(stepF lim vars (a.ts, a.bad) l).1]).length _ _; rw [sts_app, sts_one, List.length_append]; exact hv42), hW, hN, hD3, hnil⟩, rfl, by repeat (first | exact Keeps.nil _ | refine Keeps.cons rfl ?_), Hs.tl3 _ _ _⟩ | exact ⟨i + 1, ⟨a.m, a.w, a.n ++ [(stepF lim vars (a.ts, a.bad) l).1], (stepF lim vars (a.ts, a.bad) l).2.1, (stepF lim vars (a.ts, a.bad) l).2.2⟩, ((vm, vw, .slice A48 _ c48), (Hm, Hw, H48, HD3)), (), by omega, ⟨by omega, by rw [bodyTo_succ hx, ← ha, bodyStep_2 (by assumption) (by assumption)], hM, hW, (by show SlAt 11 50 (stsC (a.n ++ [(stepF lim vars (a.ts, a.bad) l).1])) (a.n ++ [(stepF lim vars (a.ts, a.bad) l).1]).length _ _; rw [sts_app, sts_one, List.length_append]; exact hv48), hD3, fun e => by simp at e⟩, rfl, by repeat (first | exact Keeps.nil _ | refine Keeps.cons rfl ?_), Hs.tl3 _ _ _⟩ | exact ⟨i + 1, ⟨a.m, a.w ++ [(stepF lim vars (a.ts, a.bad) l).1], a.n, (stepF lim vars (a.ts, a.bad) l).2.1, (stepF lim vars (a.ts, a.bad) l).2.2⟩, ((vm, .slice A36 _ c36, vn), (Hm, H36, Hn, HD3)), (), by omega, ⟨by omega, by rw [bodyTo_succ hx, ← ha, bodyStep_3 (by assumption) (by assumption)], hM, (by show SlAt 11 50 (stsC (a.w ++ [(stepF lim vars (a.ts, a.bad) l).1])) (a.w ++ [(stepF lim vars (a.ts, a.bad) l).1]).length _ _; rw [sts_app, sts_one, List.length_append]; exact hv36), hN, hD3, hnil⟩, rfl, by repeat (first | exact Keeps.nil _ | refine Keeps.cons rfl ?_), Hs.tl3 _ _ _⟩
   ·try simp only [dcQ] at hc3
    refine GW.region ?_
    refine R.load1 ⟨rfl, rfl, rfl, rfl⟩ rfl Tryz.underlying39 rfl (.own' memG (by rfl)) ?_
    refine R.load_own (cs := StC (stepF lim vars (a.ts, a.bad) l).1) ⟨rfl, rfl, rfl, rfl⟩ rfl Tryz.underlying50 rfl Tryz.sizeOf50 memG (by rfl) (by rfl) ?_
    refine R.buildSliceF (sz := 11) (bytes := 88) (vs := [_]) (cs := StC (stepF lim vars (a.ts, a.bad) l).1) ⟨rfl, rfl, rfl, rfl⟩ rfl Tryz.underlying39 (InfoE.mk (by kernel_rfl)) rfl rfl rfl rfl rfl fun b35 => ?_
    refine GOps.weak (Keeps.refl _) (Hs.asc _ _ _ _ _ _ _ _ _) ?_
    refine R.append (sz := 11) (bytes := 88) (G1 := [_, _, _, _, _, _] ++ (HD3 ++ Hm)) (H := Hw) (news := StC (stepF lim vars (a.ts, a.bad) l).1) ⟨rfl, rfl, rfl, rfl⟩ rfl rfl rfl Tryz.underlying39 (InfoE.mk (by kernel_rfl)) (hW) (rfl) (rfl) (.own (by repeat (first | exact List.mem_cons_self | apply List.mem_cons_of_mem | apply List.mem_append_right | exact List.mem_append_left _ List.mem_cons_self)) 0 _ (fun j v hv => by simpa using hv)) (by omega) (by rfl) (by omega) (by omega) fun v36 H36 hv36 => ?_
    refine GOps.weak (Keeps.refl _) (Hs.asc' _ _ _ _ _ _ HD3 Hm (H36 ++ (Hn ++ G))) ?_
    obtain ⟨A36, c36, rfl, hc36⟩ := hv36.split
    refine R.storeAll (G1 := [_, _, _, _]) rfl rfl rfl rfl rfl Tryz.sizeOf39 rfl rfl rfl rfl ?_
    refine GOps.nil ?_
    refine GW.region ?_
    refine R.add (r := (((i + 1) : Nat) : Int)) ⟨rfl, rfl, rfl, rfl⟩ rfl rfl (by rw [wrap64_id (by omega) (by omega)]; omega) ?_
    refine R.move ⟨rfl, rfl, rfl, rfl⟩ rfl ?_
    refine GOps.nil ?_
    first | exact ⟨i + 1, ⟨a.m ++ [(stepF lim vars (a.ts, a.bad) l).1], a.w, a.n, (stepF lim vars (a.ts, a.bad) l).2.1, (stepF lim vars (a.ts, a.bad) l).2.2⟩, ((.slice A42 _ c42, vw, vn), (H42, Hw, Hn, HD3)), (), by omega, ⟨by omega, by rw [bodyTo_succ hx, ← ha, bodyStep_1 (by assumption)], (by show SlAt 11 50 (stsC (a.m ++ [(stepF lim vars (a.ts, a.bad) l).1])) (a.m ++ [(stepF lim vars (a.ts, a.bad) l).1]).length _ _; rw [sts_app, sts_one, List.length_append]; exact hv42), hW, hN, hD3, hnil⟩, rfl, by repeat (first | exact Keeps.nil _ | refine Keeps.cons rfl ?_), Hs.tl3 _ _ _⟩ | exact ⟨i + 1, ⟨a.m, a.w, a.n ++ [(stepF lim vars (a.ts, a.bad) l).1], (stepF lim vars (a.ts, a.bad) l).2.1, (stepF lim vars (a.ts, a.bad) l).2.2⟩, ((vm, vw, .slice A48 _ c48), (Hm, Hw, H48, HD3)), (), by omega, ⟨by omega, by rw [bodyTo_succ hx, ← ha, bodyStep_2 (by assumption) (by assumption)], hM, hW, (by show SlAt 11 50 (stsC (a.n ++ [(stepF lim vars (a.ts, a.bad) l).1])) (a.n ++ [(stepF lim vars (a.ts, a.bad) l).1]).length _ _; rw [sts_app, sts_one, List.length_append]; exact hv48), hD3, fun e => by simp at e⟩, rfl, by repeat (first | exact Keeps.nil _ | refine Keeps.cons rfl ?_), Hs.tl3 _ _ _⟩ | exact ⟨i + 1, ⟨a.m, a.w ++ [(stepF lim vars (a.ts, a.bad) l).1], a.n, (stepF lim vars (a.ts, a.bad) l).2.1, (stepF lim vars (a.ts, a.bad) l).2.2⟩, ((vm, .slice A36 _ c36, vn), (Hm, H36, Hn, HD3)), (), by omega, ⟨by omega, by rw [bodyTo_succ hx, ← ha, bodyStep_3 (by assumption) (by assumption)], hM, (by show SlAt 11 50 (stsC (a.w ++ [(stepF lim vars (a.ts, a.bad) l).1])) (a.w ++ [(stepF lim vars (a.ts, a.bad) l).1]).length _ _; rw [sts_app, sts_one, List.length_append]; exact hv36), hN, hD3, hnil⟩, rfl, by repeat (first | exact Keeps.nil _ | refine Keeps.cons rfl ?_), Hs.tl3 _ _ _⟩
 ·try simp only [dcQ] at hc1
  obtain rfl : i = body.length := by omega
  subst ha
  obtain ⟨Am, cm, rfl, hms, hcm⟩ := hM.sts w0 []
  rw [List.append_nil] at hms
  refine GW.exit ?_
  refine GW.cutX (fun a : Value × Hp => [(0, .pointer (some ⟨bM, 0, none⟩)), (2, .slice oA order.length oc), (7, .slice Am (bodyTo lim vars ts bad body body.length).m.length cm), (8, .pointer (some ⟨b8, 0, none⟩)), (9, .pointer (some ⟨b9, 0, none⟩))]) (fun a : Value × Hp => (b9, slC1 (.slice none 0 0)) :: (b8, slC1 a.1) :: (bM, mkC bD A vars.length c (bodyTo lim vars ts bad body body.length).bad) :: (HD2 ++ (Hm ++ (a.2 ++ G)))) (fun a : Value × Hp => SlAt 11 50 (stsC ((bodyTo lim vars ts bad body body.length).w ++ (bodyTo lim vars ts bad body body.length).n)) ((bodyTo lim vars ts bad body body.length).w ++ (bodyTo lim vars ts bad body body.length).n).length a.1 a.2) ?_ ?_
  ·refine GW.region ?_
   refine R.load1 ⟨rfl, rfl, rfl, rfl⟩ rfl Tryz.underlying39 rfl (.own' memG (by rfl)) ?_
   refine R.move ⟨rfl, rfl, rfl, rfl⟩ rfl ?_
   rcases Nat.eq_zero_or_pos (bodyTo lim vars ts bad body body.length).n.length with hn0 | hn0
   ·obtain ⟨rfl, rfl⟩ := hnil hn0
    obtain ⟨Aw, cw, rfl, hcw⟩ := hW.split
    refine R.appendNil (sz := 11) (bytes := 88) ⟨rfl, rfl, rfl, rfl⟩ rfl rfl rfl Tryz.underlying39 (InfoE.mk (by kernel_rfl)) (hcw) ?_
    refine R.storeAll (G1 := [_]) rfl rfl rfl rfl rfl Tryz.sizeOf39 rfl rfl rfl rfl ?_
    refine GOps.nil ?_
    first | exact ⟨rfl, rfl, (.slice Aw _ cw, Hw), (by rw [List.length_eq_zero_iff] at hn0; show SlAt 11 50 (stsC ((bodyTo lim vars ts bad body body.length).w ++ (bodyTo lim vars ts bad body body.length).n)) ((bodyTo lim vars ts bad body body.length).w ++ (bodyTo lim vars ts bad body body.length).n).length _ _; rw [hn0, List.append_nil]; exact hW), by repeat (first | exact Keeps.nil _ | refine Keeps.cons rfl ?_), Hs.refl _⟩ | exact ⟨rfl, rfl, (.slice A52 _ c52, H52), (by show SlAt 11 50 (stsC ((bodyTo lim vars ts bad body body.length).w ++ (bodyTo lim vars ts bad body body.length).n)) ((bodyTo lim vars ts bad body body.length).w ++ (bodyTo lim vars ts bad body body.length).n).length _ _; rw [sts_app, List.length_append]; exact hv52), by repeat (first | exact Keeps.nil _ | refine Keeps.cons rfl ?_), Hs.drop3 _ _ _ _ _ _ _ _⟩
   ·obtain ⟨bn, cn, rfl, rfl, hcn⟩ := hN.row_of hn0
    refine GOps.weak (Keeps.refl _) (Hs.asc3 _ _ _ _ _ _) ?_
    refine R.append (sz := 11) (bytes := 88) (G1 := [_, _, _] ++ (HD2 ++ Hm)) (H := Hw) (news := stsC (bodyTo lim vars ts bad body body.length).n) ⟨rfl, rfl, rfl, rfl⟩ rfl rfl rfl Tryz.underlying39 (InfoE.mk (by kernel_rfl)) (hW) (rfl) (stsC_len _) (row_rds (by repeat (first | exact List.mem_cons_self | apply List.mem_cons_of_mem | apply List.mem_append_right | exact List.mem_append_left _ List.mem_cons_self))) (by omega) (stsC_one _) (by omega) (by omega) fun v52 H52 hv52 => ?_
    refine GOps.weak (Keeps.refl _) (Hs.asc3' _ _ _ HD2 Hm (H52 ++ _)) ?_
    obtain ⟨A52, c52, rfl, hc52⟩ := hv52.split
    refine R.storeAll (G1 := [_]) rfl rfl rfl rfl rfl Tryz.sizeOf39 rfl rfl rfl rfl ?_
    refine GOps.nil ?_
    first | exact ⟨rfl, rfl, (.slice Aw _ cw, Hw), (by rw [List.length_eq_zero_iff] at hn0; show SlAt 11 50 (stsC ((bodyTo lim vars ts bad body body.length).w ++ (bodyTo lim vars ts bad body body.length).n)) ((bodyTo lim vars ts bad body body.length).w ++ (bodyTo lim vars ts bad body body.length).n).length _ _; rw [hn0, List.append_nil]; exact hW), by repeat (first | exact Keeps.nil _ | refine Keeps.cons rfl ?_), Hs.refl _⟩ | exact ⟨rfl, rfl, (.slice A52 _ c52, H52), (by show SlAt 11 50 (stsC ((bodyTo lim vars ts bad body body.length).w ++ (bodyTo lim vars ts bad body body.length).n)) ((bodyTo lim vars ts bad body body.length).w ++ (bodyTo lim vars ts bad body body.length).n).length _ _; rw [sts_app, List.length_append]; exact hv52), by repeat (first | exact Keeps.nil _ | refine Keeps.cons rfl ?_), Hs.drop3 _ _ _ _ _ _ _ _⟩
  ·rintro ⟨vw2, Hw2⟩ hW2
   simp only at hW2
   refine GW.cutX (fun a : (Option Addr × Nat × Nat) × Hp => [(0, .pointer (some ⟨bM, 0, none⟩)), (2, .slice a.1.1 a.1.2.1 a.1.2.2), (7, .slice Am (bodyTo lim vars ts bad body body.length).m.length cm), (8, .pointer (some ⟨b8, 0, none⟩)), (9, .pointer (some ⟨b9, 0, none⟩))]) (fun a : (Option Addr × Nat × Nat) × Hp => (b9, slC1 (.slice none 0 0)) :: (b8, slC1 vw2) :: (bM, mkC bD A vars.length c (bodyTo lim vars ts bad body body.length).bad) :: (HD2 ++ (Hm ++ (Hw2 ++ (a.2 ++ G))))) (fun a : (Option Addr × Nat × Nat) × Hp => a.1.2.1 = (ordF (bodyTo lim vars ts bad body body.length).m.length order srt).length ∧ IntsAt w0 (a.2 ++ G) a.1.1 (ordF (bodyTo lim vars ts bad body body.length).m.length order srt) ∧ (ordF (bodyTo lim vars ts bad body body.length).m.length order srt).length ≤ 1000) ?_ ?_
   ·refine GW.seq ?_
    refine GW.region ?_
    refine R.move ⟨rfl, rfl, rfl, rfl⟩ rfl ?_
    refine R.call ⟨rfl, rfl, rfl, rfl⟩ rfl (vs := [_]) rfl ((sl_Values _ _ oA order.length oc).mono ?_)
    rintro _ _ ⟨b54, rfl, rfl⟩
    refine R.call ⟨rfl, rfl, rfl, rfl⟩ rfl (vs := [_]) rfl ((hS b54 _ List.mem_cons_self (ho.mono (fun y hy => by repeat (first | exact hy | apply List.mem_cons_of_mem | apply List.mem_append_right)))).mono ?_)
    rintro v55 _ ⟨H55, h55, rfl⟩
    obtain ⟨As, cs, rfl, hsr, hcs⟩ := h55.ints w0 []
    rw [List.append_nil] at hsr
    refine R.assign ⟨rfl, rfl, rfl, rfl⟩ rfl ?_
    refine GOps.nil ?_
    refine GW.seq ?_
    refine GW.region ?_
    refine R.move ⟨rfl, rfl, rfl, rfl⟩ rfl ?_
    refine R.lenS ⟨rfl, rfl, rfl, rfl⟩ rfl rfl Tryz.underlying32 ?_
    refine R.move ⟨rfl, rfl, rfl, rfl⟩ rfl ?_
    refine R.lenS ⟨rfl, rfl, rfl, rfl⟩ rfl rfl Tryz.underlying39 ?_
    refine R.neI ⟨rfl, rfl, rfl, rfl⟩ rfl rfl ?_
    refine R.move ⟨rfl, rfl, rfl, rfl⟩ rfl ?_
    refine GOps.caseB 61 rfl (fun hg4 => ?_) (fun hg4 => ?_)
    ·try simp only [dcQ] at hg4
     refine GOps.skip rfl rfl rfl ?_
     refine GOps.skip rfl rfl rfl ?_
     refine GOps.skip rfl rfl rfl ?_
     refine GOps.skip rfl rfl rfl ?_
     refine GOps.skip rfl rfl rfl ?_
     refine GOps.skip rfl rfl rfl ?_
     refine R.pick_t ⟨rfl, rfl, rfl, rfl⟩ rfl rfl ?_
     refine GOps.nil ?_
     refine GW.cond_t rfl ?_
     refine GW.region ?_
     refine R.move ⟨rfl, rfl, rfl, rfl⟩ rfl ?_
     refine R.lenS ⟨rfl, rfl, rfl, rfl⟩ rfl rfl Tryz.underlying39 ?_
     refine R.call ⟨rfl, rfl, rfl, rfl⟩ rfl (vs := [_]) rfl ((plan_upTo _ _ (bodyTo lim vars ts bad body body.length).m.length (by omega)).mono ?_)
     rintro _ _ ⟨b71, rfl, rfl⟩
     refine R.assign ⟨rfl, rfl, rfl, rfl⟩ rfl ?_
     refine GOps.nil ?_
     first | exact ⟨rfl, rfl, ((some ⟨b71, 0, none⟩, (bodyTo lim vars ts bad body body.length).m.length, (bodyTo lim vars ts bad body body.length).m.length), [(b71, .exact (.cells (intC (List.range (bodyTo lim vars ts bad body body.length).m.length)).toArray 3 (0, 0)))]), ⟨(by rw [ordF_no (by rintro ⟨e1, e2⟩; first | omega | (rw [← e1] at e2; exact hc5 e2)), List.length_map, List.length_range]), (by rw [ordF_no (by rintro ⟨e1, e2⟩; first | omega | (rw [← e1] at e2; exact hc5 e2))]; exact exact_ints (List.mem_append_left _ List.mem_cons_self)), (by rw [ordF_no (by rintro ⟨e1, e2⟩; first | omega | (rw [← e1] at e2; exact hc5 e2)), List.length_map, List.length_range]; omega)⟩, by repeat (first | exact Keeps.nil _ | refine Keeps.cons rfl ?_), (Hs.sub (by first | exact (sub1 _ _ _).cons_cons _ | exact ((sub1 _ _ _).cons _).cons_cons _)).trans (ord_deep _ _ _ _ _ _ _ _)⟩ | exact ⟨rfl, rfl, ((oA, order.length, oc), []), ⟨(by rw [ordF_yes (by omega) (ordF_eq (by omega) hc5)]), (by rw [ordF_yes (by omega) (ordF_eq (by omega) hc5)]; exact ho), (by rw [ordF_yes (by omega) (ordF_eq (by omega) hc5)]; exact hol)⟩, by repeat (first | exact Keeps.nil _ | refine Keeps.cons rfl ?_), Hs.sub ((sub1 _ _ _).cons _)⟩
    ·try simp only [dcQ] at hg4
     refine R.move ⟨rfl, rfl, rfl, rfl⟩ rfl ?_
     refine R.move ⟨rfl, rfl, rfl, rfl⟩ rfl ?_
     refine R.lenS ⟨rfl, rfl, rfl, rfl⟩ rfl rfl Tryz.underlying32 ?_
     refine R.call ⟨rfl, rfl, rfl, rfl⟩ rfl (vs := [_]) rfl ((plan_upTo _ _ srt.length (by omega)).mono ?_)
     rintro _ _ ⟨b65, rfl, rfl⟩
     refine R.call ⟨rfl, rfl, rfl, rfl⟩ rfl (vs := [_, _]) rfl ((eq_up _ _ As srt cs b65 srt.length (hsr.mono (fun y hy => List.mem_cons_of_mem _ (List.mem_append_left _ hy))) List.mem_cons_self (by omega) (by omega)).mono ?_)
     rintro _ _ ⟨rfl, rfl⟩
     refine R.not ⟨rfl, rfl, rfl, rfl⟩ rfl ?_
     refine R.pick_f ⟨rfl, rfl, rfl, rfl⟩ rfl rfl ?_
     refine GOps.nil ?_
     refine GW.ite rfl (fun hc5 => ?_) (fun hc5 => ?_)
     ·try simp only [dcQ] at hc5
      refine GW.region ?_
      refine R.move ⟨rfl, rfl, rfl, rfl⟩ rfl ?_
      refine R.lenS ⟨rfl, rfl, rfl, rfl⟩ rfl rfl Tryz.underlying39 ?_
      refine R.call ⟨rfl, rfl, rfl, rfl⟩ rfl (vs := [_]) rfl ((plan_upTo _ _ (bodyTo lim vars ts bad body body.length).m.length (by omega)).mono ?_)
      rintro _ _ ⟨b71, rfl, rfl⟩
      refine R.assign ⟨rfl, rfl, rfl, rfl⟩ rfl ?_
      refine GOps.nil ?_
      first | exact ⟨rfl, rfl, ((some ⟨b71, 0, none⟩, (bodyTo lim vars ts bad body body.length).m.length, (bodyTo lim vars ts bad body body.length).m.length), [(b71, .exact (.cells (intC (List.range (bodyTo lim vars ts bad body body.length).m.length)).toArray 3 (0, 0)))]), ⟨(by rw [ordF_no (by rintro ⟨e1, e2⟩; first | omega | (rw [← e1] at e2; exact hc5 e2)), List.length_map, List.length_range]), (by rw [ordF_no (by rintro ⟨e1, e2⟩; first | omega | (rw [← e1] at e2; exact hc5 e2))]; exact exact_ints (List.mem_append_left _ List.mem_cons_self)), (by rw [ordF_no (by rintro ⟨e1, e2⟩; first | omega | (rw [← e1] at e2; exact hc5 e2)), List.length_map, List.length_range]; omega)⟩, by repeat (first | exact Keeps.nil _ | refine Keeps.cons rfl ?_), (Hs.sub (by first | exact (sub1 _ _ _).cons_cons _ | exact ((sub1 _ _ _).cons _).cons_cons _)).trans (ord_deep _ _ _ _ _ _ _ _)⟩ | exact ⟨rfl, rfl, ((oA, order.length, oc), []), ⟨(by rw [ordF_yes (by omega) (ordF_eq (by omega) hc5)]), (by rw [ordF_yes (by omega) (ordF_eq (by omega) hc5)]; exact ho), (by rw [ordF_yes (by omega) (ordF_eq (by omega) hc5)]; exact hol)⟩, by repeat (first | exact Keeps.nil _ | refine Keeps.cons rfl ?_), Hs.sub ((sub1 _ _ _).cons _)⟩
     ·try simp only [dcQ] at hc5
      refine GW.skip ?_
      first | exact ⟨rfl, rfl, ((some ⟨b71, 0, none⟩, (bodyTo lim vars ts bad body body.length).m.length, (bodyTo lim vars ts bad body body.length).m.length), [(b71, .exact (.cells (intC (List.range (bodyTo lim vars ts bad body body.length).m.length)).toArray 3 (0, 0)))]), ⟨(by rw [ordF_no (by rintro ⟨e1, e2⟩; first | omega | (rw [← e1] at e2; exact hc5 e2)), List.length_map, List.length_range]), (by rw [ordF_no (by rintro ⟨e1, e2⟩; first | omega | (rw [← e1] at e2; exact hc5 e2))]; exact exact_ints (List.mem_append_left _ List.mem_cons_self)), (by rw [ordF_no (by rintro ⟨e1, e2⟩; first | omega | (rw [← e1] at e2; exact hc5 e2)), List.length_map, List.length_range]; omega)⟩, by repeat (first | exact Keeps.nil _ | refine Keeps.cons rfl ?_), (Hs.sub (by first | exact (sub1 _ _ _).cons_cons _ | exact ((sub1 _ _ _).cons _).cons_cons _)).trans (ord_deep _ _ _ _ _ _ _ _)⟩ | exact ⟨rfl, rfl, ((oA, order.length, oc), []), ⟨(by rw [ordF_yes (by omega) (ordF_eq (by omega) hc5)]), (by rw [ordF_yes (by omega) (ordF_eq (by omega) hc5)]; exact ho), (by rw [ordF_yes (by omega) (ordF_eq (by omega) hc5)]; exact hol)⟩, by repeat (first | exact Keeps.nil _ | refine Keeps.cons rfl ?_), Hs.sub ((sub1 _ _ _).cons _)⟩
   ·rintro ⟨⟨Ax, nx, cx⟩, Hx⟩ ⟨rfl, hox, hoxl⟩
    simp only at hox
    refine GW.seq ?_
    refine GW.region ?_
    refine R.move ⟨rfl, rfl, rfl, rfl⟩ rfl ?_
    refine R.nilCheck ⟨rfl, rfl, rfl, rfl⟩ rfl ?_
    refine R.fieldAddr ⟨rfl, rfl, rfl, rfl⟩ rfl Tryz.underlying97 rfl Tryz.sizeOf61 ?_   -- "vars"
    refine R.load1 ⟨rfl, rfl, rfl, rfl⟩ rfl Tryz.underlying61 rfl (.own' memG (by rfl)) ?_
    refine R.lenS ⟨rfl, rfl, rfl, rfl⟩ rfl rfl Tryz.underlying61 ?_
    refine R.makeZero (n := vars.length) (bytes := 1) (z0 := .bool false) ⟨rfl, rfl, rfl, rfl⟩ (by rfl) (by rfl) Tryz.underlying47 (InfoE.mk (by kernel_rfl)) (InfoZ.mk (by kernel_rfl)) (by omega) (by omega) fun b77 => ?_
    refine R.alloc ⟨rfl, rfl, rfl, rfl⟩ Tryz.zeroValue47 fun b15 => ?_
    refine R.storeAll (G1 := []) rfl rfl rfl rfl rfl Tryz.sizeOf47 rfl rfl rfl rfl ?_
    refine GOps.nil ?_
    refine GW.seq ?_
    refine GW.region ?_
    refine R.makeFunc (vs := []) (us := [_]) ⟨rfl, rfl, rfl, rfl⟩ rfl rfl ?_
    refine R.alloc ⟨rfl, rfl, rfl, rfl⟩ Tryz.zeroValue133 fun b16 => ?_
    refine R.storeAll (G1 := []) rfl rfl rfl rfl rfl Tryz.sizeOf133 rfl rfl rfl rfl ?_
    refine GOps.nil ?_
    refine GW.cutX (fun a : Unit => [(2, .slice Ax (ordF (bodyTo lim vars ts bad body body.length).m.length order srt).length cx), (7, .slice Am (bodyTo lim vars ts bad body body.length).m.length cm), (9, .pointer (some ⟨b9, 0, none⟩)), (15, .pointer (some ⟨b15, 0, none⟩)), (17, .func (.func 63) #[] #[.pointer (some ⟨b8, 0, none⟩), .pointer (some ⟨b16, 0, none⟩), .pointer (some ⟨b9, 0, none⟩)])]) (fun a : Unit => can b77 b8 b9 (List.replicate vars.length false) (vw2) (.slice none 0 0) (Hw2) ([]) ((b16, .exact (.cells #[.func (.func 61) #[] #[.pointer (some ⟨b15, 0, none⟩)]] 133 (0, 0))) :: (b15, .exact (.cells #[.slice (some ⟨b77, 0, none⟩) vars.length vars.length] 47 (0, 0))) :: (bM, mkC bD A vars.length c (bodyTo lim vars ts bad body body.length).bad) :: (HD2 ++ (Hm ++ (Hx ++ G))))) (fun a : Unit => True) ?_ ?_
    ·refine GW.region ?_
     refine R.makeFunc (vs := []) (us := [_, _, _]) ⟨rfl, rfl, rfl, rfl⟩ rfl rfl ?_
     refine R.assign ⟨rfl, rfl, rfl, rfl⟩ rfl ?_
     refine GOps.nil ?_
     exact ⟨rfl, rfl, (), trivial, by repeat (first | exact Keeps.nil _ | refine Keeps.cons rfl ?_), (Hs.perm (can_new _ _ _ _ _ _ _ _ _ _ _).symm).trans (Hs.kn (kn_zero _))⟩
    ·intro _ _
     have hbo := BOk.all (lim := lim) (vars := vars) (ts := ts) (bad := bad) (body := body) body.length (Nat.le_refl _)
     have hwp : ∀ s ∈ (bodyTo lim vars ts bad body body.length).w ++ (bodyTo lim vars ts bad body body.length).n, ∀ p ∈ placesSt s, p.var < vars.length := fun s hs => hbo.pl s (List.mem_append_right _ hs)
     have hq0 : ROk vars.length 2000 ⟨List.replicate vars.length false, (bodyTo lim vars ts bad body body.length).w ++ (bodyTo lim vars ts bad body body.length).n, []⟩ := ⟨by simp, hwp, by simp; have := hbo.len; omega⟩
     refine GW.seq ?_
     refine GW.region ?_
     refine R.move ⟨rfl, rfl, rfl, rfl⟩ rfl ?_
     refine R.call ⟨rfl, rfl, rfl, rfl⟩ rfl (vs := []) rfl ((flush_can _ _ _ _ _ _ ((bodyTo lim vars ts bad body body.length).w ++ (bodyTo lim vars ts bad body body.length).n) [] b8 b16 b9 b15 b77 vars.length (List.replicate vars.length false) (by simp) (by show _ ∈ (_ :: _ :: _ :: (_ ++ (_ ++ _))); repeat (first | exact List.mem_cons_self | apply List.mem_cons_of_mem | apply List.mem_append_right)) (by show _ ∈ (_ :: _ :: _ :: (_ ++ (_ ++ _))); repeat (first | exact List.mem_cons_self | apply List.mem_cons_of_mem | apply List.mem_append_right)) hW2 (.nil rfl rfl) (by simp; omega) (by simp) hwp).mono ?_)
     rintro _ _ ⟨vw3, Hw3, vo3, Ho3, ⟨rfl, hW3, hO3⟩, rfl⟩
     refine GOps.nil ?_
     refine GW.seq ?_
     refine GW.seq ?_
     refine GW.region ?_
     refine R.move ⟨rfl, rfl, rfl, rfl⟩ rfl ?_
     refine R.lenS ⟨rfl, rfl, rfl, rfl⟩ rfl rfl Tryz.underlying32 ?_
     refine R.move ⟨rfl, rfl, rfl, rfl⟩ rfl ?_
     refine GOps.nil ?_
     refine GW.block ?_
     refine GW.loop4 (fun (i : Nat) (q : RS) (h : (Value × Value) × (Hp × Hp)) (u1 : Unit) => [(7, .slice Am (bodyTo lim vars ts bad body body.length).m.length cm), (9, .pointer (some ⟨b9, 0, none⟩)), (15, .pointer (some ⟨b15, 0, none⟩)), (17, .func (.func 63) #[] #[.pointer (some ⟨b8, 0, none⟩), .pointer (some ⟨b16, 0, none⟩), .pointer (some ⟨b9, 0, none⟩)]), (82, .slice Ax (ordF (bodyTo lim vars ts bad body body.length).m.length order srt).length cx), (83, .int .i64 (ordF (bodyTo lim vars ts bad body body.length).m.length order srt).length), (84, .int .i64 i)]) (fun (i : Nat) (q : RS) (h : (Value × Value) × (Hp × Hp)) (u1 : Unit) => can b77 b8 b9 (q.kn) (h.1.1) (h.1.2) (h.2.1) (h.2.2) ((b16, .exact (.cells #[.func (.func 61) #[] #[.pointer (some ⟨b15, 0, none⟩)]] 133 (0, 0))) :: (b15, .exact (.cells #[.slice (some ⟨b77, 0, none⟩) vars.length vars.length] 47 (0, 0))) :: (bM, mkC bD A vars.length c (bodyTo lim vars ts bad body body.length).bad) :: (HD2 ++ (Hm ++ (Hx ++ G))))) (fun i : Nat => (ordF (bodyTo lim vars ts bad body body.length).m.length order srt).length - i) (fun (i : Nat) (q : RS) (h : (Value × Value) × (Hp × Hp)) (u1 : Unit) => i ≤ (ordF (bodyTo lim vars ts bad body body.length).m.length order srt).length ∧ q = runTo (bodyTo lim vars ts bad body body.length).m ⟨List.replicate vars.length false, (bodyTo lim vars ts bad body body.length).w ++ (bodyTo lim vars ts bad body body.length).n, []⟩ (ordF (bodyTo lim vars ts bad body body.length).m.length order srt) i ∧ SlAt 11 50 (stsC (q.w)) (q.w).length h.1.1 h.2.1 ∧ SlAt 11 50 (stsC (q.o)) (q.o).length h.1.2 h.2.2) 0 (flushR ⟨List.replicate vars.length false, (bodyTo lim vars ts bad body body.length).w ++ (bodyTo lim vars ts bad body body.length).n, []⟩) (((vw3, vo3), (Hw3, Ho3))) (())
      (by repeat (first | exact Keeps.nil _ | refine Keeps.cons rfl ?_)) (Hs.refl _) (⟨Nat.zero_le _, rfl, hW3, hO3⟩) ?_
     rintro i q h u1 ⟨hi, hq, hWq, hOq⟩
     obtain ⟨⟨vw, vo⟩, Hw, Ho⟩ := h
     obtain ⟨hq1, hq2⟩ := run_ok (ms := (bodyTo lim vars ts bad body body.length).m) (ord := (ordF (bodyTo lim vars ts bad body body.length).m.length order srt)) hq0 i
     rw [← hq] at hq1 hq2
     have hq3 := hq2 hi
     have hq4 : q.o.length ≤ 4000 := by simp only [List.length_append, List.length_nil] at hq3; have := hbo.len; omega
     refine GW.seq ?_
     refine GW.region ?_
     refine R.lss ⟨rfl, rfl, rfl, rfl⟩ rfl rfl ?_
     refine GOps.nil ?_
     refine GW.seq ?_
     refine GW.ite rfl (fun hc6 => ?_) (fun hc6 => ?_)
     ·try simp only [dcQ] at hc6
      obtain ⟨z, hz⟩ : ∃ z, (ordF (bodyTo lim vars ts bad body body.length).m.length order srt)[i]? = some z := ⟨_, List.getElem?_eq_getElem (by omega)⟩
      obtain ⟨zb, zo, rfl, hrz⟩ := int_at hox hz
      have hzr := ordF_range hmem z (List.mem_of_getElem? hz)
      have hzx := getD_some (ms := (bodyTo lim vars ts bad body body.length).m) (i := z.toNat) (by omega)
      obtain ⟨sb, so, cs1, rfl, rfl, hrs⟩ := hms z.toNat _ hzx
      have hsm := List.mem_of_getElem? hzx
      refine GW.skip ?_
      refine GW.seq ?_
      refine GW.block ?_
      refine GW.seq ?_
      refine GW.region ?_
      refine R.indexAddrS ⟨rfl, rfl, rfl, rfl⟩ rfl rfl Tryz.underlying32 Tryz.sizeOf3 (by omega) (by omega) ?_
      refine R.load1 ⟨rfl, rfl, rfl, rfl⟩ rfl Tryz.underlying3 rfl (hrz.mono (by intro y hy; show _ ∈ (_ :: _ :: _ :: (_ ++ (_ ++ (_ :: _ :: _ :: (_ ++ (_ ++ _)))))); repeat (first | exact hy | apply List.mem_cons_of_mem | apply List.mem_append_right))) ?_
      refine R.assign ⟨rfl, rfl, rfl, rfl⟩ rfl ?_
      refine GOps.nil ?_
      refine GW.cutX (fun a : Value × Hp => [(7, .slice (some ⟨sb, so, none⟩) (bodyTo lim vars ts bad body body.length).m.length cm), (9, .pointer (some ⟨b9, 0, none⟩)), (15, .pointer (some ⟨b15, 0, none⟩)), (17, .func (.func 63) #[] #[.pointer (some ⟨b8, 0, none⟩), .pointer (some ⟨b16, 0, none⟩), .pointer (some ⟨b9, 0, none⟩)]), (19, .int .i64 z), (82, .slice (some ⟨zb, zo, none⟩) (ordF (bodyTo lim vars ts bad body body.length).m.length order srt).length cx), (83, .int .i64 (ordF (bodyTo lim vars ts bad body body.length).m.length order srt).length), (84, .int .i64 i)]) (fun a : Value × Hp => can b77 b8 b9 (q.kn) (vw) (a.1) (Hw) (a.2) ((b16, .exact (.cells #[.func (.func 61) #[] #[.pointer (some ⟨b15, 0, none⟩)]] 133 (0, 0))) :: (b15, .exact (.cells #[.slice (some ⟨b77, 0, none⟩) vars.length vars.length] 47 (0, 0))) :: (bM, mkC bD A vars.length c (bodyTo lim vars ts bad body body.length).bad) :: (HD2 ++ (Hm ++ (Hx ++ G))))) (fun a : Value × Hp => SlAt 11 50 (stsC (q.o ++ [((bodyTo lim vars ts bad body body.length).m.getD z.toNat zSt)])) (q.o ++ [((bodyTo lim vars ts bad body body.length).m.getD z.toNat zSt)]).length a.1 a.2) ?_ ?_
      ·refine GW.draw ((b16, .exact (.cells #[.func (.func 61) #[] #[.pointer (some ⟨b15, 0, none⟩)]] 133 (0, 0))) :: (b15, .exact (.cells #[.slice (some ⟨b77, 0, none⟩) vars.length vars.length] 47 (0, 0))) :: (bM, mkC bD A vars.length c (bodyTo lim vars ts bad body body.length).bad) :: (HD2 ++ (Hm ++ (Hx ++ G)))) 8 rfl (by kernel_rfl) ?_
       refine GA.val 1 rfl (V.move ⟨rfl, rfl, rfl, rfl⟩ rfl) rfl (by kernel_rfl) (by kernel_rfl) (by kernel_rfl) ?_
       refine GA.val 2 rfl (V.move ⟨rfl, rfl, rfl, rfl⟩ rfl) rfl (by kernel_rfl) (by kernel_rfl) (by kernel_rfl) ?_
       refine GA.val 3 rfl (V.indexAddrS ⟨rfl, rfl, rfl, rfl⟩ rfl rfl Tryz.underlying39 Tryz.sizeOf50 (by omega) (by omega)) rfl (by kernel_rfl) (by kernel_rfl) (by kernel_rfl) ?_
       refine GA.val 4 rfl (V.loadA ⟨rfl, rfl, rfl, rfl⟩ rfl Tryz.underlying50 rfl Tryz.sizeOf50 (hrs.mono (by intro y hy; repeat (first | exact List.mem_append_left _ hy | apply List.mem_cons_of_mem | apply List.mem_append_right))) (by rfl)) rfl (by kernel_rfl) (by kernel_rfl) (by kernel_rfl) ?_
       refine GA.two 0 5 (by first | exact Hs.toRest _ _ _ _ _ _ | exact Hs.sub (by repeat (first | exact List.Sublist.refl _ | apply List.Sublist.cons | refine List.Sublist.trans ?_ (List.sublist_append_right _ _))) | exact Hs.refl _ | exact Hs.tl _ | exact Hs.tl2 _ _ | exact Hs.tl3 _ _ _ | exact Hs.app _ | exact Hs.sub (by simp)) (by kernel_rfl) rfl rfl ?_ ?_
       ·refine R.load1 ⟨rfl, rfl, rfl, rfl⟩ rfl Tryz.underlying39 rfl (.own' memG (by rfl)) ?_
        refine GOps.nil ?_
        refine GA.one 5 (by first | exact Hs.toRest _ _ _ _ _ _ | exact Hs.sub (by repeat (first | exact List.Sublist.refl _ | apply List.Sublist.cons | refine List.Sublist.trans ?_ (List.sublist_append_right _ _))) | exact Hs.refl _ | exact Hs.tl _ | exact Hs.tl2 _ _ | exact Hs.tl3 _ _ _ | exact Hs.app _ | exact Hs.sub (by simp)) (by kernel_rfl) rfl ?_
        refine R.buildSliceF (sz := 11) (bytes := 88) (vs := [_]) (cs := StC ((bodyTo lim vars ts bad body body.length).m.getD z.toNat zSt)) ⟨rfl, rfl, rfl, rfl⟩ rfl Tryz.underlying39 (InfoE.mk (by kernel_rfl)) rfl rfl rfl rfl rfl fun b93 => ?_
        refine GOps.nil ?_
        refine GA.one 6 (by first | exact Hs.toRest _ _ _ _ _ _ | exact Hs.sub (by repeat (first | exact List.Sublist.refl _ | apply List.Sublist.cons | refine List.Sublist.trans ?_ (List.sublist_append_right _ _))) | exact Hs.refl _ | exact Hs.tl _ | exact Hs.tl2 _ _ | exact Hs.tl3 _ _ _ | exact Hs.app _ | exact Hs.sub (by simp)) (by kernel_rfl) rfl ?_
        refine R.append (sz := 11) (bytes := 88) (G1 := [_, _, _, _] ++ Hw) (H := Ho) (news := StC ((bodyTo lim vars ts bad body body.length).m.getD z.toNat zSt)) ⟨rfl, rfl, rfl, rfl⟩ rfl rfl rfl Tryz.underlying39 (InfoE.mk (by kernel_rfl)) (hOq) (rfl) (rfl) (.own (by repeat (first | exact List.mem_cons_self | apply List.mem_cons_of_mem | apply List.mem_append_right | exact List.mem_append_left _ List.mem_cons_self)) 0 _ (fun j v hv => by simpa using hv)) (by omega) (by rfl) (by omega) (by omega) fun v94 H94 hv94 => ?_
        obtain ⟨A94, c94, rfl, hc94⟩ := hv94.split
        refine GOps.nil ?_
        refine GA.one 7 (by first | exact Hs.toRest _ _ _ _ _ _ | exact Hs.sub (by repeat (first | exact List.Sublist.refl _ | apply List.Sublist.cons | refine List.Sublist.trans ?_ (List.sublist_append_right _ _))) | exact Hs.refl _ | exact Hs.tl _ | exact Hs.tl2 _ _ | exact Hs.tl3 _ _ _ | exact Hs.app _ | exact Hs.sub (by simp)) (by kernel_rfl) rfl ?_
        refine R.storeAll (G1 := [_, _, _]) rfl rfl rfl rfl rfl Tryz.sizeOf39 rfl rfl rfl rfl ?_
        refine GOps.nil ?_
        refine GA.done (by first | exact Hs.toRest _ _ _ _ _ _ | exact Hs.sub (by repeat (first | exact List.Sublist.refl _ | apply List.Sublist.cons | refine List.Sublist.trans ?_ (List.sublist_append_right _ _))) | exact Hs.refl _ | exact Hs.tl _ | exact Hs.tl2 _ _ | exact Hs.tl3 _ _ _ | exact Hs.app _ | exact Hs.sub (by simp)) (by kernel_rfl) ?_
        exact ⟨rfl, rfl, (.slice A94 _ c94, H94), (by show SlAt 11 50 (stsC (q.o ++ [((bodyTo lim vars ts bad body body.length).m.getD z.toNat zSt)])) (q.o ++ [((bodyTo lim vars ts bad body body.length).m.getD z.toNat zSt)]).length _ _; rw [sts_app, sts_one, List.length_append]; exact hv94), by repeat (first | exact Keeps.nil _ | refine Keeps.cons rfl ?_), Hs.tl _⟩
       ·refine R.buildSliceF (sz := 11) (bytes := 88) (vs := [_]) (cs := StC ((bodyTo lim vars ts bad body body.length).m.getD z.toNat zSt)) ⟨rfl, rfl, rfl, rfl⟩ rfl Tryz.underlying39 (InfoE.mk (by kernel_rfl)) rfl rfl rfl rfl rfl fun b93 => ?_
        refine GOps.nil ?_
        refine GA.one 0 (by first | exact Hs.toRest _ _ _ _ _ _ | exact Hs.sub (by repeat (first | exact List.Sublist.refl _ | apply List.Sublist.cons | refine List.Sublist.trans ?_ (List.sublist_append_right _ _))) | exact Hs.refl _ | exact Hs.tl _ | exact Hs.tl2 _ _ | exact Hs.tl3 _ _ _ | exact Hs.app _ | exact Hs.sub (by simp)) (by kernel_rfl) rfl ?_
        refine R.load1 ⟨rfl, rfl, rfl, rfl⟩ rfl Tryz.underlying39 rfl (.own' memG (by rfl)) ?_
        refine GOps.nil ?_
        refine GA.one 6 (by first | exact Hs.toRest _ _ _ _ _ _ | exact Hs.sub (by repeat (first | exact List.Sublist.refl _ | apply List.Sublist.cons | refine List.Sublist.trans ?_ (List.sublist_append_right _ _))) | exact Hs.refl _ | exact Hs.tl _ | exact Hs.tl2 _ _ | exact Hs.tl3 _ _ _ | exact Hs.app _ | exact Hs.sub (by simp)) (by kernel_rfl) rfl ?_
        refine R.append (sz := 11) (bytes := 88) (G1 := [_, _, _, _] ++ Hw) (H := Ho) (news := StC ((bodyTo lim vars ts bad body body.length).m.getD z.toNat zSt)) ⟨rfl, rfl, rfl, rfl⟩ rfl rfl rfl Tryz.underlying39 (InfoE.mk (by kernel_rfl)) (hOq) (rfl) (rfl) (.own (by repeat (first | exact List.mem_cons_self | apply List.mem_cons_of_mem | apply List.mem_append_right | exact List.mem_append_left _ List.mem_cons_self)) 0 _ (fun j v hv => by simpa using hv)) (by omega) (by rfl) (by omega) (by omega) fun v94 H94 hv94 => ?_
        obtain ⟨A94, c94, rfl, hc94⟩ := hv94.split
        refine GOps.nil ?_
        refine GA.one 7 (by first | exact Hs.toRest _ _ _ _ _ _ | exact Hs.sub (by repeat (first | exact List.Sublist.refl _ | apply List.Sublist.cons | refine List.Sublist.trans ?_ (List.sublist_append_right _ _))) | exact Hs.refl _ | exact Hs.tl _ | exact Hs.tl2 _ _ | exact Hs.tl3 _ _ _ | exact Hs.app _ | exact Hs.sub (by simp)) (by kernel_rfl) rfl ?_
        refine R.storeAll (G1 := [_, _, _]) rfl rfl rfl rfl rfl Tryz.sizeOf39 rfl rfl rfl rfl ?_
        refine GOps.nil ?_
        refine GA.done (by first | exact Hs.toRest _ _ _ _ _ _ | exact Hs.sub (by repeat (first | exact List.Sublist.refl _ | apply List.Sublist.cons | refine List.Sublist.trans ?_ (List.sublist_append_right _ _))) | exact Hs.refl _ | exact Hs.tl _ | exact Hs.tl2 _ _ | exact Hs.tl3 _ _ _ | exact Hs.app _ | exact Hs.sub (by simp)) (by kernel_rfl) ?_
        exact ⟨rfl, rfl, (.slice A94 _ c94, H94), (by show SlAt 11 50 (stsC (q.o ++ [((bodyTo lim vars ts bad body body.length).m.getD z.toNat zSt)])) (q.o ++ [((bodyTo lim vars ts bad body body.length).m.getD z.toNat zSt)]).length _ _; rw [sts_app, sts_one, List.length_append]; exact hv94), by repeat (first | exact Keeps.nil _ | refine Keeps.cons rfl ?_), Hs.tl _⟩
      ·rintro ⟨vo2, Ho2⟩ hO2
       simp only at hO2
       refine GW.seq ?_
       refine GW.seq ?_
       refine GW.region ?_
       refine R.move ⟨rfl, rfl, rfl, rfl⟩ rfl ?_
       refine R.move ⟨rfl, rfl, rfl, rfl⟩ rfl ?_
       refine R.indexAddrS ⟨rfl, rfl, rfl, rfl⟩ rfl rfl Tryz.underlying39 Tryz.sizeOf50 (by omega) (by omega) ?_
       refine R.fieldAddr ⟨rfl, rfl, rfl, rfl⟩ rfl Tryz.underlying50 rfl Tryz.sizeOf38 ?_   -- "Row"
       refine R.loadA ⟨rfl, rfl, rfl, rfl⟩ rfl Tryz.underlying38 rfl Tryz.sizeOf38 (row_in (hrs.mono (by intro y hy; show _ ∈ (_ :: _ :: _ :: (_ ++ (_ ++ (_ :: _ :: _ :: (_ ++ (_ ++ _)))))); repeat (first | exact List.mem_append_left _ hy | apply List.mem_cons_of_mem | apply List.mem_append_right)))) (by rfl) ?_
       refine R.move ⟨rfl, rfl, rfl, rfl⟩ rfl ?_
       refine GOps.nil ?_
       refine GW.block ?_
       refine GW.loopI (fun k : Nat => [(7, .slice (some ⟨sb, so, none⟩) (bodyTo lim vars ts bad body body.length).m.length cm), (9, .pointer (some ⟨b9, 0, none⟩)), (15, .pointer (some ⟨b15, 0, none⟩)), (17, .func (.func 63) #[] #[.pointer (some ⟨b8, 0, none⟩), .pointer (some ⟨b16, 0, none⟩), .pointer (some ⟨b9, 0, none⟩)]), (82, .slice (some ⟨zb, zo, none⟩) (ordF (bodyTo lim vars ts bad body body.length).m.length order srt).length cx), (83, .int .i64 (ordF (bodyTo lim vars ts bad body body.length).m.length order srt).length), (84, .int .i64 i), (99, .agg (RwC ((bodyTo lim vars ts bad body body.length).m.getD z.toNat zSt).row).toArray), (100, .int .i64 k)]) (fun k => can b77 b8 b9 (markTo q.kn ((bodyTo lim vars ts bad body body.length).m.getD z.toNat zSt).row k) (vw) (vo2) (Hw) (Ho2) ((b16, .exact (.cells #[.func (.func 61) #[] #[.pointer (some ⟨b15, 0, none⟩)]] 133 (0, 0))) :: (b15, .exact (.cells #[.slice (some ⟨b77, 0, none⟩) vars.length vars.length] 47 (0, 0))) :: (bM, mkC bD A vars.length c (bodyTo lim vars ts bad body body.length).bad) :: (HD2 ++ (Hm ++ (Hx ++ G))))) (fun k => 3 - k) (fun k => k ≤ 3) 0
        (by repeat (first | exact Keeps.nil _ | refine Keeps.cons rfl ?_)) (Hs.refl _) (Nat.zero_le _) ?_
       rintro k hk
       refine GW.seq ?_
       refine GW.region ?_
       refine R.lss ⟨rfl, rfl, rfl, rfl⟩ rfl rfl ?_
       refine GOps.nil ?_
       refine GW.seq ?_
       refine GW.ite rfl (fun hc7 => ?_) (fun hc7 => ?_)
       ·try simp only [dcQ] at hc7
        obtain ⟨p, hp, hpm, hpe⟩ := rw_index (r := ((bodyTo lim vars ts bad body body.length).m.getD z.toNat zSt).row) (k := k) (by omega)
        have hpv : p.var < vars.length := hbo.pl _ (List.mem_append_left _ hsm) p (by rw [placesSt_r (.inl (hbo.m1 _ hsm))]; exact hpm)
        refine GW.skip ?_
        refine GW.seq ?_
        refine GW.block ?_
        refine GW.seq ?_
        refine GW.region ?_
        refine R.indexArr (es := (PlC p).toArray) ⟨rfl, rfl, rfl, rfl⟩ rfl rfl Tryz.underlying38 Tryz.underlying37 rfl Tryz.sizeOf37 (by omega) (by omega) (hpe) ?_
        refine R.alloc ⟨rfl, rfl, rfl, rfl⟩ Tryz.zeroValue37 fun b21 => ?_
        refine R.storeAll (G1 := []) rfl rfl rfl rfl rfl Tryz.sizeOf37 rfl rfl rfl rfl ?_
        refine GOps.nil ?_
        refine GW.seq ?_
        refine GW.region ?_
        refine R.fieldAddr ⟨rfl, rfl, rfl, rfl⟩ rfl Tryz.underlying37 rfl Tryz.sizeOf3 ?_   -- "Var"
        refine R.load1 ⟨rfl, rfl, rfl, rfl⟩ rfl Tryz.underlying3 rfl (.own' memG (by rfl)) ?_
        refine R.geq ⟨rfl, rfl, rfl, rfl⟩ rfl rfl ?_
        refine GOps.nil ?_
        refine GW.ite rfl (fun hc8 => ?_) (fun hc8 => ?_)
        ·try simp only [dcQ] at hc8
         refine GW.region ?_
         refine R.load1 ⟨rfl, rfl, rfl, rfl⟩ rfl Tryz.underlying47 rfl (.own' memG (by rfl)) ?_
         refine R.fieldAddr ⟨rfl, rfl, rfl, rfl⟩ rfl Tryz.underlying37 rfl Tryz.sizeOf3 ?_   -- "Var"
         refine R.load1 ⟨rfl, rfl, rfl, rfl⟩ rfl Tryz.underlying3 rfl (.own' memG (by rfl)) ?_
         refine R.indexAddrS ⟨rfl, rfl, rfl, rfl⟩ rfl rfl Tryz.underlying47 Tryz.sizeOf4 (by omega) (by omega) ?_
         refine R.store (G1 := [_]) rfl rfl rfl rfl rfl Tryz.sizeOf4 rfl rfl (rfl) (by simp [boolC, markTo_len, hq1.kn]; omega) ?_
         refine GOps.nil ?_
         refine GW.region ?_
         refine R.add (r := (((k + 1) : Nat) : Int)) ⟨rfl, rfl, rfl, rfl⟩ rfl rfl (by rw [wrap64_id (by omega) (by omega)]; omega) ?_
         refine R.move ⟨rfl, rfl, rfl, rfl⟩ rfl ?_
         refine GOps.nil ?_
         first | exact ⟨k + 1, by omega, by omega, rfl, by repeat (first | exact Keeps.nil _ | refine Keeps.cons rfl ?_), (Hs.tl _).trans (Hs.kn (by rw [markTo_succ hp, markP, if_pos (by omega)]; exact mark_put (by rw [markTo_len, hq1.kn]; omega)))⟩ | exact ⟨k + 1, by omega, by omega, rfl, by repeat (first | exact Keeps.nil _ | refine Keeps.cons rfl ?_), (Hs.tl _).trans (Hs.kn (by rw [markTo_succ hp, markP, if_neg (by omega)]))⟩
        ·try simp only [dcQ] at hc8
         refine GW.skip ?_
         refine GW.region ?_
         refine R.add (r := (((k + 1) : Nat) : Int)) ⟨rfl, rfl, rfl, rfl⟩ rfl rfl (by rw [wrap64_id (by omega) (by omega)]; omega) ?_
         refine R.move ⟨rfl, rfl, rfl, rfl⟩ rfl ?_
         refine GOps.nil ?_
         first | exact ⟨k + 1, by omega, by omega, rfl, by repeat (first | exact Keeps.nil _ | refine Keeps.cons rfl ?_), (Hs.tl _).trans (Hs.kn (by rw [markTo_succ hp, markP, if_pos (by omega)]; exact mark_put (by rw [markTo_len, hq1.kn]; omega)))⟩ | exact ⟨k + 1, by omega, by omega, rfl, by repeat (first | exact Keeps.nil _ | refine Keeps.cons rfl ?_), (Hs.tl _).trans (Hs.kn (by rw [markTo_succ hp, markP, if_neg (by omega)]))⟩
       ·try simp only [dcQ] at hc7
        obtain rfl : k = 3 := by omega
        refine GW.exit ?_
        refine GW.region ?_
        refine R.move ⟨rfl, rfl, rfl, rfl⟩ rfl ?_
        refine R.call ⟨rfl, rfl, rfl, rfl⟩ rfl (vs := []) rfl ((flush_can _ _ _ _ _ _ q.w (q.o ++ [((bodyTo lim vars ts bad body body.length).m.getD z.toNat zSt)]) b8 b16 b9 b15 b77 vars.length (markTo q.kn ((bodyTo lim vars ts bad body body.length).m.getD z.toNat zSt).row 3) (by rw [markTo_len]; exact hq1.kn) (by show _ ∈ (_ :: _ :: _ :: (_ ++ (_ ++ _))); repeat (first | exact List.mem_cons_self | apply List.mem_cons_of_mem | apply List.mem_append_right)) (by show _ ∈ (_ :: _ :: _ :: (_ ++ (_ ++ _))); repeat (first | exact List.mem_cons_self | apply List.mem_cons_of_mem | apply List.mem_append_right)) hWq hO2 (by have := hq1.wl; omega) (by simp; omega) hq1.w).mono ?_)
        rintro _ _ ⟨vw4, Hw4, vo4, Ho4, ⟨rfl, hW4, hO4⟩, rfl⟩
        refine GOps.nil ?_
        refine GW.region ?_
        refine R.add (r := (((i + 1) : Nat) : Int)) ⟨rfl, rfl, rfl, rfl⟩ rfl rfl (by rw [wrap64_id (by omega) (by omega)]; omega) ?_
        refine R.move ⟨rfl, rfl, rfl, rfl⟩ rfl ?_
        refine GOps.nil ?_
        exact ⟨i + 1, takeR (bodyTo lim vars ts bad body body.length).m q z, ((vw4, vo4), (Hw4, Ho4)), (), by omega, ⟨by omega, by rw [runTo_succ hz, ← hq], hW4, hO4⟩, rfl, by repeat (first | exact Keeps.nil _ | refine Keeps.cons rfl ?_), Hs.refl _⟩
     ·try simp only [dcQ] at hc6
      obtain rfl : i = (ordF (bodyTo lim vars ts bad body body.length).m.length order srt).length := by omega
      subst hq
      refine GW.exit ?_
      refine GW.seq ?_
      refine GW.region ?_
      refine R.load1 ⟨rfl, rfl, rfl, rfl⟩ rfl Tryz.underlying39 rfl (.own' memG (by rfl)) ?_
      refine R.assign ⟨rfl, rfl, rfl, rfl⟩ rfl ?_
      refine GOps.nil ?_
      exact GW.ret (Out.of (Res.one rfl rfl) (can_end _ _ _ _ _ _ _ _ _ _ _ _) ⟨HD2, Ho, ⟨hOq, hD2⟩, rfl⟩)
end Go.Proofs.YtfddkcmooommeaaGreatDoor.Gl
end
section
namespace Go.Proofs.YtfddkcmooommeaaGreatDoor.Gl
open Go.RowKit Go.Shelf
set_option linter.unusedVariables false
set_option linter.unnecessarySimpa false
set_option linter.unusedSimpArgs false
attribute [-simp] List.getD_eq_getElem?_getD
def planC (h : Rw) (v : Value) (n : Nat) : List Value := [.int .i64 h.p0.var, .int .u32 (h.p0.id : Nat), .int .i64 h.p1.var, .int .u32 (h.p1.id : Nat), .int .i64 h.p2.var, .int .u32 (h.p2.id : Nat), v, .int .i64 (n : Nat)]
structure PRes where
 head : Rw
 steps : List St
 vars : Nat
 e : Int
 ts : List Tm
def planRule (lim : Nat) (ts : List Tm) (r : Rl) (order srt : List Int) : PRes :=
 if ruleE r = 0 then
  if (planSteps lim (dd (allSlots r)) (rowF lim (dd (allSlots r)) (ts, 0) r.head).2.1 (rowF lim (dd (allSlots r)) (ts, 0) r.head).2.2 r.body order srt).2.2 = 0 then ⟨(rowF lim (dd (allSlots r)) (ts, 0) r.head).1, (planSteps lim (dd (allSlots r)) (rowF lim (dd (allSlots r)) (ts, 0) r.head).2.1 (rowF lim (dd (allSlots r)) (ts, 0) r.head).2.2 r.body order srt).1, (dd (allSlots r)).length, 0, (planSteps lim (dd (allSlots r)) (rowF lim (dd (allSlots r)) (ts, 0) r.head).2.1 (rowF lim (dd (allSlots r)) (ts, 0) r.head).2.2 r.body order srt).2.1⟩ else ⟨zRw, [], 0, (planSteps lim (dd (allSlots r)) (rowF lim (dd (allSlots r)) (ts, 0) r.head).2.1 (rowF lim (dd (allSlots r)) (ts, 0) r.head).2.2 r.body order srt).2.2, (planSteps lim (dd (allSlots r)) (rowF lim (dd (allSlots r)) (ts, 0) r.head).2.1 (rowF lim (dd (allSlots r)) (ts, 0) r.head).2.2 r.body order srt).2.1⟩
 else ⟨zRw, [], 0, 2, ts⟩
theorem planRule_bad {lim : Nat} {ts : List Tm} {r : Rl} {order srt : List Int} (h : ¬ ruleE r = 0) : planRule lim ts r order srt = ⟨zRw, [], 0, 2, ts⟩ := by unfold planRule; rw [if_neg h]
theorem planRule_full {lim : Nat} {ts : List Tm} {r : Rl} {order srt : List Int} (h : ruleE r = 0) (h2 : ¬ (planSteps lim (dd (allSlots r)) (rowF lim (dd (allSlots r)) (ts, 0) r.head).2.1 (rowF lim (dd (allSlots r)) (ts, 0) r.head).2.2 r.body order srt).2.2 = 0) : planRule lim ts r order srt = ⟨zRw, [], 0, (planSteps lim (dd (allSlots r)) (rowF lim (dd (allSlots r)) (ts, 0) r.head).2.1 (rowF lim (dd (allSlots r)) (ts, 0) r.head).2.2 r.body order srt).2.2, (planSteps lim (dd (allSlots r)) (rowF lim (dd (allSlots r)) (ts, 0) r.head).2.1 (rowF lim (dd (allSlots r)) (ts, 0) r.head).2.2 r.body order srt).2.1⟩ := by unfold planRule; rw [if_pos h, if_neg h2]
theorem planRule_ok {lim : Nat} {ts : List Tm} {r : Rl} {order srt : List Int} (h : ruleE r = 0) (h2 : (planSteps lim (dd (allSlots r)) (rowF lim (dd (allSlots r)) (ts, 0) r.head).2.1 (rowF lim (dd (allSlots r)) (ts, 0) r.head).2.2 r.body order srt).2.2 = 0) : planRule lim ts r order srt = ⟨(rowF lim (dd (allSlots r)) (ts, 0) r.head).1, (planSteps lim (dd (allSlots r)) (rowF lim (dd (allSlots r)) (ts, 0) r.head).2.1 (rowF lim (dd (allSlots r)) (ts, 0) r.head).2.2 r.body order srt).1, (dd (allSlots r)).length, 0, (planSteps lim (dd (allSlots r)) (rowF lim (dd (allSlots r)) (ts, 0) r.head).2.1 (rowF lim (dd (allSlots r)) (ts, 0) r.head).2.2 r.body order srt).2.1⟩ := by unfold planRule; rw [if_pos h, if_pos h2]
theorem Dic.mem {ts : List Tm} {lim b : Nat} {H : Hp} (h : Dic ts lim b H) : ∃ va ve bt n, (b, dictC lim va ve bt n) ∈ H := by
 obtain ⟨va, ve, Ha, He, bt, k, tab, rfl, _⟩ := h
 exact ⟨va, ve, bt, _, List.mem_cons_self⟩
theorem rule_may {r : Rl} (h : ruleE r = 0) : mayRl r = true := by
 unfold ruleE at h
 cases hm : mayRl r with
 | true => rfl
 | false => rw [hm] at h; cases h
theorem may_slot {s : Sl} (h : maySl s = true) : emp s.v = true → mayT s.t = true := fun he => by
 unfold maySl at h
 rw [he] at h
 exact h
theorem may_pt {p : Pt} (h : mayPt p = true) : ∀ s ∈ sl3 p, emp s.v = true → mayT s.t = true := by
 unfold mayPt at h
 simp only [Bool.and_eq_true] at h
 intro s hs
 simp only [sl3, List.mem_cons, List.not_mem_nil, or_false] at hs
 rcases hs with rfl | rfl | rfl
 ·exact may_slot h.1
 ·exact may_slot h.2.1
 ·exact may_slot h.2.2
theorem may_lt {l : Lt} (h : mayLt l = true) : ∀ s ∈ stepSl l, emp s.v = true → mayT s.t = true := by
 intro s hs
 unfold stepSl at hs
 unfold mayLt at h
 by_cases h1 : l.kind = 1 ∨ l.kind = 2
 ·rw [if_pos h1] at hs
  have : (decide (l.kind = 1) || decide (l.kind = 2)) = true := by simpa using h1
  rw [this, cond_true, Bool.and_eq_true] at h
  exact may_pt h.1 s hs
 ·rw [if_neg h1] at hs
  have : (decide (l.kind = 1) || decide (l.kind = 2)) = false := by simpa using h1
  rw [this, cond_false] at h
  cases h2 : (decide (l.kind = 3) || decide (l.kind = 4)) with
  | false => rw [h2] at h; cases h
  | true =>
   rw [h2, cond_true, Bool.and_eq_true, Bool.and_eq_true] at h
   simp only [List.mem_cons, List.not_mem_nil, or_false] at hs
   rcases hs with rfl | rfl
   ·exact may_slot h.2.1
   ·exact may_slot h.2.2
theorem may_head {r : Rl} (h : ruleE r = 0) : ∀ s ∈ sl3 r.head, emp s.v = true → mayT s.t = true := by
 have := rule_may h
 unfold mayRl at this
 rw [Bool.and_eq_true] at this
 exact may_pt this.1
theorem may_body {r : Rl} (h : ruleE r = 0) : ∀ l ∈ r.body, ∀ s ∈ stepSl l, emp s.v = true → mayT s.t = true := by
 have := rule_may h
 unfold mayRl at this
 simp only [Bool.and_eq_true, List.all_eq_true] at this
 exact fun l hl => may_lt (this.2.2 l hl)
theorem Hs.toM1 (x m : Nat × Know) (H G : Hp) : Hs (x :: m :: (H ++ G)) (m :: (H ++ (x :: G))) := Hs.perm (((pm1 x H G).cons m).trans (List.Perm.swap x m _))
theorem Hs.fromM1 (x m : Nat × Know) (H G : Hp) : Hs (m :: (H ++ (x :: G))) (x :: m :: (H ++ G)) := Hs.perm (((pm1 x H G).cons m).trans (List.Perm.swap x m _)).symm
theorem Hs.fromM1o (x m : Nat × Know) (H O G : Hp) : Hs (m :: (H ++ (O ++ (x :: G)))) (x :: m :: (H ++ (O ++ G))) := Hs.perm (by
 have h : (H ++ (O ++ (x :: G))).Perm (x :: (H ++ (O ++ G))) := by
  have h0 := @List.perm_middle _ x (H ++ O) G
  simp only [List.append_assoc] at h0
  exact h0
 exact ((h.cons m).trans (List.Perm.swap x m _)).symm)
theorem Hs.mkRow {bM bD n c : Nat} {A : Option Addr} {bad : Int} (G1 G2 : Hp) : Hs (G1 ++ (bM, mkC bD A n c bad) :: G2) (G1 ++ (bM, .row [.pointer (some ⟨bD, 0, none⟩), .slice A n c] 97 3) :: G2) := fun w0 w hw => Sat.weakKnow hw (fun x hx => by
 simp only [Know.holds] at hx ⊢
 refine ⟨_, hx, rfl, fun j v hv => ?_⟩
 rcases j with _ | _ | j
 ·exact hv
 ·exact hv
 ·simp at hv)
theorem Hs.newMk (m x y : Nat × Know) (V D G : Hp) : Hs (m :: (V ++ (x :: y :: (D ++ G)))) (m :: (D ++ (V ++ (x :: y :: G)))) := Hs.perm (List.Perm.cons m (by
 have h1 : (V ++ (x :: y :: (D ++ G))).Perm (x :: y :: (V ++ (D ++ G))) := pm2 x y V _
 have h2 : (D ++ (V ++ (x :: y :: G))).Perm (x :: y :: (D ++ (V ++ G))) := by
  have := pm2 x y (D ++ V) G
  simp only [List.append_assoc] at this
  exact this
 refine h2.trans ((List.Perm.cons y ?_).cons x |>.trans h1.symm)
 rw [← List.append_assoc, ← List.append_assoc]
 exact List.Perm.append_right _ List.perm_append_comm))
theorem Hs.deep6 (x m y z : Nat × Know) (D O V G : Hp) : Hs (x :: m :: (D ++ (O ++ (V ++ (y :: z :: G))))) (y :: x :: m :: (D ++ (O ++ (V ++ (z :: G))))) := Hs.perm (by
 have h : (D ++ (O ++ (V ++ (y :: z :: G)))).Perm (y :: (D ++ (O ++ (V ++ (z :: G))))) := by
  have h0 := @List.perm_middle _ y (D ++ (O ++ V)) (z :: G)
  simp only [List.append_assoc] at h0
  exact h0
 exact (((h.cons m).trans (List.Perm.swap y m _)).cons x |>.trans (List.Perm.swap y x _)).symm)
theorem Hs.gj11 (y x m : Nat × Know) (D G : Hp) : Hs (y :: x :: m :: (D ++ G)) (m :: G) := Hs.sub ((((List.sublist_append_right D G).cons_cons m).cons x).cons y)
theorem Hs.endY (x m y z : Nat × Know) (D O V G : Hp) : Hs (y :: x :: m :: (D ++ (O ++ (V ++ (z :: G))))) (D ++ (O ++ G)) := Hs.sub ((((((List.Sublist.refl G).cons z).trans (List.sublist_append_right V _)).append_left O).append_left D).cons m |>.cons x |>.cons y)
theorem Hs.endY0 (x m y z : Nat × Know) (D O V G : Hp) : Hs (y :: x :: m :: (D ++ (O ++ (V ++ (z :: G))))) (D ++ ([] ++ G)) := (Hs.endY x m y z D O V G).trans (Hs.sub ((List.sublist_append_right O G).append_left D))
theorem plan_Names (w0 : World) (G : Hp) (r : Rl) (A : Option Addr) (c : Nat) (hl : LtsAt w0 G A r.body) (hm : r.body.length ≤ 100000) : GC Tryz.prog w0 31 #[.agg (RlC r.head (.slice A r.body.length c)).toArray] (fun v G' => ∃ H, SlAt 1 9 ((dd (allSlots r)).map Value.string) (dd (allSlots r)).length v H ∧ H ++ G = G') G := by
 refine GC.body (args := [.agg (RlC r.head (.slice A r.body.length c)).toArray]) Tryz.func31 rfl (by kernel_rfl) rfl ?_
 refine GW.seq ?_
 refine GW.region ?_
 refine R.box ⟨rfl, rfl, rfl, rfl⟩ rfl fun b1 => ?_
 refine R.assign ⟨rfl, rfl, rfl, rfl⟩ rfl ?_
 refine GOps.nil ?_
 refine GW.seq ?_
 refine GW.region ?_
 refine R.load_own (cs := RlC r.head (.slice A r.body.length c)) ⟨rfl, rfl, rfl, rfl⟩ rfl Tryz.underlying31 rfl Tryz.sizeOf31 memG (by rfl) (by rfl) ?_
 refine R.call ⟨rfl, rfl, rfl, rfl⟩ rfl (vs := [_]) rfl ((check_Vars _ _ r A c (hl.mono (sub_cons _)) hm).mono ?_)
 rintro v4 _ ⟨H4, h4, rfl⟩
 refine R.assign ⟨rfl, rfl, rfl, rfl⟩ rfl ?_
 refine GOps.nil ?_
 exact GW.ret (Out.of (Res.one rfl rfl) (Hs.app1 _ _ _) ⟨H4, h4, rfl⟩)
theorem plan_Rule (w0 : World) (G : Hp) (HD : Hp) (ts : List Tm) (lim bD : Nat) (hD : Dic ts lim bD HD) (r : Rl) (bA : Option Addr) (bc : Nat) (hl : LtsAt w0 G bA r.body) (hbl : r.body.length ≤ 1000) (hok : RlOk r)
  (oA : Option Addr) (order srt : List Int) (oc : Nat) (ho : IntsAt w0 G oA order) (hol : order.length ≤ 1000) (hsl : srt.length ≤ 1000) (hmem : ∀ z ∈ order, z ∈ srt)
  (hS : ∀ (b1 : Nat) (G0 : Hp), (b1, Know.exact (.cells #[.slice oA order.length oc] 32 (0, 0))) ∈ G0 → IntsAt w0 G0 oA order → GC Tryz.prog w0 57 #[.func (.func 89) #[] #[.pointer (some ⟨b1, 0, none⟩)]] (fun v G' => ∃ H, SlAt 1 3 (zC srt) srt.length v H ∧ H ++ G0 = G') G0) :
  GC Tryz.prog w0 10 #[.pointer (some ⟨bD, 0, none⟩), .agg (RlC r.head (.slice bA r.body.length bc)).toArray, .slice oA order.length oc] (fun v G' => ∃ vs Ho HD', (v = .tuple #[.agg (planC (planRule lim ts r order srt).head vs (planRule lim ts r order srt).vars).toArray, .int .i64 (planRule lim ts r order srt).e] ∧ SlAt 11 50 (stsC (planRule lim ts r order srt).steps) (planRule lim ts r order srt).steps.length vs Ho ∧ Dic (planRule lim ts r order srt).ts lim bD HD') ∧ HD' ++ (Ho ++ G) = G') (HD ++ G) := by
 obtain ⟨va, ve, bt, nk, hmD⟩ := hD.mem
 have hvl : (dd (allSlots r)).length ≤ 3 + 3 * r.body.length := Nat.le_trans (dd_len _) (allTake_len r r.body.length).2
 refine GC.body (args := [.pointer (some ⟨bD, 0, none⟩), .agg (RlC r.head (.slice bA r.body.length bc)).toArray, .slice oA order.length oc]) Tryz.func10 rfl (by kernel_rfl) rfl ?_
 refine GW.seq ?_
 refine GW.region ?_
 refine R.box ⟨rfl, rfl, rfl, rfl⟩ rfl fun b4 => ?_
 refine R.alloc ⟨rfl, rfl, rfl, rfl⟩ Tryz.zeroValue41 fun b6 => ?_
 refine R.assign ⟨rfl, rfl, rfl, rfl⟩ rfl ?_
 refine GOps.nil ?_
 refine GW.seq ?_
 refine GW.seq ?_
 refine GW.region ?_
 refine R.move ⟨rfl, rfl, rfl, rfl⟩ rfl ?_
 refine R.build (vs := []) (cells := #[.int .i64 0, .string (ByteArray.mk #[]), .string (ByteArray.mk #[])]) ⟨rfl, rfl, rfl, rfl⟩ rfl (fun w => run_build w 24 _ _ (by kernel_rfl)) ?_
 refine R.call ⟨rfl, rfl, rfl, rfl⟩ rfl (vs := [_, _]) rfl ((int_zero _ _ va ve bD bt lim nk (List.mem_cons_of_mem _ (List.mem_cons_of_mem _ (List.mem_append_left _ hmD)))).mono ?_)
 rintro _ _ ⟨rfl, rfl⟩
 refine R.move ⟨rfl, rfl, rfl, rfl⟩ rfl ?_
 refine R.extract ⟨rfl, rfl, rfl, rfl⟩ rfl rfl ?_
 refine R.extract ⟨rfl, rfl, rfl, rfl⟩ rfl rfl ?_
 refine R.assign ⟨rfl, rfl, rfl, rfl⟩ rfl ?_
 refine R.assign ⟨rfl, rfl, rfl, rfl⟩ rfl ?_
 refine GOps.nil ?_
 refine GW.seq ?_
 refine GW.region ?_
 refine R.move ⟨rfl, rfl, rfl, rfl⟩ rfl ?_
 refine R.eqI ⟨rfl, rfl, rfl, rfl⟩ rfl rfl ?_
 refine GOps.nil ?_
 refine GW.cond_f rfl ?_
 refine GW.skip ?_
 refine GW.seq ?_
 refine GW.seq ?_
 refine GW.region ?_
 refine R.load_own (cs := RlC r.head (.slice bA r.body.length bc)) ⟨rfl, rfl, rfl, rfl⟩ rfl Tryz.underlying31 rfl Tryz.sizeOf31 memG (by rfl) (by rfl) ?_
 refine R.call ⟨rfl, rfl, rfl, rfl⟩ rfl (vs := [_]) rfl ((check_Rule _ _ r bA bc (hl.mono (fun y hy => by repeat (first | exact hy | apply List.mem_cons_of_mem | apply List.mem_append_right))) (by omega) hok).mono ?_)
 rintro _ _ ⟨rfl, rfl⟩
 rw [chk_eq]
 refine R.neI ⟨rfl, rfl, rfl, rfl⟩ rfl rfl ?_
 refine GOps.nil ?_
 refine GW.ite rfl (fun hc1 => ?_) (fun hc1 => ?_)
 ·try simp only [dcQ] at hc1
  have hr0 : ¬ ruleE r = 0 := hc1
  refine GW.seq ?_
  refine GW.region ?_
  refine R.build (vs := []) (cells := (planC zRw (.slice none 0 0) 0).toArray) ⟨rfl, rfl, rfl, rfl⟩ rfl (fun w => run_build w 41 _ _ (by kernel_rfl)) ?_
  refine R.storeAll (G1 := []) rfl rfl rfl rfl rfl Tryz.sizeOf41 rfl rfl rfl rfl ?_
  refine R.assign ⟨rfl, rfl, rfl, rfl⟩ rfl ?_
  refine GOps.nil ?_
  first | (rw [planRule_bad hr0]; exact GW.ret (Out.of (resCellTmp rfl rfl rfl Tryz.underlying41 rfl Tryz.sizeOf41 (Rds.own (C := (planC zRw (.slice none 0 0) 0).toArray) (by repeat (first | exact List.mem_cons_self | apply List.mem_cons_of_mem | apply List.mem_append_right | exact List.mem_append_left _ List.mem_cons_self)) 0 (planC zRw (.slice none 0 0) 0) (fun j v hv => by simpa using hv)) rfl) (Hs.tl2 _ _) ⟨.slice none 0 0, [], HD, ⟨rfl, .nil rfl rfl, hD⟩, rfl⟩)) | (rw [planRule_full hr0 (by first | assumption | omega)]; exact GW.ret (Out.of (resCellTmp rfl rfl rfl Tryz.underlying41 rfl Tryz.sizeOf41 (Rds.own (C := (planC zRw (.slice none 0 0) 0).toArray) (by repeat (first | exact List.mem_cons_self | apply List.mem_cons_of_mem | apply List.mem_append_right | exact List.mem_append_left _ List.mem_cons_self)) 0 (planC zRw (.slice none 0 0) 0) (fun j v hv => by simpa using hv)) rfl) (Hs.endY0 _ _ _ _ _ _ _ _) ⟨.slice none 0 0, [], HD3, ⟨rfl, .nil rfl rfl, hD3⟩, rfl⟩)) | (rw [planRule_ok hr0 (by first | assumption | omega)]; exact GW.ret (Out.of (resCellTmp rfl rfl rfl Tryz.underlying41 rfl Tryz.sizeOf41 (Rds.own (C := (planC (rowF lim (dd (allSlots r)) (ts, 0) r.head).1 (.slice A48 (planSteps lim (dd (allSlots r)) (rowF lim (dd (allSlots r)) (ts, 0) r.head).2.1 (rowF lim (dd (allSlots r)) (ts, 0) r.head).2.2 r.body order srt).1.length c48) (dd (allSlots r)).length).toArray) (by repeat (first | exact List.mem_cons_self | apply List.mem_cons_of_mem | apply List.mem_append_right | exact List.mem_append_left _ List.mem_cons_self)) 0 (planC (rowF lim (dd (allSlots r)) (ts, 0) r.head).1 (.slice A48 (planSteps lim (dd (allSlots r)) (rowF lim (dd (allSlots r)) (ts, 0) r.head).2.1 (rowF lim (dd (allSlots r)) (ts, 0) r.head).2.2 r.body order srt).1.length c48) (dd (allSlots r)).length) (fun j v hv => by simpa using hv)) rfl) (Hs.endY _ _ _ _ _ _ _ _) ⟨.slice A48 _ c48, Ho, HD3, ⟨rfl, hst, hD3⟩, rfl⟩))
 ·try simp only [dcQ] at hc1
  have hr0 : ruleE r = 0 := by omega
  refine GW.skip ?_
  refine GW.cutX (fun a : (Option Addr × Nat × Nat) × Hp => [(2, .slice oA order.length oc), (4, .pointer (some ⟨b4, 0, none⟩)), (6, .pointer (some ⟨b6, 0, none⟩)), (10, .pointer (some ⟨a.1.2.1, 0, none⟩))]) (fun a : (Option Addr × Nat × Nat) × Hp => (a.1.2.1, mkC bD a.1.1 (dd (allSlots r)).length a.1.2.2 0) :: (HD ++ (a.2 ++ ((b6, .exact (.cells (planC zRw (.slice none 0 0) 0).toArray 41 (0, 0))) :: (b4, .exact (.cells (Value.agg (RlC r.head (.slice bA r.body.length bc)).toArray).cells 31 (0, 0))) :: G)))) (fun a : (Option Addr × Nat × Nat) × Hp => StAt w0 (a.2 ++ []) a.1.1 (dd (allSlots r))) ?_ ?_
  ·refine GW.region ?_
   refine R.move ⟨rfl, rfl, rfl, rfl⟩ rfl ?_
   refine R.load_own (cs := RlC r.head (.slice bA r.body.length bc)) ⟨rfl, rfl, rfl, rfl⟩ rfl Tryz.underlying31 rfl Tryz.sizeOf31 memG (by rfl) (by rfl) ?_
   refine R.call ⟨rfl, rfl, rfl, rfl⟩ rfl (vs := [_]) rfl ((plan_Names _ _ r bA bc (hl.mono (fun y hy => by repeat (first | exact hy | apply List.mem_cons_of_mem | apply List.mem_append_right))) (by omega)).mono ?_)
   rintro v29 _ ⟨Hv, hv29, rfl⟩
   obtain ⟨Av, cv, rfl, hvs⟩ := hv29.strs w0 []
   refine R.build (vs := [(0, _), (1, _)]) (cells := #[.pointer (some ⟨bD, 0, none⟩), .slice Av (dd (allSlots r)).length cv, .int .i64 0]) ⟨rfl, rfl, rfl, rfl⟩ rfl (fun w => run_build w 97 _ _ (by kernel_rfl)) ?_
   refine R.box ⟨rfl, rfl, rfl, rfl⟩ rfl fun b31 => ?_
   refine R.assign ⟨rfl, rfl, rfl, rfl⟩ rfl ?_
   refine GOps.nil ?_
   exact ⟨rfl, rfl, ((Av, b31, cv), Hv), hvs, by repeat (first | exact Keeps.nil _ | refine Keeps.cons rfl ?_), Hs.newMk _ _ _ _ _ _⟩
  ·rintro ⟨⟨Av, b31, cv⟩, Hv⟩ hvs
   simp only at hvs
   refine GW.seq ?_
   refine GW.region ?_
   refine R.move ⟨rfl, rfl, rfl, rfl⟩ rfl ?_
   refine R.makeFunc (vs := [_]) (us := []) ⟨rfl, rfl, rfl, rfl⟩ rfl rfl ?_
   refine R.assign ⟨rfl, rfl, rfl, rfl⟩ rfl ?_
   refine GOps.nil ?_
   refine GW.cutX (fun a : Nat × Hp => [(2, .slice oA order.length oc), (4, .pointer (some ⟨b4, 0, none⟩)), (6, .pointer (some ⟨b6, 0, none⟩)), (10, .pointer (some ⟨b31, 0, none⟩)), (12, .pointer (some ⟨a.1, 0, none⟩))]) (fun a : Nat × Hp => (a.1, .exact (.cells (planC (rowF lim (dd (allSlots r)) (ts, 0) r.head).1 (.slice none 0 0) (dd (allSlots r)).length).toArray 41 (0, 0))) :: (b31, mkC bD Av (dd (allSlots r)).length cv (rowF lim (dd (allSlots r)) (ts, 0) r.head).2.2) :: (a.2 ++ (Hv ++ ((b6, .exact (.cells (planC zRw (.slice none 0 0) 0).toArray 41 (0, 0))) :: (b4, .exact (.cells (Value.agg (RlC r.head (.slice bA r.body.length bc)).toArray).cells 31 (0, 0))) :: G)))) (fun a : Nat × Hp => Dic (rowF lim (dd (allSlots r)) (ts, 0) r.head).2.1 lim bD a.2) ?_ ?_
   ·refine GW.draw ((b31, .row [.pointer (some ⟨bD, 0, none⟩), .slice Av (dd (allSlots r)).length cv] 97 3) :: (Hv ++ ((b6, .exact (.cells (planC zRw (.slice none 0 0) 0).toArray 41 (0, 0))) :: (b4, .exact (.cells (Value.agg (RlC r.head (.slice bA r.body.length bc)).toArray).cells 31 (0, 0))) :: G))) 12 rfl (by kernel_rfl) ?_
    refine GA.val 0 rfl (V.move ⟨rfl, rfl, rfl, rfl⟩ rfl) rfl (by kernel_rfl) (by kernel_rfl) (by kernel_rfl) ?_
    refine GA.val 1 rfl (V.fieldAddr ⟨rfl, rfl, rfl, rfl⟩ rfl Tryz.underlying31 rfl Tryz.sizeOf28) rfl (by kernel_rfl) (by kernel_rfl) (by kernel_rfl) ?_   -- "Head"
    refine GA.val 2 rfl (V.load_own (cs := PtC r.head) ⟨rfl, rfl, rfl, rfl⟩ rfl Tryz.underlying28 rfl Tryz.sizeOf28 memG (by rfl) (by rfl)) rfl (by kernel_rfl) (by kernel_rfl) (by kernel_rfl) ?_
    refine GA.val 4 rfl (V.move ⟨rfl, rfl, rfl, rfl⟩ rfl) rfl (by kernel_rfl) (by kernel_rfl) (by kernel_rfl) ?_
    refine GA.val 5 rfl (V.nilCheck ⟨rfl, rfl, rfl, rfl⟩ rfl) rfl (by kernel_rfl) (by kernel_rfl) (by kernel_rfl) ?_
    refine GA.val 6 rfl (V.fieldAddr ⟨rfl, rfl, rfl, rfl⟩ rfl Tryz.underlying97 rfl Tryz.sizeOf61) rfl (by kernel_rfl) (by kernel_rfl) (by kernel_rfl) ?_   -- "vars"
    refine GA.val 7 rfl (V.load1 ⟨rfl, rfl, rfl, rfl⟩ rfl Tryz.underlying61 rfl (.own (by repeat (first | exact List.mem_cons_self | apply List.mem_cons_of_mem | apply List.mem_append_right | exact List.mem_append_left _ List.mem_cons_self)) rfl)) rfl (by kernel_rfl) (by kernel_rfl) (by kernel_rfl) ?_
    refine GA.val 8 rfl (V.lenS ⟨rfl, rfl, rfl, rfl⟩ rfl rfl Tryz.underlying61) rfl (by kernel_rfl) (by kernel_rfl) (by kernel_rfl) ?_
    refine GA.two 3 10 (by first | exact (Hs.mkRow [] _).trans (Hs.sub ((List.sublist_append_right _ _).cons_cons _)) | exact (Hs.tl _).trans ((Hs.mkRow [] _).trans (Hs.sub ((List.sublist_append_right _ _).cons_cons _))) | exact Hs.gj11 _ _ _ _ _ | exact Hs.refl _ | exact Hs.tl _ | exact Hs.tl2 _ _ | exact Hs.tl3 _ _ _ | exact Hs.app _ | exact Hs.sub (by simp)) (by kernel_rfl) rfl rfl ?_ ?_
    ·first | refine GOps.weak (Keeps.refl _) (Hs.toM1 _ _ _ _) ?_ | skip
     refine R.call ⟨rfl, rfl, rfl, rfl⟩ rfl (vs := [_]) rfl ((plan_row _ _ HD ts lim bD b31 cv Av (dd (allSlots r)) 0 hD (hvs.mono (fun y hy => by rw [List.append_nil] at hy; repeat (first | exact List.mem_append_left _ hy | apply List.mem_cons_of_mem | apply List.mem_append_right))) (by omega) r.head (may_head hr0)).mono ?_)
     rintro _ _ ⟨HD2, ⟨rfl, hD2⟩, rfl⟩
     first | refine GOps.weak (Keeps.refl _) (Hs.fromM1 _ _ _ _) ?_ | skip
     refine GOps.nil ?_
     refine GA.val 9 rfl (V.build (vs := [(0, _), (2, _)]) (cells := (planC (rowF lim (dd (allSlots r)) (ts, 0) r.head).1 (.slice none 0 0) (dd (allSlots r)).length).toArray) ⟨rfl, rfl, rfl, rfl⟩ rfl (fun w => run_build w 41 _ _ (by kernel_rfl))) rfl (by kernel_rfl) (by kernel_rfl) (by kernel_rfl) ?_
     refine GA.one 10 (by first | exact (Hs.mkRow [] _).trans (Hs.sub ((List.sublist_append_right _ _).cons_cons _)) | exact (Hs.tl _).trans ((Hs.mkRow [] _).trans (Hs.sub ((List.sublist_append_right _ _).cons_cons _))) | exact Hs.gj11 _ _ _ _ _ | exact Hs.refl _ | exact Hs.tl _ | exact Hs.tl2 _ _ | exact Hs.tl3 _ _ _ | exact Hs.app _ | exact Hs.sub (by simp)) (by kernel_rfl) rfl ?_
     refine R.alloc ⟨rfl, rfl, rfl, rfl⟩ Tryz.zeroValue41 fun b12 => ?_
     refine GOps.nil ?_
     refine GA.one 11 (by first | exact (Hs.mkRow [] _).trans (Hs.sub ((List.sublist_append_right _ _).cons_cons _)) | exact (Hs.tl _).trans ((Hs.mkRow [] _).trans (Hs.sub ((List.sublist_append_right _ _).cons_cons _))) | exact Hs.gj11 _ _ _ _ _ | exact Hs.refl _ | exact Hs.tl _ | exact Hs.tl2 _ _ | exact Hs.tl3 _ _ _ | exact Hs.app _ | exact Hs.sub (by simp)) (by kernel_rfl) rfl ?_
     refine R.storeAll (G1 := []) rfl rfl rfl rfl rfl Tryz.sizeOf41 rfl rfl rfl rfl ?_
     refine GOps.nil ?_
     refine GA.done (by first | exact (Hs.mkRow [] _).trans (Hs.sub ((List.sublist_append_right _ _).cons_cons _)) | exact (Hs.tl _).trans ((Hs.mkRow [] _).trans (Hs.sub ((List.sublist_append_right _ _).cons_cons _))) | exact Hs.gj11 _ _ _ _ _ | exact Hs.refl _ | exact Hs.tl _ | exact Hs.tl2 _ _ | exact Hs.tl3 _ _ _ | exact Hs.app _ | exact Hs.sub (by simp)) (by kernel_rfl) ?_
     exact ⟨rfl, rfl, (b12, HD2), hD2, by repeat (first | exact Keeps.nil _ | refine Keeps.cons rfl ?_), Hs.refl _⟩
    ·refine R.alloc ⟨rfl, rfl, rfl, rfl⟩ Tryz.zeroValue41 fun b12 => ?_
     refine GOps.nil ?_
     refine GA.one 3 (by first | exact (Hs.mkRow [] _).trans (Hs.sub ((List.sublist_append_right _ _).cons_cons _)) | exact (Hs.tl _).trans ((Hs.mkRow [] _).trans (Hs.sub ((List.sublist_append_right _ _).cons_cons _))) | exact Hs.gj11 _ _ _ _ _ | exact Hs.refl _ | exact Hs.tl _ | exact Hs.tl2 _ _ | exact Hs.tl3 _ _ _ | exact Hs.app _ | exact Hs.sub (by simp)) (by kernel_rfl) rfl ?_
     first | refine GOps.weak (Keeps.refl _) (Hs.toM1 _ _ _ _) ?_ | skip
     refine R.call ⟨rfl, rfl, rfl, rfl⟩ rfl (vs := [_]) rfl ((plan_row _ _ HD ts lim bD b31 cv Av (dd (allSlots r)) 0 hD (hvs.mono (fun y hy => by rw [List.append_nil] at hy; repeat (first | exact List.mem_append_left _ hy | apply List.mem_cons_of_mem | apply List.mem_append_right))) (by omega) r.head (may_head hr0)).mono ?_)
     rintro _ _ ⟨HD2, ⟨rfl, hD2⟩, rfl⟩
     first | refine GOps.weak (Keeps.refl _) (Hs.fromM1 _ _ _ _) ?_ | skip
     refine GOps.nil ?_
     refine GA.val 9 rfl (V.build (vs := [(0, _), (2, _)]) (cells := (planC (rowF lim (dd (allSlots r)) (ts, 0) r.head).1 (.slice none 0 0) (dd (allSlots r)).length).toArray) ⟨rfl, rfl, rfl, rfl⟩ rfl (fun w => run_build w 41 _ _ (by kernel_rfl))) rfl (by kernel_rfl) (by kernel_rfl) (by kernel_rfl) ?_
     refine GA.one 11 (by first | exact (Hs.mkRow [] _).trans (Hs.sub ((List.sublist_append_right _ _).cons_cons _)) | exact (Hs.tl _).trans ((Hs.mkRow [] _).trans (Hs.sub ((List.sublist_append_right _ _).cons_cons _))) | exact Hs.gj11 _ _ _ _ _ | exact Hs.refl _ | exact Hs.tl _ | exact Hs.tl2 _ _ | exact Hs.tl3 _ _ _ | exact Hs.app _ | exact Hs.sub (by simp)) (by kernel_rfl) rfl ?_
     refine R.storeAll (G1 := []) rfl rfl rfl rfl rfl Tryz.sizeOf41 rfl rfl rfl rfl ?_
     refine GOps.nil ?_
     refine GA.done (by first | exact (Hs.mkRow [] _).trans (Hs.sub ((List.sublist_append_right _ _).cons_cons _)) | exact (Hs.tl _).trans ((Hs.mkRow [] _).trans (Hs.sub ((List.sublist_append_right _ _).cons_cons _))) | exact Hs.gj11 _ _ _ _ _ | exact Hs.refl _ | exact Hs.tl _ | exact Hs.tl2 _ _ | exact Hs.tl3 _ _ _ | exact Hs.app _ | exact Hs.sub (by simp)) (by kernel_rfl) ?_
     exact ⟨rfl, rfl, (b12, HD2), hD2, by repeat (first | exact Keeps.nil _ | refine Keeps.cons rfl ?_), Hs.refl _⟩
   ·rintro ⟨b12, HD2⟩ hD2
    simp only at hD2
    refine GW.seq ?_
    refine GW.region ?_
    refine R.move ⟨rfl, rfl, rfl, rfl⟩ rfl ?_
    refine R.fieldAddr ⟨rfl, rfl, rfl, rfl⟩ rfl Tryz.underlying31 rfl Tryz.sizeOf29 ?_   -- "Body"
    refine R.load1 ⟨rfl, rfl, rfl, rfl⟩ rfl Tryz.underlying29 rfl (.own (by repeat (first | exact List.mem_cons_self | apply List.mem_cons_of_mem | apply List.mem_append_right | exact List.mem_append_left _ List.mem_cons_self)) rfl) ?_
    refine R.move ⟨rfl, rfl, rfl, rfl⟩ rfl ?_
    refine GOps.weak (Keeps.refl _) (Hs.toM1 _ _ _ _) ?_
    refine R.call ⟨rfl, rfl, rfl, rfl⟩ rfl (vs := [_, _, _]) rfl ((plan_steps _ _ HD2 (rowF lim (dd (allSlots r)) (ts, 0) r.head).2.1 lim bD b31 cv Av (dd (allSlots r)) (rowF lim (dd (allSlots r)) (ts, 0) r.head).2.2 hD2 (hvs.mono (fun y hy => by rw [List.append_nil] at hy; repeat (first | exact List.mem_append_left _ hy | apply List.mem_cons_of_mem | apply List.mem_append_right))) (by omega) bA r.body bc (hl.mono (fun y hy => by repeat (first | exact hy | apply List.mem_cons_of_mem | apply List.mem_append_right))) hbl (may_body hr0) oA order srt oc (ho.mono (fun y hy => by repeat (first | exact hy | apply List.mem_cons_of_mem | apply List.mem_append_right))) hol hsl hmem hS).mono ?_)
    rintro v48 _ ⟨HD3, Ho, ⟨hst, hD3⟩, rfl⟩
    refine GOps.weak (Keeps.refl _) (Hs.fromM1o _ _ _ _ _) ?_
    obtain ⟨A48, c48, rfl, hc48⟩ := hst.split
    refine R.fieldAddr ⟨rfl, rfl, rfl, rfl⟩ rfl Tryz.underlying41 rfl Tryz.sizeOf39 ?_   -- "Steps"
    refine R.store (G1 := []) rfl rfl rfl rfl rfl Tryz.sizeOf39 rfl rfl (rfl) (Nat.le_of_ble_eq_true rfl) ?_
    refine GOps.nil ?_
    refine GW.seq ?_
    refine GW.seq ?_
    refine GW.region ?_
    refine R.move ⟨rfl, rfl, rfl, rfl⟩ rfl ?_
    refine R.nilCheck ⟨rfl, rfl, rfl, rfl⟩ rfl ?_
    refine R.fieldAddr ⟨rfl, rfl, rfl, rfl⟩ rfl Tryz.underlying97 rfl Tryz.sizeOf42 ?_   -- "bad"
    refine R.load1 ⟨rfl, rfl, rfl, rfl⟩ rfl Tryz.underlying42 rfl (.own' memG (by rfl)) ?_
    refine R.neI ⟨rfl, rfl, rfl, rfl⟩ rfl rfl ?_
    refine GOps.nil ?_
    refine GW.ite rfl (fun hc2 => ?_) (fun hc2 => ?_)
    ·try simp only [dcQ] at hc2
     refine GW.weak (Keeps.refl _) (Hs.deep6 _ _ _ _ _ _ _ _) ?_
     refine GW.seq ?_
     refine GW.draw ((b31, mkC bD Av (dd (allSlots r)).length cv (planSteps lim (dd (allSlots r)) (rowF lim (dd (allSlots r)) (ts, 0) r.head).2.1 (rowF lim (dd (allSlots r)) (ts, 0) r.head).2.2 r.body order srt).2.2) :: (Ho ++ (Hv ++ ((b4, .exact (.cells (Value.agg (RlC r.head (.slice bA r.body.length bc)).toArray).cells 31 (0, 0))) :: G)))) 7 rfl (by kernel_rfl) ?_
     refine GA.val 0 rfl (V.build (vs := []) (cells := (planC zRw (.slice none 0 0) 0).toArray) ⟨rfl, rfl, rfl, rfl⟩ rfl (fun w => run_build w 41 _ _ (by kernel_rfl))) rfl (by kernel_rfl) (by kernel_rfl) (by kernel_rfl) ?_
     refine GA.val 1 rfl (V.move ⟨rfl, rfl, rfl, rfl⟩ rfl) rfl (by kernel_rfl) (by kernel_rfl) (by kernel_rfl) ?_
     refine GA.val 2 rfl (V.nilCheck ⟨rfl, rfl, rfl, rfl⟩ rfl) rfl (by kernel_rfl) (by kernel_rfl) (by kernel_rfl) ?_
     refine GA.val 3 rfl (V.fieldAddr ⟨rfl, rfl, rfl, rfl⟩ rfl Tryz.underlying97 rfl Tryz.sizeOf42) rfl (by kernel_rfl) (by kernel_rfl) (by kernel_rfl) ?_   -- "bad"
     refine GA.val 4 rfl (V.load1 ⟨rfl, rfl, rfl, rfl⟩ rfl Tryz.underlying42 rfl (.own' memG (by rfl))) rfl (by kernel_rfl) (by kernel_rfl) (by kernel_rfl) ?_
     refine GA.one 5 (by first | exact (Hs.mkRow [] _).trans (Hs.sub ((List.sublist_append_right _ _).cons_cons _)) | exact (Hs.tl _).trans ((Hs.mkRow [] _).trans (Hs.sub ((List.sublist_append_right _ _).cons_cons _))) | exact Hs.gj11 _ _ _ _ _ | exact Hs.refl _ | exact Hs.tl _ | exact Hs.tl2 _ _ | exact Hs.tl3 _ _ _ | exact Hs.app _ | exact Hs.sub (by simp)) (by kernel_rfl) rfl ?_
     refine R.storeAll (G1 := []) rfl rfl rfl rfl rfl Tryz.sizeOf41 rfl rfl rfl rfl ?_
     refine GOps.nil ?_
     refine GA.val 6 rfl (V.assign ⟨rfl, rfl, rfl, rfl⟩ rfl) rfl (by kernel_rfl) (by kernel_rfl) (by kernel_rfl) ?_
     refine GA.done (by first | exact (Hs.mkRow [] _).trans (Hs.sub ((List.sublist_append_right _ _).cons_cons _)) | exact (Hs.tl _).trans ((Hs.mkRow [] _).trans (Hs.sub ((List.sublist_append_right _ _).cons_cons _))) | exact Hs.gj11 _ _ _ _ _ | exact Hs.refl _ | exact Hs.tl _ | exact Hs.tl2 _ _ | exact Hs.tl3 _ _ _ | exact Hs.app _ | exact Hs.sub (by simp)) (by kernel_rfl) ?_
     first | (rw [planRule_bad hr0]; exact GW.ret (Out.of (resCellTmp rfl rfl rfl Tryz.underlying41 rfl Tryz.sizeOf41 (Rds.own (C := (planC zRw (.slice none 0 0) 0).toArray) (by repeat (first | exact List.mem_cons_self | apply List.mem_cons_of_mem | apply List.mem_append_right | exact List.mem_append_left _ List.mem_cons_self)) 0 (planC zRw (.slice none 0 0) 0) (fun j v hv => by simpa using hv)) rfl) (Hs.tl2 _ _) ⟨.slice none 0 0, [], HD, ⟨rfl, .nil rfl rfl, hD⟩, rfl⟩)) | (rw [planRule_full hr0 (by first | assumption | omega)]; exact GW.ret (Out.of (resCellTmp rfl rfl rfl Tryz.underlying41 rfl Tryz.sizeOf41 (Rds.own (C := (planC zRw (.slice none 0 0) 0).toArray) (by repeat (first | exact List.mem_cons_self | apply List.mem_cons_of_mem | apply List.mem_append_right | exact List.mem_append_left _ List.mem_cons_self)) 0 (planC zRw (.slice none 0 0) 0) (fun j v hv => by simpa using hv)) rfl) (Hs.endY0 _ _ _ _ _ _ _ _) ⟨.slice none 0 0, [], HD3, ⟨rfl, .nil rfl rfl, hD3⟩, rfl⟩)) | (rw [planRule_ok hr0 (by first | assumption | omega)]; exact GW.ret (Out.of (resCellTmp rfl rfl rfl Tryz.underlying41 rfl Tryz.sizeOf41 (Rds.own (C := (planC (rowF lim (dd (allSlots r)) (ts, 0) r.head).1 (.slice A48 (planSteps lim (dd (allSlots r)) (rowF lim (dd (allSlots r)) (ts, 0) r.head).2.1 (rowF lim (dd (allSlots r)) (ts, 0) r.head).2.2 r.body order srt).1.length c48) (dd (allSlots r)).length).toArray) (by repeat (first | exact List.mem_cons_self | apply List.mem_cons_of_mem | apply List.mem_append_right | exact List.mem_append_left _ List.mem_cons_self)) 0 (planC (rowF lim (dd (allSlots r)) (ts, 0) r.head).1 (.slice A48 (planSteps lim (dd (allSlots r)) (rowF lim (dd (allSlots r)) (ts, 0) r.head).2.1 (rowF lim (dd (allSlots r)) (ts, 0) r.head).2.2 r.body order srt).1.length c48) (dd (allSlots r)).length) (fun j v hv => by simpa using hv)) rfl) (Hs.endY _ _ _ _ _ _ _ _) ⟨.slice A48 _ c48, Ho, HD3, ⟨rfl, hst, hD3⟩, rfl⟩))
    ·try simp only [dcQ] at hc2
     refine GW.weak (Keeps.refl _) (Hs.deep6 _ _ _ _ _ _ _ _) ?_
     refine GW.skip ?_
     refine GW.seq ?_
     refine GW.region ?_
     refine R.load_own (cs := planC (rowF lim (dd (allSlots r)) (ts, 0) r.head).1 (.slice A48 (planSteps lim (dd (allSlots r)) (rowF lim (dd (allSlots r)) (ts, 0) r.head).2.1 (rowF lim (dd (allSlots r)) (ts, 0) r.head).2.2 r.body order srt).1.length c48) (dd (allSlots r)).length) ⟨rfl, rfl, rfl, rfl⟩ rfl Tryz.underlying41 rfl Tryz.sizeOf41 memG (by rfl) (by rfl) ?_
     refine R.storeAll (G1 := []) rfl rfl rfl rfl rfl Tryz.sizeOf41 rfl rfl rfl rfl ?_
     refine R.assign ⟨rfl, rfl, rfl, rfl⟩ rfl ?_
     refine GOps.nil ?_
     first | (rw [planRule_bad hr0]; exact GW.ret (Out.of (resCellTmp rfl rfl rfl Tryz.underlying41 rfl Tryz.sizeOf41 (Rds.own (C := (planC zRw (.slice none 0 0) 0).toArray) (by repeat (first | exact List.mem_cons_self | apply List.mem_cons_of_mem | apply List.mem_append_right | exact List.mem_append_left _ List.mem_cons_self)) 0 (planC zRw (.slice none 0 0) 0) (fun j v hv => by simpa using hv)) rfl) (Hs.tl2 _ _) ⟨.slice none 0 0, [], HD, ⟨rfl, .nil rfl rfl, hD⟩, rfl⟩)) | (rw [planRule_full hr0 (by first | assumption | omega)]; exact GW.ret (Out.of (resCellTmp rfl rfl rfl Tryz.underlying41 rfl Tryz.sizeOf41 (Rds.own (C := (planC zRw (.slice none 0 0) 0).toArray) (by repeat (first | exact List.mem_cons_self | apply List.mem_cons_of_mem | apply List.mem_append_right | exact List.mem_append_left _ List.mem_cons_self)) 0 (planC zRw (.slice none 0 0) 0) (fun j v hv => by simpa using hv)) rfl) (Hs.endY0 _ _ _ _ _ _ _ _) ⟨.slice none 0 0, [], HD3, ⟨rfl, .nil rfl rfl, hD3⟩, rfl⟩)) | (rw [planRule_ok hr0 (by first | assumption | omega)]; exact GW.ret (Out.of (resCellTmp rfl rfl rfl Tryz.underlying41 rfl Tryz.sizeOf41 (Rds.own (C := (planC (rowF lim (dd (allSlots r)) (ts, 0) r.head).1 (.slice A48 (planSteps lim (dd (allSlots r)) (rowF lim (dd (allSlots r)) (ts, 0) r.head).2.1 (rowF lim (dd (allSlots r)) (ts, 0) r.head).2.2 r.body order srt).1.length c48) (dd (allSlots r)).length).toArray) (by repeat (first | exact List.mem_cons_self | apply List.mem_cons_of_mem | apply List.mem_append_right | exact List.mem_append_left _ List.mem_cons_self)) 0 (planC (rowF lim (dd (allSlots r)) (ts, 0) r.head).1 (.slice A48 (planSteps lim (dd (allSlots r)) (rowF lim (dd (allSlots r)) (ts, 0) r.head).2.1 (rowF lim (dd (allSlots r)) (ts, 0) r.head).2.2 r.body order srt).1.length c48) (dd (allSlots r)).length) (fun j v hv => by simpa using hv)) rfl) (Hs.endY _ _ _ _ _ _ _ _) ⟨.slice A48 _ c48, Ho, HD3, ⟨rfl, hst, hD3⟩, rfl⟩))
end Go.Proofs.YtfddkcmooommeaaGreatDoor.Gl
end
section
namespace Go.Proofs.YtfddkcmooommeaaGreatDoor.Gl
open Go.RowKit Go.Shelf
set_option linter.unusedVariables false
set_option linter.unnecessarySimpa false
set_option linter.unusedSimpArgs false
attribute [-simp] List.getD_eq_getElem?_getD
section
variable {X : Cx} {Q : Post} {fr : Fr} {ds : List Deferred} {G : Hp} {ops : Array Oper} {o : Oper} {rest : List Oper} {d : Nat}
theorem R.addS {t u : TypeId} {x y : Operand} {m n : ByteArray} (h : At X ops fr o (.binOp .add t x y u) d) (hx : evO fr x = some (.string m)) (hy : evO fr y = some (.string n)) (hz : m.size + n.size ≤ 9223372036854775807)
  (K : GOps X ops Q rest ((d, .string (m ++ n)) :: fr) ds G) : GOps X ops Q (o :: rest) fr ds G :=
 R.bin h hx hy (fun w _ => by rw [Sem.run_bind, run_guard_string]; simp [binOp, Op.stringOp]; omega) K
end
def kV (s : ByteArray) : Sl := ⟨s, zTm⟩
def kH : ByteArray := ⟨#[104, 116, 116, 112, 58, 47, 47]⟩
def pS (s : ByteArray) : Sl := ⟨ByteArray.empty, ⟨1, kH ++ s, ByteArray.empty⟩⟩
def c1 (n : UInt8) : ByteArray := ⟨#[n]⟩
def k1 : Lt := ⟨1, ⟨kV (c1 121), pS (c1 113), kV (c1 120)⟩, zSl, zSl⟩
def k2 : Lt := ⟨4, zPt, kV (c1 120), kV (c1 121)⟩
def k3 : Lt := ⟨1, ⟨kV (c1 120), pS (c1 114), kV (c1 122)⟩, zSl, zSl⟩
def k13 : Rl := ⟨⟨kV (c1 120), pS (c1 112), kV (c1 121)⟩, [k1, k2, k3]⟩
theorem k_slV (n : UInt8) : SlOk (kV (c1 n)) := ⟨by show 1 ≤ 1048576; decide, Nat.zero_le _, Nat.zero_le _⟩
theorem k_slP (n : UInt8) : SlOk (pS (c1 n)) := ⟨Nat.zero_le _, by show (kH ++ c1 n).size ≤ 1048576; rw [ByteArray.size_append]; exact Nat.le_of_ble_eq_true rfl, Nat.zero_le _⟩
theorem z_sl : SlOk zSl := ⟨Nat.zero_le _, Nat.zero_le _, Nat.zero_le _⟩
theorem k13_ok : RlOk k13 := ⟨⟨k_slV _, k_slP _, k_slV _⟩, fun l hl => by
 simp only [k13, List.mem_cons, List.not_mem_nil, or_false] at hl
 rcases hl with rfl | rfl | rfl
 ·exact ⟨⟨k_slV _, k_slP _, k_slV _⟩, z_sl, z_sl⟩
 ·exact ⟨⟨z_sl, z_sl, z_sl⟩, k_slV _, k_slV _⟩
 ·exact ⟨⟨k_slV _, k_slP _, k_slV _⟩, z_sl, z_sl⟩⟩
def k13B : Bool := match planRule 100 [] k13 [] [] with
 | ⟨_, [s0, s1, s2], 3, 0, _⟩ => decide (s0.kind = 1) && (decide (s1.kind = 4) && decide (s2.row.p1.id = 3))
 | _ => false
theorem k13B_true : k13B = true := by decide +kernel
theorem k13_plan : ∃ h s0 s1 s2 ts', planRule 100 [] k13 [] [] = ⟨h, [s0, s1, s2], 3, 0, ts'⟩ ∧ s0.kind = 1 ∧ s1.kind = 4 ∧ s2.row.p1.id = 3 := by
 have h := k13B_true
 unfold k13B at h
 split at h
 ·rename_i hh s0 s1 s2 ts' e
  simp only [Bool.and_eq_true, decide_eq_true_eq] at h
  exact ⟨hh, s0, s1, s2, ts', e, h.1, h.2.1, h.2.2⟩
 ·cases h
theorem sorted_hS (w0 : World) : ∀ (b1 : Nat) (G0 : Hp), (b1, Know.exact (.cells #[.slice none ([] : List Int).length 0] 32 (0, 0))) ∈ G0 → IntsAt w0 G0 none ([] : List Int) → GC Tryz.prog w0 57 #[.func (.func 89) #[] #[.pointer (some ⟨b1, 0, none⟩)]] (fun v G' => ∃ H, SlAt 1 3 (zC ([] : List Int)) ([] : List Int).length v H ∧ H ++ G0 = G') G0 := fun b1 G0 hm _ =>
 (sorted_0 w0 G0 b1 hm).mono (by rintro v G' ⟨rfl, rfl⟩; exact ⟨[], .nil rfl rfl, rfl⟩)
theorem plan_Rule0 (w0 : World) (G : Hp) (HD : Hp) (ts : List Tm) (lim bD : Nat) (hD : Dic ts lim bD HD) (r : Rl) (bA : Option Addr) (bc : Nat) (hl : LtsAt w0 G bA r.body) (hbl : r.body.length ≤ 1000) (hok : RlOk r) :
  GC Tryz.prog w0 10 #[.pointer (some ⟨bD, 0, none⟩), .agg (RlC r.head (.slice bA r.body.length bc)).toArray, .slice none 0 0] (fun v G' => ∃ vs Ho HD', (v = .tuple #[.agg (planC (planRule lim ts r [] []).head vs (planRule lim ts r [] []).vars).toArray, .int .i64 (planRule lim ts r [] []).e] ∧ SlAt 11 50 (stsC (planRule lim ts r [] []).steps) (planRule lim ts r [] []).steps.length vs Ho ∧ Dic (planRule lim ts r [] []).ts lim bD HD') ∧ HD' ++ (Ho ++ G) = G') (HD ++ G) :=
 plan_Rule w0 G HD ts lim bD hD r bA bc hl hbl hok none [] [] 0 (fun i x h => by simp at h) (by simp) (by simp) (by simp) (sorted_hS w0)
theorem k13_lts {w0 : World} {G : Hp} {b : Nat} (h : (b, Know.exact (.cells (LtC k1 ++ (LtC k2 ++ LtC k3)).toArray 89 (0, 0))) ∈ G) : LtsAt w0 G (some ⟨b, 0, none⟩) k13.body := by
 intro i x hx
 rcases i with _ | _ | _ | i
 ·have : k1 = x := by simpa [k13] using hx
  subst this
  exact ⟨b, 0, _, rfl, rfl, fun j v hv => .own' h (by rw [List.getElem?_toArray, show 0 + 0 * 21 + j = j by omega, List.getElem?_append_left (List.getElem?_eq_some_iff.1 hv).1]; exact hv)⟩
 ·have : k2 = x := by simpa [k13] using hx
  subst this
  exact ⟨b, 0, _, rfl, rfl, fun j v hv => .own' h (by rw [List.getElem?_toArray, show 0 + (0 + 1) * 21 + j = 21 + j by omega, List.getElem?_append_right (by show 21 ≤ _; omega), show 21 + j - (LtC k1).length = j by show 21 + j - 21 = j; omega, List.getElem?_append_left (List.getElem?_eq_some_iff.1 hv).1]; exact hv)⟩
 ·have : k3 = x := by simpa [k13] using hx
  subst this
  exact ⟨b, 0, _, rfl, rfl, fun j v hv => .own' h (by rw [List.getElem?_toArray, show 0 + (0 + 1 + 1) * 21 + j = 42 + j by omega, List.getElem?_append_right (by show 21 ≤ _; omega), show 42 + j - (LtC k1).length = 21 + j by show 42 + j - 21 = 21 + j; omega, List.getElem?_append_right (by show 21 ≤ _; omega), show 21 + j - (LtC k2).length = j by show 21 + j - 21 = j; omega]; exact hv)⟩
 ·simp [k13] at hx
theorem known_plan (w0 : World) (G : Hp) (HD : Hp) (bD b37 : Nat) (hD : Dic [] 100 bD HD) (hb : (b37, Know.exact (.cells (LtC k1 ++ (LtC k2 ++ LtC k3)).toArray 89 (0, 0))) ∈ G) :
  GC Tryz.prog w0 10 #[.pointer (some ⟨bD, 0, none⟩), .agg (RlC k13.head (.slice (some ⟨b37, 0, none⟩) 3 3)).toArray, .slice none 0 0] (fun v G' => ∃ h s0 s1 s2 bs cap HD', (v = .tuple #[.agg (planC h (.slice (some ⟨bs, 0, none⟩) 3 cap) 3).toArray, .int .i64 0] ∧ s0.kind = 1 ∧ s1.kind = 4 ∧ s2.row.p1.id = 3) ∧ HD' ++ ((bs, .row (stsC [s0, s1, s2]) 50 (cap * 11)) :: G) = G') (HD ++ G) := by
 refine (plan_Rule0 w0 G HD [] 100 bD hD k13 (some ⟨b37, 0, none⟩) 3 (k13_lts hb) (by decide) k13_ok).mono ?_
 rintro v G' ⟨vs, Ho, HD', ⟨rfl, hS, hD'⟩, rfl⟩
 obtain ⟨h, s0, s1, s2, ts', e, e0, e1, e2⟩ := k13_plan
 rw [e] at hS ⊢
 obtain ⟨bs, cap, rfl, rfl, _⟩ := hS.row_of (Nat.succ_pos 2)
 exact ⟨h, s0, s1, s2, bs, cap, HD', ⟨rfl, e0, e1, e2⟩, rfl⟩
theorem known_end (x p q : Nat × Know) (D G : Hp) : Hs (x :: (D ++ (p :: q :: G))) G := Hs.sub ((((List.Sublist.refl G).cons q).cons p |>.trans (List.sublist_append_right D _)).cons x)
theorem known1 (w0 : World) (G : Hp) (s : ByteArray) : GC Tryz.prog w0 27 #[.string s] (fun v G' => v = .agg (SlC (kV s)).toArray ∧ G = G') G := by
 refine GC.body (args := [.string s]) Tryz.func27 rfl (by kernel_rfl) rfl ?_
 refine GW.seq ?_
 refine GW.region ?_
 refine R.alloc ⟨rfl, rfl, rfl, rfl⟩ Tryz.zeroValue26 fun b2 => ?_
 refine GOps.nil ?_
 refine GW.seq ?_
 refine GW.region ?_
 refine R.move ⟨rfl, rfl, rfl, rfl⟩ rfl ?_
 refine R.build (vs := [(0, _)]) (cells := (SlC (kV s)).toArray) ⟨rfl, rfl, rfl, rfl⟩ rfl (fun w => run_build w 26 _ _ (by kernel_rfl)) ?_
 refine R.storeAll (G1 := []) rfl rfl rfl rfl rfl Tryz.sizeOf26 rfl rfl rfl rfl ?_
 refine GOps.nil ?_
 exact GW.ret (Out.of (resCellA rfl rfl Tryz.underlying26 rfl Tryz.sizeOf26 (Rds.own (C := (SlC (kV s)).toArray) List.mem_cons_self 0 (SlC (kV s)) (fun j v hv => by simpa using hv)) rfl) (Hs.tl _) ⟨rfl, rfl⟩)
theorem known2 (w0 : World) (G : Hp) (s : ByteArray) (hs : s.size ≤ 1000) : GC Tryz.prog w0 28 #[.string s] (fun v G' => v = .agg (SlC (pS s)).toArray ∧ G = G') G := by
 refine GC.body (args := [.string s]) Tryz.func28 rfl (by kernel_rfl) rfl ?_
 refine GW.seq ?_
 refine GW.region ?_
 refine R.alloc ⟨rfl, rfl, rfl, rfl⟩ Tryz.zeroValue26 fun b2 => ?_
 refine GOps.nil ?_
 refine GW.seq ?_
 refine GW.region ?_
 refine R.move ⟨rfl, rfl, rfl, rfl⟩ rfl ?_
 refine R.addS ⟨rfl, rfl, rfl, rfl⟩ rfl rfl (by show 7 + s.size ≤ _; omega) ?_
 refine R.build (vs := [(0, _), (1, _)]) (cells := (TmC (pS s).t).toArray) ⟨rfl, rfl, rfl, rfl⟩ rfl (fun w => run_build w 24 _ _ (by kernel_rfl)) ?_
 refine R.build (vs := [(1, _)]) (cells := (SlC (pS s)).toArray) ⟨rfl, rfl, rfl, rfl⟩ rfl (fun w => run_build w 26 _ _ (by kernel_rfl)) ?_
 refine R.storeAll (G1 := []) rfl rfl rfl rfl rfl Tryz.sizeOf26 rfl rfl rfl rfl ?_
 refine GOps.nil ?_
 exact GW.ret (Out.of (resCellA rfl rfl Tryz.underlying26 rfl Tryz.sizeOf26 (Rds.own (C := (SlC (pS s)).toArray) List.mem_cons_self 0 (SlC (pS s)) (fun j v hv => by simpa using hv)) rfl) (Hs.tl _) ⟨rfl, rfl⟩)
theorem law_known (w0 : World) (G : Hp) : GC Tryz.prog w0 9 #[] (fun v G' => v = .bool true ∧ G = G') G := by
 refine GC.body (args := []) Tryz.func9 rfl (by kernel_rfl) rfl ?_
 refine GW.seq ?_
 refine GW.region ?_
 refine R.assign ⟨rfl, rfl, rfl, rfl⟩ rfl ?_
 refine GOps.nil ?_
 refine GW.seq ?_
 refine GW.region ?_
 refine R.call ⟨rfl, rfl, rfl, rfl⟩ rfl (vs := [_]) rfl ((dict_New _ _ 100 (by decide)).mono ?_)
 rintro _ _ ⟨bD, HD, ⟨rfl, hD⟩, rfl⟩
 refine R.assign ⟨rfl, rfl, rfl, rfl⟩ rfl ?_
 refine GOps.nil ?_
 refine GW.seq ?_
 refine GW.region ?_
 refine R.assign ⟨rfl, rfl, rfl, rfl⟩ rfl ?_
 refine GOps.nil ?_
 refine GW.seq ?_
 refine GW.region ?_
 refine R.assign ⟨rfl, rfl, rfl, rfl⟩ rfl ?_
 refine GOps.nil ?_
 refine GW.seq ?_
 refine GW.region ?_
 refine R.move ⟨rfl, rfl, rfl, rfl⟩ rfl ?_
 refine R.move ⟨rfl, rfl, rfl, rfl⟩ rfl ?_
 refine R.call ⟨rfl, rfl, rfl, rfl⟩ rfl (vs := [_]) rfl ((known1 _ _ (c1 120)).mono ?_)
 rintro _ _ ⟨rfl, rfl⟩
 refine R.move ⟨rfl, rfl, rfl, rfl⟩ rfl ?_
 refine R.call ⟨rfl, rfl, rfl, rfl⟩ rfl (vs := [_]) rfl ((known2 _ _ (c1 112) (by decide)).mono ?_)
 rintro _ _ ⟨rfl, rfl⟩
 refine R.move ⟨rfl, rfl, rfl, rfl⟩ rfl ?_
 refine R.call ⟨rfl, rfl, rfl, rfl⟩ rfl (vs := [_]) rfl ((known1 _ _ (c1 121)).mono ?_)
 rintro _ _ ⟨rfl, rfl⟩
 refine R.build (vs := [(0, _), (1, _), (2, _)]) (cells := (PtC k13.head).toArray) ⟨rfl, rfl, rfl, rfl⟩ rfl (fun w => run_build w 28 _ _ (by kernel_rfl)) ?_
 refine R.move ⟨rfl, rfl, rfl, rfl⟩ rfl ?_
 refine R.call ⟨rfl, rfl, rfl, rfl⟩ rfl (vs := [_]) rfl ((known1 _ _ (c1 121)).mono ?_)
 rintro _ _ ⟨rfl, rfl⟩
 refine R.move ⟨rfl, rfl, rfl, rfl⟩ rfl ?_
 refine R.call ⟨rfl, rfl, rfl, rfl⟩ rfl (vs := [_]) rfl ((known2 _ _ (c1 113) (by decide)).mono ?_)
 rintro _ _ ⟨rfl, rfl⟩
 refine R.move ⟨rfl, rfl, rfl, rfl⟩ rfl ?_
 refine R.call ⟨rfl, rfl, rfl, rfl⟩ rfl (vs := [_]) rfl ((known1 _ _ (c1 120)).mono ?_)
 rintro _ _ ⟨rfl, rfl⟩
 refine R.build (vs := [(0, _), (1, _), (2, _)]) (cells := (PtC k1.pat).toArray) ⟨rfl, rfl, rfl, rfl⟩ rfl (fun w => run_build w 28 _ _ (by kernel_rfl)) ?_
 refine R.build (vs := [(0, _), (1, _)]) (cells := (LtC k1).toArray) ⟨rfl, rfl, rfl, rfl⟩ rfl (fun w => run_build w 89 _ _ (by kernel_rfl)) ?_
 refine R.move ⟨rfl, rfl, rfl, rfl⟩ rfl ?_
 refine R.call ⟨rfl, rfl, rfl, rfl⟩ rfl (vs := [_]) rfl ((known1 _ _ (c1 120)).mono ?_)
 rintro _ _ ⟨rfl, rfl⟩
 refine R.move ⟨rfl, rfl, rfl, rfl⟩ rfl ?_
 refine R.call ⟨rfl, rfl, rfl, rfl⟩ rfl (vs := [_]) rfl ((known1 _ _ (c1 121)).mono ?_)
 rintro _ _ ⟨rfl, rfl⟩
 refine R.build (vs := [(0, _), (2, _), (3, _)]) (cells := (LtC k2).toArray) ⟨rfl, rfl, rfl, rfl⟩ rfl (fun w => run_build w 89 _ _ (by kernel_rfl)) ?_
 refine R.move ⟨rfl, rfl, rfl, rfl⟩ rfl ?_
 refine R.call ⟨rfl, rfl, rfl, rfl⟩ rfl (vs := [_]) rfl ((known1 _ _ (c1 120)).mono ?_)
 rintro _ _ ⟨rfl, rfl⟩
 refine R.move ⟨rfl, rfl, rfl, rfl⟩ rfl ?_
 refine R.call ⟨rfl, rfl, rfl, rfl⟩ rfl (vs := [_]) rfl ((known2 _ _ (c1 114) (by decide)).mono ?_)
 rintro _ _ ⟨rfl, rfl⟩
 refine R.move ⟨rfl, rfl, rfl, rfl⟩ rfl ?_
 refine R.call ⟨rfl, rfl, rfl, rfl⟩ rfl (vs := [_]) rfl ((known1 _ _ (c1 122)).mono ?_)
 rintro _ _ ⟨rfl, rfl⟩
 refine R.build (vs := [(0, _), (1, _), (2, _)]) (cells := (PtC k3.pat).toArray) ⟨rfl, rfl, rfl, rfl⟩ rfl (fun w => run_build w 28 _ _ (by kernel_rfl)) ?_
 refine R.build (vs := [(0, _), (1, _)]) (cells := (LtC k3).toArray) ⟨rfl, rfl, rfl, rfl⟩ rfl (fun w => run_build w 89 _ _ (by kernel_rfl)) ?_
 refine R.buildSliceF (sz := 21) (bytes := 288) (vs := [_, _, _]) (cs := LtC k1 ++ (LtC k2 ++ LtC k3)) ⟨rfl, rfl, rfl, rfl⟩ rfl Tryz.underlying29 (InfoE.mk (by kernel_rfl)) rfl rfl rfl rfl rfl fun b37 => ?_
 refine R.build (vs := [(0, _), (1, _)]) (cells := (RlC k13.head (.slice (some ⟨b37, 0, none⟩) 3 3)).toArray) ⟨rfl, rfl, rfl, rfl⟩ rfl (fun w => run_build w 31 _ _ (by kernel_rfl)) ?_
 refine GOps.weak (Keeps.refl _) (Hs.perm (pm1 _ _ _)) ?_
 refine R.call ⟨rfl, rfl, rfl, rfl⟩ rfl (vs := [_, _, _]) rfl ((known_plan _ _ HD bD b37 hD List.mem_cons_self).mono ?_)
 rintro _ _ ⟨h, s0, s1, s2, bs, cap, HD2, ⟨rfl, e0, e1, e2⟩, rfl⟩
 refine R.move ⟨rfl, rfl, rfl, rfl⟩ rfl ?_
 refine R.extract ⟨rfl, rfl, rfl, rfl⟩ rfl rfl ?_
 refine R.extract ⟨rfl, rfl, rfl, rfl⟩ rfl rfl ?_
 refine R.alloc ⟨rfl, rfl, rfl, rfl⟩ Tryz.zeroValue41 fun b4 => ?_
 refine R.storeAll (G1 := []) rfl rfl rfl rfl rfl Tryz.sizeOf41 rfl rfl rfl rfl ?_
 refine R.assign ⟨rfl, rfl, rfl, rfl⟩ rfl ?_
 refine GOps.nil ?_
 refine GW.seq ?_
 refine GW.region ?_
 refine R.move ⟨rfl, rfl, rfl, rfl⟩ rfl ?_
 refine R.eqI ⟨rfl, rfl, rfl, rfl⟩ rfl rfl ?_
 refine R.move ⟨rfl, rfl, rfl, rfl⟩ rfl ?_
 refine R.fieldAddr ⟨rfl, rfl, rfl, rfl⟩ rfl Tryz.underlying41 rfl Tryz.sizeOf3 ?_   -- "Vars"
 refine R.load1 ⟨rfl, rfl, rfl, rfl⟩ rfl Tryz.underlying3 rfl (.own' memG (by rfl)) ?_
 refine R.eqI ⟨rfl, rfl, rfl, rfl⟩ rfl rfl ?_
 refine R.pick_t ⟨rfl, rfl, rfl, rfl⟩ rfl rfl ?_
 refine R.move ⟨rfl, rfl, rfl, rfl⟩ rfl ?_
 refine R.fieldAddr ⟨rfl, rfl, rfl, rfl⟩ rfl Tryz.underlying41 rfl Tryz.sizeOf39 ?_   -- "Steps"
 refine R.load1 ⟨rfl, rfl, rfl, rfl⟩ rfl Tryz.underlying39 rfl (.own' memG (by rfl)) ?_
 refine R.lenS ⟨rfl, rfl, rfl, rfl⟩ rfl rfl Tryz.underlying39 ?_
 refine R.eqI ⟨rfl, rfl, rfl, rfl⟩ rfl rfl ?_
 refine R.pick_t ⟨rfl, rfl, rfl, rfl⟩ rfl rfl ?_
 refine R.move ⟨rfl, rfl, rfl, rfl⟩ rfl ?_
 refine R.fieldAddr ⟨rfl, rfl, rfl, rfl⟩ rfl Tryz.underlying41 rfl Tryz.sizeOf39 ?_   -- "Steps"
 refine R.load1 ⟨rfl, rfl, rfl, rfl⟩ rfl Tryz.underlying39 rfl (.own' memG (by rfl)) ?_
 refine R.indexAddrS ⟨rfl, rfl, rfl, rfl⟩ rfl rfl Tryz.underlying39 Tryz.sizeOf50 (by omega) (by omega) ?_
 refine R.fieldAddr ⟨rfl, rfl, rfl, rfl⟩ rfl Tryz.underlying50 rfl Tryz.sizeOf48 ?_   -- "Kind"
 refine R.load1 ⟨rfl, rfl, rfl, rfl⟩ rfl Tryz.underlying48 rfl (st_load (ss := [s0, s1, s2]) (i := 0) (by repeat (first | exact List.mem_cons_self | apply List.mem_cons_of_mem | apply List.mem_append_right | exact List.mem_append_left _ List.mem_cons_self)) rfl 0 _ rfl) ?_
 refine R.eqI ⟨rfl, rfl, rfl, rfl⟩ rfl rfl ?_
 refine R.pick_t ⟨rfl, rfl, rfl, rfl⟩ rfl rfl ?_
 refine R.move ⟨rfl, rfl, rfl, rfl⟩ rfl ?_
 refine GOps.caseB 63 rfl (fun hg1 => ?_) (fun hg1 => ?_)
 ·try simp only [dcQ] at hg1
  refine R.fieldAddr ⟨rfl, rfl, rfl, rfl⟩ rfl Tryz.underlying41 rfl Tryz.sizeOf39 ?_   -- "Steps"
  refine R.load1 ⟨rfl, rfl, rfl, rfl⟩ rfl Tryz.underlying39 rfl (.own' memG (by rfl)) ?_
  refine R.indexAddrS ⟨rfl, rfl, rfl, rfl⟩ rfl rfl Tryz.underlying39 Tryz.sizeOf50 (by omega) (by omega) ?_
  refine R.fieldAddr ⟨rfl, rfl, rfl, rfl⟩ rfl Tryz.underlying50 rfl Tryz.sizeOf48 ?_   -- "Kind"
  refine R.load1 ⟨rfl, rfl, rfl, rfl⟩ rfl Tryz.underlying48 rfl (st_load (ss := [s0, s1, s2]) (i := 1) (by repeat (first | exact List.mem_cons_self | apply List.mem_cons_of_mem | apply List.mem_append_right | exact List.mem_append_left _ List.mem_cons_self)) rfl 0 _ rfl) ?_
  refine R.eqI ⟨rfl, rfl, rfl, rfl⟩ rfl rfl ?_
  refine R.pick_t ⟨rfl, rfl, rfl, rfl⟩ rfl rfl ?_
  refine R.move ⟨rfl, rfl, rfl, rfl⟩ rfl ?_
  refine GOps.caseB 71 rfl (fun hg2 => ?_) (fun hg2 => ?_)
  ·try simp only [dcQ] at hg2
   refine R.fieldAddr ⟨rfl, rfl, rfl, rfl⟩ rfl Tryz.underlying41 rfl Tryz.sizeOf39 ?_   -- "Steps"
   refine R.load1 ⟨rfl, rfl, rfl, rfl⟩ rfl Tryz.underlying39 rfl (.own' memG (by rfl)) ?_
   refine R.indexAddrS ⟨rfl, rfl, rfl, rfl⟩ rfl rfl Tryz.underlying39 Tryz.sizeOf50 (by omega) (by omega) ?_
   refine R.fieldAddr ⟨rfl, rfl, rfl, rfl⟩ rfl Tryz.underlying50 rfl Tryz.sizeOf38 ?_   -- "Row"
   refine R.indexAddrA ⟨rfl, rfl, rfl, rfl⟩ rfl rfl Tryz.underlying38 Tryz.sizeOf37 (by omega) (by omega) ?_
   refine R.fieldAddr ⟨rfl, rfl, rfl, rfl⟩ rfl Tryz.underlying37 rfl Tryz.sizeOf35 ?_   -- "ID"
   refine R.load1 ⟨rfl, rfl, rfl, rfl⟩ rfl Tryz.underlying35 rfl (st_load (ss := [s0, s1, s2]) (i := 2) (by repeat (first | exact List.mem_cons_self | apply List.mem_cons_of_mem | apply List.mem_append_right | exact List.mem_append_left _ List.mem_cons_self)) rfl 4 _ rfl) ?_
   refine R.eqI ⟨rfl, rfl, rfl, rfl⟩ rfl rfl ?_
   refine R.pick_t ⟨rfl, rfl, rfl, rfl⟩ rfl rfl ?_
   refine R.assign ⟨rfl, rfl, rfl, rfl⟩ rfl ?_
   refine GOps.nil ?_
   refine GW.ret (Out.of (Res.one rfl rfl) (known_end _ _ _ _ _) ⟨?_, rfl⟩)
   first | (rw [e2]; rfl) | (exfalso; omega) | (exfalso; simp_all; done)
  ·try simp only [dcQ] at hg2
   refine GOps.skip rfl rfl rfl ?_
   refine GOps.skip rfl rfl rfl ?_
   refine GOps.skip rfl rfl rfl ?_
   refine GOps.skip rfl rfl rfl ?_
   refine GOps.skip rfl rfl rfl ?_
   refine GOps.skip rfl rfl rfl ?_
   refine GOps.skip rfl rfl rfl ?_
   refine GOps.skip rfl rfl rfl ?_
   refine R.pick_f ⟨rfl, rfl, rfl, rfl⟩ rfl rfl ?_
   refine R.assign ⟨rfl, rfl, rfl, rfl⟩ rfl ?_
   refine GOps.nil ?_
   refine GW.ret (Out.of (Res.one rfl rfl) (known_end _ _ _ _ _) ⟨?_, rfl⟩)
   first | (rw [e2]; rfl) | (exfalso; omega) | (exfalso; simp_all; done)
 ·try simp only [dcQ] at hg1
  refine GOps.skip rfl rfl rfl ?_
  refine GOps.skip rfl rfl rfl ?_
  refine GOps.skip rfl rfl rfl ?_
  refine GOps.skip rfl rfl rfl ?_
  refine GOps.skip rfl rfl rfl ?_
  refine GOps.skip rfl rfl rfl ?_
  refine R.pick_f ⟨rfl, rfl, rfl, rfl⟩ rfl rfl ?_
  refine R.move ⟨rfl, rfl, rfl, rfl⟩ rfl ?_
  refine GOps.skip rfl rfl rfl ?_
  refine GOps.skip rfl rfl rfl ?_
  refine GOps.skip rfl rfl rfl ?_
  refine GOps.skip rfl rfl rfl ?_
  refine GOps.skip rfl rfl rfl ?_
  refine GOps.skip rfl rfl rfl ?_
  refine GOps.skip rfl rfl rfl ?_
  refine GOps.skip rfl rfl rfl ?_
  refine R.pick_f ⟨rfl, rfl, rfl, rfl⟩ rfl rfl ?_
  refine R.assign ⟨rfl, rfl, rfl, rfl⟩ rfl ?_
  refine GOps.nil ?_
  refine GW.ret (Out.of (Res.one rfl rfl) (known_end _ _ _ _ _) ⟨?_, rfl⟩)
  first | (rw [e2]; rfl) | (exfalso; omega) | (exfalso; simp_all; done)
end Go.Proofs.YtfddkcmooommeaaGreatDoor.Gl
end
section
namespace Go.Proofs.YtfddkcmooommeaaGreatDoor.Gl
open Go.RowKit Go.Shelf
set_option linter.unusedVariables false
set_option linter.unnecessarySimpa false
set_option linter.unusedSimpArgs false
section
variable {H : Type} {enc : TypeId × Value → H} {P : Program} {w : World} {base : Nat} {spare : Nat → Bool} {held : Bool} {fuel : Nat} {t : TypeId} {cs : List Value} {x : DataW H × List MemPlace}
theorem trod_string (hu : P.underlying t = some .string) (h : DataW.trod enc P w base spare held fuel t cs = some x) : ∃ s : ByteArray, cs = [.string s] ∧ x.1 = .lit (.string s.data.toList) := by
 cases fuel with
 | zero => simp [DataW.trod] at h
 | succ fuel =>
  simp only [DataW.trod, hu] at h
  split at h <;> first | contradiction | skip
  all_goals simp_all
  all_goals first | (obtain ⟨_, rfl⟩ := h; rfl) | skip
theorem trod_int {k : IntKind} (hu : P.underlying t = some (.int k)) (h : DataW.trod enc P w base spare held fuel t cs = some x) : ∃ n : Int, cs = [.int k n] ∧ x.1 = .lit (.int k n) := by
 cases fuel with
 | zero => simp [DataW.trod] at h
 | succ fuel =>
  simp only [DataW.trod, hu] at h
  split at h <;> first | contradiction | skip
  all_goals simp_all
  all_goals first | (obtain ⟨_, rfl⟩ := h; rfl) | skip
theorem trod_struct {fs : Array Field} (hu : P.underlying t = some (.struct fs)) (h : DataW.trod enc P w base spare held fuel t cs = some x) : cs.length = P.cellsOf t ∧ ∃ (fuel' : Nat) (xs : List (DataW H × List MemPlace)), (fs.toList.mapM fun f => DataW.trod enc P w base spare held fuel' f.type ((cs.drop f.offset).take (P.cellsOf f.type))) = some xs ∧ x.1 = .agg (xs.map (·.1)) := by
 cases fuel with
 | zero => simp [DataW.trod] at h
 | succ fuel =>
  simp only [DataW.trod, hu] at h
  split at h <;> first | contradiction | skip
  all_goals simp_all
  all_goals (obtain ⟨xs, h2, h3⟩ := h; exact ⟨fuel, xs, h2, by rw [← h3]⟩)
theorem trod_array {n : Nat} {e : TypeId} (hu : P.underlying t = some (.array n e)) (h : DataW.trod enc P w base spare held fuel t cs = some x) : cs.length = P.cellsOf t ∧ ∃ (fuel' : Nat) (xs : List (DataW H × List MemPlace)), ((List.range n).mapM fun i => DataW.trod enc P w base spare held fuel' e ((cs.drop (i * P.cellsOf e)).take (P.cellsOf e))) = some xs ∧ x.1 = .agg (xs.map (·.1)) := by
 cases fuel with
 | zero => simp [DataW.trod] at h
 | succ fuel =>
  simp only [DataW.trod, hu] at h
  split at h <;> first | contradiction | skip
  all_goals simp_all
  all_goals (obtain ⟨xs, h2, h3⟩ := h; exact ⟨fuel, xs, h2, by rw [← h3]⟩)
theorem seg_app (cs : List Value) (o n m : Nat) : (cs.drop o).take (n + m) = (cs.drop o).take n ++ (cs.drop (o + n)).take m := by
 rw [List.take_add, List.drop_drop]
end
section
open _root_.Go.Proofs.YtfddkcmooommeaaGreatDoor.Rows
variable {H : Type} {enc : TypeId × Value → H} {w : World} {base : Nat} {spare : Nat → Bool} {held : Bool} {fuel : Nat} {cs : List Value} {x : DataW H × List MemPlace}
theorem c9 : Tryz.prog.cellsOf 9 = 1 := by kernel_rfl
theorem c33 : Tryz.prog.cellsOf 22 = 1 := by kernel_rfl
theorem c35 : Tryz.prog.cellsOf 24 = 3 := by kernel_rfl
theorem c37 : Tryz.prog.cellsOf 26 = 4 := by kernel_rfl
theorem c40 : Tryz.prog.cellsOf 28 = 12 := by kernel_rfl
theorem c41 : Tryz.prog.cellsOf 87 = 1 := by kernel_rfl
theorem c43 : Tryz.prog.cellsOf 89 = 21 := by kernel_rfl
theorem c44 : Tryz.prog.cellsOf 29 = 1 := by kernel_rfl
theorem c46 : Tryz.prog.cellsOf 31 = 13 := by kernel_rfl
theorem trod_Tm (h : DataW.trod enc Tryz.prog w base spare held fuel 24 cs = some x) : ∃ t : Tm, cs = TmC t ∧ t.text.size ≤ uptoBulk x.1 ∧ t.ext.size ≤ uptoBulk x.1 := by
 obtain ⟨hl, f', xs, hm, hx⟩ := trod_struct Tryz.underlying24 h
 rw [c35] at hl
 simp only [List.mapM_cons, List.mapM_nil, c33, c9, Option.bind_eq_bind, Option.bind_eq_some_iff, Option.pure_def, Option.some.injEq] at hm
 obtain ⟨a, ha, _, ⟨b, hb, _, ⟨c, hc, _, rfl, rfl⟩, rfl⟩, rfl⟩ := hm
 obtain ⟨n, e1, d1⟩ := trod_int Tryz.underlying22 ha
 obtain ⟨s, e2, d2⟩ := trod_string Tryz.underlying9 hb
 obtain ⟨u, e3, d3⟩ := trod_string Tryz.underlying9 hc
 refine ⟨⟨n, s, u⟩, ?_, ?_, ?_⟩
 ·have e : cs = (cs.drop 0).take (1 + (1 + 1)) := by rw [List.drop_zero, List.take_of_length_le (by omega)]
  rw [e, seg_app, seg_app, e1, e2, e3]
  rfl
 ·rw [hx]
  simp [uptoBulk, uptoBulkAll, d1, d2, d3]
  have : s.data.size = s.size := rfl
  omega
 ·rw [hx]
  simp [uptoBulk, uptoBulkAll, d1, d2, d3]
  have : u.data.size = u.size := rfl
  omega
theorem bulk_agg (ps : List (DataW H)) : uptoBulk (.agg ps) = uptoBulkAll ps + 1 := by simp [uptoBulk]
theorem bulk_mem : ∀ (ps : List (DataW H)) (d : DataW H), d ∈ ps → uptoBulk d ≤ uptoBulkAll ps
 | [], d, h => by simp at h
 | p :: ps, d, h => by
  simp only [uptoBulkAll]
  rcases List.mem_cons.1 h with rfl | h
  ·omega
  ·have := bulk_mem ps d h; omega
theorem bulk_pos (d : DataW H) : 1 ≤ uptoBulk d := by
 cases d with
 | lit l => cases l <;> simp [uptoBulk]
 | _ => simp [uptoBulk]
theorem bulk_len : ∀ (ps : List (DataW H)), ps.length ≤ uptoBulkAll ps
 | [] => by simp [uptoBulkAll]
 | p :: ps => by have := bulk_len ps; have := bulk_pos p; simp only [uptoBulkAll, List.length_cons]; omega
theorem trod_Sl (hb : uptoBulk x.1 ≤ 1048576) (h : DataW.trod enc Tryz.prog w base spare held fuel 26 cs = some x) : ∃ s : Sl, cs = SlC s ∧ SlOk s := by
 obtain ⟨hl, f', xs, hm, hx⟩ := trod_struct Tryz.underlying26 h
 rw [c37] at hl
 simp only [List.mapM_cons, List.mapM_nil, c35, c9, Option.bind_eq_bind, Option.bind_eq_some_iff, Option.pure_def, Option.some.injEq] at hm
 obtain ⟨a, ha, _, ⟨b, hb2, _, rfl, rfl⟩, rfl⟩ := hm
 obtain ⟨s, e1, d1⟩ := trod_string Tryz.underlying9 ha
 obtain ⟨t, e2, b1, b2⟩ := trod_Tm hb2
 rw [hx, bulk_agg] at hb
 have m1 := bulk_mem (List.map (fun x => x.1) [a, b]) a.1 (by simp)
 have m2 := bulk_mem (List.map (fun x => x.1) [a, b]) b.1 (by simp)
 refine ⟨⟨s, t⟩, ?_, ?_, by simp only; omega, by simp only; omega⟩
 ·have e : cs = (cs.drop 0).take (1 + 3) := by rw [List.drop_zero, List.take_of_length_le (by omega)]
  rw [e, seg_app, e1, e2]
  rfl
 ·rw [d1] at m1
  simp only [uptoBulk] at m1
  have : s.data.toList.length = s.size := by rw [Array.length_toList]; rfl
  simp only
  omega
theorem trod_Pt (hb : uptoBulk x.1 ≤ 1048576) (h : DataW.trod enc Tryz.prog w base spare held fuel 28 cs = some x) : ∃ p : Pt, cs = PtC p ∧ PtOk p := by
 obtain ⟨hl, f', xs, hm, hx⟩ := trod_array Tryz.underlying28 h
 rw [c40] at hl
 rw [range3] at hm
 simp only [List.mapM_cons, List.mapM_nil, c37, Option.bind_eq_bind, Option.bind_eq_some_iff, Option.pure_def, Option.some.injEq] at hm
 obtain ⟨a, ha, _, ⟨b, hb2, _, ⟨c, hc, _, rfl, rfl⟩, rfl⟩, rfl⟩ := hm
 rw [hx, bulk_agg] at hb
 have m1 := bulk_mem (List.map (fun x => x.1) [a, b, c]) a.1 (by simp)
 have m2 := bulk_mem (List.map (fun x => x.1) [a, b, c]) b.1 (by simp)
 have m3 := bulk_mem (List.map (fun x => x.1) [a, b, c]) c.1 (by simp)
 obtain ⟨s0, e0, o0⟩ := trod_Sl (by omega) ha
 obtain ⟨s1, e1, o1⟩ := trod_Sl (by omega) hb2
 obtain ⟨s2, e2, o2⟩ := trod_Sl (by omega) hc
 refine ⟨⟨s0, s1, s2⟩, ?_, o0, o1, o2⟩
 have e : cs = (cs.drop 0).take (4 + (4 + 4)) := by rw [List.drop_zero, List.take_of_length_le (by omega)]
 rw [e, seg_app, seg_app, show cs.drop 0 = cs.drop (0 * 4) from rfl, e0, show (0 + 4) = 1 * 4 from rfl, e1, show (1 * 4 + 4) = 2 * 4 from rfl, e2]
 rfl
theorem trod_Lt (hb : uptoBulk x.1 ≤ 1048576) (h : DataW.trod enc Tryz.prog w base spare held fuel 89 cs = some x) : ∃ l : Lt, cs = LtC l ∧ LtOk l := by
 obtain ⟨hl, f', xs, hm, hx⟩ := trod_struct Tryz.underlying89 h
 rw [c43] at hl
 simp only [List.mapM_cons, List.mapM_nil, c41, c40, c37, Option.bind_eq_bind, Option.bind_eq_some_iff, Option.pure_def, Option.some.injEq] at hm
 obtain ⟨a, ha, _, ⟨b, hb2, _, ⟨c, hc, _, ⟨d, hd, _, rfl, rfl⟩, rfl⟩, rfl⟩, rfl⟩ := hm
 rw [hx, bulk_agg] at hb
 have m2 := bulk_mem (List.map (fun x => x.1) [a, b, c, d]) b.1 (by simp)
 have m3 := bulk_mem (List.map (fun x => x.1) [a, b, c, d]) c.1 (by simp)
 have m4 := bulk_mem (List.map (fun x => x.1) [a, b, c, d]) d.1 (by simp)
 obtain ⟨k, e0, d0⟩ := trod_int Tryz.underlying87 ha
 obtain ⟨p, e1, o1⟩ := trod_Pt (by omega) hb2
 obtain ⟨s, e2, o2⟩ := trod_Sl (by omega) hc
 obtain ⟨u, e3, o3⟩ := trod_Sl (by omega) hd
 refine ⟨⟨k, p, s, u⟩, ?_, o1, o2, o3⟩
 have e : cs = (cs.drop 0).take (1 + (12 + (4 + 4))) := by rw [List.drop_zero, List.take_of_length_le (by omega)]
 rw [e, seg_app, seg_app, seg_app, e0, e1, e2, e3]
 rfl
theorem list_choose {α : Type} (p : Nat → α → Prop) : ∀ n, (∀ i, i < n → ∃ a, p i a) → ∃ l : List α, l.length = n ∧ ∀ (i : Nat) a, l[i]? = some a → p i a
 | 0, _ => ⟨[], rfl, fun i a h => by simp at h⟩
 | n + 1, h => by
  obtain ⟨l, hl, hp⟩ := list_choose p n (fun i hi => h i (by omega))
  obtain ⟨a, ha⟩ := h n (by omega)
  refine ⟨l ++ [a], by simp [hl], fun i b hb => ?_⟩
  rcases Nat.lt_or_ge i l.length with hi | hi
  ·rw [List.getElem?_append_left hi] at hb
   exact hp i b hb
  ·have : i = n := by
    have := (List.getElem?_eq_some_iff.1 hb).1
    simp at this
    omega
   subst this
   rw [List.getElem?_append_right (by omega), hl, Nat.sub_self] at hb
   simp at hb
   subst hb
   exact ha
theorem trod_row {α : Type} {t e : TypeId} {sz : Nat} (C : α → List Value → Prop) (ht : Tryz.prog.underlying t = some (.slice e)) (hc : Tryz.prog.cellsOf e = sz) (hsz : 0 < sz) (hb : uptoBulk x.1 ≤ 1048576) (h : DataW.trod enc Tryz.prog w base spare held fuel t cs = some x)
  (hel : ∀ (n : Nat) (cs' : List Value) (y : DataW H × List MemPlace), uptoBulk y.1 ≤ 1048576 → DataW.trod enc Tryz.prog w base spare held n e cs' = some y → ∃ a, C a cs') :
  ∃ (A : Option Addr) (as_ : List α) (c : Nat), cs = [.slice A as_.length c] ∧ as_.length ≤ c ∧ c ≤ 9223372036854775807 ∧ as_.length ≤ 1048576 ∧ RowAt w [] sz C A as_ := by
 rcases Go.Deep.open_slice ht h with ⟨rfl, _⟩ | ⟨a, len, cap, m, n, D, Pl, rfl, _, hl, hm, hmm, hx, hall⟩
 ·exact ⟨Option.none, [], 0, rfl, by simp, by omega, by simp, fun i y hy => by simp at hy⟩
 ·have hlm : len ≤ m := by rw [hmm]; split <;> omega
  have hx1 : x.1 = .slice ((List.range len).map D) ((List.range (m - len)).map fun j => D (len + j)) := by rw [hx]
  rw [hx1] at hb
  simp only [uptoBulk] at hb
  have hlen := bulk_len ((List.range len).map D)
  rw [List.length_map, List.length_range] at hlen
  obtain ⟨l, hl2, hp⟩ := list_choose (fun i y => ∃ cs', w.cells? base (a.add (i * sz)) sz = some cs' ∧ C y cs') len (fun i hi => by
   obtain ⟨cs', h1, h2⟩ := hall i (by omega)
   rw [hc] at h1
   have hbi := bulk_mem ((List.range len).map D) (D i) (List.mem_map.2 ⟨i, List.mem_range.2 hi, rfl⟩)
   obtain ⟨y, hy⟩ := hel n cs' (D i, Pl i) (by simp only; omega) h2
   exact ⟨y, cs', h1, hy⟩)
  subst hl2
  refine ⟨some a, l, cap, rfl, hl, hm, by omega, fun i y hy => ?_⟩
  obtain ⟨cs', h1, h2⟩ := hp i y hy
  obtain ⟨_, hlen2, hcell⟩ := World.cells?_some h1
  have hspot : a.spot = Option.none := by
   have hil : 0 < l.length := by have := (List.getElem?_eq_some_iff.1 hy).1; omega
   obtain ⟨cs0, g1, g2⟩ := hp 0 l[0] (List.getElem?_eq_getElem hil)
   obtain ⟨_, glen, gcell⟩ := World.cells?_some g1
   have h0 := gcell 0 (by omega)
   rw [List.getElem?_eq_getElem (by omega)] at h0
   have := World.cell?_spot h0
   rw [Nat.zero_mul] at this
   simpa [Addr.add] using this
  obtain ⟨b, o, sp⟩ := a
  simp only at hspot
  subst hspot
  refine ⟨b, o, cs', rfl, h2, fun j v hv => .old ?_⟩
  have hj : j < sz := by rw [← hlen2]; exact (List.getElem?_eq_some_iff.1 hv).1
  have := hcell j hj
  rw [hv, add_none, add_none] at this
  exact this
theorem row_all {α : Type} {sz : Nat} {C : α → List Value → Prop} {ok : α → Prop} {G : Hp} {A : Option Addr} {xs : List α} (h : RowAt w G sz (fun a c => C a c ∧ ok a) A xs) : RowAt w G sz C A xs ∧ ∀ a ∈ xs, ok a :=
 ⟨fun i a hi => by obtain ⟨b, o, cs, h1, h2, h3⟩ := h i a hi; exact ⟨b, o, cs, h1, h2.1, h3⟩, fun a ha => by
  obtain ⟨i, hi, rfl⟩ := List.mem_iff_getElem.1 ha
  obtain ⟨b, o, cs, h1, h2, h3⟩ := h i _ (List.getElem?_eq_getElem hi)
  exact h2.2⟩
theorem trod_Rl (hb : uptoBulk x.1 ≤ 1048576) (h : DataW.trod enc Tryz.prog w base spare held fuel 31 cs = some x) : ∃ r : Rl, RlIs w [] r cs ∧ RlOk r ∧ r.body.length ≤ 1048576 := by
 obtain ⟨hl, f', xs, hm, hx⟩ := trod_struct Tryz.underlying31 h
 rw [c46] at hl
 simp only [List.mapM_cons, List.mapM_nil, c40, c44, Option.bind_eq_bind, Option.bind_eq_some_iff, Option.pure_def, Option.some.injEq] at hm
 obtain ⟨a, ha, _, ⟨b, hb2, _, rfl, rfl⟩, rfl⟩ := hm
 rw [hx, bulk_agg] at hb
 have m1 := bulk_mem (List.map (fun x => x.1) [a, b]) a.1 (by simp)
 have m2 := bulk_mem (List.map (fun x => x.1) [a, b]) b.1 (by simp)
 obtain ⟨p, e1, o1⟩ := trod_Pt (by omega) ha
 obtain ⟨A, ls, c, e2, h1, h2, h3, hr⟩ := trod_row (fun l cs => cs = LtC l ∧ LtOk l) Tryz.underlying29 c43 (by omega) (by omega) hb2 (fun n cs' y hy hz => trod_Lt hy hz)
 obtain ⟨hr1, hr2⟩ := row_all hr
 refine ⟨⟨p, ls⟩, ⟨A, c, ?_, h1, h2, hr1⟩, ⟨o1, hr2⟩, h3⟩
 have e : cs = (cs.drop 0).take (12 + 1) := by rw [List.drop_zero, List.take_of_length_le (by omega)]
 rw [e, seg_app, e1, e2]
 rfl
end
end Go.Proofs.YtfddkcmooommeaaGreatDoor.Gl
end
section
namespace Go.Proofs.YtfddkcmooommeaaGreatDoor.Gl
open Go.ChangeShapes Go.WideShapes Go.ChangeAt Go.RowKit Go.Lib
set_option linter.unusedVariables false
set_option linter.unnecessarySimpa false
set_option linter.unusedSimpArgs false
theorem laidOut : laidOutB Tryz.prog = true := by kernel_rfl
theorem sat_self (W : World) : Sat W [] W :=
 ⟨Below.refl _ _, fun _ _ h => by simp at h, by simp, fun b o hb h => by rw [Array.getElem?_eq_none hb] at h; cases h⟩
theorem post_old {H : Type} {enc : TypeId × Value → H} {P : Program} {f : Func} {s : ChangeSpec} {apart fresh handsOn again : Bool} {W W' : World} {args : Array Value} {v : Value} {ds gs : List (DataW H)} {before pa pv : List MemPlace}
  (hW : DataW.Whole enc P f.params.toList s.vars apart W args.toList ds gs before)
  (hres : ∀ (b : Nat) (sp : Nat → Bool) (hd : Bool), DataW.TrodAll enc P W' b sp hd f.resultTypes.toList (v.resultList f.resultTypes.size) (s.fn H (ds ++ gs)).results [])
  (hargs : ∀ sp : Nat → Bool, (∀ p ∈ before, sp p.block = true) → DataW.TrodAll enc P W' 0 sp true f.params.toList args.toList (s.fn H (ds ++ gs)).args pa)
  (hvars : ∀ sp : Nat → Bool, (∀ p ∈ before, sp p.block = true) → DataW.TrodVars enc P W' sp s.vars (s.fn H (ds ++ gs)).vars pv)
  (hps : before = pa ++ pv) (hb : Below W.heap.size W W')
  (hok : ∀ (j : Nat) (t : TypeId) (r : Value), f.resultTypes[j]? = some t → (v.resultList f.resultTypes.size)[j]? = some r → Value.okWide P W' .any 0 t r) :
  s.post enc P f apart fresh handsOn again W args v W' := by
 have hold : ∀ p ∈ before, (fun b => decide (b < W.heap.size)) p.block = true := fun p hp => by simpa using hW.lt p hp
 have hkeep : W.keptBut W' (· ∈ before) := hb.frame _
 refine ⟨ds, gs, before, [], pa, pv, hW, hres _ _ _, hargs _ hold, hvars _ hold, World.keptBut_mono (fun p hp => ⟨hp, .inr (by rw [hps, List.mem_append] at hp; exact hp)⟩) hkeep, fun _ => ?_⟩
 have hlt := hW.lt
 obtain ⟨_, _, _, _, _, hz, hn⟩ := hW
 have e0 : ([] ++ pa) ++ pv = before := by rw [List.nil_append]; exact hps.symm
 refine ⟨hok, _, _, ([] ++ pa) ++ pv, ⟨[] ++ pa, pv, trodAll_append (hargs _ (fun _ _ => rfl)) (hres _ _ _), hvars _ (fun _ _ => rfl), rfl, fun b off hp => ?_, fun ha => ?_⟩, fun p hp _ => ?_⟩
 ·rw [e0] at hp
  have hl : b < W.heap.size := hlt _ hp
  exact (hb.frozen hl).trans (hz b off hp)
 ·have := hn ha
  rw [← e0] at this
  exact this
 ·rw [e0] at hp
  exact hp
theorem calls_of_GC {W : World} {f : FuncId} {args : Array Value} {R : Value → Hp → Prop} (h : GC Tryz.prog W f args R []) : Calls Tryz.prog f args W fun e W' => ∃ v G', e = .returned v ∧ Sat W G' W' ∧ R v G' :=
 (callsIn_wide (n := 0)).1 (h.2 0 W (sat_self W))
theorem agg_of {cs : Array Value} {l : List Value} (h : (Value.agg cs).cells.toList = l) : Value.agg cs = .agg l.toArray := by
 have : cs.toList = l := h
 rw [← this]
theorem ownK : ownKnob Tryz.prog.godebug = Option.none := by kernel_rfl
noncomputable def laidWorld (os : Os) : World :=
 let w0 := World.holding Tryz.prog os ⟨#[], #[], []⟩
 let put (h : Array Obj) (g : Nat) (cs : Array Value) : Array Obj := h.modify g fun
  | .cells _ t frozen => .cells cs t frozen
  | o => o
 let h1 := put w0.heap 1 (Lib.firstTab.map fun z => Value.int .u8 z).toArray
 let h2 := put h1 2 ((List.range 16).flatMap fun i => [Value.int .u8 (Lib.accLo i), Value.int .u8 (Lib.accHi i)]).toArray
 { w0 with heap := h2 }
theorem laid_met (os : Os) (args : Array Value) : laidMet Tryz.prog Rows.planFullUptoRow.laid ((laidWorld os).forCall (fun _ _ => 0) ⟨#[], args, []⟩).memory :=
 (LaidIn.of_run (l := [("unicode/utf8.acceptRanges", Rows.laid_unicode_utf8_acceptRanges), ("unicode/utf8.first", Rows.laid_unicode_utf8_first)]) [2, 1] 8 (by kernel_rfl) (by kernel_rfl) (by kernel_rfl) (by kernel_rfl)).met
def noRule : Value := .agg #[.string "".toUTF8, .int .i64 0, .string "".toUTF8, .string "".toUTF8, .string "".toUTF8, .int .i64 0, .string "".toUTF8, .string "".toUTF8, .string "".toUTF8, .int .i64 0, .string "".toUTF8, .string "".toUTF8, .slice Option.none 0 0]
def noSl {H : Type} : DataW H := .agg [.lit (.string []), .agg [.lit (.int .i64 0), .lit (.string []), .lit (.string [])]]
def noRuleD {H : Type} : DataW H := .agg [.agg [noSl, noSl, noSl], .nil]
theorem trod_Zs {w : World} {H : Type} {enc : TypeId × Value → H} {base : Nat} {spare : Nat → Bool} {held : Bool} {fuel : Nat} {cs : List Value} {x : DataW H × List MemPlace} (hb : Rows.uptoBulk x.1 ≤ 1048576) (h : DataW.trod enc Tryz.prog w base spare held fuel 32 cs = some x) :
  ∃ (A : Option Addr) (zs : List Int) (c : Nat), cs = [.slice A zs.length c] ∧ zs.length ≤ c ∧ c ≤ 9223372036854775807 ∧ zs.length ≤ 1048576 ∧ IntsAt w [] A zs :=
 trod_row (sz := 1) (fun z cs => cs = [.int .i64 z]) Tryz.underlying32 (by kernel_rfl) (by omega) hb h (fun n cs' y _ hz => by
  obtain ⟨z, e, _⟩ := trod_int Tryz.underlying3 hz
  exact ⟨z, e⟩)
end Go.Proofs.YtfddkcmooommeaaGreatDoor.Gl
end
section
namespace Go.Proofs.YtfddkcmooommeaaGreatDoor.Gl
open Go.RowKit Go.Shelf
set_option linter.unusedVariables false
set_option linter.unnecessarySimpa false
set_option linter.unusedSimpArgs false
attribute [-simp] List.getD_eq_getElem?_getD
section
variable {α : Type} {C : α → List Value} {sz : Nat}
theorem fl_get (hC : ∀ a, (C a).length = sz) : ∀ (xs : List α) (i : Nat) (x : α), xs[i]? = some x → ∀ (j : Nat) v, (C x)[j]? = some v → (xs.flatMap C)[i * sz + j]? = some v
 | [], i, x, h, _, _, _ => by simp at h
 | y :: xs, 0, x, h, j, v, hv => by
  simp at h
  subst h
  rw [List.flatMap_cons, Nat.zero_mul, Nat.zero_add, List.getElem?_append_left (List.getElem?_eq_some_iff.1 hv).1]
  exact hv
 | y :: xs, i + 1, x, h, j, v, hv => by
  have ih := fl_get hC xs i x (by simpa using h) j v hv
  rw [List.flatMap_cons, List.getElem?_append_right (by rw [hC, Nat.succ_mul]; omega), hC, show (i + 1) * sz + j - sz = i * sz + j by rw [Nat.succ_mul]; omega]
  exact ih
theorem SlAt.flat {e : TypeId} {xs : List α} {v : Value} {H : Hp} (w0 : World) (G : Hp) (hC : ∀ a, (C a).length = sz) (h : SlAt sz e (xs.flatMap C) xs.length v H) : ∃ A c, v = .slice A xs.length c ∧ RowAt w0 (H ++ G) sz (fun a cs => cs = C a) A xs ∧ xs.length ≤ c := by
 generalize hn : xs.length = n at h
 cases h with
 | nil h0 hc =>
  subst h0
  rw [List.length_eq_zero_iff] at hn
  subst hn
  exact ⟨none, 0, rfl, fun i x hx => by simp at hx, Nat.le_refl _⟩
 | row b cap hl hc =>
  refine ⟨some ⟨b, 0, none⟩, cap, rfl, fun i x hx => ⟨b, 0, C x, rfl, rfl, fun j v hv => ?_⟩, hc⟩
  exact .own (List.mem_append_left _ List.mem_cons_self) (by rw [Nat.zero_add]; exact fl_get hC xs i x hx j v hv)
end
def tmsC (L : List Tm) : List Value := L.flatMap TmC
theorem tm_len (t : Tm) : (TmC t).length = 3 := rfl
theorem tms_snoc {L : List Tm} {t : Tm} {v : Value} {H : Hp} (h : SlAt 3 24 (tmsC L ++ TmC t) (L.length + 1) v H) : SlAt 3 24 (tmsC (L ++ [t])) (L ++ [t]).length v H := by
 unfold tmsC at h ⊢
 rw [List.flatMap_append, List.length_append]
 simpa using h
abbrev woC (v : Value) : Know := .exact (.cells #[v] 60 (0, 0))
def numF (L : List Tm) (t : Tm) : Nat × List Tm := match idxT L t with
 | some n => (n + 1, L)
 | none => (L.length + 1, L ++ [t])
theorem numF_yes {L : List Tm} {t u : Tm} {i : Nat} (h0 : (L.take i).any (fun u => tmEq u t) = false) (hu : L[i]? = some u) (he : tmEq u t = true) : numF L t = (i + 1, L) := by
 have hi := (List.getElem?_eq_some_iff.1 hu).1
 have : idxT L t = some i := by
  unfold idxT
  rw [List.findIdx?_eq_some_iff_getElem]
  refine ⟨hi, ?_, fun j hj => ?_⟩
  ·rw [List.getElem?_eq_getElem hi] at hu
   rw [Option.some.inj hu]; exact he
  ·rw [List.any_eq_false] at h0
   exact h0 _ (List.mem_of_getElem? (i := j) (by rw [List.getElem?_take_of_lt hj, List.getElem?_eq_getElem (by omega)]))
 unfold numF
 rw [this]
theorem numF_no {L : List Tm} {t : Tm} (h0 : L.any (fun u => tmEq u t) = false) : numF L t = (L.length + 1, L ++ [t]) := by
 have : idxT L t = none := by
  unfold idxT
  rw [List.findIdx?_eq_none_iff]
  intro x hx
  rw [List.any_eq_false] at h0
  have := h0 x hx
  simpa using this
 unfold numF
 rw [this]
theorem numF_len (L : List Tm) (t : Tm) : (numF L t).2.length ≤ L.length + 1 := by
 unfold numF
 cases idxT L t with
 | some n => simp
 | none => simp
def placeW (vars : List ByteArray) (L : List Tm) (s : Sl) : Pl × List Tm := match (bif emp s.v then none else idxN vars s.v) with
 | some i => (⟨(i : Nat), 0⟩, L)
 | none => (⟨-1, (numF L s.t).1⟩, (numF L s.t).2)
theorem placeW_var {vars : List ByteArray} {L : List Tm} {s : Sl} {x : ByteArray} {i : Nat} (h : emp s.v = false) (h0 : (vars.take i).any (fun x => s.v.toList == x.toList) = false) (hx : vars[i]? = some x) (he : (s.v.toList == x.toList) = true) : placeW vars L s = (⟨(i : Nat), 0⟩, L) := by
 have hi := (List.getElem?_eq_some_iff.1 hx).1
 have : idxN vars s.v = some i := by
  unfold idxN
  rw [List.findIdx?_eq_some_iff_getElem]
  refine ⟨hi, ?_, fun j hj => ?_⟩
  ·rw [List.getElem?_eq_getElem hi] at hx
   rw [Option.some.inj hx]; exact he
  ·rw [List.any_eq_false] at h0
   exact h0 _ (List.mem_of_getElem? (i := j) (by rw [List.getElem?_take_of_lt hj, List.getElem?_eq_getElem (by omega)]))
 unfold placeW
 rw [h, cond_false, this]
theorem placeW_t {vars : List ByteArray} {L : List Tm} {s : Sl} (h : emp s.v = true ∨ vars.any (fun x => s.v.toList == x.toList) = false) : placeW vars L s = (⟨-1, (numF L s.t).1⟩, (numF L s.t).2) := by
 have : (bif emp s.v then none else idxN vars s.v) = none := by
  rcases h with h | h
  ·rw [h]; rfl
  ·cases emp s.v
   ·rw [cond_false]
    unfold idxN
    rw [List.findIdx?_eq_none_iff]
    intro x hx
    rw [List.any_eq_false] at h
    have := h x hx
    simpa using this
   ·rfl
 unfold placeW
 rw [this]
theorem placeW_len (vars : List ByteArray) (L : List Tm) (s : Sl) : (placeW vars L s).2.length ≤ L.length + 1 := by
 unfold placeW
 split
 ·simp
 ·exact numF_len _ _
def rowStepW (vars : List ByteArray) (a : List Pl × List Tm) (s : Sl) : List Pl × List Tm := (a.1 ++ [(placeW vars a.2 s).1], (placeW vars a.2 s).2)
def rowToW (vars : List ByteArray) (L : List Tm) (p : Pt) (k : Nat) : List Pl × List Tm := ((sl3 p).take k).foldl (rowStepW vars) ([], L)
theorem rowToW_succ {vars : List ByteArray} {L : List Tm} {p : Pt} {k : Nat} {s : Sl} (h : (sl3 p)[k]? = some s) : rowToW vars L p (k + 1) = rowStepW vars (rowToW vars L p k) s := by
 unfold rowToW
 rw [List.take_add_one, h, List.foldl_append]
 rfl
def rowW (vars : List ByteArray) (L : List Tm) (p : Pt) : Rw × List Tm :=
 (⟨(placeW vars L p.s0).1, (placeW vars (placeW vars L p.s0).2 p.s1).1, (placeW vars (placeW vars (placeW vars L p.s0).2 p.s1).2 p.s2).1⟩, (placeW vars (placeW vars (placeW vars L p.s0).2 p.s1).2 p.s2).2)
theorem rowToW_3 (vars : List ByteArray) (L : List Tm) (p : Pt) : rowToW vars L p 3 = ([(rowW vars L p).1.p0, (rowW vars L p).1.p1, (rowW vars L p).1.p2], (rowW vars L p).2) := rfl
theorem rowW_len (vars : List ByteArray) (L : List Tm) (p : Pt) : (rowW vars L p).2.length ≤ L.length + 3 := by
 have h1 := placeW_len vars L p.s0
 have h2 := placeW_len vars (placeW vars L p.s0).2 p.s1
 have h3 := placeW_len vars (placeW vars (placeW vars L p.s0).2 p.s1).2 p.s2
 unfold rowW
 simp only
 omega
def stepW (vars : List ByteArray) (L : List Tm) (l : Lt) : St × List Tm :=
 if l.kind = 1 then (⟨1, (rowW vars L l.pat).1, zPl, zPl⟩, (rowW vars L l.pat).2)
 else if l.kind = 2 then (⟨2, (rowW vars L l.pat).1, zPl, zPl⟩, (rowW vars L l.pat).2)
 else (⟨if l.kind = 4 then 4 else 3, zRw, (placeW vars L l.a).1, (placeW vars (placeW vars L l.a).2 l.b).1⟩, (placeW vars (placeW vars L l.a).2 l.b).2)
theorem stepW_len (vars : List ByteArray) (L : List Tm) (l : Lt) : (stepW vars L l).2.length ≤ L.length + 3 := by
 have h0 := rowW_len vars L l.pat
 have h1 := placeW_len vars L l.a
 have h2 := placeW_len vars (placeW vars L l.a).2 l.b
 unfold stepW
 split
 ·exact h0
 ·split
  ·exact h0
  ·simp only; omega
theorem stepW_1 {vars : List ByteArray} {L : List Tm} {l : Lt} (h : l.kind = 1) : stepW vars L l = (⟨1, (rowW vars L l.pat).1, zPl, zPl⟩, (rowW vars L l.pat).2) := by unfold stepW; rw [if_pos h]
theorem stepW_2 {vars : List ByteArray} {L : List Tm} {l : Lt} (h1 : ¬ l.kind = 1) (h : l.kind = 2) : stepW vars L l = (⟨2, (rowW vars L l.pat).1, zPl, zPl⟩, (rowW vars L l.pat).2) := by unfold stepW; rw [if_neg h1, if_pos h]
theorem stepW_4 {vars : List ByteArray} {L : List Tm} {l : Lt} (h1 : ¬ l.kind = 1) (h2 : ¬ l.kind = 2) (h : l.kind = 4) : stepW vars L l = (⟨4, zRw, (placeW vars L l.a).1, (placeW vars (placeW vars L l.a).2 l.b).1⟩, (placeW vars (placeW vars L l.a).2 l.b).2) := by unfold stepW; rw [if_neg h1, if_neg h2, if_pos h]
theorem stepW_3 {vars : List ByteArray} {L : List Tm} {l : Lt} (h1 : ¬ l.kind = 1) (h2 : ¬ l.kind = 2) (h : ¬ l.kind = 4) : stepW vars L l = (⟨3, zRw, (placeW vars L l.a).1, (placeW vars (placeW vars L l.a).2 l.b).1⟩, (placeW vars (placeW vars L l.a).2 l.b).2) := by unfold stepW; rw [if_neg h1, if_neg h2, if_neg h]
theorem sl_len (s : Sl) : (SlC s).length = 4 := rfl
theorem pt_load {w0 : World} {G : Hp} {b k : Nat} {p : Pt} {s : Sl} (hm : (b, Know.exact (.cells (Value.agg (PtC p).toArray).cells 28 (0, 0))) ∈ G) (h : (sl3 p)[k]? = some s) : Rds w0 G b (0 + (k : Int).toNat * 4) (SlC s) := fun j v hv => .own hm (by
 show (PtC p).toArray[0 + (k : Int).toNat * 4 + j]? = _
 rw [Nat.zero_add, Int.toNat_natCast, List.getElem?_toArray]
 exact fl_get sl_len (sl3 p) k s h j v hv)
theorem Hs.padTl1 {b7 : Nat} {C D : Array Value} (h : C = D) (R : Hp) : Hs ((b7, .exact (.cells C 38 (0, 0))) :: R) ((b7, .exact (.cells D 38 (0, 0))) :: R) := h ▸ Hs.refl _
theorem ref_Number (w0 : World) (G : Hp) (L : List Tm) (bW : Nat) (v : Value) (Hl : Hp) (hL : SlAt 3 24 (tmsC L) L.length v Hl) (hm : L.length ≤ 100000) (t : Tm) : GC Tryz.prog w0 35 #[.pointer (some ⟨bW, 0, none⟩), .agg (TmC t).toArray] (fun r G' => ∃ v' Hl', (r = .int .u32 ((numF L t).1 : Nat) ∧ SlAt 3 24 (tmsC (numF L t).2) (numF L t).2.length v' Hl') ∧ (bW, woC v') :: (Hl' ++ G) = G') ((bW, woC v) :: (Hl ++ G)) := by
 obtain ⟨A, c, rfl, hts, hc⟩ := hL.flat w0 G tm_len
 refine GC.body (args := [.pointer (some ⟨bW, 0, none⟩), .agg (TmC t).toArray]) Tryz.func35 rfl (by kernel_rfl) rfl ?_
 refine GW.seq ?_
 refine GW.region ?_
 refine R.box ⟨rfl, rfl, rfl, rfl⟩ rfl fun b3 => ?_
 refine R.assign ⟨rfl, rfl, rfl, rfl⟩ rfl ?_
 refine GOps.nil ?_
 refine GW.seq ?_
 refine GW.seq ?_
 refine GW.region ?_
 refine R.assign ⟨rfl, rfl, rfl, rfl⟩ rfl ?_
 refine GOps.nil ?_
 refine GW.block ?_
 refine GW.loopI (fun i : Nat => [(0, .pointer (some ⟨bW, 0, none⟩)), (3, .pointer (some ⟨b3, 0, none⟩)), (5, .int .i64 i)]) (fun i => (b3, .exact (.cells (Value.agg (TmC t).toArray).cells 24 (0, 0))) :: (bW, woC (.slice A L.length c)) :: (Hl ++ G)) (fun i => L.length - i) (fun i => i ≤ L.length ∧ (L.take i).any (fun u => tmEq u t) = false) 0
  (by repeat (first | exact Keeps.nil _ | refine Keeps.cons rfl ?_)) (Hs.refl _) (⟨by omega, by simp⟩) ?_
 rintro i ⟨hi, h0⟩
 refine GW.seq ?_
 refine GW.seq ?_
 refine GW.region ?_
 refine R.move ⟨rfl, rfl, rfl, rfl⟩ rfl ?_
 refine R.move ⟨rfl, rfl, rfl, rfl⟩ rfl ?_
 refine R.nilCheck ⟨rfl, rfl, rfl, rfl⟩ rfl ?_
 refine R.fieldAddr ⟨rfl, rfl, rfl, rfl⟩ rfl Tryz.underlying60 rfl Tryz.sizeOf53 ?_   -- "L"
 refine R.load1 ⟨rfl, rfl, rfl, rfl⟩ rfl Tryz.underlying53 rfl (.own' memG (by rfl)) ?_
 refine R.lenS ⟨rfl, rfl, rfl, rfl⟩ rfl rfl Tryz.underlying53 ?_
 refine R.lss ⟨rfl, rfl, rfl, rfl⟩ rfl rfl ?_
 refine GOps.nil ?_
 refine GW.ite rfl (fun hc1 => ?_) (fun hc1 => ?_)
 ·try simp only [dcQ] at hc1
  obtain ⟨u, hu⟩ : ∃ u, L[i]? = some u := ⟨_, List.getElem?_eq_getElem (by omega)⟩
  obtain ⟨ub, uo, cs0, rfl, rfl, hrd⟩ := hts i u hu
  refine GW.skip ?_
  refine GW.seq ?_
  refine GW.block ?_
  refine GW.seq ?_
  refine GW.drawS 9 rfl (by kernel_rfl) ?_
  refine GA.val 0 rfl (V.move ⟨rfl, rfl, rfl, rfl⟩ rfl) rfl (by kernel_rfl) (by kernel_rfl) (by kernel_rfl) ?_
  refine GA.val 1 rfl (V.nilCheck ⟨rfl, rfl, rfl, rfl⟩ rfl) rfl (by kernel_rfl) (by kernel_rfl) (by kernel_rfl) ?_
  refine GA.val 2 rfl (V.fieldAddr ⟨rfl, rfl, rfl, rfl⟩ rfl Tryz.underlying60 rfl Tryz.sizeOf53) rfl (by kernel_rfl) (by kernel_rfl) (by kernel_rfl) ?_   -- "L"
  refine GA.val 3 rfl (V.load1 ⟨rfl, rfl, rfl, rfl⟩ rfl Tryz.underlying53 rfl (.own' memG (by rfl))) rfl (by kernel_rfl) (by kernel_rfl) (by kernel_rfl) ?_
  refine GA.val 4 rfl (V.move ⟨rfl, rfl, rfl, rfl⟩ rfl) rfl (by kernel_rfl) (by kernel_rfl) (by kernel_rfl) ?_
  refine GA.val 5 rfl (V.indexAddrS ⟨rfl, rfl, rfl, rfl⟩ rfl rfl Tryz.underlying53 Tryz.sizeOf24 (by omega) (by omega)) rfl (by kernel_rfl) (by kernel_rfl) (by kernel_rfl) ?_
  refine GA.val 6 rfl (V.loadA ⟨rfl, rfl, rfl, rfl⟩ rfl Tryz.underlying24 rfl Tryz.sizeOf24 (hrd.mono (fun y hy => by repeat (first | exact hy | apply List.mem_cons_of_mem | apply List.mem_append_right))) (by rfl)) rfl (by kernel_rfl) (by kernel_rfl) (by kernel_rfl) ?_
  refine GA.val 7 rfl (V.load_own (cs := TmC t) ⟨rfl, rfl, rfl, rfl⟩ rfl Tryz.underlying24 rfl Tryz.sizeOf24 memG (by rfl) (by rfl)) rfl (by kernel_rfl) (by kernel_rfl) (by kernel_rfl) ?_
  refine GA.val 8 rfl (V.eqA ⟨rfl, rfl, rfl, rfl⟩ rfl rfl (guard_of g24) (equal_of 9990 rfl (run_eqTm 9998 _ _))) rfl (by kernel_rfl) (by kernel_rfl) (by kernel_rfl) ?_
  refine GA.done (by first | exact Hs.refl _ | exact Hs.tl _ | exact Hs.tl2 _ _ | exact Hs.tl3 _ _ _ | exact Hs.app _ | exact Hs.sub (by simp)) (by kernel_rfl) ?_
  refine GW.ite rfl (fun hc2 => ?_) (fun hc2 => ?_)
  ·try simp only [dcQ] at hc2
   refine GW.seq ?_
   refine GW.region ?_
   refine R.move ⟨rfl, rfl, rfl, rfl⟩ rfl ?_
   refine R.add (r := (((i + 1) : Nat) : Int)) ⟨rfl, rfl, rfl, rfl⟩ rfl rfl (by rw [wrap64_id (by omega) (by omega)]; omega) ?_
   refine R.conv (r := ((i + 1 : Nat) : Int)) ⟨rfl, rfl, rfl, rfl⟩ rfl Tryz.underlying3 Tryz.underlying35 (u32_id _ (by omega)) ?_
   refine R.assign ⟨rfl, rfl, rfl, rfl⟩ rfl ?_
   refine GOps.nil ?_
   first | (rw [numF_yes h0 hu (by assumption)]; exact GW.ret (Out.of (Res.one rfl rfl) (Hs.tl _) ⟨_, Hl, ⟨rfl, hL⟩, rfl⟩)) | (rw [numF_no h0]; exact GW.ret (Out.of (Res.one rfl rfl) (Hs.tl2 _ _) ⟨_, H34, ⟨rfl, tms_snoc hv34⟩, rfl⟩))
  ·try simp only [dcQ] at hc2
   refine GW.skip ?_
   refine GW.region ?_
   refine R.move ⟨rfl, rfl, rfl, rfl⟩ rfl ?_
   refine R.add (r := (((i + 1) : Nat) : Int)) ⟨rfl, rfl, rfl, rfl⟩ rfl rfl (by rw [wrap64_id (by omega) (by omega)]; omega) ?_
   refine R.assign ⟨rfl, rfl, rfl, rfl⟩ rfl ?_
   refine GOps.nil ?_
   exact ⟨i + 1, by omega, ⟨by omega, any_take_succ _ L i u hu h0 (by assumption)⟩, rfl, by repeat (first | exact Keeps.nil _ | refine Keeps.cons rfl ?_), by first | exact Hs.refl _ | exact Hs.tl _ | exact Hs.tl2 _ _⟩
 ·try simp only [dcQ] at hc1
  rw [List.take_of_length_le (by omega)] at h0
  refine GW.exit ?_
  refine GW.seq ?_
  refine GW.draw ((b3, .exact (.cells (Value.agg (TmC t).toArray).cells 24 (0, 0))) :: G) 11 rfl (by kernel_rfl) ?_
  refine GA.val 0 rfl (V.move ⟨rfl, rfl, rfl, rfl⟩ rfl) rfl (by kernel_rfl) (by kernel_rfl) (by kernel_rfl) ?_
  refine GA.val 1 rfl (V.move ⟨rfl, rfl, rfl, rfl⟩ rfl) rfl (by kernel_rfl) (by kernel_rfl) (by kernel_rfl) ?_
  refine GA.val 2 rfl (V.nilCheck ⟨rfl, rfl, rfl, rfl⟩ rfl) rfl (by kernel_rfl) (by kernel_rfl) (by kernel_rfl) ?_
  refine GA.val 3 rfl (V.fieldAddr ⟨rfl, rfl, rfl, rfl⟩ rfl Tryz.underlying60 rfl Tryz.sizeOf53) rfl (by kernel_rfl) (by kernel_rfl) (by kernel_rfl) ?_   -- "L"
  refine GA.val 5 rfl (V.load_own (cs := TmC t) ⟨rfl, rfl, rfl, rfl⟩ rfl Tryz.underlying24 rfl Tryz.sizeOf24 memG (by rfl) (by rfl)) rfl (by kernel_rfl) (by kernel_rfl) (by kernel_rfl) ?_
  refine GA.two 4 6 (by first | exact Hs.sub (by repeat (first | exact List.Sublist.refl _ | exact List.sublist_append_right _ _ | apply List.Sublist.cons_cons | apply List.Sublist.cons | refine List.Sublist.trans ?_ (List.sublist_append_right _ _))) | exact Hs.refl _ | exact Hs.tl _ | exact Hs.tl2 _ _ | exact Hs.tl3 _ _ _ | exact Hs.app _ | exact Hs.sub (by simp)) (by kernel_rfl) rfl rfl ?_ ?_
  ·refine R.load1 ⟨rfl, rfl, rfl, rfl⟩ rfl Tryz.underlying53 rfl (.own' memG (by rfl)) ?_
   refine GOps.nil ?_
   refine GA.one 6 (by first | exact Hs.sub (by repeat (first | exact List.Sublist.refl _ | exact List.sublist_append_right _ _ | apply List.Sublist.cons_cons | apply List.Sublist.cons | refine List.Sublist.trans ?_ (List.sublist_append_right _ _))) | exact Hs.refl _ | exact Hs.tl _ | exact Hs.tl2 _ _ | exact Hs.tl3 _ _ _ | exact Hs.app _ | exact Hs.sub (by simp)) (by kernel_rfl) rfl ?_
   refine R.buildSliceF (sz := 3) (bytes := 40) (vs := [_]) (cs := TmC t) ⟨rfl, rfl, rfl, rfl⟩ rfl Tryz.underlying53 (InfoE.mk (by kernel_rfl)) rfl rfl rfl rfl rfl fun b33 => ?_
   refine GOps.nil ?_
   refine GA.one 7 (by first | exact Hs.sub (by repeat (first | exact List.Sublist.refl _ | exact List.sublist_append_right _ _ | apply List.Sublist.cons_cons | apply List.Sublist.cons | refine List.Sublist.trans ?_ (List.sublist_append_right _ _))) | exact Hs.refl _ | exact Hs.tl _ | exact Hs.tl2 _ _ | exact Hs.tl3 _ _ _ | exact Hs.app _ | exact Hs.sub (by simp)) (by kernel_rfl) rfl ?_
   refine R.append (sz := 3) (bytes := 40) (G1 := [_, _, _]) (H := Hl) (news := TmC t) ⟨rfl, rfl, rfl, rfl⟩ rfl rfl rfl Tryz.underlying53 (InfoE.mk (by kernel_rfl)) (hL) (rfl) (rfl) (.own (by repeat (first | exact List.mem_cons_self | apply List.mem_cons_of_mem | apply List.mem_append_right | exact List.mem_append_left _ List.mem_cons_self)) 0 _ (fun j v hv => by simpa using hv)) (by omega) (by rfl) (by omega) (by omega) fun v34 H34 hv34 => ?_
   obtain ⟨A34, c34, rfl, hc34⟩ := hv34.split
   refine GOps.nil ?_
   refine GA.val 8 rfl (V.nilCheck ⟨rfl, rfl, rfl, rfl⟩ rfl) rfl (by kernel_rfl) (by kernel_rfl) (by kernel_rfl) ?_
   refine GA.val 9 rfl (V.fieldAddr ⟨rfl, rfl, rfl, rfl⟩ rfl Tryz.underlying60 rfl Tryz.sizeOf53) rfl (by kernel_rfl) (by kernel_rfl) (by kernel_rfl) ?_   -- "L"
   refine GA.one 10 (by first | exact Hs.sub (by repeat (first | exact List.Sublist.refl _ | exact List.sublist_append_right _ _ | apply List.Sublist.cons_cons | apply List.Sublist.cons | refine List.Sublist.trans ?_ (List.sublist_append_right _ _))) | exact Hs.refl _ | exact Hs.tl _ | exact Hs.tl2 _ _ | exact Hs.tl3 _ _ _ | exact Hs.app _ | exact Hs.sub (by simp)) (by kernel_rfl) rfl ?_
   refine R.storeAll (G1 := [_, _]) rfl rfl rfl rfl rfl Tryz.sizeOf53 rfl rfl rfl rfl ?_
   refine GOps.nil ?_
   refine GA.done (by first | exact Hs.sub (by repeat (first | exact List.Sublist.refl _ | exact List.sublist_append_right _ _ | apply List.Sublist.cons_cons | apply List.Sublist.cons | refine List.Sublist.trans ?_ (List.sublist_append_right _ _))) | exact Hs.refl _ | exact Hs.tl _ | exact Hs.tl2 _ _ | exact Hs.tl3 _ _ _ | exact Hs.app _ | exact Hs.sub (by simp)) (by kernel_rfl) ?_
   refine GW.seq ?_
   refine GW.region ?_
   refine R.move ⟨rfl, rfl, rfl, rfl⟩ rfl ?_
   refine R.nilCheck ⟨rfl, rfl, rfl, rfl⟩ rfl ?_
   refine R.fieldAddr ⟨rfl, rfl, rfl, rfl⟩ rfl Tryz.underlying60 rfl Tryz.sizeOf53 ?_   -- "L"
   refine R.load1 ⟨rfl, rfl, rfl, rfl⟩ rfl Tryz.underlying53 rfl (.own' memG (by rfl)) ?_
   refine R.lenS ⟨rfl, rfl, rfl, rfl⟩ rfl rfl Tryz.underlying53 ?_
   refine R.conv (r := ((L.length + 1 : Nat) : Int)) ⟨rfl, rfl, rfl, rfl⟩ rfl Tryz.underlying3 Tryz.underlying35 (u32_id _ (by omega)) ?_
   refine R.assign ⟨rfl, rfl, rfl, rfl⟩ rfl ?_
   refine GOps.nil ?_
   first | (rw [numF_yes h0 hu (by assumption)]; exact GW.ret (Out.of (Res.one rfl rfl) (Hs.tl _) ⟨_, Hl, ⟨rfl, hL⟩, rfl⟩)) | (rw [numF_no h0]; exact GW.ret (Out.of (Res.one rfl rfl) (Hs.tl2 _ _) ⟨_, H34, ⟨rfl, tms_snoc hv34⟩, rfl⟩))
  ·refine R.buildSliceF (sz := 3) (bytes := 40) (vs := [_]) (cs := TmC t) ⟨rfl, rfl, rfl, rfl⟩ rfl Tryz.underlying53 (InfoE.mk (by kernel_rfl)) rfl rfl rfl rfl rfl fun b33 => ?_
   refine GOps.nil ?_
   refine GA.one 4 (by first | exact Hs.sub (by repeat (first | exact List.Sublist.refl _ | exact List.sublist_append_right _ _ | apply List.Sublist.cons_cons | apply List.Sublist.cons | refine List.Sublist.trans ?_ (List.sublist_append_right _ _))) | exact Hs.refl _ | exact Hs.tl _ | exact Hs.tl2 _ _ | exact Hs.tl3 _ _ _ | exact Hs.app _ | exact Hs.sub (by simp)) (by kernel_rfl) rfl ?_
   refine R.load1 ⟨rfl, rfl, rfl, rfl⟩ rfl Tryz.underlying53 rfl (.own' memG (by rfl)) ?_
   refine GOps.nil ?_
   refine GA.one 7 (by first | exact Hs.sub (by repeat (first | exact List.Sublist.refl _ | exact List.sublist_append_right _ _ | apply List.Sublist.cons_cons | apply List.Sublist.cons | refine List.Sublist.trans ?_ (List.sublist_append_right _ _))) | exact Hs.refl _ | exact Hs.tl _ | exact Hs.tl2 _ _ | exact Hs.tl3 _ _ _ | exact Hs.app _ | exact Hs.sub (by simp)) (by kernel_rfl) rfl ?_
   refine R.append (sz := 3) (bytes := 40) (G1 := [_, _, _]) (H := Hl) (news := TmC t) ⟨rfl, rfl, rfl, rfl⟩ rfl rfl rfl Tryz.underlying53 (InfoE.mk (by kernel_rfl)) (hL) (rfl) (rfl) (.own (by repeat (first | exact List.mem_cons_self | apply List.mem_cons_of_mem | apply List.mem_append_right | exact List.mem_append_left _ List.mem_cons_self)) 0 _ (fun j v hv => by simpa using hv)) (by omega) (by rfl) (by omega) (by omega) fun v34 H34 hv34 => ?_
   obtain ⟨A34, c34, rfl, hc34⟩ := hv34.split
   refine GOps.nil ?_
   refine GA.val 8 rfl (V.nilCheck ⟨rfl, rfl, rfl, rfl⟩ rfl) rfl (by kernel_rfl) (by kernel_rfl) (by kernel_rfl) ?_
   refine GA.val 9 rfl (V.fieldAddr ⟨rfl, rfl, rfl, rfl⟩ rfl Tryz.underlying60 rfl Tryz.sizeOf53) rfl (by kernel_rfl) (by kernel_rfl) (by kernel_rfl) ?_   -- "L"
   refine GA.one 10 (by first | exact Hs.sub (by repeat (first | exact List.Sublist.refl _ | exact List.sublist_append_right _ _ | apply List.Sublist.cons_cons | apply List.Sublist.cons | refine List.Sublist.trans ?_ (List.sublist_append_right _ _))) | exact Hs.refl _ | exact Hs.tl _ | exact Hs.tl2 _ _ | exact Hs.tl3 _ _ _ | exact Hs.app _ | exact Hs.sub (by simp)) (by kernel_rfl) rfl ?_
   refine R.storeAll (G1 := [_, _]) rfl rfl rfl rfl rfl Tryz.sizeOf53 rfl rfl rfl rfl ?_
   refine GOps.nil ?_
   refine GA.done (by first | exact Hs.sub (by repeat (first | exact List.Sublist.refl _ | exact List.sublist_append_right _ _ | apply List.Sublist.cons_cons | apply List.Sublist.cons | refine List.Sublist.trans ?_ (List.sublist_append_right _ _))) | exact Hs.refl _ | exact Hs.tl _ | exact Hs.tl2 _ _ | exact Hs.tl3 _ _ _ | exact Hs.app _ | exact Hs.sub (by simp)) (by kernel_rfl) ?_
   refine GW.seq ?_
   refine GW.region ?_
   refine R.move ⟨rfl, rfl, rfl, rfl⟩ rfl ?_
   refine R.nilCheck ⟨rfl, rfl, rfl, rfl⟩ rfl ?_
   refine R.fieldAddr ⟨rfl, rfl, rfl, rfl⟩ rfl Tryz.underlying60 rfl Tryz.sizeOf53 ?_   -- "L"
   refine R.load1 ⟨rfl, rfl, rfl, rfl⟩ rfl Tryz.underlying53 rfl (.own' memG (by rfl)) ?_
   refine R.lenS ⟨rfl, rfl, rfl, rfl⟩ rfl rfl Tryz.underlying53 ?_
   refine R.conv (r := ((L.length + 1 : Nat) : Int)) ⟨rfl, rfl, rfl, rfl⟩ rfl Tryz.underlying3 Tryz.underlying35 (u32_id _ (by omega)) ?_
   refine R.assign ⟨rfl, rfl, rfl, rfl⟩ rfl ?_
   refine GOps.nil ?_
   first | (rw [numF_yes h0 hu (by assumption)]; exact GW.ret (Out.of (Res.one rfl rfl) (Hs.tl _) ⟨_, Hl, ⟨rfl, hL⟩, rfl⟩)) | (rw [numF_no h0]; exact GW.ret (Out.of (Res.one rfl rfl) (Hs.tl2 _ _) ⟨_, H34, ⟨rfl, tms_snoc hv34⟩, rfl⟩))
theorem ref_Place (w0 : World) (G : Hp) (L : List Tm) (bW : Nat) (v : Value) (Hl : Hp) (hL : SlAt 3 24 (tmsC L) L.length v Hl) (hm : L.length ≤ 100000) (A : Option Addr) (vars : List ByteArray) (c : Nat) (hv : StAt w0 G A vars) (hvm : vars.length ≤ 100000) (s : Sl) : GC Tryz.prog w0 38 #[.pointer (some ⟨bW, 0, none⟩), .slice A vars.length c, .agg (SlC s).toArray] (fun r G' => ∃ v' Hl', (r = .agg (PlC (placeW vars L s).1).toArray ∧ SlAt 3 24 (tmsC (placeW vars L s).2) (placeW vars L s).2.length v' Hl') ∧ (bW, woC v') :: (Hl' ++ G) = G') ((bW, woC v) :: (Hl ++ G)) := by
 refine GC.body (args := [.pointer (some ⟨bW, 0, none⟩), .slice A vars.length c, .agg (SlC s).toArray]) Tryz.func38 rfl (by kernel_rfl) rfl ?_
 refine GW.seq ?_
 refine GW.region ?_
 refine R.box ⟨rfl, rfl, rfl, rfl⟩ rfl fun b5 => ?_
 refine R.alloc ⟨rfl, rfl, rfl, rfl⟩ Tryz.zeroValue37 fun b6 => ?_
 refine GOps.nil ?_
 refine GW.seq ?_
 refine GW.seq ?_
 refine GW.region ?_
 refine R.assign ⟨rfl, rfl, rfl, rfl⟩ rfl ?_
 refine GOps.nil ?_
 refine GW.block ?_
 refine GW.loopI (fun i : Nat => [(0, .pointer (some ⟨bW, 0, none⟩)), (1, .slice A vars.length c), (5, .pointer (some ⟨b5, 0, none⟩)), (6, .pointer (some ⟨b6, 0, none⟩)), (7, .int .i64 i)]) (fun i => (b6, .exact (.cells #[.int .i64 0, .int .u32 0] 37 (0, 0))) :: (b5, .exact (.cells (Value.agg (SlC s).toArray).cells 26 (0, 0))) :: (bW, woC v) :: (Hl ++ G)) (fun i => vars.length - i) (fun i => i ≤ vars.length ∧ (emp s.v = true ∨ (vars.take i).any (fun x => s.v.toList == x.toList) = false)) 0
  (by repeat (first | exact Keeps.nil _ | refine Keeps.cons rfl ?_)) (Hs.refl _) (⟨by omega, .inr (by simp)⟩) ?_
 rintro i ⟨hi, h0⟩
 refine GW.seq ?_
 refine GW.seq ?_
 refine GW.region ?_
 refine R.move ⟨rfl, rfl, rfl, rfl⟩ rfl ?_
 refine R.move ⟨rfl, rfl, rfl, rfl⟩ rfl ?_
 refine R.lenS ⟨rfl, rfl, rfl, rfl⟩ rfl rfl Tryz.underlying61 ?_
 refine R.lss ⟨rfl, rfl, rfl, rfl⟩ rfl rfl ?_
 refine GOps.nil ?_
 refine GW.ite rfl (fun hc1 => ?_) (fun hc1 => ?_)
 ·try simp only [dcQ] at hc1
  obtain ⟨x, hx⟩ : ∃ x, vars[i]? = some x := ⟨_, List.getElem?_eq_getElem (by omega)⟩
  obtain ⟨xb, xo, rfl, hrd⟩ := str_load hv hx
  refine GW.skip ?_
  refine GW.seq ?_
  refine GW.block ?_
  refine GW.seq ?_
  refine GW.drawS 12 rfl (by kernel_rfl) ?_
  refine GA.val 0 rfl (V.fieldAddr ⟨rfl, rfl, rfl, rfl⟩ rfl Tryz.underlying26 rfl Tryz.sizeOf9) rfl (by kernel_rfl) (by kernel_rfl) (by kernel_rfl) ?_   -- "Var"
  refine GA.val 1 rfl (V.load1 ⟨rfl, rfl, rfl, rfl⟩ rfl Tryz.underlying9 rfl (.own' memG (by rfl))) rfl (by kernel_rfl) (by kernel_rfl) (by kernel_rfl) ?_
  refine GA.val 2 rfl (V.neS ⟨rfl, rfl, rfl, rfl⟩ rfl rfl) rfl (by kernel_rfl) (by kernel_rfl) (by kernel_rfl) ?_
  refine GA.val 3 rfl (V.move ⟨rfl, rfl, rfl, rfl⟩ rfl) rfl (by kernel_rfl) (by kernel_rfl) (by kernel_rfl) ?_
  refine GA.caseB 17 rfl (fun hg2 => ?_) (fun hg2 => ?_)
  ·try simp only [dcQ] at hg2
   refine GA.val 4 rfl (V.move ⟨rfl, rfl, rfl, rfl⟩ rfl) rfl (by kernel_rfl) (by kernel_rfl) (by kernel_rfl) ?_
   refine GA.val 5 rfl (V.move ⟨rfl, rfl, rfl, rfl⟩ rfl) rfl (by kernel_rfl) (by kernel_rfl) (by kernel_rfl) ?_
   refine GA.val 6 rfl (V.indexAddrS ⟨rfl, rfl, rfl, rfl⟩ rfl rfl Tryz.underlying61 Tryz.sizeOf9 (by omega) (by omega)) rfl (by kernel_rfl) (by kernel_rfl) (by kernel_rfl) ?_
   refine GA.val 7 rfl (V.load1 ⟨rfl, rfl, rfl, rfl⟩ rfl Tryz.underlying9 rfl (hrd.mono (fun y hy => by repeat (first | exact hy | apply List.mem_cons_of_mem | apply List.mem_append_right)))) rfl (by kernel_rfl) (by kernel_rfl) (by kernel_rfl) ?_
   refine GA.val 8 rfl (V.fieldAddr ⟨rfl, rfl, rfl, rfl⟩ rfl Tryz.underlying26 rfl Tryz.sizeOf9) rfl (by kernel_rfl) (by kernel_rfl) (by kernel_rfl) ?_   -- "Var"
   refine GA.val 9 rfl (V.load1 ⟨rfl, rfl, rfl, rfl⟩ rfl Tryz.underlying9 rfl (.own' memG (by rfl))) rfl (by kernel_rfl) (by kernel_rfl) (by kernel_rfl) ?_
   refine GA.val 10 rfl (V.eqS ⟨rfl, rfl, rfl, rfl⟩ rfl rfl) rfl (by kernel_rfl) (by kernel_rfl) (by kernel_rfl) ?_
   refine GA.val 11 rfl (V.pick_t ⟨rfl, rfl, rfl, rfl⟩ rfl rfl) rfl (by kernel_rfl) (by kernel_rfl) (by kernel_rfl) ?_
   refine GA.done (by first | exact Hs.refl _ | exact Hs.tl _ | exact Hs.tl2 _ _ | exact Hs.tl3 _ _ _ | exact Hs.app _ | exact Hs.sub (by simp)) (by kernel_rfl) ?_
   refine GW.ite rfl (fun hc3 => ?_) (fun hc3 => ?_)
   ·try simp only [dcQ] at hc3
    refine GW.seq ?_
    refine GW.region ?_
    refine R.move ⟨rfl, rfl, rfl, rfl⟩ rfl ?_
    refine R.build (vs := [(0, _)]) (cells := (PlC ⟨(i : Nat), 0⟩).toArray) ⟨rfl, rfl, rfl, rfl⟩ rfl (fun w => run_build w 37 _ _ (by kernel_rfl)) ?_
    refine R.storeAll (G1 := []) rfl rfl rfl rfl rfl Tryz.sizeOf37 rfl rfl rfl rfl ?_
    refine GOps.nil ?_
    first | (replace hg2 : emp s.v = false := hg2; rw [placeW_var hg2 (h0.resolve_left (by rw [hg2]; simp)) hx (by rw [beq_toList_comm]; assumption)]; exact GW.ret (Out.of (resCellA rfl rfl Tryz.underlying37 rfl Tryz.sizeOf37 (Rds.own (C := (PlC ⟨(i : Nat), 0⟩).toArray) (by repeat (first | exact List.mem_cons_self | apply List.mem_cons_of_mem | apply List.mem_append_right | exact List.mem_append_left _ List.mem_cons_self)) 0 (PlC ⟨(i : Nat), 0⟩) (fun j v hv => by simpa using hv)) rfl) (Hs.tl2 _ _) ⟨_, Hl, ⟨rfl, hL⟩, rfl⟩)) | (rw [placeW_t h0]; exact GW.ret (Out.of (resCellA rfl rfl Tryz.underlying37 rfl Tryz.sizeOf37 (Rds.own (C := (PlC ⟨-1, (numF L s.t).1⟩).toArray) (by repeat (first | exact List.mem_cons_self | apply List.mem_cons_of_mem | apply List.mem_append_right | exact List.mem_append_left _ List.mem_cons_self)) 0 (PlC ⟨-1, (numF L s.t).1⟩) (fun j v hv => by simpa using hv)) rfl) (Hs.tl2 _ _) ⟨v2, Hl2, ⟨rfl, hL2⟩, rfl⟩))
   ·try simp only [dcQ] at hc3
    refine GW.skip ?_
    refine GW.region ?_
    refine R.move ⟨rfl, rfl, rfl, rfl⟩ rfl ?_
    refine R.add (r := (((i + 1) : Nat) : Int)) ⟨rfl, rfl, rfl, rfl⟩ rfl rfl (by rw [wrap64_id (by omega) (by omega)]; omega) ?_
    refine R.assign ⟨rfl, rfl, rfl, rfl⟩ rfl ?_
    refine GOps.nil ?_
    first | exact ⟨i + 1, by omega, ⟨by omega, .inl hg2⟩, rfl, by repeat (first | exact Keeps.nil _ | refine Keeps.cons rfl ?_), Hs.refl _⟩ | (replace hg2 : emp s.v = false := hg2; exact ⟨i + 1, by omega, ⟨by omega, .inr (any_take_succ _ vars i x hx (h0.resolve_left (by rw [hg2]; simp)) (by rw [beq_toList_comm]; assumption))⟩, rfl, by repeat (first | exact Keeps.nil _ | refine Keeps.cons rfl ?_), Hs.refl _⟩)
  ·try simp only [dcQ] at hg2
   refine GA.skip 4 rfl rfl rfl rfl rfl (by kernel_rfl) (by kernel_rfl) (by kernel_rfl) ?_
   refine GA.skip 5 rfl rfl rfl rfl rfl (by kernel_rfl) (by kernel_rfl) (by kernel_rfl) ?_
   refine GA.skip 6 rfl rfl rfl rfl rfl (by kernel_rfl) (by kernel_rfl) (by kernel_rfl) ?_
   refine GA.skip 7 rfl rfl rfl rfl rfl (by kernel_rfl) (by kernel_rfl) (by kernel_rfl) ?_
   refine GA.skip 8 rfl rfl rfl rfl rfl (by kernel_rfl) (by kernel_rfl) (by kernel_rfl) ?_
   refine GA.skip 9 rfl rfl rfl rfl rfl (by kernel_rfl) (by kernel_rfl) (by kernel_rfl) ?_
   refine GA.skip 10 rfl rfl rfl rfl rfl (by kernel_rfl) (by kernel_rfl) (by kernel_rfl) ?_
   refine GA.val 11 rfl (V.pick_f ⟨rfl, rfl, rfl, rfl⟩ rfl rfl) rfl (by kernel_rfl) (by kernel_rfl) (by kernel_rfl) ?_
   refine GA.done (by first | exact Hs.refl _ | exact Hs.tl _ | exact Hs.tl2 _ _ | exact Hs.tl3 _ _ _ | exact Hs.app _ | exact Hs.sub (by simp)) (by kernel_rfl) ?_
   refine GW.cond_f rfl ?_
   refine GW.skip ?_
   refine GW.region ?_
   refine R.move ⟨rfl, rfl, rfl, rfl⟩ rfl ?_
   refine R.add (r := (((i + 1) : Nat) : Int)) ⟨rfl, rfl, rfl, rfl⟩ rfl rfl (by rw [wrap64_id (by omega) (by omega)]; omega) ?_
   refine R.assign ⟨rfl, rfl, rfl, rfl⟩ rfl ?_
   refine GOps.nil ?_
   first | exact ⟨i + 1, by omega, ⟨by omega, .inl hg2⟩, rfl, by repeat (first | exact Keeps.nil _ | refine Keeps.cons rfl ?_), Hs.refl _⟩ | (replace hg2 : emp s.v = false := hg2; exact ⟨i + 1, by omega, ⟨by omega, .inr (any_take_succ _ vars i x hx (h0.resolve_left (by rw [hg2]; simp)) (by rw [beq_toList_comm]; assumption))⟩, rfl, by repeat (first | exact Keeps.nil _ | refine Keeps.cons rfl ?_), Hs.refl _⟩)
 ·try simp only [dcQ] at hc1
  rw [List.take_of_length_le (by omega)] at h0
  refine GW.exit ?_
  refine GW.seq ?_
  refine GW.region ?_
  refine R.move ⟨rfl, rfl, rfl, rfl⟩ rfl ?_
  refine R.fieldAddr ⟨rfl, rfl, rfl, rfl⟩ rfl Tryz.underlying26 rfl Tryz.sizeOf24 ?_   -- "Term"
  refine R.load_own (cs := TmC s.t) ⟨rfl, rfl, rfl, rfl⟩ rfl Tryz.underlying24 rfl Tryz.sizeOf24 memG (by rfl) (by rfl) ?_
  refine GOps.weak (Keeps.refl _) (Hs.toM2 _ _ _ _ _) ?_
  refine R.call ⟨rfl, rfl, rfl, rfl⟩ rfl (vs := [_, _]) rfl ((ref_Number _ _ L bW v Hl hL hm s.t).mono ?_)
  rintro _ _ ⟨v2, Hl2, ⟨rfl, hL2⟩, rfl⟩
  refine GOps.weak (Keeps.refl _) (Hs.fromM2 _ _ _ _ _) ?_
  refine R.build (vs := [(0, _), (1, _)]) (cells := (PlC ⟨-1, (numF L s.t).1⟩).toArray) ⟨rfl, rfl, rfl, rfl⟩ rfl (fun w => run_build w 37 _ _ (by kernel_rfl)) ?_
  refine R.storeAll (G1 := []) rfl rfl rfl rfl rfl Tryz.sizeOf37 rfl rfl rfl rfl ?_
  refine GOps.nil ?_
  first | (replace hg2 : emp s.v = false := hg2; rw [placeW_var hg2 (h0.resolve_left (by rw [hg2]; simp)) hx (by rw [beq_toList_comm]; assumption)]; exact GW.ret (Out.of (resCellA rfl rfl Tryz.underlying37 rfl Tryz.sizeOf37 (Rds.own (C := (PlC ⟨(i : Nat), 0⟩).toArray) (by repeat (first | exact List.mem_cons_self | apply List.mem_cons_of_mem | apply List.mem_append_right | exact List.mem_append_left _ List.mem_cons_self)) 0 (PlC ⟨(i : Nat), 0⟩) (fun j v hv => by simpa using hv)) rfl) (Hs.tl2 _ _) ⟨_, Hl, ⟨rfl, hL⟩, rfl⟩)) | (rw [placeW_t h0]; exact GW.ret (Out.of (resCellA rfl rfl Tryz.underlying37 rfl Tryz.sizeOf37 (Rds.own (C := (PlC ⟨-1, (numF L s.t).1⟩).toArray) (by repeat (first | exact List.mem_cons_self | apply List.mem_cons_of_mem | apply List.mem_append_right | exact List.mem_append_left _ List.mem_cons_self)) 0 (PlC ⟨-1, (numF L s.t).1⟩) (fun j v hv => by simpa using hv)) rfl) (Hs.tl2 _ _) ⟨v2, Hl2, ⟨rfl, hL2⟩, rfl⟩))
theorem ref_RowW (w0 : World) (G : Hp) (L : List Tm) (bW : Nat) (v : Value) (Hl : Hp) (hL : SlAt 3 24 (tmsC L) L.length v Hl) (hm : L.length ≤ 90000) (A : Option Addr) (vars : List ByteArray) (c : Nat) (hv : StAt w0 G A vars) (hvm : vars.length ≤ 100000) (p : Pt) : GC Tryz.prog w0 16 #[.pointer (some ⟨bW, 0, none⟩), .slice A vars.length c, .agg (PtC p).toArray] (fun r G' => ∃ v' Hl', (r = .agg (RwC (rowW vars L p).1).toArray ∧ SlAt 3 24 (tmsC (rowW vars L p).2) (rowW vars L p).2.length v' Hl') ∧ (bW, woC v') :: (Hl' ++ G) = G') ((bW, woC v) :: (Hl ++ G)) := by
 refine GC.body (args := [.pointer (some ⟨bW, 0, none⟩), .slice A vars.length c, .agg (PtC p).toArray]) Tryz.func16 rfl (by kernel_rfl) rfl ?_
 refine GW.seq ?_
 refine GW.region ?_
 refine R.box ⟨rfl, rfl, rfl, rfl⟩ rfl fun b5 => ?_
 refine R.alloc ⟨rfl, rfl, rfl, rfl⟩ Tryz.zeroValue38 fun b6 => ?_
 refine GOps.nil ?_
 refine GW.seq ?_
 refine GW.region ?_
 refine R.alloc ⟨rfl, rfl, rfl, rfl⟩ Tryz.zeroValue38 fun b7 => ?_
 refine GOps.nil ?_
 refine GW.seq ?_
 refine GW.seq ?_
 refine GW.region ?_
 refine R.assign ⟨rfl, rfl, rfl, rfl⟩ rfl ?_
 refine GOps.nil ?_
 refine GW.block ?_
 refine GW.loop4 (fun (k : Nat) (a : List Pl × List Tm) (h : Value × Hp) (u1 : Unit) => [(0, .pointer (some ⟨bW, 0, none⟩)), (1, .slice A vars.length c), (5, .pointer (some ⟨b5, 0, none⟩)), (6, .pointer (some ⟨b6, 0, none⟩)), (7, .pointer (some ⟨b7, 0, none⟩)), (8, .int .i64 k)]) (fun (k : Nat) (a : List Pl × List Tm) (h : Value × Hp) (u1 : Unit) => (b7, .exact (.cells (padC a.1) 38 (0, 0))) :: (b6, .exact (.cells (padC []) 38 (0, 0))) :: (b5, .exact (.cells (Value.agg (PtC p).toArray).cells 28 (0, 0))) :: (bW, woC h.1) :: (h.2 ++ G)) (fun k : Nat => 3 - k) (fun (k : Nat) (a : List Pl × List Tm) (h : Value × Hp) (u1 : Unit) => k ≤ 3 ∧ a = rowToW vars L p k ∧ a.1.length = k ∧ a.2.length ≤ L.length + k ∧ SlAt 3 24 (tmsC a.2) a.2.length h.1 h.2) 0 (([], L)) ((v, Hl)) (())
  (by repeat (first | exact Keeps.nil _ | refine Keeps.cons rfl ?_)) (Hs.refl _) (⟨by omega, rfl, rfl, by simp, hL⟩) ?_
 rintro k a h u1 ⟨hk, ha, hal, ham, hL2⟩
 refine GW.seq ?_
 refine GW.seq ?_
 refine GW.region ?_
 refine R.move ⟨rfl, rfl, rfl, rfl⟩ rfl ?_
 refine R.lss ⟨rfl, rfl, rfl, rfl⟩ rfl rfl ?_
 refine GOps.nil ?_
 refine GW.ite rfl (fun hc1 => ?_) (fun hc1 => ?_)
 ·try simp only [dcQ] at hc1
  obtain ⟨s, hs, hsm, hse⟩ := pt_index (p := p) (k := k) (by omega)
  refine GW.skip ?_
  refine GW.seq ?_
  refine GW.block ?_
  refine GW.region ?_
  refine R.move ⟨rfl, rfl, rfl, rfl⟩ rfl ?_
  refine R.move ⟨rfl, rfl, rfl, rfl⟩ rfl ?_
  refine R.move ⟨rfl, rfl, rfl, rfl⟩ rfl ?_
  refine R.move ⟨rfl, rfl, rfl, rfl⟩ rfl ?_
  refine R.indexAddrA ⟨rfl, rfl, rfl, rfl⟩ rfl rfl Tryz.underlying28 Tryz.sizeOf26 (by omega) (by omega) ?_
  refine R.loadA ⟨rfl, rfl, rfl, rfl⟩ rfl Tryz.underlying26 rfl Tryz.sizeOf26 (pt_load (by repeat (first | exact List.mem_cons_self | apply List.mem_cons_of_mem | apply List.mem_append_right | exact List.mem_append_left _ List.mem_cons_self)) hs) (by rfl) ?_
  refine GOps.weak (Keeps.refl _) (Hs.toM3 _ _ _ _ _ _) ?_
  refine R.call ⟨rfl, rfl, rfl, rfl⟩ rfl (vs := [_, _, _]) rfl ((ref_Place _ _ (a.2) bW h.1 h.2 hL2 ((by omega)) A vars c (hv.mono (fun y hy => by repeat (first | exact hy | apply List.mem_cons_of_mem | apply List.mem_append_right))) hvm s).mono ?_)
  rintro _ _ ⟨v3, Hl3, ⟨rfl, hL3⟩, rfl⟩
  refine GOps.weak (Keeps.refl _) (Hs.fromM3 _ _ _ _ _ _) ?_
  refine R.indexAddrA ⟨rfl, rfl, rfl, rfl⟩ rfl rfl Tryz.underlying38 Tryz.sizeOf37 (by omega) (by omega) ?_
  refine R.store (G1 := []) rfl rfl rfl rfl rfl Tryz.sizeOf37 rfl rfl (rfl) (by rw [pad_size]; omega) ?_
  refine GOps.nil ?_
  refine GW.region ?_
  refine R.move ⟨rfl, rfl, rfl, rfl⟩ rfl ?_
  refine R.add (r := (((k + 1) : Nat) : Int)) ⟨rfl, rfl, rfl, rfl⟩ rfl rfl (by rw [wrap64_id (by omega) (by omega)]; omega) ?_
  refine R.assign ⟨rfl, rfl, rfl, rfl⟩ rfl ?_
  refine GOps.nil ?_
  exact ⟨k + 1, rowStepW vars a s, (v3, Hl3), (), by omega, ⟨by omega, by rw [rowToW_succ hs, ← ha], by show (a.1 ++ [_]).length = k + 1; rw [List.length_append, hal]; rfl, by have := placeW_len vars a.2 s; show (placeW vars a.2 s).2.length ≤ _; omega, hL3⟩, rfl, by repeat (first | exact Keeps.nil _ | refine Keeps.cons rfl ?_), by first | exact Hs.refl _ | exact Hs.tl _ | exact Hs.tl2 _ _ | exact Hs.padTl1 (pad_put _ hal (by omega)) _⟩
 ·try simp only [dcQ] at hc1
  obtain rfl : k = 3 := by omega
  rw [rowToW_3] at ha
  subst ha
  obtain ⟨v4, Hl4⟩ := h
  refine GW.exit ?_
  refine GW.seq ?_
  refine GW.region ?_
  refine R.load_own (cs := RwC (rowW vars L p).1) ⟨rfl, rfl, rfl, rfl⟩ rfl Tryz.underlying38 rfl Tryz.sizeOf38 memG (by rfl) (by rfl) ?_
  refine R.storeAll (G1 := [_]) rfl rfl rfl rfl rfl Tryz.sizeOf38 rfl rfl rfl rfl ?_
  refine GOps.nil ?_
  exact GW.ret (Out.of (resCellA rfl rfl Tryz.underlying38 rfl Tryz.sizeOf38 (Rds.own (C := (RwC (rowW vars L p).1).toArray) (by repeat (first | exact List.mem_cons_self | apply List.mem_cons_of_mem | apply List.mem_append_right | exact List.mem_append_left _ List.mem_cons_self)) 0 (RwC (rowW vars L p).1) (fun j v hv => by simpa using hv)) rfl) (Hs.tl3 _ _ _) ⟨v4, Hl4, ⟨rfl, hL2⟩, rfl⟩)
theorem ref_StepW (w0 : World) (G : Hp) (L : List Tm) (bW : Nat) (v : Value) (Hl : Hp) (hL : SlAt 3 24 (tmsC L) L.length v Hl) (hm : L.length ≤ 90000) (A : Option Addr) (vars : List ByteArray) (c : Nat) (hv : StAt w0 G A vars) (hvm : vars.length ≤ 100000) (l : Lt) : GC Tryz.prog w0 39 #[.pointer (some ⟨bW, 0, none⟩), .slice A vars.length c, .agg (LtC l).toArray] (fun r G' => ∃ v' Hl', (r = .agg (StC (stepW vars L l).1).toArray ∧ SlAt 3 24 (tmsC (stepW vars L l).2) (stepW vars L l).2.length v' Hl') ∧ (bW, woC v') :: (Hl' ++ G) = G') ((bW, woC v) :: (Hl ++ G)) := by
 refine GC.body (args := [.pointer (some ⟨bW, 0, none⟩), .slice A vars.length c, .agg (LtC l).toArray]) Tryz.func39 rfl (by kernel_rfl) rfl ?_
 refine GW.seq ?_
 refine GW.region ?_
 refine R.box ⟨rfl, rfl, rfl, rfl⟩ rfl fun b5 => ?_
 refine R.alloc ⟨rfl, rfl, rfl, rfl⟩ Tryz.zeroValue50 fun b6 => ?_
 refine GOps.nil ?_
 refine GW.seq ?_
 refine GW.seq ?_
 refine GW.region ?_
 refine R.fieldAddr ⟨rfl, rfl, rfl, rfl⟩ rfl Tryz.underlying89 rfl Tryz.sizeOf87 ?_   -- "Kind"
 refine R.load1 ⟨rfl, rfl, rfl, rfl⟩ rfl Tryz.underlying87 rfl (.own' memG (by rfl)) ?_
 refine R.eqI ⟨rfl, rfl, rfl, rfl⟩ rfl rfl ?_
 refine GOps.nil ?_
 refine GW.ite rfl (fun hc1 => ?_) (fun hc1 => ?_)
 ·try simp only [dcQ] at hc1
  refine GW.seq ?_
  refine GW.region ?_
  refine R.move ⟨rfl, rfl, rfl, rfl⟩ rfl ?_
  refine R.move ⟨rfl, rfl, rfl, rfl⟩ rfl ?_
  refine R.fieldAddr ⟨rfl, rfl, rfl, rfl⟩ rfl Tryz.underlying89 rfl Tryz.sizeOf28 ?_   -- "Pattern"
  refine R.load_own (cs := PtC l.pat) ⟨rfl, rfl, rfl, rfl⟩ rfl Tryz.underlying28 rfl Tryz.sizeOf28 memG (by rfl) (by rfl) ?_
  refine GOps.weak (Keeps.refl _) (Hs.toM2 _ _ _ _ _) ?_
  refine R.call ⟨rfl, rfl, rfl, rfl⟩ rfl (vs := [_, _, _]) rfl ((ref_RowW _ _ L bW v Hl hL hm A vars c (hv.mono (fun y hy => by repeat (first | exact hy | apply List.mem_cons_of_mem | apply List.mem_append_right))) hvm l.pat).mono ?_)
  rintro _ _ ⟨v2, Hl2, ⟨rfl, hL2⟩, rfl⟩
  refine GOps.weak (Keeps.refl _) (Hs.fromM2 _ _ _ _ _) ?_
  refine R.build (vs := [(0, _), (1, _)]) (cells := (StC ⟨1, (rowW vars L l.pat).1, zPl, zPl⟩).toArray) ⟨rfl, rfl, rfl, rfl⟩ rfl (fun w => run_build w 50 _ _ (by kernel_rfl)) ?_
  refine R.storeAll (G1 := []) rfl rfl rfl rfl rfl Tryz.sizeOf50 rfl rfl rfl rfl ?_
  refine GOps.nil ?_
  first | (rw [stepW_1 (by assumption)]; exact GW.ret (Out.of (resCellA rfl rfl Tryz.underlying50 rfl Tryz.sizeOf50 (Rds.own (C := (StC ⟨1, (rowW vars L l.pat).1, zPl, zPl⟩).toArray) (by repeat (first | exact List.mem_cons_self | apply List.mem_cons_of_mem | apply List.mem_append_right | exact List.mem_append_left _ List.mem_cons_self)) 0 (StC ⟨1, (rowW vars L l.pat).1, zPl, zPl⟩) (fun j v hv => by simpa using hv)) rfl) (Hs.tl2 _ _) ⟨v2, Hl2, ⟨rfl, hL2⟩, rfl⟩)) | (rw [stepW_2 (by assumption) (by assumption)]; exact GW.ret (Out.of (resCellA rfl rfl Tryz.underlying50 rfl Tryz.sizeOf50 (Rds.own (C := (StC ⟨2, (rowW vars L l.pat).1, zPl, zPl⟩).toArray) (by repeat (first | exact List.mem_cons_self | apply List.mem_cons_of_mem | apply List.mem_append_right | exact List.mem_append_left _ List.mem_cons_self)) 0 (StC ⟨2, (rowW vars L l.pat).1, zPl, zPl⟩) (fun j v hv => by simpa using hv)) rfl) (Hs.tl2 _ _) ⟨v2, Hl2, ⟨rfl, hL2⟩, rfl⟩)) | (rw [stepW_4 (by assumption) (by assumption) (by assumption)]; exact GW.ret (Out.of (resCellA rfl rfl Tryz.underlying50 rfl Tryz.sizeOf50 (Rds.own (C := (StC ⟨4, zRw, (placeW vars L l.a).1, (placeW vars (placeW vars L l.a).2 l.b).1⟩).toArray) (by repeat (first | exact List.mem_cons_self | apply List.mem_cons_of_mem | apply List.mem_append_right | exact List.mem_append_left _ List.mem_cons_self)) 0 (StC ⟨4, zRw, (placeW vars L l.a).1, (placeW vars (placeW vars L l.a).2 l.b).1⟩) (fun j v hv => by simpa using hv)) rfl) (Hs.tl2 _ _) ⟨v3, Hl3, ⟨rfl, hL3⟩, rfl⟩)) | (rw [stepW_3 (by assumption) (by assumption) (by assumption)]; exact GW.ret (Out.of (resCellA rfl rfl Tryz.underlying50 rfl Tryz.sizeOf50 (Rds.own (C := (StC ⟨3, zRw, (placeW vars L l.a).1, (placeW vars (placeW vars L l.a).2 l.b).1⟩).toArray) (by repeat (first | exact List.mem_cons_self | apply List.mem_cons_of_mem | apply List.mem_append_right | exact List.mem_append_left _ List.mem_cons_self)) 0 (StC ⟨3, zRw, (placeW vars L l.a).1, (placeW vars (placeW vars L l.a).2 l.b).1⟩) (fun j v hv => by simpa using hv)) rfl) (Hs.tl2 _ _) ⟨v3, Hl3, ⟨rfl, hL3⟩, rfl⟩))
 ·try simp only [dcQ] at hc1
  refine GW.skip ?_
  refine GW.seq ?_
  refine GW.seq ?_
  refine GW.region ?_
  refine R.fieldAddr ⟨rfl, rfl, rfl, rfl⟩ rfl Tryz.underlying89 rfl Tryz.sizeOf87 ?_   -- "Kind"
  refine R.load1 ⟨rfl, rfl, rfl, rfl⟩ rfl Tryz.underlying87 rfl (.own' memG (by rfl)) ?_
  refine R.eqI ⟨rfl, rfl, rfl, rfl⟩ rfl rfl ?_
  refine GOps.nil ?_
  refine GW.ite rfl (fun hc2 => ?_) (fun hc2 => ?_)
  ·try simp only [dcQ] at hc2
   refine GW.seq ?_
   refine GW.region ?_
   refine R.move ⟨rfl, rfl, rfl, rfl⟩ rfl ?_
   refine R.move ⟨rfl, rfl, rfl, rfl⟩ rfl ?_
   refine R.fieldAddr ⟨rfl, rfl, rfl, rfl⟩ rfl Tryz.underlying89 rfl Tryz.sizeOf28 ?_   -- "Pattern"
   refine R.load_own (cs := PtC l.pat) ⟨rfl, rfl, rfl, rfl⟩ rfl Tryz.underlying28 rfl Tryz.sizeOf28 memG (by rfl) (by rfl) ?_
   refine GOps.weak (Keeps.refl _) (Hs.toM2 _ _ _ _ _) ?_
   refine R.call ⟨rfl, rfl, rfl, rfl⟩ rfl (vs := [_, _, _]) rfl ((ref_RowW _ _ L bW v Hl hL hm A vars c (hv.mono (fun y hy => by repeat (first | exact hy | apply List.mem_cons_of_mem | apply List.mem_append_right))) hvm l.pat).mono ?_)
   rintro _ _ ⟨v2, Hl2, ⟨rfl, hL2⟩, rfl⟩
   refine GOps.weak (Keeps.refl _) (Hs.fromM2 _ _ _ _ _) ?_
   refine R.build (vs := [(0, _), (1, _)]) (cells := (StC ⟨2, (rowW vars L l.pat).1, zPl, zPl⟩).toArray) ⟨rfl, rfl, rfl, rfl⟩ rfl (fun w => run_build w 50 _ _ (by kernel_rfl)) ?_
   refine R.storeAll (G1 := []) rfl rfl rfl rfl rfl Tryz.sizeOf50 rfl rfl rfl rfl ?_
   refine GOps.nil ?_
   first | (rw [stepW_1 (by assumption)]; exact GW.ret (Out.of (resCellA rfl rfl Tryz.underlying50 rfl Tryz.sizeOf50 (Rds.own (C := (StC ⟨1, (rowW vars L l.pat).1, zPl, zPl⟩).toArray) (by repeat (first | exact List.mem_cons_self | apply List.mem_cons_of_mem | apply List.mem_append_right | exact List.mem_append_left _ List.mem_cons_self)) 0 (StC ⟨1, (rowW vars L l.pat).1, zPl, zPl⟩) (fun j v hv => by simpa using hv)) rfl) (Hs.tl2 _ _) ⟨v2, Hl2, ⟨rfl, hL2⟩, rfl⟩)) | (rw [stepW_2 (by assumption) (by assumption)]; exact GW.ret (Out.of (resCellA rfl rfl Tryz.underlying50 rfl Tryz.sizeOf50 (Rds.own (C := (StC ⟨2, (rowW vars L l.pat).1, zPl, zPl⟩).toArray) (by repeat (first | exact List.mem_cons_self | apply List.mem_cons_of_mem | apply List.mem_append_right | exact List.mem_append_left _ List.mem_cons_self)) 0 (StC ⟨2, (rowW vars L l.pat).1, zPl, zPl⟩) (fun j v hv => by simpa using hv)) rfl) (Hs.tl2 _ _) ⟨v2, Hl2, ⟨rfl, hL2⟩, rfl⟩)) | (rw [stepW_4 (by assumption) (by assumption) (by assumption)]; exact GW.ret (Out.of (resCellA rfl rfl Tryz.underlying50 rfl Tryz.sizeOf50 (Rds.own (C := (StC ⟨4, zRw, (placeW vars L l.a).1, (placeW vars (placeW vars L l.a).2 l.b).1⟩).toArray) (by repeat (first | exact List.mem_cons_self | apply List.mem_cons_of_mem | apply List.mem_append_right | exact List.mem_append_left _ List.mem_cons_self)) 0 (StC ⟨4, zRw, (placeW vars L l.a).1, (placeW vars (placeW vars L l.a).2 l.b).1⟩) (fun j v hv => by simpa using hv)) rfl) (Hs.tl2 _ _) ⟨v3, Hl3, ⟨rfl, hL3⟩, rfl⟩)) | (rw [stepW_3 (by assumption) (by assumption) (by assumption)]; exact GW.ret (Out.of (resCellA rfl rfl Tryz.underlying50 rfl Tryz.sizeOf50 (Rds.own (C := (StC ⟨3, zRw, (placeW vars L l.a).1, (placeW vars (placeW vars L l.a).2 l.b).1⟩).toArray) (by repeat (first | exact List.mem_cons_self | apply List.mem_cons_of_mem | apply List.mem_append_right | exact List.mem_append_left _ List.mem_cons_self)) 0 (StC ⟨3, zRw, (placeW vars L l.a).1, (placeW vars (placeW vars L l.a).2 l.b).1⟩) (fun j v hv => by simpa using hv)) rfl) (Hs.tl2 _ _) ⟨v3, Hl3, ⟨rfl, hL3⟩, rfl⟩))
  ·try simp only [dcQ] at hc2
   refine GW.skip ?_
   refine GW.seq ?_
   refine GW.region ?_
   refine R.assign ⟨rfl, rfl, rfl, rfl⟩ rfl ?_
   refine GOps.nil ?_
   refine GW.seq ?_
   refine GW.seq ?_
   refine GW.region ?_
   refine R.fieldAddr ⟨rfl, rfl, rfl, rfl⟩ rfl Tryz.underlying89 rfl Tryz.sizeOf87 ?_   -- "Kind"
   refine R.load1 ⟨rfl, rfl, rfl, rfl⟩ rfl Tryz.underlying87 rfl (.own' memG (by rfl)) ?_
   refine R.eqI ⟨rfl, rfl, rfl, rfl⟩ rfl rfl ?_
   refine GOps.nil ?_
   refine GW.ite rfl (fun hc3 => ?_) (fun hc3 => ?_)
   ·try simp only [dcQ] at hc3
    refine GW.region ?_
    refine R.assign ⟨rfl, rfl, rfl, rfl⟩ rfl ?_
    refine GOps.nil ?_
    refine GW.seq ?_
    refine GW.draw ((b5, .exact (.cells (Value.agg (LtC l).toArray).cells 89 (0, 0))) :: G) 13 rfl (by kernel_rfl) ?_
    refine GA.val 0 rfl (V.move ⟨rfl, rfl, rfl, rfl⟩ rfl) rfl (by kernel_rfl) (by kernel_rfl) (by kernel_rfl) ?_
    refine GA.val 1 rfl (V.move ⟨rfl, rfl, rfl, rfl⟩ rfl) rfl (by kernel_rfl) (by kernel_rfl) (by kernel_rfl) ?_
    refine GA.val 2 rfl (V.move ⟨rfl, rfl, rfl, rfl⟩ rfl) rfl (by kernel_rfl) (by kernel_rfl) (by kernel_rfl) ?_
    refine GA.val 3 rfl (V.fieldAddr ⟨rfl, rfl, rfl, rfl⟩ rfl Tryz.underlying89 rfl Tryz.sizeOf26) rfl (by kernel_rfl) (by kernel_rfl) (by kernel_rfl) ?_   -- "A"
    refine GA.val 4 rfl (V.load_own (cs := SlC l.a) ⟨rfl, rfl, rfl, rfl⟩ rfl Tryz.underlying26 rfl Tryz.sizeOf26 memG (by rfl) (by rfl)) rfl (by kernel_rfl) (by kernel_rfl) (by kernel_rfl) ?_
    refine GA.val 6 rfl (V.move ⟨rfl, rfl, rfl, rfl⟩ rfl) rfl (by kernel_rfl) (by kernel_rfl) (by kernel_rfl) ?_
    refine GA.val 7 rfl (V.move ⟨rfl, rfl, rfl, rfl⟩ rfl) rfl (by kernel_rfl) (by kernel_rfl) (by kernel_rfl) ?_
    refine GA.val 8 rfl (V.fieldAddr ⟨rfl, rfl, rfl, rfl⟩ rfl Tryz.underlying89 rfl Tryz.sizeOf26) rfl (by kernel_rfl) (by kernel_rfl) (by kernel_rfl) ?_   -- "B"
    refine GA.val 9 rfl (V.load_own (cs := SlC l.b) ⟨rfl, rfl, rfl, rfl⟩ rfl Tryz.underlying26 rfl Tryz.sizeOf26 memG (by rfl) (by rfl)) rfl (by kernel_rfl) (by kernel_rfl) (by kernel_rfl) ?_
    refine GA.one 5 (by first | exact Hs.gj2 _ _ _ _ _ | exact Hs.refl _ | exact Hs.tl _ | exact Hs.tl2 _ _ | exact Hs.tl3 _ _ _ | exact Hs.app _ | exact Hs.sub (by simp)) (by kernel_rfl) rfl ?_
    refine GOps.weak (Keeps.refl _) (Hs.toM2 _ _ _ _ _) ?_
    refine R.call ⟨rfl, rfl, rfl, rfl⟩ rfl (vs := [_, _, _]) rfl ((ref_Place _ _ (L) bW v Hl hL ((by omega)) A vars c (hv.mono (fun y hy => by repeat (first | exact hy | apply List.mem_cons_of_mem | apply List.mem_append_right))) hvm l.a).mono ?_)
    rintro _ _ ⟨v2, Hl2, ⟨rfl, hL2⟩, rfl⟩
    refine GOps.weak (Keeps.refl _) (Hs.fromM2 _ _ _ _ _) ?_
    refine GOps.nil ?_
    refine GA.one 10 (by first | exact Hs.gj2 _ _ _ _ _ | exact Hs.refl _ | exact Hs.tl _ | exact Hs.tl2 _ _ | exact Hs.tl3 _ _ _ | exact Hs.app _ | exact Hs.sub (by simp)) (by kernel_rfl) rfl ?_
    refine GOps.weak (Keeps.refl _) (Hs.toM2 _ _ _ _ _) ?_
    refine R.call ⟨rfl, rfl, rfl, rfl⟩ rfl (vs := [_, _, _]) rfl ((ref_Place _ _ ((placeW vars L l.a).2) bW v2 Hl2 hL2 ((by have := placeW_len vars L l.a; omega)) A vars c (hv.mono (fun y hy => by repeat (first | exact hy | apply List.mem_cons_of_mem | apply List.mem_append_right))) hvm l.b).mono ?_)
    rintro _ _ ⟨v3, Hl3, ⟨rfl, hL3⟩, rfl⟩
    refine GOps.weak (Keeps.refl _) (Hs.fromM2 _ _ _ _ _) ?_
    refine GOps.nil ?_
    refine GA.val 11 rfl (V.build (vs := [(0, _), (2, _), (3, _)]) (cells := (StC ⟨4, zRw, (placeW vars L l.a).1, (placeW vars (placeW vars L l.a).2 l.b).1⟩).toArray) ⟨rfl, rfl, rfl, rfl⟩ rfl (fun w => run_build w 50 _ _ (by kernel_rfl))) rfl (by kernel_rfl) (by kernel_rfl) (by kernel_rfl) ?_
    refine GA.one 12 (by first | exact Hs.gj2 _ _ _ _ _ | exact Hs.refl _ | exact Hs.tl _ | exact Hs.tl2 _ _ | exact Hs.tl3 _ _ _ | exact Hs.app _ | exact Hs.sub (by simp)) (by kernel_rfl) rfl ?_
    refine R.storeAll (G1 := []) rfl rfl rfl rfl rfl Tryz.sizeOf50 rfl rfl rfl rfl ?_
    refine GOps.nil ?_
    refine GA.done (by first | exact Hs.gj2 _ _ _ _ _ | exact Hs.refl _ | exact Hs.tl _ | exact Hs.tl2 _ _ | exact Hs.tl3 _ _ _ | exact Hs.app _ | exact Hs.sub (by simp)) (by kernel_rfl) ?_
    first | (rw [stepW_1 (by assumption)]; exact GW.ret (Out.of (resCellA rfl rfl Tryz.underlying50 rfl Tryz.sizeOf50 (Rds.own (C := (StC ⟨1, (rowW vars L l.pat).1, zPl, zPl⟩).toArray) (by repeat (first | exact List.mem_cons_self | apply List.mem_cons_of_mem | apply List.mem_append_right | exact List.mem_append_left _ List.mem_cons_self)) 0 (StC ⟨1, (rowW vars L l.pat).1, zPl, zPl⟩) (fun j v hv => by simpa using hv)) rfl) (Hs.tl2 _ _) ⟨v2, Hl2, ⟨rfl, hL2⟩, rfl⟩)) | (rw [stepW_2 (by assumption) (by assumption)]; exact GW.ret (Out.of (resCellA rfl rfl Tryz.underlying50 rfl Tryz.sizeOf50 (Rds.own (C := (StC ⟨2, (rowW vars L l.pat).1, zPl, zPl⟩).toArray) (by repeat (first | exact List.mem_cons_self | apply List.mem_cons_of_mem | apply List.mem_append_right | exact List.mem_append_left _ List.mem_cons_self)) 0 (StC ⟨2, (rowW vars L l.pat).1, zPl, zPl⟩) (fun j v hv => by simpa using hv)) rfl) (Hs.tl2 _ _) ⟨v2, Hl2, ⟨rfl, hL2⟩, rfl⟩)) | (rw [stepW_4 (by assumption) (by assumption) (by assumption)]; exact GW.ret (Out.of (resCellA rfl rfl Tryz.underlying50 rfl Tryz.sizeOf50 (Rds.own (C := (StC ⟨4, zRw, (placeW vars L l.a).1, (placeW vars (placeW vars L l.a).2 l.b).1⟩).toArray) (by repeat (first | exact List.mem_cons_self | apply List.mem_cons_of_mem | apply List.mem_append_right | exact List.mem_append_left _ List.mem_cons_self)) 0 (StC ⟨4, zRw, (placeW vars L l.a).1, (placeW vars (placeW vars L l.a).2 l.b).1⟩) (fun j v hv => by simpa using hv)) rfl) (Hs.tl2 _ _) ⟨v3, Hl3, ⟨rfl, hL3⟩, rfl⟩)) | (rw [stepW_3 (by assumption) (by assumption) (by assumption)]; exact GW.ret (Out.of (resCellA rfl rfl Tryz.underlying50 rfl Tryz.sizeOf50 (Rds.own (C := (StC ⟨3, zRw, (placeW vars L l.a).1, (placeW vars (placeW vars L l.a).2 l.b).1⟩).toArray) (by repeat (first | exact List.mem_cons_self | apply List.mem_cons_of_mem | apply List.mem_append_right | exact List.mem_append_left _ List.mem_cons_self)) 0 (StC ⟨3, zRw, (placeW vars L l.a).1, (placeW vars (placeW vars L l.a).2 l.b).1⟩) (fun j v hv => by simpa using hv)) rfl) (Hs.tl2 _ _) ⟨v3, Hl3, ⟨rfl, hL3⟩, rfl⟩))
   ·try simp only [dcQ] at hc3
    refine GW.skip ?_
    refine GW.seq ?_
    refine GW.draw ((b5, .exact (.cells (Value.agg (LtC l).toArray).cells 89 (0, 0))) :: G) 13 rfl (by kernel_rfl) ?_
    refine GA.val 0 rfl (V.move ⟨rfl, rfl, rfl, rfl⟩ rfl) rfl (by kernel_rfl) (by kernel_rfl) (by kernel_rfl) ?_
    refine GA.val 1 rfl (V.move ⟨rfl, rfl, rfl, rfl⟩ rfl) rfl (by kernel_rfl) (by kernel_rfl) (by kernel_rfl) ?_
    refine GA.val 2 rfl (V.move ⟨rfl, rfl, rfl, rfl⟩ rfl) rfl (by kernel_rfl) (by kernel_rfl) (by kernel_rfl) ?_
    refine GA.val 3 rfl (V.fieldAddr ⟨rfl, rfl, rfl, rfl⟩ rfl Tryz.underlying89 rfl Tryz.sizeOf26) rfl (by kernel_rfl) (by kernel_rfl) (by kernel_rfl) ?_   -- "A"
    refine GA.val 4 rfl (V.load_own (cs := SlC l.a) ⟨rfl, rfl, rfl, rfl⟩ rfl Tryz.underlying26 rfl Tryz.sizeOf26 memG (by rfl) (by rfl)) rfl (by kernel_rfl) (by kernel_rfl) (by kernel_rfl) ?_
    refine GA.val 6 rfl (V.move ⟨rfl, rfl, rfl, rfl⟩ rfl) rfl (by kernel_rfl) (by kernel_rfl) (by kernel_rfl) ?_
    refine GA.val 7 rfl (V.move ⟨rfl, rfl, rfl, rfl⟩ rfl) rfl (by kernel_rfl) (by kernel_rfl) (by kernel_rfl) ?_
    refine GA.val 8 rfl (V.fieldAddr ⟨rfl, rfl, rfl, rfl⟩ rfl Tryz.underlying89 rfl Tryz.sizeOf26) rfl (by kernel_rfl) (by kernel_rfl) (by kernel_rfl) ?_   -- "B"
    refine GA.val 9 rfl (V.load_own (cs := SlC l.b) ⟨rfl, rfl, rfl, rfl⟩ rfl Tryz.underlying26 rfl Tryz.sizeOf26 memG (by rfl) (by rfl)) rfl (by kernel_rfl) (by kernel_rfl) (by kernel_rfl) ?_
    refine GA.one 5 (by first | exact Hs.gj2 _ _ _ _ _ | exact Hs.refl _ | exact Hs.tl _ | exact Hs.tl2 _ _ | exact Hs.tl3 _ _ _ | exact Hs.app _ | exact Hs.sub (by simp)) (by kernel_rfl) rfl ?_
    refine GOps.weak (Keeps.refl _) (Hs.toM2 _ _ _ _ _) ?_
    refine R.call ⟨rfl, rfl, rfl, rfl⟩ rfl (vs := [_, _, _]) rfl ((ref_Place _ _ (L) bW v Hl hL ((by omega)) A vars c (hv.mono (fun y hy => by repeat (first | exact hy | apply List.mem_cons_of_mem | apply List.mem_append_right))) hvm l.a).mono ?_)
    rintro _ _ ⟨v2, Hl2, ⟨rfl, hL2⟩, rfl⟩
    refine GOps.weak (Keeps.refl _) (Hs.fromM2 _ _ _ _ _) ?_
    refine GOps.nil ?_
    refine GA.one 10 (by first | exact Hs.gj2 _ _ _ _ _ | exact Hs.refl _ | exact Hs.tl _ | exact Hs.tl2 _ _ | exact Hs.tl3 _ _ _ | exact Hs.app _ | exact Hs.sub (by simp)) (by kernel_rfl) rfl ?_
    refine GOps.weak (Keeps.refl _) (Hs.toM2 _ _ _ _ _) ?_
    refine R.call ⟨rfl, rfl, rfl, rfl⟩ rfl (vs := [_, _, _]) rfl ((ref_Place _ _ ((placeW vars L l.a).2) bW v2 Hl2 hL2 ((by have := placeW_len vars L l.a; omega)) A vars c (hv.mono (fun y hy => by repeat (first | exact hy | apply List.mem_cons_of_mem | apply List.mem_append_right))) hvm l.b).mono ?_)
    rintro _ _ ⟨v3, Hl3, ⟨rfl, hL3⟩, rfl⟩
    refine GOps.weak (Keeps.refl _) (Hs.fromM2 _ _ _ _ _) ?_
    refine GOps.nil ?_
    refine GA.val 11 rfl (V.build (vs := [(0, _), (2, _), (3, _)]) (cells := (StC ⟨3, zRw, (placeW vars L l.a).1, (placeW vars (placeW vars L l.a).2 l.b).1⟩).toArray) ⟨rfl, rfl, rfl, rfl⟩ rfl (fun w => run_build w 50 _ _ (by kernel_rfl))) rfl (by kernel_rfl) (by kernel_rfl) (by kernel_rfl) ?_
    refine GA.one 12 (by first | exact Hs.gj2 _ _ _ _ _ | exact Hs.refl _ | exact Hs.tl _ | exact Hs.tl2 _ _ | exact Hs.tl3 _ _ _ | exact Hs.app _ | exact Hs.sub (by simp)) (by kernel_rfl) rfl ?_
    refine R.storeAll (G1 := []) rfl rfl rfl rfl rfl Tryz.sizeOf50 rfl rfl rfl rfl ?_
    refine GOps.nil ?_
    refine GA.done (by first | exact Hs.gj2 _ _ _ _ _ | exact Hs.refl _ | exact Hs.tl _ | exact Hs.tl2 _ _ | exact Hs.tl3 _ _ _ | exact Hs.app _ | exact Hs.sub (by simp)) (by kernel_rfl) ?_
    first | (rw [stepW_1 (by assumption)]; exact GW.ret (Out.of (resCellA rfl rfl Tryz.underlying50 rfl Tryz.sizeOf50 (Rds.own (C := (StC ⟨1, (rowW vars L l.pat).1, zPl, zPl⟩).toArray) (by repeat (first | exact List.mem_cons_self | apply List.mem_cons_of_mem | apply List.mem_append_right | exact List.mem_append_left _ List.mem_cons_self)) 0 (StC ⟨1, (rowW vars L l.pat).1, zPl, zPl⟩) (fun j v hv => by simpa using hv)) rfl) (Hs.tl2 _ _) ⟨v2, Hl2, ⟨rfl, hL2⟩, rfl⟩)) | (rw [stepW_2 (by assumption) (by assumption)]; exact GW.ret (Out.of (resCellA rfl rfl Tryz.underlying50 rfl Tryz.sizeOf50 (Rds.own (C := (StC ⟨2, (rowW vars L l.pat).1, zPl, zPl⟩).toArray) (by repeat (first | exact List.mem_cons_self | apply List.mem_cons_of_mem | apply List.mem_append_right | exact List.mem_append_left _ List.mem_cons_self)) 0 (StC ⟨2, (rowW vars L l.pat).1, zPl, zPl⟩) (fun j v hv => by simpa using hv)) rfl) (Hs.tl2 _ _) ⟨v2, Hl2, ⟨rfl, hL2⟩, rfl⟩)) | (rw [stepW_4 (by assumption) (by assumption) (by assumption)]; exact GW.ret (Out.of (resCellA rfl rfl Tryz.underlying50 rfl Tryz.sizeOf50 (Rds.own (C := (StC ⟨4, zRw, (placeW vars L l.a).1, (placeW vars (placeW vars L l.a).2 l.b).1⟩).toArray) (by repeat (first | exact List.mem_cons_self | apply List.mem_cons_of_mem | apply List.mem_append_right | exact List.mem_append_left _ List.mem_cons_self)) 0 (StC ⟨4, zRw, (placeW vars L l.a).1, (placeW vars (placeW vars L l.a).2 l.b).1⟩) (fun j v hv => by simpa using hv)) rfl) (Hs.tl2 _ _) ⟨v3, Hl3, ⟨rfl, hL3⟩, rfl⟩)) | (rw [stepW_3 (by assumption) (by assumption) (by assumption)]; exact GW.ret (Out.of (resCellA rfl rfl Tryz.underlying50 rfl Tryz.sizeOf50 (Rds.own (C := (StC ⟨3, zRw, (placeW vars L l.a).1, (placeW vars (placeW vars L l.a).2 l.b).1⟩).toArray) (by repeat (first | exact List.mem_cons_self | apply List.mem_cons_of_mem | apply List.mem_append_right | exact List.mem_append_left _ List.mem_cons_self)) 0 (StC ⟨3, zRw, (placeW vars L l.a).1, (placeW vars (placeW vars L l.a).2 l.b).1⟩) (fun j v hv => by simpa using hv)) rfl) (Hs.tl2 _ _) ⟨v3, Hl3, ⟨rfl, hL3⟩, rfl⟩))
end Go.Proofs.YtfddkcmooommeaaGreatDoor.Gl
end
section
namespace Go.Proofs.YtfddkcmooommeaaGreatDoor.Gl
open Go.RowKit Go.Shelf
set_option linter.unusedVariables false
set_option linter.unnecessarySimpa false
set_option linter.unusedSimpArgs false
attribute [-simp] List.getD_eq_getElem?_getD
def standsL (k : List Lt) (s : ByteArray) : Bool := k.any (fun t => (patL t).any (fun q => q.toList == s.toList))
def readyW (taken : List Lt) (l : Lt) : Bool := (slotsOf l).all (fun s => emp s.v || standsL taken s.v)
theorem slot_cellE {q : List Sl} {i : Nat} {y : Sl} {e : TypeId} (h : q[i]? = some y) : Know.cell (.exact (.cells (q.flatMap SlC).toArray e (0, 0))) (0 + (i : Int).toNat * 4 + 0) = some (.string y.v) := by
 show (q.flatMap SlC).toArray[0 + (i : Int).toNat * 4 + 0]? = _
 rw [Nat.zero_add, Int.toNat_natCast, List.getElem?_toArray]
 exact flat_get q i y h 0 _ rfl
theorem stands_succ {taken : List Lt} {k : Nat} {t : Lt} {s : ByteArray} (h : taken[k]? = some t) : standsL (taken.take (k + 1)) s = (standsL (taken.take k) s || (patL t).any (fun q => q.toList == s.toList)) := by
 unfold standsL
 rw [List.take_add_one, h, List.any_append]
 simp
theorem any_succ {l : List ByteArray} {j : Nat} {q : ByteArray} (f : ByteArray → Bool) (h : l[j]? = some q) : (l.take (j + 1)).any f = ((l.take j).any f || f q) := by
 rw [List.take_add_one, h, List.any_append]
 simp
theorem patL_len (t : Lt) : (patL t).length = 3 := rfl
theorem ready_yes {taken : List Lt} {l : Lt} {i : Nat} (h : ((slotsOf l).take i).all (fun s => emp s.v || standsL taken s.v) = true) (hi : (slotsOf l).length ≤ i) : readyW taken l = true := by
 rw [List.take_of_length_le hi] at h
 exact h
theorem ready_no {taken : List Lt} {l : Lt} {i : Nat} {s : Sl} (h : (slotsOf l)[i]? = some s) (h1 : emp s.v = false) (h2 : standsL taken s.v = false) : readyW taken l = false := by
 unfold readyW
 rw [List.all_eq_false]
 exact ⟨s, List.mem_of_getElem? h, by rw [h1, h2]; simp⟩
theorem ready_succ {taken : List Lt} {l : Lt} {i : Nat} {s : Sl} (h0 : ((slotsOf l).take i).all (fun s => emp s.v || standsL taken s.v) = true) (h : (slotsOf l)[i]? = some s) (h1 : emp s.v = true ∨ standsL taken s.v = true) : ((slotsOf l).take (i + 1)).all (fun s => emp s.v || standsL taken s.v) = true := by
 rw [List.take_add_one, h, List.all_append, h0]
 rcases h1 with h1 | h1 <;> simp [h1]
theorem slots_le (l : Lt) : (slotsOf l).length ≤ 3 := by
 unfold slotsOf
 cases (decide (l.kind = 1) || decide (l.kind = 2)) <;> simp
theorem ref_ready (w0 : World) (G : Hp) (l : Lt) (taken : List Lt) (A : Option Addr) (c : Nat) (ht : LtsAt w0 G A taken) (hm : taken.length ≤ 100000) : GC Tryz.prog w0 69 #[.agg (LtC l).toArray, .slice A taken.length c] (fun v G' => v = .bool (readyW taken l) ∧ G = G') G := by
 have hsl := slots_le l
 refine GC.body (args := [.agg (LtC l).toArray, .slice A taken.length c]) Tryz.func69 rfl (by kernel_rfl) rfl ?_
 refine GW.seq ?_
 refine GW.region ?_
 refine R.box ⟨rfl, rfl, rfl, rfl⟩ rfl fun b2 => ?_
 refine R.assign ⟨rfl, rfl, rfl, rfl⟩ rfl ?_
 refine GOps.nil ?_
 refine GW.seq ?_
 refine GW.region ?_
 refine R.load_own (cs := LtC l) ⟨rfl, rfl, rfl, rfl⟩ rfl Tryz.underlying89 rfl Tryz.sizeOf89 memG (by rfl) (by rfl) ?_
 refine R.call ⟨rfl, rfl, rfl, rfl⟩ rfl (vs := [_]) rfl ((ref_Slots _ _ l).mono ?_)
 rintro _ _ ⟨b11, rfl, rfl⟩
 refine R.assign ⟨rfl, rfl, rfl, rfl⟩ rfl ?_
 refine GOps.nil ?_
 refine GW.seq ?_
 refine GW.seq ?_
 refine GW.region ?_
 refine R.assign ⟨rfl, rfl, rfl, rfl⟩ rfl ?_
 refine GOps.nil ?_
 refine GW.block ?_
 refine GW.loopI (fun i : Nat => [(1, .slice A taken.length c), (5, .slice (some ⟨b11, 0, none⟩) (slotsOf l).length (slotsOf l).length), (6, .int .i64 i)]) (fun i => (b11, .exact (.cells ((slotsOf l).flatMap SlC).toArray 26 (0, 0))) :: (b2, .exact (.cells (Value.agg (LtC l).toArray).cells 89 (0, 0))) :: G) (fun i => (slotsOf l).length - i) (fun i => i ≤ (slotsOf l).length ∧ ((slotsOf l).take i).all (fun s => emp s.v || standsL taken s.v) = true) 0
  (by repeat (first | exact Keeps.nil _ | refine Keeps.cons rfl ?_)) (Hs.refl _) (⟨Nat.zero_le _, by simp⟩) ?_
 rintro i ⟨hi, h0⟩
 refine GW.seq ?_
 refine GW.seq ?_
 refine GW.region ?_
 refine R.move ⟨rfl, rfl, rfl, rfl⟩ rfl ?_
 refine R.move ⟨rfl, rfl, rfl, rfl⟩ rfl ?_
 refine R.lenS ⟨rfl, rfl, rfl, rfl⟩ rfl rfl Tryz.underlying106 ?_
 refine R.lss ⟨rfl, rfl, rfl, rfl⟩ rfl rfl ?_
 refine GOps.nil ?_
 refine GW.ite rfl (fun hc1 => ?_) (fun hc1 => ?_)
 ·try simp only [dcQ] at hc1
  obtain ⟨s, hs⟩ : ∃ s, (slotsOf l)[i]? = some s := ⟨_, List.getElem?_eq_getElem (by omega)⟩
  refine GW.skip ?_
  refine GW.seq ?_
  refine GW.block ?_
  refine GW.seq ?_
  refine GW.seq ?_
  refine GW.region ?_
  refine R.move ⟨rfl, rfl, rfl, rfl⟩ rfl ?_
  refine R.move ⟨rfl, rfl, rfl, rfl⟩ rfl ?_
  refine R.indexAddrS ⟨rfl, rfl, rfl, rfl⟩ rfl rfl Tryz.underlying106 Tryz.sizeOf26 (by omega) (by omega) ?_
  refine R.fieldAddr ⟨rfl, rfl, rfl, rfl⟩ rfl Tryz.underlying26 rfl Tryz.sizeOf9 ?_   -- "Var"
  refine R.load1 ⟨rfl, rfl, rfl, rfl⟩ rfl Tryz.underlying9 rfl (.own (by repeat (first | exact List.mem_cons_self | apply List.mem_cons_of_mem | apply List.mem_append_right | exact List.mem_append_left _ List.mem_cons_self)) (slot_cellE hs)) ?_
  refine R.eqS ⟨rfl, rfl, rfl, rfl⟩ rfl rfl ?_
  refine GOps.nil ?_
  refine GW.ite rfl (fun hc2 => ?_) (fun hc2 => ?_)
  ·try simp only [dcQ] at hc2
   replace hc2 : emp s.v = true := hc2
   refine GW.exit ?_
   refine GW.region ?_
   refine R.move ⟨rfl, rfl, rfl, rfl⟩ rfl ?_
   refine R.add (r := (((i + 1) : Nat) : Int)) ⟨rfl, rfl, rfl, rfl⟩ rfl rfl (by rw [wrap64_id (by omega) (by omega)]; omega) ?_
   refine R.assign ⟨rfl, rfl, rfl, rfl⟩ rfl ?_
   refine GOps.nil ?_
   first | exact ⟨i + 1, by omega, ⟨by omega, ready_succ h0 hs (.inl (by assumption))⟩, rfl, by repeat (first | exact Keeps.nil _ | refine Keeps.cons rfl ?_), Hs.refl _⟩ | exact ⟨i + 1, by omega, ⟨by omega, ready_succ h0 hs (.inr (by rw [← hth]; assumption))⟩, rfl, by repeat (first | exact Keeps.nil _ | refine Keeps.cons rfl ?_), Hs.refl _⟩
  ·try simp only [dcQ] at hc2
   replace hc2 : emp s.v = false := hc2
   refine GW.skip ?_
   refine GW.seq ?_
   refine GW.region ?_
   refine R.assign ⟨rfl, rfl, rfl, rfl⟩ rfl ?_
   refine GOps.nil ?_
   refine GW.seq ?_
   refine GW.seq ?_
   refine GW.region ?_
   refine R.assign ⟨rfl, rfl, rfl, rfl⟩ rfl ?_
   refine GOps.nil ?_
   refine GW.block ?_
   refine GW.loop4 (fun (k : Nat) (th : Bool) (u1 : Unit) (u2 : Unit) => [(1, .slice A taken.length c), (5, .slice (some ⟨b11, 0, none⟩) (slotsOf l).length (slotsOf l).length), (6, .int .i64 i), (7, .bool th), (8, .int .i64 k)]) (fun (k : Nat) (th : Bool) (u1 : Unit) (u2 : Unit) => (b11, .exact (.cells ((slotsOf l).flatMap SlC).toArray 26 (0, 0))) :: (b2, .exact (.cells (Value.agg (LtC l).toArray).cells 89 (0, 0))) :: G) (fun k : Nat => taken.length - k) (fun (k : Nat) (th : Bool) (u1 : Unit) (u2 : Unit) => k ≤ taken.length ∧ th = standsL (taken.take k) s.v) 0 (false) (()) (())
    (by repeat (first | exact Keeps.nil _ | refine Keeps.cons rfl ?_)) (Hs.refl _) (⟨Nat.zero_le _, rfl⟩) ?_
   rintro k th u1 u2 ⟨hk, hth⟩
   refine GW.seq ?_
   refine GW.seq ?_
   refine GW.region ?_
   refine R.move ⟨rfl, rfl, rfl, rfl⟩ rfl ?_
   refine R.move ⟨rfl, rfl, rfl, rfl⟩ rfl ?_
   refine R.lenS ⟨rfl, rfl, rfl, rfl⟩ rfl rfl Tryz.underlying29 ?_
   refine R.lss ⟨rfl, rfl, rfl, rfl⟩ rfl rfl ?_
   refine GOps.nil ?_
   refine GW.ite rfl (fun hc3 => ?_) (fun hc3 => ?_)
   ·try simp only [dcQ] at hc3
    obtain ⟨t, htk⟩ : ∃ t, taken[k]? = some t := ⟨_, List.getElem?_eq_getElem (by omega)⟩
    obtain ⟨tb, to, cs0, rfl, rfl, hrd⟩ := ht k t htk
    refine GW.skip ?_
    refine GW.seq ?_
    refine GW.block ?_
    refine GW.seq ?_
    refine GW.region ?_
    refine R.assign ⟨rfl, rfl, rfl, rfl⟩ rfl ?_
    refine GOps.nil ?_
    refine GW.block ?_
    refine GW.loop4 (fun (j : Nat) (th2 : Bool) (u1 : Unit) (u2 : Unit) => [(1, .slice (some ⟨tb, to, none⟩) taken.length c), (5, .slice (some ⟨b11, 0, none⟩) (slotsOf l).length (slotsOf l).length), (6, .int .i64 i), (7, .bool th2), (8, .int .i64 k), (9, .int .i64 j)]) (fun (j : Nat) (th2 : Bool) (u1 : Unit) (u2 : Unit) => (b11, .exact (.cells ((slotsOf l).flatMap SlC).toArray 26 (0, 0))) :: (b2, .exact (.cells (Value.agg (LtC l).toArray).cells 89 (0, 0))) :: G) (fun j : Nat => 3 - j) (fun (j : Nat) (th2 : Bool) (u1 : Unit) (u2 : Unit) => j ≤ 3 ∧ th2 = (th || ((patL t).take j).any (fun q => q.toList == s.v.toList))) 0 (th) (()) (())
     (by repeat (first | exact Keeps.nil _ | refine Keeps.cons rfl ?_)) (Hs.refl _) (⟨Nat.zero_le _, by simp⟩) ?_
    rintro j th2 u1 u2 ⟨hj, hth2⟩
    refine GW.seq ?_
    refine GW.seq ?_
    refine GW.region ?_
    refine R.move ⟨rfl, rfl, rfl, rfl⟩ rfl ?_
    refine R.lss ⟨rfl, rfl, rfl, rfl⟩ rfl rfl ?_
    refine GOps.nil ?_
    refine GW.ite rfl (fun hc4 => ?_) (fun hc4 => ?_)
    ·try simp only [dcQ] at hc4
     obtain ⟨q, hq, hqc⟩ := patL_get (x := t) (k := j) (by omega)
     refine GW.skip ?_
     refine GW.seq ?_
     refine GW.block ?_
     refine GW.drawS 18 rfl (by kernel_rfl) ?_
     refine GA.val 0 rfl (V.move ⟨rfl, rfl, rfl, rfl⟩ rfl) rfl (by kernel_rfl) (by kernel_rfl) (by kernel_rfl) ?_
     refine GA.val 1 rfl (V.move ⟨rfl, rfl, rfl, rfl⟩ rfl) rfl (by kernel_rfl) (by kernel_rfl) (by kernel_rfl) ?_
     refine GA.caseB 35 rfl (fun hg5 => ?_) (fun hg5 => ?_)
     ·try simp only [dcQ] at hg5
      refine GA.skip 2 rfl rfl rfl rfl rfl (by kernel_rfl) (by kernel_rfl) (by kernel_rfl) ?_
      refine GA.skip 3 rfl rfl rfl rfl rfl (by kernel_rfl) (by kernel_rfl) (by kernel_rfl) ?_
      refine GA.skip 4 rfl rfl rfl rfl rfl (by kernel_rfl) (by kernel_rfl) (by kernel_rfl) ?_
      refine GA.skip 5 rfl rfl rfl rfl rfl (by kernel_rfl) (by kernel_rfl) (by kernel_rfl) ?_
      refine GA.skip 6 rfl rfl rfl rfl rfl (by kernel_rfl) (by kernel_rfl) (by kernel_rfl) ?_
      refine GA.skip 7 rfl rfl rfl rfl rfl (by kernel_rfl) (by kernel_rfl) (by kernel_rfl) ?_
      refine GA.skip 8 rfl rfl rfl rfl rfl (by kernel_rfl) (by kernel_rfl) (by kernel_rfl) ?_
      refine GA.skip 9 rfl rfl rfl rfl rfl (by kernel_rfl) (by kernel_rfl) (by kernel_rfl) ?_
      refine GA.skip 10 rfl rfl rfl rfl rfl (by kernel_rfl) (by kernel_rfl) (by kernel_rfl) ?_
      refine GA.skip 11 rfl rfl rfl rfl rfl (by kernel_rfl) (by kernel_rfl) (by kernel_rfl) ?_
      refine GA.skip 12 rfl rfl rfl rfl rfl (by kernel_rfl) (by kernel_rfl) (by kernel_rfl) ?_
      refine GA.skip 13 rfl rfl rfl rfl rfl (by kernel_rfl) (by kernel_rfl) (by kernel_rfl) ?_
      refine GA.skip 14 rfl rfl rfl rfl rfl (by kernel_rfl) (by kernel_rfl) (by kernel_rfl) ?_
      refine GA.skip 15 rfl rfl rfl rfl rfl (by kernel_rfl) (by kernel_rfl) (by kernel_rfl) ?_
      refine GA.val 16 rfl (V.pick_t ⟨rfl, rfl, rfl, rfl⟩ rfl rfl) rfl (by kernel_rfl) (by kernel_rfl) (by kernel_rfl) ?_
      refine GA.val 17 rfl (V.assign ⟨rfl, rfl, rfl, rfl⟩ rfl) rfl (by kernel_rfl) (by kernel_rfl) (by kernel_rfl) ?_
      refine GA.done (by first | exact Hs.refl _ | exact Hs.tl _ | exact Hs.tl2 _ _ | exact Hs.tl3 _ _ _ | exact Hs.app _ | exact Hs.sub (by simp)) (by kernel_rfl) ?_
      refine GW.region ?_
      refine R.move ⟨rfl, rfl, rfl, rfl⟩ rfl ?_
      refine R.add (r := (((j + 1) : Nat) : Int)) ⟨rfl, rfl, rfl, rfl⟩ rfl rfl (by rw [wrap64_id (by omega) (by omega)]; omega) ?_
      refine R.assign ⟨rfl, rfl, rfl, rfl⟩ rfl ?_
      refine GOps.nil ?_
      first | exact ⟨j + 1, true, (), (), by omega, ⟨by omega, by rw [any_succ _ hq, ← Bool.or_assoc, ← hth2, hg5]; rfl⟩, rfl, by repeat (first | exact Keeps.nil _ | refine Keeps.cons rfl ?_), Hs.refl _⟩ | exact ⟨j + 1, (q.toList == s.v.toList), (), (), by omega, ⟨by omega, by rw [any_succ _ hq, ← Bool.or_assoc, ← hth2, hg5]; rfl⟩, rfl, by repeat (first | exact Keeps.nil _ | refine Keeps.cons rfl ?_), Hs.refl _⟩
     ·try simp only [dcQ] at hg5
      refine GA.val 2 rfl (V.move ⟨rfl, rfl, rfl, rfl⟩ rfl) rfl (by kernel_rfl) (by kernel_rfl) (by kernel_rfl) ?_
      refine GA.val 3 rfl (V.move ⟨rfl, rfl, rfl, rfl⟩ rfl) rfl (by kernel_rfl) (by kernel_rfl) (by kernel_rfl) ?_
      refine GA.val 4 rfl (V.move ⟨rfl, rfl, rfl, rfl⟩ rfl) rfl (by kernel_rfl) (by kernel_rfl) (by kernel_rfl) ?_
      refine GA.val 5 rfl (V.indexAddrS ⟨rfl, rfl, rfl, rfl⟩ rfl rfl Tryz.underlying29 Tryz.sizeOf89 (by omega) (by omega)) rfl (by kernel_rfl) (by kernel_rfl) (by kernel_rfl) ?_
      refine GA.val 6 rfl (V.fieldAddr ⟨rfl, rfl, rfl, rfl⟩ rfl Tryz.underlying89 rfl Tryz.sizeOf28) rfl (by kernel_rfl) (by kernel_rfl) (by kernel_rfl) ?_   -- "Pattern"
      refine GA.val 7 rfl (V.indexAddrA ⟨rfl, rfl, rfl, rfl⟩ rfl rfl Tryz.underlying28 Tryz.sizeOf26 (by omega) (by omega)) rfl (by kernel_rfl) (by kernel_rfl) (by kernel_rfl) ?_
      refine GA.val 8 rfl (V.fieldAddr ⟨rfl, rfl, rfl, rfl⟩ rfl Tryz.underlying26 rfl Tryz.sizeOf9) rfl (by kernel_rfl) (by kernel_rfl) (by kernel_rfl) ?_   -- "Var"
      refine GA.val 9 rfl (V.load1 ⟨rfl, rfl, rfl, rfl⟩ rfl Tryz.underlying9 rfl ((pat_cell hrd hqc).mono (fun y hy => by repeat (first | exact hy | apply List.mem_cons_of_mem | apply List.mem_append_right)))) rfl (by kernel_rfl) (by kernel_rfl) (by kernel_rfl) ?_
      refine GA.val 10 rfl (V.move ⟨rfl, rfl, rfl, rfl⟩ rfl) rfl (by kernel_rfl) (by kernel_rfl) (by kernel_rfl) ?_
      refine GA.val 11 rfl (V.move ⟨rfl, rfl, rfl, rfl⟩ rfl) rfl (by kernel_rfl) (by kernel_rfl) (by kernel_rfl) ?_
      refine GA.val 12 rfl (V.indexAddrS ⟨rfl, rfl, rfl, rfl⟩ rfl rfl Tryz.underlying106 Tryz.sizeOf26 (by omega) (by omega)) rfl (by kernel_rfl) (by kernel_rfl) (by kernel_rfl) ?_
      refine GA.val 13 rfl (V.fieldAddr ⟨rfl, rfl, rfl, rfl⟩ rfl Tryz.underlying26 rfl Tryz.sizeOf9) rfl (by kernel_rfl) (by kernel_rfl) (by kernel_rfl) ?_   -- "Var"
      refine GA.val 14 rfl (V.load1 ⟨rfl, rfl, rfl, rfl⟩ rfl Tryz.underlying9 rfl (.own (by repeat (first | exact List.mem_cons_self | apply List.mem_cons_of_mem | apply List.mem_append_right | exact List.mem_append_left _ List.mem_cons_self)) (slot_cellE hs))) rfl (by kernel_rfl) (by kernel_rfl) (by kernel_rfl) ?_
      refine GA.val 15 rfl (V.eqS ⟨rfl, rfl, rfl, rfl⟩ rfl rfl) rfl (by kernel_rfl) (by kernel_rfl) (by kernel_rfl) ?_
      refine GA.val 16 rfl (V.pick_f ⟨rfl, rfl, rfl, rfl⟩ rfl rfl) rfl (by kernel_rfl) (by kernel_rfl) (by kernel_rfl) ?_
      refine GA.val 17 rfl (V.assign ⟨rfl, rfl, rfl, rfl⟩ rfl) rfl (by kernel_rfl) (by kernel_rfl) (by kernel_rfl) ?_
      refine GA.done (by first | exact Hs.refl _ | exact Hs.tl _ | exact Hs.tl2 _ _ | exact Hs.tl3 _ _ _ | exact Hs.app _ | exact Hs.sub (by simp)) (by kernel_rfl) ?_
      refine GW.region ?_
      refine R.move ⟨rfl, rfl, rfl, rfl⟩ rfl ?_
      refine R.add (r := (((j + 1) : Nat) : Int)) ⟨rfl, rfl, rfl, rfl⟩ rfl rfl (by rw [wrap64_id (by omega) (by omega)]; omega) ?_
      refine R.assign ⟨rfl, rfl, rfl, rfl⟩ rfl ?_
      refine GOps.nil ?_
      first | exact ⟨j + 1, true, (), (), by omega, ⟨by omega, by rw [any_succ _ hq, ← Bool.or_assoc, ← hth2, hg5]; rfl⟩, rfl, by repeat (first | exact Keeps.nil _ | refine Keeps.cons rfl ?_), Hs.refl _⟩ | exact ⟨j + 1, (q.toList == s.v.toList), (), (), by omega, ⟨by omega, by rw [any_succ _ hq, ← Bool.or_assoc, ← hth2, hg5]; rfl⟩, rfl, by repeat (first | exact Keeps.nil _ | refine Keeps.cons rfl ?_), Hs.refl _⟩
    ·try simp only [dcQ] at hc4
     refine GW.exit ?_
     refine GW.region ?_
     refine R.move ⟨rfl, rfl, rfl, rfl⟩ rfl ?_
     refine R.add (r := (((k + 1) : Nat) : Int)) ⟨rfl, rfl, rfl, rfl⟩ rfl rfl (by rw [wrap64_id (by omega) (by omega)]; omega) ?_
     refine R.assign ⟨rfl, rfl, rfl, rfl⟩ rfl ?_
     refine GOps.nil ?_
     exact ⟨k + 1, th2, (), (), by omega, ⟨by omega, by rw [stands_succ htk, ← hth]; rw [hth2, show (patL t).take j = patL t from List.take_of_length_le (by rw [patL_len]; omega)]⟩, rfl, by repeat (first | exact Keeps.nil _ | refine Keeps.cons rfl ?_), Hs.refl _⟩
   ·try simp only [dcQ] at hc3
    rw [List.take_of_length_le (by omega)] at hth
    refine GW.exit ?_
    refine GW.seq ?_
    refine GW.region ?_
    refine R.move ⟨rfl, rfl, rfl, rfl⟩ rfl ?_
    refine R.not ⟨rfl, rfl, rfl, rfl⟩ rfl ?_
    refine GOps.nil ?_
    refine GW.ite rfl (fun hc6 => ?_) (fun hc6 => ?_)
    ·try simp only [dcQ] at hc6
     refine GW.seq ?_
     refine GW.region ?_
     refine R.assign ⟨rfl, rfl, rfl, rfl⟩ rfl ?_
     refine GOps.nil ?_
     refine GW.ret (Out.of (Res.one rfl rfl) (by first | exact Hs.refl _ | exact Hs.tl _ | exact Hs.tl2 _ _ | exact Hs.tl3 _ _ _ | exact (Hs.app _).trans (Hs.tl _) | exact (Hs.app _).trans ((Hs.app _).trans (Hs.tl _)) | exact Hs.sub (by repeat (first | exact List.Sublist.refl _ | apply List.Sublist.cons))) ⟨?_, rfl⟩)
     first | rw [ready_yes h0 (by omega)] | rw [ready_no hs (by assumption) (by rw [← hth]; assumption)]
    ·try simp only [dcQ] at hc6
     refine GW.skip ?_
     refine GW.region ?_
     refine R.move ⟨rfl, rfl, rfl, rfl⟩ rfl ?_
     refine R.add (r := (((i + 1) : Nat) : Int)) ⟨rfl, rfl, rfl, rfl⟩ rfl rfl (by rw [wrap64_id (by omega) (by omega)]; omega) ?_
     refine R.assign ⟨rfl, rfl, rfl, rfl⟩ rfl ?_
     refine GOps.nil ?_
     first | exact ⟨i + 1, by omega, ⟨by omega, ready_succ h0 hs (.inl (by assumption))⟩, rfl, by repeat (first | exact Keeps.nil _ | refine Keeps.cons rfl ?_), Hs.refl _⟩ | exact ⟨i + 1, by omega, ⟨by omega, ready_succ h0 hs (.inr (by rw [← hth]; assumption))⟩, rfl, by repeat (first | exact Keeps.nil _ | refine Keeps.cons rfl ?_), Hs.refl _⟩
 ·try simp only [dcQ] at hc1
  refine GW.exit ?_
  refine GW.seq ?_
  refine GW.region ?_
  refine R.assign ⟨rfl, rfl, rfl, rfl⟩ rfl ?_
  refine GOps.nil ?_
  refine GW.ret (Out.of (Res.one rfl rfl) (by first | exact Hs.refl _ | exact Hs.tl _ | exact Hs.tl2 _ _ | exact Hs.tl3 _ _ _ | exact (Hs.app _).trans (Hs.tl _) | exact (Hs.app _).trans ((Hs.app _).trans (Hs.tl _)) | exact Hs.sub (by repeat (first | exact List.Sublist.refl _ | apply List.Sublist.cons))) ⟨?_, rfl⟩)
  first | rw [ready_yes h0 (by omega)] | rw [ready_no hs (by assumption) (by rw [← hth]; assumption)]
end Go.Proofs.YtfddkcmooommeaaGreatDoor.Gl
end
section
namespace Go.Proofs.YtfddkcmooommeaaGreatDoor.Gl
open Go.RowKit Go.Shelf
set_option linter.unusedVariables false
set_option linter.unnecessarySimpa false
set_option linter.unusedSimpArgs false
attribute [-simp] List.getD_eq_getElem?_getD
def ltsC (xs : List Lt) : List Value := xs.flatMap LtC
theorem lt_len (l : Lt) : (LtC l).length = 21 := rfl
theorem lts_snoc {xs : List Lt} {x : Lt} {v : Value} {H : Hp} (h : SlAt 21 89 (ltsC xs ++ LtC x) (xs.length + 1) v H) : SlAt 21 89 (ltsC (xs ++ [x])) (xs ++ [x]).length v H := by
 unfold ltsC at h ⊢
 rw [List.flatMap_append, List.length_append]
 simpa using h
theorem SlAt.lts {xs : List Lt} {v : Value} {H : Hp} (h : SlAt 21 89 (ltsC xs) xs.length v H) (w0 : World) : ∃ A c, v = .slice A xs.length c ∧ LtsAt w0 H A xs ∧ xs.length ≤ c := by
 obtain ⟨A, c, h1, h2, h3⟩ := SlAt.flat w0 [] lt_len h
 rw [List.append_nil] at h2
 exact ⟨A, c, h1, h2, h3⟩
theorem LtsAt.mono' {w0 : World} {G G' : Hp} {A : Option Addr} {xs : List Lt} (h : LtsAt w0 G A xs) (hs : ∀ y ∈ G, y ∈ G') : LtsAt w0 G' A xs := fun i x hx => by obtain ⟨b, o, cs, h1, h2, h3⟩ := h i x hx; exact ⟨b, o, cs, h1, h2, h3.mono hs⟩
def fT (p : Lt → Bool) (xs : List Lt) (i : Nat) : List Lt := (xs.take i).filter p
theorem fT_yes {p : Lt → Bool} {xs : List Lt} {i : Nat} {x : Lt} (h : xs[i]? = some x) (hp : p x = true) : fT p xs (i + 1) = fT p xs i ++ [x] := by
 unfold fT
 rw [List.take_add_one, h, List.filter_append]
 simp [hp]
theorem fT_no {p : Lt → Bool} {xs : List Lt} {i : Nat} {x : Lt} (h : xs[i]? = some x) (hp : p x = false) : fT p xs (i + 1) = fT p xs i := by
 unfold fT
 rw [List.take_add_one, h, List.filter_append]
 simp [hp]
theorem fT_all {p : Lt → Bool} {xs : List Lt} {i : Nat} (h : xs.length ≤ i) : fT p xs i = xs.filter p := by unfold fT; rw [List.take_of_length_le h]
theorem fT_zero (p : Lt → Bool) (xs : List Lt) : fT p xs 0 = [] := rfl
theorem fT_le (p : Lt → Bool) (xs : List Lt) (i : Nat) : (fT p xs i).length ≤ i := by
 have h := List.length_filter_le p (xs.take i)
 rw [List.length_take] at h
 unfold fT
 omega
def isMt (l : Lt) : Bool := decide (l.kind = 1)
def isCt (l : Lt) : Bool := decide (l.kind = 3) || decide (l.kind = 4)
def isNt (l : Lt) : Bool := decide (l.kind = 2)
def waitL (body : List Lt) : List Lt := body.filter isCt ++ body.filter isNt
theorem wait_len (body : List Lt) : (waitL body).length ≤ 2 * body.length := by
 have h1 := List.length_filter_le isCt body
 have h2 := List.length_filter_le isNt body
 unfold waitL
 rw [List.length_append]
 omega
def cntZ (order : List Int) (k : Nat) : Nat := order.countP (fun z => decide (z = (k : Int)))
def oneZ (order : List Int) (k : Nat) : Bool := decide ((cntZ order k : Int) = 1)
def goodF (n : Nat) (order : List Int) : Bool := decide ((order.length : Int) = (n : Int)) && (List.range n).all (oneZ order)
def goodTo (n : Nat) (order : List Int) (i : Nat) : Bool := decide ((order.length : Int) = (n : Int)) && (List.range i).all (oneZ order)
theorem goodTo_succ {n i : Nat} {order : List Int} (h : goodTo n order i = true) : goodTo n order (i + 1) = oneZ order i := by
 unfold goodTo at h ⊢
 rw [Bool.and_eq_true] at h
 rw [List.range_succ, List.all_append, h.1, h.2]
 simp
theorem goodTo_end {n i : Nat} {order : List Int} (h : goodTo n order i = false) (hi : i ≤ n) : goodF n order = false := by
 unfold goodTo at h
 unfold goodF
 rw [Bool.and_eq_false_iff] at h ⊢
 rcases h with h | h
 ·exact .inl h
 ·refine .inr ?_
  rw [List.all_eq_false] at h ⊢
  obtain ⟨k, hk, h2⟩ := h
  exact ⟨k, List.mem_range.2 (by have := List.mem_range.1 hk; omega), h2⟩
theorem cnt_succ {order : List Int} {j : Nat} {z : Int} (k : Nat) (h : order[j]? = some z) : (order.take (j + 1)).countP (fun z => decide (z = (k : Int))) = (order.take j).countP (fun z => decide (z = (k : Int))) + if z = (k : Int) then 1 else 0 := by
 rw [List.take_add_one, h, List.countP_append]
 simp [List.countP_cons]
theorem cnt_le (order : List Int) (j k : Nat) : (order.take j).countP (fun z => decide (z = (k : Int))) ≤ j := by
 have := List.countP_le_length (p := fun z => decide (z = (k : Int))) (l := order.take j)
 rw [List.length_take] at this
 omega
theorem cover (l : List Int) : ∀ n : Nat, (∀ k : Nat, k < n → (k : Int) ∈ l) → ∃ l', l.Perm ((List.range n).map (fun k : Nat => (k : Int)) ++ l')
 | 0, _ => ⟨l, by simp⟩
 | n + 1, h => by
  obtain ⟨l', hl⟩ := cover l n (fun k hk => h k (by omega))
  have hn : (n : Int) ∈ l' := by
   rcases List.mem_append.1 (hl.mem_iff.1 (h n (by omega))) with h1 | h1
   ·obtain ⟨k, hk, e⟩ := List.mem_map.1 h1
    have := List.mem_range.1 hk
    omega
   ·exact h1
  refine ⟨l'.erase (n : Int), hl.trans ?_⟩
  rw [List.range_succ, List.map_append, List.append_assoc]
  exact List.Perm.append_left _ (List.perm_cons_erase hn)
theorem good_perm {n : Nat} {order : List Int} (h : goodF n order = true) : order.Perm ((List.range n).map (fun k : Nat => (k : Int))) := by
 unfold goodF at h
 rw [Bool.and_eq_true, decide_eq_true_eq, List.all_eq_true] at h
 obtain ⟨h1, h2⟩ := h
 obtain ⟨l', hl⟩ := cover order n (fun k hk => by
  have h3 := h2 k (List.mem_range.2 hk)
  unfold oneZ cntZ at h3
  rw [decide_eq_true_eq] at h3
  obtain ⟨z, hz, e⟩ := List.countP_pos_iff.1 (show 0 < order.countP (fun z => decide (z = (k : Int))) by omega)
  rw [decide_eq_true_eq] at e
  exact e ▸ hz)
 have h4 := hl.length_eq
 rw [List.length_append, List.length_map, List.length_range] at h4
 have h5 : l' = [] := List.length_eq_zero_iff.1 (by omega)
 rw [h5, List.append_nil] at hl
 exact hl
theorem good_range {n : Nat} {order : List Int} (h : goodF n order = true) : order.length = n ∧ ∀ z ∈ order, 0 ≤ z ∧ z < n := by
 have hp := good_perm h
 refine ⟨by rw [hp.length_eq]; simp, fun z hz => ?_⟩
 obtain ⟨k, hk, rfl⟩ := List.mem_map.1 (hp.mem_iff.1 hz)
 have := List.mem_range.1 hk
 omega
structure PS where
 tk : List Lt
 wt : List Lt
 out : List Lt
def zLt : Lt := ⟨0, zPt, zSl, zSl⟩
def mAt (ms : List Lt) (good : Bool) (order : List Int) (p : Nat) : Lt := if good = true then ms.getD (order.getD p 0).toNat zLt else ms.getD p zLt
def flushW (q : PS) : PS := ⟨q.tk, q.wt.filter (fun l => !readyW q.tk l), q.out ++ q.wt.filter (readyW q.tk)⟩
def preW (ms : List Lt) (good : Bool) (order : List Int) (q : PS) : Nat → PS
 | 0 => q
 | p + 1 => ⟨q.tk ++ [mAt ms good order p], q.wt, q.out ++ [mAt ms good order p]⟩
def stW (ms : List Lt) (good : Bool) (order : List Int) (q : PS) : Nat → PS
 | 0 => q
 | i + 1 => flushW (preW ms good order (stW ms good order q i) i)
def partsW (body : List Lt) (order : List Int) : List Lt := (stW (body.filter isMt) (goodF (body.filter isMt).length order) order ⟨[], waitL body, []⟩ ((body.filter isMt).length + 1)).out
theorem pre_wt (ms : List Lt) (good : Bool) (order : List Int) (q : PS) (i : Nat) : (preW ms good order q i).wt = q.wt := by cases i <;> rfl
theorem filter_two (p : Lt → Bool) (l : List Lt) : (l.filter p).length + (l.filter (fun x => !p x)).length = l.length := by
 induction l with
 | nil => rfl
 | cons x l ih =>
  cases h : p x <;> simp [h] <;> omega
theorem st_len (ms : List Lt) (good : Bool) (order : List Int) (q : PS) (h0 : q.tk = []) : ∀ i : Nat, (stW ms good order q i).tk.length ≤ i ∧ (stW ms good order q i).wt.length + (stW ms good order q i).out.length ≤ q.wt.length + q.out.length + i
 | 0 => by simp [stW, h0]
 | i + 1 => by
  obtain ⟨h1, h2⟩ := st_len ms good order q h0 i
  have h4 := filter_two (readyW (preW ms good order (stW ms good order q i) i).tk) (stW ms good order q i).wt
  have h5 : (preW ms good order (stW ms good order q i) i).tk.length ≤ (stW ms good order q i).tk.length + 1 := by cases i <;> simp [preW]
  have h6 : (preW ms good order (stW ms good order q i) i).out.length ≤ (stW ms good order q i).out.length + 1 := by cases i <;> simp [preW]
  refine ⟨?_, ?_⟩
  ·show (preW ms good order (stW ms good order q i) i).tk.length ≤ i + 1
   omega
  ·show ((preW ms good order (stW ms good order q i) i).wt.filter _).length + ((preW ms good order (stW ms good order q i) i).out ++ (preW ms good order (stW ms good order q i) i).wt.filter _).length ≤ _
   rw [pre_wt, List.length_append]
   omega
theorem Hs.un2 (X A B : Hp) : Hs ((X ++ A) ++ B) (X ++ (A ++ B)) := Hs.eq (List.append_assoc _ _ _)
theorem as2 (X A B : Hp) : X ++ (A ++ B) = (X ++ A) ++ B := (List.append_assoc _ _ _).symm
theorem Hs.left (F O T W R : Hp) : Hs (F ++ (O ++ (T ++ (W ++ R)))) (O ++ (T ++ (F ++ R))) := (Hs.sub ((((List.sublist_append_right W R).append_left T).append_left O).append_left F)).trans (Hs.perm (by
 rw [← List.append_assoc O T R, ← List.append_assoc O T (F ++ R), ← List.append_assoc F, ← List.append_assoc (O ++ T)]
 exact List.Perm.append_right _ List.perm_append_comm))
theorem ref_Parts (w0 : World) (G : Hp) (bA : Option Addr) (body : List Lt) (bc : Nat) (hl : LtsAt w0 G bA body) (hbl : body.length ≤ 1000) (oA : Option Addr) (order : List Int) (oc : Nat) (ho : IntsAt w0 G oA order) (hol : order.length ≤ 1000) : GC Tryz.prog w0 40 #[.slice bA body.length bc, .slice oA order.length oc] (fun v G' => ∃ H, SlAt 21 89 (ltsC (partsW body order)) (partsW body order).length v H ∧ H ++ G = G') G := by
 have hml := List.length_filter_le isMt body
 have hcl := List.length_filter_le isCt body
 have hwl := wait_len body
 refine GC.body (args := [.slice bA body.length bc, .slice oA order.length oc]) Tryz.func40 rfl (by kernel_rfl) rfl ?_
 refine GW.seq ?_
 refine GW.region ?_
 refine R.assign ⟨rfl, rfl, rfl, rfl⟩ rfl ?_
 refine GOps.nil ?_
 refine GW.seq ?_
 refine GW.region ?_
 refine R.assign ⟨rfl, rfl, rfl, rfl⟩ rfl ?_
 refine R.assign ⟨rfl, rfl, rfl, rfl⟩ rfl ?_
 refine R.assign ⟨rfl, rfl, rfl, rfl⟩ rfl ?_
 refine R.assign ⟨rfl, rfl, rfl, rfl⟩ rfl ?_
 refine GOps.nil ?_
 refine GW.seq ?_
 refine GW.seq ?_
 refine GW.region ?_
 refine R.assign ⟨rfl, rfl, rfl, rfl⟩ rfl ?_
 refine GOps.nil ?_
 refine GW.block ?_
 refine GW.loop4 (fun (i : Nat) (vm : Value) (Hm : Hp) (u1 : Unit) => [(0, .slice bA body.length bc), (1, .slice oA order.length oc), (5, vm), (6, .slice none 0 0), (7, .slice none 0 0), (8, .slice none 0 0), (9, .int .i64 i)]) (fun (i : Nat) (vm : Value) (Hm : Hp) (u1 : Unit) => Hm ++ G) (fun i : Nat => body.length - i) (fun (i : Nat) (vm : Value) (Hm : Hp) (u1 : Unit) => i ≤ body.length ∧ SlAt 21 89 (ltsC ((fT isMt body i))) ((fT isMt body i)).length vm Hm) 0 (.slice none 0 0) ([]) (())
  (by repeat (first | exact Keeps.nil _ | refine Keeps.cons rfl ?_)) (Hs.refl _) (⟨Nat.zero_le _, .nil rfl rfl⟩) ?_
 rintro i vm Hm u1 ⟨hi, hM⟩
 have hfl := fT_le isMt body i
 refine GW.seq ?_
 refine GW.seq ?_
 refine GW.region ?_
 refine R.move ⟨rfl, rfl, rfl, rfl⟩ rfl ?_
 refine R.move ⟨rfl, rfl, rfl, rfl⟩ rfl ?_
 refine R.lenS ⟨rfl, rfl, rfl, rfl⟩ rfl rfl Tryz.underlying29 ?_
 refine R.lss ⟨rfl, rfl, rfl, rfl⟩ rfl rfl ?_
 refine GOps.nil ?_
 refine GW.ite rfl (fun hc1 => ?_) (fun hc1 => ?_)
 ·try simp only [dcQ] at hc1
  obtain ⟨x, hx⟩ : ∃ x, body[i]? = some x := ⟨_, List.getElem?_eq_getElem (by omega)⟩
  obtain ⟨xb, xo, cs0, rfl, rfl, hrd⟩ := hl i x hx
  refine GW.skip ?_
  refine GW.seq ?_
  refine GW.block ?_
  refine GW.seq ?_
  refine GW.region ?_
  refine R.move ⟨rfl, rfl, rfl, rfl⟩ rfl ?_
  refine R.move ⟨rfl, rfl, rfl, rfl⟩ rfl ?_
  refine R.indexAddrS ⟨rfl, rfl, rfl, rfl⟩ rfl rfl Tryz.underlying29 Tryz.sizeOf89 (by omega) (by omega) ?_
  refine R.fieldAddr ⟨rfl, rfl, rfl, rfl⟩ rfl Tryz.underlying89 rfl Tryz.sizeOf87 ?_   -- "Kind"
  refine R.load1 ⟨rfl, rfl, rfl, rfl⟩ rfl Tryz.underlying87 rfl ((hrd 0 _ rfl).mono (fun y hy => by repeat (first | exact hy | apply List.mem_cons_of_mem | apply List.mem_append_right))) ?_
  refine R.eqI ⟨rfl, rfl, rfl, rfl⟩ rfl rfl ?_
  refine GOps.nil ?_
  refine GW.ite rfl (fun hc2 => ?_) (fun hc2 => ?_)
  ·try simp only [dcQ] at hc2
   refine GW.region ?_
   refine R.move ⟨rfl, rfl, rfl, rfl⟩ rfl ?_
   refine R.move ⟨rfl, rfl, rfl, rfl⟩ rfl ?_
   refine R.move ⟨rfl, rfl, rfl, rfl⟩ rfl ?_
   refine R.indexAddrS ⟨rfl, rfl, rfl, rfl⟩ rfl rfl Tryz.underlying29 Tryz.sizeOf89 (by omega) (by omega) ?_
   refine R.loadA ⟨rfl, rfl, rfl, rfl⟩ rfl Tryz.underlying89 rfl Tryz.sizeOf89 (hrd.mono (fun y hy => by repeat (first | exact hy | apply List.mem_cons_of_mem | apply List.mem_append_right))) (by rfl) ?_
   refine R.buildSliceF (sz := 21) (bytes := 288) (vs := [_]) (cs := LtC x) ⟨rfl, rfl, rfl, rfl⟩ rfl Tryz.underlying29 (InfoE.mk (by kernel_rfl)) rfl rfl rfl rfl rfl fun b37 => ?_
   refine R.append (sz := 21) (bytes := 288) (G1 := [_]) (H := Hm) (news := LtC x) ⟨rfl, rfl, rfl, rfl⟩ rfl rfl rfl Tryz.underlying29 (InfoE.mk (by kernel_rfl)) (hM) (rfl) (rfl) (.own (by repeat (first | exact List.mem_cons_self | apply List.mem_cons_of_mem | apply List.mem_append_right | exact List.mem_append_left _ List.mem_cons_self)) 0 _ (fun j v hv => by simpa using hv)) (by omega) (by rfl) (by omega) (by omega) fun v38 H38 hv38 => ?_
   obtain ⟨A38, c38, rfl, hc38⟩ := hv38.split
   refine R.assign ⟨rfl, rfl, rfl, rfl⟩ rfl ?_
   refine GOps.nil ?_
   refine GW.region ?_
   refine R.move ⟨rfl, rfl, rfl, rfl⟩ rfl ?_
   refine R.add (r := (((i + 1) : Nat) : Int)) ⟨rfl, rfl, rfl, rfl⟩ rfl rfl (by rw [wrap64_id (by omega) (by omega)]; omega) ?_
   refine R.assign ⟨rfl, rfl, rfl, rfl⟩ rfl ?_
   refine GOps.nil ?_
   first | exact ⟨i + 1, .slice A38 _ c38, H38, (), by omega, ⟨by omega, by rw [fT_yes hx (by unfold isMt; exact decide_eq_true (by omega))]; exact lts_snoc hv38⟩, rfl, by repeat (first | exact Keeps.nil _ | refine Keeps.cons rfl ?_), Hs.tl _⟩ | exact ⟨i + 1, vm, Hm, (), by omega, ⟨by omega, by rw [fT_no hx (by unfold isMt; exact decide_eq_false (by omega))]; exact hM⟩, rfl, by repeat (first | exact Keeps.nil _ | refine Keeps.cons rfl ?_), Hs.refl _⟩
  ·try simp only [dcQ] at hc2
   refine GW.skip ?_
   refine GW.region ?_
   refine R.move ⟨rfl, rfl, rfl, rfl⟩ rfl ?_
   refine R.add (r := (((i + 1) : Nat) : Int)) ⟨rfl, rfl, rfl, rfl⟩ rfl rfl (by rw [wrap64_id (by omega) (by omega)]; omega) ?_
   refine R.assign ⟨rfl, rfl, rfl, rfl⟩ rfl ?_
   refine GOps.nil ?_
   first | exact ⟨i + 1, .slice A38 _ c38, H38, (), by omega, ⟨by omega, by rw [fT_yes hx (by unfold isMt; exact decide_eq_true (by omega))]; exact lts_snoc hv38⟩, rfl, by repeat (first | exact Keeps.nil _ | refine Keeps.cons rfl ?_), Hs.tl _⟩ | exact ⟨i + 1, vm, Hm, (), by omega, ⟨by omega, by rw [fT_no hx (by unfold isMt; exact decide_eq_false (by omega))]; exact hM⟩, rfl, by repeat (first | exact Keeps.nil _ | refine Keeps.cons rfl ?_), Hs.refl _⟩
 ·try simp only [dcQ] at hc1
  obtain rfl : i = body.length := by omega
  rw [fT_all (Nat.le_refl _)] at hM
  obtain ⟨Am, cm, rfl, hMt, hcm⟩ := hM.lts w0
  refine GW.exit ?_
  refine GW.seq ?_
  refine GW.seq ?_
  refine GW.region ?_
  refine R.assign ⟨rfl, rfl, rfl, rfl⟩ rfl ?_
  refine GOps.nil ?_
  refine GW.block ?_
  refine GW.loop4 (fun (i : Nat) (vw : Value) (Hw : Hp) (u1 : Unit) => [(0, .slice bA body.length bc), (1, .slice oA order.length oc), (5, .slice Am (body.filter isMt).length cm), (6, vw), (7, .slice none 0 0), (8, .slice none 0 0), (10, .int .i64 i)]) (fun (i : Nat) (vw : Value) (Hw : Hp) (u1 : Unit) => Hw ++ (Hm ++ G)) (fun i : Nat => body.length - i) (fun (i : Nat) (vw : Value) (Hw : Hp) (u1 : Unit) => i ≤ body.length ∧ SlAt 21 89 (ltsC ((fT isCt body i))) ((fT isCt body i)).length vw Hw) 0 (.slice none 0 0) ([]) (())
   (by repeat (first | exact Keeps.nil _ | refine Keeps.cons rfl ?_)) (Hs.refl _) (⟨Nat.zero_le _, .nil rfl rfl⟩) ?_
  rintro i vw Hw u1 ⟨hi, hW⟩
  have hfl := fT_le isCt body i
  refine GW.seq ?_
  refine GW.seq ?_
  refine GW.region ?_
  refine R.move ⟨rfl, rfl, rfl, rfl⟩ rfl ?_
  refine R.move ⟨rfl, rfl, rfl, rfl⟩ rfl ?_
  refine R.lenS ⟨rfl, rfl, rfl, rfl⟩ rfl rfl Tryz.underlying29 ?_
  refine R.lss ⟨rfl, rfl, rfl, rfl⟩ rfl rfl ?_
  refine GOps.nil ?_
  refine GW.ite rfl (fun hc3 => ?_) (fun hc3 => ?_)
  ·try simp only [dcQ] at hc3
   obtain ⟨x, hx⟩ : ∃ x, body[i]? = some x := ⟨_, List.getElem?_eq_getElem (by omega)⟩
   obtain ⟨xb, xo, cs0, rfl, rfl, hrd⟩ := hl i x hx
   refine GW.skip ?_
   refine GW.seq ?_
   refine GW.block ?_
   refine GW.seq ?_
   refine GW.region ?_
   refine R.move ⟨rfl, rfl, rfl, rfl⟩ rfl ?_
   refine R.move ⟨rfl, rfl, rfl, rfl⟩ rfl ?_
   refine R.indexAddrS ⟨rfl, rfl, rfl, rfl⟩ rfl rfl Tryz.underlying29 Tryz.sizeOf89 (by omega) (by omega) ?_
   refine R.fieldAddr ⟨rfl, rfl, rfl, rfl⟩ rfl Tryz.underlying89 rfl Tryz.sizeOf87 ?_   -- "Kind"
   refine R.load1 ⟨rfl, rfl, rfl, rfl⟩ rfl Tryz.underlying87 rfl ((hrd 0 _ rfl).mono (fun y hy => by repeat (first | exact hy | apply List.mem_cons_of_mem | apply List.mem_append_right))) ?_
   refine R.eqI ⟨rfl, rfl, rfl, rfl⟩ rfl rfl ?_
   refine R.move ⟨rfl, rfl, rfl, rfl⟩ rfl ?_
   refine GOps.caseB 51 rfl (fun hg4 => ?_) (fun hg4 => ?_)
   ·try simp only [dcQ] at hg4
    refine GOps.skip rfl rfl rfl ?_
    refine GOps.skip rfl rfl rfl ?_
    refine GOps.skip rfl rfl rfl ?_
    refine GOps.skip rfl rfl rfl ?_
    refine GOps.skip rfl rfl rfl ?_
    refine GOps.skip rfl rfl rfl ?_
    refine R.pick_t ⟨rfl, rfl, rfl, rfl⟩ rfl rfl ?_
    refine GOps.nil ?_
    refine GW.cond_t rfl ?_
    refine GW.region ?_
    refine R.move ⟨rfl, rfl, rfl, rfl⟩ rfl ?_
    refine R.move ⟨rfl, rfl, rfl, rfl⟩ rfl ?_
    refine R.move ⟨rfl, rfl, rfl, rfl⟩ rfl ?_
    refine R.indexAddrS ⟨rfl, rfl, rfl, rfl⟩ rfl rfl Tryz.underlying29 Tryz.sizeOf89 (by omega) (by omega) ?_
    refine R.loadA ⟨rfl, rfl, rfl, rfl⟩ rfl Tryz.underlying89 rfl Tryz.sizeOf89 (hrd.mono (fun y hy => by repeat (first | exact hy | apply List.mem_cons_of_mem | apply List.mem_append_right))) (by rfl) ?_
    refine R.buildSliceF (sz := 21) (bytes := 288) (vs := [_]) (cs := LtC x) ⟨rfl, rfl, rfl, rfl⟩ rfl Tryz.underlying29 (InfoE.mk (by kernel_rfl)) rfl rfl rfl rfl rfl fun b64 => ?_
    refine R.append (sz := 21) (bytes := 288) (G1 := [_]) (H := Hw) (news := LtC x) ⟨rfl, rfl, rfl, rfl⟩ rfl rfl rfl Tryz.underlying29 (InfoE.mk (by kernel_rfl)) (hW) (rfl) (rfl) (.own (by repeat (first | exact List.mem_cons_self | apply List.mem_cons_of_mem | apply List.mem_append_right | exact List.mem_append_left _ List.mem_cons_self)) 0 _ (fun j v hv => by simpa using hv)) (by omega) (by rfl) (by omega) (by omega) fun v65 H65 hv65 => ?_
    obtain ⟨A65, c65, rfl, hc65⟩ := hv65.split
    refine R.assign ⟨rfl, rfl, rfl, rfl⟩ rfl ?_
    refine GOps.nil ?_
    refine GW.region ?_
    refine R.move ⟨rfl, rfl, rfl, rfl⟩ rfl ?_
    refine R.add (r := (((i + 1) : Nat) : Int)) ⟨rfl, rfl, rfl, rfl⟩ rfl rfl (by rw [wrap64_id (by omega) (by omega)]; omega) ?_
    refine R.assign ⟨rfl, rfl, rfl, rfl⟩ rfl ?_
    refine GOps.nil ?_
    first | exact ⟨i + 1, .slice A65 _ c65, H65, (), by omega, ⟨by omega, by rw [fT_yes hx (by unfold isCt; rw [Bool.or_eq_true, decide_eq_true_eq, decide_eq_true_eq]; omega)]; exact lts_snoc hv65⟩, rfl, by repeat (first | exact Keeps.nil _ | refine Keeps.cons rfl ?_), Hs.tl _⟩ | exact ⟨i + 1, vw, Hw, (), by omega, ⟨by omega, by rw [fT_no hx (by unfold isCt; rw [Bool.or_eq_false_iff, decide_eq_false_iff_not, decide_eq_false_iff_not]; omega)]; exact hW⟩, rfl, by repeat (first | exact Keeps.nil _ | refine Keeps.cons rfl ?_), Hs.refl _⟩
   ·try simp only [dcQ] at hg4
    refine R.move ⟨rfl, rfl, rfl, rfl⟩ rfl ?_
    refine R.move ⟨rfl, rfl, rfl, rfl⟩ rfl ?_
    refine R.indexAddrS ⟨rfl, rfl, rfl, rfl⟩ rfl rfl Tryz.underlying29 Tryz.sizeOf89 (by omega) (by omega) ?_
    refine R.fieldAddr ⟨rfl, rfl, rfl, rfl⟩ rfl Tryz.underlying89 rfl Tryz.sizeOf87 ?_   -- "Kind"
    refine R.load1 ⟨rfl, rfl, rfl, rfl⟩ rfl Tryz.underlying87 rfl ((hrd 0 _ rfl).mono (fun y hy => by repeat (first | exact hy | apply List.mem_cons_of_mem | apply List.mem_append_right))) ?_
    refine R.eqI ⟨rfl, rfl, rfl, rfl⟩ rfl rfl ?_
    refine R.pick_f ⟨rfl, rfl, rfl, rfl⟩ rfl rfl ?_
    refine GOps.nil ?_
    refine GW.ite rfl (fun hc5 => ?_) (fun hc5 => ?_)
    ·try simp only [dcQ] at hc5
     refine GW.region ?_
     refine R.move ⟨rfl, rfl, rfl, rfl⟩ rfl ?_
     refine R.move ⟨rfl, rfl, rfl, rfl⟩ rfl ?_
     refine R.move ⟨rfl, rfl, rfl, rfl⟩ rfl ?_
     refine R.indexAddrS ⟨rfl, rfl, rfl, rfl⟩ rfl rfl Tryz.underlying29 Tryz.sizeOf89 (by omega) (by omega) ?_
     refine R.loadA ⟨rfl, rfl, rfl, rfl⟩ rfl Tryz.underlying89 rfl Tryz.sizeOf89 (hrd.mono (fun y hy => by repeat (first | exact hy | apply List.mem_cons_of_mem | apply List.mem_append_right))) (by rfl) ?_
     refine R.buildSliceF (sz := 21) (bytes := 288) (vs := [_]) (cs := LtC x) ⟨rfl, rfl, rfl, rfl⟩ rfl Tryz.underlying29 (InfoE.mk (by kernel_rfl)) rfl rfl rfl rfl rfl fun b64 => ?_
     refine R.append (sz := 21) (bytes := 288) (G1 := [_]) (H := Hw) (news := LtC x) ⟨rfl, rfl, rfl, rfl⟩ rfl rfl rfl Tryz.underlying29 (InfoE.mk (by kernel_rfl)) (hW) (rfl) (rfl) (.own (by repeat (first | exact List.mem_cons_self | apply List.mem_cons_of_mem | apply List.mem_append_right | exact List.mem_append_left _ List.mem_cons_self)) 0 _ (fun j v hv => by simpa using hv)) (by omega) (by rfl) (by omega) (by omega) fun v65 H65 hv65 => ?_
     obtain ⟨A65, c65, rfl, hc65⟩ := hv65.split
     refine R.assign ⟨rfl, rfl, rfl, rfl⟩ rfl ?_
     refine GOps.nil ?_
     refine GW.region ?_
     refine R.move ⟨rfl, rfl, rfl, rfl⟩ rfl ?_
     refine R.add (r := (((i + 1) : Nat) : Int)) ⟨rfl, rfl, rfl, rfl⟩ rfl rfl (by rw [wrap64_id (by omega) (by omega)]; omega) ?_
     refine R.assign ⟨rfl, rfl, rfl, rfl⟩ rfl ?_
     refine GOps.nil ?_
     first | exact ⟨i + 1, .slice A65 _ c65, H65, (), by omega, ⟨by omega, by rw [fT_yes hx (by unfold isCt; rw [Bool.or_eq_true, decide_eq_true_eq, decide_eq_true_eq]; omega)]; exact lts_snoc hv65⟩, rfl, by repeat (first | exact Keeps.nil _ | refine Keeps.cons rfl ?_), Hs.tl _⟩ | exact ⟨i + 1, vw, Hw, (), by omega, ⟨by omega, by rw [fT_no hx (by unfold isCt; rw [Bool.or_eq_false_iff, decide_eq_false_iff_not, decide_eq_false_iff_not]; omega)]; exact hW⟩, rfl, by repeat (first | exact Keeps.nil _ | refine Keeps.cons rfl ?_), Hs.refl _⟩
    ·try simp only [dcQ] at hc5
     refine GW.skip ?_
     refine GW.region ?_
     refine R.move ⟨rfl, rfl, rfl, rfl⟩ rfl ?_
     refine R.add (r := (((i + 1) : Nat) : Int)) ⟨rfl, rfl, rfl, rfl⟩ rfl rfl (by rw [wrap64_id (by omega) (by omega)]; omega) ?_
     refine R.assign ⟨rfl, rfl, rfl, rfl⟩ rfl ?_
     refine GOps.nil ?_
     first | exact ⟨i + 1, .slice A65 _ c65, H65, (), by omega, ⟨by omega, by rw [fT_yes hx (by unfold isCt; rw [Bool.or_eq_true, decide_eq_true_eq, decide_eq_true_eq]; omega)]; exact lts_snoc hv65⟩, rfl, by repeat (first | exact Keeps.nil _ | refine Keeps.cons rfl ?_), Hs.tl _⟩ | exact ⟨i + 1, vw, Hw, (), by omega, ⟨by omega, by rw [fT_no hx (by unfold isCt; rw [Bool.or_eq_false_iff, decide_eq_false_iff_not, decide_eq_false_iff_not]; omega)]; exact hW⟩, rfl, by repeat (first | exact Keeps.nil _ | refine Keeps.cons rfl ?_), Hs.refl _⟩
  ·try simp only [dcQ] at hc3
   obtain rfl : i = body.length := by omega
   rw [fT_all (Nat.le_refl _)] at hW
   refine GW.exit ?_
   refine GW.seq ?_
   refine GW.seq ?_
   refine GW.region ?_
   refine R.assign ⟨rfl, rfl, rfl, rfl⟩ rfl ?_
   refine GOps.nil ?_
   refine GW.block ?_
   refine GW.loop4 (fun (i : Nat) (vw : Value) (Hw : Hp) (u1 : Unit) => [(0, .slice bA body.length bc), (1, .slice oA order.length oc), (5, .slice Am (body.filter isMt).length cm), (6, vw), (7, .slice none 0 0), (8, .slice none 0 0), (11, .int .i64 i)]) (fun (i : Nat) (vw : Value) (Hw : Hp) (u1 : Unit) => Hw ++ (Hm ++ G)) (fun i : Nat => body.length - i) (fun (i : Nat) (vw : Value) (Hw : Hp) (u1 : Unit) => i ≤ body.length ∧ SlAt 21 89 (ltsC ((body.filter isCt ++ fT isNt body i))) ((body.filter isCt ++ fT isNt body i)).length vw Hw) 0 (vw) (Hw) (())
    (by repeat (first | exact Keeps.nil _ | refine Keeps.cons rfl ?_)) (Hs.refl _) (⟨Nat.zero_le _, (by rw [fT_zero, List.append_nil]; exact hW)⟩) ?_
   rintro i vw Hw u1 ⟨hi, hW⟩
   have hfl := fT_le isNt body i
   have hfl2 : (body.filter isCt ++ fT isNt body i).length ≤ body.length + i := by rw [List.length_append]; omega
   refine GW.seq ?_
   refine GW.seq ?_
   refine GW.region ?_
   refine R.move ⟨rfl, rfl, rfl, rfl⟩ rfl ?_
   refine R.move ⟨rfl, rfl, rfl, rfl⟩ rfl ?_
   refine R.lenS ⟨rfl, rfl, rfl, rfl⟩ rfl rfl Tryz.underlying29 ?_
   refine R.lss ⟨rfl, rfl, rfl, rfl⟩ rfl rfl ?_
   refine GOps.nil ?_
   refine GW.ite rfl (fun hc6 => ?_) (fun hc6 => ?_)
   ·try simp only [dcQ] at hc6
    obtain ⟨x, hx⟩ : ∃ x, body[i]? = some x := ⟨_, List.getElem?_eq_getElem (by omega)⟩
    obtain ⟨xb, xo, cs0, rfl, rfl, hrd⟩ := hl i x hx
    refine GW.skip ?_
    refine GW.seq ?_
    refine GW.block ?_
    refine GW.seq ?_
    refine GW.region ?_
    refine R.move ⟨rfl, rfl, rfl, rfl⟩ rfl ?_
    refine R.move ⟨rfl, rfl, rfl, rfl⟩ rfl ?_
    refine R.indexAddrS ⟨rfl, rfl, rfl, rfl⟩ rfl rfl Tryz.underlying29 Tryz.sizeOf89 (by omega) (by omega) ?_
    refine R.fieldAddr ⟨rfl, rfl, rfl, rfl⟩ rfl Tryz.underlying89 rfl Tryz.sizeOf87 ?_   -- "Kind"
    refine R.load1 ⟨rfl, rfl, rfl, rfl⟩ rfl Tryz.underlying87 rfl ((hrd 0 _ rfl).mono (fun y hy => by repeat (first | exact hy | apply List.mem_cons_of_mem | apply List.mem_append_right))) ?_
    refine R.eqI ⟨rfl, rfl, rfl, rfl⟩ rfl rfl ?_
    refine GOps.nil ?_
    refine GW.ite rfl (fun hc7 => ?_) (fun hc7 => ?_)
    ·try simp only [dcQ] at hc7
     refine GW.region ?_
     refine R.move ⟨rfl, rfl, rfl, rfl⟩ rfl ?_
     refine R.move ⟨rfl, rfl, rfl, rfl⟩ rfl ?_
     refine R.move ⟨rfl, rfl, rfl, rfl⟩ rfl ?_
     refine R.indexAddrS ⟨rfl, rfl, rfl, rfl⟩ rfl rfl Tryz.underlying29 Tryz.sizeOf89 (by omega) (by omega) ?_
     refine R.loadA ⟨rfl, rfl, rfl, rfl⟩ rfl Tryz.underlying89 rfl Tryz.sizeOf89 (hrd.mono (fun y hy => by repeat (first | exact hy | apply List.mem_cons_of_mem | apply List.mem_append_right))) (by rfl) ?_
     refine R.buildSliceF (sz := 21) (bytes := 288) (vs := [_]) (cs := LtC x) ⟨rfl, rfl, rfl, rfl⟩ rfl Tryz.underlying29 (InfoE.mk (by kernel_rfl)) rfl rfl rfl rfl rfl fun b83 => ?_
     refine R.append (sz := 21) (bytes := 288) (G1 := [_]) (H := Hw) (news := LtC x) ⟨rfl, rfl, rfl, rfl⟩ rfl rfl rfl Tryz.underlying29 (InfoE.mk (by kernel_rfl)) (hW) (rfl) (rfl) (.own (by repeat (first | exact List.mem_cons_self | apply List.mem_cons_of_mem | apply List.mem_append_right | exact List.mem_append_left _ List.mem_cons_self)) 0 _ (fun j v hv => by simpa using hv)) (by omega) (by rfl) (by omega) (by omega) fun v84 H84 hv84 => ?_
     obtain ⟨A84, c84, rfl, hc84⟩ := hv84.split
     refine R.assign ⟨rfl, rfl, rfl, rfl⟩ rfl ?_
     refine GOps.nil ?_
     refine GW.region ?_
     refine R.move ⟨rfl, rfl, rfl, rfl⟩ rfl ?_
     refine R.add (r := (((i + 1) : Nat) : Int)) ⟨rfl, rfl, rfl, rfl⟩ rfl rfl (by rw [wrap64_id (by omega) (by omega)]; omega) ?_
     refine R.assign ⟨rfl, rfl, rfl, rfl⟩ rfl ?_
     refine GOps.nil ?_
     first | exact ⟨i + 1, .slice A84 _ c84, H84, (), by omega, ⟨by omega, by rw [fT_yes hx (by unfold isNt; exact decide_eq_true (by omega)), ← List.append_assoc]; exact lts_snoc hv84⟩, rfl, by repeat (first | exact Keeps.nil _ | refine Keeps.cons rfl ?_), Hs.tl _⟩ | exact ⟨i + 1, vw, Hw, (), by omega, ⟨by omega, by rw [fT_no hx (by unfold isNt; exact decide_eq_false (by omega))]; exact hW⟩, rfl, by repeat (first | exact Keeps.nil _ | refine Keeps.cons rfl ?_), Hs.refl _⟩
    ·try simp only [dcQ] at hc7
     refine GW.skip ?_
     refine GW.region ?_
     refine R.move ⟨rfl, rfl, rfl, rfl⟩ rfl ?_
     refine R.add (r := (((i + 1) : Nat) : Int)) ⟨rfl, rfl, rfl, rfl⟩ rfl rfl (by rw [wrap64_id (by omega) (by omega)]; omega) ?_
     refine R.assign ⟨rfl, rfl, rfl, rfl⟩ rfl ?_
     refine GOps.nil ?_
     first | exact ⟨i + 1, .slice A84 _ c84, H84, (), by omega, ⟨by omega, by rw [fT_yes hx (by unfold isNt; exact decide_eq_true (by omega)), ← List.append_assoc]; exact lts_snoc hv84⟩, rfl, by repeat (first | exact Keeps.nil _ | refine Keeps.cons rfl ?_), Hs.tl _⟩ | exact ⟨i + 1, vw, Hw, (), by omega, ⟨by omega, by rw [fT_no hx (by unfold isNt; exact decide_eq_false (by omega))]; exact hW⟩, rfl, by repeat (first | exact Keeps.nil _ | refine Keeps.cons rfl ?_), Hs.refl _⟩
   ·try simp only [dcQ] at hc6
    obtain rfl : i = body.length := by omega
    rw [fT_all (Nat.le_refl _)] at hW
    replace hW : SlAt 21 89 (ltsC ((waitL body))) ((waitL body)).length vw Hw := hW
    refine GW.exit ?_
    refine GW.seq ?_
    refine GW.region ?_
    refine R.move ⟨rfl, rfl, rfl, rfl⟩ rfl ?_
    refine R.lenS ⟨rfl, rfl, rfl, rfl⟩ rfl rfl Tryz.underlying32 ?_
    refine R.move ⟨rfl, rfl, rfl, rfl⟩ rfl ?_
    refine R.lenS ⟨rfl, rfl, rfl, rfl⟩ rfl rfl Tryz.underlying29 ?_
    refine R.eqI ⟨rfl, rfl, rfl, rfl⟩ rfl rfl ?_
    refine R.assign ⟨rfl, rfl, rfl, rfl⟩ rfl ?_
    refine GOps.nil ?_
    refine GW.cutX (fun a : Unit => [(1, .slice oA order.length oc), (5, .slice Am (body.filter isMt).length cm), (6, vw), (7, .slice none 0 0), (8, .slice none 0 0), (12, .bool (goodF (body.filter isMt).length order))]) (fun a : Unit => Hw ++ (Hm ++ G)) (fun a : Unit => True) ?_ ?_
    ·refine GW.seq ?_
     refine GW.region ?_
     refine R.assign ⟨rfl, rfl, rfl, rfl⟩ rfl ?_
     refine GOps.nil ?_
     refine GW.block ?_
     refine GW.loop4 (fun (i : Nat) (g : Bool) (u1 : Unit) (u2 : Unit) => [(1, .slice oA order.length oc), (5, .slice Am (body.filter isMt).length cm), (6, vw), (7, .slice none 0 0), (8, .slice none 0 0), (12, .bool g), (13, .int .i64 i)]) (fun (i : Nat) (g : Bool) (u1 : Unit) (u2 : Unit) => Hw ++ (Hm ++ G)) (fun i : Nat => (body.filter isMt).length - i) (fun (i : Nat) (g : Bool) (u1 : Unit) (u2 : Unit) => i ≤ (body.filter isMt).length ∧ g = goodTo (body.filter isMt).length order i) 0 (decide ((order.length : Int) = ((body.filter isMt).length : Int))) (()) (())
      (by repeat (first | exact Keeps.nil _ | refine Keeps.cons rfl ?_)) (Hs.refl _) (⟨Nat.zero_le _, by simp [goodTo]⟩) ?_
     rintro i g u1 u2 ⟨hi, hg⟩
     refine GW.seq ?_
     refine GW.seq ?_
     refine GW.region ?_
     refine R.move ⟨rfl, rfl, rfl, rfl⟩ rfl ?_
     refine R.move ⟨rfl, rfl, rfl, rfl⟩ rfl ?_
     refine R.lenS ⟨rfl, rfl, rfl, rfl⟩ rfl rfl Tryz.underlying29 ?_
     refine R.lss ⟨rfl, rfl, rfl, rfl⟩ rfl rfl ?_
     refine R.move ⟨rfl, rfl, rfl, rfl⟩ rfl ?_
     refine GOps.caseB 94 rfl (fun hg8 => ?_) (fun hg8 => ?_)
     ·try simp only [dcQ] at hg8
      refine R.move ⟨rfl, rfl, rfl, rfl⟩ rfl ?_
      refine R.pick_t ⟨rfl, rfl, rfl, rfl⟩ rfl rfl ?_
      refine GOps.nil ?_
      refine GW.ite rfl (fun hc9 => ?_) (fun hc9 => ?_)
      ·try simp only [dcQ] at hc9
       refine GW.skip ?_
       refine GW.seq ?_
       refine GW.block ?_
       refine GW.seq ?_
       refine GW.region ?_
       refine R.assign ⟨rfl, rfl, rfl, rfl⟩ rfl ?_
       refine GOps.nil ?_
       refine GW.seq ?_
       refine GW.seq ?_
       refine GW.region ?_
       refine R.assign ⟨rfl, rfl, rfl, rfl⟩ rfl ?_
       refine GOps.nil ?_
       refine GW.block ?_
       refine GW.loop4 (fun (j : Nat) (mn : Nat) (u1 : Unit) (u2 : Unit) => [(1, .slice oA order.length oc), (5, .slice Am (body.filter isMt).length cm), (6, vw), (7, .slice none 0 0), (8, .slice none 0 0), (13, .int .i64 i), (14, .int .i64 mn), (15, .int .i64 j)]) (fun (j : Nat) (mn : Nat) (u1 : Unit) (u2 : Unit) => Hw ++ (Hm ++ G)) (fun j : Nat => order.length - j) (fun (j : Nat) (mn : Nat) (u1 : Unit) (u2 : Unit) => j ≤ order.length ∧ mn = (order.take j).countP (fun z => decide (z = (i : Int)))) 0 (0) (()) (())
        (by repeat (first | exact Keeps.nil _ | refine Keeps.cons rfl ?_)) (Hs.refl _) (⟨Nat.zero_le _, rfl⟩) ?_
       rintro j mn u1 u2 ⟨hj, hmn⟩
       have hcl2 := cnt_le order j i
       refine GW.seq ?_
       refine GW.seq ?_
       refine GW.region ?_
       refine R.move ⟨rfl, rfl, rfl, rfl⟩ rfl ?_
       refine R.move ⟨rfl, rfl, rfl, rfl⟩ rfl ?_
       refine R.lenS ⟨rfl, rfl, rfl, rfl⟩ rfl rfl Tryz.underlying32 ?_
       refine R.lss ⟨rfl, rfl, rfl, rfl⟩ rfl rfl ?_
       refine GOps.nil ?_
       refine GW.ite rfl (fun hc10 => ?_) (fun hc10 => ?_)
       ·try simp only [dcQ] at hc10
        obtain ⟨z, hz⟩ : ∃ z, order[j]? = some z := ⟨_, List.getElem?_eq_getElem (by omega)⟩
        obtain ⟨zb, zo, rfl, hrz⟩ := int_at ho hz
        refine GW.skip ?_
        refine GW.seq ?_
        refine GW.block ?_
        refine GW.seq ?_
        refine GW.region ?_
        refine R.move ⟨rfl, rfl, rfl, rfl⟩ rfl ?_
        refine R.move ⟨rfl, rfl, rfl, rfl⟩ rfl ?_
        refine R.indexAddrS ⟨rfl, rfl, rfl, rfl⟩ rfl rfl Tryz.underlying32 Tryz.sizeOf3 (by omega) (by omega) ?_
        refine R.load1 ⟨rfl, rfl, rfl, rfl⟩ rfl Tryz.underlying3 rfl (hrz.mono (fun y hy => by repeat (first | exact hy | apply List.mem_cons_of_mem | apply List.mem_append_right))) ?_
        refine R.move ⟨rfl, rfl, rfl, rfl⟩ rfl ?_
        refine R.eqI ⟨rfl, rfl, rfl, rfl⟩ rfl rfl ?_
        refine GOps.nil ?_
        refine GW.ite rfl (fun hc11 => ?_) (fun hc11 => ?_)
        ·try simp only [dcQ] at hc11
         refine GW.region ?_
         refine R.move ⟨rfl, rfl, rfl, rfl⟩ rfl ?_
         refine R.add (r := ((mn + 1 : Nat) : Int)) ⟨rfl, rfl, rfl, rfl⟩ rfl rfl (by rw [wrap64_id (by omega) (by omega)]; omega) ?_
         refine R.assign ⟨rfl, rfl, rfl, rfl⟩ rfl ?_
         refine GOps.nil ?_
         refine GW.region ?_
         refine R.move ⟨rfl, rfl, rfl, rfl⟩ rfl ?_
         refine R.add (r := (((j + 1) : Nat) : Int)) ⟨rfl, rfl, rfl, rfl⟩ rfl rfl (by rw [wrap64_id (by omega) (by omega)]; omega) ?_
         refine R.assign ⟨rfl, rfl, rfl, rfl⟩ rfl ?_
         refine GOps.nil ?_
         first | exact ⟨j + 1, mn + 1, (), (), by omega, ⟨by omega, by rw [cnt_succ i hz, if_pos (by assumption), ← hmn]⟩, rfl, by repeat (first | exact Keeps.nil _ | refine Keeps.cons rfl ?_), Hs.refl _⟩ | exact ⟨j + 1, mn, (), (), by omega, ⟨by omega, by rw [cnt_succ i hz, if_neg (by assumption), ← hmn, Nat.add_zero]⟩, rfl, by repeat (first | exact Keeps.nil _ | refine Keeps.cons rfl ?_), Hs.refl _⟩
        ·try simp only [dcQ] at hc11
         refine GW.skip ?_
         refine GW.region ?_
         refine R.move ⟨rfl, rfl, rfl, rfl⟩ rfl ?_
         refine R.add (r := (((j + 1) : Nat) : Int)) ⟨rfl, rfl, rfl, rfl⟩ rfl rfl (by rw [wrap64_id (by omega) (by omega)]; omega) ?_
         refine R.assign ⟨rfl, rfl, rfl, rfl⟩ rfl ?_
         refine GOps.nil ?_
         first | exact ⟨j + 1, mn + 1, (), (), by omega, ⟨by omega, by rw [cnt_succ i hz, if_pos (by assumption), ← hmn]⟩, rfl, by repeat (first | exact Keeps.nil _ | refine Keeps.cons rfl ?_), Hs.refl _⟩ | exact ⟨j + 1, mn, (), (), by omega, ⟨by omega, by rw [cnt_succ i hz, if_neg (by assumption), ← hmn, Nat.add_zero]⟩, rfl, by repeat (first | exact Keeps.nil _ | refine Keeps.cons rfl ?_), Hs.refl _⟩
       ·try simp only [dcQ] at hc10
        refine GW.exit ?_
        refine GW.region ?_
        refine R.move ⟨rfl, rfl, rfl, rfl⟩ rfl ?_
        refine R.eqI ⟨rfl, rfl, rfl, rfl⟩ rfl rfl ?_
        refine R.assign ⟨rfl, rfl, rfl, rfl⟩ rfl ?_
        refine GOps.nil ?_
        refine GW.region ?_
        refine R.move ⟨rfl, rfl, rfl, rfl⟩ rfl ?_
        refine R.add (r := (((i + 1) : Nat) : Int)) ⟨rfl, rfl, rfl, rfl⟩ rfl rfl (by rw [wrap64_id (by omega) (by omega)]; omega) ?_
        refine R.assign ⟨rfl, rfl, rfl, rfl⟩ rfl ?_
        refine GOps.nil ?_
        exact ⟨i + 1, decide ((mn : Int) = 1), (), (), by omega, ⟨by omega, by rw [goodTo_succ (by rw [← hg]; assumption), hmn, List.take_of_length_le (by omega)]; rfl⟩, rfl, by repeat (first | exact Keeps.nil _ | refine Keeps.cons rfl ?_), Hs.refl _⟩
      ·try simp only [dcQ] at hc9
       refine GW.exit ?_
       first | (have hgg : g = (goodF (body.filter isMt).length order) := by rw [hg, show i = (body.filter isMt).length by omega]; rfl) | (have hgg : g = (goodF (body.filter isMt).length order) := by rw [show g = false by assumption, goodTo_end (by rw [← hg]; assumption) hi])
       subst hgg
       exact ⟨rfl, rfl, (), trivial, by repeat (first | exact Keeps.nil _ | refine Keeps.cons rfl ?_), Hs.refl _⟩
     ·try simp only [dcQ] at hg8
      refine GOps.skip rfl rfl rfl ?_
      refine R.pick_f ⟨rfl, rfl, rfl, rfl⟩ rfl rfl ?_
      refine GOps.nil ?_
      refine GW.cond_f rfl ?_
      refine GW.exit ?_
      first | (have hgg : g = (goodF (body.filter isMt).length order) := by rw [hg, show i = (body.filter isMt).length by omega]; rfl) | (have hgg : g = (goodF (body.filter isMt).length order) := by rw [show g = false by assumption, goodTo_end (by rw [← hg]; assumption) hi])
      subst hgg
      exact ⟨rfl, rfl, (), trivial, by repeat (first | exact Keeps.nil _ | refine Keeps.cons rfl ?_), Hs.refl _⟩
    ·intro _ _
     obtain ⟨good, hgd⟩ : ∃ g, g = (goodF (body.filter isMt).length order) := ⟨_, rfl⟩
     rw [← hgd]
     refine GW.seq ?_
     refine GW.seq ?_
     refine GW.region ?_
     refine R.assign ⟨rfl, rfl, rfl, rfl⟩ rfl ?_
     refine GOps.nil ?_
     refine GW.block ?_
     refine GW.loop4 (fun (i : Nat) (q : PS) (h : (Value × Value × Value) × (Hp × Hp × Hp)) (u1 : Unit) => [(1, .slice oA order.length oc), (5, .slice Am (body.filter isMt).length cm), (6, h.1.1), (7, h.1.2.1), (8, h.1.2.2), (12, .bool good), (16, .int .i64 i)]) (fun (i : Nat) (q : PS) (h : (Value × Value × Value) × (Hp × Hp × Hp)) (u1 : Unit) => h.2.2.2 ++ (h.2.2.1 ++ (h.2.1 ++ (Hm ++ G)))) (fun i : Nat => (body.filter isMt).length + 1 - i) (fun (i : Nat) (q : PS) (h : (Value × Value × Value) × (Hp × Hp × Hp)) (u1 : Unit) => i ≤ (body.filter isMt).length + 1 ∧ q = stW (body.filter isMt) good order ⟨[], (waitL body), []⟩ i ∧ SlAt 21 89 (ltsC (q.wt)) (q.wt).length h.1.1 h.2.1 ∧ SlAt 21 89 (ltsC (q.tk)) (q.tk).length h.1.2.1 h.2.2.1 ∧ SlAt 21 89 (ltsC (q.out)) (q.out).length h.1.2.2 h.2.2.2) 0 (⟨[], (waitL body), []⟩) (((vw, .slice none 0 0, .slice none 0 0), (Hw, [], []))) (())
      (by repeat (first | exact Keeps.nil _ | refine Keeps.cons rfl ?_)) (Hs.refl _) (⟨Nat.zero_le _, rfl, hW, .nil rfl rfl, .nil rfl rfl⟩) ?_
     rintro i q h u1 ⟨hi, hq, hW, hT, hO⟩
     obtain ⟨⟨vw, vt, vo⟩, Hw, Ht, Ho⟩ := h
     obtain ⟨hq1, hq3⟩ := st_len (body.filter isMt) good order ⟨[], (waitL body), []⟩ rfl i
     rw [← hq] at hq1 hq3
     simp only [List.length_nil] at hq3
     simp only at hW hT hO
     refine GW.seq ?_
     refine GW.seq ?_
     refine GW.region ?_
     refine R.move ⟨rfl, rfl, rfl, rfl⟩ rfl ?_
     refine R.move ⟨rfl, rfl, rfl, rfl⟩ rfl ?_
     refine R.lenS ⟨rfl, rfl, rfl, rfl⟩ rfl rfl Tryz.underlying29 ?_
     refine R.leq ⟨rfl, rfl, rfl, rfl⟩ rfl rfl ?_
     refine GOps.nil ?_
     refine GW.ite rfl (fun hc12 => ?_) (fun hc12 => ?_)
     ·try simp only [dcQ] at hc12
      refine GW.skip ?_
      refine GW.seq ?_
      refine GW.block ?_
      refine GW.cutX (fun a : (Value × Value) × (Hp × Hp) => [(1, .slice oA order.length oc), (5, .slice Am (body.filter isMt).length cm), (6, vw), (7, a.1.1), (8, a.1.2), (12, .bool good), (16, .int .i64 i)]) (fun a : (Value × Value) × (Hp × Hp) => a.2.2 ++ (a.2.1 ++ (Hw ++ (Hm ++ G)))) (fun a : (Value × Value) × (Hp × Hp) => SlAt 21 89 (ltsC ((preW (body.filter isMt) good order q i).tk)) ((preW (body.filter isMt) good order q i).tk).length a.1.1 a.2.1 ∧ SlAt 21 89 (ltsC ((preW (body.filter isMt) good order q i).out)) ((preW (body.filter isMt) good order q i).out).length a.1.2 a.2.2) ?_ ?_
      ·refine GW.seq ?_
       refine GW.region ?_
       refine R.move ⟨rfl, rfl, rfl, rfl⟩ rfl ?_
       refine R.gtr ⟨rfl, rfl, rfl, rfl⟩ rfl rfl ?_
       refine GOps.nil ?_
       refine GW.ite rfl (fun hc13 => ?_) (fun hc13 => ?_)
       ·try simp only [dcQ] at hc13
        obtain ⟨p, rfl⟩ : ∃ p, i = p + 1 := ⟨i - 1, by omega⟩
        have hmp : (body.filter isMt)[p]? = some ((body.filter isMt).getD p zLt) := by rw [List.getD, List.getElem?_eq_getElem (by omega)]; rfl
        obtain ⟨m1, hm1⟩ : ∃ m1, m1 = (body.filter isMt).getD p zLt := ⟨_, rfl⟩
        rw [← hm1] at hmp
        obtain ⟨mb, mo, cs1, rfl, rfl, hrm⟩ := hMt p _ hmp
        refine GW.seq ?_
        refine GW.region ?_
        refine R.move ⟨rfl, rfl, rfl, rfl⟩ rfl ?_
        refine R.move ⟨rfl, rfl, rfl, rfl⟩ rfl ?_
        refine R.sub (r := ((p : Nat) : Int)) ⟨rfl, rfl, rfl, rfl⟩ rfl rfl (by rw [wrap64_id (by omega) (by omega)]; omega) ?_
        refine R.indexAddrS ⟨rfl, rfl, rfl, rfl⟩ rfl rfl Tryz.underlying29 Tryz.sizeOf89 (by omega) (by omega) ?_
        refine R.loadA ⟨rfl, rfl, rfl, rfl⟩ rfl Tryz.underlying89 rfl Tryz.sizeOf89 (hrm.mono (fun y hy => by repeat (first | exact hy | exact List.mem_append_left _ hy | apply List.mem_cons_of_mem | apply List.mem_append_right))) (by rfl) ?_
        refine R.alloc ⟨rfl, rfl, rfl, rfl⟩ Tryz.zeroValue89 fun b17 => ?_
        refine R.storeAll (G1 := []) rfl rfl rfl rfl rfl Tryz.sizeOf89 rfl rfl rfl rfl ?_
        refine GOps.nil ?_
        refine GW.seq ?_
        refine GW.seq ?_
        refine GW.region ?_
        refine R.move ⟨rfl, rfl, rfl, rfl⟩ rfl ?_
        refine GOps.nil ?_
        refine GW.ite rfl (fun hc14 => ?_) (fun hc14 => ?_)
        ·try simp only [dcQ] at hc14
         obtain ⟨hgl, hgm⟩ := good_range (n := (body.filter isMt).length) (order := order) (by rw [← hgd]; assumption)
         obtain ⟨z, hz⟩ : ∃ z, order[p]? = some z := ⟨_, List.getElem?_eq_getElem (by omega)⟩
         have hzm := hgm z (List.mem_of_getElem? hz)
         have hmz : (body.filter isMt)[z.toNat]? = some ((body.filter isMt).getD z.toNat zLt) := by rw [List.getD, List.getElem?_eq_getElem (by omega)]; rfl
         have hmA0 : (mAt (body.filter isMt) good order p) = (body.filter isMt).getD z.toNat zLt := by unfold mAt; rw [if_pos (by assumption), show order.getD p 0 = z by rw [List.getD, hz]; rfl]
         obtain ⟨mm, hm2⟩ : ∃ mm, mm = (body.filter isMt).getD z.toNat zLt := ⟨_, rfl⟩
         rw [← hm2] at hmz hmA0
         obtain ⟨zb, zo, rfl, hrz⟩ := int_at ho hz
         obtain ⟨mb2, mo2, cs2, hE, rfl, hrm2⟩ := hMt z.toNat _ hmz
         cases hE
         refine GW.region ?_
         refine R.move ⟨rfl, rfl, rfl, rfl⟩ rfl ?_
         refine R.move ⟨rfl, rfl, rfl, rfl⟩ rfl ?_
         refine R.move ⟨rfl, rfl, rfl, rfl⟩ rfl ?_
         refine R.sub (r := ((p : Nat) : Int)) ⟨rfl, rfl, rfl, rfl⟩ rfl rfl (by rw [wrap64_id (by omega) (by omega)]; omega) ?_
         refine R.indexAddrS ⟨rfl, rfl, rfl, rfl⟩ rfl rfl Tryz.underlying32 Tryz.sizeOf3 (by omega) (by omega) ?_
         refine R.load1 ⟨rfl, rfl, rfl, rfl⟩ rfl Tryz.underlying3 rfl (hrz.mono (fun y hy => by repeat (first | exact hy | apply List.mem_cons_of_mem | apply List.mem_append_right))) ?_
         refine R.indexAddrS ⟨rfl, rfl, rfl, rfl⟩ rfl rfl Tryz.underlying29 Tryz.sizeOf89 (by omega) (by omega) ?_
         refine R.loadA ⟨rfl, rfl, rfl, rfl⟩ rfl Tryz.underlying89 rfl Tryz.sizeOf89 (hrm2.mono (fun y hy => by repeat (first | exact hy | exact List.mem_append_left _ hy | apply List.mem_cons_of_mem | apply List.mem_append_right))) (by rfl) ?_
         refine R.storeAll (G1 := []) rfl rfl rfl rfl rfl Tryz.sizeOf89 rfl rfl rfl rfl ?_
         refine GOps.nil ?_
         refine GW.seq ?_
         refine GW.region ?_
         refine R.move ⟨rfl, rfl, rfl, rfl⟩ rfl ?_
         refine R.load_own (cs := LtC mm) ⟨rfl, rfl, rfl, rfl⟩ rfl Tryz.underlying89 rfl Tryz.sizeOf89 memG (by rfl) (by rfl) ?_
         refine R.buildSliceF (sz := 21) (bytes := 288) (vs := [_]) (cs := LtC mm) ⟨rfl, rfl, rfl, rfl⟩ rfl Tryz.underlying29 (InfoE.mk (by kernel_rfl)) rfl rfl rfl rfl rfl fun b139 => ?_
         refine R.append (sz := 21) (bytes := 288) (G1 := [_, _] ++ Ho) (H := Ht) (news := LtC mm) ⟨rfl, rfl, rfl, rfl⟩ rfl rfl rfl Tryz.underlying29 (InfoE.mk (by kernel_rfl)) (hT) (as2 [_, _] _ _) (rfl) (.own (by repeat (first | exact List.mem_cons_self | apply List.mem_cons_of_mem | apply List.mem_append_right | exact List.mem_append_left _ List.mem_cons_self)) 0 _ (fun j v hv => by simpa using hv)) (by omega) (by rfl) (by omega) (by omega) fun v140 H140 hv140 => ?_
         refine GOps.weak (Keeps.refl _) (Hs.un2 [_, _] _ _) ?_
         obtain ⟨A140, c140, rfl, hc140⟩ := hv140.split
         refine R.assign ⟨rfl, rfl, rfl, rfl⟩ rfl ?_
         refine GOps.nil ?_
         refine GW.region ?_
         refine R.move ⟨rfl, rfl, rfl, rfl⟩ rfl ?_
         refine R.load_own (cs := LtC mm) ⟨rfl, rfl, rfl, rfl⟩ rfl Tryz.underlying89 rfl Tryz.sizeOf89 memG (by rfl) (by rfl) ?_
         refine R.buildSliceF (sz := 21) (bytes := 288) (vs := [_]) (cs := LtC mm) ⟨rfl, rfl, rfl, rfl⟩ rfl Tryz.underlying29 (InfoE.mk (by kernel_rfl)) rfl rfl rfl rfl rfl fun b143 => ?_
         refine R.append (sz := 21) (bytes := 288) (G1 := [_, _, _]) (H := Ho) (news := LtC mm) ⟨rfl, rfl, rfl, rfl⟩ rfl rfl rfl Tryz.underlying29 (InfoE.mk (by kernel_rfl)) (hO) (rfl) (rfl) (.own (by repeat (first | exact List.mem_cons_self | apply List.mem_cons_of_mem | apply List.mem_append_right | exact List.mem_append_left _ List.mem_cons_self)) 0 _ (fun j v hv => by simpa using hv)) (by omega) (by rfl) (by omega) (by omega) fun v144 H144 hv144 => ?_
         obtain ⟨A144, c144, rfl, hc144⟩ := hv144.split
         refine R.assign ⟨rfl, rfl, rfl, rfl⟩ rfl ?_
         refine GOps.nil ?_
         first | exact ⟨rfl, rfl, ((vt, vo), (Ht, Ho)), ⟨hT, hO⟩, by repeat (first | exact Keeps.nil _ | refine Keeps.cons rfl ?_), Hs.refl _⟩ | exact ⟨rfl, rfl, ((.slice A140 _ c140, .slice A144 _ c144), (H140, H144)), ⟨(by show SlAt 21 89 (ltsC (q.tk ++ [(mAt (body.filter isMt) good order p)])) (q.tk ++ [(mAt (body.filter isMt) good order p)]).length _ _; rw [hmA0]; exact lts_snoc hv140), (by show SlAt 21 89 (ltsC (q.out ++ [(mAt (body.filter isMt) good order p)])) (q.out ++ [(mAt (body.filter isMt) good order p)]).length _ _; rw [hmA0]; exact lts_snoc hv144)⟩, by repeat (first | exact Keeps.nil _ | refine Keeps.cons rfl ?_), Hs.tl3 _ _ _⟩
        ·try simp only [dcQ] at hc14
         have hmA0 : (mAt (body.filter isMt) good order p) = m1 := by unfold mAt; rw [if_neg (by simp; assumption)]; exact hm1.symm
         rename Lt => mm
         refine GW.skip ?_
         refine GW.seq ?_
         refine GW.region ?_
         refine R.move ⟨rfl, rfl, rfl, rfl⟩ rfl ?_
         refine R.load_own (cs := LtC mm) ⟨rfl, rfl, rfl, rfl⟩ rfl Tryz.underlying89 rfl Tryz.sizeOf89 memG (by rfl) (by rfl) ?_
         refine R.buildSliceF (sz := 21) (bytes := 288) (vs := [_]) (cs := LtC mm) ⟨rfl, rfl, rfl, rfl⟩ rfl Tryz.underlying29 (InfoE.mk (by kernel_rfl)) rfl rfl rfl rfl rfl fun b139 => ?_
         refine R.append (sz := 21) (bytes := 288) (G1 := [_, _] ++ Ho) (H := Ht) (news := LtC mm) ⟨rfl, rfl, rfl, rfl⟩ rfl rfl rfl Tryz.underlying29 (InfoE.mk (by kernel_rfl)) (hT) (as2 [_, _] _ _) (rfl) (.own (by repeat (first | exact List.mem_cons_self | apply List.mem_cons_of_mem | apply List.mem_append_right | exact List.mem_append_left _ List.mem_cons_self)) 0 _ (fun j v hv => by simpa using hv)) (by omega) (by rfl) (by omega) (by omega) fun v140 H140 hv140 => ?_
         refine GOps.weak (Keeps.refl _) (Hs.un2 [_, _] _ _) ?_
         obtain ⟨A140, c140, rfl, hc140⟩ := hv140.split
         refine R.assign ⟨rfl, rfl, rfl, rfl⟩ rfl ?_
         refine GOps.nil ?_
         refine GW.region ?_
         refine R.move ⟨rfl, rfl, rfl, rfl⟩ rfl ?_
         refine R.load_own (cs := LtC mm) ⟨rfl, rfl, rfl, rfl⟩ rfl Tryz.underlying89 rfl Tryz.sizeOf89 memG (by rfl) (by rfl) ?_
         refine R.buildSliceF (sz := 21) (bytes := 288) (vs := [_]) (cs := LtC mm) ⟨rfl, rfl, rfl, rfl⟩ rfl Tryz.underlying29 (InfoE.mk (by kernel_rfl)) rfl rfl rfl rfl rfl fun b143 => ?_
         refine R.append (sz := 21) (bytes := 288) (G1 := [_, _, _]) (H := Ho) (news := LtC mm) ⟨rfl, rfl, rfl, rfl⟩ rfl rfl rfl Tryz.underlying29 (InfoE.mk (by kernel_rfl)) (hO) (rfl) (rfl) (.own (by repeat (first | exact List.mem_cons_self | apply List.mem_cons_of_mem | apply List.mem_append_right | exact List.mem_append_left _ List.mem_cons_self)) 0 _ (fun j v hv => by simpa using hv)) (by omega) (by rfl) (by omega) (by omega) fun v144 H144 hv144 => ?_
         obtain ⟨A144, c144, rfl, hc144⟩ := hv144.split
         refine R.assign ⟨rfl, rfl, rfl, rfl⟩ rfl ?_
         refine GOps.nil ?_
         first | exact ⟨rfl, rfl, ((vt, vo), (Ht, Ho)), ⟨hT, hO⟩, by repeat (first | exact Keeps.nil _ | refine Keeps.cons rfl ?_), Hs.refl _⟩ | exact ⟨rfl, rfl, ((.slice A140 _ c140, .slice A144 _ c144), (H140, H144)), ⟨(by show SlAt 21 89 (ltsC (q.tk ++ [(mAt (body.filter isMt) good order p)])) (q.tk ++ [(mAt (body.filter isMt) good order p)]).length _ _; rw [hmA0]; exact lts_snoc hv140), (by show SlAt 21 89 (ltsC (q.out ++ [(mAt (body.filter isMt) good order p)])) (q.out ++ [(mAt (body.filter isMt) good order p)]).length _ _; rw [hmA0]; exact lts_snoc hv144)⟩, by repeat (first | exact Keeps.nil _ | refine Keeps.cons rfl ?_), Hs.tl3 _ _ _⟩
       ·try simp only [dcQ] at hc13
        obtain rfl : i = 0 := by omega
        refine GW.skip ?_
        first | exact ⟨rfl, rfl, ((vt, vo), (Ht, Ho)), ⟨hT, hO⟩, by repeat (first | exact Keeps.nil _ | refine Keeps.cons rfl ?_), Hs.refl _⟩ | exact ⟨rfl, rfl, ((.slice A140 _ c140, .slice A144 _ c144), (H140, H144)), ⟨(by show SlAt 21 89 (ltsC (q.tk ++ [(mAt (body.filter isMt) good order p)])) (q.tk ++ [(mAt (body.filter isMt) good order p)]).length _ _; rw [hmA0]; exact lts_snoc hv140), (by show SlAt 21 89 (ltsC (q.out ++ [(mAt (body.filter isMt) good order p)])) (q.out ++ [(mAt (body.filter isMt) good order p)]).length _ _; rw [hmA0]; exact lts_snoc hv144)⟩, by repeat (first | exact Keeps.nil _ | refine Keeps.cons rfl ?_), Hs.tl3 _ _ _⟩
      ·rintro ⟨⟨vt2, vo2⟩, Ht2, Ho2⟩ ⟨hT2, hO2⟩
       simp only at hT2 hO2
       obtain ⟨q2, hq2⟩ : ∃ q2, q2 = (preW (body.filter isMt) good order q i) := ⟨_, rfl⟩
       rw [← hq2] at hT2 hO2
       have hwt : q.wt = q2.wt := by rw [hq2, pre_wt]
       have hq4 : q2.tk.length ≤ q.tk.length + 1 := by rw [hq2]; cases i <;> simp [preW]
       have hq5 : q2.out.length ≤ q.out.length + 1 := by rw [hq2]; cases i <;> simp [preW]
       rw [hwt] at hW hq3
       obtain ⟨Aw, cw, rfl, hWt, hcw⟩ := hW.lts w0
       obtain ⟨At, ct, rfl, hTt, hct⟩ := hT2.lts w0
       refine GW.seq ?_
       refine GW.region ?_
       refine R.assign ⟨rfl, rfl, rfl, rfl⟩ rfl ?_
       refine GOps.nil ?_
       refine GW.seq ?_
       refine GW.seq ?_
       refine GW.region ?_
       refine R.assign ⟨rfl, rfl, rfl, rfl⟩ rfl ?_
       refine GOps.nil ?_
       refine GW.block ?_
       refine GW.loop4 (fun (j : Nat) (h : (Value × Value) × (Hp × Hp)) (u1 : Unit) (u2 : Unit) => [(1, .slice oA order.length oc), (5, .slice Am (body.filter isMt).length cm), (6, .slice Aw q2.wt.length cw), (7, .slice At q2.tk.length ct), (8, h.1.1), (12, .bool good), (16, .int .i64 i), (18, h.1.2), (19, .int .i64 j)]) (fun (j : Nat) (h : (Value × Value) × (Hp × Hp)) (u1 : Unit) (u2 : Unit) => h.2.2 ++ (h.2.1 ++ (Ht2 ++ (Hw ++ (Hm ++ G))))) (fun j : Nat => q2.wt.length - j) (fun (j : Nat) (h : (Value × Value) × (Hp × Hp)) (u1 : Unit) (u2 : Unit) => j ≤ q2.wt.length ∧ SlAt 21 89 (ltsC (q2.out ++ fT (readyW q2.tk) q2.wt j)) (q2.out ++ fT (readyW q2.tk) q2.wt j).length h.1.1 h.2.1 ∧ SlAt 21 89 (ltsC (fT (fun l => !readyW q2.tk l) q2.wt j)) (fT (fun l => !readyW q2.tk l) q2.wt j).length h.1.2 h.2.2) 0 (((vo2, .slice none 0 0), (Ho2, []))) (()) (())
        (by repeat (first | exact Keeps.nil _ | refine Keeps.cons rfl ?_)) (Hs.refl _) (⟨Nat.zero_le _, (by rw [fT_zero, List.append_nil]; exact hO2), .nil rfl rfl⟩) ?_
       rintro j h u1 u2 ⟨hj, hO3, hF⟩
       obtain ⟨⟨vo3, vf⟩, Ho3, Hf⟩ := h
       simp only at hO3 hF
       have hfl := fT_le (readyW q2.tk) q2.wt j
       have hfl2 := fT_le (fun l => !readyW q2.tk l) q2.wt j
       have hfl3 : (q2.out ++ fT (readyW q2.tk) q2.wt j).length ≤ q2.out.length + j := by rw [List.length_append]; omega
       refine GW.seq ?_
       refine GW.seq ?_
       refine GW.region ?_
       refine R.move ⟨rfl, rfl, rfl, rfl⟩ rfl ?_
       refine R.move ⟨rfl, rfl, rfl, rfl⟩ rfl ?_
       refine R.lenS ⟨rfl, rfl, rfl, rfl⟩ rfl rfl Tryz.underlying29 ?_
       refine R.lss ⟨rfl, rfl, rfl, rfl⟩ rfl rfl ?_
       refine GOps.nil ?_
       refine GW.ite rfl (fun hc15 => ?_) (fun hc15 => ?_)
       ·try simp only [dcQ] at hc15
        obtain ⟨x, hx⟩ : ∃ x, q2.wt[j]? = some x := ⟨_, List.getElem?_eq_getElem (by omega)⟩
        obtain ⟨wb, wo, cs0, rfl, rfl, hrd⟩ := hWt j x hx
        refine GW.skip ?_
        refine GW.seq ?_
        refine GW.block ?_
        refine GW.seq ?_
        refine GW.region ?_
        refine R.move ⟨rfl, rfl, rfl, rfl⟩ rfl ?_
        refine R.move ⟨rfl, rfl, rfl, rfl⟩ rfl ?_
        refine R.indexAddrS ⟨rfl, rfl, rfl, rfl⟩ rfl rfl Tryz.underlying29 Tryz.sizeOf89 (by omega) (by omega) ?_
        refine R.loadA ⟨rfl, rfl, rfl, rfl⟩ rfl Tryz.underlying89 rfl Tryz.sizeOf89 (hrd.mono (fun y hy => by repeat (first | exact hy | exact List.mem_append_left _ hy | apply List.mem_cons_of_mem | apply List.mem_append_right))) (by rfl) ?_
        refine R.move ⟨rfl, rfl, rfl, rfl⟩ rfl ?_
        refine R.call ⟨rfl, rfl, rfl, rfl⟩ rfl (vs := [_, _]) rfl ((ref_ready _ _ x q2.tk At ct (LtsAt.mono' hTt (fun y hy => by repeat (first | exact hy | exact List.mem_append_left _ hy | apply List.mem_cons_of_mem | apply List.mem_append_right))) (by omega)).mono ?_)
        rintro _ _ ⟨rfl, rfl⟩
        refine GOps.nil ?_
        refine GW.ite rfl (fun hc16 => ?_) (fun hc16 => ?_)
        ·try simp only [dcQ] at hc16
         refine GW.region ?_
         refine R.move ⟨rfl, rfl, rfl, rfl⟩ rfl ?_
         refine R.move ⟨rfl, rfl, rfl, rfl⟩ rfl ?_
         refine R.move ⟨rfl, rfl, rfl, rfl⟩ rfl ?_
         refine R.indexAddrS ⟨rfl, rfl, rfl, rfl⟩ rfl rfl Tryz.underlying29 Tryz.sizeOf89 (by omega) (by omega) ?_
         refine R.loadA ⟨rfl, rfl, rfl, rfl⟩ rfl Tryz.underlying89 rfl Tryz.sizeOf89 (hrd.mono (fun y hy => by repeat (first | exact hy | exact List.mem_append_left _ hy | apply List.mem_cons_of_mem | apply List.mem_append_right))) (by rfl) ?_
         refine R.buildSliceF (sz := 21) (bytes := 288) (vs := [_]) (cs := LtC x) ⟨rfl, rfl, rfl, rfl⟩ rfl Tryz.underlying29 (InfoE.mk (by kernel_rfl)) rfl rfl rfl rfl rfl fun b162 => ?_
         refine R.append (sz := 21) (bytes := 288) (G1 := [_] ++ Hf) (H := Ho3) (news := LtC x) ⟨rfl, rfl, rfl, rfl⟩ rfl rfl rfl Tryz.underlying29 (InfoE.mk (by kernel_rfl)) (hO3) (as2 [_] _ _) (rfl) (.own (by repeat (first | exact List.mem_cons_self | apply List.mem_cons_of_mem | apply List.mem_append_right | exact List.mem_append_left _ List.mem_cons_self)) 0 _ (fun j v hv => by simpa using hv)) (by omega) (by rfl) (by omega) (by omega) fun v163 H163 hv163 => ?_
         refine GOps.weak (Keeps.refl _) (Hs.un2 [_] _ _) ?_
         obtain ⟨A163, c163, rfl, hc163⟩ := hv163.split
         refine R.assign ⟨rfl, rfl, rfl, rfl⟩ rfl ?_
         refine GOps.nil ?_
         refine GW.region ?_
         refine R.move ⟨rfl, rfl, rfl, rfl⟩ rfl ?_
         refine R.add (r := (((j + 1) : Nat) : Int)) ⟨rfl, rfl, rfl, rfl⟩ rfl rfl (by rw [wrap64_id (by omega) (by omega)]; omega) ?_
         refine R.assign ⟨rfl, rfl, rfl, rfl⟩ rfl ?_
         refine GOps.nil ?_
         first | exact ⟨j + 1, ((.slice A163 _ c163, vf), (H163, Hf)), (), (), by omega, ⟨by omega, (by rw [fT_yes hx (by assumption), ← List.append_assoc]; exact lts_snoc hv163), (by rw [fT_no hx (by rw [show readyW q2.tk x = true by assumption]; rfl)]; exact hF)⟩, rfl, by repeat (first | exact Keeps.nil _ | refine Keeps.cons rfl ?_), Hs.tl _⟩ | exact ⟨j + 1, ((vo3, .slice A170 _ c170), (Ho3, H170)), (), (), by omega, ⟨by omega, (by rw [fT_no hx (by assumption)]; exact hO3), (by rw [fT_yes hx (by rw [show readyW q2.tk x = false by assumption]; rfl)]; exact lts_snoc hv170)⟩, rfl, by repeat (first | exact Keeps.nil _ | refine Keeps.cons rfl ?_), Hs.tl _⟩
        ·try simp only [dcQ] at hc16
         refine GW.region ?_
         refine R.move ⟨rfl, rfl, rfl, rfl⟩ rfl ?_
         refine R.move ⟨rfl, rfl, rfl, rfl⟩ rfl ?_
         refine R.move ⟨rfl, rfl, rfl, rfl⟩ rfl ?_
         refine R.indexAddrS ⟨rfl, rfl, rfl, rfl⟩ rfl rfl Tryz.underlying29 Tryz.sizeOf89 (by omega) (by omega) ?_
         refine R.loadA ⟨rfl, rfl, rfl, rfl⟩ rfl Tryz.underlying89 rfl Tryz.sizeOf89 (hrd.mono (fun y hy => by repeat (first | exact hy | exact List.mem_append_left _ hy | apply List.mem_cons_of_mem | apply List.mem_append_right))) (by rfl) ?_
         refine R.buildSliceF (sz := 21) (bytes := 288) (vs := [_]) (cs := LtC x) ⟨rfl, rfl, rfl, rfl⟩ rfl Tryz.underlying29 (InfoE.mk (by kernel_rfl)) rfl rfl rfl rfl rfl fun b169 => ?_
         refine R.append (sz := 21) (bytes := 288) (G1 := [_]) (H := Hf) (news := LtC x) ⟨rfl, rfl, rfl, rfl⟩ rfl rfl rfl Tryz.underlying29 (InfoE.mk (by kernel_rfl)) (hF) (rfl) (rfl) (.own (by repeat (first | exact List.mem_cons_self | apply List.mem_cons_of_mem | apply List.mem_append_right | exact List.mem_append_left _ List.mem_cons_self)) 0 _ (fun j v hv => by simpa using hv)) (by omega) (by rfl) (by omega) (by omega) fun v170 H170 hv170 => ?_
         obtain ⟨A170, c170, rfl, hc170⟩ := hv170.split
         refine R.assign ⟨rfl, rfl, rfl, rfl⟩ rfl ?_
         refine GOps.nil ?_
         refine GW.region ?_
         refine R.move ⟨rfl, rfl, rfl, rfl⟩ rfl ?_
         refine R.add (r := (((j + 1) : Nat) : Int)) ⟨rfl, rfl, rfl, rfl⟩ rfl rfl (by rw [wrap64_id (by omega) (by omega)]; omega) ?_
         refine R.assign ⟨rfl, rfl, rfl, rfl⟩ rfl ?_
         refine GOps.nil ?_
         first | exact ⟨j + 1, ((.slice A163 _ c163, vf), (H163, Hf)), (), (), by omega, ⟨by omega, (by rw [fT_yes hx (by assumption), ← List.append_assoc]; exact lts_snoc hv163), (by rw [fT_no hx (by rw [show readyW q2.tk x = true by assumption]; rfl)]; exact hF)⟩, rfl, by repeat (first | exact Keeps.nil _ | refine Keeps.cons rfl ?_), Hs.tl _⟩ | exact ⟨j + 1, ((vo3, .slice A170 _ c170), (Ho3, H170)), (), (), by omega, ⟨by omega, (by rw [fT_no hx (by assumption)]; exact hO3), (by rw [fT_yes hx (by rw [show readyW q2.tk x = false by assumption]; rfl)]; exact lts_snoc hv170)⟩, rfl, by repeat (first | exact Keeps.nil _ | refine Keeps.cons rfl ?_), Hs.tl _⟩
       ·try simp only [dcQ] at hc15
        obtain rfl : j = q2.wt.length := by omega
        rw [fT_all (Nat.le_refl _)] at hO3 hF
        refine GW.exit ?_
        refine GW.region ?_
        refine R.move ⟨rfl, rfl, rfl, rfl⟩ rfl ?_
        refine R.assign ⟨rfl, rfl, rfl, rfl⟩ rfl ?_
        refine GOps.nil ?_
        refine GW.region ?_
        refine R.move ⟨rfl, rfl, rfl, rfl⟩ rfl ?_
        refine R.add (r := (((i + 1) : Nat) : Int)) ⟨rfl, rfl, rfl, rfl⟩ rfl rfl (by rw [wrap64_id (by omega) (by omega)]; omega) ?_
        refine R.assign ⟨rfl, rfl, rfl, rfl⟩ rfl ?_
        refine GOps.nil ?_
        exact ⟨i + 1, flushW q2, ((vf, .slice At q2.tk.length ct, vo3), (Hf, Ht2, Ho3)), (), by omega, ⟨by omega, by rw [hq2, hq]; rfl, hF, hT2, hO3⟩, rfl, by repeat (first | exact Keeps.nil _ | refine Keeps.cons rfl ?_), Hs.left _ _ _ _ _⟩
     ·try simp only [dcQ] at hc12
      obtain rfl : i = (body.filter isMt).length + 1 := by omega
      subst hq
      subst hgd
      refine GW.exit ?_
      refine GW.seq ?_
      refine GW.region ?_
      refine R.move ⟨rfl, rfl, rfl, rfl⟩ rfl ?_
      refine R.assign ⟨rfl, rfl, rfl, rfl⟩ rfl ?_
      refine GOps.nil ?_
      exact GW.ret (Out.of (Res.one rfl rfl) (Hs.sub (((List.sublist_append_right Hm G).trans ((List.sublist_append_right Hw _).trans (List.sublist_append_right Ht _))).append_left Ho)) ⟨Ho, hO, rfl⟩)
end Go.Proofs.YtfddkcmooommeaaGreatDoor.Gl
end
