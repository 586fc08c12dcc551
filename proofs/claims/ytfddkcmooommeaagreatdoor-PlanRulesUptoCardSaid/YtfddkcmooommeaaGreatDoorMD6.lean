/- PlanRules up to the bulk: the row and its card. -/
import Derived.Test.YtfddkcmooommeaaGreatDoorMD5
import Derived.Shelf.Sort.Plain
import Derived.Test.YtfddkcmooommeaaGreatDoorProg
import Derived.Sort.OwnSortedInts
import Derived.Laws.Cover2
section
namespace Go.Proofs.YtfddkcmooommeaaGreatDoor.Gl
open Go.RowKit Go.Shelf
set_option linter.unusedVariables false
set_option linter.unnecessarySimpa false
set_option linter.unusedSimpArgs false
attribute [-simp] List.getD_eq_getElem?_getD
def passW (vars : List ByteArray) (L : List Tm) (body : List Lt) (i : Nat) : List Tm := (body.take i).foldl (fun L l => (stepW vars L l).2) L
theorem passW_succ {vars : List ByteArray} {L : List Tm} {body : List Lt} {i : Nat} {l : Lt} (h : body[i]? = some l) : passW vars L body (i + 1) = (stepW vars (passW vars L body i) l).2 := by
 unfold passW
 rw [List.take_add_one, h, List.foldl_append]
 rfl
theorem passW_len (vars : List ByteArray) (L : List Tm) (body : List Lt) : ∀ i, i ≤ body.length → (passW vars L body i).length ≤ L.length + 3 * i
 | 0, _ => by simp [passW]
 | i + 1, h => by
  have h1 := passW_len vars L body i (by omega)
  rw [passW_succ (List.getElem?_eq_getElem (show i < body.length by omega))]
  have h2 := stepW_len vars (passW vars L body i) body[i]
  omega
def stepStW (vars : List ByteArray) (a : List St × List Tm) (l : Lt) : List St × List Tm := (a.1 ++ [(stepW vars a.2 l).1], (stepW vars a.2 l).2)
def stepsW (vars : List ByteArray) (L : List Tm) (ps : List Lt) (i : Nat) : List St × List Tm := (ps.take i).foldl (stepStW vars) ([], L)
theorem stepsW_succ {vars : List ByteArray} {L : List Tm} {ps : List Lt} {i : Nat} {l : Lt} (h : ps[i]? = some l) : stepsW vars L ps (i + 1) = stepStW vars (stepsW vars L ps i) l := by
 unfold stepsW
 rw [List.take_add_one, h, List.foldl_append]
 rfl
theorem stepsW_len (vars : List ByteArray) (L : List Tm) (ps : List Lt) : ∀ i, i ≤ ps.length → (stepsW vars L ps i).2.length ≤ L.length + 3 * i ∧ (stepsW vars L ps i).1.length = i
 | 0, _ => by simp [stepsW]
 | i + 1, h => by
  obtain ⟨h1, h3⟩ := stepsW_len vars L ps i (by omega)
  rw [stepsW_succ (List.getElem?_eq_getElem (show i < ps.length by omega))]
  have h2 := stepW_len vars (stepsW vars L ps i).2 ps[i]
  unfold stepStW
  simp only [List.length_append, h3]
  exact ⟨by omega, rfl⟩
def bodyW (vars : List ByteArray) (L : List Tm) (body : List Lt) (order : List Int) : List St × List Tm := stepsW vars (passW vars L body body.length) (partsW body order) (partsW body order).length
theorem parts_le (body : List Lt) (order : List Int) : (partsW body order).length ≤ 3 * body.length + 1 := by
 have h := (st_len (body.filter isMt) (goodF (body.filter isMt).length order) order ⟨[], waitL body, []⟩ rfl ((body.filter isMt).length + 1)).2
 have h1 := wait_len body
 have h2 := List.length_filter_le isMt body
 simp only [List.length_nil] at h
 unfold partsW
 omega
theorem Hs.rot (x : Nat × Know) (H L G : Hp) : Hs (H ++ (x :: (L ++ G))) (x :: (L ++ (H ++ G))) := Hs.perm (by
 have h : (H ++ (L ++ G)).Perm (L ++ (H ++ G)) := by
  rw [← List.append_assoc, ← List.append_assoc]
  exact List.Perm.append_right _ List.perm_append_comm
 exact (h.symm.cons x).trans List.perm_middle.symm)
theorem Hs.dropH (x : Nat × Know) (L O H G : Hp) : Hs (x :: (L ++ (O ++ (H ++ G)))) (x :: (L ++ (O ++ G))) := Hs.sub ((((List.sublist_append_right H G).append_left O).append_left L).cons_cons x)
theorem ref_Body (w0 : World) (G : Hp) (L : List Tm) (bW : Nat) (v : Value) (Hl : Hp) (hL : SlAt 3 24 (tmsC (L)) (L).length v Hl) (hm : L.length ≤ 50000) (A : Option Addr) (vars : List ByteArray) (c : Nat) (hv : StAt w0 G A vars) (hvm : vars.length ≤ 100000) (bA : Option Addr) (body : List Lt) (bc : Nat) (hl : LtsAt w0 G bA body) (hbl : body.length ≤ 1000) (oA : Option Addr) (order : List Int) (oc : Nat) (ho : IntsAt w0 G oA order) (hol : order.length ≤ 1000) : GC Tryz.prog w0 17 #[.pointer (some ⟨bW, 0, none⟩), .slice A vars.length c, .slice bA body.length bc, .slice oA order.length oc] (fun r G' => ∃ v' Hl' Ho, (SlAt 11 50 (stsC ((bodyW vars L body order).1)) ((bodyW vars L body order).1).length r Ho ∧ SlAt 3 24 (tmsC ((bodyW vars L body order).2)) ((bodyW vars L body order).2).length v' Hl') ∧ (bW, woC v') :: (Hl' ++ (Ho ++ G)) = G') ((bW, woC v) :: (Hl ++ G)) := by
 have hpl := parts_le body order
 have hpa := passW_len vars L body body.length (Nat.le_refl _)
 refine GC.body (args := [.pointer (some ⟨bW, 0, none⟩), .slice A vars.length c, .slice bA body.length bc, .slice oA order.length oc]) Tryz.func17 rfl (by kernel_rfl) rfl ?_
 refine GW.seq ?_
 refine GW.region ?_
 refine R.assign ⟨rfl, rfl, rfl, rfl⟩ rfl ?_
 refine GOps.nil ?_
 refine GW.seq ?_
 refine GW.seq ?_
 refine GW.region ?_
 refine R.assign ⟨rfl, rfl, rfl, rfl⟩ rfl ?_
 refine GOps.nil ?_
 refine GW.block ?_
 refine GW.loop4 (fun (i : Nat) (h : Value × Hp) (u1 : Unit) (u2 : Unit) => [(0, .pointer (some ⟨bW, 0, none⟩)), (1, .slice A vars.length c), (2, .slice bA body.length bc), (3, .slice oA order.length oc), (9, .int .i64 i)]) (fun (i : Nat) (h : Value × Hp) (u1 : Unit) (u2 : Unit) => (bW, woC h.1) :: (h.2 ++ G)) (fun i : Nat => body.length - i) (fun (i : Nat) (h : Value × Hp) (u1 : Unit) (u2 : Unit) => i ≤ body.length ∧ SlAt 3 24 (tmsC (passW vars L body i)) (passW vars L body i).length h.1 h.2) 0 ((v, Hl)) (()) (())
  (by repeat (first | exact Keeps.nil _ | refine Keeps.cons rfl ?_)) (Hs.refl _) (⟨Nat.zero_le _, hL⟩) ?_
 rintro i h u1 u2 ⟨hi, hL1⟩
 obtain ⟨v1, Hl1⟩ := h
 simp only at hL1
 have hpi := passW_len vars L body i hi
 refine GW.seq ?_
 refine GW.seq ?_
 refine GW.region ?_
 refine R.move ⟨rfl, rfl, rfl, rfl⟩ rfl ?_
 refine R.move ⟨rfl, rfl, rfl, rfl⟩ rfl ?_
 refine R.lenS ⟨rfl, rfl, rfl, rfl⟩ rfl rfl Tryz.underlying29 ?_
 refine R.lss ⟨rfl, rfl, rfl, rfl⟩ rfl rfl ?_
 refine GOps.nil ?_
 refine GW.ite rfl (fun hc1 => ?_) (fun hc1 => ?_)
 ·try simp only [dcQ] at hc1
  obtain ⟨l, hx⟩ : ∃ l, body[i]? = some l := ⟨_, List.getElem?_eq_getElem (by omega)⟩
  obtain ⟨xb, xo, cs0, rfl, rfl, hrd⟩ := hl i l hx
  refine GW.skip ?_
  refine GW.seq ?_
  refine GW.block ?_
  refine GW.region ?_
  refine R.move ⟨rfl, rfl, rfl, rfl⟩ rfl ?_
  refine R.move ⟨rfl, rfl, rfl, rfl⟩ rfl ?_
  refine R.move ⟨rfl, rfl, rfl, rfl⟩ rfl ?_
  refine R.move ⟨rfl, rfl, rfl, rfl⟩ rfl ?_
  refine R.indexAddrS ⟨rfl, rfl, rfl, rfl⟩ rfl rfl Tryz.underlying29 Tryz.sizeOf89 (by omega) (by omega) ?_
  refine R.loadA ⟨rfl, rfl, rfl, rfl⟩ rfl Tryz.underlying89 rfl Tryz.sizeOf89 (hrd.mono (fun y hy => by repeat (first | exact hy | apply List.mem_cons_of_mem | apply List.mem_append_right))) (by rfl) ?_
  refine R.call ⟨rfl, rfl, rfl, rfl⟩ rfl (vs := [_, _, _]) rfl ((ref_StepW _ _ (passW vars L body i) bW v1 Hl1 hL1 (by omega) A vars c (hv.mono (fun y hy => by repeat (first | exact hy | apply List.mem_cons_of_mem | apply List.mem_append_right))) hvm l).mono ?_)
  rintro _ _ ⟨v2, Hl2, ⟨rfl, hL2⟩, rfl⟩
  refine GOps.nil ?_
  refine GW.region ?_
  refine R.move ⟨rfl, rfl, rfl, rfl⟩ rfl ?_
  refine R.add (r := (((i + 1) : Nat) : Int)) ⟨rfl, rfl, rfl, rfl⟩ rfl rfl (by rw [wrap64_id (by omega) (by omega)]; omega) ?_
  refine R.assign ⟨rfl, rfl, rfl, rfl⟩ rfl ?_
  refine GOps.nil ?_
  exact ⟨i + 1, (v2, Hl2), (), (), by omega, ⟨by omega, by rw [passW_succ hx]; exact hL2⟩, rfl, by repeat (first | exact Keeps.nil _ | refine Keeps.cons rfl ?_), by first | exact Hs.refl _ | exact Hs.tl _ | exact Hs.tl2 _ _⟩
 ·try simp only [dcQ] at hc1
  obtain rfl : i = body.length := by omega
  refine GW.exit ?_
  refine GW.seq ?_
  refine GW.region ?_
  refine R.move ⟨rfl, rfl, rfl, rfl⟩ rfl ?_
  refine R.move ⟨rfl, rfl, rfl, rfl⟩ rfl ?_
  refine R.call ⟨rfl, rfl, rfl, rfl⟩ rfl (vs := [_, _]) rfl ((ref_Parts _ _ bA body bc (LtsAt.mono' hl (fun y hy => by repeat (first | exact hy | apply List.mem_cons_of_mem | apply List.mem_append_right))) hbl oA order oc (ho.mono (fun y hy => by repeat (first | exact hy | apply List.mem_cons_of_mem | apply List.mem_append_right))) hol).mono ?_)
  rintro v28 _ ⟨H28, hP, rfl⟩
  obtain ⟨Ap, cp, rfl, hPt, hcp⟩ := hP.lts w0
  refine GOps.weak (Keeps.refl _) (Hs.rot _ _ _ _) ?_
  refine R.assign ⟨rfl, rfl, rfl, rfl⟩ rfl ?_
  refine GOps.nil ?_
  refine GW.seq ?_
  refine GW.region ?_
  refine R.assign ⟨rfl, rfl, rfl, rfl⟩ rfl ?_
  refine GOps.nil ?_
  refine GW.seq ?_
  refine GW.seq ?_
  refine GW.region ?_
  refine R.assign ⟨rfl, rfl, rfl, rfl⟩ rfl ?_
  refine GOps.nil ?_
  refine GW.block ?_
  refine GW.loop4 (fun (i : Nat) (a : List St × List Tm) (h : (Value × Value) × (Hp × Hp)) (u1 : Unit) => [(0, .pointer (some ⟨bW, 0, none⟩)), (1, .slice A vars.length c), (10, .slice Ap (partsW body order).length cp), (11, h.1.2), (12, .int .i64 i)]) (fun (i : Nat) (a : List St × List Tm) (h : (Value × Value) × (Hp × Hp)) (u1 : Unit) => (bW, woC h.1.1) :: (h.2.1 ++ (h.2.2 ++ (H28 ++ G)))) (fun i : Nat => (partsW body order).length - i) (fun (i : Nat) (a : List St × List Tm) (h : (Value × Value) × (Hp × Hp)) (u1 : Unit) => i ≤ (partsW body order).length ∧ a = stepsW vars (passW vars L body body.length) (partsW body order) i ∧ SlAt 3 24 (tmsC (a.2)) (a.2).length h.1.1 h.2.1 ∧ SlAt 11 50 (stsC (a.1)) (a.1).length h.1.2 h.2.2) 0 (([], passW vars L body body.length)) (((v1, .slice none 0 0), (Hl1, []))) (())
   (by repeat (first | exact Keeps.nil _ | refine Keeps.cons rfl ?_)) (Hs.refl _) (⟨Nat.zero_le _, rfl, hL1, .nil rfl rfl⟩) ?_
  rintro i a h u1 ⟨hi, ha, hL1, hO⟩
  obtain ⟨⟨v1, vo⟩, Hl1, Ho⟩ := h
  simp only at hL1 hO
  obtain ⟨hal, hal2⟩ := stepsW_len vars (passW vars L body body.length) (partsW body order) i hi
  rw [← ha] at hal hal2
  refine GW.seq ?_
  refine GW.seq ?_
  refine GW.region ?_
  refine R.move ⟨rfl, rfl, rfl, rfl⟩ rfl ?_
  refine R.move ⟨rfl, rfl, rfl, rfl⟩ rfl ?_
  refine R.lenS ⟨rfl, rfl, rfl, rfl⟩ rfl rfl Tryz.underlying29 ?_
  refine R.lss ⟨rfl, rfl, rfl, rfl⟩ rfl rfl ?_
  refine GOps.nil ?_
  refine GW.ite rfl (fun hc2 => ?_) (fun hc2 => ?_)
  ·try simp only [dcQ] at hc2
   obtain ⟨l, hx⟩ : ∃ l, (partsW body order)[i]? = some l := ⟨_, List.getElem?_eq_getElem (by omega)⟩
   obtain ⟨xb, xo, cs0, rfl, rfl, hrd⟩ := hPt i l hx
   refine GW.skip ?_
   refine GW.seq ?_
   refine GW.block ?_
   refine GW.region ?_
   refine R.move ⟨rfl, rfl, rfl, rfl⟩ rfl ?_
   refine R.move ⟨rfl, rfl, rfl, rfl⟩ rfl ?_
   refine R.move ⟨rfl, rfl, rfl, rfl⟩ rfl ?_
   refine R.move ⟨rfl, rfl, rfl, rfl⟩ rfl ?_
   refine R.move ⟨rfl, rfl, rfl, rfl⟩ rfl ?_
   refine R.indexAddrS ⟨rfl, rfl, rfl, rfl⟩ rfl rfl Tryz.underlying29 Tryz.sizeOf89 (by omega) (by omega) ?_
   refine R.loadA ⟨rfl, rfl, rfl, rfl⟩ rfl Tryz.underlying89 rfl Tryz.sizeOf89 (hrd.mono (fun y hy => by repeat (first | exact hy | exact List.mem_append_left _ hy | apply List.mem_cons_of_mem | apply List.mem_append_right))) (by rfl) ?_
   refine R.call ⟨rfl, rfl, rfl, rfl⟩ rfl (vs := [_, _, _]) rfl ((ref_StepW _ _ a.2 bW v1 Hl1 hL1 (by omega) A vars c (hv.mono (fun y hy => by repeat (first | exact hy | apply List.mem_cons_of_mem | apply List.mem_append_right))) hvm l).mono ?_)
   rintro _ _ ⟨v3, Hl3, ⟨rfl, hL3⟩, rfl⟩
   refine R.buildSliceF (sz := 11) (bytes := 88) (vs := [_]) (cs := StC (stepW vars a.2 l).1) ⟨rfl, rfl, rfl, rfl⟩ rfl Tryz.underlying39 (InfoE.mk (by kernel_rfl)) rfl rfl rfl rfl rfl fun b43 => ?_
   refine R.append (sz := 11) (bytes := 88) (G1 := [_, _] ++ Hl3) (H := Ho) (news := StC (stepW vars a.2 l).1) ⟨rfl, rfl, rfl, rfl⟩ rfl rfl rfl Tryz.underlying39 (InfoE.mk (by kernel_rfl)) (hO) (as2 [_, _] _ _) (rfl) (.own (by repeat (first | exact List.mem_cons_self | apply List.mem_cons_of_mem | apply List.mem_append_right | exact List.mem_append_left _ List.mem_cons_self)) 0 _ (fun j v hv => by simpa using hv)) (by omega) (by rfl) (by omega) (by omega) fun v44 H44 hv44 => ?_
   refine GOps.weak (Keeps.refl _) (Hs.un2 [_, _] _ _) ?_
   obtain ⟨A44, c44, rfl, hc44⟩ := hv44.split
   refine R.assign ⟨rfl, rfl, rfl, rfl⟩ rfl ?_
   refine GOps.nil ?_
   refine GW.region ?_
   refine R.move ⟨rfl, rfl, rfl, rfl⟩ rfl ?_
   refine R.add (r := (((i + 1) : Nat) : Int)) ⟨rfl, rfl, rfl, rfl⟩ rfl rfl (by rw [wrap64_id (by omega) (by omega)]; omega) ?_
   refine R.assign ⟨rfl, rfl, rfl, rfl⟩ rfl ?_
   refine GOps.nil ?_
   exact ⟨i + 1, stepStW vars a l, ((v3, .slice A44 _ c44), (Hl3, H44)), (), by omega, ⟨by omega, by rw [stepsW_succ hx, ← ha], hL3, (by show SlAt 11 50 (stsC (a.1 ++ [(stepW vars a.2 l).1])) (a.1 ++ [(stepW vars a.2 l).1]).length _ _; rw [sts_app, sts_one, List.length_append]; exact hv44)⟩, rfl, by repeat (first | exact Keeps.nil _ | refine Keeps.cons rfl ?_), by first | exact Hs.refl _ | exact Hs.tl _ | exact Hs.tl2 _ _⟩
  ·try simp only [dcQ] at hc2
   obtain rfl : i = (partsW body order).length := by omega
   subst ha
   refine GW.exit ?_
   refine GW.seq ?_
   refine GW.region ?_
   refine R.move ⟨rfl, rfl, rfl, rfl⟩ rfl ?_
   refine R.assign ⟨rfl, rfl, rfl, rfl⟩ rfl ?_
   refine GOps.nil ?_
   exact GW.ret (Out.of (Res.one rfl rfl) (Hs.dropH _ _ _ _ _) ⟨v1, Hl1, Ho, ⟨hO, hL1⟩, rfl⟩)
end Go.Proofs.YtfddkcmooommeaaGreatDoor.Gl
end
section
namespace Go.Proofs.YtfddkcmooommeaaGreatDoor.Gl
open Go.RowKit Go.Shelf
set_option linter.unusedVariables false
set_option linter.unnecessarySimpa false
set_option linter.unusedSimpArgs false
attribute [-simp] List.getD_eq_getElem?_getD
def Both (lim : Nat) (L : List Tm) (q : List Tm × Int) : Prop := (q.2 = 0 ∧ q.1 = L ∧ L.length ≤ lim) ∨ (q.2 = 9 ∧ lim < L.length)
def HasV (vars : List ByteArray) (s : Sl) : Prop := emp s.v = false → ∃ i, idxN vars s.v = some i
theorem placeW_v {vars : List ByteArray} {L : List Tm} {s : Sl} {i : Nat} (he : emp s.v = false) (h : idxN vars s.v = some i) : placeW vars L s = (⟨(i : Nat), 0⟩, L) := by
 unfold placeW
 rw [he, cond_false, h]
theorem idxB_some {vars : List ByteArray} {s : ByteArray} {i : Nat} (h : idxN vars s = some i) : idxB vars s = (i : Nat) := by unfold idxB; rw [h]
theorem Both.place {lim : Nat} {vars : List ByteArray} {L : List Tm} {q : List Tm × Int} {s : Sl} (hv : HasV vars s) (h : Both lim L q) : Both lim (placeW vars L s).2 (placeF lim vars q s).2 := by
 cases he : emp s.v with
 | false =>
  obtain ⟨i, hi⟩ := hv he
  rw [placeW_v he hi, placeF_var he]
  exact h
 | true =>
  rw [placeW_t (.inl he)]
  rcases h with ⟨h1, rfl, h3⟩ | ⟨h1, h2⟩
  ·rw [placeF_t0 he h1]
   unfold internF numF
   cases idxT q.1 s.t with
   | some n => exact .inl ⟨rfl, rfl, h3⟩
   | none =>
    by_cases hl : lim ≤ q.1.length
    ·simp only [if_pos hl]
     exact .inr ⟨rfl, by show lim < (q.1 ++ [s.t]).length; rw [List.length_append]; simp; omega⟩
    ·simp only [if_neg hl]
     exact .inl ⟨rfl, rfl, by show (q.1 ++ [s.t]).length ≤ lim; rw [List.length_append]; simp; omega⟩
  ·rw [placeF_t1 he (by omega)]
   refine .inr ⟨h1, ?_⟩
   unfold numF
   cases idxT L s.t with
   | some n => exact h2
   | none => show lim < (L ++ [s.t]).length; rw [List.length_append]; omega
theorem Both.row {lim : Nat} {vars : List ByteArray} {L : List Tm} {q : List Tm × Int} {p : Pt} (hv : ∀ s ∈ sl3 p, HasV vars s) (h : Both lim L q) : Both lim (rowW vars L p).2 (rowF lim vars q p).2 := by
 have h0 := h.place (hv p.s0 (by simp [sl3]))
 have h1 := h0.place (hv p.s1 (by simp [sl3]))
 exact h1.place (hv p.s2 (by simp [sl3]))
theorem Both.step {lim : Nat} {vars : List ByteArray} {L : List Tm} {q : List Tm × Int} {l : Lt} (hv : ∀ s ∈ stepSl l, HasV vars s) (h : Both lim L q) : Both lim (stepW vars L l).2 (stepF lim vars q l).2 := by
 unfold stepSl at hv
 by_cases h1 : l.kind = 1
 ·rw [if_pos (.inl h1)] at hv
  rw [stepW_1 h1, stepF_1 h1]; exact h.row hv
 by_cases h2 : l.kind = 2
 ·rw [if_pos (.inr h2)] at hv
  rw [stepW_2 h1 h2, stepF_2 h1 h2]; exact h.row hv
 rw [if_neg (by omega)] at hv
 have h3 := (h.place (hv l.a (by simp))).place (hv l.b (by simp))
 unfold stepW stepF
 rw [if_neg h1, if_neg h1, if_neg h2, if_neg h2]
 exact h3
theorem bodyStep_q (lim : Nat) (vars : List ByteArray) (a : BS) (l : Lt) : ((bodyStep lim vars a l).ts, (bodyStep lim vars a l).bad) = (stepF lim vars (a.ts, a.bad) l).2 := by
 by_cases h1 : (stepF lim vars (a.ts, a.bad) l).1.kind = 1
 ·rw [bodyStep_1 h1]
 by_cases h2 : (stepF lim vars (a.ts, a.bad) l).1.kind = 2
 ·rw [bodyStep_2 h1 h2]
 ·rw [bodyStep_3 h1 h2]
theorem Both.body {lim : Nat} {vars : List ByteArray} {L : List Tm} {ts : List Tm} {bad : Int} {body : List Lt} (hv : ∀ l ∈ body, ∀ s ∈ stepSl l, HasV vars s) (h : Both lim L (ts, bad)) : ∀ i, i ≤ body.length → Both lim (passW vars L body i) ((bodyTo lim vars ts bad body i).ts, (bodyTo lim vars ts bad body i).bad)
 | 0, _ => h
 | i + 1, hi => by
  have ih := Both.body hv h i (by omega)
  have hx := List.getElem?_eq_getElem (show i < body.length by omega)
  rw [passW_succ hx, bodyTo_succ hx, bodyStep_q]
  exact ih.step (hv _ (List.getElem_mem _))
theorem idxT_mem {L : List Tm} {t : Tm} (h : t ∈ L) : ∃ n, idxT L t = some n := by
 cases e : idxT L t with
 | some n => exact ⟨n, rfl⟩
 | none => exact absurd h (idxT_none e)
theorem idxT_app {L M : List Tm} {t : Tm} {n : Nat} (h : idxT L t = some n) : idxT (L ++ M) t = some n := by
 unfold idxT at h ⊢
 rw [List.findIdx?_append, h]
 rfl
theorem numF_in {L : List Tm} {t : Tm} {n : Nat} (h : idxT L t = some n) : numF L t = (n + 1, L) := by unfold numF; rw [h]
theorem numF_pre (L : List Tm) (t : Tm) : L <+: (numF L t).2 := by
 unfold numF
 cases idxT L t with
 | some n => exact List.prefix_refl _
 | none => exact List.prefix_append _ _
theorem numF_mem (L : List Tm) (t : Tm) : idxT (numF L t).2 t = some ((numF L t).1 - 1) ∧ 0 < (numF L t).1 := by
 unfold numF
 cases e : idxT L t with
 | some n => exact ⟨e, Nat.succ_pos _⟩
 | none =>
  refine ⟨?_, Nat.succ_pos _⟩
  have h2 := e
  unfold idxT at e ⊢
  rw [List.findIdx?_append, e]
  simp [List.findIdx?_cons, tmEq_iff.2]
theorem placeW_pre (vars : List ByteArray) (L : List Tm) (s : Sl) : L <+: (placeW vars L s).2 := by
 unfold placeW
 split
 ·exact List.prefix_refl _
 ·exact numF_pre _ _
theorem rowW_pre (vars : List ByteArray) (L : List Tm) (p : Pt) : L <+: (rowW vars L p).2 := ((placeW_pre _ _ _).trans (placeW_pre _ _ _)).trans (placeW_pre _ _ _)
theorem stepW_pre (vars : List ByteArray) (L : List Tm) (l : Lt) : L <+: (stepW vars L l).2 := by
 unfold stepW
 split
 ·exact rowW_pre _ _ _
 ·split
  ·exact rowW_pre _ _ _
  ·exact (placeW_pre _ _ _).trans (placeW_pre _ _ _)
def Got (L : List Tm) (s : Sl) : Prop := emp s.v = true → s.t ∈ L
theorem Got.mono {L L' : List Tm} {s : Sl} (h : Got L s) (hp : L <+: L') : Got L' s := fun he => hp.subset (h he)
theorem placeW_got {vars : List ByteArray} {L : List Tm} {s : Sl} (hv : HasV vars s) (h : Got L s) : (placeW vars L s).2 = L := by
 cases he : emp s.v with
 | false => obtain ⟨i, hi⟩ := hv he; rw [placeW_v he hi]
 | true =>
  obtain ⟨n, hn⟩ := idxT_mem (h he)
  rw [placeW_t (.inl he), numF_in hn]
theorem placeW_puts (vars : List ByteArray) (L : List Tm) (s : Sl) : Got (placeW vars L s).2 s := fun he => by
 rw [placeW_t (.inl he)]
 exact List.mem_of_getElem? (idxT_some (numF_mem L s.t).1)
theorem placeW_same {vars : List ByteArray} {L L' : List Tm} {s : Sl} (hp : (placeW vars L s).2 <+: L') : (placeW vars L' s).1 = (placeW vars L s).1 := by
 unfold placeW at hp ⊢
 split at hp
 ·rfl
 ·obtain ⟨M, rfl⟩ := hp
  obtain ⟨h1, h2⟩ := numF_mem L s.t
  simp only at h1 ⊢
  rw [numF_in (idxT_app h1)]
  simp only
  rw [Nat.sub_add_cancel h2]
theorem rowW_got {vars : List ByteArray} {L : List Tm} {p : Pt} (hv : ∀ s ∈ sl3 p, HasV vars s) (h : ∀ s ∈ sl3 p, Got L s) : (rowW vars L p).2 = L := by
 have h0 := placeW_got (hv p.s0 (by simp [sl3])) (h p.s0 (by simp [sl3]))
 have h1 := placeW_got (hv p.s1 (by simp [sl3])) (h p.s1 (by simp [sl3]))
 have h2 := placeW_got (hv p.s2 (by simp [sl3])) (h p.s2 (by simp [sl3]))
 unfold rowW
 simp only
 rw [h0, h1, h2]
theorem rowW_puts {vars : List ByteArray} {L : List Tm} {p : Pt} : ∀ s ∈ sl3 p, Got (rowW vars L p).2 s := by
 intro s hs
 simp only [sl3, List.mem_cons, List.not_mem_nil, or_false] at hs
 rcases hs with rfl | rfl | rfl
 ·exact (placeW_puts vars L p.s0).mono ((placeW_pre _ _ _).trans (placeW_pre _ _ _))
 ·exact (placeW_puts vars (placeW vars L p.s0).2 p.s1).mono (placeW_pre _ _ _)
 ·exact placeW_puts _ _ _
theorem stepW_got {vars : List ByteArray} {L : List Tm} {l : Lt} (hv : ∀ s ∈ stepSl l, HasV vars s) (h : ∀ s ∈ stepSl l, Got L s) : (stepW vars L l).2 = L := by
 unfold stepSl at hv h
 unfold stepW
 by_cases h1 : l.kind = 1
 ·rw [if_pos (.inl h1)] at hv h
  rw [if_pos h1]
  exact rowW_got hv h
 by_cases h2 : l.kind = 2
 ·rw [if_pos (.inr h2)] at hv h
  rw [if_neg h1, if_pos h2]
  exact rowW_got hv h
 rw [if_neg (by omega)] at hv h
 rw [if_neg h1, if_neg h2]
 have h3 := placeW_got (hv l.a (by simp)) (h l.a (by simp))
 have h4 := placeW_got (hv l.b (by simp)) (h l.b (by simp))
 simp only
 rw [h3, h4]
theorem stepW_puts {vars : List ByteArray} {L : List Tm} {l : Lt} : ∀ s ∈ stepSl l, Got (stepW vars L l).2 s := by
 intro s hs
 unfold stepSl at hs
 unfold stepW
 by_cases h1 : l.kind = 1
 ·rw [if_pos (.inl h1)] at hs
  rw [if_pos h1]
  exact rowW_puts s hs
 by_cases h2 : l.kind = 2
 ·rw [if_pos (.inr h2)] at hs
  rw [if_neg h1, if_pos h2]
  exact rowW_puts s hs
 rw [if_neg (by omega)] at hs
 rw [if_neg h1, if_neg h2]
 simp only [List.mem_cons, List.not_mem_nil, or_false] at hs
 rcases hs with rfl | rfl
 ·exact (placeW_puts vars L l.a).mono (placeW_pre _ _ _)
 ·exact placeW_puts _ _ _
theorem passW_pre {vars : List ByteArray} {L : List Tm} {body : List Lt} {i : Nat} (hi : i < body.length) : passW vars L body i <+: passW vars L body (i + 1) := by
 rw [passW_succ (List.getElem?_eq_getElem hi)]
 exact stepW_pre _ _ _
theorem passW_mono {vars : List ByteArray} {L : List Tm} {body : List Lt} {i : Nat} : ∀ (d : Nat), i + d ≤ body.length → passW vars L body i <+: passW vars L body (i + d)
 | 0, _ => List.prefix_refl _
 | d + 1, h => (passW_mono d (by omega)).trans (passW_pre (by omega))
theorem passW_puts {vars : List ByteArray} {L : List Tm} {body : List Lt} : ∀ l ∈ body, ∀ s ∈ stepSl l, Got (passW vars L body body.length) s := by
 intro l hl s hs
 obtain ⟨i, hi, rfl⟩ := List.mem_iff_getElem.1 hl
 have h1 : Got (passW vars L body (i + 1)) s := by
  rw [passW_succ (List.getElem?_eq_getElem hi)]
  exact stepW_puts s hs
 have h2 := passW_mono (vars := vars) (L := L) (body := body) (i := i + 1) (body.length - (i + 1)) (by omega)
 rw [show i + 1 + (body.length - (i + 1)) = body.length by omega] at h2
 exact h1.mono h2
theorem stepsW_got {vars : List ByteArray} {L : List Tm} {ps : List Lt} (hv : ∀ l ∈ ps, ∀ s ∈ stepSl l, HasV vars s) (h : ∀ l ∈ ps, ∀ s ∈ stepSl l, Got L s) : ∀ i, i ≤ ps.length → (stepsW vars L ps i).2 = L ∧ (stepsW vars L ps i).1 = (ps.take i).map (fun l => (stepW vars L l).1)
 | 0, _ => ⟨rfl, rfl⟩
 | i + 1, hi => by
  obtain ⟨h1, h2⟩ := stepsW_got hv h i (by omega)
  have hx := List.getElem?_eq_getElem (show i < ps.length by omega)
  have hm : ps[i] ∈ ps := List.getElem_mem _
  rw [stepsW_succ hx]
  unfold stepStW
  simp only
  rw [h1, h2, List.take_add_one, hx]
  exact ⟨stepW_got (hv _ hm) (h _ hm), by rw [List.map_append]; rfl⟩
theorem mAt_mem {ms : List Lt} {good : Bool} {order : List Int} {p : Nat} (hp : p < ms.length) (hg : good = true → goodF ms.length order = true) : mAt ms good order p ∈ ms := by
 unfold mAt
 split
 ·rename_i h
  obtain ⟨h1, h2⟩ := good_range (hg h)
  have hz := List.getElem?_eq_getElem (show p < order.length by omega)
  have h3 := h2 _ (List.getElem_mem (show p < order.length by omega))
  rw [show order.getD p 0 = order[p] by rw [List.getD, hz]; rfl, List.getD, List.getElem?_eq_getElem (show (order[p]).toNat < ms.length by omega)]
  exact List.getElem_mem _
 ·rw [List.getD, List.getElem?_eq_getElem hp]
  exact List.getElem_mem _
theorem st_all {P : Lt → Prop} {ms : List Lt} {good : Bool} {order : List Int} {q : PS} (hg : good = true → goodF ms.length order = true) (hm : ∀ l ∈ ms, P l) (hw : ∀ l ∈ q.wt ++ q.out, P l) : ∀ i, i ≤ ms.length + 1 → ∀ l ∈ (stW ms good order q i).wt ++ (stW ms good order q i).out, P l
 | 0, _ => hw
 | i + 1, hi => by
  have ih := st_all hg hm hw i (by omega)
  have h1 : ∀ l ∈ (preW ms good order (stW ms good order q i) i).wt ++ (preW ms good order (stW ms good order q i) i).out, P l := by
   rcases i with _ | p
   ·exact ih
   ·intro l hl
    simp only [preW, List.mem_append, List.mem_singleton] at hl
    rcases hl with h | h | rfl
    ·exact ih l (List.mem_append_left _ h)
    ·exact ih l (List.mem_append_right _ h)
    ·exact hm _ (mAt_mem (by omega) hg)
  intro l hl
  simp only [stW, flushW, List.mem_append, List.mem_filter] at hl
  rcases hl with h | h | h
  ·exact h1 l (List.mem_append_left _ h.1)
  ·exact h1 l (List.mem_append_right _ h)
  ·exact h1 l (List.mem_append_left _ h.1)
theorem parts_mem {body : List Lt} {order : List Int} : ∀ l ∈ partsW body order, l ∈ body := by
 intro l hl
 refine st_all (P := fun l => l ∈ body) (ms := body.filter isMt) (good := goodF (body.filter isMt).length order) (order := order) (q := ⟨[], waitL body, []⟩) id (fun l h => (List.mem_filter.1 h).1) (fun l h => ?_) _ (Nat.le_refl _) l (List.mem_append_right _ hl)
 simp only [waitL, List.append_nil, List.mem_append, List.mem_filter] at h
 rcases h with h | h <;> exact h.1
theorem bodyW_end {vars : List ByteArray} {L : List Tm} {body : List Lt} {order : List Int} (hv : ∀ l ∈ body, ∀ s ∈ stepSl l, HasV vars s) : (bodyW vars L body order).2 = passW vars L body body.length ∧ (bodyW vars L body order).1 = (partsW body order).map (fun l => (stepW vars (passW vars L body body.length) l).1) := by
 have := stepsW_got (vars := vars) (L := passW vars L body body.length) (ps := partsW body order) (fun l hl => hv l (parts_mem l hl)) (fun l hl => passW_puts l (parts_mem l hl)) _ (Nat.le_refl _)
 rw [List.take_length] at this
 exact this
theorem idxN_in {xs : List ByteArray} {s : ByteArray} (h : inB xs s = true) : ∃ i, idxN xs s = some i := by
 have h1 := idxB_in xs s
 rw [h, decide_eq_true_eq] at h1
 unfold idxB at h1
 cases e : idxN xs s with
 | some n => exact ⟨n, rfl⟩
 | none => rw [e] at h1; simp only at h1; omega
theorem inB_app {xs : List ByteArray} {s y : ByteArray} (h : inB xs s = true) : inB (xs ++ [y]) s = true := by
 unfold inB at h ⊢
 rw [List.any_append, h]
 rfl
theorem dd_has (q : List Sl) : ∀ i, i ≤ q.length → ∀ s ∈ q.take i, emp s.v = false → inB (dd (q.take i)) s.v = true
 | 0, _ => fun s hs => by simp at hs
 | i + 1, hi => by
  have ih := dd_has q i (by omega)
  have hx := List.getElem?_eq_getElem (show i < q.length by omega)
  intro s hs he
  rw [dd_succ hx]
  rw [List.take_add_one, hx] at hs
  have hself : ∀ x : Sl, inB (dd (q.take i) ++ [x.v]) x.v = true := fun x => by
   unfold inB eqB
   rw [List.any_append]
   simp
  rcases List.mem_append.1 hs with h | h
  ·have h1 := ih s h he
   cases h2 : emp q[i].v with
   | true => rw [ddStep_no1 h2]; exact h1
   | false =>
    cases h3 : inB (dd (q.take i)) q[i].v with
    | true => rw [ddStep_no2 h3]; exact h1
    | false => rw [ddStep_yes h2 h3]; exact inB_app h1
  ·have e : s = q[i] := by simpa using h
   subst e
   cases h3 : inB (dd (q.take i)) q[i].v with
   | true => rw [ddStep_no2 h3]; exact h3
   | false => rw [ddStep_yes he h3]; exact hself _
theorem hasV_of {q : List Sl} {s : Sl} (h : s ∈ q) : HasV (dd q) s := fun he => idxN_in (by
 have := dd_has q q.length (Nat.le_refl _) s (by rw [List.take_length]; exact h) he
 rwa [List.take_length] at this)
theorem stepSl_slots (l : Lt) : stepSl l = slotsOf l := by
 unfold stepSl slotsOf
 by_cases h : l.kind = 1 ∨ l.kind = 2
 ·rw [if_pos h]
  have : (decide (l.kind = 1) || decide (l.kind = 2)) = true := by simpa using h
  rw [this]
  rfl
 ·rw [if_neg h]
  have : (decide (l.kind = 1) || decide (l.kind = 2)) = false := by simpa using h
  rw [this]
  rfl
theorem head_has (r : Rl) : ∀ s ∈ sl3 r.head, HasV (dd (allSlots r)) s := fun s hs => hasV_of (by
 unfold allSlots allTake
 exact List.mem_append_left _ hs)
theorem body_has (r : Rl) : ∀ l ∈ r.body, ∀ s ∈ stepSl l, HasV (dd (allSlots r)) s := fun l hl s hs => hasV_of (by
 rw [stepSl_slots] at hs
 unfold allSlots allTake
 rw [List.take_length]
 exact List.mem_append_right _ (List.mem_flatMap.2 ⟨l, hl, hs⟩))
end Go.Proofs.YtfddkcmooommeaaGreatDoor.Gl
end
section
namespace Go.Proofs.YtfddkcmooommeaaGreatDoor.Gl
open Go.Shelf
set_option linter.unusedVariables false
set_option linter.unnecessarySimpa false
set_option linter.unusedSimpArgs false
def tryzRen189 : Go.Shelf.Ren := ⟨fun | 189 => 88 | 125 => 110 | 257 => 109 | 128 => 134 | 129 => 135 | 294 => 125 | 295 => 126 | 296 => 127 | 297 => 128 | 298 => 129 | 299 => 130 | 216 => 131 | 300 => 132 | 301 => 133 | 328 => 144 | 329 => 145 | 330 => 146 | 331 => 147 | 332 => 148 | 215 => 149 | 343 => 157 | n => n, fun | 28 => 32 | 3 => 3 | 46 => 149 | 0 => 0 | 51 => 35 | 53 => 192 | 4 => 4 | 183 => 183 | 182 => 182 | 131 => 188 | 5 => 5 | 9 => 9 | 218 => 198 | 222 => 202 | 228 => 208 | 229 => 168 | n => n, fun | n => n⟩
theorem Tryz_lays189 : Go.Proofs.Lays.n189 Tryz.prog tryzRen189 := {
 mixed := by kernel_rfl
 f125 := Tryz.func110.trans (congrArg some (by kernel_rfl))
 f128 := Tryz.func134.trans (congrArg some (by kernel_rfl))
 f129 := Tryz.func135.trans (congrArg some (by kernel_rfl))
 f189 := Tryz.func88.trans (congrArg some (by kernel_rfl))
 f215 := Tryz.func149.trans (congrArg some (by kernel_rfl))
 f216 := Tryz.func131.trans (congrArg some (by kernel_rfl))
 f257 := Tryz.func109.trans (congrArg some (by kernel_rfl))
 f294 := Tryz.func125.trans (congrArg some (by kernel_rfl))
 f295 := Tryz.func126.trans (congrArg some (by kernel_rfl))
 f296 := Tryz.func127.trans (congrArg some (by kernel_rfl))
 f297 := Tryz.func128.trans (congrArg some (by kernel_rfl))
 f298 := Tryz.func129.trans (congrArg some (by kernel_rfl))
 f299 := Tryz.func130.trans (congrArg some (by kernel_rfl))
 f300 := Tryz.func132.trans (congrArg some (by kernel_rfl))
 f301 := Tryz.func133.trans (congrArg some (by kernel_rfl))
 f328 := Tryz.func144.trans (congrArg some (by kernel_rfl))
 f329 := Tryz.func145.trans (congrArg some (by kernel_rfl))
 f330 := Tryz.func146.trans (congrArg some (by kernel_rfl))
 f331 := Tryz.func147.trans (congrArg some (by kernel_rfl))
 f332 := Tryz.func148.trans (congrArg some (by kernel_rfl))
 f343 := Tryz.func157.trans (congrArg some (by kernel_rfl))
 t0 := Tryz.underlying0
 a0 := Tryz.isAgg0
 z0 := Tryz.sizeOf0
 v0 := Tryz.zeroValue0
 t3 := Tryz.underlying3
 a3 := Tryz.isAgg3
 z3 := Tryz.sizeOf3
 v3 := Tryz.zeroValue3
 t4 := Tryz.underlying4
 a4 := Tryz.isAgg4
 z4 := Tryz.sizeOf4
 v4 := Tryz.zeroValue4
 t5 := Tryz.underlying5
 a5 := Tryz.isAgg5
 z5 := Tryz.sizeOf5
 v5 := Tryz.zeroValue5
 t9 := Tryz.underlying9
 a9 := Tryz.isAgg9
 z9 := Tryz.sizeOf9
 v9 := Tryz.zeroValue9
 t28 := Tryz.underlying32
 a28 := Tryz.isAgg32
 z28 := Tryz.sizeOf32
 v28 := Tryz.zeroValue32
 t46 := Tryz.underlying149
 a46 := Tryz.isAgg149
 z46 := Tryz.sizeOf149
 v46 := Tryz.zeroValue149
 t51 := Tryz.underlying35
 a51 := Tryz.isAgg35
 z51 := Tryz.sizeOf35
 v51 := Tryz.zeroValue35
 t53 := Tryz.underlying192
 a53 := Tryz.isAgg192
 z53 := Tryz.sizeOf192
 v53 := Tryz.zeroValue192
 t131 := Tryz.underlying188
 a131 := Tryz.isAgg188
 z131 := Tryz.sizeOf188
 v131 := Tryz.zeroValue188
 t182 := Tryz.underlying182
 a182 := Tryz.isAgg182
 z182 := Tryz.sizeOf182
 v182 := Tryz.zeroValue182
 t183 := Tryz.underlying183
 a183 := Tryz.isAgg183
 z183 := Tryz.sizeOf183
 v183 := Tryz.zeroValue183
 t218 := Tryz.underlying198
 a218 := Tryz.isAgg198
 z218 := Tryz.sizeOf198
 v218 := Tryz.zeroValue198
 t222 := Tryz.underlying202
 a222 := Tryz.isAgg202
 z222 := Tryz.sizeOf202
 v222 := Tryz.zeroValue202
 t228 := Tryz.underlying208
 a228 := Tryz.isAgg208
 z228 := Tryz.sizeOf208
 v228 := Tryz.zeroValue208
 t229 := Tryz.underlying168
 a229 := Tryz.isAgg168
 z229 := Tryz.sizeOf168
 v229 := Tryz.zeroValue168 }
end Go.Proofs.YtfddkcmooommeaaGreatDoor.Gl
end
section
namespace Go.Proofs.YtfddkcmooommeaaGreatDoor.Gl
open Go.RowKit Go.Shelf Go.Sort
set_option linter.unusedVariables false
set_option linter.unnecessarySimpa false
set_option linter.unusedSimpArgs false
attribute [-simp] List.getD_eq_getElem?_getD
def srtZ (xs : List Int) : List Int := xs.mergeSort fun x y => decide (x ≤ y)
theorem srtZ_perm (xs : List Int) : (srtZ xs).Perm xs := List.mergeSort_perm _ _
theorem srtZ_len (xs : List Int) : (srtZ xs).length = xs.length := (srtZ_perm xs).length_eq
theorem srtZ_mem {xs : List Int} {z : Int} : z ∈ srtZ xs ↔ z ∈ xs := (srtZ_perm xs).mem_iff
theorem Sat.grow {w0 : World} {G : Hp} {w : World} (h : Sat w0 G w) (os : Array Obj) : Sat w0 G (Sort.grow w os) := by
 have hlt : ∀ i, i < w.heap.size → (Sort.grow w os).heap[i]? = w.heap[i]? := fun i hi => heap_grow_old w os hi
 refine ⟨h.below.trans ⟨rfl, rfl, rfl, by simp, fun i hi => hlt i (by have := h.below.size; omega)⟩, fun b k hm => ?_, h.nodup, fun b o _ _ => trivial⟩
 obtain ⟨h1, h2⟩ := h.own b k hm
 exact ⟨h1, by rw [hlt b (h.lt hm)]; exact h2⟩
theorem zC_at {xs : List Int} {j : Nat} (h : j < xs.length) : (zC xs)[j]? = some (.int .i64 xs.toArray[j]!) := by
 unfold zC
 simp [h]
theorem holds_row {w0 : World} {G : Hp} {w : World} (hs : Sat w0 G w) {b room : Nat} {xs : List Int} (hm : (b, Know.row (zC xs) 3 room) ∈ G) : Holds (Value.int .i64) w b 0 xs.toArray := by
 obtain ⟨_, C, hC, hr, hh⟩ := hs.own b _ hm
 intro j hj
 have hj' : j < xs.length := by simpa using hj
 refine ⟨?_, by simp [World.frozen?, hC]⟩
 have := hh j _ (zC_at hj')
 simp [World.cell?, hC, this]
theorem sort_own (w0 : World) (G : Hp) (b cap room : Nat) (xs : List Int) (hroom : xs.length ≤ room) (hm : xs.length ≤ 100000) :
  GC Tryz.prog w0 88 #[.slice (some ⟨b, 0, none⟩) xs.length cap] (fun v G' => v = .tuple #[] ∧ (b, Know.row (zC (srtZ xs)) 3 room) :: G = G') ((b, .row (zC xs) 3 room) :: G) := by
 refine ⟨enters_of Tryz.func88 (by kernel_rfl) rfl, fun n w hs => ?_⟩
 have hblk : b < w.heap.size := hs.lt List.mem_cons_self
 have hH := holds_row hs List.mem_cons_self
 have h := Any.slices_Sort_int Tryz_lays189 b 0 cap xs w hH hblk (by omega)
 refine (callsIn_wide.2 h).mono ?_
 rintro e w' ⟨rfl, k, os, rfl⟩
 refine ⟨_, _, rfl, ?_, rfl, rfl⟩
 refine Sat.grow ?_ os
 obtain ⟨_, C, hC, hr, hh⟩ := hs.own b _ List.mem_cons_self
 refine Sat.turn (G1 := []) (k := .row (zC xs) 3 room) (w := w) hs rfl rfl rfl (by simp) (fun i hi => ?_) ?_
 ·simp [putRow, mapBlock, Sort.ahead, Array.getElem?_modify, Ne.symm hi]
 ·refine ⟨putCells (Value.int .i64) 0 (srtZ xs).toArray C, ?_, ?_, ?_⟩
  ·simp [putRow, mapBlock, Sort.ahead, Array.getElem?_modify, hC, onCells, srtZ]
  ·simp [putCells, hr]
  ·intro j v hv
   have hj : j < (srtZ xs).length := by
    have := (List.getElem?_eq_some_iff.1 hv).1
    simpa [zC] using this
   rw [zC_at hj] at hv
   cases hv
   have hj2 : j < C.size := by have := srtZ_len xs; omega
   simp [putCells, hj, hj2]
theorem sorted_own (w0 : World) (G : Hp) (A : Option Addr) (xs : List Int) (c b1 : Nat) (hb1 : (b1, Know.exact (.cells #[.slice A xs.length c] 32 (0, 0))) ∈ G) (hx : IntsAt w0 G A xs) (hm : xs.length ≤ 100000) :
  GC Tryz.prog w0 57 #[.func (.func 89) #[] #[.pointer (some ⟨b1, 0, none⟩)]] (fun v G' => ∃ H, SlAt 1 3 (zC (srtZ xs)) (srtZ xs).length v H ∧ H ++ G = G') G := by
 refine GC.body (args := [.func (.func 89) #[] #[.pointer (some ⟨b1, 0, none⟩)]]) Tryz.func57 rfl (by kernel_rfl) rfl ?_
 refine GW.seq ?_
 refine GW.region ?_
 refine R.assign ⟨rfl, rfl, rfl, rfl⟩ rfl ?_
 refine GOps.nil ?_
 refine GW.seq ?_
 refine GW.region ?_
 refine R.move ⟨rfl, rfl, rfl, rfl⟩ rfl ?_
 refine R.call ⟨rfl, rfl, rfl, rfl⟩ rfl (vs := [_]) rfl ((sl_Collect _ _ A xs c b1 hb1 hx hm).mono ?_)
 rintro v5 _ ⟨H5, h5, rfl⟩
 refine R.assign ⟨rfl, rfl, rfl, rfl⟩ rfl ?_
 refine GOps.nil ?_
 refine GW.seq ?_
 refine GW.region ?_
 refine R.move ⟨rfl, rfl, rfl, rfl⟩ rfl ?_
 rcases Nat.eq_zero_or_pos xs.length with h0 | h0
 ·obtain ⟨rfl, rfl⟩ := h5.2 h0
  obtain rfl := List.length_eq_zero_iff.1 h0
  refine R.call ⟨rfl, rfl, rfl, rfl⟩ rfl (vs := [_]) rfl ((sort_0 _ _).mono ?_)
  rintro _ _ ⟨rfl, rfl⟩
  refine GOps.nil ?_
  refine GW.seq ?_
  refine GW.region ?_
  refine R.move ⟨rfl, rfl, rfl, rfl⟩ rfl ?_
  refine R.assign ⟨rfl, rfl, rfl, rfl⟩ rfl ?_
  refine GOps.nil ?_
  exact GW.ret (Out.of (Res.one rfl rfl) (Hs.refl _) ⟨[], .nil (by rw [srtZ_len]; rfl) (by rw [show srtZ [] = [] from List.length_eq_zero_iff.1 (by rw [srtZ_len]; rfl)]; rfl), rfl⟩)
 ·obtain ⟨bn, cn, rfl, rfl, hcn⟩ := h5.1.row_of h0
  refine R.call ⟨rfl, rfl, rfl, rfl⟩ rfl (vs := [_]) rfl ((sort_own _ G bn cn (cn * 1) xs (by omega) hm).mono ?_)
  rintro _ _ ⟨rfl, rfl⟩
  refine GOps.nil ?_
  refine GW.seq ?_
  refine GW.region ?_
  refine R.move ⟨rfl, rfl, rfl, rfl⟩ rfl ?_
  refine R.assign ⟨rfl, rfl, rfl, rfl⟩ rfl ?_
  refine GOps.nil ?_
  refine GW.ret (Out.of (Res.one rfl rfl) (Hs.refl _) ⟨[(bn, .row (zC (srtZ xs)) 3 (cn * 1))], ?_, rfl⟩)
  rw [srtZ_len]
  exact .row bn cn (by rw [Nat.mul_one, ← srtZ_len xs]; simp [zC]) hcn
end Go.Proofs.YtfddkcmooommeaaGreatDoor.Gl
end
section
namespace Go.Proofs.YtfddkcmooommeaaGreatDoor.Gl
open Go.RowKit Go.Shelf
set_option linter.unusedVariables false
set_option linter.unnecessarySimpa false
set_option linter.unusedSimpArgs false
attribute [-simp] List.getD_eq_getElem?_getD
theorem pl_bad0 {lim : Nat} {vars : List ByteArray} {q : List Tm × Int} {s : Sl} (h : (placeF lim vars q s).2.2 = 0) : q.2 = 0 := by
 cases he : emp s.v with
 | false => rw [placeF_var he] at h; exact h
 | true =>
  by_cases hq : q.2 = 0
  ·exact hq
  ·rw [placeF_t1 he hq] at h; exact h
theorem place_same {lim : Nat} {vars : List ByteArray} {L : List Tm} {q : List Tm × Int} {s : Sl} (hv : HasV vars s) (h : Both lim L q) (h0 : (placeF lim vars q s).2.2 = 0) : (placeF lim vars q s).1 = (placeW vars L s).1 := by
 cases he : emp s.v with
 | false =>
  obtain ⟨i, hi⟩ := hv he
  rw [placeW_v he hi, placeF_var he, idxB_some hi]
 | true =>
  have hq := pl_bad0 h0
  rw [placeF_t0 he hq] at h0 ⊢
  rw [placeW_t (.inl he)]
  rcases h with ⟨_, rfl, _⟩ | ⟨h1, _⟩
  ·unfold internF at h0 ⊢
   unfold numF
   cases hx : idxT q.1 s.t with
   | some n => rfl
   | none =>
    rw [hx] at h0
    simp only at h0 ⊢
    by_cases hl : lim ≤ q.1.length
    ·rw [if_pos hl] at h0; simp at h0
    ·rw [if_neg hl]
  ·omega
theorem row_same {lim : Nat} {vars : List ByteArray} {L : List Tm} {q : List Tm × Int} {p : Pt} (hv : ∀ s ∈ sl3 p, HasV vars s) (h : Both lim L q) (h0 : (rowF lim vars q p).2.2 = 0) : (rowF lim vars q p).1 = (rowW vars L p).1 := by
 have hv0 := hv p.s0 (by simp [sl3])
 have hv1 := hv p.s1 (by simp [sl3])
 have hv2 := hv p.s2 (by simp [sl3])
 have b2 : (placeF lim vars (placeF lim vars (placeF lim vars q p.s0).2 p.s1).2 p.s2).2.2 = 0 := h0
 have b1 := pl_bad0 b2
 have b0 := pl_bad0 b1
 unfold rowF rowW
 simp only
 rw [place_same hv0 h b0, place_same hv1 (h.place hv0) b1, place_same hv2 ((h.place hv0).place hv1) b2]
theorem row_bad {lim : Nat} {vars : List ByteArray} {q : List Tm × Int} {p : Pt} (h : (rowF lim vars q p).2.2 = 0) : q.2 = 0 := pl_bad0 (pl_bad0 (pl_bad0 h))
def kd (l : Lt) : Prop := l.kind = 1 ∨ l.kind = 2 ∨ l.kind = 3 ∨ l.kind = 4
theorem kd_may {l : Lt} (h : mayLt l = true) : kd l := by
 unfold mayLt at h
 unfold kd
 by_cases h1 : l.kind = 1
 ·exact .inl h1
 by_cases h2 : l.kind = 2
 ·exact .inr (.inl h2)
 by_cases h3 : l.kind = 3
 ·exact .inr (.inr (.inl h3))
 by_cases h4 : l.kind = 4
 ·exact .inr (.inr (.inr h4))
 simp [h1, h2, h3, h4] at h
theorem step_bad {lim : Nat} {vars : List ByteArray} {q : List Tm × Int} {l : Lt} (h : (stepF lim vars q l).2.2 = 0) : q.2 = 0 := by
 by_cases h1 : l.kind = 1
 ·rw [stepF_1 h1] at h; exact row_bad h
 by_cases h2 : l.kind = 2
 ·rw [stepF_2 h1 h2] at h; exact row_bad h
 by_cases h3 : l.kind = 3
 ·rw [stepF_3 h1 h2 h3] at h; exact pl_bad0 (pl_bad0 h)
 ·rw [stepF_4 h1 h2 h3] at h; exact pl_bad0 (pl_bad0 h)
theorem stepSl_r {l : Lt} (h : l.kind = 1 ∨ l.kind = 2) : stepSl l = sl3 l.pat := by unfold stepSl; rw [if_pos h]
theorem stepSl_ab {l : Lt} (h1 : ¬ l.kind = 1) (h2 : ¬ l.kind = 2) : stepSl l = [l.a, l.b] := by unfold stepSl; rw [if_neg (by omega)]
theorem step_same {lim : Nat} {vars : List ByteArray} {L : List Tm} {q : List Tm × Int} {l : Lt} (hk : kd l) (hv : ∀ s ∈ stepSl l, HasV vars s) (h : Both lim L q) (h0 : (stepF lim vars q l).2.2 = 0) : (stepF lim vars q l).1 = (stepW vars L l).1 := by
 by_cases h1 : l.kind = 1
 ·rw [stepSl_r (.inl h1)] at hv
  rw [stepF_1 h1] at h0 ⊢
  rw [stepW_1 h1]
  simp only
  rw [row_same hv h h0]
 by_cases h2 : l.kind = 2
 ·rw [stepSl_r (.inr h2)] at hv
  rw [stepF_2 h1 h2] at h0 ⊢
  rw [stepW_2 h1 h2]
  simp only
  rw [row_same hv h h0]
 rw [stepSl_ab h1 h2] at hv
 have hva := hv l.a (by simp)
 have hvb := hv l.b (by simp)
 by_cases h3 : l.kind = 3
 ·rw [stepF_3 h1 h2 h3] at h0 ⊢
  rw [stepW_3 h1 h2 (by omega)]
  have b1 : (placeF lim vars (placeF lim vars q l.a).2 l.b).2.2 = 0 := h0
  simp only
  rw [place_same hva h (pl_bad0 b1), place_same hvb (h.place hva) b1]
 ·have h4 : l.kind = 4 := by rcases hk with h | h | h | h <;> first | contradiction | exact h
  rw [stepF_4 h1 h2 h3] at h0 ⊢
  rw [stepW_4 h1 h2 h4]
  have b1 : (placeF lim vars (placeF lim vars q l.a).2 l.b).2.2 = 0 := h0
  simp only
  rw [place_same hva h (pl_bad0 b1), place_same hvb (h.place hva) b1]
theorem placeW_got' {vars : List ByteArray} {L L' : List Tm} {s : Sl} (hv : HasV vars s) (hp : (placeW vars L s).2 <+: L') : (placeW vars L' s).2 = L' := placeW_got hv ((placeW_puts vars L s).mono hp)
theorem rowW_same {vars : List ByteArray} {L L' : List Tm} {p : Pt} (hv : ∀ s ∈ sl3 p, HasV vars s) (hp : (rowW vars L p).2 <+: L') : (rowW vars L' p).1 = (rowW vars L p).1 := by
 have hv0 := hv p.s0 (by simp [sl3])
 have hv1 := hv p.s1 (by simp [sl3])
 have hv2 := hv p.s2 (by simp [sl3])
 have c2 : (placeW vars (placeW vars (placeW vars L p.s0).2 p.s1).2 p.s2).2 <+: L' := hp
 have c1 : (placeW vars (placeW vars L p.s0).2 p.s1).2 <+: L' := (placeW_pre _ _ _).trans c2
 have c0 : (placeW vars L p.s0).2 <+: L' := (placeW_pre _ _ _).trans c1
 unfold rowW
 simp only
 rw [placeW_same c0, placeW_got' hv0 c0, placeW_same c1, placeW_got' hv1 c1, placeW_same c2]
theorem stepW_same {vars : List ByteArray} {L L' : List Tm} {l : Lt} (hv : ∀ s ∈ stepSl l, HasV vars s) (hp : (stepW vars L l).2 <+: L') : (stepW vars L' l).1 = (stepW vars L l).1 := by
 by_cases h1 : l.kind = 1
 ·rw [stepSl_r (.inl h1)] at hv
  rw [stepW_1 h1] at hp ⊢
  rw [stepW_1 h1]
  simp only
  rw [rowW_same hv hp]
 by_cases h2 : l.kind = 2
 ·rw [stepSl_r (.inr h2)] at hv
  rw [stepW_2 h1 h2] at hp ⊢
  rw [stepW_2 h1 h2]
  simp only
  rw [rowW_same hv hp]
 rw [stepSl_ab h1 h2] at hv
 have hva := hv l.a (by simp)
 have hvb := hv l.b (by simp)
 by_cases h4 : l.kind = 4
 ·rw [stepW_4 h1 h2 h4] at hp ⊢
  rw [stepW_4 h1 h2 h4]
  have c1 : (placeW vars (placeW vars L l.a).2 l.b).2 <+: L' := hp
  have c0 : (placeW vars L l.a).2 <+: L' := (placeW_pre _ _ _).trans c1
  simp only
  rw [placeW_same c0, placeW_got' hva c0, placeW_same c1]
 ·rw [stepW_3 h1 h2 h4] at hp ⊢
  rw [stepW_3 h1 h2 h4]
  have c1 : (placeW vars (placeW vars L l.a).2 l.b).2 <+: L' := hp
  have c0 : (placeW vars L l.a).2 <+: L' := (placeW_pre _ _ _).trans c1
  simp only
  rw [placeW_same c0, placeW_got' hva c0, placeW_same c1]
def SW (vars : List ByteArray) (L : List Tm) (l : Lt) : St := (stepW vars L l).1
theorem SW_kind {vars : List ByteArray} {L : List Tm} {l : Lt} (hk : kd l) : (SW vars L l).kind = l.kind := by
 unfold SW
 by_cases h1 : l.kind = 1
 ·rw [stepW_1 h1, h1]
 by_cases h2 : l.kind = 2
 ·rw [stepW_2 h1 h2, h2]
 by_cases h4 : l.kind = 4
 ·rw [stepW_4 h1 h2 h4, h4]
 ·rw [stepW_3 h1 h2 h4]
  rcases hk with h | h | h | h <;> first | contradiction | exact h.symm
theorem body_bad {lim : Nat} {vars : List ByteArray} {ts : List Tm} {bad : Int} {body : List Lt} : ∀ (d i : Nat), i + d = body.length → (bodyTo lim vars ts bad body body.length).bad = 0 → (bodyTo lim vars ts bad body i).bad = 0
 | 0, i, h, h0 => by rw [show i = body.length by omega]; exact h0
 | d + 1, i, h, h0 => by
  have ih := body_bad (lim := lim) (vars := vars) (ts := ts) (bad := bad) d (i + 1) (by omega) h0
  rw [bodyTo_succ (List.getElem?_eq_getElem (show i < body.length by omega))] at ih
  have hq := bodyStep_q lim vars (bodyTo lim vars ts bad body i) (body[i]'(by omega))
  have h2 : (stepF lim vars ((bodyTo lim vars ts bad body i).ts, (bodyTo lim vars ts bad body i).bad) (body[i]'(by omega))).2.2 = 0 := by
   rw [← hq]; exact ih
  exact step_bad h2
theorem body_same {lim : Nat} {vars : List ByteArray} {L : List Tm} {ts : List Tm} {bad : Int} {body : List Lt} (hk : ∀ l ∈ body, kd l) (hv : ∀ l ∈ body, ∀ s ∈ stepSl l, HasV vars s) (h : Both lim L (ts, bad)) (h0 : (bodyTo lim vars ts bad body body.length).bad = 0) : ∀ i, i ≤ body.length →
  (bodyTo lim vars ts bad body i).m = (fT isMt body i).map (SW vars (passW vars L body body.length)) ∧ (bodyTo lim vars ts bad body i).w = (fT isCt body i).map (SW vars (passW vars L body body.length)) ∧ (bodyTo lim vars ts bad body i).n = (fT isNt body i).map (SW vars (passW vars L body body.length))
 | 0, _ => ⟨rfl, rfl, rfl⟩
 | i + 1, hi => by
  obtain ⟨i1, i2, i3⟩ := body_same hk hv h h0 i (by omega)
  have hB := Both.body hv h i (by omega)
  have hb := body_bad (body.length - (i + 1)) (i + 1) (by omega) h0
  obtain ⟨l, hl⟩ : ∃ l, body[i]? = some l := ⟨_, List.getElem?_eq_getElem (by omega)⟩
  have hm := List.mem_of_getElem? hl
  have hq := bodyStep_q lim vars (bodyTo lim vars ts bad body i) l
  rw [bodyTo_succ hl] at hb ⊢
  have h2 : (stepF lim vars ((bodyTo lim vars ts bad body i).ts, (bodyTo lim vars ts bad body i).bad) l).2.2 = 0 := by
   rw [← hq]; exact hb
  have hs := step_same (hk l hm) (hv l hm) hB h2
  have hp : (stepW vars (passW vars L body i) l).2 <+: passW vars L body body.length := by
   have := passW_mono (vars := vars) (L := L) (body := body) (i := i + 1) (body.length - (i + 1)) (by omega)
   rw [passW_succ hl, show i + 1 + (body.length - (i + 1)) = body.length by omega] at this
   exact this
  have hs2 : (stepF lim vars ((bodyTo lim vars ts bad body i).ts, (bodyTo lim vars ts bad body i).bad) l).1 = SW vars (passW vars L body body.length) l := by
   rw [hs]; exact (stepW_same (hv l hm) hp).symm
  have hkind := SW_kind (vars := vars) (L := passW vars L body body.length) (hk l hm)
  rw [← hs2] at hkind
  by_cases h1 : l.kind = 1
  ·have e1 : isMt l = true := by simp [isMt, h1]
   have e2 : isCt l = false := by simp [isCt, h1]
   have e3 : isNt l = false := by simp [isNt, h1]
   rw [bodyStep_1 (hkind.trans h1), fT_yes hl e1, fT_no hl e2, fT_no hl e3, List.map_append, hs2]
   exact ⟨by rw [i1]; rfl, i2, i3⟩
  by_cases h2' : l.kind = 2
  ·have e1 : isMt l = false := by simp [isMt, h1]
   have e2 : isCt l = false := by simp [isCt, h2']
   have e3 : isNt l = true := by simp [isNt, h2']
   rw [bodyStep_2 (by rw [hkind]; exact h1) (hkind.trans h2'), fT_no hl e1, fT_no hl e2, fT_yes hl e3, List.map_append, hs2]
   exact ⟨i1, i2, by rw [i3]; rfl⟩
  ·have e1 : isMt l = false := by simp [isMt, h1]
   have e2 : isCt l = true := by
    rcases hk l hm with h | h | h | h <;> first | contradiction | simp [isCt, h]
   have e3 : isNt l = false := by simp [isNt, h2']
   rw [bodyStep_3 (by rw [hkind]; exact h1) (by rw [hkind]; exact h2'), fT_no hl e1, fT_yes hl e2, fT_no hl e3, List.map_append, hs2]
   exact ⟨i1, by rw [i2]; rfl, i3⟩
def KnW (vars : List ByteArray) (kn : List Bool) (tk : List Lt) : Prop := kn.length = vars.length ∧ ∀ (s : ByteArray) i, emp s = false → idxN vars s = some i → kn.getD i false = standsL tk s
theorem idxN_at {vars : List ByteArray} {s : ByteArray} {i : Nat} (h : idxN vars s = some i) : ∃ x, vars[i]? = some x ∧ s.toList = x.toList := by
 unfold idxN at h
 obtain ⟨hi, h1, _⟩ := List.findIdx?_eq_some_iff_getElem.1 h
 exact ⟨_, List.getElem?_eq_getElem hi, by simpa using h1⟩
theorem idxN_congr {vars : List ByteArray} {s t : ByteArray} (h : s.toList = t.toList) : idxN vars s = idxN vars t := by unfold idxN; rw [h]
theorem pl_ok {vars : List ByteArray} {kn : List Bool} {tk : List Lt} (hK : KnW vars kn tk) (L : List Tm) {s : Sl} (hv : HasV vars s) : okPl kn (placeW vars L s).1 = (emp s.v || standsL tk s.v) := by
 cases he : emp s.v with
 | true =>
  rw [placeW_t (.inl he)]
  simp [okPl]
 | false =>
  obtain ⟨i, hi⟩ := hv he
  rw [placeW_v he hi]
  have := hK.2 s.v i he hi
  simp [okPl, this]
theorem ready_same {vars : List ByteArray} {kn : List Bool} {tk : List Lt} (hK : KnW vars kn tk) (L : List Tm) {l : Lt} (hv : ∀ s ∈ stepSl l, HasV vars s) : readyF kn (SW vars L l) = readyW tk l := by
 unfold readyF readyW SW
 rw [← stepSl_slots]
 by_cases h1 : l.kind = 1
 ·rw [stepSl_r (.inl h1)] at hv ⊢
  rw [stepW_1 h1, placesSt_r (.inl rfl)]
  simp only [rowW, sl3, List.all_cons, List.all_nil]
  rw [pl_ok hK _ (hv _ (by simp [sl3])), pl_ok hK _ (hv _ (by simp [sl3])), pl_ok hK _ (hv _ (by simp [sl3]))]
 by_cases h2 : l.kind = 2
 ·rw [stepSl_r (.inr h2)] at hv ⊢
  rw [stepW_2 h1 h2, placesSt_r (.inr rfl)]
  simp only [rowW, sl3, List.all_cons, List.all_nil]
  rw [pl_ok hK _ (hv _ (by simp [sl3])), pl_ok hK _ (hv _ (by simp [sl3])), pl_ok hK _ (hv _ (by simp [sl3]))]
 rw [stepSl_ab h1 h2] at hv ⊢
 by_cases h4 : l.kind = 4
 ·rw [stepW_4 h1 h2 h4, placesSt_ab (by simp) (by simp)]
  simp only [List.all_cons, List.all_nil]
  rw [pl_ok hK _ (hv _ (by simp)), pl_ok hK _ (hv _ (by simp))]
 ·rw [stepW_3 h1 h2 h4, placesSt_ab (by simp) (by simp)]
  simp only [List.all_cons, List.all_nil]
  rw [pl_ok hK _ (hv _ (by simp)), pl_ok hK _ (hv _ (by simp))]
theorem mark_one {vars : List ByteArray} {kn : List Bool} (hn : kn.length = vars.length) (L : List Tm) {t : Sl} (hv : HasV vars t) {s : ByteArray} {i : Nat} (hs : emp s = false) (hi : idxN vars s = some i) :
  (markP kn (placeW vars L t).1).getD i false = (kn.getD i false || t.v.toList == s.toList) := by
 have hil : i < vars.length := by obtain ⟨x, hx, _⟩ := idxN_at hi; exact (List.getElem?_eq_some_iff.1 hx).1
 cases he : emp t.v with
 | true =>
  rw [placeW_t (.inl he)]
  have : (t.v.toList == s.toList) = false := by
   rw [Bool.eq_false_iff]
   intro h
   unfold emp at he hs
   rw [beq_iff_eq] at he h
   rw [← h, he] at hs
   simp at hs
  rw [this, Bool.or_false]
  unfold markP
  rw [if_neg (by simp)]
 | false =>
  obtain ⟨j, hj⟩ := hv he
  rw [placeW_v he hj]
  unfold markP
  simp only
  rw [if_pos (by omega)]
  by_cases hij : i = j
  ·subst hij
   obtain ⟨x, hx, e1⟩ := idxN_at hi
   obtain ⟨y, hy, e2⟩ := idxN_at hj
   rw [hx] at hy
   cases hy
   have : (t.v.toList == s.toList) = true := by rw [beq_iff_eq, e1, e2]
   rw [this, Bool.or_true, List.getD_eq_getElem?_getD]
   simp [hn, hil]
  ·have : (t.v.toList == s.toList) = false := by
    rw [Bool.eq_false_iff]
    intro h
    rw [beq_iff_eq] at h
    rw [idxN_congr h, hi] at hj
    exact hij (Option.some.inj hj)
   rw [this, Bool.or_false, List.getD_eq_getElem?_getD, List.getD_eq_getElem?_getD, List.getElem?_set_ne (by simpa using Ne.symm hij)]
theorem KnW.mark {vars : List ByteArray} {kn : List Bool} {tk : List Lt} (hK : KnW vars kn tk) (L : List Tm) {m : Lt} (h1 : m.kind = 1) (hv : ∀ s ∈ stepSl m, HasV vars s) : KnW vars (markTo kn (SW vars L m).row 3) (tk ++ [m]) := by
 rw [stepSl_r (.inl h1)] at hv
 refine ⟨by rw [markTo_len]; exact hK.1, fun s i hs hi => ?_⟩
 have e : standsL (tk ++ [m]) s = (standsL tk s || (patL m).any (fun q => q.toList == s.toList)) := by simp [standsL]
 rw [e]
 unfold SW markTo
 rw [stepW_1 h1]
 simp only [rowW, row3, List.take, List.foldl, patL, List.any_cons, List.any_nil, Bool.or_false]
 have n0 : (markP kn (placeW vars L m.pat.s0).1).length = vars.length := by rw [markP_len]; exact hK.1
 rw [mark_one (by rw [markP_len]; exact n0) _ (hv _ (by simp [sl3])) hs hi, mark_one n0 _ (hv _ (by simp [sl3])) hs hi, mark_one hK.1 _ (hv _ (by simp [sl3])) hs hi, hK.2 s i hs hi]
 simp only [Bool.or_assoc]
structure RunS (S : Lt → St) (vars : List ByteArray) (q : RS) (p : PS) : Prop where
 w : q.w = p.wt.map S
 o : q.o = p.out.map S
 kn : KnW vars q.kn p.tk
theorem RunS.flush {vars : List ByteArray} {L : List Tm} {q : RS} {p : PS} (h : RunS (SW vars L) vars q p) (hv : ∀ l ∈ p.wt, ∀ s ∈ stepSl l, HasV vars s) : RunS (SW vars L) vars (flushR q) (flushW p) := by
 have e1 : ∀ l ∈ p.wt, readyF q.kn (SW vars L l) = readyW p.tk l := fun l hl => ready_same h.kn L (hv l hl)
 refine ⟨?_, ?_, h.kn⟩
 ·show q.w.filter (fun s => !readyF q.kn s) = (p.wt.filter (fun l => !readyW p.tk l)).map _
  rw [h.w, List.filter_map]
  congr 1
  exact List.filter_congr fun l hl => by simp only [Function.comp_apply, e1 l hl]
 ·show q.o ++ q.w.filter (readyF q.kn) = (p.out ++ p.wt.filter (readyW p.tk)).map _
  rw [h.w, h.o, List.filter_map, List.map_append]
  congr 2
  exact List.filter_congr fun l hl => by simp only [Function.comp_apply, e1 l hl]
theorem RunS.take {vars : List ByteArray} {L : List Tm} {q : RS} {p : PS} {m : Lt} (h : RunS (SW vars L) vars q p) (h1 : m.kind = 1) (hv : ∀ s ∈ stepSl m, HasV vars s) : RunS (SW vars L) vars ⟨markTo q.kn (SW vars L m).row 3, q.w, q.o ++ [SW vars L m]⟩ ⟨p.tk ++ [m], p.wt, p.out ++ [m]⟩ :=
 ⟨h.w, by simp only; rw [h.o, List.map_append]; rfl, h.kn.mark L h1 hv⟩
theorem run_same {vars : List ByteArray} {L : List Tm} {M : List Lt} {good : Bool} {order : List Int} {q : RS} {p : PS} {ord : List Int} (h : RunS (SW vars L) vars q p) (hM : ∀ l ∈ M, l.kind = 1 ∧ ∀ s ∈ stepSl l, HasV vars s) (hwt : ∀ l ∈ p.wt, ∀ s ∈ stepSl l, HasV vars s)
  (hg : good = true → goodF M.length order = true) (ho : ∀ (i : Nat) z, ord[i]? = some z → i < M.length ∧ (M.map (SW vars L)).getD z.toNat zSt = SW vars L (mAt M good order i)) : ∀ i, i ≤ ord.length → RunS (SW vars L) vars (runTo (M.map (SW vars L)) q ord i) (stW M good order p (i + 1))
 | 0, _ => h.flush hwt
 | i + 1, hi => by
  have ih := run_same h hM hwt hg ho i (by omega)
  obtain ⟨z, hz⟩ : ∃ z, ord[i]? = some z := ⟨_, List.getElem?_eq_getElem (by omega)⟩
  obtain ⟨hiM, e⟩ := ho i z hz
  have hm := mAt_mem (order := order) (p := i) hiM hg
  have hw2 : ∀ l ∈ (stW M good order p (i + 1)).wt, ∀ s ∈ stepSl l, HasV vars s := by
   have wsub : ∀ k, ∀ l ∈ (stW M good order p k).wt, l ∈ p.wt := by
    intro k
    induction k with
    | zero => exact fun l hl => hl
    | succ k ihk =>
     intro l hl
     have hl2 : l ∈ ((preW M good order (stW M good order p k) k).wt.filter (fun l => !readyW (preW M good order (stW M good order p k) k).tk l)) := hl
     have := (List.mem_filter.1 hl2).1
     rw [pre_wt] at this
     exact ihk l this
   exact fun l hl => hwt l (wsub _ l hl)
  rw [runTo_succ hz]
  unfold takeR
  rw [e]
  exact (ih.take (hM _ hm).1 (hM _ hm).2).flush hw2
theorem sorted_range (n : Nat) : ((List.range n).map (fun k : Nat => (k : Int))).Pairwise (fun a b => a ≤ b) := by
 rw [List.pairwise_map]
 exact (List.pairwise_lt_range (n := n)).imp (fun {a b} h => by show (a : Int) ≤ (b : Int); omega)
theorem srtZ_sorted (xs : List Int) : (srtZ xs).Pairwise (fun a b => a ≤ b) := by
 have h := List.pairwise_mergeSort (le := fun x y : Int => decide (x ≤ y)) (fun a b c h1 h2 => by simp only [decide_eq_true_eq] at *; omega) (fun a b => by simp only [Bool.or_eq_true, decide_eq_true_eq]; omega) xs
 exact h.imp (fun {a b} h => by simpa using h)
theorem range_count (n k : Nat) (h : k < n) : ((List.range n).map (fun k : Nat => (k : Int))).countP (fun z => decide (z = (k : Int))) = 1 := by
 rw [List.countP_map]
 have e : (List.range n).countP ((fun z : Int => decide (z = (k : Int))) ∘ fun k : Nat => (k : Int)) = (List.range n).count k := by
  unfold List.count
  exact List.countP_congr fun x _ => by simp only [Function.comp_apply, decide_eq_true_eq, beq_iff_eq]; omega
 rw [e]
 rw [List.nodup_range.count, if_pos (List.mem_range.2 h)]
theorem ord_good (n : Nat) (order : List Int) : ((srtZ order).length = n ∧ srtZ order = (List.range n).map (fun k : Nat => (k : Int))) ↔ goodF n order = true := by
 constructor
 ·rintro ⟨h1, h2⟩
  rw [srtZ_len] at h1
  unfold goodF
  rw [Bool.and_eq_true, decide_eq_true_eq, List.all_eq_true]
  refine ⟨by omega, fun k hk => ?_⟩
  unfold oneZ cntZ
  rw [decide_eq_true_eq, ← (srtZ_perm order).countP_eq, h2, range_count n k (List.mem_range.1 hk)]
  rfl
 ·intro h
  have hp := good_perm h
  refine ⟨by rw [srtZ_len, hp.length_eq]; simp, ?_⟩
  exact List.Perm.eq_of_pairwise (le := fun a b : Int => a ≤ b) (fun a b _ _ h1 h2 => by omega) (srtZ_sorted order) (sorted_range n) ((srtZ_perm order).trans hp)
theorem getD_map {S : Lt → St} {M : List Lt} {i : Nat} (h : i < M.length) : (M.map S).getD i zSt = S (M.getD i zLt) := by
 simp [List.getD_eq_getElem?_getD, h]
theorem ord_at {S : Lt → St} {M : List Lt} {order : List Int} : ∀ (i : Nat) z, (ordF M.length order (srtZ order))[i]? = some z → i < M.length ∧ (M.map S).getD z.toNat zSt = S (mAt M (goodF M.length order) order i) := by
 intro i z hz
 cases hg : goodF M.length order with
 | true =>
  unfold ordF at hz
  rw [if_pos ((ord_good _ _).2 hg)] at hz
  obtain ⟨h1, h2⟩ := good_range hg
  have hi := (List.getElem?_eq_some_iff.1 hz).1
  have hzr := h2 z (List.mem_of_getElem? hz)
  refine ⟨by omega, ?_⟩
  unfold mAt
  rw [if_pos rfl, getD_map (by omega), show order.getD i 0 = z by rw [List.getD_eq_getElem?_getD, hz]; rfl]
 | false =>
  unfold ordF at hz
  rw [if_neg (fun h => by rw [(ord_good _ _).1 h] at hg; cases hg)] at hz
  have hi := (List.getElem?_eq_some_iff.1 hz).1
  rw [List.length_map, List.length_range] at hi
  have hzi : z = (i : Nat) := by
   rw [List.getElem?_map, List.getElem?_range hi] at hz
   simpa using hz.symm
  subst hzi
  refine ⟨hi, ?_⟩
  unfold mAt
  rw [if_neg (by simp), show ((i : Nat) : Int).toNat = i by omega, getD_map hi]
theorem ord_len (n : Nat) (order : List Int) : (ordF n order (srtZ order)).length = n := by
 unfold ordF
 split
 ·rename_i h; rw [← srtZ_len]; exact h.1
 ·simp
theorem steps_same {lim : Nat} {vars : List ByteArray} {L : List Tm} {ts : List Tm} {bad : Int} {body : List Lt} (order : List Int) (hk : ∀ l ∈ body, kd l) (hv : ∀ l ∈ body, ∀ s ∈ stepSl l, HasV vars s) (h : Both lim L (ts, bad)) (h0 : (planSteps lim vars ts bad body order (srtZ order)).2.2 = 0) :
  (planSteps lim vars ts bad body order (srtZ order)).1 = (bodyW vars L body order).1 ∧ (planSteps lim vars ts bad body order (srtZ order)).2.1 = (bodyW vars L body order).2 := by
 have h0' : (bodyTo lim vars ts bad body body.length).bad = 0 := h0
 obtain ⟨e1, e2, e3⟩ := body_same hk hv h h0' body.length (Nat.le_refl _)
 rw [fT_all (Nat.le_refl _)] at e1 e2 e3
 have hB := Both.body hv h body.length (Nat.le_refl _)
 obtain ⟨w2, w1⟩ := bodyW_end (order := order) (L := L) hv
 refine ⟨?_, ?_⟩
 ·rw [w1]
  have hq0 : RunS (SW vars (passW vars L body body.length)) vars ⟨List.replicate vars.length false, (bodyTo lim vars ts bad body body.length).w ++ (bodyTo lim vars ts bad body body.length).n, []⟩ ⟨[], waitL body, []⟩ :=
   ⟨by simp only; rw [e2, e3, ← List.map_append]; rfl, rfl, by simp, fun s i _ _ => by rw [List.getD_eq_getElem?_getD, List.getElem?_replicate]; split <;> rfl⟩
  have hM : ∀ l ∈ body.filter isMt, l.kind = 1 ∧ ∀ s ∈ stepSl l, HasV vars s := fun l hl => ⟨by have := (List.mem_filter.1 hl).2; simpa [isMt] using this, hv l (List.mem_filter.1 hl).1⟩
  have hwt : ∀ l ∈ waitL body, ∀ s ∈ stepSl l, HasV vars s := fun l hl => hv l (by
   unfold waitL at hl
   rcases List.mem_append.1 hl with h | h <;> exact (List.mem_filter.1 h).1)
  have hr := run_same (good := goodF (body.filter isMt).length order) (order := order) (ord := ordF (body.filter isMt).length order (srtZ order)) hq0 hM hwt (fun h => h) (fun i z hz => ord_at i z hz) _ (Nat.le_refl _)
  show (runTo (bodyTo lim vars ts bad body body.length).m _ (ordF (bodyTo lim vars ts bad body body.length).m.length order (srtZ order)) _).o = _
  rw [e1, List.length_map, hr.o, ord_len]
  rfl
 ·rw [w2]
  rcases hB with ⟨_, h1, _⟩ | ⟨h1, _⟩
  ·exact h1
  ·simp only at h1; omega
theorem rule_kd {r : Rl} (h : ruleE r = 0) : ∀ l ∈ r.body, kd l := fun l hl => by
 have hm := rule_may h
 unfold mayRl at hm
 rw [Bool.and_eq_true, Bool.and_eq_true, List.all_eq_true] at hm
 exact kd_may (hm.2.2 l hl)
theorem planRule_same {lim : Nat} {ts : List Tm} {r : Rl} (order : List Int) (hl : ts.length ≤ lim) (h0 : ruleE r = 0) (he : (planRule lim ts r order (srtZ order)).e = 0) :
  (planRule lim ts r order (srtZ order)).head = (rowW (dd (allSlots r)) ts r.head).1 ∧ (planRule lim ts r order (srtZ order)).steps = (bodyW (dd (allSlots r)) (rowW (dd (allSlots r)) ts r.head).2 r.body order).1
   ∧ (planRule lim ts r order (srtZ order)).ts = (bodyW (dd (allSlots r)) (rowW (dd (allSlots r)) ts r.head).2 r.body order).2 ∧ (planRule lim ts r order (srtZ order)).vars = (dd (allSlots r)).length := by
 have h1 : Both lim ts (ts, (0 : Int)) := .inl ⟨rfl, rfl, hl⟩
 have hr : Both lim (rowW (dd (allSlots r)) ts r.head).2 ((rowF lim (dd (allSlots r)) (ts, 0) r.head).2.1, (rowF lim (dd (allSlots r)) (ts, 0) r.head).2.2) := h1.row (head_has r)
 by_cases h3 : (planSteps lim (dd (allSlots r)) (rowF lim (dd (allSlots r)) (ts, 0) r.head).2.1 (rowF lim (dd (allSlots r)) (ts, 0) r.head).2.2 r.body order (srtZ order)).2.2 = 0
 ·have hb : (rowF lim (dd (allSlots r)) (ts, 0) r.head).2.2 = 0 := by
   have := body_bad (lim := lim) (vars := dd (allSlots r)) (ts := (rowF lim (dd (allSlots r)) (ts, 0) r.head).2.1) (bad := (rowF lim (dd (allSlots r)) (ts, 0) r.head).2.2) (body := r.body) r.body.length 0 (by omega) h3
   exact this
  obtain ⟨s1, s2⟩ := steps_same order (rule_kd h0) (body_has r) hr h3
  rw [planRule_ok h0 h3]
  exact ⟨row_same (head_has r) h1 hb, s1, s2, rfl⟩
 ·rw [planRule_full h0 h3] at he
  exact absurd he h3
end Go.Proofs.YtfddkcmooommeaaGreatDoor.Gl
end
section
namespace Go.Proofs.YtfddkcmooommeaaGreatDoor.Gl
open Go.RowKit Go.Shelf
set_option linter.unusedVariables false
set_option linter.unnecessarySimpa false
set_option linter.unusedSimpArgs false
attribute [-simp] List.getD_eq_getElem?_getD
section
variable {X : Cx} {Q : Post} {fr : Fr} {ds : List Deferred} {G : Hp} {ops : Array Oper} {o : Oper} {rest : List Oper} {d : Nat}
theorem V.sliceSL {t e : TypeId} {x y : Operand} {k : IntKind} {A : Option Addr} {n c z : Nat} {i : Int} (h : At X ops fr o (.slice t x (some y) none none) d) (hx : evO fr x = some (.slice A n c)) (hy : evO fr y = some (.int k i)) (hu : X.P.underlying t = some (.slice e)) (hz : ∀ w, (sizeOf e).run X.P w = .ok z w)
  (h0 : 0 ≤ i) (h1 : i ≤ n) (h2 : n ≤ c) : GV X ops fr G o d (.slice (cutA A i.toNat z c) (n - i.toNat) (c - i.toNat)) :=
 GV.of h (by simp) (fun ρ w hρ hw => by
  simp only [execOp, h.op, Option.map_some, Option.map_none, hρ _ _ hx, hρ _ _ hy, Instr.sliceAt, Sem.run_bind, run_und hu, Result.andThen_ok, Instr.slice, Instr.sliceBounds, Sem.run_pure, Go.run_sliceBound w k i n _ h0 h1, hz]
  rfl)
theorem V.convBytesA {s t e : TypeId} {x : Operand} {A : Option Addr} {b f n c : Nat} {l : List Nat} {str : ByteArray} (hA : A = some ⟨b, f, none⟩) (hS : strOf l = str) (h : At X ops fr o (.convert s t x) d) (hx : evO fr x = some (.slice A n c)) (hs : X.P.underlying s = some (.slice e)) (he : X.P.underlying e = some (.int .u8)) (ht : X.P.underlying t = some .string)
  (hl : l.length = n) (hr : Rds X.w0 G b f (l.map fun c => Value.int .u8 (c : Nat))) : GV X ops fr G o d (.string str) := by
 subst hA
 subst hS
 exact V.convBytes h hx hs he ht hl hr
end
theorem cut_rd {w0 : World} {G : Hp} {a f c i : Nat} {p : List Nat} (h : Rds w0 G a f (u8C p)) (hc : p.length ≤ c) (hi : i ≤ p.length) : ∃ g, cutA (some ⟨a, f, none⟩) i 1 c = some ⟨a, g, none⟩ ∧ Rds w0 G a g (u8C (p.drop i)) := by
 unfold cutA
 by_cases e : c = i
 ·rw [if_pos e]
  exact ⟨f, rfl, fun j v hv => by rw [List.drop_of_length_le (by omega)] at hv; simp [u8C] at hv⟩
 ·rw [if_neg e, Option.map_some, add_none, Nat.mul_one]
  refine ⟨f + i, rfl, fun j v hv => ?_⟩
  obtain ⟨x, hx, rfl⟩ := u8C_inv hv
  rw [List.getElem?_drop] at hx
  have := h (i + j) _ (u8C_get hx)
  rw [Nat.add_assoc]
  exact this
theorem Rds.left {w0 : World} {G : Hp} {a f : Nat} {p q : List Nat} (h : Rds w0 G a f (u8C (p ++ q))) : Rds w0 G a f (u8C p) := fun j v hv => h j v (by
 rw [u8C_app, List.getElem?_append_left (List.getElem?_eq_some_iff.1 hv).1]
 exact hv)
theorem or256 (x y : Nat) (hx : x < 33554432) (hy : y < 256) : Go.bits .or .i64 ((x * 256 : Nat) : Int) (y : Int) = ((x * 256 + y : Nat) : Int) := by
 rw [bits_join .i64 63 (by decide) (fun n h0 h1 => wrap64_id (by omega) (by omega)) 8 _ _ (by omega) (by omega) (by omega) (by omega) (by omega) (by omega)]
 omega
theorem pack_drop3 (t : Tm) : (packL t).drop 3 = bs t.text ++ bs t.ext := rfl
theorem pack_dropn (t : Tm) : (packL t).drop (3 + t.text.size) = bs t.ext := by
 rw [← List.drop_drop, pack_drop3, List.drop_append_of_le_length (by rw [bs_length]; omega), List.drop_of_length_le (by rw [bs_length]; omega)]
 rfl
theorem dict_unpack (w0 : World) (G : Hp) (t : Tm) (a f c : Nat) (hmay : mayT t = true) (hrd : Rds w0 G a f (u8C (packL t))) (hc : (packL t).length ≤ c) (hcm : c ≤ 100000000) : GC Tryz.prog w0 70 #[.slice (some ⟨a, f, none⟩) (packL t).length c] (fun v G' => v = .agg #[.int .i64 t.kind, .string t.text, .string t.ext] ∧ G = G') G := by
 obtain ⟨h1, h2, h3, h4⟩ := mayT_facts hmay
 have hpl := packL_len t
 obtain ⟨g1, e1, r1⟩ := cut_rd (i := (3 : Int).toNat) hrd hc (by omega)
 obtain ⟨g2, e2, r2⟩ := cut_rd (i := (((3 + t.text.size : Nat)) : Int).toNat) hrd hc (by omega)
 rw [show (3 : Int).toNat = 3 from rfl, pack_drop3] at r1
 rw [Int.toNat_natCast, pack_dropn] at r2
 replace r1 := r1.left
 refine GC.body (args := [.slice (some ⟨a, f, none⟩) (packL t).length c]) Tryz.func70 rfl (by kernel_rfl) rfl ?_
 refine GW.seq ?_
 refine GW.region ?_
 refine R.alloc ⟨rfl, rfl, rfl, rfl⟩ Tryz.zeroValue24 fun b2 => ?_
 refine GOps.nil ?_
 refine GW.seq ?_
 refine GW.drawS 11 rfl (by kernel_rfl) ?_
 refine GA.val 0 rfl (V.move ⟨rfl, rfl, rfl, rfl⟩ rfl) rfl (by kernel_rfl) (by kernel_rfl) (by kernel_rfl) ?_
 refine GA.val 1 rfl (V.indexAddrS ⟨rfl, rfl, rfl, rfl⟩ rfl rfl Tryz.underlying101 Tryz.sizeOf5 (by omega) (by omega)) rfl (by kernel_rfl) (by kernel_rfl) (by kernel_rfl) ?_
 refine GA.val 2 rfl (V.load1 ⟨rfl, rfl, rfl, rfl⟩ rfl Tryz.underlying5 rfl (byte_load (c := t.text.size / 256) (hrd.mono (fun y hy => by repeat (first | exact hy | apply List.mem_cons_of_mem | apply List.mem_append_right))) rfl)) rfl (by kernel_rfl) (by kernel_rfl) (by kernel_rfl) ?_
 refine GA.val 3 rfl (V.conv ⟨rfl, rfl, rfl, rfl⟩ rfl Tryz.underlying5 Tryz.underlying3 (wrap64_id (by omega) (by omega))) rfl (by kernel_rfl) (by kernel_rfl) (by kernel_rfl) ?_
 refine GA.val 4 rfl (V.shl (r := ((t.text.size / 256 * 256 : Nat) : Int)) ⟨rfl, rfl, rfl, rfl⟩ rfl rfl (by omega) (by rw [show (min (8 : Int).toNat IntKind.i64.bits) = 8 from rfl, wrap64_id (by omega) (by omega)]; omega)) rfl (by kernel_rfl) (by kernel_rfl) (by kernel_rfl) ?_
 refine GA.val 5 rfl (V.move ⟨rfl, rfl, rfl, rfl⟩ rfl) rfl (by kernel_rfl) (by kernel_rfl) (by kernel_rfl) ?_
 refine GA.val 6 rfl (V.indexAddrS ⟨rfl, rfl, rfl, rfl⟩ rfl rfl Tryz.underlying101 Tryz.sizeOf5 (by omega) (by omega)) rfl (by kernel_rfl) (by kernel_rfl) (by kernel_rfl) ?_
 refine GA.val 7 rfl (V.load1 ⟨rfl, rfl, rfl, rfl⟩ rfl Tryz.underlying5 rfl (byte_load (c := t.text.size % 256) (hrd.mono (fun y hy => by repeat (first | exact hy | apply List.mem_cons_of_mem | apply List.mem_append_right))) rfl)) rfl (by kernel_rfl) (by kernel_rfl) (by kernel_rfl) ?_
 refine GA.val 8 rfl (V.conv ⟨rfl, rfl, rfl, rfl⟩ rfl Tryz.underlying5 Tryz.underlying3 (wrap64_id (by omega) (by omega))) rfl (by kernel_rfl) (by kernel_rfl) (by kernel_rfl) ?_
 refine GA.val 9 rfl (V.or (r := ((t.text.size : Nat) : Int)) ⟨rfl, rfl, rfl, rfl⟩ rfl rfl (by rw [or256 _ _ (by omega) (by omega)]; omega)) rfl (by kernel_rfl) (by kernel_rfl) (by kernel_rfl) ?_
 refine GA.val 10 rfl (V.assign ⟨rfl, rfl, rfl, rfl⟩ rfl) rfl (by kernel_rfl) (by kernel_rfl) (by kernel_rfl) ?_
 refine GA.done (by first | exact Hs.refl _ | exact Hs.tl _ | exact Hs.tl2 _ _ | exact Hs.tl3 _ _ _ | exact Hs.app _ | exact Hs.sub (by simp)) (by kernel_rfl) ?_
 refine GW.seq ?_
 refine GW.draw (G) 16 rfl (by kernel_rfl) ?_
 refine GA.val 0 rfl (V.move ⟨rfl, rfl, rfl, rfl⟩ rfl) rfl (by kernel_rfl) (by kernel_rfl) (by kernel_rfl) ?_
 refine GA.val 1 rfl (V.indexAddrS ⟨rfl, rfl, rfl, rfl⟩ rfl rfl Tryz.underlying101 Tryz.sizeOf5 (by omega) (by omega)) rfl (by kernel_rfl) (by kernel_rfl) (by kernel_rfl) ?_
 refine GA.val 2 rfl (V.load1 ⟨rfl, rfl, rfl, rfl⟩ rfl Tryz.underlying5 rfl (byte_load (c := t.kind.toNat) (hrd.mono (fun y hy => by repeat (first | exact hy | apply List.mem_cons_of_mem | apply List.mem_append_right))) rfl)) rfl (by kernel_rfl) (by kernel_rfl) (by kernel_rfl) ?_
 refine GA.val 3 rfl (V.conv (r := t.kind) ⟨rfl, rfl, rfl, rfl⟩ rfl Tryz.underlying5 Tryz.underlying22 (by rw [wrap64_id (by omega) (by omega)]; omega)) rfl (by kernel_rfl) (by kernel_rfl) (by kernel_rfl) ?_
 refine GA.val 4 rfl (V.move ⟨rfl, rfl, rfl, rfl⟩ rfl) rfl (by kernel_rfl) (by kernel_rfl) (by kernel_rfl) ?_
 refine GA.val 5 rfl (V.move ⟨rfl, rfl, rfl, rfl⟩ rfl) rfl (by kernel_rfl) (by kernel_rfl) (by kernel_rfl) ?_
 refine GA.val 6 rfl (V.add (r := ((3 + t.text.size : Nat) : Int)) ⟨rfl, rfl, rfl, rfl⟩ rfl rfl (by rw [wrap64_id (by omega) (by omega)]; omega)) rfl (by kernel_rfl) (by kernel_rfl) (by kernel_rfl) ?_
 refine GA.val 7 rfl (V.sliceSLH ⟨rfl, rfl, rfl, rfl⟩ rfl rfl rfl Tryz.underlying101 Tryz.sizeOf5 (by omega) (by omega) (by omega)) rfl (by kernel_rfl) (by kernel_rfl) (by kernel_rfl) ?_
 refine GA.val 8 rfl (V.convBytesA e1 (strOf_bs _) (l := bs t.text) ⟨rfl, rfl, rfl, rfl⟩ rfl Tryz.underlying101 Tryz.underlying5 Tryz.underlying9 (by rw [bs_length]; omega) (r1.mono (fun y hy => by repeat (first | exact hy | apply List.mem_cons_of_mem | apply List.mem_append_right)))) rfl (by kernel_rfl) (by kernel_rfl) (by kernel_rfl) ?_
 refine GA.val 9 rfl (V.move ⟨rfl, rfl, rfl, rfl⟩ rfl) rfl (by kernel_rfl) (by kernel_rfl) (by kernel_rfl) ?_
 refine GA.val 10 rfl (V.move ⟨rfl, rfl, rfl, rfl⟩ rfl) rfl (by kernel_rfl) (by kernel_rfl) (by kernel_rfl) ?_
 refine GA.val 11 rfl (V.add (r := ((3 + t.text.size : Nat) : Int)) ⟨rfl, rfl, rfl, rfl⟩ rfl rfl (by rw [wrap64_id (by omega) (by omega)]; omega)) rfl (by kernel_rfl) (by kernel_rfl) (by kernel_rfl) ?_
 refine GA.val 12 rfl (V.sliceSL ⟨rfl, rfl, rfl, rfl⟩ rfl rfl Tryz.underlying101 Tryz.sizeOf5 (by omega) (by omega) (by omega)) rfl (by kernel_rfl) (by kernel_rfl) (by kernel_rfl) ?_
 refine GA.val 13 rfl (V.convBytesA e2 (strOf_bs _) (l := bs t.ext) ⟨rfl, rfl, rfl, rfl⟩ rfl Tryz.underlying101 Tryz.underlying5 Tryz.underlying9 (by rw [bs_length]; omega) (r2.mono (fun y hy => by repeat (first | exact hy | apply List.mem_cons_of_mem | apply List.mem_append_right)))) rfl (by kernel_rfl) (by kernel_rfl) (by kernel_rfl) ?_
 refine GA.val 14 rfl (V.build (vs := [(0, _), (1, _), (2, _)]) (cells := (TmC t).toArray) ⟨rfl, rfl, rfl, rfl⟩ rfl (fun w => run_build w 24 _ _ (by kernel_rfl))) rfl (by kernel_rfl) (by kernel_rfl) (by kernel_rfl) ?_
 refine GA.one 15 (by first | exact Hs.drop2 _ _ _ | exact Hs.refl _ | exact Hs.tl _ | exact Hs.tl2 _ _ | exact Hs.tl3 _ _ _ | exact Hs.app _ | exact Hs.sub (by simp)) (by kernel_rfl) rfl ?_
 refine R.storeAll (G1 := []) rfl rfl rfl rfl rfl Tryz.sizeOf24 rfl rfl rfl rfl ?_
 refine GOps.nil ?_
 refine GA.done (by first | exact Hs.drop2 _ _ _ | exact Hs.refl _ | exact Hs.tl _ | exact Hs.tl2 _ _ | exact Hs.tl3 _ _ _ | exact Hs.app _ | exact Hs.sub (by simp)) (by kernel_rfl) ?_
 exact GW.ret (Out.of (resCellA rfl rfl Tryz.underlying24 rfl Tryz.sizeOf24 (Rds.own (C := (TmC t).toArray) (by repeat (first | exact List.mem_cons_self | apply List.mem_cons_of_mem | apply List.mem_append_right | exact List.mem_append_left _ List.mem_cons_self)) 0 (TmC t) (fun j v hv => by simpa using hv)) rfl) (Hs.tl _) ⟨rfl, rfl⟩)
theorem Hs.tIn (x p q : Nat × Know) (A B G : Hp) : Hs (x :: p :: q :: (A ++ (B ++ G))) (p :: q :: (A ++ (B ++ (x :: G)))) := Hs.perm (by
 have h : (A ++ (B ++ (x :: G))).Perm (x :: (A ++ (B ++ G))) := by
  rw [← List.append_assoc, ← List.append_assoc]
  exact List.perm_middle
 exact ((h.cons q).trans (List.Perm.swap x q _)).cons p |>.trans (List.Perm.swap x p _))
theorem Hs.tOut (x p q : Nat × Know) (A B G : Hp) : Hs (p :: q :: (A ++ (B ++ (x :: G)))) (x :: p :: q :: (A ++ (B ++ G))) := Hs.perm (by
 have h : (A ++ (B ++ (x :: G))).Perm (x :: (A ++ (B ++ G))) := by
  rw [← List.append_assoc, ← List.append_assoc]
  exact List.perm_middle
 exact (((h.cons q).trans (List.Perm.swap x q _)).cons p |>.trans (List.Perm.swap x p _)).symm)
theorem dict_Term0 (w0 : World) (G : Hp) (ts : List Tm) (va ve : Value) (Ha He : Hp) (b bt lim sz : Nat) (tab : List Nat) (n : Nat) (t : Tm) (hr : Raw ts va ve Ha He) (ht : ts[n]? = some t) : GC Tryz.prog w0 41 #[.pointer (some ⟨b, 0, none⟩), .int .u32 ((n + 1 : Nat) : Int)] (fun v G' => v = .tuple #[.agg #[.int .i64 t.kind, .string t.text, .string t.ext], .bool true] ∧ (b, dictC lim va ve bt sz) :: (bt, tabC tab) :: (Ha ++ (He ++ G)) = G') ((b, dictC lim va ve bt sz) :: (bt, tabC tab) :: (Ha ++ (He ++ G))) := by
 have hn := (List.getElem?_eq_some_iff.1 ht).1
 have hmay := hr.may t (List.mem_of_getElem? ht)
 have hmost := hr.most
 obtain ⟨Ae, ce, rfl, hce⟩ := hr.he.split
 have hpl := packL_len t
 obtain ⟨h1, h2, h3, h4⟩ := mayT_facts hmay
 refine GC.body (args := [.pointer (some ⟨b, 0, none⟩), .int .u32 ((n + 1 : Nat) : Int)]) Tryz.func41 rfl (by kernel_rfl) rfl ?_
 refine GW.seq ?_
 refine GW.region ?_
 refine R.alloc ⟨rfl, rfl, rfl, rfl⟩ Tryz.zeroValue24 fun b4 => ?_
 refine R.assign ⟨rfl, rfl, rfl, rfl⟩ rfl ?_
 refine GOps.nil ?_
 refine GW.seq ?_
 refine GW.seq ?_
 refine GW.region ?_
 refine R.move ⟨rfl, rfl, rfl, rfl⟩ rfl ?_
 refine R.call ⟨rfl, rfl, rfl, rfl⟩ rfl (vs := [_]) rfl ((dict_there _ _ va (.slice Ae ts.length ce) b bt lim sz (by repeat (first | exact List.mem_cons_self | apply List.mem_cons_of_mem | apply List.mem_append_right | exact List.mem_append_left _ List.mem_cons_self))).mono ?_)
 rintro _ _ ⟨rfl, rfl⟩
 refine R.not ⟨rfl, rfl, rfl, rfl⟩ rfl ?_
 refine R.move ⟨rfl, rfl, rfl, rfl⟩ rfl ?_
 refine R.move ⟨rfl, rfl, rfl, rfl⟩ rfl ?_
 refine R.lss ⟨rfl, rfl, rfl, rfl⟩ rfl rfl ?_
 refine R.pick_f ⟨rfl, rfl, rfl, rfl⟩ rfl rfl ?_
 refine R.move ⟨rfl, rfl, rfl, rfl⟩ rfl ?_
 refine GOps.caseB 13 rfl (fun hg1 => ?_) (fun hg1 => ?_)
 ·try simp only [dcQ] at hg1
  exfalso; omega
 ·try simp only [dcQ] at hg1
  refine R.move ⟨rfl, rfl, rfl, rfl⟩ rfl ?_
  refine R.conv ⟨rfl, rfl, rfl, rfl⟩ rfl Tryz.underlying35 Tryz.underlying3 (wrap64_id (by omega) (by omega)) ?_
  refine R.move ⟨rfl, rfl, rfl, rfl⟩ rfl ?_
  refine R.nilCheck ⟨rfl, rfl, rfl, rfl⟩ rfl ?_
  refine R.fieldAddr ⟨rfl, rfl, rfl, rfl⟩ rfl Tryz.underlying103 rfl Tryz.sizeOf32 ?_   -- "ends"
  refine R.load1 ⟨rfl, rfl, rfl, rfl⟩ rfl Tryz.underlying32 rfl (.own' memG (by rfl)) ?_
  refine R.lenS ⟨rfl, rfl, rfl, rfl⟩ rfl rfl Tryz.underlying32 ?_
  refine R.gtr ⟨rfl, rfl, rfl, rfl⟩ rfl rfl ?_
  refine R.pick_f ⟨rfl, rfl, rfl, rfl⟩ rfl rfl ?_
  refine GOps.nil ?_
  refine GW.ite rfl (fun hc2 => ?_) (fun hc2 => ?_)
  ·try simp only [dcQ] at hc2
   exfalso; omega
  ·try simp only [dcQ] at hc2
   refine GW.skip ?_
   refine GW.seq ?_
   refine GW.region ?_
   refine R.move ⟨rfl, rfl, rfl, rfl⟩ rfl ?_
   refine R.move ⟨rfl, rfl, rfl, rfl⟩ rfl ?_
   refine GOps.weak (Keeps.refl _) (Hs.tIn _ _ _ _ _ _) ?_
   refine R.call ⟨rfl, rfl, rfl, rfl⟩ rfl (vs := [_, _]) rfl ((dict_at _ _ ts va _ Ha He b bt lim sz tab n t hr ht).mono ?_)
   rintro _ _ ⟨a, f, ⟨rfl, hrd⟩, rfl⟩
   refine R.call ⟨rfl, rfl, rfl, rfl⟩ rfl (vs := [_]) rfl ((dict_unpack _ _ t a f _ hmay hrd (Nat.le_refl _) (by omega)).mono ?_)
   rintro _ _ ⟨rfl, rfl⟩
   refine GOps.weak (Keeps.refl _) (Hs.tOut _ _ _ _ _ _) ?_
   refine R.storeAll (G1 := []) rfl rfl rfl rfl rfl Tryz.sizeOf24 rfl rfl rfl rfl ?_
   refine R.assign ⟨rfl, rfl, rfl, rfl⟩ rfl ?_
   refine GOps.nil ?_
   exact GW.ret (Out.of (resCellTmp rfl rfl rfl Tryz.underlying24 rfl Tryz.sizeOf24 (Rds.own (C := (TmC t).toArray) (by repeat (first | exact List.mem_cons_self | apply List.mem_cons_of_mem | apply List.mem_append_right | exact List.mem_append_left _ List.mem_cons_self)) 0 (TmC t) (fun j v hv => by simpa using hv)) rfl) (Hs.tl _) ⟨rfl, rfl⟩)
theorem dict_Term (w0 : World) (G H : Hp) (ts : List Tm) (lim b n : Nat) (t : Tm) (hD : Dic ts lim b H) (ht : ts[n]? = some t) : GC Tryz.prog w0 41 #[.pointer (some ⟨b, 0, none⟩), .int .u32 ((n + 1 : Nat) : Int)] (fun v G' => v = .tuple #[.agg #[.int .i64 t.kind, .string t.text, .string t.ext], .bool true] ∧ H ++ G = G') (H ++ G) := by
 obtain ⟨va, ve, Ha, He, bt, k, tab, rfl, hr, _⟩ := hD
 rw [gg_eq]
 exact dict_Term0 w0 G ts va ve Ha He b bt lim (2 ^ k) tab n t hr ht
theorem dic_len {ts : List Tm} {lim b : Nat} {H : Hp} (hD : Dic ts lim b H) (w0 : World) (G : Hp) (hs : ∀ x ∈ H, x ∈ G) : GC Tryz.prog w0 14 #[.pointer (some ⟨b, 0, none⟩)] (fun v G' => v = .int .i64 (ts.length : Nat) ∧ G = G') G := by
 obtain ⟨va, ve, Ha, He, bt, k, tab, rfl, hr, _⟩ := hD
 obtain ⟨Ae, ce, rfl, hce⟩ := hr.he.split
 exact dict_Len w0 G Ae ts.length ce va b bt lim (2 ^ k) (hs _ List.mem_cons_self)
end Go.Proofs.YtfddkcmooommeaaGreatDoor.Gl
end
section
namespace Go.Proofs.YtfddkcmooommeaaGreatDoor.Gl
open Go.RowKit Go.Shelf
set_option linter.unusedVariables false
set_option linter.unnecessarySimpa false
set_option linter.unusedSimpArgs false
attribute [-simp] List.getD_eq_getElem?_getD
def TmsAt (w0 : World) (G : Hp) (A : Option Addr) (us : List Tm) : Prop := RowAt w0 G 3 (fun t cs => cs = TmC t) A us
theorem TmsAt.mono {w0 : World} {G G' : Hp} {A : Option Addr} {us : List Tm} (h : TmsAt w0 G A us) (hs : ∀ y ∈ G, y ∈ G') : TmsAt w0 G' A us := fun i x hx => by obtain ⟨b, o, cs, h1, h2, h3⟩ := h i x hx; exact ⟨b, o, cs, h1, h2, h3.mono hs⟩
def TmOk (t : Tm) : Prop := t.text.size ≤ 1048576 ∧ t.ext.size ≤ 1048576
def numAll (us : List Tm) : List Tm := us.foldl (fun L t => (numF L t).2) []
theorem numAll_succ {us : List Tm} {i : Nat} {t : Tm} (h : us[i]? = some t) : numAll (us.take (i + 1)) = (numF (numAll (us.take i)) t).2 := by
 unfold numAll
 rw [List.take_add_one, h, List.foldl_append]
 rfl
theorem numAll_le (us : List Tm) : ∀ i, i ≤ us.length → (numAll (us.take i)).length ≤ i
 | 0, _ => by simp [numAll]
 | i + 1, h => by
  have ih := numAll_le us i (by omega)
  rw [numAll_succ (List.getElem?_eq_getElem (show i < us.length by omega))]
  have := numF_len (numAll (us.take i)) us[i]
  omega
theorem intern_num {lim : Nat} {ts : List Tm} {t : Tm} (h : ts.length < lim) : (internF lim ts t).2.2 = (numF ts t).2 := by
 unfold internF numF
 cases idxT ts t with
 | some n => rfl
 | none => simp only [if_neg (show ¬ lim ≤ ts.length by omega)]
theorem Hs.dFront (x : Nat × Know) (L D R : Hp) : Hs (x :: (L ++ (D ++ R))) (D ++ (x :: (L ++ R))) := Hs.perm (by
 have h : (D ++ (L ++ R)).Perm (L ++ (D ++ R)) := by
  rw [← List.append_assoc, ← List.append_assoc]
  exact List.Perm.append_right _ List.perm_append_comm
 exact List.perm_middle.trans (h.cons x))
theorem Hs.dBack (x : Nat × Know) (L D R : Hp) : Hs (D ++ (x :: (L ++ R))) (x :: (L ++ (D ++ R))) := Hs.perm (by
 have h : (D ++ (L ++ R)).Perm (L ++ (D ++ R)) := by
  rw [← List.append_assoc, ← List.append_assoc]
  exact List.Perm.append_right _ List.perm_append_comm
 exact (List.perm_middle.trans (h.cons x)).symm)
theorem all_take_may {us : List Tm} {i : Nat} {t : Tm} (h : us[i]? = some t) (h0 : (us.take i).all mayT = true) (ht : mayT t = true) : (us.take (i + 1)).all mayT = true := by
 rw [List.take_add_one, h, List.all_append, h0]
 simp [ht]
theorem all_not_may {us : List Tm} {i : Nat} {t : Tm} (h : us[i]? = some t) (ht : mayT t = false) : us.all mayT = false := by
 rw [List.all_eq_false]
 exact ⟨t, List.mem_of_getElem? h, by rw [ht]; simp⟩
theorem law_begin (w0 : World) (G : Hp) (uA : Option Addr) (us : List Tm) (uc : Nat) (hu : TmsAt w0 G uA us) (hm : us.length ≤ 30) (hok : ∀ t ∈ us, TmOk t) : GC Tryz.prog w0 12 #[.int .i64 1000, .slice uA us.length uc] (fun v G' => (v = .tuple #[.pointer none, .pointer none, .bool false] ∧ us.all mayT = false ∧ G = G') ∨ ∃ bD HD bW vl Hl, v = .tuple #[.pointer (some ⟨bD, 0, none⟩), .pointer (some ⟨bW, 0, none⟩), .bool true] ∧ us.all mayT = true ∧ (Dic (numAll us) 1000 bD HD ∧ SlAt 3 24 (tmsC (numAll us)) (numAll us).length vl Hl) ∧ (bW, woC vl) :: (Hl ++ (HD ++ G)) = G') G := by
 refine GC.body (args := [.int .i64 1000, .slice uA us.length uc]) Tryz.func12 rfl (by kernel_rfl) rfl ?_
 refine GW.seq ?_
 refine GW.region ?_
 refine R.assign ⟨rfl, rfl, rfl, rfl⟩ rfl ?_
 refine R.assign ⟨rfl, rfl, rfl, rfl⟩ rfl ?_
 refine R.assign ⟨rfl, rfl, rfl, rfl⟩ rfl ?_
 refine GOps.nil ?_
 refine GW.seq ?_
 refine GW.region ?_
 refine R.move ⟨rfl, rfl, rfl, rfl⟩ rfl ?_
 refine R.call ⟨rfl, rfl, rfl, rfl⟩ rfl (vs := [_]) rfl ((dict_New _ _ 1000 (by decide)).mono ?_)
 rintro _ _ ⟨bD, HD, ⟨rfl, hD⟩, rfl⟩
 refine R.build (vs := []) (cells := #[.slice none 0 0]) ⟨rfl, rfl, rfl, rfl⟩ rfl (fun w => run_build w 60 _ _ (by kernel_rfl)) ?_
 refine R.box ⟨rfl, rfl, rfl, rfl⟩ rfl fun b13 => ?_
 refine R.assign ⟨rfl, rfl, rfl, rfl⟩ rfl ?_
 refine R.assign ⟨rfl, rfl, rfl, rfl⟩ rfl ?_
 refine GOps.nil ?_
 refine GW.seq ?_
 refine GW.seq ?_
 refine GW.region ?_
 refine R.assign ⟨rfl, rfl, rfl, rfl⟩ rfl ?_
 refine GOps.nil ?_
 refine GW.block ?_
 refine GW.loop4 (fun (i : Nat) (h : Value × (Hp × Hp)) (u1 : Unit) (u2 : Unit) => [(0, .int .i64 1000), (1, .slice uA us.length uc), (7, .pointer (some ⟨bD, 0, none⟩)), (8, .pointer (some ⟨b13, 0, none⟩)), (9, .int .i64 i)]) (fun (i : Nat) (h : Value × (Hp × Hp)) (u1 : Unit) (u2 : Unit) => (b13, woC h.1) :: (h.2.1 ++ (h.2.2 ++ G))) (fun i : Nat => us.length - i) (fun (i : Nat) (h : Value × (Hp × Hp)) (u1 : Unit) (u2 : Unit) => i ≤ us.length ∧ (us.take i).all mayT = true ∧ SlAt 3 24 (tmsC (numAll (us.take i))) (numAll (us.take i)).length h.1 h.2.1 ∧ Dic (numAll (us.take i)) 1000 bD h.2.2) 0 ((.slice none 0 0, ([], HD))) (()) (())
  (by repeat (first | exact Keeps.nil _ | refine Keeps.cons rfl ?_)) (Hs.refl _) (⟨Nat.zero_le _, by simp, .nil rfl rfl, hD⟩) ?_
 rintro i h u1 u2 ⟨hi, hA, hL, hD2⟩
 obtain ⟨vl, Hl, HD2⟩ := h
 simp only at hL hD2
 have hnl := numAll_le us i hi
 refine GW.seq ?_
 refine GW.seq ?_
 refine GW.region ?_
 refine R.move ⟨rfl, rfl, rfl, rfl⟩ rfl ?_
 refine R.move ⟨rfl, rfl, rfl, rfl⟩ rfl ?_
 refine R.lenS ⟨rfl, rfl, rfl, rfl⟩ rfl rfl Tryz.underlying53 ?_
 refine R.lss ⟨rfl, rfl, rfl, rfl⟩ rfl rfl ?_
 refine GOps.nil ?_
 refine GW.ite rfl (fun hc1 => ?_) (fun hc1 => ?_)
 ·try simp only [dcQ] at hc1
  obtain ⟨u, hx⟩ : ∃ u, us[i]? = some u := ⟨_, List.getElem?_eq_getElem (by omega)⟩
  obtain ⟨ub, uo, cs0, rfl, rfl, hrd⟩ := hu i u hx
  have hk := hok u (List.mem_of_getElem? hx)
  refine GW.skip ?_
  refine GW.seq ?_
  refine GW.block ?_
  refine GW.seq ?_
  refine GW.seq ?_
  refine GW.region ?_
  refine R.move ⟨rfl, rfl, rfl, rfl⟩ rfl ?_
  refine R.move ⟨rfl, rfl, rfl, rfl⟩ rfl ?_
  refine R.indexAddrS ⟨rfl, rfl, rfl, rfl⟩ rfl rfl Tryz.underlying53 Tryz.sizeOf24 (by omega) (by omega) ?_
  refine R.loadA ⟨rfl, rfl, rfl, rfl⟩ rfl Tryz.underlying24 rfl Tryz.sizeOf24 (hrd.mono (fun y hy => by repeat (first | exact hy | apply List.mem_cons_of_mem | apply List.mem_append_right))) (by rfl) ?_
  refine R.call ⟨rfl, rfl, rfl, rfl⟩ rfl (vs := [_]) rfl ((ref_MayT _ _ u hk.1 hk.2).mono ?_)
  rintro _ _ ⟨rfl, rfl⟩
  refine R.not ⟨rfl, rfl, rfl, rfl⟩ rfl ?_
  refine GOps.nil ?_
  refine GW.ite rfl (fun hc2 => ?_) (fun hc2 => ?_)
  ·try simp only [dcQ] at hc2
   replace hc2 : mayT u = false := hc2
   refine GW.seq ?_
   refine GW.region ?_
   refine R.assign ⟨rfl, rfl, rfl, rfl⟩ rfl ?_
   refine R.assign ⟨rfl, rfl, rfl, rfl⟩ rfl ?_
   refine R.assign ⟨rfl, rfl, rfl, rfl⟩ rfl ?_
   refine GOps.nil ?_
   first | exact GW.ret (Out.of (Res.three rfl rfl rfl rfl) (Hs.sub (by repeat (first | exact List.Sublist.refl _ | apply List.Sublist.cons | refine List.Sublist.trans ?_ (List.sublist_append_right _ _)))) (.inl ⟨rfl, all_not_may hx hc2, rfl⟩)) | (have he : ((numAll us).length : Int) ≤ 1000 := (by omega); exact GW.ret (Out.of (Res.three rfl rfl rfl rfl) (Hs.refl _) (.inr ⟨bD, HD2, b13, _, Hl, by simp [he], hA, ⟨hD2, hL⟩, rfl⟩)))
  ·try simp only [dcQ] at hc2
   replace hc2 : mayT u = true := hc2
   refine GW.skip ?_
   refine GW.seq ?_
   refine GW.region ?_
   refine R.move ⟨rfl, rfl, rfl, rfl⟩ rfl ?_
   refine R.move ⟨rfl, rfl, rfl, rfl⟩ rfl ?_
   refine R.move ⟨rfl, rfl, rfl, rfl⟩ rfl ?_
   refine R.indexAddrS ⟨rfl, rfl, rfl, rfl⟩ rfl rfl Tryz.underlying53 Tryz.sizeOf24 (by omega) (by omega) ?_
   refine R.loadA ⟨rfl, rfl, rfl, rfl⟩ rfl Tryz.underlying24 rfl Tryz.sizeOf24 (hrd.mono (fun y hy => by repeat (first | exact hy | apply List.mem_cons_of_mem | apply List.mem_append_right))) (by rfl) ?_
   refine GOps.weak (Keeps.refl _) (Hs.dFront _ _ _ _) ?_
   refine R.call ⟨rfl, rfl, rfl, rfl⟩ rfl (vs := [_, _]) rfl ((dict_Intern _ _ HD2 (numAll (us.take i)) 1000 bD u hD2 hc2).mono ?_)
   rintro _ _ ⟨HD3, ⟨rfl, hD3⟩, rfl⟩
   rw [intern_num (by omega), ← numAll_succ hx] at hD3
   refine GOps.weak (Keeps.refl _) (Hs.dBack _ _ _ _) ?_
   refine GOps.nil ?_
   refine GW.region ?_
   refine R.move ⟨rfl, rfl, rfl, rfl⟩ rfl ?_
   refine R.move ⟨rfl, rfl, rfl, rfl⟩ rfl ?_
   refine R.move ⟨rfl, rfl, rfl, rfl⟩ rfl ?_
   refine R.indexAddrS ⟨rfl, rfl, rfl, rfl⟩ rfl rfl Tryz.underlying53 Tryz.sizeOf24 (by omega) (by omega) ?_
   refine R.loadA ⟨rfl, rfl, rfl, rfl⟩ rfl Tryz.underlying24 rfl Tryz.sizeOf24 (hrd.mono (fun y hy => by repeat (first | exact hy | apply List.mem_cons_of_mem | apply List.mem_append_right))) (by rfl) ?_
   refine R.call ⟨rfl, rfl, rfl, rfl⟩ rfl (vs := [_, _]) rfl ((ref_Number _ _ (numAll (us.take i)) b13 vl Hl hL (by omega) u).mono ?_)
   rintro _ _ ⟨vl3, Hl3, ⟨rfl, hL3⟩, rfl⟩
   rw [← numAll_succ hx] at hL3
   refine GOps.nil ?_
   refine GW.region ?_
   refine R.move ⟨rfl, rfl, rfl, rfl⟩ rfl ?_
   refine R.add (r := (((i + 1) : Nat) : Int)) ⟨rfl, rfl, rfl, rfl⟩ rfl rfl (by rw [wrap64_id (by omega) (by omega)]; omega) ?_
   refine R.assign ⟨rfl, rfl, rfl, rfl⟩ rfl ?_
   refine GOps.nil ?_
   exact ⟨i + 1, (vl3, (Hl3, HD3)), (), (), by omega, ⟨by omega, all_take_may hx hA hc2, hL3, hD3⟩, rfl, by repeat (first | exact Keeps.nil _ | refine Keeps.cons rfl ?_), by first | exact Hs.refl _ | exact Hs.tl _ | exact Hs.tl2 _ _⟩
 ·try simp only [dcQ] at hc1
  obtain rfl : i = us.length := by omega
  rw [List.take_length] at hA hL hD2
  rw [List.take_length] at hnl
  obtain ⟨Al, cl, rfl, hcl⟩ := hL.split
  refine GW.exit ?_
  refine GW.seq ?_
  refine GW.drawS 12 rfl (by kernel_rfl) ?_
  refine GA.val 0 rfl (V.move ⟨rfl, rfl, rfl, rfl⟩ rfl) rfl (by kernel_rfl) (by kernel_rfl) (by kernel_rfl) ?_
  refine GA.val 1 rfl (V.move ⟨rfl, rfl, rfl, rfl⟩ rfl) rfl (by kernel_rfl) (by kernel_rfl) (by kernel_rfl) ?_
  refine GA.val 2 rfl (V.move ⟨rfl, rfl, rfl, rfl⟩ rfl) rfl (by kernel_rfl) (by kernel_rfl) (by kernel_rfl) ?_
  refine GA.val 3 rfl (V.nilCheck ⟨rfl, rfl, rfl, rfl⟩ rfl) rfl (by kernel_rfl) (by kernel_rfl) (by kernel_rfl) ?_
  refine GA.val 4 rfl (V.fieldAddr ⟨rfl, rfl, rfl, rfl⟩ rfl Tryz.underlying60 rfl Tryz.sizeOf53) rfl (by kernel_rfl) (by kernel_rfl) (by kernel_rfl) ?_   -- "L"
  refine GA.val 5 rfl (V.load1 ⟨rfl, rfl, rfl, rfl⟩ rfl Tryz.underlying53 rfl (.own' memG (by rfl))) rfl (by kernel_rfl) (by kernel_rfl) (by kernel_rfl) ?_
  refine GA.val 6 rfl (V.lenS ⟨rfl, rfl, rfl, rfl⟩ rfl rfl Tryz.underlying53) rfl (by kernel_rfl) (by kernel_rfl) (by kernel_rfl) ?_
  refine GA.val 7 rfl (V.move ⟨rfl, rfl, rfl, rfl⟩ rfl) rfl (by kernel_rfl) (by kernel_rfl) (by kernel_rfl) ?_
  refine GA.val 8 rfl (V.leq ⟨rfl, rfl, rfl, rfl⟩ rfl rfl) rfl (by kernel_rfl) (by kernel_rfl) (by kernel_rfl) ?_
  refine GA.val 9 rfl (V.assign ⟨rfl, rfl, rfl, rfl⟩ rfl) rfl (by kernel_rfl) (by kernel_rfl) (by kernel_rfl) ?_
  refine GA.val 10 rfl (V.assign ⟨rfl, rfl, rfl, rfl⟩ rfl) rfl (by kernel_rfl) (by kernel_rfl) (by kernel_rfl) ?_
  refine GA.val 11 rfl (V.assign ⟨rfl, rfl, rfl, rfl⟩ rfl) rfl (by kernel_rfl) (by kernel_rfl) (by kernel_rfl) ?_
  refine GA.done (by first | exact Hs.refl _ | exact Hs.tl _ | exact Hs.tl2 _ _ | exact Hs.tl3 _ _ _ | exact Hs.app _ | exact Hs.sub (by simp)) (by kernel_rfl) ?_
  first | exact GW.ret (Out.of (Res.three rfl rfl rfl rfl) (Hs.sub (by repeat (first | exact List.Sublist.refl _ | apply List.Sublist.cons | refine List.Sublist.trans ?_ (List.sublist_append_right _ _)))) (.inl ⟨rfl, all_not_may hx hc2, rfl⟩)) | (have he : ((numAll us).length : Int) ≤ 1000 := (by omega); exact GW.ret (Out.of (Res.three rfl rfl rfl rfl) (Hs.refl _) (.inr ⟨bD, HD2, b13, _, Hl, by simp [he], hA, ⟨hD2, hL⟩, rfl⟩)))
def plEq (a b : Pl) : Bool := a.var == b.var && ((a.id : Int) == (b.id : Int) && true)
def rwEq (a b : Rw) : Bool := plEq a.p0 b.p0 && (plEq a.p1 b.p1 && plEq a.p2 b.p2)
def stEq (a b : St) : Bool := a.kind == b.kind && (rwEq a.row b.row && (plEq a.a b.a && (plEq a.b b.b && true)))
theorem run_eqPl (d : Nat) (a b : Pl) (w : World) : (Op.equalIn (d + 2) 37 (.agg (PlC a).toArray) (.agg (PlC b).toArray)).run Tryz.prog w = .ok (plEq a b) w := by
 refine eqA_struct Tryz.underlying37 (by kernel_rfl) ?_
 refine eqF_cons (by rfl) (run_part1 Tryz.underlying3 rfl rfl) (run_part1 Tryz.underlying3 rfl rfl) (run_equalIn_int Tryz.underlying3 _ _ _ _) ?_
 refine eqF_cons (by rfl) (run_part1 Tryz.underlying35 rfl rfl) (run_part1 Tryz.underlying35 rfl rfl) (run_equalIn_int Tryz.underlying35 _ _ _ _) ?_
 exact eqF_nil
theorem run_eqRw (d : Nat) (a b : Rw) (w : World) : (Op.equalIn (d + 3) 38 (.agg (RwC a).toArray) (.agg (RwC b).toArray)).run Tryz.prog w = .ok (rwEq a b) w :=
 eqA_array3 Tryz.underlying38 Tryz.sizeOf37 (run_partA Tryz.underlying37 rfl Tryz.sizeOf37) (run_partA Tryz.underlying37 rfl Tryz.sizeOf37) (run_eqPl d a.p0 b.p0 w)
  (run_partA Tryz.underlying37 rfl Tryz.sizeOf37) (run_partA Tryz.underlying37 rfl Tryz.sizeOf37) (run_eqPl d a.p1 b.p1 w)
  (run_partA Tryz.underlying37 rfl Tryz.sizeOf37) (run_partA Tryz.underlying37 rfl Tryz.sizeOf37) (run_eqPl d a.p2 b.p2 w)
theorem run_eqSt (d : Nat) (a b : St) (w : World) : (Op.equalIn (d + 4) 50 (.agg (StC a).toArray) (.agg (StC b).toArray)).run Tryz.prog w = .ok (stEq a b) w := by
 refine eqA_struct Tryz.underlying50 (by kernel_rfl) ?_
 refine eqF_cons (by rfl) (run_part1 Tryz.underlying48 rfl rfl) (run_part1 Tryz.underlying48 rfl rfl) (run_equalIn_int Tryz.underlying48 _ _ _ _) ?_
 refine eqF_cons (by rfl) (run_partA Tryz.underlying38 rfl Tryz.sizeOf38) (run_partA Tryz.underlying38 rfl Tryz.sizeOf38) (run_eqRw d a.row b.row w) ?_
 refine eqF_cons (by rfl) (run_partA Tryz.underlying37 rfl Tryz.sizeOf37) (run_partA Tryz.underlying37 rfl Tryz.sizeOf37) (run_eqPl (d + 1) a.a b.a w) ?_
 refine eqF_cons (by rfl) (run_partA Tryz.underlying37 rfl Tryz.sizeOf37) (run_partA Tryz.underlying37 rfl Tryz.sizeOf37) (run_eqPl (d + 1) a.b b.b w) ?_
 exact eqF_nil
theorem plEq_self (a : Pl) : plEq a a = true := by simp [plEq]
theorem rwEq_self (a : Rw) : rwEq a a = true := by simp [rwEq, plEq_self]
theorem stEq_self (a : St) : stEq a a = true := by simp [stEq, rwEq_self, plEq_self]
theorem g38 : Tryz.prog.eqGuardType Tryz.prog.depth 38 = false := by kernel_rfl
theorem g50 : Tryz.prog.eqGuardType Tryz.prog.depth 50 = false := by kernel_rfl
theorem ref_SameP0 (w0 : World) (G : Hp) (h : Rw) (n : Nat) (xs : List St) (A B : Option Addr) (c e : Nat) (ha : StsAt w0 G A xs) (hb : StsAt w0 G B xs) (hm : xs.length ≤ 100000) (hx : xs.length ≤ c) (hy : xs.length ≤ e) : GC Tryz.prog w0 13 #[.agg (planC h (.slice A xs.length c) n).toArray, .agg (planC h (.slice B xs.length e) n).toArray] (fun v G' => v = .bool true ∧ G = G') G := by
 refine GC.body (args := [.agg (planC h (.slice A xs.length c) n).toArray, .agg (planC h (.slice B xs.length e) n).toArray]) Tryz.func13 rfl (by kernel_rfl) rfl ?_
 refine GW.seq ?_
 refine GW.region ?_
 refine R.box ⟨rfl, rfl, rfl, rfl⟩ rfl fun b2 => ?_
 refine R.box ⟨rfl, rfl, rfl, rfl⟩ rfl fun b3 => ?_
 refine R.assign ⟨rfl, rfl, rfl, rfl⟩ rfl ?_
 refine GOps.nil ?_
 refine GW.seq ?_
 refine GW.seq ?_
 refine GW.region ?_
 refine R.fieldAddr ⟨rfl, rfl, rfl, rfl⟩ rfl Tryz.underlying41 rfl Tryz.sizeOf3 ?_   -- "Vars"
 refine R.load1 ⟨rfl, rfl, rfl, rfl⟩ rfl Tryz.underlying3 rfl (.own (by repeat (first | exact List.mem_cons_self | apply List.mem_cons_of_mem | apply List.mem_append_right | exact List.mem_append_left _ List.mem_cons_self)) rfl) ?_
 refine R.fieldAddr ⟨rfl, rfl, rfl, rfl⟩ rfl Tryz.underlying41 rfl Tryz.sizeOf3 ?_   -- "Vars"
 refine R.load1 ⟨rfl, rfl, rfl, rfl⟩ rfl Tryz.underlying3 rfl (.own (by repeat (first | exact List.mem_cons_self | apply List.mem_cons_of_mem | apply List.mem_append_right | exact List.mem_append_left _ List.mem_cons_self)) rfl) ?_
 refine R.neI ⟨rfl, rfl, rfl, rfl⟩ rfl rfl ?_
 refine R.move ⟨rfl, rfl, rfl, rfl⟩ rfl ?_
 refine GOps.caseB 11 rfl (fun hg1 => ?_) (fun hg1 => ?_)
 ·try simp only [dcQ] at hg1
  exact absurd rfl hg1
 ·try simp only [dcQ] at hg1
  refine R.fieldAddr ⟨rfl, rfl, rfl, rfl⟩ rfl Tryz.underlying41 rfl Tryz.sizeOf38 ?_   -- "Head"
  refine R.load_own (cs := RwC h) ⟨rfl, rfl, rfl, rfl⟩ rfl Tryz.underlying38 rfl Tryz.sizeOf38 memG (by rfl) (by rfl) ?_
  refine R.fieldAddr ⟨rfl, rfl, rfl, rfl⟩ rfl Tryz.underlying41 rfl Tryz.sizeOf38 ?_   -- "Head"
  refine R.load_own (cs := RwC h) ⟨rfl, rfl, rfl, rfl⟩ rfl Tryz.underlying38 rfl Tryz.sizeOf38 memG (by rfl) (by rfl) ?_
  refine R.neA ⟨rfl, rfl, rfl, rfl⟩ rfl rfl (guard_of g38) (equal_of 9990 rfl (fun w => run_eqRw 9997 h h w)) ?_
  refine R.pick_f ⟨rfl, rfl, rfl, rfl⟩ rfl rfl ?_
  refine R.move ⟨rfl, rfl, rfl, rfl⟩ rfl ?_
  refine GOps.caseB 18 rfl (fun hg2 => ?_) (fun hg2 => ?_)
  ·try simp only [dcQ] at hg2
   exfalso; rw [rwEq_self] at hg2; simp at hg2
  ·try simp only [dcQ] at hg2
   refine R.fieldAddr ⟨rfl, rfl, rfl, rfl⟩ rfl Tryz.underlying41 rfl Tryz.sizeOf39 ?_   -- "Steps"
   refine R.load1 ⟨rfl, rfl, rfl, rfl⟩ rfl Tryz.underlying39 rfl (.own (by repeat (first | exact List.mem_cons_self | apply List.mem_cons_of_mem | apply List.mem_append_right | exact List.mem_append_left _ List.mem_cons_self)) rfl) ?_
   refine R.lenS ⟨rfl, rfl, rfl, rfl⟩ rfl rfl Tryz.underlying39 ?_
   refine R.fieldAddr ⟨rfl, rfl, rfl, rfl⟩ rfl Tryz.underlying41 rfl Tryz.sizeOf39 ?_   -- "Steps"
   refine R.load1 ⟨rfl, rfl, rfl, rfl⟩ rfl Tryz.underlying39 rfl (.own (by repeat (first | exact List.mem_cons_self | apply List.mem_cons_of_mem | apply List.mem_append_right | exact List.mem_append_left _ List.mem_cons_self)) rfl) ?_
   refine R.lenS ⟨rfl, rfl, rfl, rfl⟩ rfl rfl Tryz.underlying39 ?_
   refine R.neI ⟨rfl, rfl, rfl, rfl⟩ rfl rfl ?_
   refine R.pick_f ⟨rfl, rfl, rfl, rfl⟩ rfl rfl ?_
   refine GOps.nil ?_
   refine GW.ite rfl (fun hc3 => ?_) (fun hc3 => ?_)
   ·try simp only [dcQ] at hc3
    exfalso; omega
   ·try simp only [dcQ] at hc3
    refine GW.skip ?_
    refine GW.seq ?_
    refine GW.seq ?_
    refine GW.region ?_
    refine R.assign ⟨rfl, rfl, rfl, rfl⟩ rfl ?_
    refine GOps.nil ?_
    refine GW.block ?_
    refine GW.loopI (fun i : Nat => [(2, .pointer (some ⟨b2, 0, none⟩)), (3, .pointer (some ⟨b3, 0, none⟩)), (5, .int .i64 i)]) (fun i => (b3, .exact (.cells (Value.agg (planC h (.slice B xs.length e) n).toArray).cells 41 (0, 0))) :: (b2, .exact (.cells (Value.agg (planC h (.slice A xs.length c) n).toArray).cells 41 (0, 0))) :: G) (fun i => xs.length - i) (fun i => i ≤ xs.length) 0
     (by repeat (first | exact Keeps.nil _ | refine Keeps.cons rfl ?_)) (Hs.refl _) (Nat.zero_le _) ?_
    rintro i hi
    refine GW.seq ?_
    refine GW.seq ?_
    refine GW.region ?_
    refine R.move ⟨rfl, rfl, rfl, rfl⟩ rfl ?_
    refine R.fieldAddr ⟨rfl, rfl, rfl, rfl⟩ rfl Tryz.underlying41 rfl Tryz.sizeOf39 ?_   -- "Steps"
    refine R.load1 ⟨rfl, rfl, rfl, rfl⟩ rfl Tryz.underlying39 rfl (.own (by repeat (first | exact List.mem_cons_self | apply List.mem_cons_of_mem | apply List.mem_append_right | exact List.mem_append_left _ List.mem_cons_self)) rfl) ?_
    refine R.lenS ⟨rfl, rfl, rfl, rfl⟩ rfl rfl Tryz.underlying39 ?_
    refine R.lss ⟨rfl, rfl, rfl, rfl⟩ rfl rfl ?_
    refine GOps.nil ?_
    refine GW.ite rfl (fun hc4 => ?_) (fun hc4 => ?_)
    ·try simp only [dcQ] at hc4
     obtain ⟨s, hs⟩ : ∃ s, xs[i]? = some s := ⟨_, List.getElem?_eq_getElem (by omega)⟩
     obtain ⟨sb, so, cs0, rfl, rfl, hrd⟩ := ha i s hs
     obtain ⟨tb, to, cs1, rfl, rfl, hre⟩ := hb i s hs
     refine GW.skip ?_
     refine GW.seq ?_
     refine GW.block ?_
     refine GW.seq ?_
     refine GW.drawS 11 rfl (by kernel_rfl) ?_
     refine GA.val 0 rfl (V.fieldAddr ⟨rfl, rfl, rfl, rfl⟩ rfl Tryz.underlying41 rfl Tryz.sizeOf39) rfl (by kernel_rfl) (by kernel_rfl) (by kernel_rfl) ?_   -- "Steps"
     refine GA.val 1 rfl (V.load1 ⟨rfl, rfl, rfl, rfl⟩ rfl Tryz.underlying39 rfl (.own (by repeat (first | exact List.mem_cons_self | apply List.mem_cons_of_mem | apply List.mem_append_right | exact List.mem_append_left _ List.mem_cons_self)) rfl)) rfl (by kernel_rfl) (by kernel_rfl) (by kernel_rfl) ?_
     refine GA.val 2 rfl (V.move ⟨rfl, rfl, rfl, rfl⟩ rfl) rfl (by kernel_rfl) (by kernel_rfl) (by kernel_rfl) ?_
     refine GA.val 3 rfl (V.indexAddrS ⟨rfl, rfl, rfl, rfl⟩ rfl rfl Tryz.underlying39 Tryz.sizeOf50 (by omega) (by omega)) rfl (by kernel_rfl) (by kernel_rfl) (by kernel_rfl) ?_
     refine GA.val 4 rfl (V.loadA ⟨rfl, rfl, rfl, rfl⟩ rfl Tryz.underlying50 rfl Tryz.sizeOf50 (hrd.mono (fun y hy => by repeat (first | exact hy | apply List.mem_cons_of_mem | apply List.mem_append_right))) (by rfl)) rfl (by kernel_rfl) (by kernel_rfl) (by kernel_rfl) ?_
     refine GA.val 5 rfl (V.fieldAddr ⟨rfl, rfl, rfl, rfl⟩ rfl Tryz.underlying41 rfl Tryz.sizeOf39) rfl (by kernel_rfl) (by kernel_rfl) (by kernel_rfl) ?_   -- "Steps"
     refine GA.val 6 rfl (V.load1 ⟨rfl, rfl, rfl, rfl⟩ rfl Tryz.underlying39 rfl (.own (by repeat (first | exact List.mem_cons_self | apply List.mem_cons_of_mem | apply List.mem_append_right | exact List.mem_append_left _ List.mem_cons_self)) rfl)) rfl (by kernel_rfl) (by kernel_rfl) (by kernel_rfl) ?_
     refine GA.val 7 rfl (V.move ⟨rfl, rfl, rfl, rfl⟩ rfl) rfl (by kernel_rfl) (by kernel_rfl) (by kernel_rfl) ?_
     refine GA.val 8 rfl (V.indexAddrS ⟨rfl, rfl, rfl, rfl⟩ rfl rfl Tryz.underlying39 Tryz.sizeOf50 (by omega) (by omega)) rfl (by kernel_rfl) (by kernel_rfl) (by kernel_rfl) ?_
     refine GA.val 9 rfl (V.loadA ⟨rfl, rfl, rfl, rfl⟩ rfl Tryz.underlying50 rfl Tryz.sizeOf50 (hre.mono (fun y hy => by repeat (first | exact hy | apply List.mem_cons_of_mem | apply List.mem_append_right))) (by rfl)) rfl (by kernel_rfl) (by kernel_rfl) (by kernel_rfl) ?_
     refine GA.val 10 rfl (V.neA ⟨rfl, rfl, rfl, rfl⟩ rfl rfl (guard_of g50) (equal_of 9990 rfl (fun w => run_eqSt 9996 s s w))) rfl (by kernel_rfl) (by kernel_rfl) (by kernel_rfl) ?_
     refine GA.done (by first | exact Hs.refl _ | exact Hs.tl _ | exact Hs.tl2 _ _ | exact Hs.tl3 _ _ _ | exact Hs.app _ | exact Hs.sub (by simp)) (by kernel_rfl) ?_
     refine GW.ite rfl (fun hc5 => ?_) (fun hc5 => ?_)
     ·try simp only [dcQ] at hc5
      exfalso; rw [stEq_self] at hc5; simp at hc5
     ·try simp only [dcQ] at hc5
      refine GW.skip ?_
      refine GW.region ?_
      refine R.move ⟨rfl, rfl, rfl, rfl⟩ rfl ?_
      refine R.add (r := (((i + 1) : Nat) : Int)) ⟨rfl, rfl, rfl, rfl⟩ rfl rfl (by rw [wrap64_id (by omega) (by omega)]; omega) ?_
      refine R.assign ⟨rfl, rfl, rfl, rfl⟩ rfl ?_
      refine GOps.nil ?_
      exact ⟨i + 1, by omega, by omega, rfl, by repeat (first | exact Keeps.nil _ | refine Keeps.cons rfl ?_), by first | exact Hs.refl _ | exact Hs.tl _ | exact Hs.tl2 _ _⟩
    ·try simp only [dcQ] at hc4
     refine GW.exit ?_
     refine GW.seq ?_
     refine GW.region ?_
     refine R.assign ⟨rfl, rfl, rfl, rfl⟩ rfl ?_
     refine GOps.nil ?_
     exact GW.ret (Out.of (Res.one rfl rfl) (Hs.tl2 _ _) ⟨rfl, rfl⟩)
theorem ref_SameP (w0 : World) (G : Hp) {h h' : Rw} {n n' : Nat} {xs ys : List St} (A B : Option Addr) (c e : Nat) (ha : StsAt w0 G A xs) (hb : StsAt w0 G B ys) (hm : xs.length ≤ 100000) (hx : xs.length ≤ c) (hy : ys.length ≤ e) (e1 : h = h') (e2 : n = n') (e3 : xs = ys) : GC Tryz.prog w0 13 #[.agg (planC h (.slice A xs.length c) n).toArray, .agg (planC h' (.slice B ys.length e) n').toArray] (fun v G' => v = .bool true ∧ G = G') G := by
 subst e1 e2 e3
 exact ref_SameP0 w0 G h n xs A B c e ha hb hm hx hy
theorem law_numbered0 (w0 : World) (G : Hp) (ts : List Tm) (lim bD bW : Nat) (HD : Hp) (vl : Value) (Hl : Hp) (hD : Dic ts lim bD HD) (hL : SlAt 3 24 (tmsC (ts)) (ts).length vl Hl) (hm : ts.length ≤ 100000) : GC Tryz.prog w0 18 #[.pointer (some ⟨bD, 0, none⟩), .pointer (some ⟨bW, 0, none⟩)] (fun v G' => v = .bool true ∧ G = G') ((bW, woC vl) :: (Hl ++ (HD ++ G))) := by
 obtain ⟨Al, cl, rfl, hts, hcl⟩ := SlAt.flat w0 [] tm_len hL
 rw [List.append_nil] at hts
 refine GC.body (args := [.pointer (some ⟨bD, 0, none⟩), .pointer (some ⟨bW, 0, none⟩)]) Tryz.func18 rfl (by kernel_rfl) rfl ?_
 refine GW.seq ?_
 refine GW.region ?_
 refine R.assign ⟨rfl, rfl, rfl, rfl⟩ rfl ?_
 refine GOps.nil ?_
 refine GW.seq ?_
 refine GW.seq ?_
 refine GW.region ?_
 refine R.assign ⟨rfl, rfl, rfl, rfl⟩ rfl ?_
 refine GOps.nil ?_
 refine GW.block ?_
 refine GW.loopI (fun i : Nat => [(0, .pointer (some ⟨bD, 0, none⟩)), (1, .pointer (some ⟨bW, 0, none⟩)), (5, .int .i64 i)]) (fun i => (bW, woC (.slice Al ts.length cl)) :: (Hl ++ (HD ++ G))) (fun i => ts.length - i) (fun i => i ≤ ts.length) 0
  (by repeat (first | exact Keeps.nil _ | refine Keeps.cons rfl ?_)) (Hs.refl _) (Nat.zero_le _) ?_
 rintro i hi
 refine GW.seq ?_
 refine GW.seq ?_
 refine GW.region ?_
 refine R.move ⟨rfl, rfl, rfl, rfl⟩ rfl ?_
 refine R.move ⟨rfl, rfl, rfl, rfl⟩ rfl ?_
 refine R.nilCheck ⟨rfl, rfl, rfl, rfl⟩ rfl ?_
 refine R.fieldAddr ⟨rfl, rfl, rfl, rfl⟩ rfl Tryz.underlying60 rfl Tryz.sizeOf53 ?_   -- "L"
 refine R.load1 ⟨rfl, rfl, rfl, rfl⟩ rfl Tryz.underlying53 rfl (.own (by repeat (first | exact List.mem_cons_self | apply List.mem_cons_of_mem | apply List.mem_append_right | exact List.mem_append_left _ List.mem_cons_self)) rfl) ?_
 refine R.lenS ⟨rfl, rfl, rfl, rfl⟩ rfl rfl Tryz.underlying53 ?_
 refine R.lss ⟨rfl, rfl, rfl, rfl⟩ rfl rfl ?_
 refine GOps.nil ?_
 refine GW.ite rfl (fun hc1 => ?_) (fun hc1 => ?_)
 ·try simp only [dcQ] at hc1
  obtain ⟨t, hx⟩ : ∃ t, ts[i]? = some t := ⟨_, List.getElem?_eq_getElem (by omega)⟩
  obtain ⟨tb, to, cs0, rfl, rfl, hrd⟩ := hts i t hx
  refine GW.skip ?_
  refine GW.seq ?_
  refine GW.block ?_
  refine GW.seq ?_
  refine GW.region ?_
  refine R.move ⟨rfl, rfl, rfl, rfl⟩ rfl ?_
  refine R.move ⟨rfl, rfl, rfl, rfl⟩ rfl ?_
  refine R.add (r := (((i + 1) : Nat) : Int)) ⟨rfl, rfl, rfl, rfl⟩ rfl rfl (by rw [wrap64_id (by omega) (by omega)]; omega) ?_
  refine R.conv (r := ((i + 1 : Nat) : Int)) ⟨rfl, rfl, rfl, rfl⟩ rfl Tryz.underlying3 Tryz.underlying35 (u32_id _ (by omega)) ?_
  refine GOps.weak (Keeps.refl _) (Hs.dFront _ _ _ _) ?_
  refine R.call ⟨rfl, rfl, rfl, rfl⟩ rfl (vs := [_, _]) rfl ((dict_Term _ _ HD ts lim bD i t hD hx).mono ?_)
  rintro _ _ ⟨rfl, rfl⟩
  refine GOps.weak (Keeps.refl _) (Hs.dBack _ _ _ _) ?_
  refine R.move ⟨rfl, rfl, rfl, rfl⟩ rfl ?_
  refine R.extract ⟨rfl, rfl, rfl, rfl⟩ rfl rfl ?_
  refine R.extract ⟨rfl, rfl, rfl, rfl⟩ rfl rfl ?_
  refine R.alloc ⟨rfl, rfl, rfl, rfl⟩ Tryz.zeroValue24 fun b6 => ?_
  refine R.storeAll (G1 := []) rfl rfl rfl rfl rfl Tryz.sizeOf24 rfl rfl rfl rfl ?_
  refine R.assign ⟨rfl, rfl, rfl, rfl⟩ rfl ?_
  refine GOps.nil ?_
  refine GW.seq ?_
  refine GW.drawS 13 rfl (by kernel_rfl) ?_
  refine GA.val 0 rfl (V.move ⟨rfl, rfl, rfl, rfl⟩ rfl) rfl (by kernel_rfl) (by kernel_rfl) (by kernel_rfl) ?_
  refine GA.val 1 rfl (V.not ⟨rfl, rfl, rfl, rfl⟩ rfl) rfl (by kernel_rfl) (by kernel_rfl) (by kernel_rfl) ?_
  refine GA.val 2 rfl (V.move ⟨rfl, rfl, rfl, rfl⟩ rfl) rfl (by kernel_rfl) (by kernel_rfl) (by kernel_rfl) ?_
  refine GA.caseB 27 rfl (fun hg2 => ?_) (fun hg2 => ?_)
  ·try simp only [dcQ] at hg2
   exfalso; simp at hg2
  ·try simp only [dcQ] at hg2
   refine GA.val 3 rfl (V.load_own (cs := TmC t) ⟨rfl, rfl, rfl, rfl⟩ rfl Tryz.underlying24 rfl Tryz.sizeOf24 memG (by rfl) (by rfl)) rfl (by kernel_rfl) (by kernel_rfl) (by kernel_rfl) ?_
   refine GA.val 4 rfl (V.move ⟨rfl, rfl, rfl, rfl⟩ rfl) rfl (by kernel_rfl) (by kernel_rfl) (by kernel_rfl) ?_
   refine GA.val 5 rfl (V.nilCheck ⟨rfl, rfl, rfl, rfl⟩ rfl) rfl (by kernel_rfl) (by kernel_rfl) (by kernel_rfl) ?_
   refine GA.val 6 rfl (V.fieldAddr ⟨rfl, rfl, rfl, rfl⟩ rfl Tryz.underlying60 rfl Tryz.sizeOf53) rfl (by kernel_rfl) (by kernel_rfl) (by kernel_rfl) ?_   -- "L"
   refine GA.val 7 rfl (V.load1 ⟨rfl, rfl, rfl, rfl⟩ rfl Tryz.underlying53 rfl (.own (by repeat (first | exact List.mem_cons_self | apply List.mem_cons_of_mem | apply List.mem_append_right | exact List.mem_append_left _ List.mem_cons_self)) rfl)) rfl (by kernel_rfl) (by kernel_rfl) (by kernel_rfl) ?_
   refine GA.val 8 rfl (V.move ⟨rfl, rfl, rfl, rfl⟩ rfl) rfl (by kernel_rfl) (by kernel_rfl) (by kernel_rfl) ?_
   refine GA.val 9 rfl (V.indexAddrS ⟨rfl, rfl, rfl, rfl⟩ rfl rfl Tryz.underlying53 Tryz.sizeOf24 (by omega) (by omega)) rfl (by kernel_rfl) (by kernel_rfl) (by kernel_rfl) ?_
   refine GA.val 10 rfl (V.loadA ⟨rfl, rfl, rfl, rfl⟩ rfl Tryz.underlying24 rfl Tryz.sizeOf24 (hrd.mono (fun y hy => by repeat (first | exact List.mem_append_left _ hy | exact hy | apply List.mem_cons_of_mem | apply List.mem_append_right))) (by rfl)) rfl (by kernel_rfl) (by kernel_rfl) (by kernel_rfl) ?_
   refine GA.val 11 rfl (V.neA ⟨rfl, rfl, rfl, rfl⟩ rfl rfl (guard_of g24) (equal_of 9990 rfl (fun w => run_eqTm 9998 t t w))) rfl (by kernel_rfl) (by kernel_rfl) (by kernel_rfl) ?_
   refine GA.val 12 rfl (V.pick_f ⟨rfl, rfl, rfl, rfl⟩ rfl rfl) rfl (by kernel_rfl) (by kernel_rfl) (by kernel_rfl) ?_
   refine GA.done (by first | exact Hs.refl _ | exact Hs.tl _ | exact Hs.tl2 _ _ | exact Hs.tl3 _ _ _ | exact Hs.app _ | exact Hs.sub (by simp)) (by kernel_rfl) ?_
   refine GW.ite rfl (fun hc3 => ?_) (fun hc3 => ?_)
   ·try simp only [dcQ] at hc3
    exfalso; rw [tmEq_iff.2 rfl] at hc3; simp at hc3
   ·try simp only [dcQ] at hc3
    refine GW.skip ?_
    refine GW.region ?_
    refine R.move ⟨rfl, rfl, rfl, rfl⟩ rfl ?_
    refine R.add (r := (((i + 1) : Nat) : Int)) ⟨rfl, rfl, rfl, rfl⟩ rfl rfl (by rw [wrap64_id (by omega) (by omega)]; omega) ?_
    refine R.assign ⟨rfl, rfl, rfl, rfl⟩ rfl ?_
    refine GOps.nil ?_
    exact ⟨i + 1, by omega, by omega, rfl, by repeat (first | exact Keeps.nil _ | refine Keeps.cons rfl ?_), by first | exact Hs.refl _ | exact Hs.tl _ | exact Hs.tl2 _ _⟩
 ·try simp only [dcQ] at hc1
  refine GW.exit ?_
  refine GW.seq ?_
  refine GW.drawS 9 rfl (by kernel_rfl) ?_
  refine GA.val 0 rfl (V.move ⟨rfl, rfl, rfl, rfl⟩ rfl) rfl (by kernel_rfl) (by kernel_rfl) (by kernel_rfl) ?_
  refine GA.val 2 rfl (V.move ⟨rfl, rfl, rfl, rfl⟩ rfl) rfl (by kernel_rfl) (by kernel_rfl) (by kernel_rfl) ?_
  refine GA.val 3 rfl (V.nilCheck ⟨rfl, rfl, rfl, rfl⟩ rfl) rfl (by kernel_rfl) (by kernel_rfl) (by kernel_rfl) ?_
  refine GA.val 4 rfl (V.fieldAddr ⟨rfl, rfl, rfl, rfl⟩ rfl Tryz.underlying60 rfl Tryz.sizeOf53) rfl (by kernel_rfl) (by kernel_rfl) (by kernel_rfl) ?_   -- "L"
  refine GA.val 5 rfl (V.load1 ⟨rfl, rfl, rfl, rfl⟩ rfl Tryz.underlying53 rfl (.own (by repeat (first | exact List.mem_cons_self | apply List.mem_cons_of_mem | apply List.mem_append_right | exact List.mem_append_left _ List.mem_cons_self)) rfl)) rfl (by kernel_rfl) (by kernel_rfl) (by kernel_rfl) ?_
  refine GA.val 6 rfl (V.lenS ⟨rfl, rfl, rfl, rfl⟩ rfl rfl Tryz.underlying53) rfl (by kernel_rfl) (by kernel_rfl) (by kernel_rfl) ?_
  refine GA.one 1 (by first | exact Hs.refl _ | exact Hs.tl _ | exact Hs.tl2 _ _ | exact Hs.tl3 _ _ _ | exact Hs.app _ | exact Hs.sub (by simp)) (by kernel_rfl) rfl ?_
  refine R.call ⟨rfl, rfl, rfl, rfl⟩ rfl (vs := [_]) rfl ((dic_len hD _ _ (fun x hx => List.mem_cons_of_mem _ (List.mem_append_right _ (List.mem_append_left _ hx)))).mono ?_)
  rintro _ _ ⟨rfl, rfl⟩
  refine GOps.nil ?_
  refine GA.val 7 rfl (V.eqI ⟨rfl, rfl, rfl, rfl⟩ rfl rfl) rfl (by kernel_rfl) (by kernel_rfl) (by kernel_rfl) ?_
  refine GA.val 8 rfl (V.assign ⟨rfl, rfl, rfl, rfl⟩ rfl) rfl (by kernel_rfl) (by kernel_rfl) (by kernel_rfl) ?_
  refine GA.done (by first | exact Hs.refl _ | exact Hs.tl _ | exact Hs.tl2 _ _ | exact Hs.tl3 _ _ _ | exact Hs.app _ | exact Hs.sub (by simp)) (by kernel_rfl) ?_
  exact GW.ret (Out.of (Res.one rfl rfl) (by exact Hs.sub (by repeat (first | exact List.Sublist.refl _ | apply List.Sublist.cons | refine List.Sublist.trans ?_ (List.sublist_append_right _ _)))) ⟨by simp, rfl⟩)
theorem law_numbered (w0 : World) (G : Hp) {ts L : List Tm} (lim bD bW : Nat) (HD : Hp) (vl : Value) (Hl : Hp) (hD : Dic ts lim bD HD) (hL : SlAt 3 24 (tmsC L) L.length vl Hl) (hm : ts.length ≤ 100000) (e : ts = L) : GC Tryz.prog w0 18 #[.pointer (some ⟨bD, 0, none⟩), .pointer (some ⟨bW, 0, none⟩)] (fun v G' => v = .bool true ∧ G = G') ((bW, woC vl) :: (Hl ++ (HD ++ G))) := by
 subst e
 exact law_numbered0 w0 G ts lim bD bW HD vl Hl hD hL hm
end Go.Proofs.YtfddkcmooommeaaGreatDoor.Gl
end
section
namespace Go.Proofs.YtfddkcmooommeaaGreatDoor.Gl
open Go.RowKit Go.Shelf
set_option linter.unusedVariables false
set_option linter.unnecessarySimpa false
set_option linter.unusedSimpArgs false
attribute [-simp] List.getD_eq_getElem?_getD
def mkS (g : List Bool) (s : St) : List Bool := if s.kind = 1 then markTo g s.row 3 else g
def mkA (g : List Bool) (o : List St) : List Bool := o.foldl mkS g
def chk : List Bool → List St → Prop
 | _, [] => True
 | g, s :: o => (¬ s.kind = 1 → readyF g s = true) ∧ chk (mkS g s) o
theorem mkA_app (g : List Bool) (o o' : List St) : mkA g (o ++ o') = mkA (mkA g o) o' := List.foldl_append
theorem chk_app : ∀ (o : List St) (g : List Bool) (o' : List St), chk g o → chk (mkA g o) o' → chk g (o ++ o')
 | [], _, _, _, h => h
 | s :: o, g, o', h1, h2 => ⟨h1.1, chk_app o (mkS g s) o' h1.2 h2⟩
theorem chk_ready : ∀ (o : List St) (g : List Bool), (∀ s ∈ o, ¬ s.kind = 1 ∧ readyF g s = true) → chk g o ∧ mkA g o = g
 | [], _, _ => ⟨trivial, rfl⟩
 | s :: o, g, h => by
  have hs := h s List.mem_cons_self
  have e : mkS g s = g := if_neg hs.1
  obtain ⟨h1, h2⟩ := chk_ready o g (fun t ht => h t (List.mem_cons_of_mem _ ht))
  exact ⟨⟨fun _ => hs.2, by rw [e]; exact h1⟩, by show mkA (mkS g s) o = g; rw [e]; exact h2⟩
structure ChkQ (g0 : List Bool) (q : RS) : Prop where
 c : chk g0 q.o
 k : mkA g0 q.o = q.kn
 w : ∀ s ∈ q.w, ¬ s.kind = 1
theorem ChkQ.flush {g0 : List Bool} {q : RS} (h : ChkQ g0 q) : ChkQ g0 (flushR q) := by
 have hr := chk_ready (q.w.filter (readyF q.kn)) q.kn (fun s hs => ⟨h.w s (List.mem_filter.1 hs).1, (List.mem_filter.1 hs).2⟩)
 refine ⟨?_, ?_, fun s hs => h.w s (List.mem_filter.1 hs).1⟩
 ·show chk g0 (q.o ++ q.w.filter (readyF q.kn))
  exact chk_app _ _ _ h.c (by rw [h.k]; exact hr.1)
 ·show mkA g0 (q.o ++ q.w.filter (readyF q.kn)) = q.kn
  rw [mkA_app, h.k, hr.2]
theorem ChkQ.take {g0 : List Bool} {q : RS} {ms : List St} {z : Int} (h : ChkQ g0 q) (hm : (ms.getD z.toNat zSt).kind = 1) : ChkQ g0 (takeR ms q z) := by
 refine ChkQ.flush ⟨?_, ?_, h.w⟩
 ·exact chk_app _ _ _ h.c ⟨fun hk => absurd hm hk, trivial⟩
 ·show mkA g0 (q.o ++ [ms.getD z.toNat zSt]) = markTo q.kn (ms.getD z.toNat zSt).row 3
  rw [mkA_app, h.k]
  exact if_pos hm
theorem ChkQ.run {g0 : List Bool} {ms : List St} {q : RS} {ord : List Int} (h : ChkQ g0 q) (hm : ∀ z ∈ ord, (ms.getD z.toNat zSt).kind = 1) : ∀ i, i ≤ ord.length → ChkQ g0 (runTo ms q ord i)
 | 0, _ => h.flush
 | i + 1, hi => by
  obtain ⟨z, hz⟩ : ∃ z, ord[i]? = some z := ⟨_, List.getElem?_eq_getElem (by omega)⟩
  rw [runTo_succ hz]
  exact (ChkQ.run h hm i (by omega)).take (hm z (List.mem_of_getElem? hz))
end Go.Proofs.YtfddkcmooommeaaGreatDoor.Gl
end
section
namespace Go.Proofs.YtfddkcmooommeaaGreatDoor.Gl
open Go.RowKit Go.Shelf
set_option linter.unusedVariables false
set_option linter.unnecessarySimpa false
set_option linter.unusedSimpArgs false
attribute [-simp] List.getD_eq_getElem?_getD
section
variable {X : Cx} {Q : Post} {fr : Fr} {ds : List Deferred} {G : Hp} {ops : Array Oper} {o : Oper} {rest : List Oper} {d : Nat}
end
def upto (k : Nat) (f : Nat → Value) (z : Value) (i : Nat) : Value := if i < k then f i else z
structure Lk where
 c : Nat
 v : Nat → Int
 d : Nat → Nat
end Go.Proofs.YtfddkcmooommeaaGreatDoor.Gl
end
section
namespace Go.Proofs.YtfddkcmooommeaaGreatDoor.Gl
open Go.RowKit Go.Shelf
set_option linter.unusedVariables false
set_option linter.unnecessarySimpa false
set_option linter.unusedSimpArgs false
attribute [-simp] List.getD_eq_getElem?_getD
section
variable {s : St} {k : Nat} {df : Nat → Nat} {c : Value}
end
end Go.Proofs.YtfddkcmooommeaaGreatDoor.Gl
end
section
namespace Go.Proofs.YtfddkcmooommeaaGreatDoor.Gl
open Go.RowKit Go.Shelf
set_option linter.unusedVariables false
set_option linter.unnecessarySimpa false
set_option linter.unusedSimpArgs false
attribute [-simp] List.getD_eq_getElem?_getD
theorem internF_room {lim : Nat} {ts : List Tm} {t : Tm} (h : ts.length < lim) : (internF lim ts t).2.1 = 0 ∧ (internF lim ts t).2.2.length ≤ ts.length + 1 := by
 unfold internF
 cases idxT ts t with
 | some n => exact ⟨rfl, Nat.le_succ _⟩
 | none =>
  simp only
  rw [if_neg (by omega)]
  exact ⟨rfl, by simp⟩
theorem placeF_room {lim : Nat} {vars : List ByteArray} {q : List Tm × Int} {s : Sl} (h : q.1.length < lim) (hb : q.2 = 0) : (placeF lim vars q s).2.2 = 0 ∧ (placeF lim vars q s).2.1.length ≤ q.1.length + 1 := by
 cases he : emp s.v with
 | false => rw [placeF_var he]; exact ⟨hb, Nat.le_succ _⟩
 | true => rw [placeF_t0 he hb]; exact internF_room h
theorem rowF_room {lim : Nat} {vars : List ByteArray} {q : List Tm × Int} {p : Pt} (h : q.1.length + 3 ≤ lim) (hb : q.2 = 0) : (rowF lim vars q p).2.2 = 0 ∧ (rowF lim vars q p).2.1.length ≤ q.1.length + 3 := by
 obtain ⟨a1, a2⟩ := placeF_room (lim := lim) (vars := vars) (s := p.s0) (show q.1.length < lim by omega) hb
 obtain ⟨b1, b2⟩ := placeF_room (lim := lim) (vars := vars) (s := p.s1) (show (placeF lim vars q p.s0).2.1.length < lim by omega) a1
 obtain ⟨c1, c2⟩ := placeF_room (lim := lim) (vars := vars) (s := p.s2) (show (placeF lim vars (placeF lim vars q p.s0).2 p.s1).2.1.length < lim by omega) b1
 exact ⟨c1, by show (placeF lim vars (placeF lim vars (placeF lim vars q p.s0).2 p.s1).2 p.s2).2.1.length ≤ _; omega⟩
theorem stepF_room {lim : Nat} {vars : List ByteArray} {q : List Tm × Int} {l : Lt} (h : q.1.length + 3 ≤ lim) (hb : q.2 = 0) : (stepF lim vars q l).2.2 = 0 ∧ (stepF lim vars q l).2.1.length ≤ q.1.length + 3 := by
 by_cases h1 : l.kind = 1
 ·rw [stepF_1 h1]; exact rowF_room h hb
 by_cases h2 : l.kind = 2
 ·rw [stepF_2 h1 h2]; exact rowF_room h hb
 have hab : (placeF lim vars (placeF lim vars q l.a).2 l.b).2.2 = 0 ∧ (placeF lim vars (placeF lim vars q l.a).2 l.b).2.1.length ≤ q.1.length + 3 := by
  obtain ⟨a1, a2⟩ := placeF_room (lim := lim) (vars := vars) (s := l.a) (show q.1.length < lim by omega) hb
  obtain ⟨b1, b2⟩ := placeF_room (lim := lim) (vars := vars) (s := l.b) (show (placeF lim vars q l.a).2.1.length < lim by omega) a1
  exact ⟨b1, by omega⟩
 by_cases h3 : l.kind = 3
 ·rw [stepF_3 h1 h2 h3]; exact hab
 ·rw [stepF_4 h1 h2 h3]; exact hab
theorem bodyStep_room {lim : Nat} {vars : List ByteArray} {a : BS} {l : Lt} (h : a.ts.length + 3 ≤ lim) (hb : a.bad = 0) : (bodyStep lim vars a l).bad = 0 ∧ (bodyStep lim vars a l).ts.length ≤ a.ts.length + 3 := by
 have hs := stepF_room (lim := lim) (vars := vars) (q := (a.ts, a.bad)) (l := l) h hb
 by_cases h1 : (stepF lim vars (a.ts, a.bad) l).1.kind = 1
 ·rw [bodyStep_1 h1]; exact hs
 by_cases h2 : (stepF lim vars (a.ts, a.bad) l).1.kind = 2
 ·rw [bodyStep_2 h1 h2]; exact hs
 ·rw [bodyStep_3 h1 h2]; exact hs
theorem bodyTo_room {lim : Nat} {vars : List ByteArray} {ts : List Tm} {body : List Lt} (h : ts.length + 3 * body.length ≤ lim) : ∀ i, i ≤ body.length → (bodyTo lim vars ts 0 body i).bad = 0 ∧ (bodyTo lim vars ts 0 body i).ts.length ≤ ts.length + 3 * i
 | 0, _ => ⟨rfl, Nat.le_refl _⟩
 | i + 1, hi => by
  obtain ⟨h1, h2⟩ := bodyTo_room h i (by omega)
  rw [bodyTo_succ (List.getElem?_eq_getElem (show i < body.length by omega))]
  obtain ⟨h3, h4⟩ := bodyStep_room (lim := lim) (vars := vars) (l := body[i]) (show (bodyTo lim vars ts 0 body i).ts.length + 3 ≤ lim by omega) h1
  exact ⟨h3, by omega⟩
theorem planRule_len {lim : Nat} {ts : List Tm} {r : Rl} {order srt : List Int} (hmem : ∀ z ∈ order, z ∈ srt) (hol : order.length ≤ 1000) (hb : r.body.length ≤ 1000) : (planRule lim ts r order srt).steps.length ≤ 5000 := by
 unfold planRule
 split
 ·split
  ·have hbo := BOk.all (lim := lim) (vars := dd (allSlots r)) (ts := (rowF lim (dd (allSlots r)) (ts, 0) r.head).2.1) (bad := (rowF lim (dd (allSlots r)) (ts, 0) r.head).2.2) (body := r.body) r.body.length (Nat.le_refl _)
   have hl := hbo.len
   have hr := (run_ok (ms := (bodyTo lim (dd (allSlots r)) (rowF lim (dd (allSlots r)) (ts, 0) r.head).2.1 (rowF lim (dd (allSlots r)) (ts, 0) r.head).2.2 r.body r.body.length).m) (ord := ordF (bodyTo lim (dd (allSlots r)) (rowF lim (dd (allSlots r)) (ts, 0) r.head).2.1 (rowF lim (dd (allSlots r)) (ts, 0) r.head).2.2 r.body r.body.length).m.length order srt) (nv := (dd (allSlots r)).length) (b := 2000) (q := ⟨List.replicate (dd (allSlots r)).length false, (bodyTo lim (dd (allSlots r)) (rowF lim (dd (allSlots r)) (ts, 0) r.head).2.1 (rowF lim (dd (allSlots r)) (ts, 0) r.head).2.2 r.body r.body.length).w ++ (bodyTo lim (dd (allSlots r)) (rowF lim (dd (allSlots r)) (ts, 0) r.head).2.1 (rowF lim (dd (allSlots r)) (ts, 0) r.head).2.2 r.body r.body.length).n, []⟩) ⟨by simp, fun s hs => hbo.pl s (List.mem_append_right _ hs), by simp; omega⟩ _).2 (Nat.le_refl _)
   have hol2 : (ordF (bodyTo lim (dd (allSlots r)) (rowF lim (dd (allSlots r)) (ts, 0) r.head).2.1 (rowF lim (dd (allSlots r)) (ts, 0) r.head).2.2 r.body r.body.length).m.length order srt).length ≤ 1000 := by
    unfold ordF
    split
    ·exact hol
    ·simp; omega
   simp only [List.length_append, List.length_nil] at hr
   show (runTo _ _ _ _).o.length ≤ 5000
   omega
  ·simp
 ·simp
end Go.Proofs.YtfddkcmooommeaaGreatDoor.Gl
end
section
namespace Go.Proofs.YtfddkcmooommeaaGreatDoor.Gl
open Go.RowKit Go.Shelf
set_option linter.unusedVariables false
set_option linter.unnecessarySimpa false
set_option linter.unusedSimpArgs false
attribute [-simp] List.getD_eq_getElem?_getD
theorem StsAt.mono {w0 : World} {G G' : Hp} {A : Option Addr} {ss : List St} (h : StsAt w0 G A ss) (hs : ∀ y ∈ G, y ∈ G') : StsAt w0 G' A ss := fun i x hx => by obtain ⟨b, o, cs, h1, h2, h3⟩ := h i x hx; exact ⟨b, o, cs, h1, h2, h3.mono hs⟩
end Go.Proofs.YtfddkcmooommeaaGreatDoor.Gl
end
section
namespace Go.Proofs.YtfddkcmooommeaaGreatDoor.Gl
open Go.RowKit Go.Shelf
set_option linter.unusedVariables false
set_option linter.unnecessarySimpa false
set_option linter.unusedSimpArgs false
attribute [-simp] List.getD_eq_getElem?_getD
theorem plan_RuleO (w0 : World) (G : Hp) (HD : Hp) (ts : List Tm) (lim bD : Nat) (hD : Dic ts lim bD HD) (r : Rl) (bA : Option Addr) (bc : Nat) (hl : LtsAt w0 G bA r.body) (hbl : r.body.length ≤ 1000) (hok : RlOk r) (oA : Option Addr) (order : List Int) (oc : Nat) (ho : IntsAt w0 G oA order) (hol : order.length ≤ 1000) :
  GC Tryz.prog w0 10 #[.pointer (some ⟨bD, 0, none⟩), .agg (RlC r.head (.slice bA r.body.length bc)).toArray, .slice oA order.length oc] (fun v G' => ∃ vs Ho HD', (v = .tuple #[.agg (planC (planRule lim ts r order (srtZ order)).head vs (planRule lim ts r order (srtZ order)).vars).toArray, .int .i64 (planRule lim ts r order (srtZ order)).e] ∧ SlAt 11 50 (stsC (planRule lim ts r order (srtZ order)).steps) (planRule lim ts r order (srtZ order)).steps.length vs Ho ∧ Dic (planRule lim ts r order (srtZ order)).ts lim bD HD') ∧ HD' ++ (Ho ++ G) = G') (HD ++ G) :=
 plan_Rule w0 G HD ts lim bD hD r bA bc hl hbl hok oA order (srtZ order) oc ho hol (by rw [srtZ_len]; exact hol) (fun z hz => srtZ_mem.2 hz) (fun b1 G0 hm hx => sorted_own w0 G0 oA order oc b1 hm hx (by omega))
end Go.Proofs.YtfddkcmooommeaaGreatDoor.Gl
end
section
namespace Go.Proofs.YtfddkcmooommeaaGreatDoor.Gl
open Go.RowKit Go.Shelf
set_option linter.unusedVariables false
set_option linter.unnecessarySimpa false
set_option linter.unusedSimpArgs false
attribute [-simp] List.getD_eq_getElem?_getD
theorem planRule_roomT {lim : Nat} {ts : List Tm} {r : Rl} {order srt : List Int} (h0 : ruleE r = 0) (h : ts.length + (3 + 3 * r.body.length) ≤ lim) : (planRule lim ts r order srt).e = 0 := by
 have h1 := rowF_room (lim := lim) (vars := dd (allSlots r)) (q := (ts, (0 : Int))) (p := r.head) (by simp only; omega) rfl
 have h2 : (planSteps lim (dd (allSlots r)) (rowF lim (dd (allSlots r)) (ts, 0) r.head).2.1 (rowF lim (dd (allSlots r)) (ts, 0) r.head).2.2 r.body order srt).2.2 = 0 := by
  show (bodyTo lim (dd (allSlots r)) (rowF lim (dd (allSlots r)) (ts, 0) r.head).2.1 (rowF lim (dd (allSlots r)) (ts, 0) r.head).2.2 r.body r.body.length).bad = 0
  rw [h1.1]
  exact (bodyTo_room (by have := h1.2; simp only at this; omega) _ (Nat.le_refl _)).1
 rw [planRule_ok h0 h2]
theorem Hs.wV (x w : Nat × Know) (V D O L R : Hp) : Hs (V ++ (x :: (D ++ (O ++ (w :: (L ++ R)))))) (w :: (L ++ (V ++ (x :: (D ++ (O ++ R)))))) := Hs.perm (by
 have a : (V ++ (x :: (D ++ (O ++ (w :: (L ++ R)))))).Perm (w :: (V ++ (x :: (D ++ (O ++ (L ++ R)))))) := by
  have := @List.perm_middle _ w (V ++ (x :: (D ++ O))) (L ++ R)
  simpa only [List.append_assoc, List.cons_append] using this
 have b : (V ++ (x :: (D ++ (O ++ (L ++ R))))).Perm (L ++ (V ++ (x :: (D ++ (O ++ R))))) := by
  have := (List.perm_append_comm (l₁ := V ++ (x :: (D ++ O))) (l₂ := L)).append_right R
  simpa only [List.append_assoc, List.cons_append] using this
 exact (a.trans (b.cons w)).symm)
theorem Dic.len {ts : List Tm} {lim b : Nat} {H : Hp} (h : Dic ts lim b H) : ts.length ≤ 1000 := by
 obtain ⟨va, ve, Ha, He, bt, k, tab, _, hr, _⟩ := h
 exact hr.most
theorem Hs.b13 (w x : Nat × Know) (L O R : Hp) : Hs (w :: (L ++ (O ++ (x :: R)))) (x :: (w :: (L ++ (O ++ R)))) := Hs.perm (by
 have := @List.perm_middle _ x (w :: (L ++ O)) R
 simpa only [List.cons_append, List.append_assoc] using this.symm)
theorem Hs.numG (x w p b : Nat × Know) (L O V D Q G : Hp) : Hs (x :: (w :: (L ++ (O ++ (V ++ (p :: (D ++ (Q ++ (b :: G))))))))) (w :: (L ++ (D ++ G))) :=
 Hs.sub (List.Sublist.cons _ (List.Sublist.cons_cons _ (List.Sublist.append_left (((List.Sublist.cons p (List.Sublist.append_left ((List.sublist_cons_self b G).trans (List.sublist_append_right Q _)) D)).trans (List.sublist_append_right V _)).trans (List.sublist_append_right O _)) L)))
theorem law_PlanRules (w0 : World) (G : Hp) (uA : Option Addr) (us : List Tm) (uc : Nat) (r : Rl) (bA : Option Addr) (bc : Nat) (oA : Option Addr) (order : List Int) (oc : Nat) (hu : TmsAt w0 G uA us) (hum : us.length ≤ 1048576) (huk : ∀ t ∈ us, TmOk t) (hl : LtsAt w0 G bA r.body) (hm : r.body.length ≤ 1048576) (hok : RlOk r) (ho : IntsAt w0 G oA order) (hom : order.length ≤ 1048576) : GC Tryz.prog w0 4 #[.slice uA us.length uc, .agg (RlC r.head (.slice bA r.body.length bc)).toArray, .slice oA order.length oc] (fun v G' => v = .bool true ∧ G = G') G := by
 refine GC.body (args := [.slice uA us.length uc, .agg (RlC r.head (.slice bA r.body.length bc)).toArray, .slice oA order.length oc]) Tryz.func4 rfl (by kernel_rfl) rfl ?_
 refine GW.seq ?_
 refine GW.region ?_
 refine R.box ⟨rfl, rfl, rfl, rfl⟩ rfl fun b4 => ?_
 refine R.assign ⟨rfl, rfl, rfl, rfl⟩ rfl ?_
 refine GOps.nil ?_
 refine GW.seq ?_
 refine GW.cutS 27 (decide (¬ (us.length ≤ 30 ∧ r.body.length ≤ 20 ∧ order.length ≤ 30))) [(0, .slice uA us.length uc), (2, .slice oA order.length oc), (4, .pointer (some ⟨b4, 0, none⟩))] ?_ ?_
 ·refine R.move ⟨rfl, rfl, rfl, rfl⟩ rfl ?_
  refine R.lenS ⟨rfl, rfl, rfl, rfl⟩ rfl rfl Tryz.underlying53 ?_
  refine R.gtr ⟨rfl, rfl, rfl, rfl⟩ rfl rfl ?_
  refine R.move ⟨rfl, rfl, rfl, rfl⟩ rfl ?_
  refine GOps.caseB 17 rfl (fun hg1 => ?_) (fun hg1 => ?_)
  ·try simp only [dcQ] at hg1
   refine GOps.skip rfl rfl rfl ?_
   refine GOps.skip rfl rfl rfl ?_
   refine GOps.skip rfl rfl rfl ?_
   refine GOps.skip rfl rfl rfl ?_
   refine R.pick_t ⟨rfl, rfl, rfl, rfl⟩ rfl rfl ?_
   refine R.move ⟨rfl, rfl, rfl, rfl⟩ rfl ?_
   refine GOps.skip rfl rfl rfl ?_
   refine GOps.skip rfl rfl rfl ?_
   refine GOps.skip rfl rfl rfl ?_
   refine R.pick_t ⟨rfl, rfl, rfl, rfl⟩ rfl rfl ?_
   refine GOps.nil ?_
   exact ⟨rfl, rfl, by repeat (first | exact Keeps.nil _ | refine Keeps.cons rfl ?_), by first | exact Hs.refl _ | exact Hs.tl _, vbs (by rw [Bool.eq_iff_iff]; simp only [decide_eq_true_eq, decide_eq_false_iff_not, iff_true, true_iff, iff_false, false_iff, Bool.false_eq_true, Bool.true_eq_false] at *; omega)⟩
  ·try simp only [dcQ] at hg1
   refine R.fieldAddr ⟨rfl, rfl, rfl, rfl⟩ rfl Tryz.underlying31 rfl Tryz.sizeOf29 ?_   -- "Body"
   refine R.load1 ⟨rfl, rfl, rfl, rfl⟩ rfl Tryz.underlying29 rfl (.own (by repeat (first | exact List.mem_cons_self | apply List.mem_cons_of_mem | apply List.mem_append_right | exact List.mem_append_left _ List.mem_cons_self)) rfl) ?_
   refine R.lenS ⟨rfl, rfl, rfl, rfl⟩ rfl rfl Tryz.underlying29 ?_
   refine R.gtr ⟨rfl, rfl, rfl, rfl⟩ rfl rfl ?_
   refine R.pick_f ⟨rfl, rfl, rfl, rfl⟩ rfl rfl ?_
   refine R.move ⟨rfl, rfl, rfl, rfl⟩ rfl ?_
   refine GOps.caseB 23 rfl (fun hg2 => ?_) (fun hg2 => ?_)
   ·try simp only [dcQ] at hg2
    refine GOps.skip rfl rfl rfl ?_
    refine GOps.skip rfl rfl rfl ?_
    refine GOps.skip rfl rfl rfl ?_
    refine R.pick_t ⟨rfl, rfl, rfl, rfl⟩ rfl rfl ?_
    refine GOps.nil ?_
    exact ⟨rfl, rfl, by repeat (first | exact Keeps.nil _ | refine Keeps.cons rfl ?_), by first | exact Hs.refl _ | exact Hs.tl _, vbs (by rw [Bool.eq_iff_iff]; simp only [decide_eq_true_eq, decide_eq_false_iff_not, iff_true, true_iff, iff_false, false_iff, Bool.false_eq_true, Bool.true_eq_false] at *; omega)⟩
   ·try simp only [dcQ] at hg2
    refine R.move ⟨rfl, rfl, rfl, rfl⟩ rfl ?_
    refine R.lenS ⟨rfl, rfl, rfl, rfl⟩ rfl rfl Tryz.underlying32 ?_
    refine R.gtr ⟨rfl, rfl, rfl, rfl⟩ rfl rfl ?_
    refine R.pick_f ⟨rfl, rfl, rfl, rfl⟩ rfl rfl ?_
    refine GOps.nil ?_
    exact ⟨rfl, rfl, by repeat (first | exact Keeps.nil _ | refine Keeps.cons rfl ?_), by first | exact Hs.refl _ | exact Hs.tl _, vbs (by rw [Bool.eq_iff_iff]; simp only [decide_eq_true_eq, decide_eq_false_iff_not, iff_true, true_iff, iff_false, false_iff, Bool.false_eq_true, Bool.true_eq_false] at *; omega)⟩
 ·refine GW.ite rfl (fun hc3 => ?_) (fun hc3 => ?_)
  ·try simp only [dcQ] at hc3
   refine GW.seq ?_
   refine GW.region ?_
   refine R.call ⟨rfl, rfl, rfl, rfl⟩ rfl (vs := []) rfl ((law_known _ _).mono ?_)
   rintro _ _ ⟨rfl, rfl⟩
   refine R.assign ⟨rfl, rfl, rfl, rfl⟩ rfl ?_
   refine GOps.nil ?_
   refine GW.ret (Out.of (Res.one rfl rfl) (by first | exact Hs.refl _ | (exact Hs.sub (by repeat (first | exact List.Sublist.refl _ | apply List.Sublist.cons | refine List.Sublist.trans ?_ (List.sublist_append_right _ _))))) ⟨?_, rfl⟩)
   first | rfl | (exfalso; omega)
  ·try simp only [dcQ] at hc3
   refine GW.skip ?_
   refine GW.seq ?_
   refine GW.region ?_
   refine R.move ⟨rfl, rfl, rfl, rfl⟩ rfl ?_
   refine R.call ⟨rfl, rfl, rfl, rfl⟩ rfl (vs := [_, _]) rfl ((law_begin _ _ uA us uc (hu.mono (fun y hy => by repeat (first | exact hy | apply List.mem_cons_of_mem | apply List.mem_append_right))) (by omega) huk).mono ?_)
   rintro _ _ (⟨rfl, hmay, rfl⟩ | ⟨bD, HD, bW, vl, Hl, rfl, hmay, ⟨hD, hL⟩, rfl⟩)
   ·refine R.move ⟨rfl, rfl, rfl, rfl⟩ rfl ?_
    refine R.extract ⟨rfl, rfl, rfl, rfl⟩ rfl rfl ?_
    refine R.extract ⟨rfl, rfl, rfl, rfl⟩ rfl rfl ?_
    refine R.extract ⟨rfl, rfl, rfl, rfl⟩ rfl rfl ?_
    refine R.assign ⟨rfl, rfl, rfl, rfl⟩ rfl ?_
    refine R.assign ⟨rfl, rfl, rfl, rfl⟩ rfl ?_
    refine R.assign ⟨rfl, rfl, rfl, rfl⟩ rfl ?_
    refine GOps.nil ?_
    refine GW.seq ?_
    refine GW.seq ?_
    refine GW.region ?_
    refine R.move ⟨rfl, rfl, rfl, rfl⟩ rfl ?_
    refine R.not ⟨rfl, rfl, rfl, rfl⟩ rfl ?_
    refine GOps.nil ?_
    refine GW.cond_t rfl ?_
    refine GW.seq ?_
    refine GW.region ?_
    refine R.call ⟨rfl, rfl, rfl, rfl⟩ rfl (vs := []) rfl ((law_known _ _).mono ?_)
    rintro _ _ ⟨rfl, rfl⟩
    refine R.assign ⟨rfl, rfl, rfl, rfl⟩ rfl ?_
    refine GOps.nil ?_
    refine GW.ret (Out.of (Res.one rfl rfl) (by first | exact Hs.refl _ | (exact Hs.sub (by repeat (first | exact List.Sublist.refl _ | apply List.Sublist.cons | refine List.Sublist.trans ?_ (List.sublist_append_right _ _))))) ⟨?_, rfl⟩)
    first | rfl | (exfalso; omega)
   ·have hnl := numAll_le us us.length (Nat.le_refl _)
    rw [List.take_length] at hnl
    refine R.move ⟨rfl, rfl, rfl, rfl⟩ rfl ?_
    refine R.extract ⟨rfl, rfl, rfl, rfl⟩ rfl rfl ?_
    refine R.extract ⟨rfl, rfl, rfl, rfl⟩ rfl rfl ?_
    refine R.extract ⟨rfl, rfl, rfl, rfl⟩ rfl rfl ?_
    refine R.assign ⟨rfl, rfl, rfl, rfl⟩ rfl ?_
    refine R.assign ⟨rfl, rfl, rfl, rfl⟩ rfl ?_
    refine R.assign ⟨rfl, rfl, rfl, rfl⟩ rfl ?_
    refine GOps.nil ?_
    refine GW.seq ?_
    refine GW.seq ?_
    refine GW.region ?_
    refine R.move ⟨rfl, rfl, rfl, rfl⟩ rfl ?_
    refine R.not ⟨rfl, rfl, rfl, rfl⟩ rfl ?_
    refine GOps.nil ?_
    refine GW.cond_f rfl ?_
    refine GW.skip ?_
    refine GW.seq ?_
    refine GW.region ?_
    refine R.move ⟨rfl, rfl, rfl, rfl⟩ rfl ?_
    refine R.load_own (cs := RlC r.head (.slice bA r.body.length bc)) ⟨rfl, rfl, rfl, rfl⟩ rfl Tryz.underlying31 rfl Tryz.sizeOf31 memG (by rfl) (by rfl) ?_
    refine R.move ⟨rfl, rfl, rfl, rfl⟩ rfl ?_
    refine GOps.weak (Keeps.refl _) (Hs.dFront _ _ _ _) ?_
    refine R.call ⟨rfl, rfl, rfl, rfl⟩ rfl (vs := [_, _, _]) rfl ((plan_RuleO _ _ HD (numAll us) 1000 bD hD r bA bc (hl.mono (fun y hy => by repeat (first | exact hy | apply List.mem_cons_of_mem | apply List.mem_append_right))) (by omega) hok oA order oc (ho.mono (fun y hy => by repeat (first | exact hy | apply List.mem_cons_of_mem | apply List.mem_append_right))) (by omega)).mono ?_)
    rintro _ _ ⟨vs, Ho, HD2, ⟨rfl, hst, hD2⟩, rfl⟩
    have hst0 := hst
    obtain ⟨As, cs, rfl, hss, hcs⟩ := hst.sts w0 []
    rw [List.append_nil] at hss
    obtain ⟨Al, cl, rfl, hcl⟩ := hL.split
    refine R.move ⟨rfl, rfl, rfl, rfl⟩ rfl ?_
    refine R.extract ⟨rfl, rfl, rfl, rfl⟩ rfl rfl ?_
    refine R.extract ⟨rfl, rfl, rfl, rfl⟩ rfl rfl ?_
    refine R.alloc ⟨rfl, rfl, rfl, rfl⟩ Tryz.zeroValue41 fun b10 => ?_
    refine R.storeAll (G1 := []) rfl rfl rfl rfl rfl Tryz.sizeOf41 rfl rfl rfl rfl ?_
    refine R.assign ⟨rfl, rfl, rfl, rfl⟩ rfl ?_
    refine GOps.nil ?_
    refine GW.seq ?_
    refine GW.seq ?_
    refine GW.region ?_
    refine R.load_own (cs := RlC r.head (.slice bA r.body.length bc)) ⟨rfl, rfl, rfl, rfl⟩ rfl Tryz.underlying31 rfl Tryz.sizeOf31 memG (by rfl) (by rfl) ?_
    refine R.call ⟨rfl, rfl, rfl, rfl⟩ rfl (vs := [_]) rfl ((ref_Rule _ _ r bA bc (hl.mono (fun y hy => by repeat (first | exact hy | apply List.mem_cons_of_mem | apply List.mem_append_right))) hm hok).mono ?_)
    rintro _ _ ⟨rfl, rfl⟩
    refine R.neI ⟨rfl, rfl, rfl, rfl⟩ rfl rfl ?_
    refine GOps.nil ?_
    refine GW.ite rfl (fun hc4 => ?_) (fun hc4 => ?_)
    ·try simp only [dcQ] at hc4
     have hpb := planRule_bad (lim := 1000) (ts := numAll us) (order := order) (srt := srtZ order) hc4
     have hb1 : (planRule 1000 (numAll us) r order (srtZ order)).head = zRw := by rw [hpb]
     have hb2 : (planRule 1000 (numAll us) r order (srtZ order)).vars = 0 := by rw [hpb]
     have hb3 : (planRule 1000 (numAll us) r order (srtZ order)).steps = [] := by rw [hpb]
     have hE2 : (planRule 1000 (numAll us) r order (srtZ order)).e = 2 := by rw [hpb]
     have hts2 : (planRule 1000 (numAll us) r order (srtZ order)).ts = numAll us := by rw [hpb]
     have hsl : (planRule 1000 (numAll us) r order (srtZ order)).steps.length ≤ 100000 := by rw [hb3]; simp
     refine GW.seq ?_
     refine GW.drawS 21 rfl (by kernel_rfl) ?_
     refine GA.val 0 rfl (V.move ⟨rfl, rfl, rfl, rfl⟩ rfl) rfl (by kernel_rfl) (by kernel_rfl) (by kernel_rfl) ?_
     refine GA.val 1 rfl (V.eqI ⟨rfl, rfl, rfl, rfl⟩ rfl rfl) rfl (by kernel_rfl) (by kernel_rfl) (by kernel_rfl) ?_
     refine GA.val 2 rfl (V.move ⟨rfl, rfl, rfl, rfl⟩ rfl) rfl (by kernel_rfl) (by kernel_rfl) (by kernel_rfl) ?_
     refine GA.caseB 50 rfl (fun hg5 => ?_) (fun hg5 => ?_)
     ·try simp only [dcQ] at hg5
      refine GA.val 3 rfl (V.loadA ⟨rfl, rfl, rfl, rfl⟩ rfl Tryz.underlying41 rfl Tryz.sizeOf41 (Rds.own (C := (planC (planRule 1000 (numAll us) r order (srtZ order)).head (.slice As (planRule 1000 (numAll us) r order (srtZ order)).steps.length cs) (planRule 1000 (numAll us) r order (srtZ order)).vars).toArray) (by repeat (first | exact List.mem_cons_self | apply List.mem_cons_of_mem | apply List.mem_append_right | exact List.mem_append_left _ List.mem_cons_self)) 0 _ (fun j v hv => by simpa using hv)) (by rfl)) rfl (by kernel_rfl) (by kernel_rfl) (by kernel_rfl) ?_
      refine GA.val 4 rfl (V.build (vs := []) (cells := (planC zRw (.slice none 0 0) 0).toArray) ⟨rfl, rfl, rfl, rfl⟩ rfl (fun w => run_build w 41 _ _ (by kernel_rfl))) rfl (by kernel_rfl) (by kernel_rfl) (by kernel_rfl) ?_
      refine GA.one 5 (by first | exact Hs.refl _ | exact Hs.tl _ | exact Hs.tl2 _ _ | exact Hs.tl3 _ _ _ | exact Hs.app _ | exact Hs.sub (by simp)) (by kernel_rfl) rfl ?_
      refine R.call ⟨rfl, rfl, rfl, rfl⟩ rfl (vs := [_, _]) rfl ((ref_SameP (ys := []) _ _ As none cs 0 (hss.mono (fun y hy => by repeat (first | exact List.mem_append_left _ hy | exact hy | apply List.mem_cons_of_mem | apply List.mem_append_right))) (fun i x hx => by simp at hx) (by omega) hcs (Nat.le_refl _) hb1 hb2 hb3).mono ?_)
      rintro _ _ ⟨rfl, rfl⟩
      refine GOps.nil ?_
      refine GA.val 6 rfl (V.pick_t ⟨rfl, rfl, rfl, rfl⟩ rfl rfl) rfl (by kernel_rfl) (by kernel_rfl) (by kernel_rfl) ?_
      refine GA.val 7 rfl (V.move ⟨rfl, rfl, rfl, rfl⟩ rfl) rfl (by kernel_rfl) (by kernel_rfl) (by kernel_rfl) ?_
      refine GA.caseB 55 rfl (fun hg6 => ?_) (fun hg6 => ?_)
      ·try simp only [dcQ] at hg6
       refine GA.val 8 rfl (V.move ⟨rfl, rfl, rfl, rfl⟩ rfl) rfl (by kernel_rfl) (by kernel_rfl) (by kernel_rfl) ?_
       refine GA.val 10 rfl (V.move ⟨rfl, rfl, rfl, rfl⟩ rfl) rfl (by kernel_rfl) (by kernel_rfl) (by kernel_rfl) ?_
       refine GA.val 11 rfl (V.nilCheck ⟨rfl, rfl, rfl, rfl⟩ rfl) rfl (by kernel_rfl) (by kernel_rfl) (by kernel_rfl) ?_
       refine GA.val 12 rfl (V.fieldAddr ⟨rfl, rfl, rfl, rfl⟩ rfl Tryz.underlying60 rfl Tryz.sizeOf53) rfl (by kernel_rfl) (by kernel_rfl) (by kernel_rfl) ?_   -- "L"
       refine GA.val 13 rfl (V.load1 ⟨rfl, rfl, rfl, rfl⟩ rfl Tryz.underlying53 rfl (.own (by repeat (first | exact List.mem_cons_self | apply List.mem_cons_of_mem | apply List.mem_append_right | exact List.mem_append_left _ List.mem_cons_self)) rfl)) rfl (by kernel_rfl) (by kernel_rfl) (by kernel_rfl) ?_
       refine GA.val 14 rfl (V.lenS ⟨rfl, rfl, rfl, rfl⟩ rfl rfl Tryz.underlying53) rfl (by kernel_rfl) (by kernel_rfl) (by kernel_rfl) ?_
       refine GA.one 9 (by first | exact Hs.refl _ | exact Hs.tl _ | exact Hs.tl2 _ _ | exact Hs.tl3 _ _ _ | exact Hs.app _ | exact Hs.sub (by simp)) (by kernel_rfl) rfl ?_
       refine R.call ⟨rfl, rfl, rfl, rfl⟩ rfl (vs := [_]) rfl ((dic_len hD2 _ _ (fun x hx => List.mem_cons_of_mem _ (List.mem_append_left _ hx))).mono ?_)
       rintro _ _ ⟨rfl, rfl⟩
       refine GOps.nil ?_
       refine GA.val 15 rfl (V.eqI ⟨rfl, rfl, rfl, rfl⟩ rfl rfl) rfl (by kernel_rfl) (by kernel_rfl) (by kernel_rfl) ?_
       refine GA.val 16 rfl (V.pick_t ⟨rfl, rfl, rfl, rfl⟩ rfl rfl) rfl (by kernel_rfl) (by kernel_rfl) (by kernel_rfl) ?_
       refine GA.val 17 rfl (V.move ⟨rfl, rfl, rfl, rfl⟩ rfl) rfl (by kernel_rfl) (by kernel_rfl) (by kernel_rfl) ?_
       refine GA.caseB 65 rfl (fun hg7 => ?_) (fun hg7 => ?_)
       ·try simp only [dcQ] at hg7
        refine GA.one 18 (by first | exact Hs.refl _ | exact Hs.tl _ | exact Hs.tl2 _ _ | exact Hs.tl3 _ _ _ | exact Hs.app _ | exact Hs.sub (by simp)) (by kernel_rfl) rfl ?_
        refine R.call ⟨rfl, rfl, rfl, rfl⟩ rfl (vs := []) rfl ((law_known _ _).mono ?_)
        rintro _ _ ⟨rfl, rfl⟩
        refine GOps.nil ?_
        refine GA.val 19 rfl (V.pick_t ⟨rfl, rfl, rfl, rfl⟩ rfl rfl) rfl (by kernel_rfl) (by kernel_rfl) (by kernel_rfl) ?_
        refine GA.val 20 rfl (V.assign ⟨rfl, rfl, rfl, rfl⟩ rfl) rfl (by kernel_rfl) (by kernel_rfl) (by kernel_rfl) ?_
        refine GA.done (by first | exact Hs.refl _ | exact Hs.tl _ | exact Hs.tl2 _ _ | exact Hs.tl3 _ _ _ | exact Hs.app _ | exact Hs.sub (by simp)) (by kernel_rfl) ?_
        refine GW.ret (Out.of (Res.one rfl rfl) (by first | exact Hs.refl _ | (exact Hs.sub (by repeat (first | exact List.Sublist.refl _ | apply List.Sublist.cons | refine List.Sublist.trans ?_ (List.sublist_append_right _ _))))) ⟨?_, rfl⟩)
        first | rfl | (exfalso; omega)
       ·try simp only [dcQ] at hg7
        exfalso; rw [hts2] at hg7; simp at hg7
      ·try simp only [dcQ] at hg6
       exfalso; simp at hg6
     ·try simp only [dcQ] at hg5
      exact absurd hE2 (by assumption)
    ·try simp only [dcQ] at hc4
     have h0 : ruleE r = 0 := by omega
     have hE := planRule_roomT (lim := 1000) (ts := numAll us) (r := r) (order := order) (srt := srtZ order) h0 (by omega)
     obtain ⟨hq1, hq2, hq3, hq4⟩ := planRule_same order (by omega) h0 hE
     have hsl := planRule_len (lim := 1000) (ts := numAll us) (r := r) (order := order) (srt := srtZ order) (fun z hz => srtZ_mem.2 hz) (by omega) (by omega)
     have hrl := rowW_len (dd (allSlots r)) (numAll us) r.head
     have hvl : (dd (allSlots r)).length ≤ 3 + 3 * r.body.length := Nat.le_trans (dd_len _) (allTake_len r r.body.length).2
     have hdl := hD2.len
     refine GW.skip ?_
     refine GW.seq ?_
     refine GW.region ?_
     refine R.load_own (cs := RlC r.head (.slice bA r.body.length bc)) ⟨rfl, rfl, rfl, rfl⟩ rfl Tryz.underlying31 rfl Tryz.sizeOf31 memG (by rfl) (by rfl) ?_
     refine R.call ⟨rfl, rfl, rfl, rfl⟩ rfl (vs := [_]) rfl ((ref_Vars _ _ r bA bc (hl.mono (fun y hy => by repeat (first | exact hy | apply List.mem_cons_of_mem | apply List.mem_append_right))) hm).mono ?_)
     rintro v69 _ ⟨Hv, hv69, rfl⟩
     obtain ⟨Av, cv, rfl, hvs⟩ := hv69.strs w0 []
     rw [List.append_nil] at hvs
     refine R.assign ⟨rfl, rfl, rfl, rfl⟩ rfl ?_
     refine GOps.nil ?_
     refine GW.seq ?_
     refine GW.region ?_
     refine R.move ⟨rfl, rfl, rfl, rfl⟩ rfl ?_
     refine R.move ⟨rfl, rfl, rfl, rfl⟩ rfl ?_
     refine R.fieldAddr ⟨rfl, rfl, rfl, rfl⟩ rfl Tryz.underlying31 rfl Tryz.sizeOf28 ?_   -- "Head"
     refine R.load_own (cs := PtC r.head) ⟨rfl, rfl, rfl, rfl⟩ rfl Tryz.underlying28 rfl Tryz.sizeOf28 memG (by rfl) (by rfl) ?_
     refine GOps.weak (Keeps.refl _) (Hs.wV _ _ _ _ _ _ _) ?_
     refine R.call ⟨rfl, rfl, rfl, rfl⟩ rfl (vs := [_, _, _]) rfl ((ref_RowW _ _ (numAll us) bW (.slice Al (numAll us).length cl) Hl hL (by omega) Av (dd (allSlots r)) cv (hvs.mono (fun y hy => by repeat (first | exact List.mem_append_left _ hy | exact hy | apply List.mem_cons_of_mem | apply List.mem_append_right))) (by omega) r.head).mono ?_)
     rintro _ _ ⟨v2, Hl2, ⟨rfl, hL2⟩, rfl⟩
     refine R.move ⟨rfl, rfl, rfl, rfl⟩ rfl ?_
     refine R.lenS ⟨rfl, rfl, rfl, rfl⟩ rfl rfl Tryz.underlying61 ?_
     refine R.build (vs := [(0, _), (2, _)]) (cells := (planC (rowW (dd (allSlots r)) (numAll us) r.head).1 (.slice none 0 0) (dd (allSlots r)).length).toArray) ⟨rfl, rfl, rfl, rfl⟩ rfl (fun w => run_build w 41 _ _ (by kernel_rfl)) ?_
     refine R.alloc ⟨rfl, rfl, rfl, rfl⟩ Tryz.zeroValue41 fun b13 => ?_
     refine R.storeAll (G1 := []) rfl rfl rfl rfl rfl Tryz.sizeOf41 rfl rfl rfl rfl ?_
     refine GOps.nil ?_
     refine GW.seq ?_
     refine GW.region ?_
     refine R.move ⟨rfl, rfl, rfl, rfl⟩ rfl ?_
     refine R.move ⟨rfl, rfl, rfl, rfl⟩ rfl ?_
     refine R.fieldAddr ⟨rfl, rfl, rfl, rfl⟩ rfl Tryz.underlying31 rfl Tryz.sizeOf29 ?_   -- "Body"
     refine R.load1 ⟨rfl, rfl, rfl, rfl⟩ rfl Tryz.underlying29 rfl (.own (by repeat (first | exact List.mem_cons_self | apply List.mem_cons_of_mem | apply List.mem_append_right | exact List.mem_append_left _ List.mem_cons_self)) rfl) ?_
     refine R.move ⟨rfl, rfl, rfl, rfl⟩ rfl ?_
     refine GOps.weak (Keeps.refl _) (Hs.toM1 _ _ _ _) ?_
     refine R.call ⟨rfl, rfl, rfl, rfl⟩ rfl (vs := [_, _, _, _]) rfl ((ref_Body _ _ (rowW (dd (allSlots r)) (numAll us) r.head).2 bW v2 Hl2 hL2 (by omega) Av (dd (allSlots r)) cv (hvs.mono (fun y hy => by repeat (first | exact List.mem_append_left _ hy | exact hy | apply List.mem_cons_of_mem | apply List.mem_append_right))) (by omega) bA r.body bc (hl.mono (fun y hy => by repeat (first | exact hy | apply List.mem_cons_of_mem | apply List.mem_append_right))) (by omega) oA order oc (ho.mono (fun y hy => by repeat (first | exact hy | apply List.mem_cons_of_mem | apply List.mem_append_right))) (by omega)).mono ?_)
     rintro v83 _ ⟨v3, Hl3, Hb, ⟨hbs, hL3⟩, rfl⟩
     refine GOps.weak (Keeps.refl _) (Hs.b13 _ _ _ _ _) ?_
     obtain ⟨Ab, cb, rfl, hbss, hcb⟩ := hbs.sts w0 []
     rw [List.append_nil] at hbss
     refine R.fieldAddr ⟨rfl, rfl, rfl, rfl⟩ rfl Tryz.underlying41 rfl Tryz.sizeOf39 ?_   -- "Steps"
     refine R.store (G1 := []) rfl rfl rfl rfl rfl Tryz.sizeOf39 rfl rfl (rfl) (Nat.le_of_ble_eq_true rfl) ?_
     refine GOps.nil ?_
     refine GW.seq ?_
     refine GW.region ?_
     refine R.move ⟨rfl, rfl, rfl, rfl⟩ rfl ?_
     refine R.eqI ⟨rfl, rfl, rfl, rfl⟩ rfl rfl ?_
     refine R.move ⟨rfl, rfl, rfl, rfl⟩ rfl ?_
     refine GOps.caseB 87 rfl (fun hg8 => ?_) (fun hg8 => ?_)
     ·try simp only [dcQ] at hg8
      refine R.load_own (cs := planC (planRule 1000 (numAll us) r order (srtZ order)).head (.slice As (planRule 1000 (numAll us) r order (srtZ order)).steps.length cs) (planRule 1000 (numAll us) r order (srtZ order)).vars) ⟨rfl, rfl, rfl, rfl⟩ rfl Tryz.underlying41 rfl Tryz.sizeOf41 memG (by rfl) (by rfl) ?_
      refine R.load_own (cs := planC (rowW (dd (allSlots r)) (numAll us) r.head).1 (.slice Ab (bodyW (dd (allSlots r)) (rowW (dd (allSlots r)) (numAll us) r.head).2 r.body order).1.length cb) (dd (allSlots r)).length) ⟨rfl, rfl, rfl, rfl⟩ rfl Tryz.underlying41 rfl Tryz.sizeOf41 memG (by rfl) (by rfl) ?_
      refine R.call ⟨rfl, rfl, rfl, rfl⟩ rfl (vs := [_, _]) rfl ((ref_SameP _ _ As Ab cs cb (hss.mono (fun y hy => by repeat (first | exact List.mem_append_left _ hy | exact hy | apply List.mem_cons_of_mem | apply List.mem_append_right))) (hbss.mono (fun y hy => by repeat (first | exact List.mem_append_left _ hy | exact hy | apply List.mem_cons_of_mem | apply List.mem_append_right))) (by omega) hcs hcb hq1 hq4 hq2).mono ?_)
      rintro _ _ ⟨rfl, rfl⟩
      refine R.pick_t ⟨rfl, rfl, rfl, rfl⟩ rfl rfl ?_
      refine R.move ⟨rfl, rfl, rfl, rfl⟩ rfl ?_
      refine GOps.caseB 92 rfl (fun hg9 => ?_) (fun hg9 => ?_)
      ·try simp only [dcQ] at hg9
       refine R.move ⟨rfl, rfl, rfl, rfl⟩ rfl ?_
       refine R.move ⟨rfl, rfl, rfl, rfl⟩ rfl ?_
       refine GOps.weak (Keeps.refl _) (Hs.numG _ _ _ _ _ _ _ _ _ _) ?_
       refine R.call ⟨rfl, rfl, rfl, rfl⟩ rfl (vs := [_, _]) rfl ((law_numbered _ _ 1000 bD bW HD2 v3 Hl3 hD2 hL3 (by omega) hq3).mono ?_)
       rintro _ _ ⟨rfl, rfl⟩
       refine R.pick_t ⟨rfl, rfl, rfl, rfl⟩ rfl rfl ?_
       refine R.move ⟨rfl, rfl, rfl, rfl⟩ rfl ?_
       refine GOps.caseB 97 rfl (fun hg10 => ?_) (fun hg10 => ?_)
       ·try simp only [dcQ] at hg10
        refine R.call ⟨rfl, rfl, rfl, rfl⟩ rfl (vs := []) rfl ((law_known _ _).mono ?_)
        rintro _ _ ⟨rfl, rfl⟩
        refine R.pick_t ⟨rfl, rfl, rfl, rfl⟩ rfl rfl ?_
        refine R.assign ⟨rfl, rfl, rfl, rfl⟩ rfl ?_
        refine GOps.nil ?_
        refine GW.ret (Out.of (Res.one rfl rfl) (by first | exact Hs.refl _ | (exact Hs.sub (by repeat (first | exact List.Sublist.refl _ | apply List.Sublist.cons | refine List.Sublist.trans ?_ (List.sublist_append_right _ _))))) ⟨?_, rfl⟩)
        first | rfl | (exfalso; omega)
       ·try simp only [dcQ] at hg10
        exfalso; simp at hg10
      ·try simp only [dcQ] at hg9
       exfalso; simp at hg9
     ·try simp only [dcQ] at hg8
      exact absurd hE (by assumption)
end Go.Proofs.YtfddkcmooommeaaGreatDoor.Gl
end
section
namespace Go.Proofs.YtfddkcmooommeaaGreatDoor.Gl
open Go.ChangeShapes Go.WideShapes Go.ChangeAt Go.RowKit Go.Lib
set_option linter.unusedVariables false
set_option linter.unnecessarySimpa false
set_option linter.unusedSimpArgs false
theorem trod_Tms {w : World} {H : Type} {enc : TypeId × Value → H} {base : Nat} {spare : Nat → Bool} {held : Bool} {fuel : Nat} {cs : List Value} {x : DataW H × List MemPlace} (hb : Rows.uptoBulk x.1 ≤ 1048576) (h : DataW.trod enc Tryz.prog w base spare held fuel 53 cs = some x) :
  ∃ (A : Option Addr) (us : List Tm) (c : Nat), cs = [.slice A us.length c] ∧ us.length ≤ c ∧ c ≤ 9223372036854775807 ∧ us.length ≤ 1048576 ∧ TmsAt w [] A us ∧ ∀ t ∈ us, TmOk t := by
 obtain ⟨A, us, c, e2, h1, h2, h3, hr⟩ := trod_row (sz := 3) (fun t cs => cs = TmC t ∧ TmOk t) Tryz.underlying53 (by kernel_rfl) (by omega) hb h (fun n cs' y hy hz => by
  obtain ⟨t, e, a1, a2⟩ := trod_Tm hz
  exact ⟨t, e, by omega, by omega⟩)
 obtain ⟨hr1, hr2⟩ := row_all hr
 exact ⟨A, us, c, e2, h1, h2, h3, hr1, hr2⟩
set_option maxRecDepth 100000 in
theorem contract_PlanRules (H : Type) (enc : TypeId × Value → H) (W : World) (base : Nat) (args : Array Value) (ds gs : List (DataW H)) (before : List MemPlace)
  (hval : ∀ (j : Nat) t v, Tryz.f4.params[j]? = some t → args[j]? = some v → Value.okWide Tryz.prog W .any base t v)
  (hW : DataW.Whole enc Tryz.prog Tryz.f4.params.toList Rows.planRulesSpec.vars false W args.toList ds gs before) (hk : Rows.uptoSmall H (ds ++ gs) = true) :
  Calls Tryz.prog 4 args W fun e W' => ∃ v, e = .returned v ∧ Rows.planRulesSpec.post enc Tryz.prog Tryz.f4 false true false false W args v W' := by
 have hW' := hW
 obtain ⟨p, q, hA0, hV, rfl, hfz, hnd⟩ := hW
 have hA : DataW.TrodAll enc Tryz.prog W 0 (fun _ => true) true Tryz.f4.params.toList args.toList ds p := hA0
 rw [Tryz.params4] at hA hval
 obtain ⟨v2, v0, v1, d2, d0, d1, p2, p0, p1, rfl, rfl, rfl, g2, h0, g1⟩ := trodAll_three hA
 obtain ⟨rfl, rfl⟩ := trodVars_none hV
 have hkb := of_decide_eq_true hk
 simp only [List.append_nil, Rows.uptoBulkAll] at hkb
 have h0' := h0
 have g1' := g1
 have g2' := g2
 obtain ⟨fuel, h0'⟩ := h0'
 obtain ⟨fuel1, g1'⟩ := g1'
 obtain ⟨fuel2, g2'⟩ := g2'
 obtain ⟨r, ⟨bA, bc, e, h1, h2, hl⟩, hok, hbl⟩ := trod_Rl (x := (d0, p0)) (by simp only; omega) h0'
 obtain ⟨oA, order, oc, e1, k1, k2, k3, ho⟩ := trod_Zs (x := (d1, p1)) (by simp only; omega) g1'
 obtain ⟨uA, us, uc, e2, m1, m2, m3, hu, huk⟩ := trod_Tms (x := (d2, p2)) (by simp only; omega) g2'
 obtain ⟨cs, rfl, _⟩ := okWide_struct Tryz.underlying31 (hval 1 31 v0 (by simp) (by simp))
 obtain rfl : v1 = .slice oA order.length oc := by
  obtain ⟨a, l, k, rfl⟩ := okWide_slice Tryz.underlying32 (hval 2 32 v1 (by simp) (by simp))
  simpa [Value.cells] using e1
 obtain rfl : v2 = .slice uA us.length uc := by
  obtain ⟨a, l, k, rfl⟩ := okWide_slice Tryz.underlying53 (hval 0 53 v2 (by simp) (by simp))
  simpa [Value.cells] using e2
 rw [agg_of e] at h0 hW' ⊢
 clear hA0
 simp only [List.append_nil] at hW'
 have walk := calls_of_GC (law_PlanRules W [] uA us uc r bA bc oA order oc hu m3 huk hl hbl hok ho k3)
 refine walk.mono fun e W' ⟨v, G', he, hs, hv, _⟩ => ?_
 subst hv
 have hlt : ∀ x ∈ p2 ++ (p0 ++ p1), x.block < W.heap.size := fun x hx => by simpa using hW'.lt x (by simpa using hx)
 refine ⟨_, he, post_old (pa := p2 ++ (p0 ++ p1)) (pv := []) hW' (fun _ _ _ => trodAll_cons_mk (shut_bool Tryz.underlying4 _) trodAll_mk0) (fun sp hsp => ?_) (fun _ _ => rfl) (by simp) hs.below (ok_one (by kernel_rfl) rfl (okWide_bool_mk Tryz.underlying4 _))⟩
 rw [Tryz.params4]
 have h4 := trodAll_mk2 (WideElems.Trod_stays laidOut (by kernel_rfl) (of_decide_eq_true (by kernel_rfl)) h0 (fun x hx => hs.below.same (hlt x (List.mem_append_right _ (List.mem_append_left _ hx)))) (fun x hx => hsp x (by simp [hx]))) (WideElems.Trod_stays laidOut (by kernel_rfl) (of_decide_eq_true (by kernel_rfl)) g1 (fun x hx => hs.below.same (hlt x (List.mem_append_right _ (List.mem_append_right _ hx)))) (fun x hx => hsp x (by simp [hx])))
 exact trodAll_cons_mk (WideElems.Trod_stays laidOut (by kernel_rfl) (of_decide_eq_true (by kernel_rfl)) g2 (fun x hx => hs.below.same (hlt x (List.mem_append_left _ hx))) (fun x hx => hsp x (by simp [hx]))) h4
theorem reads_PlanRules (os : Os) {H : Type} (enc : TypeId × Value → H) : ∃ places, DataW.whole enc Tryz.prog ((laidWorld os).forCall (fun _ _ => 0) ⟨#[], #[.slice Option.none 0 0, noRule, .slice Option.none 0 0], []⟩).memory Tryz.f4.params.toList Rows.planRulesSpec.vars false #[.slice Option.none 0 0, noRule, .slice Option.none 0 0].toList 8 = some ([.nil, noRuleD, .nil], [], places) :=
 ⟨[], by kernel_rfl⟩
set_option maxRecDepth 100000 in
theorem lifted_PlanRules (os : Os) (started : os.Started) (H : Type) (enc : TypeId × Value → H) (F : Stop.Interp) :
  ReturnsInHanded {} Tryz.checked os 4 .any ((Rows.OpenSpec.upto Rows.planRulesSpec).preRow enc Tryz.prog Tryz.f4 Rows.planRulesUptoRow.domain false Rows.planRulesUptoRow.laid) (((Rows.OpenSpec.upto Rows.planRulesSpec).at F).post enc Tryz.prog Tryz.f4 false true false false) := by
 obtain ⟨places, hx⟩ := reads_PlanRules os enc
 refine returnsInHanded_of_row (C := Tryz.checked) (s := Rows.OpenSpec.upto Rows.planRulesSpec) ownK started (by kernel_rfl) Tryz.func4
  (witness_row_at (enc := enc) (C := Tryz.checked) false (laidWorld os) #[.slice Option.none 0 0, noRule, .slice Option.none 0 0] rfl (by kernel_rfl) (by kernel_rfl) (by kernel_rfl)
   (OpenSpec.preRow_of_cond 8 hx (by kernel_rfl) (fun k hk => by cases hk; kernel_rfl) (by kernel_rfl) (laid_met os _))) ?_
 intro W base args ds gs before hval hW _ hcond _ hL _ _
 first
  | exact contract_PlanRules H enc W base args ds gs before hval hW (hcond _ rfl)
  | exact contract_PlanRules H enc W base args ds gs before hval hW (by assumption)
set_option maxRecDepth 100000 in
theorem saidUpto_PlanRules : Rows.PlanRulesUptoSaid :=
 OpenClaim.holds_of_cond 4 Tryz.f4 rfl rfl rfl rfl rfl rfl rfl ⟨rfl, rfl, rfl, rfl, rfl⟩ rfl rfl rfl rfl rfl (by kernel_rfl) Tryz.func4 (by kernel_rfl)
  (of_decide_eq_true (by kernel_rfl)) (by unfold Func.isWrapper; first | (rw [if_pos (by decide +kernel)]; kernel_rfl) | (rw [if_neg (by decide +kernel)]; exact ⟨rfl, rfl⟩))
  (fun os started H enc _ F => by rw [OpenClaim.pre_eq_preRow]; exact lifted_PlanRules os started H enc F)
theorem plain_PlanRules (f : FuncId) (fn : Func) (hf : Tryz.pinned.checked.prog.funcNamed "rhizome/rhizomelaw13.PlanRules" = some f) (hfn : Tryz.pinned.checked.prog.funcs[f]? = some fn) :
  false = Tryz.pinned.checked.prog.looks [] ∧ ∀ (j : Nat) t, fn.params[j]? = some t → Tryz.pinned.checked.prog.wantsStandIn t = false := by
 obtain rfl : f = 4 := Option.some.inj ((show Tryz.prog.funcNamed "rhizome/rhizomelaw13.PlanRules" = some 4 by kernel_rfl).symm.trans hf) |>.symm
 obtain rfl : fn = Tryz.f4 := (Option.some.inj (Tryz.func4.symm.trans hfn)).symm
 refine ⟨by kernel_rfl, fun j t ht => ?_⟩
 rw [Tryz.params4] at ht
 have h22 : t = 53 ∨ t = 31 ∨ t = 32 := by simpa using Array.mem_of_getElem? ht
 rcases h22 with rfl | rfl | rfl
 ·exact (show Tryz.prog.wantsStandIn 53 = false by kernel_rfl)
 ·exact (show Tryz.prog.wantsStandIn 31 = false by kernel_rfl)
 ·exact (show Tryz.prog.wantsStandIn 32 = false by kernel_rfl)
set_option maxRecDepth 100000 in
theorem cardUpto_PlanRules : Rows.PlanRulesUptoCardSaid :=
 Claim7.holds_tied_plain_at .later [] _ _ _ _ saidUpto_PlanRules (fun _ h => by cases h) (by kernel_rfl) (fun _ h => by cases h) planRulesUpto_row_tie rfl ⟨rfl, rfl⟩ (by kernel_rfl) rfl plain_PlanRules (by kernel_rfl)
end Go.Proofs.YtfddkcmooommeaaGreatDoor.Gl
end
