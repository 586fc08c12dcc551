/- The contract of CheckParts: for every argument up to the bulk, the call returns true and the input reads as it did. -/
import Derived.Test.YtgjmandjhjfgkaaDoorOb
import Derived.Test.YtgjmandjhjfgkaaDoorS23
namespace Go.Proofs.YtgjmandjhjfgkaaDoor.Gl
open Go.ChangeShapes Go.WideShapes Go.ChangeAt Go.RowKit
set_option linter.unusedVariables false
set_option linter.unnecessarySimpa false
set_option linter.unusedSimpArgs false

set_option maxRecDepth 100000 in
theorem contract_Parts (H : Type) (enc : TypeId × Value → H) (W : World) (base : Nat) (args : Array Value) (ds gs : List (DataW H)) (before : List MemPlace)
    (hval : ∀ (j : Nat) t v, Tryd.f4.params[j]? = some t → args[j]? = some v → Value.okWide Tryd.prog W .any base t v)
    (hW : DataW.Whole enc Tryd.prog Tryd.f4.params.toList Rows.checkPartsSpec.vars false W args.toList ds gs before) (hk : Rows.uptoSmall H (ds ++ gs) = true) :
    Calls Tryd.prog 4 args W fun e W' => ∃ v, e = .returned v ∧ Rows.checkPartsSpec.post enc Tryd.prog Tryd.f4 false true false false W args v W' := by
  have hW' := hW
  obtain ⟨p, q, hA0, hV, rfl, hfz, hnd⟩ := hW
  have hA : DataW.TrodAll enc Tryd.prog W 0 (fun _ => true) true Tryd.f4.params.toList args.toList ds p := hA0
  rw [Tryd.params4] at hA hval
  obtain ⟨v0, v1, v2, d0, d1, d2, p0, p1, p2, rfl, rfl, rfl, h0, g1, g2⟩ := trodAll_three hA
  obtain ⟨i, rfl, rfl, rfl, wi⟩ := open_int Tryd.underlying3 (hval 1 3 v1 (by simp) (by simp)) g1
  obtain ⟨j, rfl, rfl, rfl, wj⟩ := open_int Tryd.underlying3 (hval 2 3 v2 (by simp) (by simp)) g2
  obtain ⟨rfl, rfl⟩ := trodVars_none hV
  have hkb := of_decide_eq_true hk
  simp only [List.append_nil, Rows.uptoBulkAll] at hkb
  have h0' := h0
  obtain ⟨fuel, h0'⟩ := h0'
  obtain ⟨A, rs, c, e, h1, h2, h3, hr, hok⟩ := trod_Rls (x := (d0, p0)) (by simp only; omega) h0'
  obtain rfl : v0 = .slice A rs.length c := by
    obtain ⟨a, l, k, rfl⟩ := okWide_slice Tryd.underlying22 (hval 0 22 v0 (by simp) (by simp))
    simpa [Value.cells] using e
  clear hA0
  simp only [List.append_nil] at hW'
  have walk := calls_of_GC (law_Parts W [] A rs c i j hr h1 h2 h3 hok)
  refine walk.mono fun e W' ⟨v, G', he, hs, hv, _⟩ => ?_
  subst hv
  have hlt : ∀ x ∈ p0, x.block < W.heap.size := fun x hx => by simpa using hW'.lt x hx
  refine ⟨_, he, post_of_same (pa := p0) (pv := []) hW' (fun _ _ _ => trodAll_cons_mk (shut_bool Tryd.underlying4 _) trodAll_mk0) (fun sp hsp => ?_) (fun _ _ => rfl) (by simp) (hs.below.frame _) (frozen_same hs) (ok_one (by kernel_rfl) rfl (okWide_bool_mk Tryd.underlying4 _))⟩
  rw [Tryd.params4]
  have h4 := trodAll_mk3 (WideElems.Trod_stays laidOut (by kernel_rfl) (of_decide_eq_true (by kernel_rfl)) h0 (fun x hx => hs.below.same (hlt x hx)) (fun x hx => hsp x hx)) (shut_int (enc := enc) (w := W') (base := 0) (spare := sp) (held := true) Tryd.underlying3 wi) (shut_int (enc := enc) (w := W') (base := 0) (spare := sp) (held := true) Tryd.underlying3 wj)
  simp only [List.append_nil] at h4
  exact h4
end Go.Proofs.YtgjmandjhjfgkaaDoor.Gl
