/- The contract of CheckPrograms: for every argument up to the bulk, the call returns true and the input reads as it did. -/
import Derived.Test.YtgjmandjhjfgkaaDoorOa
import Derived.Test.YtgjmandjhjfgkaaDoorCards
import Derived.Test.YtgjmandjhjfgkaaDoorTie
import Derived.WalkKit
import Derived.ProofKit
import Derived.OpenShut
import Derived.Carry
import Derived.Deep.DeepHandedRow
import Derived.Lib.LaidTab
namespace Go.Proofs.YtgjmandjhjfgkaaDoor.Gl
open Go.ChangeShapes Go.WideShapes Go.ChangeAt Go.RowKit
set_option linter.unusedVariables false
set_option linter.unnecessarySimpa false
set_option linter.unusedSimpArgs false

theorem laidOut : laidOutB Tryd.prog = true := by kernel_rfl

theorem sat_self (W : World) : Sat W [] W :=
  ⟨Below.refl _ _, fun _ _ h => by simp at h, by simp, fun b o hb h => by rw [Array.getElem?_eq_none hb] at h; cases h⟩

theorem frozen_same {W W' : World} {G : Hp} (hs : Sat W G W') (a : Addr) : W'.frozen? a = W.frozen? a := by
  rcases Nat.lt_or_ge a.block W.heap.size with h | h
  · exact hs.below.frozen h
  · have e0 : W.heap[a.block]? = Option.none := Array.getElem?_eq_none h
    cases e : W'.heap[a.block]? with
    | none => simp [World.frozen?, e, e0]
    | some o =>
      have hc := hs.cool _ _ h e
      cases o <;> simp_all [World.frozen?, coolO]

theorem calls_of_GC {W : World} {f : FuncId} {args : Array Value} {R : Value → Hp → Prop} (h : GC Tryd.prog W f args R []) : Calls Tryd.prog f args W fun e W' => ∃ v G', e = .returned v ∧ Sat W G' W' ∧ R v G' :=
  (callsIn_wide (n := 0)).1 (h.2 0 W (sat_self W))

set_option maxRecDepth 100000 in
theorem contract_Programs (H : Type) (enc : TypeId × Value → H) (W : World) (base : Nat) (args : Array Value) (ds gs : List (DataW H)) (before : List MemPlace)
    (hval : ∀ (j : Nat) t v, Tryd.f3.params[j]? = some t → args[j]? = some v → Value.okWide Tryd.prog W .any base t v)
    (hW : DataW.Whole enc Tryd.prog Tryd.f3.params.toList Rows.checkProgramsSpec.vars false W args.toList ds gs before) (hk : Rows.uptoSmall H (ds ++ gs) = true) :
    Calls Tryd.prog 3 args W fun e W' => ∃ v, e = .returned v ∧ Rows.checkProgramsSpec.post enc Tryd.prog Tryd.f3 false true false false W args v W' := by
  have hW' := hW
  obtain ⟨p, q, hA0, hV, rfl, hfz, hnd⟩ := hW
  have hA : DataW.TrodAll enc Tryd.prog W 0 (fun _ => true) true Tryd.f3.params.toList args.toList ds p := hA0
  rw [Tryd.params3] at hA hval
  obtain ⟨v0, vs0, d0, ds0, p0, q0, hargs, rfl, rfl, h0, r0⟩ := trodAll_cons hA
  obtain ⟨rfl, rfl, rfl⟩ := trodAll_nil r0
  obtain rfl : args = #[v0] := by cases args; simp_all
  obtain ⟨rfl, rfl⟩ := trodVars_none hV
  have hkb := of_decide_eq_true hk
  simp only [List.append_nil, Rows.uptoBulkAll] at hkb
  have h0' := h0
  obtain ⟨fuel, h0'⟩ := h0'
  obtain ⟨A, rs, c, e, h1, h2, h3, hr, hok⟩ := trod_Rls (x := (d0, p0)) (by simp only; omega) h0'
  obtain rfl : v0 = .slice A rs.length c := by
    obtain ⟨a, l, k, rfl⟩ := okWide_slice Tryd.underlying22 (hval 0 22 v0 (by simp) (by simp))
    simpa [Value.cells] using e
  clear hA0
  simp only [List.append_nil] at hW'
  have walk := calls_of_GC (law_Programs W [] A rs c hr h1 h2 h3 hok)
  refine walk.mono fun e W' ⟨v, G', he, hs, hv, _⟩ => ?_
  subst hv
  have hlt : ∀ x ∈ p0, x.block < W.heap.size := fun x hx => by simpa using hW'.lt x hx
  refine ⟨_, he, post_of_same (pa := p0) (pv := []) hW' (fun _ _ _ => trodAll_cons_mk (shut_bool Tryd.underlying4 _) trodAll_mk0) (fun sp hsp => ?_) (fun _ _ => rfl) (by simp) (hs.below.frame _) (frozen_same hs) (ok_one (by kernel_rfl) rfl (okWide_bool_mk Tryd.underlying4 _))⟩
  rw [Tryd.params3]
  exact trodAll_mk1 (WideElems.Trod_stays laidOut (by kernel_rfl) (of_decide_eq_true (by kernel_rfl)) h0 (fun x hx => hs.below.same (hlt x hx)) (fun x hx => hsp x hx))
end Go.Proofs.YtgjmandjhjfgkaaDoor.Gl
