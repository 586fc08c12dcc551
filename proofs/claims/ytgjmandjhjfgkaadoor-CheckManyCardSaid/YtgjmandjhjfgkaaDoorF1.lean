import Derived.Test.YtgjmandjhjfgkaaDoorDa
import Derived.Test.YtgjmandjhjfgkaaDoorProg
namespace Go.Proofs.YtgjmandjhjfgkaaDoor.Gl
open Go.RowKit Go.Shelf
set_option linter.unusedVariables false
set_option linter.unnecessarySimpa false
set_option linter.unusedSimpArgs false

def litNot (l : Lt) : Bool := decide (l.kind = 2)
def negRule (r : Rl) : Bool := r.body.any litNot
def negates (rs : List Rl) : Bool := rs.any negRule

theorem any_take_succ {α : Type} (p : α → Bool) (l : List α) (i : Nat) (x : α) (h : l[i]? = some x) (h0 : (l.take i).any p = false) (hx : p x = false) : (l.take (i + 1)).any p = false := by
  rw [List.take_add_one, h]
  simp [h0, hx]
theorem any_of_get {α : Type} (p : α → Bool) (l : List α) (i : Nat) (x : α) (h : l[i]? = some x) (hx : p x = true) : l.any p = true :=
  List.any_eq_true.2 ⟨x, List.mem_of_getElem? h, hx⟩
theorem any_of_take {α : Type} (p : α → Bool) (l : List α) (i : Nat) (h : l.length ≤ i) (h0 : (l.take i).any p = false) : l.any p = false := by
  rwa [List.take_of_length_le h] at h0

/-- check.Negates. -/
theorem check_Negates (w0 : World) (G : Hp) (A : Option Addr) (rs : List Rl) (c : Nat) (hr : RlsAt w0 G A rs) (hm : rs.length ≤ 9223372036854775807) :
    GC Tryd.prog w0 11 #[.slice A rs.length c] (fun v G' => v = .bool (negates rs) ∧ G = G') G := by
  refine GC.body (args := [.slice A rs.length c]) Tryd.func11 rfl (by kernel_rfl) rfl ?_
  refine GW.seq (GW.region ?_)
  refine R.assign ⟨rfl, rfl, rfl, rfl⟩ rfl (GOps.nil ?_)
  refine GW.seq (GW.seq (GW.region ?_))
  refine R.move ⟨rfl, rfl, rfl, rfl⟩ rfl ?_
  refine R.lenS ⟨rfl, rfl, rfl, rfl⟩ rfl rfl Tryd.underlying22 ?_
  refine R.move ⟨rfl, rfl, rfl, rfl⟩ rfl (GOps.nil ?_)
  refine GW.block ?_
  refine GW.loopI (fun i : Nat => [(7, .slice A rs.length c), (8, .int .i64 rs.length), (9, .int .i64 i)]) (fun _ => G) (fun i => rs.length - i) (fun i => i ≤ rs.length ∧ (rs.take i).any negRule = false) 0
    (by repeat (first | exact Keeps.nil _ | refine Keeps.cons rfl ?_)) (Hs.refl _) ⟨by omega, by simp⟩ ?_
  rintro i ⟨hi, h0⟩
  refine GW.seq (GW.region ?_)
  refine R.lss ⟨rfl, rfl, rfl, rfl⟩ rfl rfl (GOps.nil ?_)
  refine GW.seq (GW.ite rfl (fun hlt => GW.skip ?_) (fun hge => GW.exit ?_))
  · have hlt : i < rs.length := by simpa using hlt
    obtain ⟨x, hx⟩ : ∃ x, rs[i]? = some x := ⟨_, List.getElem?_eq_getElem hlt⟩
    obtain ⟨b, f, cs, rfl, hc, hrd⟩ := hr i x hx
    obtain ⟨A', c', rfl, hl', hm', hls⟩ := hc
    refine GW.seq (GW.block ?_)
    refine GW.seq (GW.region ?_)
    refine R.indexAddrS ⟨rfl, rfl, rfl, rfl⟩ rfl rfl Tryd.underlying22 Tryd.sizeOf46 (by omega) (by omega) ?_
    refine R.loadA ⟨rfl, rfl, rfl, rfl⟩ rfl Tryd.underlying46 rfl Tryd.sizeOf46 hrd rfl ?_
    refine R.alloc ⟨rfl, rfl, rfl, rfl⟩ Tryd.zeroValue46 fun bx => ?_
    refine R.storeAll (G1 := []) rfl rfl rfl rfl rfl Tryd.sizeOf46 rfl rfl rfl rfl (GOps.nil ?_)
    refine GW.seq (GW.region ?_)
    refine R.fieldAddr ⟨rfl, rfl, rfl, rfl⟩ rfl Tryd.underlying46 rfl Tryd.sizeOf44 ?_
    refine R.load1 ⟨rfl, rfl, rfl, rfl⟩ rfl Tryd.underlying44 rfl (.own' (List.mem_cons_self) rfl) ?_
    refine R.lenS ⟨rfl, rfl, rfl, rfl⟩ rfl rfl Tryd.underlying44 ?_
    refine R.move ⟨rfl, rfl, rfl, rfl⟩ rfl (GOps.nil ?_)
    refine GW.block ?_
    refine GW.loopI (fun j : Nat => [(7, .slice (some ⟨b, f, none⟩) rs.length c), (8, .int .i64 rs.length), (9, .int .i64 i), (14, .slice A' x.body.length c'), (15, .int .i64 x.body.length), (16, .int .i64 j)]) (fun _ => G) (fun j => x.body.length - j) (fun j => j ≤ x.body.length ∧ (x.body.take j).any litNot = false) 0
      (by repeat (first | exact Keeps.nil _ | refine Keeps.cons rfl ?_)) (Hs.sub (List.sublist_cons_self _ _)) ⟨by omega, by simp⟩ ?_
    rintro j ⟨hj, g0⟩
    refine GW.seq (GW.region ?_)
    refine R.lss ⟨rfl, rfl, rfl, rfl⟩ rfl rfl (GOps.nil ?_)
    refine GW.seq (GW.ite rfl (fun hlt => GW.skip ?_) (fun hge => GW.exit ?_))
    · have hlt : j < x.body.length := by simpa using hlt
      obtain ⟨y, hy⟩ : ∃ y, x.body[j]? = some y := ⟨_, List.getElem?_eq_getElem hlt⟩
      obtain ⟨b1, f1, cs, rfl, rfl, hrd1⟩ := hls j y hy
      refine GW.seq (GW.block ?_)
      refine GW.seq (GW.region ?_)
      refine R.indexAddrS ⟨rfl, rfl, rfl, rfl⟩ rfl rfl Tryd.underlying44 Tryd.sizeOf43 (by omega) (by omega) ?_
      refine R.loadA ⟨rfl, rfl, rfl, rfl⟩ rfl Tryd.underlying43 rfl Tryd.sizeOf43 hrd1 rfl ?_
      refine R.alloc ⟨rfl, rfl, rfl, rfl⟩ Tryd.zeroValue43 fun by_ => ?_
      refine R.storeAll (G1 := []) rfl rfl rfl rfl rfl Tryd.sizeOf43 rfl rfl rfl rfl (GOps.nil ?_)
      refine GW.seq (GW.region ?_)
      refine R.fieldAddr ⟨rfl, rfl, rfl, rfl⟩ rfl Tryd.underlying43 rfl Tryd.sizeOf41 ?_
      refine R.load1 ⟨rfl, rfl, rfl, rfl⟩ rfl Tryd.underlying41 rfl (.own' (List.mem_cons_self) rfl) ?_
      refine R.eqI ⟨rfl, rfl, rfl, rfl⟩ rfl rfl (GOps.nil ?_)
      refine GW.ite rfl (fun ht => ?_) (fun hf => GW.skip ?_)
      · refine GW.seq (GW.region ?_)
        refine R.assign ⟨rfl, rfl, rfl, rfl⟩ rfl (GOps.nil ?_)
        refine GW.ret (Out.of (Res.one rfl rfl) (Hs.tl _) ⟨?_, rfl⟩)
        rw [show negates rs = true from any_of_get _ _ _ _ hx (any_of_get _ _ _ _ hy ht)]
      · refine GW.region ?_
        refine R.add (r := ((j + 1 : Nat) : Int)) ⟨rfl, rfl, rfl, rfl⟩ rfl rfl (by rw [wrap64_id (by omega) (by omega)]; omega) ?_
        refine R.move ⟨rfl, rfl, rfl, rfl⟩ rfl (GOps.nil ?_)
        exact ⟨j + 1, by omega, ⟨by omega, any_take_succ _ _ _ _ hy g0 hf⟩, rfl, by repeat (first | exact Keeps.nil _ | refine Keeps.cons rfl ?_), Hs.sub (List.sublist_cons_self _ _)⟩
    · have hge : x.body.length ≤ j := by simpa using hge
      refine GW.region ?_
      refine R.add (r := ((i + 1 : Nat) : Int)) ⟨rfl, rfl, rfl, rfl⟩ rfl rfl (by rw [wrap64_id (by omega) (by omega)]; omega) ?_
      refine R.move ⟨rfl, rfl, rfl, rfl⟩ rfl (GOps.nil ?_)
      exact ⟨i + 1, by omega, ⟨by omega, any_take_succ _ _ _ _ hx h0 (any_of_take _ _ _ hge g0)⟩, rfl, by repeat (first | exact Keeps.nil _ | refine Keeps.cons rfl ?_), Hs.refl _⟩
  · have hge : rs.length ≤ i := by simpa using hge
    refine GW.seq (GW.region ?_)
    refine R.assign ⟨rfl, rfl, rfl, rfl⟩ rfl (GOps.nil ?_)
    refine GW.ret (Out.of (Res.one rfl rfl) (Hs.refl _) ⟨?_, rfl⟩)
    rw [show negates rs = false from any_of_take _ _ _ hge h0]
end Go.Proofs.YtgjmandjhjfgkaaDoor.Gl
