import Derived.Test.YtgjmandjhjfgkaaDoorRows
import Derived.Test.YtgjmandjhjfgkaaDoorS22
import Derived.ChangeShapes
import Derived.Deep.Slices
namespace Go.Proofs.YtgjmandjhjfgkaaDoor.Gl
open Go.RowKit Go.Shelf
set_option linter.unusedVariables false
set_option linter.unnecessarySimpa false
set_option linter.unusedSimpArgs false

/-! ### What a reading of the rows says of their cells -/
section
variable {H : Type} {enc : TypeId × Value → H} {P : Program} {w : World} {base : Nat} {spare : Nat → Bool} {held : Bool} {fuel : Nat} {t : TypeId} {cs : List Value} {x : DataW H × List MemPlace}

theorem trod_string (hu : P.underlying t = some .string) (h : DataW.trod enc P w base spare held fuel t cs = some x) : ∃ s : ByteArray, cs = [.string s] ∧ x.1 = .lit (.string s.data.toList) := by
  cases fuel with
  | zero => simp [DataW.trod] at h
  | succ fuel =>
    simp only [DataW.trod, hu] at h
    split at h <;> first | contradiction | skip
    all_goals simp_all
    all_goals first | (obtain ⟨_, rfl⟩ := h; rfl) | skip

theorem trod_int {k : IntKind} (hu : P.underlying t = some (.int k)) (h : DataW.trod enc P w base spare held fuel t cs = some x) : ∃ n : Int, cs = [.int k n] ∧ x.1 = .lit (.int k n) := by
  cases fuel with
  | zero => simp [DataW.trod] at h
  | succ fuel =>
    simp only [DataW.trod, hu] at h
    split at h <;> first | contradiction | skip
    all_goals simp_all
    all_goals first | (obtain ⟨_, rfl⟩ := h; rfl) | skip

theorem trod_struct {fs : Array Field} (hu : P.underlying t = some (.struct fs)) (h : DataW.trod enc P w base spare held fuel t cs = some x) : cs.length = P.cellsOf t ∧ ∃ (fuel' : Nat) (xs : List (DataW H × List MemPlace)), (fs.toList.mapM fun f => DataW.trod enc P w base spare held fuel' f.type ((cs.drop f.offset).take (P.cellsOf f.type))) = some xs ∧ x.1 = .agg (xs.map (·.1)) := by
  cases fuel with
  | zero => simp [DataW.trod] at h
  | succ fuel =>
    simp only [DataW.trod, hu] at h
    split at h <;> first | contradiction | skip
    all_goals simp_all
    all_goals (obtain ⟨xs, h2, h3⟩ := h; exact ⟨fuel, xs, h2, by rw [← h3]⟩)

theorem trod_array {n : Nat} {e : TypeId} (hu : P.underlying t = some (.array n e)) (h : DataW.trod enc P w base spare held fuel t cs = some x) : cs.length = P.cellsOf t ∧ ∃ (fuel' : Nat) (xs : List (DataW H × List MemPlace)), ((List.range n).mapM fun i => DataW.trod enc P w base spare held fuel' e ((cs.drop (i * P.cellsOf e)).take (P.cellsOf e))) = some xs ∧ x.1 = .agg (xs.map (·.1)) := by
  cases fuel with
  | zero => simp [DataW.trod] at h
  | succ fuel =>
    simp only [DataW.trod, hu] at h
    split at h <;> first | contradiction | skip
    all_goals simp_all
    all_goals (obtain ⟨xs, h2, h3⟩ := h; exact ⟨fuel, xs, h2, by rw [← h3]⟩)

theorem seg_app (cs : List Value) (o n m : Nat) : (cs.drop o).take (n + m) = (cs.drop o).take n ++ (cs.drop (o + n)).take m := by
  rw [List.take_add, List.drop_drop]
end

section
open _root_.Go.Proofs.YtgjmandjhjfgkaaDoor.Rows
variable {H : Type} {enc : TypeId × Value → H} {w : World} {base : Nat} {spare : Nat → Bool} {held : Bool} {fuel : Nat} {cs : List Value} {x : DataW H × List MemPlace}

theorem c9 : Tryd.prog.cellsOf 9 = 1 := by kernel_rfl
theorem c33 : Tryd.prog.cellsOf 33 = 1 := by kernel_rfl
theorem c35 : Tryd.prog.cellsOf 35 = 3 := by kernel_rfl
theorem c37 : Tryd.prog.cellsOf 37 = 4 := by kernel_rfl
theorem c40 : Tryd.prog.cellsOf 40 = 12 := by kernel_rfl
theorem c41 : Tryd.prog.cellsOf 41 = 1 := by kernel_rfl
theorem c43 : Tryd.prog.cellsOf 43 = 21 := by kernel_rfl
theorem c44 : Tryd.prog.cellsOf 44 = 1 := by kernel_rfl
theorem c46 : Tryd.prog.cellsOf 46 = 13 := by kernel_rfl

theorem trod_Tm (h : DataW.trod enc Tryd.prog w base spare held fuel 35 cs = some x) : ∃ t : Tm, cs = TmC t ∧ t.text.size ≤ uptoBulk x.1 ∧ t.ext.size ≤ uptoBulk x.1 := by
  obtain ⟨hl, f', xs, hm, hx⟩ := trod_struct Tryd.underlying35 h
  rw [c35] at hl
  simp only [List.mapM_cons, List.mapM_nil, c33, c9, Option.bind_eq_bind, Option.bind_eq_some_iff, Option.pure_def, Option.some.injEq] at hm
  obtain ⟨a, ha, _, ⟨b, hb, _, ⟨c, hc, _, rfl, rfl⟩, rfl⟩, rfl⟩ := hm
  obtain ⟨n, e1, d1⟩ := trod_int Tryd.underlying33 ha
  obtain ⟨s, e2, d2⟩ := trod_string Tryd.underlying9 hb
  obtain ⟨u, e3, d3⟩ := trod_string Tryd.underlying9 hc
  refine ⟨⟨n, s, u⟩, ?_, ?_, ?_⟩
  · have e : cs = (cs.drop 0).take (1 + (1 + 1)) := by rw [List.drop_zero, List.take_of_length_le (by omega)]
    rw [e, seg_app, seg_app, e1, e2, e3]
    rfl
  · rw [hx]
    simp [uptoBulk, uptoBulkAll, d1, d2, d3]
    have : s.data.size = s.size := rfl
    omega
  · rw [hx]
    simp [uptoBulk, uptoBulkAll, d1, d2, d3]
    have : u.data.size = u.size := rfl
    omega

theorem bulk_agg (ps : List (DataW H)) : uptoBulk (.agg ps) = uptoBulkAll ps + 1 := by simp [uptoBulk]
theorem bulk_mem : ∀ (ps : List (DataW H)) (d : DataW H), d ∈ ps → uptoBulk d ≤ uptoBulkAll ps
  | [], d, h => by simp at h
  | p :: ps, d, h => by
    simp only [uptoBulkAll]
    rcases List.mem_cons.1 h with rfl | h
    · omega
    · have := bulk_mem ps d h; omega
theorem bulk_pos (d : DataW H) : 1 ≤ uptoBulk d := by
  cases d with
  | lit l => cases l <;> simp [uptoBulk]
  | _ => simp [uptoBulk]
theorem bulk_len : ∀ (ps : List (DataW H)), ps.length ≤ uptoBulkAll ps
  | [] => by simp [uptoBulkAll]
  | p :: ps => by have := bulk_len ps; have := bulk_pos p; simp only [uptoBulkAll, List.length_cons]; omega

theorem trod_Sl (hb : uptoBulk x.1 ≤ 1048576) (h : DataW.trod enc Tryd.prog w base spare held fuel 37 cs = some x) : ∃ s : Sl, cs = SlC s ∧ SlOk s := by
  obtain ⟨hl, f', xs, hm, hx⟩ := trod_struct Tryd.underlying37 h
  rw [c37] at hl
  simp only [List.mapM_cons, List.mapM_nil, c35, c9, Option.bind_eq_bind, Option.bind_eq_some_iff, Option.pure_def, Option.some.injEq] at hm
  obtain ⟨a, ha, _, ⟨b, hb2, _, rfl, rfl⟩, rfl⟩ := hm
  obtain ⟨s, e1, d1⟩ := trod_string Tryd.underlying9 ha
  obtain ⟨t, e2, b1, b2⟩ := trod_Tm hb2
  rw [hx, bulk_agg] at hb
  have m1 := bulk_mem (List.map (fun x => x.1) [a, b]) a.1 (by simp)
  have m2 := bulk_mem (List.map (fun x => x.1) [a, b]) b.1 (by simp)
  refine ⟨⟨s, t⟩, ?_, ?_, by simp only; omega, by simp only; omega⟩
  · have e : cs = (cs.drop 0).take (1 + 3) := by rw [List.drop_zero, List.take_of_length_le (by omega)]
    rw [e, seg_app, e1, e2]
    rfl
  · rw [d1] at m1
    simp only [uptoBulk] at m1
    have : s.data.toList.length = s.size := by rw [Array.length_toList]; rfl
    simp only
    omega
theorem trod_Pt (hb : uptoBulk x.1 ≤ 1048576) (h : DataW.trod enc Tryd.prog w base spare held fuel 40 cs = some x) : ∃ p : Pt, cs = PtC p ∧ PtOk p := by
  obtain ⟨hl, f', xs, hm, hx⟩ := trod_array Tryd.underlying40 h
  rw [c40] at hl
  rw [range3] at hm
  simp only [List.mapM_cons, List.mapM_nil, c37, Option.bind_eq_bind, Option.bind_eq_some_iff, Option.pure_def, Option.some.injEq] at hm
  obtain ⟨a, ha, _, ⟨b, hb2, _, ⟨c, hc, _, rfl, rfl⟩, rfl⟩, rfl⟩ := hm
  rw [hx, bulk_agg] at hb
  have m1 := bulk_mem (List.map (fun x => x.1) [a, b, c]) a.1 (by simp)
  have m2 := bulk_mem (List.map (fun x => x.1) [a, b, c]) b.1 (by simp)
  have m3 := bulk_mem (List.map (fun x => x.1) [a, b, c]) c.1 (by simp)
  obtain ⟨s0, e0, o0⟩ := trod_Sl (by omega) ha
  obtain ⟨s1, e1, o1⟩ := trod_Sl (by omega) hb2
  obtain ⟨s2, e2, o2⟩ := trod_Sl (by omega) hc
  refine ⟨⟨s0, s1, s2⟩, ?_, o0, o1, o2⟩
  have e : cs = (cs.drop 0).take (4 + (4 + 4)) := by rw [List.drop_zero, List.take_of_length_le (by omega)]
  rw [e, seg_app, seg_app, show cs.drop 0 = cs.drop (0 * 4) from rfl, e0, show (0 + 4) = 1 * 4 from rfl, e1, show (1 * 4 + 4) = 2 * 4 from rfl, e2]
  rfl
theorem trod_Lt (hb : uptoBulk x.1 ≤ 1048576) (h : DataW.trod enc Tryd.prog w base spare held fuel 43 cs = some x) : ∃ l : Lt, cs = LtC l ∧ LtOk l := by
  obtain ⟨hl, f', xs, hm, hx⟩ := trod_struct Tryd.underlying43 h
  rw [c43] at hl
  simp only [List.mapM_cons, List.mapM_nil, c41, c40, c37, Option.bind_eq_bind, Option.bind_eq_some_iff, Option.pure_def, Option.some.injEq] at hm
  obtain ⟨a, ha, _, ⟨b, hb2, _, ⟨c, hc, _, ⟨d, hd, _, rfl, rfl⟩, rfl⟩, rfl⟩, rfl⟩ := hm
  rw [hx, bulk_agg] at hb
  have m2 := bulk_mem (List.map (fun x => x.1) [a, b, c, d]) b.1 (by simp)
  have m3 := bulk_mem (List.map (fun x => x.1) [a, b, c, d]) c.1 (by simp)
  have m4 := bulk_mem (List.map (fun x => x.1) [a, b, c, d]) d.1 (by simp)
  obtain ⟨k, e0, d0⟩ := trod_int Tryd.underlying41 ha
  obtain ⟨p, e1, o1⟩ := trod_Pt (by omega) hb2
  obtain ⟨s, e2, o2⟩ := trod_Sl (by omega) hc
  obtain ⟨u, e3, o3⟩ := trod_Sl (by omega) hd
  refine ⟨⟨k, p, s, u⟩, ?_, o1, o2, o3⟩
  have e : cs = (cs.drop 0).take (1 + (12 + (4 + 4))) := by rw [List.drop_zero, List.take_of_length_le (by omega)]
  rw [e, seg_app, seg_app, seg_app, e0, e1, e2, e3]
  rfl

theorem list_choose {α : Type} (p : Nat → α → Prop) : ∀ n, (∀ i, i < n → ∃ a, p i a) → ∃ l : List α, l.length = n ∧ ∀ (i : Nat) a, l[i]? = some a → p i a
  | 0, _ => ⟨[], rfl, fun i a h => by simp at h⟩
  | n + 1, h => by
    obtain ⟨l, hl, hp⟩ := list_choose p n (fun i hi => h i (by omega))
    obtain ⟨a, ha⟩ := h n (by omega)
    refine ⟨l ++ [a], by simp [hl], fun i b hb => ?_⟩
    rcases Nat.lt_or_ge i l.length with hi | hi
    · rw [List.getElem?_append_left hi] at hb
      exact hp i b hb
    · have : i = n := by
        have := (List.getElem?_eq_some_iff.1 hb).1
        simp at this
        omega
      subst this
      rw [List.getElem?_append_right (by omega), hl, Nat.sub_self] at hb
      simp at hb
      subst hb
      exact ha

/-- A row of elements that is read: its cells as the walk wants them. -/
theorem trod_row {α : Type} {t e : TypeId} {sz : Nat} (C : α → List Value → Prop) (ht : Tryd.prog.underlying t = some (.slice e)) (hc : Tryd.prog.cellsOf e = sz) (hsz : 0 < sz) (hb : uptoBulk x.1 ≤ 1048576) (h : DataW.trod enc Tryd.prog w base spare held fuel t cs = some x)
    (hel : ∀ (n : Nat) (cs' : List Value) (y : DataW H × List MemPlace), uptoBulk y.1 ≤ 1048576 → DataW.trod enc Tryd.prog w base spare held n e cs' = some y → ∃ a, C a cs') :
    ∃ (A : Option Addr) (as_ : List α) (c : Nat), cs = [.slice A as_.length c] ∧ as_.length ≤ c ∧ c ≤ 9223372036854775807 ∧ as_.length ≤ 1048576 ∧ RowAt w [] sz C A as_ := by
  rcases Go.Deep.open_slice ht h with ⟨rfl, _⟩ | ⟨a, len, cap, m, n, D, Pl, rfl, _, hl, hm, hmm, hx, hall⟩
  · exact ⟨Option.none, [], 0, rfl, by simp, by omega, by simp, fun i y hy => by simp at hy⟩
  · have hlm : len ≤ m := by rw [hmm]; split <;> omega
    have hx1 : x.1 = .slice ((List.range len).map D) ((List.range (m - len)).map fun j => D (len + j)) := by rw [hx]
    rw [hx1] at hb
    simp only [uptoBulk] at hb
    have hlen := bulk_len ((List.range len).map D)
    rw [List.length_map, List.length_range] at hlen
    obtain ⟨l, hl2, hp⟩ := list_choose (fun i y => ∃ cs', w.cells? base (a.add (i * sz)) sz = some cs' ∧ C y cs') len (fun i hi => by
      obtain ⟨cs', h1, h2⟩ := hall i (by omega)
      rw [hc] at h1
      have hbi := bulk_mem ((List.range len).map D) (D i) (List.mem_map.2 ⟨i, List.mem_range.2 hi, rfl⟩)
      obtain ⟨y, hy⟩ := hel n cs' (D i, Pl i) (by simp only; omega) h2
      exact ⟨y, cs', h1, hy⟩)
    subst hl2
    refine ⟨some a, l, cap, rfl, hl, hm, by omega, fun i y hy => ?_⟩
    obtain ⟨cs', h1, h2⟩ := hp i y hy
    obtain ⟨_, hlen2, hcell⟩ := World.cells?_some h1
    have hspot : a.spot = Option.none := by
      have hil : 0 < l.length := by have := (List.getElem?_eq_some_iff.1 hy).1; omega
      obtain ⟨cs0, g1, g2⟩ := hp 0 l[0] (List.getElem?_eq_getElem hil)
      obtain ⟨_, glen, gcell⟩ := World.cells?_some g1
      have h0 := gcell 0 (by omega)
      rw [List.getElem?_eq_getElem (by omega)] at h0
      have := World.cell?_spot h0
      rw [Nat.zero_mul] at this
      simpa [Addr.add] using this
    obtain ⟨b, o, sp⟩ := a
    simp only at hspot
    subst hspot
    refine ⟨b, o, cs', rfl, h2, fun j v hv => .old ?_⟩
    have hj : j < sz := by rw [← hlen2]; exact (List.getElem?_eq_some_iff.1 hv).1
    have := hcell j hj
    rw [hv, add_none, add_none] at this
    exact this

theorem row_all {α : Type} {sz : Nat} {C : α → List Value → Prop} {ok : α → Prop} {G : Hp} {A : Option Addr} {xs : List α} (h : RowAt w G sz (fun a c => C a c ∧ ok a) A xs) : RowAt w G sz C A xs ∧ ∀ a ∈ xs, ok a :=
  ⟨fun i a hi => by obtain ⟨b, o, cs, h1, h2, h3⟩ := h i a hi; exact ⟨b, o, cs, h1, h2.1, h3⟩, fun a ha => by
    obtain ⟨i, hi, rfl⟩ := List.mem_iff_getElem.1 ha
    obtain ⟨b, o, cs, h1, h2, h3⟩ := h i _ (List.getElem?_eq_getElem hi)
    exact h2.2⟩

theorem trod_Rl (hb : uptoBulk x.1 ≤ 1048576) (h : DataW.trod enc Tryd.prog w base spare held fuel 46 cs = some x) : ∃ r : Rl, RlIs w [] r cs ∧ RlOk r ∧ r.body.length ≤ 1048576 := by
  obtain ⟨hl, f', xs, hm, hx⟩ := trod_struct Tryd.underlying46 h
  rw [c46] at hl
  simp only [List.mapM_cons, List.mapM_nil, c40, c44, Option.bind_eq_bind, Option.bind_eq_some_iff, Option.pure_def, Option.some.injEq] at hm
  obtain ⟨a, ha, _, ⟨b, hb2, _, rfl, rfl⟩, rfl⟩ := hm
  rw [hx, bulk_agg] at hb
  have m1 := bulk_mem (List.map (fun x => x.1) [a, b]) a.1 (by simp)
  have m2 := bulk_mem (List.map (fun x => x.1) [a, b]) b.1 (by simp)
  obtain ⟨p, e1, o1⟩ := trod_Pt (by omega) ha
  obtain ⟨A, ls, c, e2, h1, h2, h3, hr⟩ := trod_row (fun l cs => cs = LtC l ∧ LtOk l) Tryd.underlying44 c43 (by omega) (by omega) hb2 (fun n cs' y hy hz => trod_Lt hy hz)
  obtain ⟨hr1, hr2⟩ := row_all hr
  refine ⟨⟨p, ls⟩, ⟨A, c, ?_, h1, h2, hr1⟩, ⟨o1, hr2⟩, h3⟩
  have e : cs = (cs.drop 0).take (12 + 1) := by rw [List.drop_zero, List.take_of_length_le (by omega)]
  rw [e, seg_app, e1, e2]
  rfl

theorem trod_Rls (hb : uptoBulk x.1 ≤ 1048576) (h : DataW.trod enc Tryd.prog w base spare held fuel 22 cs = some x) : ∃ (A : Option Addr) (rs : List Rl) (c : Nat), cs = [.slice A rs.length c] ∧ rs.length ≤ c ∧ c ≤ 9223372036854775807 ∧ rs.length ≤ 1048576 ∧ RlsAt w [] A rs ∧ ∀ r ∈ rs, RlOk r ∧ r.body.length ≤ 1048576 := by
  obtain ⟨A, rs, c, e2, h1, h2, h3, hr⟩ := trod_row (fun r cs => RlIs w [] r cs ∧ (RlOk r ∧ r.body.length ≤ 1048576)) Tryd.underlying22 c46 (by omega) hb h (fun n cs' y hy hz => trod_Rl hy hz)
  obtain ⟨hr1, hr2⟩ := row_all hr
  exact ⟨A, rs, c, e2, h1, h2, h3, hr1, hr2⟩
end
end Go.Proofs.YtgjmandjhjfgkaaDoor.Gl
