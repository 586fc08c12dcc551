import Derived.Test.YtgjmandjhjfgkaaDoorGp
import Derived.Great.BuildSlice
import Derived.Laws.BytesArg
import Derived.Laws.AppendOwn
import Derived.Lib.MinMax
import Derived.OwnWalk
namespace Go.Proofs.YtgjmandjhjfgkaaDoor.Gl
open Go.RowKit Go.Shelf
set_option linter.unusedVariables false
set_option linter.unnecessarySimpa false
set_option linter.unusedSimpArgs false

theorem Res.three {X : Cx} {fn : Func} {t u s : Tmp} {fr : Fr} {G : Hp} {v v' v'' : Value} (hr : fn.results = #[.tmp t, .tmp u, .tmp s]) (hv : lk fr t = some v) (hv' : lk fr u = some v') (hv'' : lk fr s = some v'') : Res X fn fr G (.tuple #[v, v', v'']) := fun a w ds hf hs => by
  have h1 := hf.look t v hv
  have h2 := hf.look u v' hv'
  have h3 := hf.look s v'' hv''
  rw [results_tmp3 hr]
  simp [Array.getD_eq_getD_getElem?, h1, h2, h3]

/-! ### What is known of a type of elements -/
abbrev InfoE (P : Program) (e : TypeId) (sz bytes : Nat) : Prop := (P.info? e).map (fun i => (i.zero.map (·.cells.size), i.size, i.bytes)) = some (some sz, sz, bytes)
theorem InfoE.mk {P : Program} {e : TypeId} {sz bytes : Nat} (h : (P.info? e).map (fun i => (i.zero.map (·.cells.size), i.size, i.bytes)) = some (some sz, sz, bytes)) : InfoE P e sz bytes := h
theorem InfoE.ex {P : Program} {e : TypeId} {sz bytes : Nat} (h : InfoE P e sz bytes) : ∃ i z, P.info? e = some i ∧ i.zero = some z ∧ z.cells.size = sz ∧ i.size = sz ∧ i.bytes = bytes := by
  unfold InfoE at h
  cases hi : P.info? e with
  | none => simp [hi] at h
  | some i =>
    simp only [hi, Option.map_some, Option.some.injEq, Prod.mk.injEq, Option.map_eq_some_iff] at h
    obtain ⟨⟨z, hz, h1⟩, h2, h3⟩ := h
    exact ⟨i, z, rfl, hz, h1, h2, h3⟩

/-- A slice of the run's own, as a whole: nil, or a row of its own. -/
inductive SlAt (sz : Nat) (e : TypeId) (cs : List Value) (n : Nat) : Value → Hp → Prop
  | nil (hn : n = 0) (hc : cs = []) : SlAt sz e cs n (.slice none 0 0) []
  | row (b cap : Nat) (hl : cs.length = n * sz) (hc : n ≤ cap) : SlAt sz e cs n (.slice (some ⟨b, 0, none⟩) n cap) [(b, .row cs e (cap * sz))]

theorem SlAt.len {sz : Nat} {e : TypeId} {cs : List Value} {n : Nat} {v : Value} {H : Hp} (h : SlAt sz e cs n v H) : cs.length = n * sz := by
  cases h with
  | nil hn hc => subst hn hc; simp
  | row b cap hl hc => exact hl

section
variable {X : Cx} {Q : Post} {fr : Fr} {ds : List Deferred} {G : Hp} {ops : Array Oper} {o : Oper} {rest : List Oper} {d : Nat}

theorem parts_of {ρ : Operand → Value} {parts : Array (Nat × Operand)} {vs : List (Nat × Value)} (hρ : ∀ x v, evO fr x = some v → ρ x = v) (hp : parts.toList.map (fun p => (evO fr p.2).map fun v => (p.1, v)) = vs.map some) : (parts.map fun (i, x) => (i, ρ x)) = vs.toArray := by
  have e : parts.map (fun p => (p.1, ρ p.2)) = vs.toArray := by
    obtain ⟨l⟩ := parts
    simp only [List.map_toArray]
    congr 1
    simp only at hp
    induction l generalizing vs with
    | nil => cases vs with
      | nil => rfl
      | cons v vs => simp at hp
    | cons x l ih => cases vs with
      | nil => simp at hp
      | cons v vs =>
        simp only [List.map_cons, List.cons.injEq, Option.map_eq_some_iff] at hp
        obtain ⟨⟨u, hu, rfl⟩, h2⟩ := hp
        rw [List.map_cons, hρ _ _ hu, ih h2]
  exact e

/-- A slice literal. -/
theorem R.buildSlice {t e : TypeId} {len : Nat} {parts : Array (Nat × Operand)} {vs : List (Nat × Value)} {cells : Array Value} (h : At X ops fr o (.buildSlice t len parts) d) (hp : parts.toList.map (fun p => (evO fr p.2).map fun v => (p.1, v)) = vs.map some)
    (hb : ∀ w, (Instr.buildSlice t len vs.toArray).run X.P w = .ok (.slice (some ⟨w.heap.size, 0, none⟩) len len) (w.alloc (.cells cells e)))
    (K : ∀ b, GOps X ops Q rest ((d, .slice (some ⟨b, 0, none⟩) len len) :: fr) ds ((b, .exact (.cells cells e)) :: G)) : GOps X ops Q (o :: rest) fr ds G :=
  R.stepW h (by simp) fun ρ w hρ hw => ⟨_, _, _, by
    simp only [execOp, h.op, parts_of hρ hp, Sem.run_bind, hb w, Result.andThen_ok]
    rfl, hw.alloc _, K w.heap.size⟩

/-- A slice literal with every place written. -/
theorem R.buildSliceF {t e : TypeId} {len sz bytes : Nat} {parts : Array (Nat × Operand)} {vs : List Value} {cs : List Value} (h : At X ops fr o (.buildSlice t len parts) d) (hp : parts.toList.map (fun p => (evO fr p.2).map fun v => (p.1, v)) = (vs.zipIdx 0).map fun x => some (x.2, x.1))
    (hu : X.P.underlying t = some (.slice e)) (hi : InfoE X.P e sz bytes) (hl : vs.length = len) (hpos : Nat.ble 1 (len * sz) = true) (hle : Nat.ble (len * sz) 16777216 = true) (h1 : vs.all (fun v => Nat.beq v.cells.size sz) = true) (hcs : (vs.flatMap fun v => v.cells.toList) = cs)
    (K : ∀ b, GOps X ops Q rest ((d, .slice (some ⟨b, 0, none⟩) len len) :: fr) ds ((b, .exact (.cells cs.toArray e (0, 0))) :: G)) : GOps X ops Q (o :: rest) fr ds G := by
  obtain ⟨i, z, hi1, hz, hzs, hs1, hb1⟩ := hi.ex
  have hpos := Nat.le_of_ble_eq_true hpos
  have hle := Nat.le_of_ble_eq_true hle
  have hsz : 0 < sz := by
    rcases Nat.eq_zero_or_pos sz with h0 | h0
    · subst h0; simp at hpos
    · exact h0
  subst hl hcs
  refine R.buildSlice (vs := (vs.zipIdx 0).map fun x => (x.2, x.1)) h (by rw [hp, List.map_map]; rfl) (fun w => ?_) K
  refine run_buildSlice w t e _ _ _ i z hu hi1 hz (by rw [hs1]; omega) (by rw [hs1]; omega) ?_
  rw [hs1]
  refine Great.fill_whole hsz vs _ (fun v hv => ?_) (by simp)
  exact Nat.eq_of_beq_eq_true ((List.all_eq_true.1 h1) v hv)

theorem R.minI {x y : Operand} {k k' : IntKind} {m n r : Int} {ats : Array TypeId} (h : At X ops fr o (.call { callee := .builtin .min, args := #[x, y], argTypes := ats }) d) (hx : evO fr x = some (.int k m)) (hy : evO fr y = some (.int k' n)) (hr : min m n = r)
    (K : GOps X ops Q rest ((d, .int k r) :: fr) ds G) : GOps X ops Q (o :: rest) fr ds G :=
  R.val h (by simp) (fun ρ w hρ hw => by
    have := Lib.run_min_ints (P := X.P) w ats o.type k k' m n
    subst hr
    simp [execOp, h.op, resolve, invoke, builtin, hρ _ _ hx, hρ _ _ hy, this]) K

/-- Bytes as a string. -/
def strOf (l : List Nat) : ByteArray := ⟨(l.map UInt8.ofNat).toArray⟩
theorem bs_strOf {l : List Nat} (h : ∀ c ∈ l, c < 256) : bs (strOf l) = l := by
  simp only [bs, strOf, List.map_map]
  conv => rhs; rw [← List.map_id l]
  refine List.map_congr_left fun c hc => ?_
  simp [Nat.mod_eq_of_lt (h c hc)]
theorem strOf_bs (s : ByteArray) : strOf (bs s) = s := by
  obtain ⟨⟨l⟩⟩ := s
  simp [strOf, bs, List.map_map, Function.comp_def]
theorem bs_inj {s t : ByteArray} (h : bs s = bs t) : s = t := by rw [← strOf_bs s, h, strOf_bs]
theorem toList_beq (s t : ByteArray) : (s.toList == t.toList) = (bs s == bs t) := by
  rw [ByteArray.toList_eq, ByteArray.toList_eq, Bool.eq_iff_iff]
  simp only [beq_iff_eq]
  constructor
  · intro h; simp [bs, h]
  · intro h; rw [bs_inj h]
theorem bs_empty : bs ByteArray.empty = [] := rfl
theorem size_zero {s : ByteArray} : s.size = 0 ↔ bs s = [] := by rw [← bs_length, List.length_eq_zero_iff]

theorem R.convBytes {s t e : TypeId} {x : Operand} {b f n c : Nat} {l : List Nat} (h : At X ops fr o (.convert s t x) d) (hx : evO fr x = some (.slice (some ⟨b, f, none⟩) n c)) (hs : X.P.underlying s = some (.slice e)) (he : X.P.underlying e = some (.int .u8)) (ht : X.P.underlying t = some .string)
    (hl : l.length = n) (hr : Rds X.w0 G b f (l.map fun c => Value.int .u8 (c : Nat))) (K : GOps X ops Q rest ((d, .string (strOf l)) :: fr) ds G) : GOps X ops Q (o :: rest) fr ds G :=
  R.val h (by simp) (fun ρ w hρ hw => by
    have hc := run_convert_bytes_arg (P := X.P) w s e hs he b f n c (l.map fun (c : Nat) => (c : Int)) (by simpa using hl) (fun i hi => by
      have := (hr i (.int .u8 ((l.getD i 0 : Nat) : Int)) (by simp [List.getElem?_map, List.getElem?_eq_getElem (show i < l.length by omega)])).cell hw
      rw [this]
      simp [List.getD, List.getElem?_map, List.getElem?_eq_getElem (show i < l.length by omega)]) t ht
    have e2 : strOfNums (l.map fun (c : Nat) => (c : Int)) = strOf l := by simp [strOfNums, strOf, List.map_map, Function.comp_def]
    rw [e2] at hc
    simp only [execOp, h.op, hρ _ _ hx, Sem.run_bind, hc, Result.andThen_ok]
    rfl) K

theorem Sat.alloc_row {w0 w : World} {G : Hp} {cs : List Value} {rest : Array Value} {e : TypeId} (h : Sat w0 G w) (n : Nat) (hn : cs.length + rest.size = n) : Sat w0 ((w.heap.size, .row cs e n) :: G) (w.alloc (.cells (cs.toArray ++ rest) e)) := by
  refine Sat.weakKnow (G1 := []) (h.alloc (.cells (cs.toArray ++ rest) e)) (fun x hx => ?_)
  simp only [Know.holds] at hx ⊢
  refine ⟨_, hx, by simp [hn], fun j v hv => ?_⟩
  have hj : j < cs.length := (List.getElem?_eq_some_iff.1 hv).1
  rw [Array.getElem?_append_left (by simpa using hj)]
  simpa using hv

/-- Elements are put behind a slice of the run's own. -/
theorem R.append {t e : TypeId} {x y : Operand} {sz bytes n : Nat} {cs : List Value} {v : Value} {G1 G2 H : Hp} {ats : Array TypeId} {ab af m c : Nat} {news : List Value} (h : At X ops fr o (.call { callee := .builtin .append, args := #[x, y], argTypes := ats }) d) (hats : ats = #[t, t])
    (hx : evO fr x = some v) (hy : evO fr y = some (.slice (some ⟨ab, af, none⟩) m c)) (hu : X.P.underlying t = some (.slice e)) (hi : InfoE X.P e sz bytes) (hv : SlAt sz e cs n v H) (hG : G = G1 ++ (H ++ G2))
    (hl : news.length = m * sz) (hr : Rds X.w0 G ab af news) (hm : 0 < m) (h1 : news.all (·.oneCell') = true) (hfit : (n + m) * bytes ≤ 140737488355328) (h63 : n + m ≤ 9223372036854775807)
    (K : ∀ v' H', SlAt sz e (cs ++ news) (n + m) v' H' → GOps X ops Q rest ((d, v') :: fr) ds (G1 ++ (H' ++ G2))) : GOps X ops Q (o :: rest) fr ds G := by
  obtain ⟨i, z, hi1, hz, hzs, hs1, hb1⟩ := hi.ex
  subst hG hats
  have hrl : ∀ {w}, Sat X.w0 (G1 ++ (H ++ G2)) w → ∀ j u, news[j]? = some u → w.cell? ((⟨ab, af, none⟩ : Addr).add j) = some u := fun hw j u hj => by rw [add_none]; exact (hr j u hj).cell hw
  have hgb : ∀ (w : World) need old, need ≤ grownCap w need old e := fun w need old => by
    simp only [grownCap, Question.cut]; omega
  have hlen := hv.len
  cases hv with
  | nil hn hc =>
    subst hn hc
    refine R.stepW h (by simp) fun ρ w hρ hw => ?_
    have hrun := run_append_nil (P := X.P) w t o.type e i z hu hi1 hz ⟨ab, af, none⟩ m c news (by rw [hs1]; exact hl) (hrl hw) hm (by omega) (by rw [hb1]; simp only [Nat.zero_add] at hfit; omega)
    refine ⟨_, (w.heap.size, .row news e (grownCap w m 0 e * sz)) :: (G1 ++ G2), _, by
      simp only [execOp, h.op, resolve, invoke, builtin, List.map_toArray, List.map_cons, List.map_nil, hρ _ _ hx, hρ _ _ hy, Sem.run_bind, Sem.run_pure, Result.andThen_ok, hrun]
      rfl, Sat.alloc_row (w := w.drew) (by simpa using hw.drew) _ (by rw [hl, size_zeroCells, hzs, ← Nat.add_mul]; congr 1; have := hgb w m 0; omega), ?_⟩
    have := K (.slice (some ⟨w.heap.size, 0, none⟩) m (grownCap w m 0 e)) [(w.heap.size, .row news e (grownCap w m 0 e * sz))] (by
      have := SlAt.row (sz := sz) (e := e) (cs := news) (n := m) w.heap.size (grownCap w m 0 e) hl (hgb w m 0)
      simpa using this)
    exact GOps.weak (Keeps.refl _) (Hs.perm (by simpa using List.perm_middle)) this
  | row b cap hl0 hcap =>
    rcases Nat.lt_or_ge cap (n + m) with hroom | hroom
    · refine R.stepW h (by simp) fun ρ w hρ hw => ?_
      have hold : ∀ j u, cs[j]? = some u → w.cell? ((⟨b, 0, none⟩ : Addr).add j) = some u := fun j u hj => by
        rw [add_none]
        exact (Rd.own (w0 := X.w0) (k := .row cs e (cap * sz)) (List.mem_append_right _ List.mem_cons_self) (by simpa [Know.cell] using hj)).cell hw
      have hrun := run_append_grow (P := X.P) w t o.type e i z hu hi1 hz ⟨b, 0, none⟩ n cap cs (by rw [hs1]; exact hl0) hold ⟨ab, af, none⟩ m c news (by rw [hs1]; exact hl) (hrl hw) hroom (by omega) (by rw [hb1]; exact growslice_fits hroom hfit)
      refine ⟨_, (w.heap.size, .row (cs ++ news) e (grownCap w (n + m) cap e * sz)) :: (G1 ++ G2), _, by
        simp only [execOp, h.op, resolve, invoke, builtin, List.map_toArray, List.map_cons, List.map_nil, hρ _ _ hx, hρ _ _ hy, Sem.run_bind, Sem.run_pure, Result.andThen_ok, hrun]
        rfl, ?_, ?_⟩
      · have e1 : cs.toArray ++ news.toArray = (cs ++ news).toArray := by simp
        rw [e1]
        exact Sat.alloc_row (w := w.drew) (Sat.drop (by simpa using hw.drew)) _ (by rw [List.length_append, hl, hl0, size_zeroCells, hzs, ← Nat.add_mul, ← Nat.add_mul]; congr 1; have := hgb w (n + m) cap; omega)
      · have := K (.slice (some ⟨w.heap.size, 0, none⟩) (n + m) (grownCap w (n + m) cap e)) [(w.heap.size, .row (cs ++ news) e (grownCap w (n + m) cap e * sz))] (SlAt.row _ _ (by rw [List.length_append, hl, hl0, Nat.add_mul]) (hgb w (n + m) cap))
        exact GOps.weak (Keeps.refl _) (Hs.perm (by simpa using List.perm_middle)) this
    · refine R.stepW h (by simp) fun ρ w hρ hw => ?_
      have hb := (hw.own b (.row cs e (cap * sz)) (List.mem_append_right _ List.mem_cons_self)).2
      obtain ⟨C, hC, hsz, hh⟩ := hb
      have hfit' : n * sz + news.length ≤ C.size := by rw [hl, hsz, ← Nat.add_mul]; exact Nat.mul_le_mul_right _ hroom
      have hrun := run_append_room (P := X.P) w t o.type e i hu hi1 b n cap C hC ⟨ab, af, none⟩ m c news (by rw [hs1]; exact hl) (hrl hw) (fun u hu => (List.all_eq_true.1 h1) u hu) hroom (by rw [hs1]; exact hfit')
      refine ⟨_, G1 ++ ((b, .row (cs ++ news) e (cap * sz)) :: G2), _, by
        simp only [execOp, h.op, resolve, invoke, builtin, List.map_toArray, List.map_cons, List.map_nil, hρ _ _ hx, hρ _ _ hy, Sem.run_bind, Sem.run_pure, Result.andThen_ok, hrun]
        rfl, ?_, ?_⟩
      · refine Sat.turn (w := w) (k := .row cs e (cap * sz)) (by simpa using hw) rfl rfl rfl (by simp [World.setRow]) (fun j hj => ?_) ?_
        · simp only [World.setRow, Array.getElem?_modify]
          rw [if_neg (fun e => hj e.symm)]
        · rw [setRow_heap w b C _ e (0, 0) hC]
          have hlen1 : C.size = C.toList.length := by simp
          have htk : C.toList.take (n * sz) = cs := by
            apply List.ext_getElem?
            intro j
            rcases Nat.lt_or_ge j (n * sz) with hj | hj
            · rw [List.getElem?_take_of_lt hj]
              have := hh j cs[j] (List.getElem?_eq_getElem (by omega))
              rw [Array.getElem?_toList, this, List.getElem?_eq_getElem (by omega)]
            · rw [List.getElem?_eq_none (by simp; omega), List.getElem?_eq_none (by omega)]
          refine ⟨_, rfl, ?_, fun j u hu => ?_⟩
          · simp only [hs1, List.size_toArray, List.length_append, List.length_take, List.length_drop]
            omega
          · have hj : j < (cs ++ news).length := (List.getElem?_eq_some_iff.1 hu).1
            rw [hs1, htk, List.getElem?_toArray, List.getElem?_append_left hj]
            exact hu
      · exact K _ [(b, .row (cs ++ news) e (cap * sz))] (SlAt.row _ _ (by rw [List.length_append, hl, hl0, Nat.add_mul]) hroom)
end
end Go.Proofs.YtgjmandjhjfgkaaDoor.Gl
