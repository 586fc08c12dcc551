import Derived.Test.YtgjmandjhjfgkaaDoorS6
import Derived.Test.YtgjmandjhjfgkaaDoorGt
import Derived.Lib.IndexLaws
namespace Go.Proofs.YtgjmandjhjfgkaaDoor.Gl
open Go.RowKit Go.Shelf
set_option linter.unusedVariables false
set_option linter.unnecessarySimpa false
set_option linter.unusedSimpArgs false
attribute [-simp] List.getD_eq_getElem?_getD



def dashAt (s : ByteArray) : Int := Lib.indexByte s.data.toList ((45 : Nat) : Int).toNat.toUInt8
def dashes (l : List Nat) : Nat := l.count 45
theorem u8_45 (u : UInt8) : u = ((45 : Nat) : Int).toNat.toUInt8 ↔ u.toNat = 45 := by
  constructor
  · rintro rfl; rfl
  · intro h
    apply UInt8.toNat_inj.1
    rw [h]; rfl
theorem dashes_eq (s : ByteArray) : Lib.countByte s.data.toList ((45 : Nat) : Int).toNat.toUInt8 = dashes (bs s) := by
  unfold Lib.countByte dashes bs
  induction s.data.toList with
  | nil => rfl
  | cons u l ih =>
    rw [List.map_cons, List.count_cons, List.count_cons, ih]
    congr 1
    by_cases h : u.toNat = 45
    · rw [if_pos (by simpa using (u8_45 u).2 h), if_pos (by simpa using h)]
    · rw [if_neg (by simpa using fun hh => h ((u8_45 u).1 hh)), if_neg (by simpa using h)]
theorem dashAt_ge (s : ByteArray) : -1 ≤ dashAt s := Lib.indexByte_ge _ _
theorem bs_get (s : ByteArray) (k : Nat) : (bs s)[k]? = (s.data.toList[k]?).map (·.toNat) := by unfold bs; rw [List.getElem?_map]
theorem dashAt_some {s : ByteArray} {m : Nat} (h : dashAt s = m) : (bs s)[m]? = some 45 ∧ ∀ k, k < m → (bs s)[k]? ≠ some 45 := by
  obtain ⟨g1, g2⟩ := Lib.indexByte_some (o := m) h
  refine ⟨by rw [bs_get, g1]; rfl, fun k hk hh => g2 k hk ?_⟩
  rw [bs_get, Option.map_eq_some_iff] at hh
  obtain ⟨u, hu, h45⟩ := hh
  rw [hu, (u8_45 u).2 h45]
theorem dashAt_none {s : ByteArray} (h : dashAt s < 0) : 45 ∉ bs s := by
  have := Lib.indexByte_none (l := s.data.toList) (c := ((45 : Nat) : Int).toNat.toUInt8) (by have := dashAt_ge s; unfold dashAt at *; omega)
  intro hm
  obtain ⟨k, hk, hk2⟩ := List.mem_iff_getElem.1 hm
  have h3 : (bs s)[k]? = some 45 := by rw [List.getElem?_eq_getElem hk, hk2]
  rw [bs_get, Option.map_eq_some_iff] at h3
  obtain ⟨u, hu, h45⟩ := h3
  exact this k (by rw [hu, (u8_45 u).2 h45])
theorem dashAt_self {s sep : ByteArray} (h1 : sep.size = 1) (h2 : (bs sep)[0]? = some 45) (h : (sep.toList == s.toList) = true) : dashAt s = 0 := by
  rw [toList_beq, beq_iff_eq] at h
  have e := bs_inj h
  subst e
  have h3 := dashAt_ge sep
  rcases Int.lt_or_le (dashAt sep) 0 with hn | hn
  · exact absurd (List.mem_of_getElem? h2) (dashAt_none hn)
  · obtain ⟨m, hm⟩ := Int.eq_ofNat_of_zero_le hn
    obtain ⟨g1, g2⟩ := dashAt_some hm
    rcases Nat.eq_zero_or_pos m with h0 | h0
    · rw [hm, h0]; rfl
    · exact absurd h2 (g2 0 h0)
theorem count_le (l : List Nat) : dashes l ≤ l.length := List.count_le_length
/-- One piece off. -/
theorem cut_dash {s : ByteArray} {m : Nat} (h : dashAt s = m) : m < s.size ∧ bs s = (bs s).take m ++ [45] ++ (bs s).drop (m + 1) ∧ 45 ∉ (bs s).take m ∧ dashes ((bs s).drop (m + 1)) + 1 = dashes (bs s) := by
  obtain ⟨g1, g2⟩ := dashAt_some h
  have hlt : m < (bs s).length := (List.getElem?_eq_some_iff.1 g1).1
  have e : bs s = (bs s).take m ++ [45] ++ (bs s).drop (m + 1) := by
    have h3 : (bs s)[m] = 45 := by
      have := List.getElem?_eq_getElem hlt
      rw [g1] at this
      exact (Option.some.inj this).symm
    have h4 : [45] ++ (bs s).drop (m + 1) = (bs s).drop m := by rw [List.drop_eq_getElem_cons hlt, h3]; rfl
    rw [List.append_assoc, h4, List.take_append_drop]
  have hn : 45 ∉ (bs s).take m := by
    intro hm
    obtain ⟨k, hk, hk2⟩ := List.mem_iff_getElem.1 hm
    have hkm : k < m := by rw [List.length_take] at hk; omega
    refine g2 k hkm ?_
    rw [List.getElem_take] at hk2
    rw [List.getElem?_eq_getElem (by omega), hk2]
  refine ⟨by rw [← bs_length]; exact hlt, e, hn, ?_⟩
  conv => rhs; rw [e]
  unfold dashes
  rw [List.count_append, List.count_append, List.count_eq_zero.2 hn]
  simp
  omega
theorem no_dash {s : ByteArray} (h : dashes (bs s) = 0) : 45 ∉ bs s := List.count_eq_zero.1 h
theorem dashAt_pos {s : ByteArray} (h : dashes (bs s) ≠ 0) : 0 ≤ dashAt s := by
  rcases Int.lt_or_le (dashAt s) 0 with hn | hn
  · exact absurd (List.count_eq_zero.2 (dashAt_none hn)) h
  · exact hn
/-- What pieces with dashes between come to. -/
def joinE (ps : List ByteArray) (l : List Nat) : List Nat := ps.flatMap (fun p => bs p ++ [45]) ++ l
theorem joinE_snoc (ps : List ByteArray) (p : ByteArray) (l : List Nat) : joinE (ps ++ [p]) l = joinE ps (bs p ++ [45] ++ l) := by simp [joinE]
theorem splice_size (C : Array Value) (f : Nat) (cs : List Value) (h : f + cs.length ≤ C.size) : (splice C f cs).size = C.size := by
  unfold splice
  have : C.size = C.toList.length := by simp
  simp
  omega
theorem splice_at (C : Array Value) (f : Nat) (v : Value) (h : f < C.size) (j : Nat) : (splice C f [v])[j]? = if j = f then some v else C[j]? := by
  have hl : f < C.toList.length := by simpa using h
  unfold splice
  rw [List.getElem?_toArray]
  by_cases hj : j < f
  · rw [List.append_assoc, List.getElem?_append_left (by simp; omega), List.getElem?_take_of_lt hj, if_neg (by omega), Array.getElem?_toList]
  · by_cases hj2 : j = f
    · subst hj2
      rw [if_pos rfl, List.append_assoc, List.getElem?_append_right (by simp; omega)]
      simp [List.length_take]
      rw [Nat.min_eq_left (by omega)]
      simp
    · rw [if_neg hj2, List.getElem?_append_right (by simp; omega), List.getElem?_drop]
      simp only [List.length_append, List.length_take, List.length_singleton]
      rw [Nat.min_eq_left (by omega), ← Array.getElem?_toList]
      congr 1
      omega
/-- The pieces that lie in the new array. -/
def PcAt (C : Array Value) (ps : List ByteArray) : Prop := ∀ (j : Nat) p, ps[j]? = some p → C[j]? = some (.string p)
theorem PcAt.push {C : Array Value} {ps : List ByteArray} (h : PcAt C ps) (p : ByteArray) (f : Nat) (hf : f = ps.length) (hl : f < C.size) : PcAt (splice C f [.string p]) (ps ++ [p]) := by
  intro j q hq
  rw [splice_at C f _ hl]
  rcases Nat.lt_or_ge j ps.length with hj | hj
  · rw [if_neg (by omega)]
    rw [List.getElem?_append_left hj] at hq
    exact h j q hq
  · have : j = ps.length := by
      have := (List.getElem?_eq_some_iff.1 hq).1
      simp at this
      omega
    subst this
    rw [if_pos hf.symm]
    simp at hq
    rw [hq]
structure SpI (s x : ByteArray) (ps : List ByteArray) (i : Nat) (C : Array Value) : Prop where
  len : i = ps.length
  cnt : i + dashes (bs x) = dashes (bs s)
  join : bs s = joinE ps (bs x)
  no : ∀ p ∈ ps, 45 ∉ bs p
  pc : PcAt C ps
  size : C.size = dashes (bs s) + 1
  small : x.size ≤ 1048576
theorem SpI.zero {s : ByteArray} {C : Array Value} (hm : s.size ≤ 1048576) (h : C.size = dashes (bs s) + 1) : SpI s s [] 0 C :=
  ⟨rfl, by omega, by simp [joinE], by simp, fun j p h => by simp at h, h, hm⟩
theorem SpI.step {s x : ByteArray} {ps : List ByteArray} {i m : Nat} {C : Array Value} (h : SpI s x ps i C) (hmm : dashAt x = m) :
    SpI s (x.extract ((m + 1 : Nat) : Int).toNat x.size) (ps ++ [x.extract 0 (m : Int).toNat]) (i + 1) (splice C (0 + (i : Int).toNat * 1) [.string (x.extract 0 (m : Int).toNat)]) := by
  obtain ⟨g1, g2, g3, g4⟩ := cut_dash hmm
  have e1 : bs (x.extract ((m + 1 : Nat) : Int).toNat x.size) = (bs x).drop (m + 1) := bs_from x (m + 1)
  have e2 : bs (x.extract 0 (m : Int).toNat) = (bs x).take m := by rw [bs_extract]; simp
  have hc := h.cnt
  have hs := h.size
  have hl := h.len
  refine ⟨by simp; omega, by rw [e1]; omega, ?_, ?_, h.pc.push _ _ (by omega) (by omega), ?_, ?_⟩
  · rw [joinE_snoc, e1, e2, ← g2]; exact h.join
  · intro p hp
    rcases List.mem_append.1 hp with hp | hp
    · exact h.no p hp
    · rw [List.mem_singleton] at hp
      subst hp
      rw [e2]
      exact g3
  · rw [splice_size _ _ _ (by simp; omega)]; exact hs
  · have := h.small
    simp only [ByteArray.size_extract]
    omega


theorem str_Count (w0 : World) (G : Hp) (s sep : ByteArray) (h1 : sep.size = 1) (h2 : (bs sep)[0]? = some 45) : GC Tryd.prog w0 76 #[.string s, .string sep] (fun v G' => v = .int .i64 (dashes (bs s) : Nat) ∧ G = G') G := by
  refine GC.body (args := [.string s, .string sep]) Tryd.func76 rfl (by kernel_rfl) rfl ?_
  refine GW.seq ?_
  refine GW.region ?_
  refine R.assign ⟨rfl, rfl, rfl, rfl⟩ rfl ?_
  refine GOps.nil ?_
  refine GW.seq ?_
  refine GW.seq ?_
  refine GW.region ?_
  refine R.move ⟨rfl, rfl, rfl, rfl⟩ rfl ?_
  refine R.lenStr ⟨rfl, rfl, rfl, rfl⟩ rfl rfl Tryd.underlying9 ?_
  refine R.eqI ⟨rfl, rfl, rfl, rfl⟩ rfl rfl ?_   -- eql ['t8', '0']
  refine GOps.nil ?_
  refine GW.ite rfl (fun hc1 => ?_) (fun hc1 => ?_)
  · try simp only [decide_eq_true_eq, decide_eq_false_iff_not, Bool.not_eq_true', Bool.not_eq_false'] at hc1
    exfalso; omega
  · try simp only [decide_eq_true_eq, decide_eq_false_iff_not, Bool.not_eq_true', Bool.not_eq_false'] at hc1
    refine GW.skip ?_
    refine GW.seq ?_
    refine GW.seq ?_
    refine GW.region ?_
    refine R.move ⟨rfl, rfl, rfl, rfl⟩ rfl ?_
    refine R.lenStr ⟨rfl, rfl, rfl, rfl⟩ rfl rfl Tryd.underlying9 ?_
    refine R.eqI ⟨rfl, rfl, rfl, rfl⟩ rfl rfl ?_   -- eql ['t14', '1']
    refine GOps.nil ?_
    refine GW.ite rfl (fun hc2 => ?_) (fun hc2 => ?_)
    · try simp only [decide_eq_true_eq, decide_eq_false_iff_not, Bool.not_eq_true', Bool.not_eq_false'] at hc2
      refine GW.seq ?_
      refine GW.region ?_
      refine R.move ⟨rfl, rfl, rfl, rfl⟩ rfl ?_
      refine R.move ⟨rfl, rfl, rfl, rfl⟩ rfl ?_
      refine R.indexStr ⟨rfl, rfl, rfl, rfl⟩ rfl rfl Tryd.underlying9 (by omega) (h2) ?_   -- "strings.go:48" ['t17', '0']
      refine R.ext ⟨rfl, rfl, rfl, rfl⟩ Tryd.func80 (by kernel_rfl) rfl (by kernel_rfl) (e := Extern.BytealgCount.count) (by kernel_rfl) (vs := [_, _]) rfl (fun w => Lib.run_countString _ _ w) ?_
      refine R.assign ⟨rfl, rfl, rfl, rfl⟩ rfl ?_
      refine GOps.nil ?_
      refine GW.ret (Out.of (Res.one rfl rfl) (by first | exact Hs.refl _ | exact Hs.tl _ | exact Hs.tl2 _ _ | exact Hs.tl3 _ _ _ | exact (Hs.app _).trans (Hs.tl _) | exact (Hs.app _).trans ((Hs.app _).trans (Hs.tl _))) ⟨?_, rfl⟩)
      rw [← dashes_eq]
    · try simp only [decide_eq_true_eq, decide_eq_false_iff_not, Bool.not_eq_true', Bool.not_eq_false'] at hc2
      exfalso; omega

theorem lite_Index (w0 : World) (G : Hp) (s sep : ByteArray) (h1 : sep.size = 1) (h2 : (bs sep)[0]? = some 45) : GC Tryd.prog w0 81 #[.string s, .string sep] (fun v G' => v = .int .i64 (dashAt s) ∧ G = G') G := by
  refine GC.body (args := [.string s, .string sep]) Tryd.func81 rfl (by kernel_rfl) rfl ?_
  refine GW.seq ?_
  refine GW.region ?_
  refine R.assign ⟨rfl, rfl, rfl, rfl⟩ rfl ?_
  refine GOps.nil ?_
  refine GW.seq ?_
  refine GW.region ?_
  refine R.move ⟨rfl, rfl, rfl, rfl⟩ rfl ?_
  refine R.lenStr ⟨rfl, rfl, rfl, rfl⟩ rfl rfl Tryd.underlying9 ?_
  refine R.assign ⟨rfl, rfl, rfl, rfl⟩ rfl ?_
  refine GOps.nil ?_
  refine GW.seq ?_
  refine GW.block ?_
  refine GW.seq ?_
  refine GW.region ?_
  refine R.move ⟨rfl, rfl, rfl, rfl⟩ rfl ?_
  refine R.eqI ⟨rfl, rfl, rfl, rfl⟩ rfl rfl ?_   -- eql ['t17', '0']
  refine R.move ⟨rfl, rfl, rfl, rfl⟩ rfl ?_
  refine GOps.caseB 19 rfl (fun hg1 => ?_) (fun hg1 => ?_)
  · try simp only [decide_eq_true_eq, decide_eq_false_iff_not, Bool.not_eq_true', Bool.not_eq_false'] at hg1
    refine GOps.skip rfl rfl rfl ?_
    refine GOps.skip rfl rfl rfl ?_
    refine GOps.skip rfl rfl rfl ?_
    refine R.pick_t ⟨rfl, rfl, rfl, rfl⟩ rfl rfl ?_
    refine R.assign ⟨rfl, rfl, rfl, rfl⟩ rfl ?_
    refine GOps.nil ?_
    refine GW.cond_t rfl ?_
    refine GW.seq ?_
    refine GW.region ?_
    refine R.assign ⟨rfl, rfl, rfl, rfl⟩ rfl ?_
    refine GOps.nil ?_
    refine GW.ret (Out.of (Res.one rfl rfl) (by first | exact Hs.refl _ | exact Hs.tl _ | exact Hs.tl2 _ _ | exact Hs.tl3 _ _ _ | exact (Hs.app _).trans (Hs.tl _) | exact (Hs.app _).trans ((Hs.app _).trans (Hs.tl _))) ⟨?_, rfl⟩)
    first | rfl | rw [dashAt_self h1 h2 (by assumption)] | (exfalso; omega)
  · try simp only [decide_eq_true_eq, decide_eq_false_iff_not, Bool.not_eq_true', Bool.not_eq_false'] at hg1
    refine R.move ⟨rfl, rfl, rfl, rfl⟩ rfl ?_
    refine R.move ⟨rfl, rfl, rfl, rfl⟩ rfl ?_
    refine R.eqS ⟨rfl, rfl, rfl, rfl⟩ rfl rfl ?_   -- eql ['t20', 't21']
    refine R.pick_f ⟨rfl, rfl, rfl, rfl⟩ rfl rfl ?_
    refine R.assign ⟨rfl, rfl, rfl, rfl⟩ rfl ?_
    refine GOps.nil ?_
    refine GW.ite rfl (fun hc2 => ?_) (fun hc2 => ?_)
    · try simp only [decide_eq_true_eq, decide_eq_false_iff_not, Bool.not_eq_true', Bool.not_eq_false'] at hc2
      rw [dashAt_self h1 h2 hc2]
      refine GW.seq ?_
      refine GW.region ?_
      refine R.assign ⟨rfl, rfl, rfl, rfl⟩ rfl ?_
      refine GOps.nil ?_
      refine GW.ret (Out.of (Res.one rfl rfl) (by first | exact Hs.refl _ | exact Hs.tl _ | exact Hs.tl2 _ _ | exact Hs.tl3 _ _ _ | exact (Hs.app _).trans (Hs.tl _) | exact (Hs.app _).trans ((Hs.app _).trans (Hs.tl _))) ⟨?_, rfl⟩)
      first | rfl | rw [dashAt_self h1 h2 (by assumption)] | (exfalso; omega)
    · try simp only [decide_eq_true_eq, decide_eq_false_iff_not, Bool.not_eq_true', Bool.not_eq_false'] at hc2
      skip
      refine GW.seq ?_
      refine GW.region ?_
      refine R.move ⟨rfl, rfl, rfl, rfl⟩ rfl ?_
      refine R.eqI ⟨rfl, rfl, rfl, rfl⟩ rfl rfl ?_   -- eql ['t25', '1']
      refine R.assign ⟨rfl, rfl, rfl, rfl⟩ rfl ?_
      refine GOps.nil ?_
      refine GW.ite rfl (fun hc3 => ?_) (fun hc3 => ?_)
      · try simp only [decide_eq_true_eq, decide_eq_false_iff_not, Bool.not_eq_true', Bool.not_eq_false'] at hc3
        refine GW.seq ?_
        refine GW.region ?_
        refine R.move ⟨rfl, rfl, rfl, rfl⟩ rfl ?_
        refine R.move ⟨rfl, rfl, rfl, rfl⟩ rfl ?_
        refine R.indexStr ⟨rfl, rfl, rfl, rfl⟩ rfl rfl Tryd.underlying9 (by omega) (h2) ?_   -- "strings.go:34" ['t28', '0']
        refine R.call ⟨rfl, rfl, rfl, rfl⟩ rfl (vs := [_, _]) rfl ((lite_IndexByte _ _ _ _).mono ?_)
        rintro _ _ ⟨rfl, rfl⟩
        refine R.assign ⟨rfl, rfl, rfl, rfl⟩ rfl ?_
        refine GOps.nil ?_
        refine GW.ret (Out.of (Res.one rfl rfl) (by first | exact Hs.refl _ | exact Hs.tl _ | exact Hs.tl2 _ _ | exact Hs.tl3 _ _ _ | exact (Hs.app _).trans (Hs.tl _) | exact (Hs.app _).trans ((Hs.app _).trans (Hs.tl _))) ⟨?_, rfl⟩)
        first | rfl | rw [dashAt_self h1 h2 (by assumption)] | (exfalso; omega)
      · try simp only [decide_eq_true_eq, decide_eq_false_iff_not, Bool.not_eq_true', Bool.not_eq_false'] at hc3
        exfalso; omega

theorem str_Index (w0 : World) (G : Hp) (s sep : ByteArray) (h1 : sep.size = 1) (h2 : (bs sep)[0]? = some 45) : GC Tryd.prog w0 77 #[.string s, .string sep] (fun v G' => v = .int .i64 (dashAt s) ∧ G = G') G := by
  refine GC.body (args := [.string s, .string sep]) Tryd.func77 rfl (by kernel_rfl) rfl ?_
  refine GW.seq ?_
  refine GW.region ?_
  refine R.assign ⟨rfl, rfl, rfl, rfl⟩ rfl ?_
  refine GOps.nil ?_
  refine GW.seq ?_
  refine GW.region ?_
  refine R.move ⟨rfl, rfl, rfl, rfl⟩ rfl ?_
  refine R.move ⟨rfl, rfl, rfl, rfl⟩ rfl ?_
  refine R.call ⟨rfl, rfl, rfl, rfl⟩ rfl (vs := [_, _]) rfl ((lite_Index _ _ _ _ h1 h2).mono ?_)
  rintro _ _ ⟨rfl, rfl⟩
  refine R.assign ⟨rfl, rfl, rfl, rfl⟩ rfl ?_
  refine GOps.nil ?_
  refine GW.ret (Out.of (Res.one rfl rfl) (by first | exact Hs.refl _ | exact Hs.tl _ | exact Hs.tl2 _ _ | exact Hs.tl3 _ _ _ | exact (Hs.app _).trans (Hs.tl _) | exact (Hs.app _).trans ((Hs.app _).trans (Hs.tl _))) ⟨?_, rfl⟩)
  rfl

theorem str_genSplit (w0 : World) (G : Hp) (s sep : ByteArray) (h1 : sep.size = 1) (h2 : (bs sep)[0]? = some 45) (hm : s.size ≤ 1048576) : GC Tryd.prog w0 69 #[.string s, .string sep, .int .i64 0, .int .i64 (-1)] (fun v G' => ∃ (ps : List ByteArray) (x : ByteArray) (b cap : Nat) (C : Array Value), v = .slice (some ⟨b, 0, none⟩) (ps.length + 1) cap ∧ bs s = joinE ps (bs x) ∧ (∀ p ∈ ps, 45 ∉ bs p) ∧ 45 ∉ bs x ∧ PcAt C (ps ++ [x]) ∧ (b, .exact (.cells C 9 (0, 0))) :: G = G') G := by
  have hd : dashes (bs s) ≤ s.size := by have := count_le (bs s); rwa [bs_length] at this
  refine GC.body (args := [.string s, .string sep, .int .i64 0, .int .i64 (-1)]) Tryd.func69 rfl (by kernel_rfl) rfl ?_
  refine GW.seq ?_
  refine GW.region ?_
  refine R.assign ⟨rfl, rfl, rfl, rfl⟩ rfl ?_
  refine GOps.nil ?_
  refine GW.seq ?_
  refine GW.seq ?_
  refine GW.region ?_
  refine R.move ⟨rfl, rfl, rfl, rfl⟩ rfl ?_
  refine R.eqI ⟨rfl, rfl, rfl, rfl⟩ rfl rfl ?_   -- eql ['t12', '0']
  refine GOps.nil ?_
  refine GW.cond_f rfl ?_
  refine GW.skip ?_
  refine GW.seq ?_
  refine GW.seq ?_
  refine GW.region ?_
  refine R.move ⟨rfl, rfl, rfl, rfl⟩ rfl ?_
  refine R.eqS ⟨rfl, rfl, rfl, rfl⟩ rfl rfl ?_   -- eql ['t14', 'const']
  refine GOps.nil ?_
  refine GW.ite rfl (fun hc1 => ?_) (fun hc1 => ?_)
  · try simp only [decide_eq_true_eq, decide_eq_false_iff_not, Bool.not_eq_true', Bool.not_eq_false'] at hc1
    exact absurd (str_nil hc1) (fun h => by rw [h] at h2; cases h2)
  · try simp only [decide_eq_true_eq, decide_eq_false_iff_not, Bool.not_eq_true', Bool.not_eq_false'] at hc1
    refine GW.skip ?_
    refine GW.seq ?_
    refine GW.seq ?_
    refine GW.region ?_
    refine R.move ⟨rfl, rfl, rfl, rfl⟩ rfl ?_
    refine R.lss ⟨rfl, rfl, rfl, rfl⟩ rfl rfl ?_   -- lss ['t19', '0']
    refine GOps.nil ?_
    refine GW.cond_t rfl ?_
    refine GW.region ?_
    refine R.move ⟨rfl, rfl, rfl, rfl⟩ rfl ?_
    refine R.move ⟨rfl, rfl, rfl, rfl⟩ rfl ?_
    refine R.call ⟨rfl, rfl, rfl, rfl⟩ rfl (vs := [_, _]) rfl ((str_Count _ _ _ _ h1 h2).mono ?_)
    rintro _ _ ⟨rfl, rfl⟩
    refine R.add (r := ((((dashes (bs s)) + 1) : Nat) : Int)) ⟨rfl, rfl, rfl, rfl⟩ rfl rfl (by rw [wrap64_id (by omega) (by omega)]; omega) ?_   -- add ['t23', '1']
    refine R.assign ⟨rfl, rfl, rfl, rfl⟩ rfl ?_
    refine GOps.nil ?_
    refine GW.seq ?_
    refine GW.region ?_
    refine R.move ⟨rfl, rfl, rfl, rfl⟩ rfl ?_
    refine R.move ⟨rfl, rfl, rfl, rfl⟩ rfl ?_
    refine R.lenStr ⟨rfl, rfl, rfl, rfl⟩ rfl rfl Tryd.underlying9 ?_
    refine R.add (r := ((s.size + 1 : Nat) : Int)) ⟨rfl, rfl, rfl, rfl⟩ rfl rfl (by rw [wrap64_id (by omega) (by omega)]; omega) ?_   -- add ['t27', '1']
    refine R.minI (r := ((dashes (bs s) + 1 : Nat) : Int)) ⟨rfl, rfl, rfl, rfl⟩ rfl rfl (by omega) ?_
    refine R.assign ⟨rfl, rfl, rfl, rfl⟩ rfl ?_
    refine GOps.nil ?_
    refine GW.seq ?_
    refine GW.region ?_
    refine R.move ⟨rfl, rfl, rfl, rfl⟩ rfl ?_
    refine R.makeSlice (n := dashes (bs s) + 1) (sz := 1) (bytes := 16) ⟨rfl, rfl, rfl, rfl⟩ (by rfl) (by rfl) Tryd.underlying61 (InfoE.mk (by kernel_rfl)) (by omega) (by omega) fun b31 C31 hC31 => ?_
    refine R.assign ⟨rfl, rfl, rfl, rfl⟩ rfl ?_
    refine GOps.nil ?_
    refine GW.seq ?_
    refine GW.region ?_
    refine R.move ⟨rfl, rfl, rfl, rfl⟩ rfl ?_
    refine R.sub (r := ((dashes (bs s) : Nat) : Int)) ⟨rfl, rfl, rfl, rfl⟩ rfl rfl (by rw [wrap64_id (by omega) (by omega)]; omega) ?_   -- sub ['t32', '1']
    refine R.assign ⟨rfl, rfl, rfl, rfl⟩ rfl ?_
    refine GOps.nil ?_
    refine GW.seq ?_
    refine GW.region ?_
    refine R.assign ⟨rfl, rfl, rfl, rfl⟩ rfl ?_
    refine GOps.nil ?_
    refine GW.seq ?_
    refine GW.block ?_
    -- LOOP: live 0:s, 1:sep, 2:sepSave, 3:n, 9:a, 10:i
    refine GW.loop4 (fun (i : Nat) (x : ByteArray) (C : Array Value) (ps : List ByteArray) => [(0, .string x), (1, .string sep), (2, .int .i64 0), (3, .int .i64 (dashes (bs s) : Nat)), (9, .slice (some ⟨b31, 0, none⟩) (dashes (bs s) + 1) (dashes (bs s) + 1)), (10, .int .i64 i)]) (fun (i : Nat) (x : ByteArray) (C : Array Value) (ps : List ByteArray) => (b31, .exact (.cells C 9 (0, 0))) :: G) (fun i : Nat => dashes (bs s) - i) (fun (i : Nat) (x : ByteArray) (C : Array Value) (ps : List ByteArray) => SpI s x ps i C) 0 (s) (C31) ([])
      (by repeat (first | exact Keeps.nil _ | refine Keeps.cons rfl ?_)) (Hs.refl _) (SpI.zero hm (by omega)) ?_
    rintro i x C ps hI
    have hcnt := hI.cnt
    have hsz := hI.size
    have hlen := hI.len
    have hxs := hI.small
    refine GW.seq ?_
    refine GW.seq ?_
    refine GW.region ?_
    refine R.move ⟨rfl, rfl, rfl, rfl⟩ rfl ?_
    refine R.move ⟨rfl, rfl, rfl, rfl⟩ rfl ?_
    refine R.lss ⟨rfl, rfl, rfl, rfl⟩ rfl rfl ?_   -- lss ['t34', 't35']
    refine GOps.nil ?_
    refine GW.ite rfl (fun hc2 => ?_) (fun hc2 => ?_)
    · try simp only [decide_eq_true_eq, decide_eq_false_iff_not, Bool.not_eq_true', Bool.not_eq_false'] at hc2
      refine GW.skip ?_
      refine GW.block ?_
      refine GW.seq ?_
      refine GW.region ?_
      refine R.move ⟨rfl, rfl, rfl, rfl⟩ rfl ?_
      refine R.move ⟨rfl, rfl, rfl, rfl⟩ rfl ?_
      refine R.call ⟨rfl, rfl, rfl, rfl⟩ rfl (vs := [_, _]) rfl ((str_Index _ _ _ _ h1 h2).mono ?_)
      rintro _ _ ⟨rfl, rfl⟩
      refine R.assign ⟨rfl, rfl, rfl, rfl⟩ rfl ?_
      refine GOps.nil ?_
      refine GW.seq ?_
      refine GW.seq ?_
      refine GW.region ?_
      refine R.move ⟨rfl, rfl, rfl, rfl⟩ rfl ?_
      refine R.lss ⟨rfl, rfl, rfl, rfl⟩ rfl rfl ?_   -- lss ['t40', '0']
      refine GOps.nil ?_
      refine GW.ite rfl (fun hc3 => ?_) (fun hc3 => ?_)
      · try simp only [decide_eq_true_eq, decide_eq_false_iff_not, Bool.not_eq_true', Bool.not_eq_false'] at hc3
        have := dashAt_pos (s := x) (by have := hI.cnt; omega)
        exfalso; omega
      · try simp only [decide_eq_true_eq, decide_eq_false_iff_not, Bool.not_eq_true', Bool.not_eq_false'] at hc3
        obtain ⟨m, hmm⟩ : ∃ m : Nat, dashAt x = m := ⟨(dashAt x).toNat, by omega⟩
        obtain ⟨g1, g2, g3, g4⟩ := cut_dash hmm
        refine GW.skip ?_
        refine GW.seq ?_
        refine GW.region ?_
        refine R.move ⟨rfl, rfl, rfl, rfl⟩ rfl ?_
        refine R.move ⟨rfl, rfl, rfl, rfl⟩ rfl ?_
        refine R.move ⟨rfl, rfl, rfl, rfl⟩ rfl ?_
        refine R.move ⟨rfl, rfl, rfl, rfl⟩ rfl ?_
        refine R.move ⟨rfl, rfl, rfl, rfl⟩ rfl ?_
        refine R.add (r := (m : Int)) ⟨rfl, rfl, rfl, rfl⟩ rfl rfl (by rw [hmm, wrap64_id (by omega) (by omega)]; omega) ?_   -- add ['t45', 't46']
        refine R.sliceStrH ⟨rfl, rfl, rfl, rfl⟩ rfl rfl Tryd.underlying9 (by omega) (by omega) ?_
        refine R.indexAddrS ⟨rfl, rfl, rfl, rfl⟩ rfl rfl Tryd.underlying61 Tryd.sizeOf9 (by omega) (by omega) ?_   -- ['t42', 't43']
        refine R.store (G1 := []) rfl rfl rfl rfl rfl Tryd.sizeOf9 rfl rfl (rfl) (by have := hI.size; have := hI.cnt; omega) ?_   -- t49
        refine GOps.nil ?_
        refine GW.seq ?_
        refine GW.region ?_
        refine R.move ⟨rfl, rfl, rfl, rfl⟩ rfl ?_
        refine R.move ⟨rfl, rfl, rfl, rfl⟩ rfl ?_
        refine R.move ⟨rfl, rfl, rfl, rfl⟩ rfl ?_
        refine R.lenStr ⟨rfl, rfl, rfl, rfl⟩ rfl rfl Tryd.underlying9 ?_
        refine R.add (r := ((m + 1 : Nat) : Int)) ⟨rfl, rfl, rfl, rfl⟩ rfl rfl (by rw [hmm, wrap64_id (by omega) (by omega)]; omega) ?_   -- add ['t51', 't53']
        refine R.sliceStrL ⟨rfl, rfl, rfl, rfl⟩ rfl rfl Tryd.underlying9 (by omega) (by omega) ?_
        refine R.assign ⟨rfl, rfl, rfl, rfl⟩ rfl ?_
        refine GOps.nil ?_
        refine GW.region ?_
        refine R.move ⟨rfl, rfl, rfl, rfl⟩ rfl ?_
        refine R.add (r := ((i + 1 : Nat) : Int)) ⟨rfl, rfl, rfl, rfl⟩ rfl rfl (by rw [wrap64_id (by omega) (by omega)]; omega) ?_   -- add ['t56', '1']
        refine R.assign ⟨rfl, rfl, rfl, rfl⟩ rfl ?_
        refine GOps.nil ?_
        exact ⟨i + 1, _, _, ps ++ [x.extract 0 (m : Int).toNat], by omega, hI.step hmm, rfl, by repeat (first | exact Keeps.nil _ | refine Keeps.cons rfl ?_), by first | exact Hs.refl _ | exact Hs.tl _ | exact Hs.tl2 _ _⟩
    · try simp only [decide_eq_true_eq, decide_eq_false_iff_not, Bool.not_eq_true', Bool.not_eq_false'] at hc2
      refine GW.exit ?_
      refine GW.seq ?_
      refine GW.region ?_
      refine R.move ⟨rfl, rfl, rfl, rfl⟩ rfl ?_
      refine R.move ⟨rfl, rfl, rfl, rfl⟩ rfl ?_
      refine R.move ⟨rfl, rfl, rfl, rfl⟩ rfl ?_
      refine R.indexAddrS ⟨rfl, rfl, rfl, rfl⟩ rfl rfl Tryd.underlying61 Tryd.sizeOf9 (by omega) (by omega) ?_   -- ['t58', 't59']
      refine R.store (G1 := []) rfl rfl rfl rfl rfl Tryd.sizeOf9 rfl rfl (rfl) (by have := hI.size; have := hI.cnt; omega) ?_   -- t61
      refine GOps.nil ?_
      refine GW.seq ?_
      refine GW.region ?_
      refine R.move ⟨rfl, rfl, rfl, rfl⟩ rfl ?_
      refine R.move ⟨rfl, rfl, rfl, rfl⟩ rfl ?_
      refine R.add (r := ((i + 1 : Nat) : Int)) ⟨rfl, rfl, rfl, rfl⟩ rfl rfl (by rw [wrap64_id (by omega) (by omega)]; omega) ?_   -- add ['t63', '1']
      refine R.sliceSH ⟨rfl, rfl, rfl, rfl⟩ rfl rfl Tryd.underlying61 Tryd.sizeOf9 (fun a h => by cases h; rfl) (by omega) (by omega) (rfl) ?_
      refine R.assign ⟨rfl, rfl, rfl, rfl⟩ rfl ?_
      refine GOps.nil ?_
      refine GW.ret (Out.of (Res.one rfl rfl) (Hs.refl _) ⟨ps, x, b31, dashes (bs s) + 1, _, ?_, hI.join, hI.no, no_dash (by have := hI.cnt; omega), hI.pc.push x _ (by have := hI.len; omega) (by have := hI.size; have := hI.cnt; omega), rfl⟩)
      rw [← hI.len]; rfl

theorem str_Split (w0 : World) (G : Hp) (s sep : ByteArray) (h1 : sep.size = 1) (h2 : (bs sep)[0]? = some 45) (hm : s.size ≤ 1048576) : GC Tryd.prog w0 63 #[.string s, .string sep] (fun v G' => ∃ (ps : List ByteArray) (x : ByteArray) (b cap : Nat) (C : Array Value), v = .slice (some ⟨b, 0, none⟩) (ps.length + 1) cap ∧ bs s = joinE ps (bs x) ∧ (∀ p ∈ ps, 45 ∉ bs p) ∧ 45 ∉ bs x ∧ PcAt C (ps ++ [x]) ∧ (b, .exact (.cells C 9 (0, 0))) :: G = G') G := by
  refine GC.body (args := [.string s, .string sep]) Tryd.func63 rfl (by kernel_rfl) rfl ?_
  refine GW.seq ?_
  refine GW.region ?_
  refine R.assign ⟨rfl, rfl, rfl, rfl⟩ rfl ?_
  refine GOps.nil ?_
  refine GW.seq ?_
  refine GW.region ?_
  refine R.move ⟨rfl, rfl, rfl, rfl⟩ rfl ?_
  refine R.move ⟨rfl, rfl, rfl, rfl⟩ rfl ?_
  refine R.call ⟨rfl, rfl, rfl, rfl⟩ rfl (vs := [_, _, _, _]) rfl ((str_genSplit _ _ _ _ h1 h2 hm).mono ?_)
  rintro _ _ ⟨ps, x, b, cap, C, rfl, e1, e2, e3, e4, rfl⟩
  refine R.assign ⟨rfl, rfl, rfl, rfl⟩ rfl ?_
  refine GOps.nil ?_
  exact GW.ret (Out.of (Res.one rfl rfl) (Hs.refl _) ⟨ps, x, b, cap, C, rfl, e1, e2, e3, e4, rfl⟩)

end Go.Proofs.YtgjmandjhjfgkaaDoor.Gl
