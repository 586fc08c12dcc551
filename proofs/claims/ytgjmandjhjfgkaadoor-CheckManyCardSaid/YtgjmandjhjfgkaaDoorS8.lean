import Derived.Test.YtgjmandjhjfgkaaDoorS7
namespace Go.Proofs.YtgjmandjhjfgkaaDoor.Gl
open Go.RowKit Go.Shelf
set_option linter.unusedVariables false
set_option linter.unnecessarySimpa false
set_option linter.unusedSimpArgs false
attribute [-simp] List.getD_eq_getElem?_getD



/-! ### plain: tags of languages -/
def isSm (c : Nat) : Bool := decide (97 ≤ c) && decide (c ≤ 122)
def okc (first : Bool) (c : Nat) : Bool := isSm c || (!first && isDig c)
def tagG : Bool → Bool → List Nat → Bool
  | _, start, [] => !start
  | first, start, c :: r => if c = 45 then !start && tagG false true r else okc first c && tagG first false r
def tagS (l : List Nat) : Bool := tagG true true l && decide (l.length ≤ 35)
def pieceOk (first : Bool) (p : List Nat) : Bool := !p.isEmpty && p.all (okc first)
theorem tagG_piece (first : Bool) (r : List Nat) : ∀ (p : List Nat) (start : Bool), 45 ∉ p → tagG first start (p ++ 45 :: r) = ((!(start && p.isEmpty)) && p.all (okc first) && tagG false true r)
  | [], start, _ => by simp [tagG]
  | c :: p, start, h => by
    have hc : c ≠ 45 := fun e => h (by simp [e])
    have hp : 45 ∉ p := fun e => h (by simp [e])
    rw [List.cons_append, tagG, if_neg hc, tagG_piece first r p false hp]
    simp [Bool.and_assoc]
theorem tagG_last (first : Bool) : ∀ (p : List Nat) (start : Bool), 45 ∉ p → tagG first start p = ((!(start && p.isEmpty)) && p.all (okc first))
  | [], start, _ => by simp [tagG]
  | c :: p, start, h => by
    have hc : c ≠ 45 := fun e => h (by simp [e])
    have hp : 45 ∉ p := fun e => h (by simp [e])
    rw [tagG, if_neg hc, tagG_last first p false hp]
    simp
def piecesOk : Bool → List ByteArray → Bool
  | _, [] => true
  | first, p :: r => pieceOk first (bs p) && piecesOk false r
theorem tagG_join (x : ByteArray) (hx : 45 ∉ bs x) : ∀ (ps : List ByteArray) (first : Bool), (∀ p ∈ ps, 45 ∉ bs p) → tagG first true (joinE ps (bs x)) = piecesOk first (ps ++ [x])
  | [], first, _ => by
    simp only [joinE, List.flatMap_nil, List.nil_append, piecesOk, Bool.and_true]
    rw [tagG_last first _ _ hx]
    simp [pieceOk]
  | p :: ps, first, h => by
    have e : joinE (p :: ps) (bs x) = bs p ++ 45 :: joinE ps (bs x) := by simp [joinE]
    rw [e, tagG_piece first _ _ _ (h p (by simp)), tagG_join x hx ps false (fun q hq => h q (by simp [hq]))]
    simp [piecesOk, pieceOk]
theorem all_allTo {α : Type} (f : α → Bool) (z : α) : ∀ (l : List α), l.all f = allTo (fun k => f (l.getD k z)) l.length
  | [] => rfl
  | c :: l => by
    have ih := all_allTo f z l
    rw [List.all_cons, ih]
    unfold allTo
    rw [List.length_cons, List.range_succ_eq_map, List.all_cons, List.all_map]
    rfl
theorem pieces_allTo (qs : List ByteArray) : ∀ first, piecesOk first qs = allTo (fun j => pieceOk (first && decide (j = 0)) (bs (qs.getD j ByteArray.empty))) qs.length := by
  induction qs with
  | nil => intro first; rfl
  | cons p qs ih =>
    intro first
    simp only [piecesOk]
    rw [ih false]
    unfold allTo
    rw [List.length_cons, List.range_succ_eq_map, List.all_cons, List.all_map]
    simp only [List.getD_cons_zero, decide_true, Bool.and_true, Function.comp_def, List.getD_cons_succ, Bool.false_and]
    congr 1
    apply List.all_congr rfl
    intro j
    simp
theorem piece_no1 {p : ByteArray} {first : Bool} (h : bs p = []) : pieceOk first (bs p) = false := by rw [h]; rfl
theorem piece_no2 {p : ByteArray} {first : Bool} {k c : Nat} (hk : (bs p)[k]? = some c) (h : okc first c = false) : pieceOk first (bs p) = false := by
  have : (bs p).all (okc first) = false := List.all_eq_false.2 ⟨c, List.mem_of_getElem? hk, by simp [h]⟩
  rw [pieceOk, this]
  simp
theorem piece_yes {p : ByteArray} {first : Bool} (h : (p.toList == (ByteArray.mk #[]).toList) = false) (h1 : allTo (fun k => okc first ((bs p).getD k 0)) p.size = true) : pieceOk first (bs p) = true := by
  have hp := str_pos h
  rw [pieceOk, all_allTo _ 0, bs_length, h1]
  cases hb : bs p with
  | nil => have := bs_length p; rw [hb] at this; simp at this; omega
  | cons c l => rfl
theorem tag_no {s x : ByteArray} {ps qs : List ByteArray} {i : Nat} {p : ByteArray} (e1 : bs s = joinE ps (bs x)) (e2 : ∀ p ∈ ps, 45 ∉ bs p) (e3 : 45 ∉ bs x) (hqs : ps ++ [x] = qs) (hp : qs[i]? = some p) (h : pieceOk (decide (i = 0)) (bs p) = false) : tagS (bs s) = false := by
  rw [tagS, e1, tagG_join x e3 ps true e2, hqs, pieces_allTo, allTo_false (i := i) (List.getElem?_eq_some_iff.1 hp).1 (by simpa [List.getD, hp] using h)]
  rfl
theorem join_len (ps : List ByteArray) (l : List Nat) : ps.length ≤ (joinE ps l).length := by
  induction ps with
  | nil => simp
  | cons q ps ih =>
    have e : joinE (q :: ps) l = bs q ++ 45 :: joinE ps l := by simp [joinE]
    rw [e, List.length_append, List.length_cons, List.length_cons]
    omega
theorem piece_size {s x : ByteArray} {ps qs : List ByteArray} {i : Nat} {p : ByteArray} {m : Nat} (hm : s.size ≤ m) (e1 : bs s = joinE ps (bs x)) (hqs : ps ++ [x] = qs) (hp : qs[i]? = some p) : p.size ≤ m := by
  have h : ∀ ps : List ByteArray, p ∈ ps ++ [x] → (bs p).length ≤ (joinE ps (bs x)).length := by
    intro ps
    induction ps with
    | nil => intro h; simp at h; subst h; simp [joinE]
    | cons q ps ih =>
      intro h
      have e : joinE (q :: ps) (bs x) = bs q ++ 45 :: joinE ps (bs x) := by simp [joinE]
      rw [e, List.length_append, List.length_cons]
      rw [List.cons_append, List.mem_cons] at h
      rcases h with rfl | h
      · omega
      · have := ih h
        omega
  have h1 := h ps (by rw [hqs]; exact List.mem_of_getElem? hp)
  rw [← e1, bs_length, bs_length] at h1
  omega
theorem tag_end {s x : ByteArray} {ps qs : List ByteArray} (e1 : bs s = joinE ps (bs x)) (e2 : ∀ p ∈ ps, 45 ∉ bs p) (e3 : 45 ∉ bs x) (hqs : ps ++ [x] = qs) (h : allTo (fun j => pieceOk (decide (j = 0)) (bs (qs.getD j ByteArray.empty))) qs.length = true) : tagS (bs s) = decide (s.size ≤ 35) := by
  have e : tagG true true (bs s) = true := by
    rw [e1, tagG_join x e3 ps true e2, hqs, pieces_allTo]
    simpa using h
  rw [tagS, e, bs_length]
  rfl


theorem term_tag (w0 : World) (G : Hp) (s : ByteArray) (hm : s.size ≤ 1048576) : GC Tryd.prog w0 54 #[.string s] (fun v G' => v = .bool (tagS (bs s)) ∧ G = G') G := by
  refine GC.body (args := [.string s]) Tryd.func54 rfl (by kernel_rfl) rfl ?_
  refine GW.seq ?_
  refine GW.region ?_
  refine R.assign ⟨rfl, rfl, rfl, rfl⟩ rfl ?_
  refine GOps.nil ?_
  refine GW.seq ?_
  refine GW.seq ?_
  refine GW.region ?_
  refine R.move ⟨rfl, rfl, rfl, rfl⟩ rfl ?_
  refine R.call ⟨rfl, rfl, rfl, rfl⟩ rfl (vs := [_, _]) rfl ((str_Split _ _ _ _ rfl rfl hm).mono ?_)
  rintro _ _ ⟨ps, x, b, cap, C, rfl, e1, e2, e3, e4, rfl⟩
  generalize hqs : ps ++ [x] = qs at e4
  have hql : qs.length = ps.length + 1 := by rw [← hqs]; simp
  have hpl : ps.length ≤ 1048576 := by have := join_len ps (bs x); rw [← e1, bs_length] at this; omega
  refine R.lenS ⟨rfl, rfl, rfl, rfl⟩ rfl rfl Tryd.underlying61 ?_
  refine R.move ⟨rfl, rfl, rfl, rfl⟩ rfl ?_
  refine GOps.nil ?_
  refine GW.block ?_
  -- LOOP: live 0:s, 8, 9, 10
  refine GW.loopI (fun i : Nat => [(0, .string s), (8, .slice (some ⟨b, 0, none⟩) (ps.length + 1) cap), (9, .int .i64 (ps.length + 1 : Nat)), (10, .int .i64 i)]) (fun i => (b, .exact (.cells C 9 (0, 0))) :: G) (fun i => ps.length + 1 - i) (fun i => i ≤ ps.length + 1 ∧ allTo (fun j => pieceOk (decide (j = 0)) (bs (qs.getD j ByteArray.empty))) i = true) 0
    (by repeat (first | exact Keeps.nil _ | refine Keeps.cons rfl ?_)) (Hs.refl _) (⟨by omega, rfl⟩) ?_
  rintro i ⟨hi, h0⟩
  obtain ⟨p, hp⟩ : ∃ p, i < ps.length + 1 → qs[i]? = some p := by
    rcases Nat.lt_or_ge i (ps.length + 1) with h | h
    · exact ⟨qs[i], fun _ => List.getElem?_eq_getElem (by omega)⟩
    · exact ⟨s, fun h2 => absurd h2 (by omega)⟩
  have hpz : i < ps.length + 1 → p.size ≤ 1048576 := fun h => piece_size hm e1 hqs (hp h)
  refine GW.seq ?_
  refine GW.region ?_
  refine R.lss ⟨rfl, rfl, rfl, rfl⟩ rfl rfl ?_   -- lss ['t10', 't9']
  refine GOps.nil ?_
  refine GW.seq ?_
  refine GW.ite rfl (fun hc1 => ?_) (fun hc1 => ?_)
  · try simp only [decide_eq_true_eq, decide_eq_false_iff_not, Bool.not_eq_true', Bool.not_eq_false'] at hc1
    refine GW.skip ?_
    refine GW.seq ?_
    refine GW.block ?_
    refine GW.seq ?_
    refine GW.region ?_
    refine R.move ⟨rfl, rfl, rfl, rfl⟩ rfl ?_
    refine R.indexAddrS ⟨rfl, rfl, rfl, rfl⟩ rfl rfl Tryd.underlying61 Tryd.sizeOf9 (by omega) (by omega) ?_   -- ['t8', 't10']
    refine R.load1 ⟨rfl, rfl, rfl, rfl⟩ rfl Tryd.underlying9 rfl (.own' List.mem_cons_self (by simpa using e4 i p (hp (by omega)))) ?_   -- load 0 term.go:46
    refine R.assign ⟨rfl, rfl, rfl, rfl⟩ rfl ?_
    refine R.assign ⟨rfl, rfl, rfl, rfl⟩ rfl ?_
    refine GOps.nil ?_
    refine GW.seq ?_
    refine GW.seq ?_
    refine GW.region ?_
    refine R.move ⟨rfl, rfl, rfl, rfl⟩ rfl ?_
    refine R.eqS ⟨rfl, rfl, rfl, rfl⟩ rfl rfl ?_   -- eql ['t15', 'const']
    refine GOps.nil ?_
    refine GW.ite rfl (fun hc2 => ?_) (fun hc2 => ?_)
    · try simp only [decide_eq_true_eq, decide_eq_false_iff_not, Bool.not_eq_true', Bool.not_eq_false'] at hc2
      refine GW.seq ?_
      refine GW.region ?_
      refine R.assign ⟨rfl, rfl, rfl, rfl⟩ rfl ?_
      refine GOps.nil ?_
      refine GW.ret (Out.of (Res.one rfl rfl) (by first | exact Hs.refl _ | exact Hs.tl _ | exact Hs.tl2 _ _ | exact Hs.tl3 _ _ _ | exact (Hs.app _).trans (Hs.tl _) | exact (Hs.app _).trans ((Hs.app _).trans (Hs.tl _))) ⟨?_, rfl⟩)
      refine vb ?_; first | exact (tag_no e1 e2 e3 hqs (hp (by omega)) (piece_no1 (str_nil (by assumption)))).symm | exact (tag_no e1 e2 e3 hqs (hp (by omega)) (piece_no2 (k := k) hx1 (by assumption))).symm | (rw [tag_end e1 e2 e3 hqs (by rw [hql, show ps.length + 1 = i by omega]; exact h0), Bool.eq_iff_iff]; simp; omega)
    · try simp only [decide_eq_true_eq, decide_eq_false_iff_not, Bool.not_eq_true', Bool.not_eq_false'] at hc2
      refine GW.skip ?_
      refine GW.seq ?_
      refine GW.region ?_
      refine R.move ⟨rfl, rfl, rfl, rfl⟩ rfl ?_
      refine R.lenStr ⟨rfl, rfl, rfl, rfl⟩ rfl rfl Tryd.underlying9 ?_
      refine R.move ⟨rfl, rfl, rfl, rfl⟩ rfl ?_
      refine GOps.nil ?_
      refine GW.block ?_
      -- LOOP: live 0:s, 3:i, 4:part, 8, 9, 10, 18, 19
      refine GW.loopI (fun k : Nat => [(0, .string s), (3, .int .i64 i), (4, .string p), (8, .slice (some ⟨b, 0, none⟩) (ps.length + 1) cap), (9, .int .i64 (ps.length + 1 : Nat)), (10, .int .i64 i), (18, .int .i64 p.size), (19, .int .i64 k)]) (fun k => (b, .exact (.cells C 9 (0, 0))) :: G) (fun k => p.size - k) (fun k => k ≤ p.size ∧ allTo (fun k => okc (decide (i = 0)) ((bs p).getD k 0)) k = true) 0
        (by repeat (first | exact Keeps.nil _ | refine Keeps.cons rfl ?_)) (Hs.refl _) (⟨by omega, rfl⟩) ?_
      rintro k ⟨hk, hk0⟩
      refine GW.seq ?_
      refine GW.region ?_
      refine R.lss ⟨rfl, rfl, rfl, rfl⟩ rfl rfl ?_   -- lss ['t19', 't18']
      refine GOps.nil ?_
      refine GW.seq ?_
      refine GW.ite rfl (fun hc3 => ?_) (fun hc3 => ?_)
      · try simp only [decide_eq_true_eq, decide_eq_false_iff_not, Bool.not_eq_true', Bool.not_eq_false'] at hc3
        refine GW.skip ?_
        refine GW.seq ?_
        refine GW.block ?_
        refine GW.seq ?_
        refine GW.region ?_
        refine R.move ⟨rfl, rfl, rfl, rfl⟩ rfl ?_
        refine R.assign ⟨rfl, rfl, rfl, rfl⟩ rfl ?_
        refine GOps.nil ?_
        refine GW.seq ?_
        refine GW.region ?_
        refine R.move ⟨rfl, rfl, rfl, rfl⟩ rfl ?_
        refine R.move ⟨rfl, rfl, rfl, rfl⟩ rfl ?_
        refine R.indexStrA ⟨rfl, rfl, rfl, rfl⟩ rfl rfl Tryd.underlying9 (by omega) (by omega) fun c1 hx1 hb1 => ?_   -- "term.go:51" ['t22', 't23']
        refine R.assign ⟨rfl, rfl, rfl, rfl⟩ rfl ?_
        refine GOps.nil ?_
        refine GW.cutS 39 (!(okc (decide (i = 0)) c1)) [(0, .string s), (3, .int .i64 i), (4, .string p), (8, .slice (some ⟨b, 0, none⟩) (ps.length + 1) cap), (9, .int .i64 (ps.length + 1 : Nat)), (10, .int .i64 i), (18, .int .i64 p.size), (19, .int .i64 k)] ?_ ?_
        · refine R.move ⟨rfl, rfl, rfl, rfl⟩ rfl ?_
          refine R.lss ⟨rfl, rfl, rfl, rfl⟩ rfl rfl ?_   -- lss ['t25', '97']
          refine R.move ⟨rfl, rfl, rfl, rfl⟩ rfl ?_
          refine GOps.caseB 27 rfl (fun hg4 => ?_) (fun hg4 => ?_)
          · try simp only [decide_eq_true_eq, decide_eq_false_iff_not, Bool.not_eq_true', Bool.not_eq_false'] at hg4
            refine GOps.skip rfl rfl rfl ?_
            refine GOps.skip rfl rfl rfl ?_
            refine R.pick_t ⟨rfl, rfl, rfl, rfl⟩ rfl rfl ?_
            refine R.move ⟨rfl, rfl, rfl, rfl⟩ rfl ?_
            refine R.move ⟨rfl, rfl, rfl, rfl⟩ rfl ?_
            refine R.eqI ⟨rfl, rfl, rfl, rfl⟩ rfl rfl ?_   -- eql ['t32', '0']
            refine R.move ⟨rfl, rfl, rfl, rfl⟩ rfl ?_
            refine GOps.caseB 34 rfl (fun hg5 => ?_) (fun hg5 => ?_)
            · try simp only [decide_eq_true_eq, decide_eq_false_iff_not, Bool.not_eq_true', Bool.not_eq_false'] at hg5
              refine GOps.skip rfl rfl rfl ?_
              refine GOps.skip rfl rfl rfl ?_
              refine GOps.skip rfl rfl rfl ?_
              refine R.pick_t ⟨rfl, rfl, rfl, rfl⟩ rfl rfl ?_
              refine R.pick_t ⟨rfl, rfl, rfl, rfl⟩ rfl rfl ?_
              refine GOps.nil ?_
              exact ⟨rfl, rfl, by repeat (first | exact Keeps.nil _ | refine Keeps.cons rfl ?_), by first | exact Hs.refl _ | exact Hs.tl _, vbs (by cases hd : isDig c1 <;> (rw [Bool.eq_iff_iff]; simp [okc, isSm, hd]; try omega))⟩
            · try simp only [decide_eq_true_eq, decide_eq_false_iff_not, Bool.not_eq_true', Bool.not_eq_false'] at hg5
              refine R.move ⟨rfl, rfl, rfl, rfl⟩ rfl ?_
              refine R.call ⟨rfl, rfl, rfl, rfl⟩ rfl (vs := [_]) rfl ((term_digit _ _ _).mono ?_)
              rintro _ _ ⟨rfl, rfl⟩
              refine R.not ⟨rfl, rfl, rfl, rfl⟩ rfl ?_
              refine R.pick_f ⟨rfl, rfl, rfl, rfl⟩ rfl rfl ?_
              refine R.pick_t ⟨rfl, rfl, rfl, rfl⟩ rfl rfl ?_
              refine GOps.nil ?_
              exact ⟨rfl, rfl, by repeat (first | exact Keeps.nil _ | refine Keeps.cons rfl ?_), by first | exact Hs.refl _ | exact Hs.tl _, vbs (by cases hd : isDig c1 <;> (rw [Bool.eq_iff_iff]; simp [okc, isSm, hd]; try omega))⟩
          · try simp only [decide_eq_true_eq, decide_eq_false_iff_not, Bool.not_eq_true', Bool.not_eq_false'] at hg4
            refine R.move ⟨rfl, rfl, rfl, rfl⟩ rfl ?_
            refine R.gtr ⟨rfl, rfl, rfl, rfl⟩ rfl rfl ?_   -- gtr ['t28', '122']
            refine R.pick_f ⟨rfl, rfl, rfl, rfl⟩ rfl rfl ?_
            refine R.move ⟨rfl, rfl, rfl, rfl⟩ rfl ?_
            refine GOps.caseB 31 rfl (fun hg6 => ?_) (fun hg6 => ?_)
            · try simp only [decide_eq_true_eq, decide_eq_false_iff_not, Bool.not_eq_true', Bool.not_eq_false'] at hg6
              refine R.move ⟨rfl, rfl, rfl, rfl⟩ rfl ?_
              refine R.eqI ⟨rfl, rfl, rfl, rfl⟩ rfl rfl ?_   -- eql ['t32', '0']
              refine R.move ⟨rfl, rfl, rfl, rfl⟩ rfl ?_
              refine GOps.caseB 34 rfl (fun hg7 => ?_) (fun hg7 => ?_)
              · try simp only [decide_eq_true_eq, decide_eq_false_iff_not, Bool.not_eq_true', Bool.not_eq_false'] at hg7
                refine GOps.skip rfl rfl rfl ?_
                refine GOps.skip rfl rfl rfl ?_
                refine GOps.skip rfl rfl rfl ?_
                refine R.pick_t ⟨rfl, rfl, rfl, rfl⟩ rfl rfl ?_
                refine R.pick_t ⟨rfl, rfl, rfl, rfl⟩ rfl rfl ?_
                refine GOps.nil ?_
                exact ⟨rfl, rfl, by repeat (first | exact Keeps.nil _ | refine Keeps.cons rfl ?_), by first | exact Hs.refl _ | exact Hs.tl _, vbs (by cases hd : isDig c1 <;> (rw [Bool.eq_iff_iff]; simp [okc, isSm, hd]; try omega))⟩
              · try simp only [decide_eq_true_eq, decide_eq_false_iff_not, Bool.not_eq_true', Bool.not_eq_false'] at hg7
                refine R.move ⟨rfl, rfl, rfl, rfl⟩ rfl ?_
                refine R.call ⟨rfl, rfl, rfl, rfl⟩ rfl (vs := [_]) rfl ((term_digit _ _ _).mono ?_)
                rintro _ _ ⟨rfl, rfl⟩
                refine R.not ⟨rfl, rfl, rfl, rfl⟩ rfl ?_
                refine R.pick_f ⟨rfl, rfl, rfl, rfl⟩ rfl rfl ?_
                refine R.pick_t ⟨rfl, rfl, rfl, rfl⟩ rfl rfl ?_
                refine GOps.nil ?_
                exact ⟨rfl, rfl, by repeat (first | exact Keeps.nil _ | refine Keeps.cons rfl ?_), by first | exact Hs.refl _ | exact Hs.tl _, vbs (by cases hd : isDig c1 <;> (rw [Bool.eq_iff_iff]; simp [okc, isSm, hd]; try omega))⟩
            · try simp only [decide_eq_true_eq, decide_eq_false_iff_not, Bool.not_eq_true', Bool.not_eq_false'] at hg6
              refine GOps.skip rfl rfl rfl ?_
              refine GOps.skip rfl rfl rfl ?_
              refine GOps.skip rfl rfl rfl ?_
              refine GOps.skip rfl rfl rfl ?_
              refine GOps.skip rfl rfl rfl ?_
              refine GOps.skip rfl rfl rfl ?_
              refine GOps.skip rfl rfl rfl ?_
              refine R.pick_f ⟨rfl, rfl, rfl, rfl⟩ rfl rfl ?_
              refine GOps.nil ?_
              exact ⟨rfl, rfl, by repeat (first | exact Keeps.nil _ | refine Keeps.cons rfl ?_), by first | exact Hs.refl _ | exact Hs.tl _, vbs (by cases hd : isDig c1 <;> (rw [Bool.eq_iff_iff]; simp [okc, isSm, hd]; try omega))⟩
        · refine GW.ite rfl (fun hc8 => ?_) (fun hc8 => ?_)
          · try simp only [decide_eq_true_eq, decide_eq_false_iff_not, Bool.not_eq_true', Bool.not_eq_false'] at hc8
            refine GW.seq ?_
            refine GW.region ?_
            refine R.assign ⟨rfl, rfl, rfl, rfl⟩ rfl ?_
            refine GOps.nil ?_
            refine GW.ret (Out.of (Res.one rfl rfl) (by first | exact Hs.refl _ | exact Hs.tl _ | exact Hs.tl2 _ _ | exact Hs.tl3 _ _ _ | exact (Hs.app _).trans (Hs.tl _) | exact (Hs.app _).trans ((Hs.app _).trans (Hs.tl _))) ⟨?_, rfl⟩)
            refine vb ?_; first | exact (tag_no e1 e2 e3 hqs (hp (by omega)) (piece_no1 (str_nil (by assumption)))).symm | exact (tag_no e1 e2 e3 hqs (hp (by omega)) (piece_no2 (k := k) hx1 (by assumption))).symm | (rw [tag_end e1 e2 e3 hqs (by rw [hql, show ps.length + 1 = i by omega]; exact h0), Bool.eq_iff_iff]; simp; omega)
          · try simp only [decide_eq_true_eq, decide_eq_false_iff_not, Bool.not_eq_true', Bool.not_eq_false'] at hc8
            refine GW.skip ?_
            refine GW.region ?_
            refine R.add (r := _) ⟨rfl, rfl, rfl, rfl⟩ rfl rfl (wrap64_id (by omega) (by omega)) ?_   -- add ['t19', '1']
            refine R.move ⟨rfl, rfl, rfl, rfl⟩ rfl ?_
            refine GOps.nil ?_
            exact ⟨k + 1, by omega, ⟨by omega, allTo_succ hk0 (by simp only [getD_of (i := k) hx1]; assumption)⟩, rfl, by repeat (first | exact Keeps.nil _ | refine Keeps.cons rfl ?_), by first | exact Hs.refl _ | exact Hs.tl _ | exact Hs.tl2 _ _⟩
      · try simp only [decide_eq_true_eq, decide_eq_false_iff_not, Bool.not_eq_true', Bool.not_eq_false'] at hc3
        refine GW.exit ?_
        refine GW.region ?_
        refine R.add (r := (((i + 1) : Nat) : Int)) ⟨rfl, rfl, rfl, rfl⟩ rfl rfl (by rw [wrap64_id (by omega) (by omega)]; omega) ?_   -- add ['t10', '1']
        refine R.move ⟨rfl, rfl, rfl, rfl⟩ rfl ?_
        refine GOps.nil ?_
        exact ⟨i + 1, by omega, ⟨by omega, allTo_succ h0 (by simp only [List.getD, hp (by omega), Option.getD_some]; exact piece_yes (by assumption) (by rw [show p.size = k by omega]; assumption))⟩, rfl, by repeat (first | exact Keeps.nil _ | refine Keeps.cons rfl ?_), by first | exact Hs.refl _ | exact Hs.tl _ | exact Hs.tl2 _ _⟩
  · try simp only [decide_eq_true_eq, decide_eq_false_iff_not, Bool.not_eq_true', Bool.not_eq_false'] at hc1
    refine GW.exit ?_
    refine GW.seq ?_
    refine GW.region ?_
    refine R.move ⟨rfl, rfl, rfl, rfl⟩ rfl ?_
    refine R.lenStr ⟨rfl, rfl, rfl, rfl⟩ rfl rfl Tryd.underlying9 ?_
    refine R.leq ⟨rfl, rfl, rfl, rfl⟩ rfl rfl ?_   -- leq ['t43', '35']
    refine R.assign ⟨rfl, rfl, rfl, rfl⟩ rfl ?_
    refine GOps.nil ?_
    refine GW.ret (Out.of (Res.one rfl rfl) (by first | exact Hs.refl _ | exact Hs.tl _ | exact Hs.tl2 _ _ | exact Hs.tl3 _ _ _ | exact (Hs.app _).trans (Hs.tl _) | exact (Hs.app _).trans ((Hs.app _).trans (Hs.tl _))) ⟨?_, rfl⟩)
    refine vb ?_; first | exact (tag_no e1 e2 e3 hqs (hp (by omega)) (piece_no1 (str_nil (by assumption)))).symm | exact (tag_no e1 e2 e3 hqs (hp (by omega)) (piece_no2 (k := k) hx1 (by assumption))).symm | (rw [tag_end e1 e2 e3 hqs (by rw [hql, show ps.length + 1 = i by omega]; exact h0), Bool.eq_iff_iff]; simp; omega)

end Go.Proofs.YtgjmandjhjfgkaaDoor.Gl
