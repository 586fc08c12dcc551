import Derived.Test.YtgjmandjhjfgkaaDoorS4
namespace Go.Proofs.YtgjmandjhjfgkaaDoor.Gl
open Go.RowKit Go.Shelf
set_option linter.unusedVariables false
set_option linter.unnecessarySimpa false
set_option linter.unusedSimpArgs false
attribute [-simp] List.getD_eq_getElem?_getD



/-! ### plain: bytes that no IRI has -/
def badSet : ByteArray := ⟨#[60, 62, 34, 123, 125, 124, 94, 96, 92]⟩
def badC (c : Nat) : Bool := decide (c ≤ 32) || [60, 62, 34, 123, 125, 124, 94, 96, 92].contains c
def badR (r : Nat) : Bool := decide (r ≤ 32) || (decide (r < 128) && decide (0 ≤ Lib.indexByte badSet.data.toList (r : Int).toNat.toUInt8))
theorem badR_eq (r : Nat) : badR r = badC r := by
  rcases Nat.lt_or_ge r 128 with h | h
  · have hh : ∀ r : Fin 128, badR r.val = badC r.val := by decide +kernel
    exact hh ⟨r, h⟩
  · unfold badR badC
    rw [decide_eq_false (show ¬ r ≤ 32 by omega), decide_eq_false (show ¬ r < 128 by omega)]
    simp
    omega
def iriS (l : List Nat) : Bool := decide (1 ≤ l.length) && (decide (l.length ≤ 1000) && (validS l && allTo (fun i => !badC (l.getD i 0)) l.length))
theorem badC_high {c : Nat} (h : 128 ≤ c) : badC c = false := by
  unfold badC
  simp
  omega
theorem drop_getD (l : List Nat) (k i : Nat) : (l.drop k).getD i 0 = l.getD (k + i) 0 := by simp [List.getD, List.getElem?_drop]
theorem rune_bad {l : List Nat} {k r n : Nat} (hn : nextAt l k = some (r, n)) : (n = 1 ∧ r = l.getD k 0) ∨ (128 ≤ r ∧ ∀ i, i < n → 128 ≤ l.getD (k + i) 0) := by
  have hf := nextAt_facts hn
  unfold nextAt at hn
  rw [if_pos hf.1] at hn
  unfold getS at hn
  simp only at hn
  split at hn
  case isFalse => cases hn
  rename_i hc
  obtain ⟨h1, h2, h3, h4, h5⟩ := hc
  simp only [Option.some.injEq, Prod.mk.injEq] at hn
  obtain ⟨rfl, rfl⟩ := hn
  rcases Nat.eq_zero_or_pos (hdM ((l.drop k).getD 0 0)).toNat with h0 | h0
  · left
    rw [h0]
    refine ⟨rfl, ?_⟩
    rw [drop_getD] at *
    simp only [accR, Nat.add_zero] at *
    unfold hdM hdR at *
    (repeat' split at h0) <;> (repeat' split) <;> simp_all
  · right
    refine ⟨?_, fun i hi => ?_⟩
    · unfold sizeR at h5
      (repeat' split at h5) <;> omega
    · cases i with
      | zero =>
        rw [Nat.add_zero]
        rw [drop_getD] at *
        simp only [Nat.add_zero] at *
        unfold hdM at h0
        rcases Nat.lt_or_ge (l.getD k 0) 128 with hh | hh
        · rw [if_pos hh] at h0; simp at h0
        · exact hh
      | succ i =>
        have h6 : ∀ m, allTo (fun i => isCont ((l.drop k).getD (i + 1) 0)) m = true → i < m → isCont ((l.drop k).getD (i + 1) 0) = true := by
          intro m hm hi
          unfold allTo at hm
          exact (List.all_eq_true.1 hm) i (List.mem_range.2 hi)
        have h7 := h6 _ h3 (by omega)
        rw [drop_getD] at h7
        simp [isCont] at h7
        omega
theorem allTo_more {f : Nat → Bool} {k : Nat} (h : allTo f k = true) : ∀ n, (∀ i, i < n → f (k + i) = true) → allTo f (k + n) = true
  | 0, _ => h
  | n + 1, hi => by
    have := allTo_more h n (fun i h => hi i (by omega))
    exact allTo_succ this (hi n (by omega))
theorem good_next {l : List Nat} {k r n : Nat} (h : allTo (fun i => !badC (l.getD i 0)) k = true) (hn : nextAt l k = some (r, n)) (hb : badR r = false) : allTo (fun i => !badC (l.getD i 0)) (k + n) = true := by
  rw [badR_eq] at hb
  refine allTo_more h n fun i hi => ?_
  rcases rune_bad hn with ⟨rfl, rfl⟩ | ⟨h1, h2⟩
  · have : i = 0 := by omega
    subst this
    simp only [Nat.add_zero, hb]; rfl
  · simp only [badC_high (h2 i hi)]; rfl
theorem bad_iri {l : List Nat} {k r n : Nat} (hn : nextAt l k = some (r, n)) (hb : badR r = true) : iriS l = false := by
  rw [badR_eq] at hb
  have hf := nextAt_facts hn
  unfold iriS
  rcases rune_bad hn with ⟨rfl, rfl⟩ | ⟨h1, h2⟩
  · rw [allTo_false (f := fun i => !badC (l.getD i 0)) (i := k) hf.1 (by simp only [hb]; rfl)]
    simp
  · rw [badC_high h1] at hb; cases hb
theorem iri_no1 {s : ByteArray} (h : s.size < 1 ∨ 1000 < s.size) : iriS (bs s) = false := by
  unfold iriS
  rw [bs_length]
  rcases h with h | h
  · rw [decide_eq_false (show ¬ 1 ≤ s.size by omega)]; rfl
  · rw [decide_eq_false (show ¬ s.size ≤ 1000 by omega)]; simp
theorem iri_no2 {s : ByteArray} (h : validS (bs s) = false) : iriS (bs s) = false := by unfold iriS; rw [h]; simp
theorem iri_no3 {s : ByteArray} {i : Nat} (hi : i < s.size) (h : badC ((bs s).getD i 0) = true) : iriS (bs s) = false := by
  unfold iriS
  rw [allTo_false (f := fun i => !badC ((bs s).getD i 0)) (i := i) (by rw [bs_length]; exact hi) (by simp only [h]; rfl)]
  simp
theorem iri_yes {s : ByteArray} (h1 : 1 ≤ s.size) (h2 : s.size ≤ 1000) (h3 : validS (bs s) = true) (h4 : allTo (fun i => !badC ((bs s).getD i 0)) s.size = true) : iriS (bs s) = true := by
  unfold iriS
  rw [h3, bs_length, h4]
  simp [h1, h2]
theorem stop_valid {s : ByteArray} {k : Nat} (h : Ahead (bs s) k) (hn : nextAt (bs s) k = none) (hv : validS (bs s) = true) : k = s.size := by
  rw [valid_of h hn] at hv
  simp at hv
  omega


theorem lite_IndexByte (w0 : World) (G : Hp) (s : ByteArray) (c : Int) : GC Tryd.prog w0 68 #[.string s, .int .u8 c] (fun v G' => v = .int .i64 (Lib.indexByte s.data.toList c.toNat.toUInt8) ∧ G = G') G := by
  refine GC.body (args := [.string s, .int .u8 c]) Tryd.func68 rfl (by kernel_rfl) rfl ?_
  refine GW.seq ?_
  refine GW.region ?_
  refine R.assign ⟨rfl, rfl, rfl, rfl⟩ rfl ?_
  refine GOps.nil ?_
  refine GW.seq ?_
  refine GW.region ?_
  refine R.move ⟨rfl, rfl, rfl, rfl⟩ rfl ?_
  refine R.move ⟨rfl, rfl, rfl, rfl⟩ rfl ?_
  refine R.ext ⟨rfl, rfl, rfl, rfl⟩ Tryd.func74 (by kernel_rfl) rfl (by kernel_rfl) (e := Extern.BytealgIndexByte.indexByte) (by kernel_rfl) (vs := [_, _]) rfl (fun w => Lib.run_indexByteString _ _ w) ?_
  refine R.assign ⟨rfl, rfl, rfl, rfl⟩ rfl ?_
  refine GOps.nil ?_
  refine GW.ret (Out.of (Res.one rfl rfl) (by first | exact Hs.refl _ | exact Hs.tl _ | exact Hs.tl2 _ _ | exact Hs.tl3 _ _ _ | exact (Hs.app _).trans (Hs.tl _) | exact (Hs.app _).trans ((Hs.app _).trans (Hs.tl _))) ⟨?_, rfl⟩)
  rfl

theorem str_IndexByte (w0 : World) (G : Hp) (s : ByteArray) (c : Int) : GC Tryd.prog w0 60 #[.string s, .int .u8 c] (fun v G' => v = .int .i64 (Lib.indexByte s.data.toList c.toNat.toUInt8) ∧ G = G') G := by
  refine GC.body (args := [.string s, .int .u8 c]) Tryd.func60 rfl (by kernel_rfl) rfl ?_
  refine GW.seq ?_
  refine GW.region ?_
  refine R.assign ⟨rfl, rfl, rfl, rfl⟩ rfl ?_
  refine GOps.nil ?_
  refine GW.seq ?_
  refine GW.region ?_
  refine R.move ⟨rfl, rfl, rfl, rfl⟩ rfl ?_
  refine R.move ⟨rfl, rfl, rfl, rfl⟩ rfl ?_
  refine R.call ⟨rfl, rfl, rfl, rfl⟩ rfl (vs := [_, _]) rfl ((lite_IndexByte _ _ _ _).mono ?_)
  rintro _ _ ⟨rfl, rfl⟩
  refine R.assign ⟨rfl, rfl, rfl, rfl⟩ rfl ?_
  refine GOps.nil ?_
  refine GW.ret (Out.of (Res.one rfl rfl) (by first | exact Hs.refl _ | exact Hs.tl _ | exact Hs.tl2 _ _ | exact Hs.tl3 _ _ _ | exact (Hs.app _).trans (Hs.tl _) | exact (Hs.app _).trans ((Hs.app _).trans (Hs.tl _))) ⟨?_, rfl⟩)
  rfl

theorem term_iri (w0 : World) (G : Hp) (s : ByteArray) (hm : s.size ≤ 9223372036854775807) : GC Tryd.prog w0 48 #[.string s] (fun v G' => v = .bool (iriS (bs s)) ∧ G = G') G := by
  refine GC.body (args := [.string s]) Tryd.func48 rfl (by kernel_rfl) rfl ?_
  refine GW.seq ?_
  refine GW.region ?_
  refine R.alloc ⟨rfl, rfl, rfl, rfl⟩ Tryd.zeroValue4 fun b2 => ?_
  refine GOps.nil ?_
  refine GW.seq ?_
  refine GW.seq ?_
  refine GW.region ?_
  refine R.move ⟨rfl, rfl, rfl, rfl⟩ rfl ?_
  refine R.lenStr ⟨rfl, rfl, rfl, rfl⟩ rfl rfl Tryd.underlying9 ?_
  refine R.lss ⟨rfl, rfl, rfl, rfl⟩ rfl rfl ?_   -- lss ['t6', '1']
  refine R.move ⟨rfl, rfl, rfl, rfl⟩ rfl ?_
  refine GOps.caseB 8 rfl (fun hg1 => ?_) (fun hg1 => ?_)
  · try simp only [decide_eq_true_eq, decide_eq_false_iff_not, Bool.not_eq_true', Bool.not_eq_false'] at hg1
    refine GOps.skip rfl rfl rfl ?_
    refine GOps.skip rfl rfl rfl ?_
    refine GOps.skip rfl rfl rfl ?_
    refine R.pick_t ⟨rfl, rfl, rfl, rfl⟩ rfl rfl ?_
    refine R.move ⟨rfl, rfl, rfl, rfl⟩ rfl ?_
    refine GOps.skip rfl rfl rfl ?_
    refine GOps.skip rfl rfl rfl ?_
    refine GOps.skip rfl rfl rfl ?_
    refine R.pick_t ⟨rfl, rfl, rfl, rfl⟩ rfl rfl ?_
    refine GOps.nil ?_
    refine GW.cond_t rfl ?_
    refine GW.seq ?_
    refine GW.region ?_
    refine R.storeAll (G1 := []) rfl rfl rfl rfl rfl Tryd.sizeOf4 rfl rfl rfl rfl ?_   -- t2
    refine GOps.nil ?_
    refine GW.ret (Out.of (resCell rfl rfl Tryd.underlying4 rfl (.own' (by repeat (first | exact List.mem_cons_self | apply List.mem_cons_of_mem | apply List.mem_append_right)) rfl)) (by first | exact Hs.refl _ | exact Hs.tl _ | exact Hs.tl2 _ _ | exact Hs.tl3 _ _ _ | exact (Hs.app _).trans (Hs.tl _) | exact (Hs.app _).trans ((Hs.app _).trans (Hs.tl _))) ⟨?_, rfl⟩)
    refine vb ?_; symm; first | exact iri_no1 (by omega) | exact iri_no2 (by assumption) | exact hbad | exact iri_yes (by omega) (by omega) (by assumption) (by rw [← stop_valid hI.1 hn (by assumption)]; exact hI.2)
  · try simp only [decide_eq_true_eq, decide_eq_false_iff_not, Bool.not_eq_true', Bool.not_eq_false'] at hg1
    refine R.move ⟨rfl, rfl, rfl, rfl⟩ rfl ?_
    refine R.lenStr ⟨rfl, rfl, rfl, rfl⟩ rfl rfl Tryd.underlying9 ?_
    refine R.gtr ⟨rfl, rfl, rfl, rfl⟩ rfl rfl ?_   -- gtr ['t10', '1000']
    refine R.pick_f ⟨rfl, rfl, rfl, rfl⟩ rfl rfl ?_
    refine R.move ⟨rfl, rfl, rfl, rfl⟩ rfl ?_
    refine GOps.caseB 13 rfl (fun hg2 => ?_) (fun hg2 => ?_)
    · try simp only [decide_eq_true_eq, decide_eq_false_iff_not, Bool.not_eq_true', Bool.not_eq_false'] at hg2
      refine GOps.skip rfl rfl rfl ?_
      refine GOps.skip rfl rfl rfl ?_
      refine GOps.skip rfl rfl rfl ?_
      refine R.pick_t ⟨rfl, rfl, rfl, rfl⟩ rfl rfl ?_
      refine GOps.nil ?_
      refine GW.cond_t rfl ?_
      refine GW.seq ?_
      refine GW.region ?_
      refine R.storeAll (G1 := []) rfl rfl rfl rfl rfl Tryd.sizeOf4 rfl rfl rfl rfl ?_   -- t2
      refine GOps.nil ?_
      refine GW.ret (Out.of (resCell rfl rfl Tryd.underlying4 rfl (.own' (by repeat (first | exact List.mem_cons_self | apply List.mem_cons_of_mem | apply List.mem_append_right)) rfl)) (by first | exact Hs.refl _ | exact Hs.tl _ | exact Hs.tl2 _ _ | exact Hs.tl3 _ _ _ | exact (Hs.app _).trans (Hs.tl _) | exact (Hs.app _).trans ((Hs.app _).trans (Hs.tl _))) ⟨?_, rfl⟩)
      refine vb ?_; symm; first | exact iri_no1 (by omega) | exact iri_no2 (by assumption) | exact hbad | exact iri_yes (by omega) (by omega) (by assumption) (by rw [← stop_valid hI.1 hn (by assumption)]; exact hI.2)
    · try simp only [decide_eq_true_eq, decide_eq_false_iff_not, Bool.not_eq_true', Bool.not_eq_false'] at hg2
      refine R.move ⟨rfl, rfl, rfl, rfl⟩ rfl ?_
      refine R.call ⟨rfl, rfl, rfl, rfl⟩ rfl (vs := [_]) rfl ((utf_Valid _ _ _ (by assumption)).mono ?_)
      rintro _ _ ⟨rfl, rfl⟩
      refine R.not ⟨rfl, rfl, rfl, rfl⟩ rfl ?_
      refine R.pick_f ⟨rfl, rfl, rfl, rfl⟩ rfl rfl ?_
      refine GOps.nil ?_
      refine GW.ite rfl (fun hc3 => ?_) (fun hc3 => ?_)
      · try simp only [decide_eq_true_eq, decide_eq_false_iff_not, Bool.not_eq_true', Bool.not_eq_false'] at hc3
        refine GW.seq ?_
        refine GW.region ?_
        refine R.storeAll (G1 := []) rfl rfl rfl rfl rfl Tryd.sizeOf4 rfl rfl rfl rfl ?_   -- t2
        refine GOps.nil ?_
        refine GW.ret (Out.of (resCell rfl rfl Tryd.underlying4 rfl (.own' (by repeat (first | exact List.mem_cons_self | apply List.mem_cons_of_mem | apply List.mem_append_right)) rfl)) (by first | exact Hs.refl _ | exact Hs.tl _ | exact Hs.tl2 _ _ | exact Hs.tl3 _ _ _ | exact (Hs.app _).trans (Hs.tl _) | exact (Hs.app _).trans ((Hs.app _).trans (Hs.tl _))) ⟨?_, rfl⟩)
        refine vb ?_; symm; first | exact iri_no1 (by omega) | exact iri_no2 (by assumption) | exact hbad | exact iri_yes (by omega) (by omega) (by assumption) (by rw [← stop_valid hI.1 hn (by assumption)]; exact hI.2)
      · try simp only [decide_eq_true_eq, decide_eq_false_iff_not, Bool.not_eq_true', Bool.not_eq_false'] at hc3
        refine GW.skip ?_
        refine GW.seq ?_
        refine GW.seq ?_
        refine GW.region ?_
        refine R.move ⟨rfl, rfl, rfl, rfl⟩ rfl ?_
        refine R.call ⟨rfl, rfl, rfl, rfl⟩ rfl (vs := [_]) rfl ((utf_Runes _ _ _).mono ?_)
        rintro _ _ ⟨bS, rfl, rfl⟩
        refine GOps.nil ?_
        refine GW.block ?_
        refine GW.rangeFunc rfl fun D0 l0 r0 hp0 ha0 hb0 hfr0 => ?_
        refine GC.mono (utf_Runes1 w0 l0 bS s hm (fun k => (l0, lrec r0 .ready none) :: (D0, .exact (.deferred (some []))) :: (bS, .exact (.cells #[.string s] 9 (0, 0))) :: (b2, .exact (.cells #[.bool false] 4 (0, 0))) :: G) (fun k => Ahead (bs s) k ∧ allTo (fun i => !badC ((bs s).getD i 0)) k = true) (fun G' => G' = (l0, lrec r0 .done (some .ret)) :: (D0, .exact (.deferred (some []))) :: (bS, .exact (.cells #[.string s] 9 (0, 0))) :: (b2, .exact (.cells #[.bool false] 4 (0, 0))) :: G ∧ iriS (bs s) = false) (fun k => .own' (by repeat (first | exact List.mem_cons_self | apply List.mem_cons_of_mem)) rfl) ⟨Ahead.zero _, rfl⟩ ?_) ?_
        · intro k r n hI hn
          refine GY.intro hfr0 (by rw [hp0]; rfl) (by rw [hp0]; rfl) ?_
          rw [hp0, ha0, hb0]
          refine GW.region ?_
          refine R.assign ⟨rfl, rfl, rfl, rfl⟩ rfl ?_
          refine GOps.nil ?_
          refine ⟨_, Hs.refl _, ?_⟩
          refine GW.block ?_
          refine GW.cutS 33 (badR r) [(2, .pointer (some ⟨b2, 0, none⟩))] ?_ ?_
          · refine R.move ⟨rfl, rfl, rfl, rfl⟩ rfl ?_
            refine R.leq ⟨rfl, rfl, rfl, rfl⟩ rfl rfl ?_   -- leq ['t22', '32']
            refine R.move ⟨rfl, rfl, rfl, rfl⟩ rfl ?_
            refine GOps.caseB 24 rfl (fun hg4 => ?_) (fun hg4 => ?_)
            · try simp only [decide_eq_true_eq, decide_eq_false_iff_not, Bool.not_eq_true', Bool.not_eq_false'] at hg4
              refine GOps.skip rfl rfl rfl ?_
              refine GOps.skip rfl rfl rfl ?_
              refine GOps.skip rfl rfl rfl ?_
              refine GOps.skip rfl rfl rfl ?_
              refine GOps.skip rfl rfl rfl ?_
              refine GOps.skip rfl rfl rfl ?_
              refine GOps.skip rfl rfl rfl ?_
              refine GOps.skip rfl rfl rfl ?_
              refine R.pick_t ⟨rfl, rfl, rfl, rfl⟩ rfl rfl ?_
              refine GOps.nil ?_
              exact ⟨rfl, rfl, by repeat (first | exact Keeps.nil _ | refine Keeps.cons rfl ?_), by first | exact Hs.refl _ | exact Hs.tl _, vbs (by unfold badR; first | (rw [decide_eq_true (show r ≤ 32 by omega)]; rfl) | (rw [decide_eq_false (show ¬ r ≤ 32 by omega), decide_eq_true (show r < 128 by omega)]; rfl) | (rw [decide_eq_false (show ¬ r ≤ 32 by omega), decide_eq_false (show ¬ r < 128 by omega)]; rfl))⟩
            · try simp only [decide_eq_true_eq, decide_eq_false_iff_not, Bool.not_eq_true', Bool.not_eq_false'] at hg4
              refine R.move ⟨rfl, rfl, rfl, rfl⟩ rfl ?_
              refine R.lss ⟨rfl, rfl, rfl, rfl⟩ rfl rfl ?_   -- lss ['t25', '128']
              refine R.move ⟨rfl, rfl, rfl, rfl⟩ rfl ?_
              refine GOps.caseB 27 rfl (fun hg5 => ?_) (fun hg5 => ?_)
              · try simp only [decide_eq_true_eq, decide_eq_false_iff_not, Bool.not_eq_true', Bool.not_eq_false'] at hg5
                refine R.move ⟨rfl, rfl, rfl, rfl⟩ rfl ?_
                refine R.conv (r := ((r : Nat) : Int)) ⟨rfl, rfl, rfl, rfl⟩ rfl Tryd.underlying3 Tryd.underlying5 (u8w _ (by omega)) ?_
                refine R.call ⟨rfl, rfl, rfl, rfl⟩ rfl (vs := [_, _]) rfl ((str_IndexByte _ _ _ _).mono ?_)
                rintro _ _ ⟨rfl, rfl⟩
                refine R.geq ⟨rfl, rfl, rfl, rfl⟩ rfl rfl ?_   -- geq ['t30', '0']
                refine R.pick_t ⟨rfl, rfl, rfl, rfl⟩ rfl rfl ?_
                refine R.pick_f ⟨rfl, rfl, rfl, rfl⟩ rfl rfl ?_
                refine GOps.nil ?_
                exact ⟨rfl, rfl, by repeat (first | exact Keeps.nil _ | refine Keeps.cons rfl ?_), by first | exact Hs.refl _ | exact Hs.tl _, vbs (by unfold badR; first | (rw [decide_eq_true (show r ≤ 32 by omega)]; rfl) | (rw [decide_eq_false (show ¬ r ≤ 32 by omega), decide_eq_true (show r < 128 by omega)]; rfl) | (rw [decide_eq_false (show ¬ r ≤ 32 by omega), decide_eq_false (show ¬ r < 128 by omega)]; rfl))⟩
              · try simp only [decide_eq_true_eq, decide_eq_false_iff_not, Bool.not_eq_true', Bool.not_eq_false'] at hg5
                refine GOps.skip rfl rfl rfl ?_
                refine GOps.skip rfl rfl rfl ?_
                refine GOps.skip rfl rfl rfl ?_
                refine GOps.skip rfl rfl rfl ?_
                refine R.pick_f ⟨rfl, rfl, rfl, rfl⟩ rfl rfl ?_
                refine R.pick_f ⟨rfl, rfl, rfl, rfl⟩ rfl rfl ?_
                refine GOps.nil ?_
                exact ⟨rfl, rfl, by repeat (first | exact Keeps.nil _ | refine Keeps.cons rfl ?_), by first | exact Hs.refl _ | exact Hs.tl _, vbs (by unfold badR; first | (rw [decide_eq_true (show r ≤ 32 by omega)]; rfl) | (rw [decide_eq_false (show ¬ r ≤ 32 by omega), decide_eq_true (show r < 128 by omega)]; rfl) | (rw [decide_eq_false (show ¬ r ≤ 32 by omega), decide_eq_false (show ¬ r < 128 by omega)]; rfl))⟩
          · refine GW.ite rfl (fun hc6 => ?_) (fun hc6 => ?_)
            · try simp only [decide_eq_true_eq, decide_eq_false_iff_not, Bool.not_eq_true', Bool.not_eq_false'] at hc6
              refine GW.seq ?_
              refine GW.region ?_
              refine R.storeAll (G1 := [_, _, _]) rfl rfl rfl rfl rfl Tryd.sizeOf4 rfl rfl rfl rfl ?_   -- t2
              refine GOps.nil ?_
              refine GW.ret ?_
              exact ⟨_, Hs.refl _, .inr ⟨rfl, rfl, bad_iri hn (by assumption)⟩⟩
            · try simp only [decide_eq_true_eq, decide_eq_false_iff_not, Bool.not_eq_true', Bool.not_eq_false'] at hc6
              refine GW.skip ?_
              exact ⟨_, Hs.refl _, .inl ⟨rfl, ⟨hI.1.next hn, good_next hI.2 hn (by assumption)⟩, rfl⟩⟩
        · rintro _ _ (⟨k, hI, hn, rfl⟩ | ⟨rfl, hbad⟩)
          · refine ⟨.ready, none, _, by simp, Hs.refl _, ?_⟩
            show GW _ _ _ _ _ _
            refine GW.seq ?_
            refine GW.region ?_
            refine R.storeAll (G1 := [_, _]) rfl rfl rfl rfl rfl Tryd.sizeOf4 rfl rfl rfl rfl ?_   -- t2
            refine GOps.nil ?_
            refine GW.ret (Out.of1 (resCell rfl rfl Tryd.underlying4 rfl (.own' (by repeat (first | exact List.mem_cons_self | apply List.mem_cons_of_mem | apply List.mem_append_right)) rfl)) (by first | exact Hs.refl _ | exact Hs.tl _ | exact Hs.tl2 _ _ | exact Hs.tl3 _ _ _ | exact (Hs.app _).trans (Hs.tl _) | exact (Hs.app _).trans ((Hs.app _).trans (Hs.tl _))) ⟨?_, rfl⟩)
            refine vb ?_; symm; first | exact iri_no1 (by omega) | exact iri_no2 (by assumption) | exact hbad | exact iri_yes (by omega) (by omega) (by assumption) (by rw [← stop_valid hI.1 hn (by assumption)]; exact hI.2)
          · refine ⟨.done, some .ret, _, by simp, Hs.refl _, ?_⟩
            show GW _ .ret _ _ _ _
            refine GW.ret (Out.of1 (resCell rfl rfl Tryd.underlying4 rfl (.own' (by repeat (first | exact List.mem_cons_self | apply List.mem_cons_of_mem | apply List.mem_append_right)) rfl)) (by first | exact Hs.refl _ | exact Hs.tl _ | exact Hs.tl2 _ _ | exact Hs.tl3 _ _ _ | exact (Hs.app _).trans (Hs.tl _) | exact (Hs.app _).trans ((Hs.app _).trans (Hs.tl _))) ⟨?_, rfl⟩)
            refine vb ?_; symm; first | exact iri_no1 (by omega) | exact iri_no2 (by assumption) | exact hbad | exact iri_yes (by omega) (by omega) (by assumption) (by rw [← stop_valid hI.1 hn (by assumption)]; exact hI.2)

theorem term_value (w0 : World) (G : Hp) (s : ByteArray) (hm : s.size ≤ 9223372036854775807) : GC Tryd.prog w0 52 #[.string s] (fun v G' => v = .bool (decide (s.size ≤ 4000) && validS (bs s)) ∧ G = G') G := by
  refine GC.body (args := [.string s]) Tryd.func52 rfl (by kernel_rfl) rfl ?_
  refine GW.seq ?_
  refine GW.region ?_
  refine R.assign ⟨rfl, rfl, rfl, rfl⟩ rfl ?_
  refine GOps.nil ?_
  refine GW.seq ?_
  refine GW.region ?_
  refine R.move ⟨rfl, rfl, rfl, rfl⟩ rfl ?_
  refine R.lenStr ⟨rfl, rfl, rfl, rfl⟩ rfl rfl Tryd.underlying9 ?_
  refine R.leq ⟨rfl, rfl, rfl, rfl⟩ rfl rfl ?_   -- leq ['t4', '4000']
  refine R.move ⟨rfl, rfl, rfl, rfl⟩ rfl ?_
  refine GOps.caseB 6 rfl (fun hg1 => ?_) (fun hg1 => ?_)
  · try simp only [decide_eq_true_eq, decide_eq_false_iff_not, Bool.not_eq_true', Bool.not_eq_false'] at hg1
    refine R.move ⟨rfl, rfl, rfl, rfl⟩ rfl ?_
    refine R.call ⟨rfl, rfl, rfl, rfl⟩ rfl (vs := [_]) rfl ((utf_Valid _ _ _ (by assumption)).mono ?_)
    rintro _ _ ⟨rfl, rfl⟩
    refine R.pick_t ⟨rfl, rfl, rfl, rfl⟩ rfl rfl ?_
    refine R.assign ⟨rfl, rfl, rfl, rfl⟩ rfl ?_
    refine GOps.nil ?_
    refine GW.ret (Out.of (Res.one rfl rfl) (by first | exact Hs.refl _ | exact Hs.tl _ | exact Hs.tl2 _ _ | exact Hs.tl3 _ _ _ | exact (Hs.app _).trans (Hs.tl _) | exact (Hs.app _).trans ((Hs.app _).trans (Hs.tl _))) ⟨?_, rfl⟩)
    refine vb ?_; first | (rw [decide_eq_true (show s.size ≤ 4000 by omega)]; rfl) | (rw [decide_eq_false (show ¬ s.size ≤ 4000 by omega)]; rfl)
  · try simp only [decide_eq_true_eq, decide_eq_false_iff_not, Bool.not_eq_true', Bool.not_eq_false'] at hg1
    refine GOps.skip rfl rfl rfl ?_
    refine GOps.skip rfl rfl rfl ?_
    refine R.pick_f ⟨rfl, rfl, rfl, rfl⟩ rfl rfl ?_
    refine R.assign ⟨rfl, rfl, rfl, rfl⟩ rfl ?_
    refine GOps.nil ?_
    refine GW.ret (Out.of (Res.one rfl rfl) (by first | exact Hs.refl _ | exact Hs.tl _ | exact Hs.tl2 _ _ | exact Hs.tl3 _ _ _ | exact (Hs.app _).trans (Hs.tl _) | exact (Hs.app _).trans ((Hs.app _).trans (Hs.tl _))) ⟨?_, rfl⟩)
    refine vb ?_; first | (rw [decide_eq_true (show s.size ≤ 4000 by omega)]; rfl) | (rw [decide_eq_false (show ¬ s.size ≤ 4000 by omega)]; rfl)

end Go.Proofs.YtgjmandjhjfgkaaDoor.Gl
