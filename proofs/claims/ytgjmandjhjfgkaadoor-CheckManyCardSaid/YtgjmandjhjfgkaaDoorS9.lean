import Derived.Test.YtgjmandjhjfgkaaDoorS8
namespace Go.Proofs.YtgjmandjhjfgkaaDoor.Gl
open Go.RowKit Go.Shelf
set_option linter.unusedVariables false
set_option linter.unnecessarySimpa false
set_option linter.unusedSimpArgs false
attribute [-simp] List.getD_eq_getElem?_getD



def startB (l : List Nat) (i : Nat) : Bool := decide (i = 0) || decide (l.getD (i - 1) 0 = 45)
theorem tag_len {s : ByteArray} (h : s.size < 1 ∨ 35 < s.size) : tagS (bs s) = false := by
  unfold tagS
  rw [bs_length]
  rcases h with h | h
  · have : bs s = [] := size_zero.1 (by omega)
    rw [this]; rfl
  · rw [decide_eq_false (show ¬ s.size ≤ 35 by omega)]; simp
theorem tag_first {l : List Nat} (h : l[0]? = some 45) : tagS l = false := by
  cases l with
  | nil => cases h
  | cons c l =>
    simp at h
    subst h
    simp [tagS, tagG]
theorem tagG_end45 : ∀ (l : List Nat) (first start : Bool), l.getLast? = some 45 → tagG first start l = false
  | [], _, _, h => by cases h
  | [c], first, start, h => by
    simp at h
    subst h
    simp [tagG]
  | c :: d :: l, first, start, h => by
    have h' : (d :: l).getLast? = some 45 := by simpa [List.getLast?_cons] using h
    rw [tagG]
    split
    · rw [tagG_end45 (d :: l) false true h']; simp
    · rw [tagG_end45 (d :: l) first false h']; simp
theorem tag_last {l : List Nat} (h : l[l.length - 1]? = some 45) : tagS l = false := by
  unfold tagS
  rw [tagG_end45 l true true (by rw [List.getLast?_eq_getElem?]; exact h)]
  rfl
theorem tag_step {l : List Nat} {i c : Nat} {first start : Bool} (hc : l[i]? = some c) : tagG first start (l.drop i) = if c = 45 then !start && tagG false true (l.drop (i + 1)) else okc first c && tagG first false (l.drop (i + 1)) := by
  have hlt := (List.getElem?_eq_some_iff.1 hc).1
  have h2 := (List.getElem?_eq_some_iff.1 hc).2
  rw [List.drop_eq_getElem_cons hlt, h2, tagG]
def TgI (s : ByteArray) (i : Nat) (first : Bool) : Prop := i ≤ s.size ∧ tagG true true (bs s) = tagG first (startB (bs s) i) ((bs s).drop i)
theorem TgI.zero (s : ByteArray) : TgI s 0 true := ⟨by omega, rfl⟩
theorem startB_succ {l : List Nat} {i c : Nat} (hc : l[i]? = some c) : startB l (i + 1) = decide (c = 45) := by
  unfold startB
  rw [decide_eq_false (show ¬ i + 1 = 0 by omega), Nat.add_sub_cancel, getD_of hc]
  rfl
theorem TgI.dash {s : ByteArray} {i : Nat} {first : Bool} (h : TgI s i first) (hc : (bs s)[i]? = some 45) (hs : startB (bs s) i = false) : TgI s (i + 1) false := by
  have hlt := (List.getElem?_eq_some_iff.1 hc).1
  rw [bs_length] at hlt
  refine ⟨hlt, ?_⟩
  rw [h.2, tag_step hc, hs, startB_succ hc]
  simp
theorem TgI.char {s : ByteArray} {i c : Nat} {first : Bool} (h : TgI s i first) (hc : (bs s)[i]? = some c) (h45 : c ≠ 45) (ho : okc first c = true) : TgI s (i + 1) first := by
  have hlt := (List.getElem?_eq_some_iff.1 hc).1
  rw [bs_length] at hlt
  refine ⟨hlt, ?_⟩
  rw [h.2, tag_step hc, if_neg h45, ho, startB_succ hc, decide_eq_false h45]
  rfl
theorem TgI.noDash {s : ByteArray} {i : Nat} {first : Bool} (h : TgI s i first) (hc : (bs s)[i]? = some 45) (hs : startB (bs s) i = true) : tagS (bs s) = false := by
  unfold tagS
  rw [h.2, tag_step hc, hs, if_pos rfl]
  rfl
theorem TgI.noChar {s : ByteArray} {i c : Nat} {first : Bool} (h : TgI s i first) (hc : (bs s)[i]? = some c) (h45 : c ≠ 45) (ho : okc first c = false) : tagS (bs s) = false := by
  unfold tagS
  rw [h.2, tag_step hc, if_neg h45, ho]
  rfl
theorem TgI.yes {s : ByteArray} {i : Nat} {first : Bool} (h : TgI s i first) (hi : i = s.size) (h1 : 1 ≤ s.size) (h35 : s.size ≤ 35) {c : Nat} (hc : (bs s)[s.size - 1]? = some c) (h45 : c ≠ 45) : tagS (bs s) = true := by
  subst hi
  unfold tagS
  rw [h.2, List.drop_eq_nil_of_le (by rw [bs_length]; omega), bs_length, decide_eq_true h35]
  unfold startB
  rw [decide_eq_false (show ¬ s.size = 0 by omega), getD_of hc, decide_eq_false h45]
  rfl
theorem start_of {l : List Nat} {i c : Nat} (hi : 1 ≤ i) (hc : l[i - 1]? = some c) : startB l i = decide (c = 45) := by
  unfold startB
  rw [decide_eq_false (show ¬ i = 0 by omega), getD_of hc]
  rfl
theorem some_eq {α : Type} {x : Option α} {a b : α} (h : x = some a) (e : a = b) : x = some b := by rw [h, e]


theorem ref_tag (w0 : World) (G : Hp) (s : ByteArray) (hm : s.size ≤ 1048576) : GC Tryd.prog w0 44 #[.string s] (fun v G' => v = .bool (tagS (bs s)) ∧ G = G') G := by
  refine GC.body (args := [.string s]) Tryd.func44 rfl (by kernel_rfl) rfl ?_
  refine GW.seq ?_
  refine GW.region ?_
  refine R.assign ⟨rfl, rfl, rfl, rfl⟩ rfl ?_
  refine GOps.nil ?_
  refine GW.seq ?_
  refine GW.seq ?_
  refine GW.region ?_
  refine R.move ⟨rfl, rfl, rfl, rfl⟩ rfl ?_
  refine R.lenStr ⟨rfl, rfl, rfl, rfl⟩ rfl rfl Tryd.underlying9 ?_
  refine R.lss ⟨rfl, rfl, rfl, rfl⟩ rfl rfl ?_   -- lss ['t7', '1']
  refine R.move ⟨rfl, rfl, rfl, rfl⟩ rfl ?_
  refine GOps.caseB 9 rfl (fun hg1 => ?_) (fun hg1 => ?_)
  · try simp only [decide_eq_true_eq, decide_eq_false_iff_not, Bool.not_eq_true', Bool.not_eq_false'] at hg1
    refine GOps.skip rfl rfl rfl ?_
    refine GOps.skip rfl rfl rfl ?_
    refine GOps.skip rfl rfl rfl ?_
    refine R.pick_t ⟨rfl, rfl, rfl, rfl⟩ rfl rfl ?_
    refine R.move ⟨rfl, rfl, rfl, rfl⟩ rfl ?_
    refine GOps.skip rfl rfl rfl ?_
    refine GOps.skip rfl rfl rfl ?_
    refine GOps.skip rfl rfl rfl ?_
    refine R.pick_t ⟨rfl, rfl, rfl, rfl⟩ rfl rfl ?_
    refine R.move ⟨rfl, rfl, rfl, rfl⟩ rfl ?_
    refine GOps.skip rfl rfl rfl ?_
    refine GOps.skip rfl rfl rfl ?_
    refine GOps.skip rfl rfl rfl ?_
    refine GOps.skip rfl rfl rfl ?_
    refine GOps.skip rfl rfl rfl ?_
    refine GOps.skip rfl rfl rfl ?_
    refine R.pick_t ⟨rfl, rfl, rfl, rfl⟩ rfl rfl ?_
    refine GOps.nil ?_
    refine GW.cond_t rfl ?_
    refine GW.seq ?_
    refine GW.region ?_
    refine R.assign ⟨rfl, rfl, rfl, rfl⟩ rfl ?_
    refine GOps.nil ?_
    refine GW.ret (Out.of (Res.one rfl rfl) (by first | exact Hs.refl _ | exact Hs.tl _ | exact Hs.tl2 _ _ | exact Hs.tl3 _ _ _ | exact (Hs.app _).trans (Hs.tl _) | exact (Hs.app _).trans ((Hs.app _).trans (Hs.tl _))) ⟨?_, rfl⟩)
    refine vb ?_; symm; first | exact tag_len (by omega) | exact tag_first (some_eq hx1 (by omega)) | exact tag_last (by rw [bs_length]; exact some_eq hx2 (by omega)) | exact hI.noDash (some_eq (hcx (by omega)) (by omega)) (by rw [start_of h1i hx6]; exact decide_eq_true (by omega)) | exact hI.noChar (hcx (by omega)) (by omega) (by assumption) | exact hI.yes (by omega) (by omega) (by omega) hx2 (by omega)
  · try simp only [decide_eq_true_eq, decide_eq_false_iff_not, Bool.not_eq_true', Bool.not_eq_false'] at hg1
    refine R.move ⟨rfl, rfl, rfl, rfl⟩ rfl ?_
    refine R.lenStr ⟨rfl, rfl, rfl, rfl⟩ rfl rfl Tryd.underlying9 ?_
    refine R.gtr ⟨rfl, rfl, rfl, rfl⟩ rfl rfl ?_   -- gtr ['t11', '35']
    refine R.pick_f ⟨rfl, rfl, rfl, rfl⟩ rfl rfl ?_
    refine R.move ⟨rfl, rfl, rfl, rfl⟩ rfl ?_
    refine GOps.caseB 14 rfl (fun hg2 => ?_) (fun hg2 => ?_)
    · try simp only [decide_eq_true_eq, decide_eq_false_iff_not, Bool.not_eq_true', Bool.not_eq_false'] at hg2
      refine GOps.skip rfl rfl rfl ?_
      refine GOps.skip rfl rfl rfl ?_
      refine GOps.skip rfl rfl rfl ?_
      refine R.pick_t ⟨rfl, rfl, rfl, rfl⟩ rfl rfl ?_
      refine R.move ⟨rfl, rfl, rfl, rfl⟩ rfl ?_
      refine GOps.skip rfl rfl rfl ?_
      refine GOps.skip rfl rfl rfl ?_
      refine GOps.skip rfl rfl rfl ?_
      refine GOps.skip rfl rfl rfl ?_
      refine GOps.skip rfl rfl rfl ?_
      refine GOps.skip rfl rfl rfl ?_
      refine R.pick_t ⟨rfl, rfl, rfl, rfl⟩ rfl rfl ?_
      refine GOps.nil ?_
      refine GW.cond_t rfl ?_
      refine GW.seq ?_
      refine GW.region ?_
      refine R.assign ⟨rfl, rfl, rfl, rfl⟩ rfl ?_
      refine GOps.nil ?_
      refine GW.ret (Out.of (Res.one rfl rfl) (by first | exact Hs.refl _ | exact Hs.tl _ | exact Hs.tl2 _ _ | exact Hs.tl3 _ _ _ | exact (Hs.app _).trans (Hs.tl _) | exact (Hs.app _).trans ((Hs.app _).trans (Hs.tl _))) ⟨?_, rfl⟩)
      refine vb ?_; symm; first | exact tag_len (by omega) | exact tag_first (some_eq hx1 (by omega)) | exact tag_last (by rw [bs_length]; exact some_eq hx2 (by omega)) | exact hI.noDash (some_eq (hcx (by omega)) (by omega)) (by rw [start_of h1i hx6]; exact decide_eq_true (by omega)) | exact hI.noChar (hcx (by omega)) (by omega) (by assumption) | exact hI.yes (by omega) (by omega) (by omega) hx2 (by omega)
    · try simp only [decide_eq_true_eq, decide_eq_false_iff_not, Bool.not_eq_true', Bool.not_eq_false'] at hg2
      refine R.move ⟨rfl, rfl, rfl, rfl⟩ rfl ?_
      refine R.indexStrA ⟨rfl, rfl, rfl, rfl⟩ rfl rfl Tryd.underlying9 (by omega) (by omega) fun c1 hx1 hb1 => ?_   -- "ref.go:60" ['t15', '0']
      refine R.eqI ⟨rfl, rfl, rfl, rfl⟩ rfl rfl ?_   -- eql ['t16', '45']
      refine R.pick_f ⟨rfl, rfl, rfl, rfl⟩ rfl rfl ?_
      refine R.move ⟨rfl, rfl, rfl, rfl⟩ rfl ?_
      refine GOps.caseB 19 rfl (fun hg3 => ?_) (fun hg3 => ?_)
      · try simp only [decide_eq_true_eq, decide_eq_false_iff_not, Bool.not_eq_true', Bool.not_eq_false'] at hg3
        refine GOps.skip rfl rfl rfl ?_
        refine GOps.skip rfl rfl rfl ?_
        refine GOps.skip rfl rfl rfl ?_
        refine GOps.skip rfl rfl rfl ?_
        refine GOps.skip rfl rfl rfl ?_
        refine GOps.skip rfl rfl rfl ?_
        refine R.pick_t ⟨rfl, rfl, rfl, rfl⟩ rfl rfl ?_
        refine GOps.nil ?_
        refine GW.cond_t rfl ?_
        refine GW.seq ?_
        refine GW.region ?_
        refine R.assign ⟨rfl, rfl, rfl, rfl⟩ rfl ?_
        refine GOps.nil ?_
        refine GW.ret (Out.of (Res.one rfl rfl) (by first | exact Hs.refl _ | exact Hs.tl _ | exact Hs.tl2 _ _ | exact Hs.tl3 _ _ _ | exact (Hs.app _).trans (Hs.tl _) | exact (Hs.app _).trans ((Hs.app _).trans (Hs.tl _))) ⟨?_, rfl⟩)
        refine vb ?_; symm; first | exact tag_len (by omega) | exact tag_first (some_eq hx1 (by omega)) | exact tag_last (by rw [bs_length]; exact some_eq hx2 (by omega)) | exact hI.noDash (some_eq (hcx (by omega)) (by omega)) (by rw [start_of h1i hx6]; exact decide_eq_true (by omega)) | exact hI.noChar (hcx (by omega)) (by omega) (by assumption) | exact hI.yes (by omega) (by omega) (by omega) hx2 (by omega)
      · try simp only [decide_eq_true_eq, decide_eq_false_iff_not, Bool.not_eq_true', Bool.not_eq_false'] at hg3
        refine R.move ⟨rfl, rfl, rfl, rfl⟩ rfl ?_
        refine R.move ⟨rfl, rfl, rfl, rfl⟩ rfl ?_
        refine R.lenStr ⟨rfl, rfl, rfl, rfl⟩ rfl rfl Tryd.underlying9 ?_
        refine R.sub (r := ((s.size - 1 : Nat) : Int)) ⟨rfl, rfl, rfl, rfl⟩ rfl rfl (by rw [wrap64_id (by omega) (by omega)]; omega) ?_   -- sub ['t22', '1']
        refine R.indexStrA ⟨rfl, rfl, rfl, rfl⟩ rfl rfl Tryd.underlying9 (by omega) (by omega) fun c2 hx2 hb2 => ?_   -- "ref.go:60" ['t20', 't23']
        refine R.eqI ⟨rfl, rfl, rfl, rfl⟩ rfl rfl ?_   -- eql ['t24', '45']
        refine R.pick_f ⟨rfl, rfl, rfl, rfl⟩ rfl rfl ?_
        refine GOps.nil ?_
        refine GW.ite rfl (fun hc4 => ?_) (fun hc4 => ?_)
        · try simp only [decide_eq_true_eq, decide_eq_false_iff_not, Bool.not_eq_true', Bool.not_eq_false'] at hc4
          refine GW.seq ?_
          refine GW.region ?_
          refine R.assign ⟨rfl, rfl, rfl, rfl⟩ rfl ?_
          refine GOps.nil ?_
          refine GW.ret (Out.of (Res.one rfl rfl) (by first | exact Hs.refl _ | exact Hs.tl _ | exact Hs.tl2 _ _ | exact Hs.tl3 _ _ _ | exact (Hs.app _).trans (Hs.tl _) | exact (Hs.app _).trans ((Hs.app _).trans (Hs.tl _))) ⟨?_, rfl⟩)
          refine vb ?_; symm; first | exact tag_len (by omega) | exact tag_first (some_eq hx1 (by omega)) | exact tag_last (by rw [bs_length]; exact some_eq hx2 (by omega)) | exact hI.noDash (some_eq (hcx (by omega)) (by omega)) (by rw [start_of h1i hx6]; exact decide_eq_true (by omega)) | exact hI.noChar (hcx (by omega)) (by omega) (by assumption) | exact hI.yes (by omega) (by omega) (by omega) hx2 (by omega)
        · try simp only [decide_eq_true_eq, decide_eq_false_iff_not, Bool.not_eq_true', Bool.not_eq_false'] at hc4
          refine GW.skip ?_
          refine GW.seq ?_
          refine GW.region ?_
          refine R.assign ⟨rfl, rfl, rfl, rfl⟩ rfl ?_
          refine GOps.nil ?_
          refine GW.seq ?_
          refine GW.seq ?_
          refine GW.region ?_
          refine R.assign ⟨rfl, rfl, rfl, rfl⟩ rfl ?_
          refine GOps.nil ?_
          refine GW.block ?_
          -- LOOP: live 0:s, 3:first, 4:i
          refine GW.loop4 (fun (i : Nat) (first : Bool) (u1 : Unit) (u2 : Unit) => [(0, .string s), (3, .bool first), (4, .int .i64 i)]) (fun (i : Nat) (first : Bool) (u1 : Unit) (u2 : Unit) => G) (fun i : Nat => s.size - i) (fun (i : Nat) (first : Bool) (u1 : Unit) (u2 : Unit) => TgI s i first) 0 (true) (()) (())
            (by repeat (first | exact Keeps.nil _ | refine Keeps.cons rfl ?_)) (Hs.refl _) (TgI.zero s) ?_
          rintro i first u1 u2 hI
          have hi := hI.1
          obtain ⟨c, hcx, hcb⟩ : ∃ c, (i < s.size → (bs s)[i]? = some c) ∧ c < 256 := by
            rcases Nat.lt_or_ge i s.size with h | h
            · obtain ⟨c, h1, h2⟩ := bs_some s i h
              exact ⟨c, fun _ => h1, h2⟩
            · exact ⟨0, fun h2 => absurd h2 (by omega), by omega⟩
          refine GW.seq ?_
          refine GW.seq ?_
          refine GW.region ?_
          refine R.move ⟨rfl, rfl, rfl, rfl⟩ rfl ?_
          refine R.move ⟨rfl, rfl, rfl, rfl⟩ rfl ?_
          refine R.lenStr ⟨rfl, rfl, rfl, rfl⟩ rfl rfl Tryd.underlying9 ?_
          refine R.lss ⟨rfl, rfl, rfl, rfl⟩ rfl rfl ?_   -- lss ['t27', 't29']
          refine GOps.nil ?_
          refine GW.ite rfl (fun hc5 => ?_) (fun hc5 => ?_)
          · try simp only [decide_eq_true_eq, decide_eq_false_iff_not, Bool.not_eq_true', Bool.not_eq_false'] at hc5
            refine GW.skip ?_
            refine GW.seq ?_
            refine GW.block ?_
            refine GW.cutB 5 (isSm c) [(0, .string s), (3, .bool first), (4, .int .i64 i)] (G' := G) ?_ ?_
            · refine R.move ⟨rfl, rfl, rfl, rfl⟩ rfl ?_
              refine R.move ⟨rfl, rfl, rfl, rfl⟩ rfl ?_
              refine R.indexStr ⟨rfl, rfl, rfl, rfl⟩ rfl rfl Tryd.underlying9 (by omega) (hcx (by omega)) ?_   -- "ref.go:65" ['t33', 't34']
              refine R.geq ⟨rfl, rfl, rfl, rfl⟩ rfl rfl ?_   -- geq ['t35', '97']
              refine R.move ⟨rfl, rfl, rfl, rfl⟩ rfl ?_
              refine GOps.caseB 37 rfl (fun hg6 => ?_) (fun hg6 => ?_)
              · try simp only [decide_eq_true_eq, decide_eq_false_iff_not, Bool.not_eq_true', Bool.not_eq_false'] at hg6
                refine R.move ⟨rfl, rfl, rfl, rfl⟩ rfl ?_
                refine R.move ⟨rfl, rfl, rfl, rfl⟩ rfl ?_
                refine R.indexStr ⟨rfl, rfl, rfl, rfl⟩ rfl rfl Tryd.underlying9 (by omega) (hcx (by omega)) ?_   -- "ref.go:65" ['t38', 't39']
                refine R.leq ⟨rfl, rfl, rfl, rfl⟩ rfl rfl ?_   -- leq ['t40', '122']
                refine R.pick_t ⟨rfl, rfl, rfl, rfl⟩ rfl rfl ?_
                refine R.assign ⟨rfl, rfl, rfl, rfl⟩ rfl ?_
                refine GOps.nil ?_
                exact ⟨rfl, rfl, by repeat (first | exact Keeps.nil _ | refine Keeps.cons rfl ?_), by first | exact Hs.refl _ | exact Hs.tl _, vbs (by unfold isSm; rw [Bool.eq_iff_iff]; simp; omega)⟩
              · try simp only [decide_eq_true_eq, decide_eq_false_iff_not, Bool.not_eq_true', Bool.not_eq_false'] at hg6
                refine GOps.skip rfl rfl rfl ?_
                refine GOps.skip rfl rfl rfl ?_
                refine GOps.skip rfl rfl rfl ?_
                refine GOps.skip rfl rfl rfl ?_
                refine R.pick_f ⟨rfl, rfl, rfl, rfl⟩ rfl rfl ?_
                refine R.assign ⟨rfl, rfl, rfl, rfl⟩ rfl ?_
                refine GOps.nil ?_
                exact ⟨rfl, rfl, by repeat (first | exact Keeps.nil _ | refine Keeps.cons rfl ?_), by first | exact Hs.refl _ | exact Hs.tl _, vbs (by unfold isSm; rw [Bool.eq_iff_iff]; simp; omega)⟩
            · refine GW.block ?_
              refine GW.seq ?_
              refine GW.region ?_
              refine R.move ⟨rfl, rfl, rfl, rfl⟩ rfl ?_
              refine R.move ⟨rfl, rfl, rfl, rfl⟩ rfl ?_
              refine R.indexStr ⟨rfl, rfl, rfl, rfl⟩ rfl rfl Tryd.underlying9 (by omega) (hcx (by omega)) ?_   -- "ref.go:67" ['t44', 't45']
              refine R.eqI ⟨rfl, rfl, rfl, rfl⟩ rfl rfl ?_   -- eql ['t46', '45']
              refine R.assign ⟨rfl, rfl, rfl, rfl⟩ rfl ?_
              refine GOps.nil ?_
              refine GW.ite rfl (fun hc7 => ?_) (fun hc7 => ?_)
              · try simp only [decide_eq_true_eq, decide_eq_false_iff_not, Bool.not_eq_true', Bool.not_eq_false'] at hc7
                have h1i : 1 ≤ i := by
                  rcases Nat.eq_zero_or_pos i with h | h
                  · subst h
                    have hh := hcx (by omega)
                    rw [show (bs s)[0]? = some c1 from hx1] at hh
                    injection hh with hh
                    omega
                  · exact h
                refine GW.seq ?_
                refine GW.seq ?_
                refine GW.region ?_
                refine R.move ⟨rfl, rfl, rfl, rfl⟩ rfl ?_
                refine R.move ⟨rfl, rfl, rfl, rfl⟩ rfl ?_
                refine R.sub (r := ((i - 1 : Nat) : Int)) ⟨rfl, rfl, rfl, rfl⟩ rfl rfl (by rw [wrap64_id (by omega) (by omega)]; omega) ?_   -- sub ['t49', '1']
                refine R.indexStrA ⟨rfl, rfl, rfl, rfl⟩ rfl rfl Tryd.underlying9 (by omega) (by omega) fun c6 hx6 hb6 => ?_   -- "ref.go:68" ['t48', 't50']
                refine R.eqI ⟨rfl, rfl, rfl, rfl⟩ rfl rfl ?_   -- eql ['t51', '45']
                refine GOps.nil ?_
                refine GW.ite rfl (fun hc8 => ?_) (fun hc8 => ?_)
                · try simp only [decide_eq_true_eq, decide_eq_false_iff_not, Bool.not_eq_true', Bool.not_eq_false'] at hc8
                  refine GW.seq ?_
                  refine GW.region ?_
                  refine R.assign ⟨rfl, rfl, rfl, rfl⟩ rfl ?_
                  refine GOps.nil ?_
                  refine GW.ret (Out.of (Res.one rfl rfl) (by first | exact Hs.refl _ | exact Hs.tl _ | exact Hs.tl2 _ _ | exact Hs.tl3 _ _ _ | exact (Hs.app _).trans (Hs.tl _) | exact (Hs.app _).trans ((Hs.app _).trans (Hs.tl _))) ⟨?_, rfl⟩)
                  refine vb ?_; symm; first | exact tag_len (by omega) | exact tag_first (some_eq hx1 (by omega)) | exact tag_last (by rw [bs_length]; exact some_eq hx2 (by omega)) | exact hI.noDash (some_eq (hcx (by omega)) (by omega)) (by rw [start_of h1i hx6]; exact decide_eq_true (by omega)) | exact hI.noChar (hcx (by omega)) (by omega) (by assumption) | exact hI.yes (by omega) (by omega) (by omega) hx2 (by omega)
                · try simp only [decide_eq_true_eq, decide_eq_false_iff_not, Bool.not_eq_true', Bool.not_eq_false'] at hc8
                  refine GW.skip ?_
                  refine GW.region ?_
                  refine R.assign ⟨rfl, rfl, rfl, rfl⟩ rfl ?_
                  refine GOps.nil ?_
                  refine GW.region ?_
                  refine R.move ⟨rfl, rfl, rfl, rfl⟩ rfl ?_
                  refine R.add (r := _) ⟨rfl, rfl, rfl, rfl⟩ rfl rfl (wrap64_id (by omega) (by omega)) ?_   -- add ['t31', '1']
                  refine R.assign ⟨rfl, rfl, rfl, rfl⟩ rfl ?_
                  refine GOps.nil ?_
                  exact ⟨i + 1, _, (), (), by omega, by first | exact hI.dash (some_eq (hcx (by omega)) (by omega)) (by rw [start_of h1i hx6]; exact decide_eq_false (by omega)) | exact hI.char (hcx (by omega)) (by omega) (by assumption), rfl, by repeat (first | exact Keeps.nil _ | refine Keeps.cons rfl ?_), by first | exact Hs.refl _ | exact Hs.tl _ | exact Hs.tl2 _ _⟩
              · try simp only [decide_eq_true_eq, decide_eq_false_iff_not, Bool.not_eq_true', Bool.not_eq_false'] at hc7
                refine GW.cutB 53 (!(okc first c)) [(0, .string s), (3, .bool first), (4, .int .i64 i)] (G' := G) ?_ ?_
                · refine R.move ⟨rfl, rfl, rfl, rfl⟩ rfl ?_
                  refine R.not ⟨rfl, rfl, rfl, rfl⟩ rfl ?_
                  refine R.move ⟨rfl, rfl, rfl, rfl⟩ rfl ?_
                  refine GOps.caseB 56 rfl (fun hg9 => ?_) (fun hg9 => ?_)
                  · try simp only [decide_eq_true_eq, decide_eq_false_iff_not, Bool.not_eq_true', Bool.not_eq_false'] at hg9
                    refine R.move ⟨rfl, rfl, rfl, rfl⟩ rfl ?_
                    refine R.move ⟨rfl, rfl, rfl, rfl⟩ rfl ?_
                    refine GOps.caseB 58 rfl (fun hg10 => ?_) (fun hg10 => ?_)
                    · try simp only [decide_eq_true_eq, decide_eq_false_iff_not, Bool.not_eq_true', Bool.not_eq_false'] at hg10
                      refine GOps.skip rfl rfl rfl ?_
                      refine GOps.skip rfl rfl rfl ?_
                      refine GOps.skip rfl rfl rfl ?_
                      refine GOps.skip rfl rfl rfl ?_
                      refine GOps.skip rfl rfl rfl ?_
                      refine R.pick_t ⟨rfl, rfl, rfl, rfl⟩ rfl rfl ?_
                      refine R.pick_t ⟨rfl, rfl, rfl, rfl⟩ rfl rfl ?_
                      refine R.assign ⟨rfl, rfl, rfl, rfl⟩ rfl ?_
                      refine GOps.nil ?_
                      exact ⟨rfl, rfl, by repeat (first | exact Keeps.nil _ | refine Keeps.cons rfl ?_), by first | exact Hs.refl _ | exact Hs.tl _, vbs (by unfold okc; (generalize isSm c = a at *); (generalize isDig c = e at *); cases a <;> cases first <;> cases e <;> first | rfl | contradiction | simp_all)⟩
                    · try simp only [decide_eq_true_eq, decide_eq_false_iff_not, Bool.not_eq_true', Bool.not_eq_false'] at hg10
                      refine R.move ⟨rfl, rfl, rfl, rfl⟩ rfl ?_
                      refine R.move ⟨rfl, rfl, rfl, rfl⟩ rfl ?_
                      refine R.indexStr ⟨rfl, rfl, rfl, rfl⟩ rfl rfl Tryd.underlying9 (by omega) (hcx (by omega)) ?_   -- "ref.go:72" ['t59', 't60']
                      refine R.call ⟨rfl, rfl, rfl, rfl⟩ rfl (vs := [_]) rfl ((ref_Digit _ _ _).mono ?_)
                      rintro _ _ ⟨rfl, rfl⟩
                      refine R.not ⟨rfl, rfl, rfl, rfl⟩ rfl ?_
                      refine R.pick_f ⟨rfl, rfl, rfl, rfl⟩ rfl rfl ?_
                      refine R.pick_t ⟨rfl, rfl, rfl, rfl⟩ rfl rfl ?_
                      refine R.assign ⟨rfl, rfl, rfl, rfl⟩ rfl ?_
                      refine GOps.nil ?_
                      exact ⟨rfl, rfl, by repeat (first | exact Keeps.nil _ | refine Keeps.cons rfl ?_), by first | exact Hs.refl _ | exact Hs.tl _, vbs (by unfold okc; (generalize isSm c = a at *); (generalize isDig c = e at *); cases a <;> cases first <;> cases e <;> first | rfl | contradiction | simp_all)⟩
                  · try simp only [decide_eq_true_eq, decide_eq_false_iff_not, Bool.not_eq_true', Bool.not_eq_false'] at hg9
                    refine GOps.skip rfl rfl rfl ?_
                    refine GOps.skip rfl rfl rfl ?_
                    refine GOps.skip rfl rfl rfl ?_
                    refine GOps.skip rfl rfl rfl ?_
                    refine GOps.skip rfl rfl rfl ?_
                    refine GOps.skip rfl rfl rfl ?_
                    refine GOps.skip rfl rfl rfl ?_
                    refine GOps.skip rfl rfl rfl ?_
                    refine R.pick_f ⟨rfl, rfl, rfl, rfl⟩ rfl rfl ?_
                    refine R.assign ⟨rfl, rfl, rfl, rfl⟩ rfl ?_
                    refine GOps.nil ?_
                    exact ⟨rfl, rfl, by repeat (first | exact Keeps.nil _ | refine Keeps.cons rfl ?_), by first | exact Hs.refl _ | exact Hs.tl _, vbs (by unfold okc; (generalize isSm c = a at *); (generalize isDig c = e at *); cases a <;> cases first <;> cases e <;> first | rfl | contradiction | simp_all)⟩
                · refine GW.ite rfl (fun hc11 => ?_) (fun hc11 => ?_)
                  · try simp only [decide_eq_true_eq, decide_eq_false_iff_not, Bool.not_eq_true', Bool.not_eq_false'] at hc11
                    refine GW.seq ?_
                    refine GW.region ?_
                    refine R.assign ⟨rfl, rfl, rfl, rfl⟩ rfl ?_
                    refine GOps.nil ?_
                    refine GW.ret (Out.of (Res.one rfl rfl) (by first | exact Hs.refl _ | exact Hs.tl _ | exact Hs.tl2 _ _ | exact Hs.tl3 _ _ _ | exact (Hs.app _).trans (Hs.tl _) | exact (Hs.app _).trans ((Hs.app _).trans (Hs.tl _))) ⟨?_, rfl⟩)
                    refine vb ?_; symm; first | exact tag_len (by omega) | exact tag_first (some_eq hx1 (by omega)) | exact tag_last (by rw [bs_length]; exact some_eq hx2 (by omega)) | exact hI.noDash (some_eq (hcx (by omega)) (by omega)) (by rw [start_of h1i hx6]; exact decide_eq_true (by omega)) | exact hI.noChar (hcx (by omega)) (by omega) (by assumption) | exact hI.yes (by omega) (by omega) (by omega) hx2 (by omega)
                  · try simp only [decide_eq_true_eq, decide_eq_false_iff_not, Bool.not_eq_true', Bool.not_eq_false'] at hc11
                    refine GW.skip ?_
                    refine GW.region ?_
                    refine R.move ⟨rfl, rfl, rfl, rfl⟩ rfl ?_
                    refine R.add (r := _) ⟨rfl, rfl, rfl, rfl⟩ rfl rfl (wrap64_id (by omega) (by omega)) ?_   -- add ['t31', '1']
                    refine R.assign ⟨rfl, rfl, rfl, rfl⟩ rfl ?_
                    refine GOps.nil ?_
                    exact ⟨i + 1, _, (), (), by omega, by first | exact hI.dash (some_eq (hcx (by omega)) (by omega)) (by rw [start_of h1i hx6]; exact decide_eq_false (by omega)) | exact hI.char (hcx (by omega)) (by omega) (by assumption), rfl, by repeat (first | exact Keeps.nil _ | refine Keeps.cons rfl ?_), by first | exact Hs.refl _ | exact Hs.tl _ | exact Hs.tl2 _ _⟩
          · try simp only [decide_eq_true_eq, decide_eq_false_iff_not, Bool.not_eq_true', Bool.not_eq_false'] at hc5
            refine GW.exit ?_
            refine GW.seq ?_
            refine GW.region ?_
            refine R.assign ⟨rfl, rfl, rfl, rfl⟩ rfl ?_
            refine GOps.nil ?_
            refine GW.ret (Out.of (Res.one rfl rfl) (by first | exact Hs.refl _ | exact Hs.tl _ | exact Hs.tl2 _ _ | exact Hs.tl3 _ _ _ | exact (Hs.app _).trans (Hs.tl _) | exact (Hs.app _).trans ((Hs.app _).trans (Hs.tl _))) ⟨?_, rfl⟩)
            refine vb ?_; symm; first | exact tag_len (by omega) | exact tag_first (some_eq hx1 (by omega)) | exact tag_last (by rw [bs_length]; exact some_eq hx2 (by omega)) | exact hI.noDash (some_eq (hcx (by omega)) (by omega)) (by rw [start_of h1i hx6]; exact decide_eq_true (by omega)) | exact hI.noChar (hcx (by omega)) (by omega) (by assumption) | exact hI.yes (by omega) (by omega) (by omega) hx2 (by omega)

end Go.Proofs.YtgjmandjhjfgkaaDoor.Gl
