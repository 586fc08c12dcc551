import Derived.Test.YtgjmandjhjfgkaaDoorS18
namespace Go.Proofs.YtgjmandjhjfgkaaDoor.Gl
set_option linter.unusedVariables false
set_option linter.unnecessarySimpa false
set_option linter.unusedSimpArgs false

/-! ### plain: the two ways to see whether a rule is safe come to the same -/
theorem eqB_iff {s x : ByteArray} : eqB s x = true ↔ x = s := by
  unfold eqB
  rw [toList_beq, beq_iff_eq]
  exact ⟨bs_inj, fun h => by rw [h]⟩
theorem inB_iff {xs : List ByteArray} {s : ByteArray} : inB xs s = true ↔ s ∈ xs := by
  unfold inB
  rw [List.any_eq_true]
  constructor
  · rintro ⟨x, hx, h⟩
    rw [eqB_iff] at h
    subst h
    exact hx
  · intro h
    exact ⟨s, h, eqB_iff.2 rfl⟩
theorem kfold {r : Rl} {x : ByteArray} : ∀ (l : List (Int × Sl)) (ks : List ByteArray), x ∈ l.foldl (kStep r) ks ↔ x ∈ ks ∨ ∃ p ∈ l, holdsAt r p.1 = true ∧ emp p.2.v = false ∧ p.2.v = x
  | [], ks => by simp
  | p :: l, ks => by
    rw [List.foldl_cons, kfold l (kStep r ks p)]
    have hs : x ∈ kStep r ks p ↔ x ∈ ks ∨ (holdsAt r p.1 = true ∧ emp p.2.v = false ∧ p.2.v = x) := by
      unfold kStep
      cases h1 : holdsAt r p.1
      · simp
      · cases h2 : emp p.2.v
        · cases h3 : inB ks p.2.v
          · simp [eq_comm]
          · have := inB_iff.1 h3
            simp only [Bool.not_false, Bool.and_self, cond_true, true_and]
            constructor
            · exact Or.inl
            · rintro (h | rfl)
              · exact h
              · exact this
        · simp
    rw [hs]
    simp only [List.mem_cons, exists_eq_or_imp, or_assoc]
theorem dfold {x : ByteArray} : ∀ (q : List Sl) (out : List ByteArray), x ∈ q.foldl ddStep out ↔ x ∈ out ∨ ∃ s ∈ q, emp s.v = false ∧ s.v = x
  | [], out => by simp
  | s :: q, out => by
    rw [List.foldl_cons, dfold q (ddStep out s)]
    have hs : x ∈ ddStep out s ↔ x ∈ out ∨ (emp s.v = false ∧ s.v = x) := by
      unfold ddStep
      cases h2 : emp s.v
      · cases h3 : inB out s.v
        · simp [eq_comm]
        · have := inB_iff.1 h3
          simp only [Bool.not_false, Bool.not_true, Bool.and_false, cond_false, true_and]
          constructor
          · exact Or.inl
          · rintro (h | rfl)
            · exact h
            · exact this
      · simp
    rw [hs]
    simp only [List.mem_cons, exists_eq_or_imp, or_assoc]
theorem plFrom_mem : ∀ (ls : List Lt) (n : Nat) (p : Int × Sl), p ∈ plFrom n ls ↔ ∃ (k : Nat) (y : Lt), ls[k]? = some y ∧ p.1 = ((n + k : Nat) : Int) ∧ p.2 ∈ slotsOf y
  | [], n, p => by simp [plFrom]
  | l :: ls, n, p => by
    rw [plFrom, List.mem_append, plFrom_mem ls (n + 1) p, List.mem_map]
    constructor
    · rintro (⟨s, hs, rfl⟩ | ⟨k, y, h1, h2, h3⟩)
      · exact ⟨0, l, rfl, rfl, hs⟩
      · exact ⟨k + 1, y, by simpa using h1, by rw [h2]; omega, h3⟩
    · rintro ⟨k, y, h1, h2, h3⟩
      cases k with
      | zero =>
        simp at h1
        subst h1
        left
        exact ⟨p.2, h3, by rw [Nat.add_zero] at h2; exact Prod.ext h2.symm rfl⟩
      | succ k => exact .inr ⟨k, y, by simpa using h1, by rw [h2]; omega, h3⟩
theorem places_mem {r : Rl} {p : Int × Sl} : p ∈ placesL r ↔ (p.1 = -1 ∧ (p.2 = r.head.s0 ∨ p.2 = r.head.s1 ∨ p.2 = r.head.s2)) ∨ ∃ (k : Nat) (y : Lt), r.body[k]? = some y ∧ p.1 = (k : Int) ∧ p.2 ∈ slotsOf y := by
  unfold placesL hdL
  rw [List.mem_append, plFrom_mem]
  simp only [Nat.zero_add]
  refine or_congr ?_ Iff.rfl
  obtain ⟨i, s⟩ := p
  simp only [List.mem_cons, Prod.mk.injEq, List.not_mem_nil, or_false]
  constructor
  · rintro (⟨h1, h2⟩ | ⟨h1, h2⟩ | ⟨h1, h2⟩)
    · exact ⟨h1, .inl h2⟩
    · exact ⟨h1, .inr (.inl h2)⟩
    · exact ⟨h1, .inr (.inr h2)⟩
  · rintro ⟨h1, h2 | h2 | h2⟩
    · exact .inl ⟨h1, h2⟩
    · exact .inr (.inl ⟨h1, h2⟩)
    · exact .inr (.inr ⟨h1, h2⟩)
theorem all_mem {r : Rl} {s : Sl} : s ∈ allSlots r ↔ (s = r.head.s0 ∨ s = r.head.s1 ∨ s = r.head.s2) ∨ ∃ (k : Nat) (y : Lt), r.body[k]? = some y ∧ s ∈ slotsOf y := by
  unfold allSlots allTake
  rw [List.take_length, List.mem_append, List.mem_flatMap]
  refine or_congr (by simp) ?_
  constructor
  · rintro ⟨y, h1, h2⟩
    obtain ⟨k, hk⟩ := List.getElem?_of_mem h1
    exact ⟨k, y, hk, h2⟩
  · rintro ⟨k, y, h1, h2⟩
    exact ⟨y, List.mem_of_getElem? h1, h2⟩
theorem all_places {r : Rl} {s : Sl} : s ∈ allSlots r ↔ ∃ i, (i, s) ∈ placesL r := by
  rw [all_mem]
  constructor
  · rintro (h | ⟨k, y, h1, h2⟩)
    · exact ⟨-1, places_mem.2 (.inl ⟨rfl, h⟩)⟩
    · exact ⟨k, places_mem.2 (.inr ⟨k, y, h1, rfl, h2⟩)⟩
  · rintro ⟨i, h⟩
    rcases places_mem.1 h with ⟨_, h⟩ | ⟨k, y, h1, _, h2⟩
    · exact .inl h
    · exact .inr ⟨k, y, h1, h2⟩
theorem given_mem {r : Rl} {x : ByteArray} : x ∈ givenL r ↔ ∃ (k : Nat) (y : Lt), r.body[k]? = some y ∧ y.kind = 1 ∧ x ∈ patL y := by
  unfold givenL givenTake
  rw [List.take_length, List.mem_flatMap]
  constructor
  · rintro ⟨y, h1, h2⟩
    obtain ⟨k, hk⟩ := List.getElem?_of_mem h1
    unfold givenOf at h2
    split at h2
    · rename_i h3
      exact ⟨k, y, hk, h3, h2⟩
    · cases h2
  · rintro ⟨k, y, h1, h2, h3⟩
    refine ⟨y, List.mem_of_getElem? h1, ?_⟩
    unfold givenOf
    rw [if_pos h2]
    exact h3
theorem keys_mem {r : Rl} {x : ByteArray} (hx : emp x = false) : x ∈ keysTo r (placesL r).length ↔ x ∈ givenL r := by
  unfold keysTo
  rw [List.take_length, kfold, given_mem]
  constructor
  · rintro (h | ⟨⟨i, s⟩, h1, h2, h3, h4⟩)
    · cases h
    · rcases places_mem.1 h1 with ⟨hi, _⟩ | ⟨k, y, hk, hi, hs⟩
      · simp only at hi
        subst hi
        rw [hold_no1 (by omega)] at h2
        cases h2
      · simp only at hi hs h4 h2
        subst hi
        rw [hold_of (by omega) (by simpa using hk)] at h2
        have h2 : y.kind = 1 := by simpa using h2
        refine ⟨k, y, hk, h2, ?_⟩
        rw [slotsOf_t (.inl h2)] at hs
        subst h4
        simp only [List.mem_cons, List.not_mem_nil, or_false] at hs
        unfold patL
        rcases hs with rfl | rfl | rfl <;> simp
  · rintro ⟨k, y, hk, h2, h3⟩
    right
    have hs : ∃ s ∈ slotsOf y, s.v = x := by
      rw [slotsOf_t (.inl h2)]
      unfold patL at h3
      simp only [List.mem_cons, List.not_mem_nil, or_false] at h3
      rcases h3 with rfl | rfl | rfl
      · exact ⟨_, by simp, rfl⟩
      · exact ⟨_, by simp, rfl⟩
      · exact ⟨_, by simp, rfl⟩
    obtain ⟨s, hs1, hs2⟩ := hs
    refine ⟨((k : Int), s), places_mem.2 (.inr ⟨k, y, hk, rfl, hs1⟩), ?_, by simp only [hs2]; exact hx, hs2⟩
    simp only
    rw [hold_of (by omega) (by simpa using hk), decide_eq_true h2]
theorem chk_eq (r : Rl) : chkE r = ruleE r := by
  have h : (placesL r).all (placeOk (keysTo r (placesL r).length)) = (dd (allSlots r)).all (inB (givenL r)) := by
    rw [Bool.eq_iff_iff, List.all_eq_true, List.all_eq_true]
    constructor
    · intro h x hx
      unfold dd at hx
      rw [dfold] at hx
      rcases hx with hx | ⟨s, h1, h2, rfl⟩
      · cases hx
      · obtain ⟨i, hi⟩ := all_places.1 h1
        have h3 := h _ hi
        unfold placeOk at h3
        simp only [h2, Bool.false_or] at h3
        exact inB_iff.2 ((keys_mem h2).1 (inB_iff.1 h3))
    · rintro h ⟨i, s⟩ hp
      unfold placeOk
      simp only
      cases h2 : emp s.v with
      | true => rfl
      | false =>
        have h3 := h s.v (by unfold dd; rw [dfold]; exact .inr ⟨s, all_places.2 ⟨i, hp⟩, h2, rfl⟩)
        rw [Bool.false_or]
        exact inB_iff.2 ((keys_mem h2).2 (inB_iff.1 h3))
  unfold chkE ruleE
  rw [h]
/-! ### sameness goes both ways -/
theorem beq_toList_comm (a b : ByteArray) : (a.toList == b.toList) = (b.toList == a.toList) := by
  rw [Bool.eq_iff_iff]
  simp only [beq_iff_eq]
  exact eq_comm
theorem beq_int_comm (a b : Int) : (a == b) = (b == a) := by
  rw [Bool.eq_iff_iff]
  simp only [beq_iff_eq]
  exact eq_comm
theorem tmEq_comm (a b : Tm) : tmEq a b = tmEq b a := by unfold tmEq; rw [beq_int_comm, beq_toList_comm a.text, beq_toList_comm a.ext]
theorem slEq_comm (a b : Sl) : slEq a b = slEq b a := by unfold slEq; rw [beq_toList_comm a.v, tmEq_comm]
theorem ptEq_comm (a b : Pt) : ptEq a b = ptEq b a := by unfold ptEq; rw [slEq_comm a.s0, slEq_comm a.s1, slEq_comm a.s2]
theorem ltEq_comm (a b : Lt) : ltEq a b = ltEq b a := by unfold ltEq; rw [beq_int_comm, ptEq_comm a.pat, slEq_comm a.a, slEq_comm a.b]
theorem pairEq_comm (xs ys : List Lt) (i : Nat) : pairEq xs ys i = pairEq ys xs i := by
  unfold pairEq
  cases xs[i]? <;> cases ys[i]? <;> simp [ltEq_comm]
theorem eqLts_comm (xs ys : List Lt) : eqLts xs ys = eqLts ys xs := by
  unfold eqLts
  by_cases h : xs.length = ys.length
  · rw [decide_eq_true h, decide_eq_true h.symm, h, show pairEq xs ys = pairEq ys xs from funext (pairEq_comm xs ys)]
  · rw [decide_eq_false h, decide_eq_false (fun e => h e.symm)]
    rfl
theorem sameRl_comm (a b : Rl) : sameRl a b = sameRl b a := by unfold sameRl; rw [ptEq_comm, eqLts_comm]
end Go.Proofs.YtgjmandjhjfgkaaDoor.Gl
