import Derived.Test.YtgjmandjhjfgkaaDoorS19
namespace Go.Proofs.YtgjmandjhjfgkaaDoor.Gl
open Go.RowKit Go.Shelf
set_option linter.unusedVariables false
set_option linter.unnecessarySimpa false
set_option linter.unusedSimpArgs false
attribute [-simp] List.getD_eq_getElem?_getD



theorem own1 {w0 : World} {G : Hp} {b : Nat} {u : Value} {e : TypeId} {z : Nat × Nat} (hm : (b, Know.exact (.cells #[u] e z)) ∈ G) : Rds w0 G b 0 [u] := .own hm 0 _ (fun j v hv => by simpa using hv)
def badN (n : Bool) (x : Rl) : Bool := (n && !emp x.head.s1.v) || x.body.any badLit
theorem badN_head {n : Bool} {x : Rl} (hn : n = true) (h : emp x.head.s1.v = false) : badN n x = true := by unfold badN; rw [hn, h]; rfl
theorem badN_body {n : Bool} {x : Rl} (h : x.body.any badLit = true) : badN n x = true := by unfold badN; rw [h]; simp
theorem badN_no1 {n : Bool} {x : Rl} (hn : n = false) (h : x.body.any badLit = false) : badN n x = false := by unfold badN; rw [hn, h]; rfl
theorem badN_no2 {n : Bool} {x : Rl} (he : emp x.head.s1.v = true) (h : x.body.any badLit = false) : badN n x = false := by unfold badN; rw [he, h]; simp
theorem badN_all (rs : List Rl) : rs.any (badN (negates rs)) = (negates rs && rs.any badRule) := by
  cases hn : negates rs with
  | true =>
    rw [Bool.true_and]
    congr 1
  | false =>
    rw [Bool.false_and, List.any_eq_false]
    intro x hx hb
    unfold badN at hb
    rw [Bool.false_and, Bool.false_or, List.any_eq_true] at hb
    obtain ⟨l, hl, h2⟩ := hb
    unfold badLit at h2
    simp only [Bool.and_eq_true, decide_eq_true_eq] at h2
    have : negates rs = true := List.any_eq_true.2 ⟨x, hx, List.any_eq_true.2 ⟨l, hl, by unfold litNot; exact decide_eq_true h2.1⟩⟩
    rw [hn] at this
    cases this
theorem noSame_any {rs : List Rl} {i : Nat} {x : Rl} (hx : rs[i]? = some x) : noSame rs i = !((rs.take i).any (fun o => sameRl o x)) := by
  have hi := (List.getElem?_eq_some_iff.1 hx).1
  rw [Bool.eq_iff_iff]
  simp only [Bool.not_eq_true', List.any_eq_false]
  unfold noSame allTo
  rw [List.all_eq_true]
  constructor
  · intro h o ho
    obtain ⟨k, hk⟩ := List.getElem?_of_mem ho
    have hk2 : k < i := by
      have := (List.getElem?_eq_some_iff.1 hk).1
      rw [List.length_take] at this
      omega
    rw [List.getElem?_take_of_lt hk2] at hk
    have := h k (List.mem_range.2 hk2)
    rw [sameAt_of hx hk, sameRl_comm] at this
    simpa using this
  · intro h k hk
    rw [List.mem_range] at hk
    have hk2 : k < rs.length := by omega
    have hg : rs[k]? = some rs[k] := List.getElem?_eq_getElem hk2
    have := h rs[k] (List.mem_of_getElem? (i := k) (by rw [List.getElem?_take_of_lt hk, hg]))
    rw [sameAt_of hx hg, sameRl_comm]
    simpa using this
theorem allTo_snd {f : Nat → Bool} {i : Nat} (h : allTo f i = false) : allTo f (i + 1) = false := by
  unfold allTo at *
  rw [List.range_succ, List.all_append, h]
  rfl
theorem allTo_snf {f : Nat → Bool} {i : Nat} (h : f i = false) : allTo f (i + 1) = false := allTo_false (i := i) (by omega) h
theorem RowAt.taken {α : Type} {w0 : World} {G : Hp} {sz : Nat} {C : α → List Value → Prop} {A : Option Addr} {xs : List α} (i : Nat) (h : RowAt w0 G sz C A xs) : RowAt w0 G sz C A (xs.take i) := by
  intro k x hx
  have hk : k < (xs.take i).length := (List.getElem?_eq_some_iff.1 hx).1
  rw [List.length_take] at hk
  rw [List.getElem?_take_of_lt (by omega)] at hx
  exact h k x hx
/-- What 'bad' is behind i rules. -/
def BadI (rs : List Rl) (i : Nat) (bad : Int) : Prop := (bad = 0 ∧ allTo (noSame rs) i = true) ∨ (bad = 8 ∧ allTo (noSame rs) i = false)
theorem BadI.same {rs : List Rl} {i : Nat} {bad : Int} {x : Rl} (h : BadI rs i bad) (hb : bad = 0) (hx : rs[i]? = some x) (ha : (rs.take i).any (fun o => sameRl o x) = true) : BadI rs (i + 1) 8 :=
  .inr ⟨rfl, allTo_snf (by rw [noSame_any hx, ha]; rfl)⟩
theorem BadI.other {rs : List Rl} {i : Nat} {bad : Int} {x : Rl} (h : BadI rs i bad) (hb : bad = 0) (hx : rs[i]? = some x) (ha : (rs.take i).any (fun o => sameRl o x) = false) : BadI rs (i + 1) bad := by
  rcases h with ⟨h1, h2⟩ | ⟨h1, _⟩
  · exact .inl ⟨h1, allTo_succ h2 (by rw [noSame_any hx, ha]; rfl)⟩
  · omega
theorem BadI.was {rs : List Rl} {i : Nat} {bad : Int} (h : BadI rs i bad) (hb : ¬ bad = 0) : BadI rs (i + 1) bad := by
  rcases h with ⟨h1, _⟩ | ⟨h1, h2⟩
  · omega
  · exact .inr ⟨h1, allTo_snd h2⟩
theorem neg_of {rs : List Rl} {i k : Nat} {x : Rl} {y : Lt} (hx : rs[i]? = some x) (hy : x.body[k]? = some y) (h : y.kind = 2) : negates rs = true := any_of_get negRule rs i x hx (any_of_get litNot x.body k y hy (decide_eq_true h))
theorem badI_zero {rs : List Rl} {i : Nat} {bad : Int} (h : BadI rs i bad) (hi : i = rs.length) (hb : bad = 0) : noDup rs = true := by
  subst hi
  rcases h with ⟨_, h⟩ | ⟨h, _⟩
  · exact h
  · omega
theorem prog_bad {rs : List Rl} {i : Nat} {bad : Int} (hE : rs.all zE = true) (hNB : (negates rs && rs.any badRule) = false) (h : BadI rs i bad) (hi : i = rs.length) (hb : bad ≠ 0) : progE rs = 8 ∧ bad = 8 := by
  subst hi
  rcases h with ⟨h, _⟩ | ⟨h, h2⟩
  · exact absurd h hb
  · exact ⟨prog_8 hE hNB h2, h⟩
def progV (rs : List Rl) : Value := .tuple #[.agg #[.bool (decide (progE rs = 0) && !(negates rs))], .int .i64 (progE rs)]


theorem check_Program (w0 : World) (G : Hp) (A : Option Addr) (rs : List Rl) (c : Nat) (hr : RlsAt w0 G A rs) (hcap : rs.length ≤ c) (hm : rs.length ≤ 1048576) (hok : ∀ r ∈ rs, RlOk r ∧ r.body.length ≤ 1048576) : GC Tryd.prog w0 8 #[.slice A rs.length c] (fun v G' => v = progV rs ∧ G = G') G := by
  refine GC.body (args := [.slice A rs.length c]) Tryd.func8 rfl (by kernel_rfl) rfl ?_
  refine GW.seq ?_
  refine GW.region ?_
  refine R.alloc ⟨rfl, rfl, rfl, rfl⟩ Tryd.zeroValue26 fun b2 => ?_
  refine R.assign ⟨rfl, rfl, rfl, rfl⟩ rfl ?_
  refine GOps.nil ?_
  refine GW.scope 0 (fun _ _ _ => False) (by rfl) ?_ (fun _ _ _ h => h.elim)
  refine GW.seq ?_
  refine GW.seq ?_
  refine GW.region ?_
  refine R.move ⟨rfl, rfl, rfl, rfl⟩ rfl ?_
  refine R.lenS ⟨rfl, rfl, rfl, rfl⟩ rfl rfl Tryd.underlying22 ?_
  refine R.move ⟨rfl, rfl, rfl, rfl⟩ rfl ?_
  refine GOps.nil ?_
  refine GW.block ?_
  -- LOOP: live 0:l, 2, 13, 14, 15
  refine GW.loopI (fun i : Nat => [(0, .slice A rs.length c), (2, .pointer (some ⟨b2, 0, none⟩)), (13, .slice A rs.length c), (14, .int .i64 rs.length), (15, .int .i64 i)]) (fun i => (b2, .exact (.cells #[.bool false] 26 (0, 0))) :: G) (fun i => rs.length - i) (fun i => i ≤ rs.length ∧ (rs.take i).all zE = true) 0
    (by repeat (first | exact Keeps.nil _ | refine Keeps.cons rfl ?_)) (Hs.refl _) (⟨by omega, by simp⟩) ?_
  rintro i ⟨hi, h0⟩
  refine GW.seq ?_
  refine GW.region ?_
  refine R.lss ⟨rfl, rfl, rfl, rfl⟩ rfl rfl ?_   -- lss ['t15', 't14']
  refine GOps.nil ?_
  refine GW.seq ?_
  refine GW.ite rfl (fun hc1 => ?_) (fun hc1 => ?_)
  · try simp only [decide_eq_true_eq, decide_eq_false_iff_not, Bool.not_eq_true', Bool.not_eq_false'] at hc1
    obtain ⟨x, hx⟩ : ∃ x, rs[i]? = some x := ⟨_, List.getElem?_eq_getElem (by omega)⟩
    obtain ⟨b, f, cs, rfl, ⟨A', c', rfl, hl', hm', hls⟩, hrd⟩ := hr i x hx
    have hxo := hok x (List.mem_of_getElem? hx)
    refine GW.skip ?_
    refine GW.seq ?_
    refine GW.block ?_
    refine GW.seq ?_
    refine GW.region ?_
    refine R.indexAddrS ⟨rfl, rfl, rfl, rfl⟩ rfl rfl Tryd.underlying22 Tryd.sizeOf46 (by omega) (by omega) ?_   -- ['t13', 't15']
    refine R.loadA ⟨rfl, rfl, rfl, rfl⟩ rfl Tryd.underlying46 rfl Tryd.sizeOf46 (Rds.mono (sub_cons _) hrd) (by rfl) ?_   -- load 0 check.go:78
    refine R.alloc ⟨rfl, rfl, rfl, rfl⟩ Tryd.zeroValue46 fun b5 => ?_
    refine R.storeAll (G1 := []) rfl rfl rfl rfl rfl Tryd.sizeOf46 rfl rfl rfl rfl ?_   -- t5:r
    refine GOps.nil ?_
    refine GW.seq ?_
    refine GW.region ?_
    refine R.load_own (cs := RlC x.head (.slice A' x.body.length c')) ⟨rfl, rfl, rfl, rfl⟩ rfl Tryd.underlying46 rfl Tryd.sizeOf46 (by repeat (first | exact List.mem_cons_self | apply List.mem_cons_of_mem | apply List.mem_append_right)) (by rfl) (by rfl) ?_   -- load 1 check.go:79 t5:r
    refine R.call ⟨rfl, rfl, rfl, rfl⟩ rfl (vs := [_]) rfl ((check_Rule _ _ x A' c' ((hls.mono (sub_cons _)).mono (sub_cons _)) hxo.2 hxo.1).mono ?_)
    rintro _ _ ⟨rfl, rfl⟩
    rw [chk_eq x]
    refine R.assign ⟨rfl, rfl, rfl, rfl⟩ rfl ?_
    refine GOps.nil ?_
    refine GW.seq ?_
    refine GW.region ?_
    refine R.move ⟨rfl, rfl, rfl, rfl⟩ rfl ?_
    refine R.neI ⟨rfl, rfl, rfl, rfl⟩ rfl rfl ?_   -- neq ['t21', '0']
    refine GOps.nil ?_
    refine GW.ite rfl (fun hc2 => ?_) (fun hc2 => ?_)
    · try simp only [decide_eq_true_eq, decide_eq_false_iff_not, Bool.not_eq_true', Bool.not_eq_false'] at hc2
      refine GW.seq ?_
      refine GW.region ?_
      refine R.build (vs := []) (cells := #[.bool false]) ⟨rfl, rfl, rfl, rfl⟩ rfl (fun w => run_build w 26 _ _ (by kernel_rfl)) ?_   -- build 0 type 26
      refine R.move ⟨rfl, rfl, rfl, rfl⟩ rfl ?_
      refine R.storeAll (G1 := [_]) rfl rfl rfl rfl rfl Tryd.sizeOf26 rfl rfl rfl rfl ?_   -- t2
      refine R.assign ⟨rfl, rfl, rfl, rfl⟩ rfl ?_
      refine GOps.nil ?_
      refine GW.ret (Out.of (resCellTmp rfl rfl rfl Tryd.underlying26 rfl Tryd.sizeOf26 (own1 (by repeat (first | exact List.mem_cons_self | apply List.mem_cons_of_mem))) rfl) (by first | exact Hs.refl _ | exact Hs.tl _ | exact Hs.tl2 _ _ | exact Hs.tl3 _ _ _ | exact (Hs.app _).trans (Hs.tl _) | exact (Hs.app _).trans ((Hs.app _).trans (Hs.tl _))) ⟨?_, rfl⟩)
      first | (rw [progV, prog_E h0 hx hc2, decide_eq_false hc2]; rfl) | (rw [progV, prog_5 hE hg4 (any_of_get badRule rs i x hx (bad_head hc5))]; rfl) | (rw [progV, prog_5 hE (neg_of hx hy (by assumption)) (any_of_get badRule rs i x hx (bad_body hy (bad_lit (by assumption) (by first | exact hc8 | exact hc13))))]; rfl) | (obtain ⟨g1, g2⟩ := prog_bad hE hNB hbad hii (by assumption); rw [progV, g1, g2]; rfl) | (rw [progV, prog_9 hE hNB (badI_zero hbad hii (by omega)) (by omega)]; rfl) | (rw [progV, prog_0 hE hNB (badI_zero hbad hii (by omega)) (by omega)]; rfl)
    · try simp only [decide_eq_true_eq, decide_eq_false_iff_not, Bool.not_eq_true', Bool.not_eq_false'] at hc2
      refine GW.skip ?_
      refine GW.region ?_
      refine R.add (r := (((i + 1) : Nat) : Int)) ⟨rfl, rfl, rfl, rfl⟩ rfl rfl (by rw [wrap64_id (by omega) (by omega)]; omega) ?_   -- add ['t15', '1']
      refine R.move ⟨rfl, rfl, rfl, rfl⟩ rfl ?_
      refine GOps.nil ?_
      exact ⟨i + 1, by omega, ⟨by omega, all_take_succ zE rs i x hx h0 (decide_eq_true (by omega))⟩, rfl, by repeat (first | exact Keeps.nil _ | refine Keeps.cons rfl ?_), by first | exact Hs.refl _ | exact Hs.tl _ | exact Hs.tl2 _ _⟩
  · try simp only [decide_eq_true_eq, decide_eq_false_iff_not, Bool.not_eq_true', Bool.not_eq_false'] at hc1
    have hE : rs.all zE = true := all_of_take zE rs i (by omega) h0
    refine GW.exit ?_
    refine GW.seq ?_
    refine GW.region ?_
    refine R.move ⟨rfl, rfl, rfl, rfl⟩ rfl ?_
    refine R.call ⟨rfl, rfl, rfl, rfl⟩ rfl (vs := [_]) rfl ((check_Negates _ _ A rs c (hr.mono (sub_cons _)) (by omega)).mono ?_)
    rintro _ _ ⟨rfl, rfl⟩
    refine R.assign ⟨rfl, rfl, rfl, rfl⟩ rfl ?_
    refine GOps.nil ?_
    refine GW.seq ?_
    refine GW.region ?_
    refine R.assign ⟨rfl, rfl, rfl, rfl⟩ rfl ?_
    refine GOps.nil ?_
    refine GW.seq ?_
    refine GW.label ?_
    refine GW.seq ?_
    refine GW.seq ?_
    refine GW.region ?_
    refine R.move ⟨rfl, rfl, rfl, rfl⟩ rfl ?_
    refine R.lenS ⟨rfl, rfl, rfl, rfl⟩ rfl rfl Tryd.underlying22 ?_
    refine R.move ⟨rfl, rfl, rfl, rfl⟩ rfl ?_
    refine GOps.nil ?_
    refine GW.block ?_
    -- LOOP: live 0:l, 2, 7:not, 8:bad, 28, 29, 30
    refine GW.loop4 (fun (i : Nat) (bad : Int) (u1 : Unit) (u2 : Unit) => [(0, .slice A rs.length c), (2, .pointer (some ⟨b2, 0, none⟩)), (7, .bool (negates rs)), (8, .int .i64 bad), (28, .slice A rs.length c), (29, .int .i64 rs.length), (30, .int .i64 i)]) (fun (i : Nat) (bad : Int) (u1 : Unit) (u2 : Unit) => (b2, .exact (.cells #[.bool false] 26 (0, 0))) :: G) (fun i : Nat => rs.length - i) (fun (i : Nat) (bad : Int) (u1 : Unit) (u2 : Unit) => i ≤ rs.length ∧ (rs.take i).any (badN (negates rs)) = false ∧ BadI rs i bad) 0 (0) (()) (())
      (by repeat (first | exact Keeps.nil _ | refine Keeps.cons rfl ?_)) (Hs.refl _) (⟨by omega, by simp, .inl ⟨rfl, rfl⟩⟩) ?_
    rintro i bad u1 u2 ⟨hi, hB0, hbad⟩
    refine GW.seq ?_
    refine GW.region ?_
    refine R.lss ⟨rfl, rfl, rfl, rfl⟩ rfl rfl ?_   -- lss ['t30', 't29']
    refine GOps.nil ?_
    refine GW.seq ?_
    refine GW.ite rfl (fun hc3 => ?_) (fun hc3 => ?_)
    · try simp only [decide_eq_true_eq, decide_eq_false_iff_not, Bool.not_eq_true', Bool.not_eq_false'] at hc3
      obtain ⟨x, hx⟩ : ∃ x, rs[i]? = some x := ⟨_, List.getElem?_eq_getElem (by omega)⟩
      obtain ⟨b, f, cs, rfl, ⟨A', c', rfl, hl', hm', hls⟩, hrd⟩ := hr i x hx
      have hxo := hok x (List.mem_of_getElem? hx)
      refine GW.skip ?_
      refine GW.seq ?_
      refine GW.block ?_
      refine GW.seq ?_
      refine GW.region ?_
      refine R.move ⟨rfl, rfl, rfl, rfl⟩ rfl ?_
      refine R.indexAddrS ⟨rfl, rfl, rfl, rfl⟩ rfl rfl Tryd.underlying22 Tryd.sizeOf46 (by omega) (by omega) ?_   -- ['t28', 't30']
      refine R.loadA ⟨rfl, rfl, rfl, rfl⟩ rfl Tryd.underlying46 rfl Tryd.sizeOf46 (Rds.mono (sub_cons _) hrd) (by rfl) ?_   -- load 2 check.go:86
      refine R.alloc ⟨rfl, rfl, rfl, rfl⟩ Tryd.zeroValue46 fun b10 => ?_
      refine R.assign ⟨rfl, rfl, rfl, rfl⟩ rfl ?_
      refine R.storeAll (G1 := []) rfl rfl rfl rfl rfl Tryd.sizeOf46 rfl rfl rfl rfl ?_   -- t10:r
      refine GOps.nil ?_
      refine GW.seq ?_
      refine GW.seq ?_
      refine GW.region ?_
      refine R.move ⟨rfl, rfl, rfl, rfl⟩ rfl ?_
      refine R.move ⟨rfl, rfl, rfl, rfl⟩ rfl ?_
      refine GOps.caseB 36 rfl (fun hg4 => ?_) (fun hg4 => ?_)
      · try simp only [decide_eq_true_eq, decide_eq_false_iff_not, Bool.not_eq_true', Bool.not_eq_false'] at hg4
        refine R.fieldAddr ⟨rfl, rfl, rfl, rfl⟩ rfl Tryd.underlying46 rfl Tryd.sizeOf40 ?_   -- "Head"
        refine R.indexAddrA ⟨rfl, rfl, rfl, rfl⟩ rfl rfl Tryd.underlying40 Tryd.sizeOf37 (by omega) (by omega) ?_   -- ['t37', '1']
        refine R.fieldAddr ⟨rfl, rfl, rfl, rfl⟩ rfl Tryd.underlying37 rfl Tryd.sizeOf9 ?_   -- "Var"
        refine R.load1 ⟨rfl, rfl, rfl, rfl⟩ rfl Tryd.underlying9 rfl (.own' (by repeat (first | exact List.mem_cons_self | apply List.mem_cons_of_mem | apply List.mem_append_right)) (by rfl)) ?_   -- load 3 check.go:87 t39
        refine R.neS ⟨rfl, rfl, rfl, rfl⟩ rfl rfl ?_   -- neq ['t40', 'const']
        refine R.pick_t ⟨rfl, rfl, rfl, rfl⟩ rfl rfl ?_
        refine GOps.nil ?_
        refine GW.ite rfl (fun hc5 => ?_) (fun hc5 => ?_)
        · try simp only [decide_eq_true_eq, decide_eq_false_iff_not, Bool.not_eq_true', Bool.not_eq_false'] at hc5
          refine GW.seq ?_
          refine GW.region ?_
          refine R.assign ⟨rfl, rfl, rfl, rfl⟩ rfl ?_
          refine GOps.nil ?_
          refine GW.exit ?_
          refine GW.seq ?_
          refine GW.block ?_
          refine GW.seq ?_
          refine GW.region ?_
          refine R.move ⟨rfl, rfl, rfl, rfl⟩ rfl ?_
          refine R.neI ⟨rfl, rfl, rfl, rfl⟩ rfl rfl ?_   -- neq ['t72', '0']
          refine R.assign ⟨rfl, rfl, rfl, rfl⟩ rfl ?_
          refine GOps.nil ?_
          refine GW.cond_t rfl ?_
          refine GW.seq ?_
          refine GW.region ?_
          refine R.build (vs := []) (cells := #[.bool false]) ⟨rfl, rfl, rfl, rfl⟩ rfl (fun w => run_build w 26 _ _ (by kernel_rfl)) ?_   -- build 1 type 26
          refine R.move ⟨rfl, rfl, rfl, rfl⟩ rfl ?_
          refine R.storeAll (G1 := [_]) rfl rfl rfl rfl rfl Tryd.sizeOf26 rfl rfl rfl rfl ?_   -- t2
          refine R.assign ⟨rfl, rfl, rfl, rfl⟩ rfl ?_
          refine GOps.nil ?_
          refine GW.ret (Out.of (resCellTmp rfl rfl rfl Tryd.underlying26 rfl Tryd.sizeOf26 (own1 (by repeat (first | exact List.mem_cons_self | apply List.mem_cons_of_mem))) rfl) (by first | exact Hs.refl _ | exact Hs.tl _ | exact Hs.tl2 _ _ | exact Hs.tl3 _ _ _ | exact (Hs.app _).trans (Hs.tl _) | exact (Hs.app _).trans ((Hs.app _).trans (Hs.tl _))) ⟨?_, rfl⟩)
          first | (rw [progV, prog_E h0 hx hc2, decide_eq_false hc2]; rfl) | (rw [progV, prog_5 hE hg4 (any_of_get badRule rs i x hx (bad_head hc5))]; rfl) | (rw [progV, prog_5 hE (neg_of hx hy (by assumption)) (any_of_get badRule rs i x hx (bad_body hy (bad_lit (by assumption) (by first | exact hc8 | exact hc13))))]; rfl) | (obtain ⟨g1, g2⟩ := prog_bad hE hNB hbad hii (by assumption); rw [progV, g1, g2]; rfl) | (rw [progV, prog_9 hE hNB (badI_zero hbad hii (by omega)) (by omega)]; rfl) | (rw [progV, prog_0 hE hNB (badI_zero hbad hii (by omega)) (by omega)]; rfl)
        · try simp only [decide_eq_true_eq, decide_eq_false_iff_not, Bool.not_eq_true', Bool.not_eq_false'] at hc5
          refine GW.skip ?_
          refine GW.seq ?_
          refine GW.seq ?_
          refine GW.region ?_
          refine R.fieldAddr ⟨rfl, rfl, rfl, rfl⟩ rfl Tryd.underlying46 rfl Tryd.sizeOf44 ?_   -- "Body"
          refine R.load1 ⟨rfl, rfl, rfl, rfl⟩ rfl Tryd.underlying44 rfl (.own' (by repeat (first | exact List.mem_cons_self | apply List.mem_cons_of_mem | apply List.mem_append_right)) (by rfl)) ?_   -- load 4 check.go:91 t43
          refine R.lenS ⟨rfl, rfl, rfl, rfl⟩ rfl rfl Tryd.underlying44 ?_
          refine R.move ⟨rfl, rfl, rfl, rfl⟩ rfl ?_
          refine GOps.nil ?_
          refine GW.block ?_
          -- LOOP: live 0:l, 2, 7:not, 8:bad, 9:i, 10:r, 28, 29, 30, 44, 45, 46
          refine GW.loopI (fun k : Nat => [(0, .slice (some ⟨b, f, none⟩) rs.length c), (2, .pointer (some ⟨b2, 0, none⟩)), (7, .bool (negates rs)), (8, .int .i64 bad), (9, .int .i64 i), (10, .pointer (some ⟨b10, 0, none⟩)), (28, .slice (some ⟨b, f, none⟩) rs.length c), (29, .int .i64 rs.length), (30, .int .i64 i), (44, .slice A' x.body.length c'), (45, .int .i64 x.body.length), (46, .int .i64 k)]) (fun k => (b10, .exact (.cells (RlC x.head (.slice A' x.body.length c')).toArray 46 (0, 0))) :: (b2, .exact (.cells #[.bool false] 26 (0, 0))) :: G) (fun k => x.body.length - k) (fun k => k ≤ x.body.length ∧ (x.body.take k).any badLit = false) 0
            (by repeat (first | exact Keeps.nil _ | refine Keeps.cons rfl ?_)) (Hs.refl _) (⟨by omega, by simp⟩) ?_
          rintro k ⟨hk, hk0⟩
          refine GW.seq ?_
          refine GW.region ?_
          refine R.lss ⟨rfl, rfl, rfl, rfl⟩ rfl rfl ?_   -- lss ['t46', 't45']
          refine GOps.nil ?_
          refine GW.seq ?_
          refine GW.ite rfl (fun hc6 => ?_) (fun hc6 => ?_)
          · try simp only [decide_eq_true_eq, decide_eq_false_iff_not, Bool.not_eq_true', Bool.not_eq_false'] at hc6
            obtain ⟨y, hy⟩ : ∃ y, x.body[k]? = some y := ⟨_, List.getElem?_eq_getElem (by omega)⟩
            obtain ⟨bb, oo, csy, rfl, rfl, hrd2⟩ := hls k y hy
            refine GW.skip ?_
            refine GW.seq ?_
            refine GW.block ?_
            refine GW.seq ?_
            refine GW.region ?_
            refine R.indexAddrS ⟨rfl, rfl, rfl, rfl⟩ rfl rfl Tryd.underlying44 Tryd.sizeOf43 (by omega) (by omega) ?_   -- ['t44', 't46']
            refine R.loadA ⟨rfl, rfl, rfl, rfl⟩ rfl Tryd.underlying43 rfl Tryd.sizeOf43 (Rds.mono (fun z hz => List.mem_cons_of_mem _ (List.mem_cons_of_mem _ hz)) hrd2) (by rfl) ?_   -- load 5 check.go:91
            refine R.alloc ⟨rfl, rfl, rfl, rfl⟩ Tryd.zeroValue43 fun b12 => ?_
            refine R.storeAll (G1 := []) rfl rfl rfl rfl rfl Tryd.sizeOf43 rfl rfl rfl rfl ?_   -- t12:x
            refine GOps.nil ?_
            refine GW.seq ?_
            refine GW.region ?_
            refine R.fieldAddr ⟨rfl, rfl, rfl, rfl⟩ rfl Tryd.underlying43 rfl Tryd.sizeOf41 ?_   -- "Kind"
            refine R.load1 ⟨rfl, rfl, rfl, rfl⟩ rfl Tryd.underlying41 rfl (.own' (by repeat (first | exact List.mem_cons_self | apply List.mem_cons_of_mem | apply List.mem_append_right)) (by rfl)) ?_   -- load 6 check.go:92 t50
            refine R.eqI ⟨rfl, rfl, rfl, rfl⟩ rfl rfl ?_   -- eql ['t51', '2']
            refine R.move ⟨rfl, rfl, rfl, rfl⟩ rfl ?_
            refine GOps.caseB 53 rfl (fun hg7 => ?_) (fun hg7 => ?_)
            · try simp only [decide_eq_true_eq, decide_eq_false_iff_not, Bool.not_eq_true', Bool.not_eq_false'] at hg7
              refine R.fieldAddr ⟨rfl, rfl, rfl, rfl⟩ rfl Tryd.underlying43 rfl Tryd.sizeOf40 ?_   -- "Pattern"
              refine R.indexAddrA ⟨rfl, rfl, rfl, rfl⟩ rfl rfl Tryd.underlying40 Tryd.sizeOf37 (by omega) (by omega) ?_   -- ['t54', '1']
              refine R.fieldAddr ⟨rfl, rfl, rfl, rfl⟩ rfl Tryd.underlying37 rfl Tryd.sizeOf9 ?_   -- "Var"
              refine R.load1 ⟨rfl, rfl, rfl, rfl⟩ rfl Tryd.underlying9 rfl (.own' (by repeat (first | exact List.mem_cons_self | apply List.mem_cons_of_mem | apply List.mem_append_right)) (by rfl)) ?_   -- load 7 check.go:92 t56
              refine R.neS ⟨rfl, rfl, rfl, rfl⟩ rfl rfl ?_   -- neq ['t57', 'const']
              refine R.pick_t ⟨rfl, rfl, rfl, rfl⟩ rfl rfl ?_
              refine GOps.nil ?_
              refine GW.ite rfl (fun hc8 => ?_) (fun hc8 => ?_)
              · try simp only [decide_eq_true_eq, decide_eq_false_iff_not, Bool.not_eq_true', Bool.not_eq_false'] at hc8
                refine GW.seq ?_
                refine GW.region ?_
                refine R.assign ⟨rfl, rfl, rfl, rfl⟩ rfl ?_
                refine GOps.nil ?_
                refine GW.exit ?_
                refine GW.seq ?_
                refine GW.block ?_
                refine GW.seq ?_
                refine GW.region ?_
                refine R.move ⟨rfl, rfl, rfl, rfl⟩ rfl ?_
                refine R.neI ⟨rfl, rfl, rfl, rfl⟩ rfl rfl ?_   -- neq ['t72', '0']
                refine R.assign ⟨rfl, rfl, rfl, rfl⟩ rfl ?_
                refine GOps.nil ?_
                refine GW.cond_t rfl ?_
                refine GW.seq ?_
                refine GW.region ?_
                refine R.build (vs := []) (cells := #[.bool false]) ⟨rfl, rfl, rfl, rfl⟩ rfl (fun w => run_build w 26 _ _ (by kernel_rfl)) ?_   -- build 2 type 26
                refine R.move ⟨rfl, rfl, rfl, rfl⟩ rfl ?_
                refine R.storeAll (G1 := [_, _]) rfl rfl rfl rfl rfl Tryd.sizeOf26 rfl rfl rfl rfl ?_   -- t2
                refine R.assign ⟨rfl, rfl, rfl, rfl⟩ rfl ?_
                refine GOps.nil ?_
                refine GW.ret (Out.of (resCellTmp rfl rfl rfl Tryd.underlying26 rfl Tryd.sizeOf26 (own1 (by repeat (first | exact List.mem_cons_self | apply List.mem_cons_of_mem))) rfl) (by first | exact Hs.refl _ | exact Hs.tl _ | exact Hs.tl2 _ _ | exact Hs.tl3 _ _ _ | exact (Hs.app _).trans (Hs.tl _) | exact (Hs.app _).trans ((Hs.app _).trans (Hs.tl _))) ⟨?_, rfl⟩)
                first | (rw [progV, prog_E h0 hx hc2, decide_eq_false hc2]; rfl) | (rw [progV, prog_5 hE hg4 (any_of_get badRule rs i x hx (bad_head hc5))]; rfl) | (rw [progV, prog_5 hE (neg_of hx hy (by assumption)) (any_of_get badRule rs i x hx (bad_body hy (bad_lit (by assumption) (by first | exact hc8 | exact hc13))))]; rfl) | (obtain ⟨g1, g2⟩ := prog_bad hE hNB hbad hii (by assumption); rw [progV, g1, g2]; rfl) | (rw [progV, prog_9 hE hNB (badI_zero hbad hii (by omega)) (by omega)]; rfl) | (rw [progV, prog_0 hE hNB (badI_zero hbad hii (by omega)) (by omega)]; rfl)
              · try simp only [decide_eq_true_eq, decide_eq_false_iff_not, Bool.not_eq_true', Bool.not_eq_false'] at hc8
                refine GW.skip ?_
                refine GW.region ?_
                refine R.add (r := (((k + 1) : Nat) : Int)) ⟨rfl, rfl, rfl, rfl⟩ rfl rfl (by rw [wrap64_id (by omega) (by omega)]; omega) ?_   -- add ['t46', '1']
                refine R.move ⟨rfl, rfl, rfl, rfl⟩ rfl ?_
                refine GOps.nil ?_
                exact ⟨k + 1, by omega, ⟨by omega, any_take_succ badLit x.body k y hy hk0 (by first | exact lit_no1 (by assumption) | exact lit_no2 hc8 | exact lit_no2 hc13)⟩, rfl, by repeat (first | exact Keeps.nil _ | refine Keeps.cons rfl ?_), by first | exact Hs.refl _ | exact Hs.tl _ | exact Hs.tl2 _ _⟩
            · try simp only [decide_eq_true_eq, decide_eq_false_iff_not, Bool.not_eq_true', Bool.not_eq_false'] at hg7
              refine GOps.skip rfl rfl rfl ?_
              refine GOps.skip rfl rfl rfl ?_
              refine GOps.skip rfl rfl rfl ?_
              refine GOps.skip rfl rfl rfl ?_
              refine GOps.skip rfl rfl rfl ?_
              refine R.pick_f ⟨rfl, rfl, rfl, rfl⟩ rfl rfl ?_
              refine GOps.nil ?_
              refine GW.cond_f rfl ?_
              refine GW.skip ?_
              refine GW.region ?_
              refine R.add (r := (((k + 1) : Nat) : Int)) ⟨rfl, rfl, rfl, rfl⟩ rfl rfl (by rw [wrap64_id (by omega) (by omega)]; omega) ?_   -- add ['t46', '1']
              refine R.move ⟨rfl, rfl, rfl, rfl⟩ rfl ?_
              refine GOps.nil ?_
              exact ⟨k + 1, by omega, ⟨by omega, any_take_succ badLit x.body k y hy hk0 (by first | exact lit_no1 (by assumption) | exact lit_no2 hc8 | exact lit_no2 hc13)⟩, rfl, by repeat (first | exact Keeps.nil _ | refine Keeps.cons rfl ?_), by first | exact Hs.refl _ | exact Hs.tl _ | exact Hs.tl2 _ _⟩
          · try simp only [decide_eq_true_eq, decide_eq_false_iff_not, Bool.not_eq_true', Bool.not_eq_false'] at hc6
            refine GW.exit ?_
            refine GW.seq ?_
            refine GW.region ?_
            refine R.move ⟨rfl, rfl, rfl, rfl⟩ rfl ?_
            refine R.eqI ⟨rfl, rfl, rfl, rfl⟩ rfl rfl ?_   -- eql ['t61', '0']
            refine R.move ⟨rfl, rfl, rfl, rfl⟩ rfl ?_
            refine GOps.caseB 63 rfl (fun hg9 => ?_) (fun hg9 => ?_)
            · try simp only [decide_eq_true_eq, decide_eq_false_iff_not, Bool.not_eq_true', Bool.not_eq_false'] at hg9
              refine R.move ⟨rfl, rfl, rfl, rfl⟩ rfl ?_
              refine R.move ⟨rfl, rfl, rfl, rfl⟩ rfl ?_
              refine R.sliceSH (m := (rs.take i).length) ⟨rfl, rfl, rfl, rfl⟩ rfl rfl Tryd.underlying22 Tryd.sizeOf46 (fun a h => by cases h; rfl) (by omega) (by omega) (by rw [List.length_take]; omega) ?_
              refine R.makeFunc (vs := []) (us := [_]) ⟨rfl, rfl, rfl, rfl⟩ rfl rfl ?_
              refine R.call ⟨rfl, rfl, rfl, rfl⟩ rfl (vs := [_, _]) rfl ((has_Rule _ _ (some ⟨b, f, none⟩) (rs.take i) c 15 #[.pointer (some ⟨b10, 0, none⟩)] (fun o => sameRl o x) ((RowAt.taken i hr).mono (fun z hz => List.mem_cons_of_mem _ (List.mem_cons_of_mem _ hz)) (fun _ _ h => h.mono (fun z hz => List.mem_cons_of_mem _ (List.mem_cons_of_mem _ hz)))) (by rw [List.length_take]; omega) (fun o A2 c2 ho hLt => Program1 _ _ o x A2 A' c2 c' b10 hLt ((hls.mono (sub_cons _)).mono (sub_cons _)) (hok o (List.mem_of_mem_take ho)).2 hxo.2 (.own List.mem_cons_self 0 _ (fun j v hv => by simpa using hv)))).mono ?_)
              rintro _ _ ⟨rfl, rfl⟩
              refine R.pick_t ⟨rfl, rfl, rfl, rfl⟩ rfl rfl ?_
              refine GOps.nil ?_
              refine GW.ite rfl (fun hc10 => ?_) (fun hc10 => ?_)
              · try simp only [decide_eq_true_eq, decide_eq_false_iff_not, Bool.not_eq_true', Bool.not_eq_false'] at hc10
                refine GW.region ?_
                refine R.assign ⟨rfl, rfl, rfl, rfl⟩ rfl ?_
                refine GOps.nil ?_
                refine GW.region ?_
                refine R.add (r := (((i + 1) : Nat) : Int)) ⟨rfl, rfl, rfl, rfl⟩ rfl rfl (by rw [wrap64_id (by omega) (by omega)]; omega) ?_   -- add ['t30', '1']
                refine R.move ⟨rfl, rfl, rfl, rfl⟩ rfl ?_
                refine GOps.nil ?_
                exact ⟨i + 1, _, (), (), by omega, by exact ⟨by omega, any_take_succ _ rs i x hx hB0 (by first | exact badN_no2 hc5 (any_of_take badLit _ k (by omega) hk0) | exact badN_no1 (by assumption) (any_of_take badLit _ k (by omega) hk0)), by first | exact hbad.same (by assumption) hx (by assumption) | exact hbad.other (by assumption) hx (by assumption) | exact hbad.was (by assumption)⟩, rfl, by repeat (first | exact Keeps.nil _ | refine Keeps.cons rfl ?_), by first | exact Hs.refl _ | exact Hs.tl _ | exact Hs.tl2 _ _⟩
              · try simp only [decide_eq_true_eq, decide_eq_false_iff_not, Bool.not_eq_true', Bool.not_eq_false'] at hc10
                refine GW.skip ?_
                refine GW.region ?_
                refine R.add (r := (((i + 1) : Nat) : Int)) ⟨rfl, rfl, rfl, rfl⟩ rfl rfl (by rw [wrap64_id (by omega) (by omega)]; omega) ?_   -- add ['t30', '1']
                refine R.move ⟨rfl, rfl, rfl, rfl⟩ rfl ?_
                refine GOps.nil ?_
                exact ⟨i + 1, _, (), (), by omega, by exact ⟨by omega, any_take_succ _ rs i x hx hB0 (by first | exact badN_no2 hc5 (any_of_take badLit _ k (by omega) hk0) | exact badN_no1 (by assumption) (any_of_take badLit _ k (by omega) hk0)), by first | exact hbad.same (by assumption) hx (by assumption) | exact hbad.other (by assumption) hx (by assumption) | exact hbad.was (by assumption)⟩, rfl, by repeat (first | exact Keeps.nil _ | refine Keeps.cons rfl ?_), by first | exact Hs.refl _ | exact Hs.tl _ | exact Hs.tl2 _ _⟩
            · try simp only [decide_eq_true_eq, decide_eq_false_iff_not, Bool.not_eq_true', Bool.not_eq_false'] at hg9
              refine GOps.skip rfl rfl rfl ?_
              refine GOps.skip rfl rfl rfl ?_
              refine GOps.skip rfl rfl rfl ?_
              refine GOps.skip rfl rfl rfl ?_
              refine GOps.skip rfl rfl rfl ?_
              refine R.pick_f ⟨rfl, rfl, rfl, rfl⟩ rfl rfl ?_
              refine GOps.nil ?_
              refine GW.cond_f rfl ?_
              refine GW.skip ?_
              refine GW.region ?_
              refine R.add (r := (((i + 1) : Nat) : Int)) ⟨rfl, rfl, rfl, rfl⟩ rfl rfl (by rw [wrap64_id (by omega) (by omega)]; omega) ?_   -- add ['t30', '1']
              refine R.move ⟨rfl, rfl, rfl, rfl⟩ rfl ?_
              refine GOps.nil ?_
              exact ⟨i + 1, _, (), (), by omega, by exact ⟨by omega, any_take_succ _ rs i x hx hB0 (by first | exact badN_no2 hc5 (any_of_take badLit _ k (by omega) hk0) | exact badN_no1 (by assumption) (any_of_take badLit _ k (by omega) hk0)), by first | exact hbad.same (by assumption) hx (by assumption) | exact hbad.other (by assumption) hx (by assumption) | exact hbad.was (by assumption)⟩, rfl, by repeat (first | exact Keeps.nil _ | refine Keeps.cons rfl ?_), by first | exact Hs.refl _ | exact Hs.tl _ | exact Hs.tl2 _ _⟩
      · try simp only [decide_eq_true_eq, decide_eq_false_iff_not, Bool.not_eq_true', Bool.not_eq_false'] at hg4
        refine GOps.skip rfl rfl rfl ?_
        refine GOps.skip rfl rfl rfl ?_
        refine GOps.skip rfl rfl rfl ?_
        refine GOps.skip rfl rfl rfl ?_
        refine GOps.skip rfl rfl rfl ?_
        refine R.pick_f ⟨rfl, rfl, rfl, rfl⟩ rfl rfl ?_
        refine GOps.nil ?_
        refine GW.cond_f rfl ?_
        refine GW.skip ?_
        refine GW.seq ?_
        refine GW.seq ?_
        refine GW.region ?_
        refine R.fieldAddr ⟨rfl, rfl, rfl, rfl⟩ rfl Tryd.underlying46 rfl Tryd.sizeOf44 ?_   -- "Body"
        refine R.load1 ⟨rfl, rfl, rfl, rfl⟩ rfl Tryd.underlying44 rfl (.own' (by repeat (first | exact List.mem_cons_self | apply List.mem_cons_of_mem | apply List.mem_append_right)) (by rfl)) ?_   -- load 8 check.go:91 t43
        refine R.lenS ⟨rfl, rfl, rfl, rfl⟩ rfl rfl Tryd.underlying44 ?_
        refine R.move ⟨rfl, rfl, rfl, rfl⟩ rfl ?_
        refine GOps.nil ?_
        refine GW.block ?_
        -- LOOP: live 0:l, 2, 7:not, 8:bad, 9:i, 10:r, 28, 29, 30, 44, 45, 46
        refine GW.loopI (fun k : Nat => [(0, .slice (some ⟨b, f, none⟩) rs.length c), (2, .pointer (some ⟨b2, 0, none⟩)), (7, .bool (negates rs)), (8, .int .i64 bad), (9, .int .i64 i), (10, .pointer (some ⟨b10, 0, none⟩)), (28, .slice (some ⟨b, f, none⟩) rs.length c), (29, .int .i64 rs.length), (30, .int .i64 i), (44, .slice A' x.body.length c'), (45, .int .i64 x.body.length), (46, .int .i64 k)]) (fun k => (b10, .exact (.cells (RlC x.head (.slice A' x.body.length c')).toArray 46 (0, 0))) :: (b2, .exact (.cells #[.bool false] 26 (0, 0))) :: G) (fun k => x.body.length - k) (fun k => k ≤ x.body.length ∧ (x.body.take k).any badLit = false) 0
          (by repeat (first | exact Keeps.nil _ | refine Keeps.cons rfl ?_)) (Hs.refl _) (⟨by omega, by simp⟩) ?_
        rintro k ⟨hk, hk0⟩
        refine GW.seq ?_
        refine GW.region ?_
        refine R.lss ⟨rfl, rfl, rfl, rfl⟩ rfl rfl ?_   -- lss ['t46', 't45']
        refine GOps.nil ?_
        refine GW.seq ?_
        refine GW.ite rfl (fun hc11 => ?_) (fun hc11 => ?_)
        · try simp only [decide_eq_true_eq, decide_eq_false_iff_not, Bool.not_eq_true', Bool.not_eq_false'] at hc11
          obtain ⟨y, hy⟩ : ∃ y, x.body[k]? = some y := ⟨_, List.getElem?_eq_getElem (by omega)⟩
          obtain ⟨bb, oo, csy, rfl, rfl, hrd2⟩ := hls k y hy
          refine GW.skip ?_
          refine GW.seq ?_
          refine GW.block ?_
          refine GW.seq ?_
          refine GW.region ?_
          refine R.indexAddrS ⟨rfl, rfl, rfl, rfl⟩ rfl rfl Tryd.underlying44 Tryd.sizeOf43 (by omega) (by omega) ?_   -- ['t44', 't46']
          refine R.loadA ⟨rfl, rfl, rfl, rfl⟩ rfl Tryd.underlying43 rfl Tryd.sizeOf43 (Rds.mono (fun z hz => List.mem_cons_of_mem _ (List.mem_cons_of_mem _ hz)) hrd2) (by rfl) ?_   -- load 9 check.go:91
          refine R.alloc ⟨rfl, rfl, rfl, rfl⟩ Tryd.zeroValue43 fun b12 => ?_
          refine R.storeAll (G1 := []) rfl rfl rfl rfl rfl Tryd.sizeOf43 rfl rfl rfl rfl ?_   -- t12:x
          refine GOps.nil ?_
          refine GW.seq ?_
          refine GW.region ?_
          refine R.fieldAddr ⟨rfl, rfl, rfl, rfl⟩ rfl Tryd.underlying43 rfl Tryd.sizeOf41 ?_   -- "Kind"
          refine R.load1 ⟨rfl, rfl, rfl, rfl⟩ rfl Tryd.underlying41 rfl (.own' (by repeat (first | exact List.mem_cons_self | apply List.mem_cons_of_mem | apply List.mem_append_right)) (by rfl)) ?_   -- load 10 check.go:92 t50
          refine R.eqI ⟨rfl, rfl, rfl, rfl⟩ rfl rfl ?_   -- eql ['t51', '2']
          refine R.move ⟨rfl, rfl, rfl, rfl⟩ rfl ?_
          refine GOps.caseB 53 rfl (fun hg12 => ?_) (fun hg12 => ?_)
          · try simp only [decide_eq_true_eq, decide_eq_false_iff_not, Bool.not_eq_true', Bool.not_eq_false'] at hg12
            refine R.fieldAddr ⟨rfl, rfl, rfl, rfl⟩ rfl Tryd.underlying43 rfl Tryd.sizeOf40 ?_   -- "Pattern"
            refine R.indexAddrA ⟨rfl, rfl, rfl, rfl⟩ rfl rfl Tryd.underlying40 Tryd.sizeOf37 (by omega) (by omega) ?_   -- ['t54', '1']
            refine R.fieldAddr ⟨rfl, rfl, rfl, rfl⟩ rfl Tryd.underlying37 rfl Tryd.sizeOf9 ?_   -- "Var"
            refine R.load1 ⟨rfl, rfl, rfl, rfl⟩ rfl Tryd.underlying9 rfl (.own' (by repeat (first | exact List.mem_cons_self | apply List.mem_cons_of_mem | apply List.mem_append_right)) (by rfl)) ?_   -- load 11 check.go:92 t56
            refine R.neS ⟨rfl, rfl, rfl, rfl⟩ rfl rfl ?_   -- neq ['t57', 'const']
            refine R.pick_t ⟨rfl, rfl, rfl, rfl⟩ rfl rfl ?_
            refine GOps.nil ?_
            refine GW.ite rfl (fun hc13 => ?_) (fun hc13 => ?_)
            · try simp only [decide_eq_true_eq, decide_eq_false_iff_not, Bool.not_eq_true', Bool.not_eq_false'] at hc13
              refine GW.seq ?_
              refine GW.region ?_
              refine R.assign ⟨rfl, rfl, rfl, rfl⟩ rfl ?_
              refine GOps.nil ?_
              refine GW.exit ?_
              refine GW.seq ?_
              refine GW.block ?_
              refine GW.seq ?_
              refine GW.region ?_
              refine R.move ⟨rfl, rfl, rfl, rfl⟩ rfl ?_
              refine R.neI ⟨rfl, rfl, rfl, rfl⟩ rfl rfl ?_   -- neq ['t72', '0']
              refine R.assign ⟨rfl, rfl, rfl, rfl⟩ rfl ?_
              refine GOps.nil ?_
              refine GW.cond_t rfl ?_
              refine GW.seq ?_
              refine GW.region ?_
              refine R.build (vs := []) (cells := #[.bool false]) ⟨rfl, rfl, rfl, rfl⟩ rfl (fun w => run_build w 26 _ _ (by kernel_rfl)) ?_   -- build 3 type 26
              refine R.move ⟨rfl, rfl, rfl, rfl⟩ rfl ?_
              refine R.storeAll (G1 := [_, _]) rfl rfl rfl rfl rfl Tryd.sizeOf26 rfl rfl rfl rfl ?_   -- t2
              refine R.assign ⟨rfl, rfl, rfl, rfl⟩ rfl ?_
              refine GOps.nil ?_
              refine GW.ret (Out.of (resCellTmp rfl rfl rfl Tryd.underlying26 rfl Tryd.sizeOf26 (own1 (by repeat (first | exact List.mem_cons_self | apply List.mem_cons_of_mem))) rfl) (by first | exact Hs.refl _ | exact Hs.tl _ | exact Hs.tl2 _ _ | exact Hs.tl3 _ _ _ | exact (Hs.app _).trans (Hs.tl _) | exact (Hs.app _).trans ((Hs.app _).trans (Hs.tl _))) ⟨?_, rfl⟩)
              first | (rw [progV, prog_E h0 hx hc2, decide_eq_false hc2]; rfl) | (rw [progV, prog_5 hE hg4 (any_of_get badRule rs i x hx (bad_head hc5))]; rfl) | (rw [progV, prog_5 hE (neg_of hx hy (by assumption)) (any_of_get badRule rs i x hx (bad_body hy (bad_lit (by assumption) (by first | exact hc8 | exact hc13))))]; rfl) | (obtain ⟨g1, g2⟩ := prog_bad hE hNB hbad hii (by assumption); rw [progV, g1, g2]; rfl) | (rw [progV, prog_9 hE hNB (badI_zero hbad hii (by omega)) (by omega)]; rfl) | (rw [progV, prog_0 hE hNB (badI_zero hbad hii (by omega)) (by omega)]; rfl)
            · try simp only [decide_eq_true_eq, decide_eq_false_iff_not, Bool.not_eq_true', Bool.not_eq_false'] at hc13
              refine GW.skip ?_
              refine GW.region ?_
              refine R.add (r := (((k + 1) : Nat) : Int)) ⟨rfl, rfl, rfl, rfl⟩ rfl rfl (by rw [wrap64_id (by omega) (by omega)]; omega) ?_   -- add ['t46', '1']
              refine R.move ⟨rfl, rfl, rfl, rfl⟩ rfl ?_
              refine GOps.nil ?_
              exact ⟨k + 1, by omega, ⟨by omega, any_take_succ badLit x.body k y hy hk0 (by first | exact lit_no1 (by assumption) | exact lit_no2 hc8 | exact lit_no2 hc13)⟩, rfl, by repeat (first | exact Keeps.nil _ | refine Keeps.cons rfl ?_), by first | exact Hs.refl _ | exact Hs.tl _ | exact Hs.tl2 _ _⟩
          · try simp only [decide_eq_true_eq, decide_eq_false_iff_not, Bool.not_eq_true', Bool.not_eq_false'] at hg12
            refine GOps.skip rfl rfl rfl ?_
            refine GOps.skip rfl rfl rfl ?_
            refine GOps.skip rfl rfl rfl ?_
            refine GOps.skip rfl rfl rfl ?_
            refine GOps.skip rfl rfl rfl ?_
            refine R.pick_f ⟨rfl, rfl, rfl, rfl⟩ rfl rfl ?_
            refine GOps.nil ?_
            refine GW.cond_f rfl ?_
            refine GW.skip ?_
            refine GW.region ?_
            refine R.add (r := (((k + 1) : Nat) : Int)) ⟨rfl, rfl, rfl, rfl⟩ rfl rfl (by rw [wrap64_id (by omega) (by omega)]; omega) ?_   -- add ['t46', '1']
            refine R.move ⟨rfl, rfl, rfl, rfl⟩ rfl ?_
            refine GOps.nil ?_
            exact ⟨k + 1, by omega, ⟨by omega, any_take_succ badLit x.body k y hy hk0 (by first | exact lit_no1 (by assumption) | exact lit_no2 hc8 | exact lit_no2 hc13)⟩, rfl, by repeat (first | exact Keeps.nil _ | refine Keeps.cons rfl ?_), by first | exact Hs.refl _ | exact Hs.tl _ | exact Hs.tl2 _ _⟩
        · try simp only [decide_eq_true_eq, decide_eq_false_iff_not, Bool.not_eq_true', Bool.not_eq_false'] at hc11
          refine GW.exit ?_
          refine GW.seq ?_
          refine GW.region ?_
          refine R.move ⟨rfl, rfl, rfl, rfl⟩ rfl ?_
          refine R.eqI ⟨rfl, rfl, rfl, rfl⟩ rfl rfl ?_   -- eql ['t61', '0']
          refine R.move ⟨rfl, rfl, rfl, rfl⟩ rfl ?_
          refine GOps.caseB 63 rfl (fun hg14 => ?_) (fun hg14 => ?_)
          · try simp only [decide_eq_true_eq, decide_eq_false_iff_not, Bool.not_eq_true', Bool.not_eq_false'] at hg14
            refine R.move ⟨rfl, rfl, rfl, rfl⟩ rfl ?_
            refine R.move ⟨rfl, rfl, rfl, rfl⟩ rfl ?_
            refine R.sliceSH (m := (rs.take i).length) ⟨rfl, rfl, rfl, rfl⟩ rfl rfl Tryd.underlying22 Tryd.sizeOf46 (fun a h => by cases h; rfl) (by omega) (by omega) (by rw [List.length_take]; omega) ?_
            refine R.makeFunc (vs := []) (us := [_]) ⟨rfl, rfl, rfl, rfl⟩ rfl rfl ?_
            refine R.call ⟨rfl, rfl, rfl, rfl⟩ rfl (vs := [_, _]) rfl ((has_Rule _ _ (some ⟨b, f, none⟩) (rs.take i) c 15 #[.pointer (some ⟨b10, 0, none⟩)] (fun o => sameRl o x) ((RowAt.taken i hr).mono (fun z hz => List.mem_cons_of_mem _ (List.mem_cons_of_mem _ hz)) (fun _ _ h => h.mono (fun z hz => List.mem_cons_of_mem _ (List.mem_cons_of_mem _ hz)))) (by rw [List.length_take]; omega) (fun o A2 c2 ho hLt => Program1 _ _ o x A2 A' c2 c' b10 hLt ((hls.mono (sub_cons _)).mono (sub_cons _)) (hok o (List.mem_of_mem_take ho)).2 hxo.2 (.own List.mem_cons_self 0 _ (fun j v hv => by simpa using hv)))).mono ?_)
            rintro _ _ ⟨rfl, rfl⟩
            refine R.pick_t ⟨rfl, rfl, rfl, rfl⟩ rfl rfl ?_
            refine GOps.nil ?_
            refine GW.ite rfl (fun hc15 => ?_) (fun hc15 => ?_)
            · try simp only [decide_eq_true_eq, decide_eq_false_iff_not, Bool.not_eq_true', Bool.not_eq_false'] at hc15
              refine GW.region ?_
              refine R.assign ⟨rfl, rfl, rfl, rfl⟩ rfl ?_
              refine GOps.nil ?_
              refine GW.region ?_
              refine R.add (r := (((i + 1) : Nat) : Int)) ⟨rfl, rfl, rfl, rfl⟩ rfl rfl (by rw [wrap64_id (by omega) (by omega)]; omega) ?_   -- add ['t30', '1']
              refine R.move ⟨rfl, rfl, rfl, rfl⟩ rfl ?_
              refine GOps.nil ?_
              exact ⟨i + 1, _, (), (), by omega, by exact ⟨by omega, any_take_succ _ rs i x hx hB0 (by first | exact badN_no2 hc5 (any_of_take badLit _ k (by omega) hk0) | exact badN_no1 (by assumption) (any_of_take badLit _ k (by omega) hk0)), by first | exact hbad.same (by assumption) hx (by assumption) | exact hbad.other (by assumption) hx (by assumption) | exact hbad.was (by assumption)⟩, rfl, by repeat (first | exact Keeps.nil _ | refine Keeps.cons rfl ?_), by first | exact Hs.refl _ | exact Hs.tl _ | exact Hs.tl2 _ _⟩
            · try simp only [decide_eq_true_eq, decide_eq_false_iff_not, Bool.not_eq_true', Bool.not_eq_false'] at hc15
              refine GW.skip ?_
              refine GW.region ?_
              refine R.add (r := (((i + 1) : Nat) : Int)) ⟨rfl, rfl, rfl, rfl⟩ rfl rfl (by rw [wrap64_id (by omega) (by omega)]; omega) ?_   -- add ['t30', '1']
              refine R.move ⟨rfl, rfl, rfl, rfl⟩ rfl ?_
              refine GOps.nil ?_
              exact ⟨i + 1, _, (), (), by omega, by exact ⟨by omega, any_take_succ _ rs i x hx hB0 (by first | exact badN_no2 hc5 (any_of_take badLit _ k (by omega) hk0) | exact badN_no1 (by assumption) (any_of_take badLit _ k (by omega) hk0)), by first | exact hbad.same (by assumption) hx (by assumption) | exact hbad.other (by assumption) hx (by assumption) | exact hbad.was (by assumption)⟩, rfl, by repeat (first | exact Keeps.nil _ | refine Keeps.cons rfl ?_), by first | exact Hs.refl _ | exact Hs.tl _ | exact Hs.tl2 _ _⟩
          · try simp only [decide_eq_true_eq, decide_eq_false_iff_not, Bool.not_eq_true', Bool.not_eq_false'] at hg14
            refine GOps.skip rfl rfl rfl ?_
            refine GOps.skip rfl rfl rfl ?_
            refine GOps.skip rfl rfl rfl ?_
            refine GOps.skip rfl rfl rfl ?_
            refine GOps.skip rfl rfl rfl ?_
            refine R.pick_f ⟨rfl, rfl, rfl, rfl⟩ rfl rfl ?_
            refine GOps.nil ?_
            refine GW.cond_f rfl ?_
            refine GW.skip ?_
            refine GW.region ?_
            refine R.add (r := (((i + 1) : Nat) : Int)) ⟨rfl, rfl, rfl, rfl⟩ rfl rfl (by rw [wrap64_id (by omega) (by omega)]; omega) ?_   -- add ['t30', '1']
            refine R.move ⟨rfl, rfl, rfl, rfl⟩ rfl ?_
            refine GOps.nil ?_
            exact ⟨i + 1, _, (), (), by omega, by exact ⟨by omega, any_take_succ _ rs i x hx hB0 (by first | exact badN_no2 hc5 (any_of_take badLit _ k (by omega) hk0) | exact badN_no1 (by assumption) (any_of_take badLit _ k (by omega) hk0)), by first | exact hbad.same (by assumption) hx (by assumption) | exact hbad.other (by assumption) hx (by assumption) | exact hbad.was (by assumption)⟩, rfl, by repeat (first | exact Keeps.nil _ | refine Keeps.cons rfl ?_), by first | exact Hs.refl _ | exact Hs.tl _ | exact Hs.tl2 _ _⟩
    · try simp only [decide_eq_true_eq, decide_eq_false_iff_not, Bool.not_eq_true', Bool.not_eq_false'] at hc3
      have hii : i = rs.length := by omega
      have hNB : (negates rs && rs.any badRule) = false := by rw [← badN_all]; exact any_of_take _ rs i (by omega) hB0
      refine GW.exit ?_
      refine GW.seq ?_
      refine GW.block ?_
      refine GW.seq ?_
      refine GW.region ?_
      refine R.move ⟨rfl, rfl, rfl, rfl⟩ rfl ?_
      refine R.neI ⟨rfl, rfl, rfl, rfl⟩ rfl rfl ?_   -- neq ['t72', '0']
      refine R.assign ⟨rfl, rfl, rfl, rfl⟩ rfl ?_
      refine GOps.nil ?_
      refine GW.ite rfl (fun hc16 => ?_) (fun hc16 => ?_)
      · try simp only [decide_eq_true_eq, decide_eq_false_iff_not, Bool.not_eq_true', Bool.not_eq_false'] at hc16
        refine GW.seq ?_
        refine GW.region ?_
        refine R.build (vs := []) (cells := #[.bool false]) ⟨rfl, rfl, rfl, rfl⟩ rfl (fun w => run_build w 26 _ _ (by kernel_rfl)) ?_   -- build 4 type 26
        refine R.move ⟨rfl, rfl, rfl, rfl⟩ rfl ?_
        refine R.storeAll (G1 := []) rfl rfl rfl rfl rfl Tryd.sizeOf26 rfl rfl rfl rfl ?_   -- t2
        refine R.assign ⟨rfl, rfl, rfl, rfl⟩ rfl ?_
        refine GOps.nil ?_
        refine GW.ret (Out.of (resCellTmp rfl rfl rfl Tryd.underlying26 rfl Tryd.sizeOf26 (own1 (by repeat (first | exact List.mem_cons_self | apply List.mem_cons_of_mem))) rfl) (by first | exact Hs.refl _ | exact Hs.tl _ | exact Hs.tl2 _ _ | exact Hs.tl3 _ _ _ | exact (Hs.app _).trans (Hs.tl _) | exact (Hs.app _).trans ((Hs.app _).trans (Hs.tl _))) ⟨?_, rfl⟩)
        first | (rw [progV, prog_E h0 hx hc2, decide_eq_false hc2]; rfl) | (rw [progV, prog_5 hE hg4 (any_of_get badRule rs i x hx (bad_head hc5))]; rfl) | (rw [progV, prog_5 hE (neg_of hx hy (by assumption)) (any_of_get badRule rs i x hx (bad_body hy (bad_lit (by assumption) (by first | exact hc8 | exact hc13))))]; rfl) | (obtain ⟨g1, g2⟩ := prog_bad hE hNB hbad hii (by assumption); rw [progV, g1, g2]; rfl) | (rw [progV, prog_9 hE hNB (badI_zero hbad hii (by omega)) (by omega)]; rfl) | (rw [progV, prog_0 hE hNB (badI_zero hbad hii (by omega)) (by omega)]; rfl)
      · try simp only [decide_eq_true_eq, decide_eq_false_iff_not, Bool.not_eq_true', Bool.not_eq_false'] at hc16
        refine GW.seq ?_
        refine GW.region ?_
        refine R.move ⟨rfl, rfl, rfl, rfl⟩ rfl ?_
        refine R.lenS ⟨rfl, rfl, rfl, rfl⟩ rfl rfl Tryd.underlying22 ?_
        refine R.gtr ⟨rfl, rfl, rfl, rfl⟩ rfl rfl ?_   -- gtr ['t78', '1000']
        refine R.assign ⟨rfl, rfl, rfl, rfl⟩ rfl ?_
        refine GOps.nil ?_
        refine GW.ite rfl (fun hc17 => ?_) (fun hc17 => ?_)
        · try simp only [decide_eq_true_eq, decide_eq_false_iff_not, Bool.not_eq_true', Bool.not_eq_false'] at hc17
          refine GW.seq ?_
          refine GW.region ?_
          refine R.build (vs := []) (cells := #[.bool false]) ⟨rfl, rfl, rfl, rfl⟩ rfl (fun w => run_build w 26 _ _ (by kernel_rfl)) ?_   -- build 5 type 26
          refine R.storeAll (G1 := []) rfl rfl rfl rfl rfl Tryd.sizeOf26 rfl rfl rfl rfl ?_   -- t2
          refine R.assign ⟨rfl, rfl, rfl, rfl⟩ rfl ?_
          refine GOps.nil ?_
          refine GW.ret (Out.of (resCellTmp rfl rfl rfl Tryd.underlying26 rfl Tryd.sizeOf26 (own1 (by repeat (first | exact List.mem_cons_self | apply List.mem_cons_of_mem))) rfl) (by first | exact Hs.refl _ | exact Hs.tl _ | exact Hs.tl2 _ _ | exact Hs.tl3 _ _ _ | exact (Hs.app _).trans (Hs.tl _) | exact (Hs.app _).trans ((Hs.app _).trans (Hs.tl _))) ⟨?_, rfl⟩)
          first | (rw [progV, prog_E h0 hx hc2, decide_eq_false hc2]; rfl) | (rw [progV, prog_5 hE hg4 (any_of_get badRule rs i x hx (bad_head hc5))]; rfl) | (rw [progV, prog_5 hE (neg_of hx hy (by assumption)) (any_of_get badRule rs i x hx (bad_body hy (bad_lit (by assumption) (by first | exact hc8 | exact hc13))))]; rfl) | (obtain ⟨g1, g2⟩ := prog_bad hE hNB hbad hii (by assumption); rw [progV, g1, g2]; rfl) | (rw [progV, prog_9 hE hNB (badI_zero hbad hii (by omega)) (by omega)]; rfl) | (rw [progV, prog_0 hE hNB (badI_zero hbad hii (by omega)) (by omega)]; rfl)
        · try simp only [decide_eq_true_eq, decide_eq_false_iff_not, Bool.not_eq_true', Bool.not_eq_false'] at hc17
          refine GW.skip ?_
          refine GW.seq ?_
          refine GW.region ?_
          refine R.move ⟨rfl, rfl, rfl, rfl⟩ rfl ?_
          refine R.not ⟨rfl, rfl, rfl, rfl⟩ rfl ?_
          refine R.build (vs := [(0, _)]) (cells := #[.bool (!negates rs)]) ⟨rfl, rfl, rfl, rfl⟩ rfl (fun w => run_build w 26 _ _ (by kernel_rfl)) ?_   -- build 6 type 26
          refine R.storeAll (G1 := []) rfl rfl rfl rfl rfl Tryd.sizeOf26 rfl rfl rfl rfl ?_   -- t2
          refine R.assign ⟨rfl, rfl, rfl, rfl⟩ rfl ?_
          refine GOps.nil ?_
          refine GW.ret (Out.of (resCellTmp rfl rfl rfl Tryd.underlying26 rfl Tryd.sizeOf26 (own1 (by repeat (first | exact List.mem_cons_self | apply List.mem_cons_of_mem))) rfl) (by first | exact Hs.refl _ | exact Hs.tl _ | exact Hs.tl2 _ _ | exact Hs.tl3 _ _ _ | exact (Hs.app _).trans (Hs.tl _) | exact (Hs.app _).trans ((Hs.app _).trans (Hs.tl _))) ⟨?_, rfl⟩)
          first | (rw [progV, prog_E h0 hx hc2, decide_eq_false hc2]; rfl) | (rw [progV, prog_5 hE hg4 (any_of_get badRule rs i x hx (bad_head hc5))]; rfl) | (rw [progV, prog_5 hE (neg_of hx hy (by assumption)) (any_of_get badRule rs i x hx (bad_body hy (bad_lit (by assumption) (by first | exact hc8 | exact hc13))))]; rfl) | (obtain ⟨g1, g2⟩ := prog_bad hE hNB hbad hii (by assumption); rw [progV, g1, g2]; rfl) | (rw [progV, prog_9 hE hNB (badI_zero hbad hii (by omega)) (by omega)]; rfl) | (rw [progV, prog_0 hE hNB (badI_zero hbad hii (by omega)) (by omega)]; rfl)

end Go.Proofs.YtgjmandjhjfgkaaDoor.Gl
