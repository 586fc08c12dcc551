/- CheckMany: the walk and its plain law. -/
import Derived.Test.YtgjmandjhjfgkaaDoorU4
namespace Go.Proofs.YtgjmandjhjfgkaaDoor.Gl
open Go.RowKit Go.Shelf
set_option linter.unusedVariables false
set_option linter.unnecessarySimpa false
set_option linter.unusedSimpArgs false
attribute [-simp] List.getD_eq_getElem?_getD



/-! ### .. in memory -/
def bodies (l : List Nat) : Hp := l.map fun b => (b, .exact (.cells (LtC kM).toArray 43 (0, 0)))
def rowsC : List Nat → List Value
  | [] => []
  | b :: l => rowsC l ++ RlC (mkR l.length).head (.slice (some ⟨b, 0, none⟩) 1 1)
theorem rowsC_len : ∀ l : List Nat, (rowsC l).length = l.length * 13
  | [] => rfl
  | b :: l => by
    rw [rowsC, List.length_append, rowsC_len l, List.length_cons, Nat.add_mul]
    rfl
theorem rowsC_at : ∀ (l : List Nat) (k : Nat), k < l.length → ∃ b, b ∈ l ∧ ∀ (j : Nat) v, (RlC (mkR k).head (.slice (some ⟨b, 0, none⟩) 1 1))[j]? = some v → (rowsC l)[k * 13 + j]? = some v
  | [], k, h => by simp at h
  | b :: l, k, h => by
    rw [List.length_cons] at h
    rcases Nat.lt_or_ge k l.length with hk | hk
    · obtain ⟨c, hc, hv⟩ := rowsC_at l k hk
      refine ⟨c, List.mem_cons_of_mem _ hc, fun j v hj => ?_⟩
      have h1 := hv j v hj
      rw [rowsC, List.getElem?_append_left (List.getElem?_eq_some_iff.1 h1).1]
      exact h1
    · obtain rfl : k = l.length := by omega
      refine ⟨b, List.mem_cons_self, fun j v hj => ?_⟩
      rw [rowsC, List.getElem?_append_right (by rw [rowsC_len]; omega), rowsC_len, Nat.add_sub_cancel_left]
      exact hj
theorem kM_lts {w0 : World} {G : Hp} {b : Nat} {e : TypeId} (h : (b, Know.exact (.cells (LtC kM).toArray e (0, 0))) ∈ G) : LtsAt w0 G (some ⟨b, 0, none⟩) [kM] := by
  intro i x hx
  cases i with
  | zero =>
    simp at hx
    subst hx
    exact ⟨b, 0, _, rfl, rfl, .own h _ _ (fun j v hv => by simpa using hv)⟩
  | succ i => simp at hx
theorem many_at {l : List Nat} {v : Value} {H : Hp} (w0 : World) (G : Hp) (h : SlAt 13 46 (rowsC l) l.length v H) : ∃ A c, v = .slice A l.length c ∧ l.length ≤ c ∧ RlsAt w0 (H ++ (bodies l ++ G)) A (rulesOf l.length) := by
  generalize hn : l.length = n at h
  cases h with
  | nil h0 hc =>
    subst h0
    exact ⟨none, 0, rfl, Nat.le_refl _, fun i x hx => by simp [rulesOf] at hx⟩
  | row b cap hl hc =>
    refine ⟨some ⟨b, 0, none⟩, cap, rfl, hc, fun i x hx => ?_⟩
    have hi : i < n := by have := (List.getElem?_eq_some_iff.1 hx).1; rwa [rulesOf_len] at this
    rw [rulesOf_get hi] at hx
    obtain rfl := Option.some.inj hx
    obtain ⟨c, hc1, hc2⟩ := rowsC_at l i (by omega)
    refine ⟨b, 0, _, rfl, ⟨some ⟨c, 0, none⟩, 1, rfl, Nat.le_refl 1, by decide, kM_lts (e := 43) (List.mem_append_right _ (List.mem_append_left _ (List.mem_map.2 ⟨c, hc1, rfl⟩)))⟩, fun j v hv => ?_⟩
    refine .own (List.mem_append_left _ List.mem_cons_self) ?_
    simp only [Know.cell, Nat.zero_add]
    exact hc2 j v hv
theorem many_check (w0 : World) (G : Hp) (A : Option Addr) (n c : Nat) (hr : RlsAt w0 G A (rulesOf n)) (hc : n ≤ c) (hm : n ≤ 1010) : GC Tryd.prog w0 8 #[.slice A n c] (fun v G' => ((1000 < n ∧ ∃ b, v = .tuple #[.agg #[.bool b], .int .i64 9]) ∨ (n ≤ 1000 ∧ ∃ b, v = .tuple #[.agg #[.bool b], .int .i64 0])) ∧ G = G') G := by
  have h := check_Program w0 G A (rulesOf n) c hr (by rw [rulesOf_len]; exact hc) (by rw [rulesOf_len]; omega) (fun r hr => by
    obtain ⟨i, hi, rfl⟩ := List.mem_map.1 hr
    exact ⟨mkR_ok i, Nat.le_of_ble_eq_true rfl⟩)
  rw [rulesOf_len] at h
  refine h.mono ?_
  rintro v G' ⟨rfl, rfl⟩
  refine ⟨?_, rfl⟩
  rcases many_prog hm with ⟨h1, h2⟩ | ⟨h1, h2⟩
  · exact .inl ⟨h1, _, by unfold progV; rw [h2]⟩
  · exact .inr ⟨h1, _, by unfold progV; rw [h2]⟩
theorem many_out (a p q : Nat × Know) (H R G : Hp) : Hs (a :: (H ++ (R ++ (p :: q :: G)))) G :=
  Hs.sub ((((List.Sublist.refl G).cons q).cons p |>.trans (List.sublist_append_right R _)).trans (List.sublist_append_right H _) |>.cons a)
theorem many_hs (a b c d : Nat × Know) (H R : Hp) : Hs ([a, b, c, d] ++ (H ++ R)) (H ++ (b :: R)) :=
  (Hs.sub (G' := b :: (H ++ R)) (((List.Sublist.refl (H ++ R)).cons d |>.cons c).cons_cons b |>.cons a)).trans (Hs.perm List.perm_middle)


theorem law_Many (w0 : World) (G : Hp) (n : Int) : GC Tryd.prog w0 5 #[.int .i64 n] (fun v G' => v = .bool true ∧ G = G') G := by
  refine GC.body (args := [.int .i64 n]) Tryd.func5 rfl (by kernel_rfl) rfl ?_
  refine GW.seq ?_
  refine GW.region ?_
  refine R.assign ⟨rfl, rfl, rfl, rfl⟩ rfl ?_
  refine GOps.nil ?_
  refine GW.seq ?_
  refine GW.cutS 23 (decide (¬ (0 ≤ n ∧ n ≤ 1010 ∧ (n ≤ 20 ∨ 995 ≤ n)))) [(0, .int .i64 n)] ?_ ?_
  · refine R.move ⟨rfl, rfl, rfl, rfl⟩ rfl ?_
    refine R.lss ⟨rfl, rfl, rfl, rfl⟩ rfl rfl ?_   -- lss ['t10', '0']
    refine R.move ⟨rfl, rfl, rfl, rfl⟩ rfl ?_
    refine GOps.caseB 12 rfl (fun hg1 => ?_) (fun hg1 => ?_)
    · try simp only [decide_eq_true_eq, decide_eq_false_iff_not, Bool.not_eq_true', Bool.not_eq_false'] at hg1
      refine GOps.skip rfl rfl rfl ?_
      refine GOps.skip rfl rfl rfl ?_
      refine R.pick_t ⟨rfl, rfl, rfl, rfl⟩ rfl rfl ?_
      refine R.move ⟨rfl, rfl, rfl, rfl⟩ rfl ?_
      refine GOps.skip rfl rfl rfl ?_
      refine GOps.skip rfl rfl rfl ?_
      refine GOps.skip rfl rfl rfl ?_
      refine GOps.skip rfl rfl rfl ?_
      refine GOps.skip rfl rfl rfl ?_
      refine GOps.skip rfl rfl rfl ?_
      refine R.pick_t ⟨rfl, rfl, rfl, rfl⟩ rfl rfl ?_
      refine GOps.nil ?_
      exact ⟨rfl, rfl, by repeat (first | exact Keeps.nil _ | refine Keeps.cons rfl ?_), by first | exact Hs.refl _ | exact Hs.tl _, vbs (by rw [Bool.eq_iff_iff]; simp; omega)⟩
    · try simp only [decide_eq_true_eq, decide_eq_false_iff_not, Bool.not_eq_true', Bool.not_eq_false'] at hg1
      refine R.move ⟨rfl, rfl, rfl, rfl⟩ rfl ?_
      refine R.gtr ⟨rfl, rfl, rfl, rfl⟩ rfl rfl ?_   -- gtr ['t13', '1010']
      refine R.pick_f ⟨rfl, rfl, rfl, rfl⟩ rfl rfl ?_
      refine R.move ⟨rfl, rfl, rfl, rfl⟩ rfl ?_
      refine GOps.caseB 16 rfl (fun hg2 => ?_) (fun hg2 => ?_)
      · try simp only [decide_eq_true_eq, decide_eq_false_iff_not, Bool.not_eq_true', Bool.not_eq_false'] at hg2
        refine GOps.skip rfl rfl rfl ?_
        refine GOps.skip rfl rfl rfl ?_
        refine GOps.skip rfl rfl rfl ?_
        refine GOps.skip rfl rfl rfl ?_
        refine GOps.skip rfl rfl rfl ?_
        refine GOps.skip rfl rfl rfl ?_
        refine R.pick_t ⟨rfl, rfl, rfl, rfl⟩ rfl rfl ?_
        refine GOps.nil ?_
        exact ⟨rfl, rfl, by repeat (first | exact Keeps.nil _ | refine Keeps.cons rfl ?_), by first | exact Hs.refl _ | exact Hs.tl _, vbs (by rw [Bool.eq_iff_iff]; simp; omega)⟩
      · try simp only [decide_eq_true_eq, decide_eq_false_iff_not, Bool.not_eq_true', Bool.not_eq_false'] at hg2
        refine R.move ⟨rfl, rfl, rfl, rfl⟩ rfl ?_
        refine R.gtr ⟨rfl, rfl, rfl, rfl⟩ rfl rfl ?_   -- gtr ['t17', '20']
        refine R.move ⟨rfl, rfl, rfl, rfl⟩ rfl ?_
        refine GOps.caseB 19 rfl (fun hg3 => ?_) (fun hg3 => ?_)
        · try simp only [decide_eq_true_eq, decide_eq_false_iff_not, Bool.not_eq_true', Bool.not_eq_false'] at hg3
          refine R.move ⟨rfl, rfl, rfl, rfl⟩ rfl ?_
          refine R.lss ⟨rfl, rfl, rfl, rfl⟩ rfl rfl ?_   -- lss ['t20', '995']
          refine R.pick_t ⟨rfl, rfl, rfl, rfl⟩ rfl rfl ?_
          refine R.pick_f ⟨rfl, rfl, rfl, rfl⟩ rfl rfl ?_
          refine GOps.nil ?_
          exact ⟨rfl, rfl, by repeat (first | exact Keeps.nil _ | refine Keeps.cons rfl ?_), by first | exact Hs.refl _ | exact Hs.tl _, vbs (by rw [Bool.eq_iff_iff]; simp; omega)⟩
        · try simp only [decide_eq_true_eq, decide_eq_false_iff_not, Bool.not_eq_true', Bool.not_eq_false'] at hg3
          refine GOps.skip rfl rfl rfl ?_
          refine GOps.skip rfl rfl rfl ?_
          refine R.pick_f ⟨rfl, rfl, rfl, rfl⟩ rfl rfl ?_
          refine R.pick_f ⟨rfl, rfl, rfl, rfl⟩ rfl rfl ?_
          refine GOps.nil ?_
          exact ⟨rfl, rfl, by repeat (first | exact Keeps.nil _ | refine Keeps.cons rfl ?_), by first | exact Hs.refl _ | exact Hs.tl _, vbs (by rw [Bool.eq_iff_iff]; simp; omega)⟩
  · refine GW.ite rfl (fun hc4 => ?_) (fun hc4 => ?_)
    · try simp only [decide_eq_true_eq, decide_eq_false_iff_not, Bool.not_eq_true', Bool.not_eq_false'] at hc4
      refine GW.seq ?_
      refine GW.region ?_
      refine R.call ⟨rfl, rfl, rfl, rfl⟩ rfl (vs := []) rfl ((law_known _ _).mono ?_)
      rintro _ _ ⟨rfl, rfl⟩
      refine R.assign ⟨rfl, rfl, rfl, rfl⟩ rfl ?_
      refine GOps.nil ?_
      refine GW.ret (Out.of (Res.one rfl rfl) (by first | exact Hs.refl _ | exact many_out _ _ _ _ _ _) ⟨?_, rfl⟩)
      first | rfl | (exfalso; omega) | (exfalso; simp_all; done) | (exfalso; simp_all; omega)
    · try simp only [decide_eq_true_eq, decide_eq_false_iff_not, Bool.not_eq_true', Bool.not_eq_false'] at hc4
      refine GW.skip ?_
      refine GW.seq ?_
      refine GW.region ?_
      refine R.build (vs := [(0, _), (1, _)]) (cells := (TmC kPT).toArray) ⟨rfl, rfl, rfl, rfl⟩ rfl (fun w => run_build w 35 _ _ (by kernel_rfl)) ?_   -- build 0 type 35
      refine R.build (vs := [(1, _)]) (cells := (SlC kP).toArray) ⟨rfl, rfl, rfl, rfl⟩ rfl (fun w => run_build w 37 _ _ (by kernel_rfl)) ?_   -- build 1 type 37
      refine R.alloc ⟨rfl, rfl, rfl, rfl⟩ Tryd.zeroValue37 fun b3 => ?_
      refine R.storeAll (G1 := []) rfl rfl rfl rfl rfl Tryd.sizeOf37 rfl rfl rfl rfl ?_   -- t3:p
      refine GOps.nil ?_
      refine GW.seq ?_
      refine GW.region ?_
      refine R.build (vs := [(0, _)]) (cells := (SlC (kV kx)).toArray) ⟨rfl, rfl, rfl, rfl⟩ rfl (fun w => run_build w 37 _ _ (by kernel_rfl)) ?_   -- build 2 type 37
      refine R.alloc ⟨rfl, rfl, rfl, rfl⟩ Tryd.zeroValue37 fun b4 => ?_
      refine R.storeAll (G1 := []) rfl rfl rfl rfl rfl Tryd.sizeOf37 rfl rfl rfl rfl ?_   -- t4:v
      refine GOps.nil ?_
      refine GW.seq ?_
      refine GW.region ?_
      refine R.assign ⟨rfl, rfl, rfl, rfl⟩ rfl ?_
      refine GOps.nil ?_
      refine GW.seq ?_
      refine GW.seq ?_
      refine GW.region ?_
      refine R.assign ⟨rfl, rfl, rfl, rfl⟩ rfl ?_
      refine GOps.nil ?_
      refine GW.block ?_
      -- LOOP: live 0:n, 3:p, 4:v, 5:l, 6:i
      refine GW.loop4 (fun (i : Nat) (va : Value) (Ha : Hp) (l : List Nat) => [(0, .int .i64 n), (3, .pointer (some ⟨b3, 0, none⟩)), (4, .pointer (some ⟨b4, 0, none⟩)), (5, va), (6, .int .i64 i)]) (fun (i : Nat) (va : Value) (Ha : Hp) (l : List Nat) => Ha ++ (bodies l ++ (b4, .exact (.cells (SlC (kV kx)).toArray 37 (0, 0))) :: (b3, .exact (.cells (SlC kP).toArray 37 (0, 0))) :: G)) (fun i : Nat => n.toNat - i) (fun (i : Nat) (va : Value) (Ha : Hp) (l : List Nat) => i ≤ n.toNat ∧ l.length = i ∧ SlAt 13 46 (rowsC l) i va Ha) 0 (.slice none 0 0) ([]) ([])
        (by repeat (first | exact Keeps.nil _ | refine Keeps.cons rfl ?_)) (Hs.refl _) (⟨by omega, rfl, .nil rfl rfl⟩) ?_
      rintro i va Ha l ⟨hi, hb, hS⟩
      refine GW.seq ?_
      refine GW.seq ?_
      refine GW.region ?_
      refine R.move ⟨rfl, rfl, rfl, rfl⟩ rfl ?_
      refine R.move ⟨rfl, rfl, rfl, rfl⟩ rfl ?_
      refine R.lss ⟨rfl, rfl, rfl, rfl⟩ rfl rfl ?_   -- lss ['t28', 't29']
      refine GOps.nil ?_
      refine GW.ite rfl (fun hc5 => ?_) (fun hc5 => ?_)
      · try simp only [decide_eq_true_eq, decide_eq_false_iff_not, Bool.not_eq_true', Bool.not_eq_false'] at hc5
        refine GW.skip ?_
        refine GW.seq ?_
        refine GW.block ?_
        refine GW.seq ?_
        refine GW.region ?_
        refine R.move ⟨rfl, rfl, rfl, rfl⟩ rfl ?_
        refine R.quo (r := (((i / 676) : Nat) : Int)) ⟨rfl, rfl, rfl, rfl⟩ rfl rfl (by omega) (q64 _ _ (by omega)) ?_   -- quo ['t33', '676']
        refine R.add (r := (((97 + (i / 676)) : Nat) : Int)) ⟨rfl, rfl, rfl, rfl⟩ rfl rfl (by rw [wrap64_id (by omega) (by omega)]; omega) ?_   -- add ['97', 't34']
        refine R.conv (r := (((97 + (i / 676)) : Nat) : Int)) ⟨rfl, rfl, rfl, rfl⟩ rfl Tryd.underlying3 Tryd.underlying5 (u8w _ (by omega)) ?_
        refine R.move ⟨rfl, rfl, rfl, rfl⟩ rfl ?_
        refine R.quo (r := (((i / 26) : Nat) : Int)) ⟨rfl, rfl, rfl, rfl⟩ rfl rfl (by omega) (q64 _ _ (by omega)) ?_   -- quo ['t37', '26']
        refine R.rem (r := ((((i / 26) % 26) : Nat) : Int)) ⟨rfl, rfl, rfl, rfl⟩ rfl rfl (by omega) (rfl) ?_   -- rem ['t38', '26']
        refine R.add (r := (((97 + ((i / 26) % 26)) : Nat) : Int)) ⟨rfl, rfl, rfl, rfl⟩ rfl rfl (by rw [wrap64_id (by omega) (by omega)]; omega) ?_   -- add ['97', 't39']
        refine R.conv (r := (((97 + ((i / 26) % 26)) : Nat) : Int)) ⟨rfl, rfl, rfl, rfl⟩ rfl Tryd.underlying3 Tryd.underlying5 (u8w _ (by omega)) ?_
        refine R.move ⟨rfl, rfl, rfl, rfl⟩ rfl ?_
        refine R.rem (r := (((i % 26) : Nat) : Int)) ⟨rfl, rfl, rfl, rfl⟩ rfl rfl (by omega) (rfl) ?_   -- rem ['t42', '26']
        refine R.add (r := (((97 + (i % 26)) : Nat) : Int)) ⟨rfl, rfl, rfl, rfl⟩ rfl rfl (by rw [wrap64_id (by omega) (by omega)]; omega) ?_   -- add ['97', 't43']
        refine R.conv (r := (((97 + (i % 26)) : Nat) : Int)) ⟨rfl, rfl, rfl, rfl⟩ rfl Tryd.underlying3 Tryd.underlying5 (u8w _ (by omega)) ?_
        refine R.buildSliceF (sz := 1) (bytes := 1) (vs := [_, _, _]) (cs := [_, _, _]) ⟨rfl, rfl, rfl, rfl⟩ rfl Tryd.underlying38 (InfoE.mk (by kernel_rfl)) rfl rfl rfl rfl rfl fun b46 => ?_   -- build 3 type 38
        refine R.convBytes (l := qL i) ⟨rfl, rfl, rfl, rfl⟩ rfl Tryd.underlying38 Tryd.underlying5 Tryd.underlying9 (rfl) (.own (by repeat (first | exact List.mem_cons_self | apply List.mem_cons_of_mem | apply List.mem_append_right)) 0 _ (fun j v hv => by simpa [qL] using hv)) ?_
        refine R.addS ⟨rfl, rfl, rfl, rfl⟩ rfl rfl (by show 9 + 3 ≤ _; decide) ?_   -- add ['const', 't47']
        refine R.build (vs := [(0, _), (1, _)]) (cells := (TmC ⟨1, kQ ++ strOf (qL i), ByteArray.empty⟩).toArray) ⟨rfl, rfl, rfl, rfl⟩ rfl (fun w => run_build w 35 _ _ (by kernel_rfl)) ?_   -- build 4 type 35
        refine R.build (vs := [(1, _)]) (cells := (SlC (qS i)).toArray) ⟨rfl, rfl, rfl, rfl⟩ rfl (fun w => run_build w 37 _ _ (by kernel_rfl)) ?_   -- build 5 type 37
        refine R.alloc ⟨rfl, rfl, rfl, rfl⟩ Tryd.zeroValue37 fun b7 => ?_
        refine R.storeAll (G1 := []) rfl rfl rfl rfl rfl Tryd.sizeOf37 rfl rfl rfl rfl ?_   -- t7:q
        refine GOps.nil ?_
        refine GW.region ?_
        refine R.move ⟨rfl, rfl, rfl, rfl⟩ rfl ?_
        refine R.load_own (cs := SlC (kV kx)) ⟨rfl, rfl, rfl, rfl⟩ rfl Tryd.underlying37 rfl Tryd.sizeOf37 (by repeat (first | exact List.mem_cons_self | apply List.mem_cons_of_mem | apply List.mem_append_right)) (by rfl) (by rfl) ?_   -- load 0 law.go:81 t4:v
        refine R.load_own (cs := SlC kP) ⟨rfl, rfl, rfl, rfl⟩ rfl Tryd.underlying37 rfl Tryd.sizeOf37 (by repeat (first | exact List.mem_cons_self | apply List.mem_cons_of_mem | apply List.mem_append_right)) (by rfl) (by rfl) ?_   -- load 1 law.go:81 t3:p
        refine R.load_own (cs := SlC (qS i)) ⟨rfl, rfl, rfl, rfl⟩ rfl Tryd.underlying37 rfl Tryd.sizeOf37 (by repeat (first | exact List.mem_cons_self | apply List.mem_cons_of_mem | apply List.mem_append_right)) (by rfl) (by rfl) ?_   -- load 2 law.go:81 t7:q
        refine R.build (vs := [(0, _), (1, _), (2, _)]) (cells := (PtC (mkR i).head).toArray) ⟨rfl, rfl, rfl, rfl⟩ rfl (fun w => run_build w 40 _ _ (by kernel_rfl)) ?_   -- build 6 type 40
        refine R.load_own (cs := SlC (kV kx)) ⟨rfl, rfl, rfl, rfl⟩ rfl Tryd.underlying37 rfl Tryd.sizeOf37 (by repeat (first | exact List.mem_cons_self | apply List.mem_cons_of_mem | apply List.mem_append_right)) (by rfl) (by rfl) ?_   -- load 3 law.go:81 t4:v
        refine R.load_own (cs := SlC kP) ⟨rfl, rfl, rfl, rfl⟩ rfl Tryd.underlying37 rfl Tryd.sizeOf37 (by repeat (first | exact List.mem_cons_self | apply List.mem_cons_of_mem | apply List.mem_append_right)) (by rfl) (by rfl) ?_   -- load 4 law.go:81 t3:p
        refine R.load_own (cs := SlC (kV kx)) ⟨rfl, rfl, rfl, rfl⟩ rfl Tryd.underlying37 rfl Tryd.sizeOf37 (by repeat (first | exact List.mem_cons_self | apply List.mem_cons_of_mem | apply List.mem_append_right)) (by rfl) (by rfl) ?_   -- load 5 law.go:81 t4:v
        refine R.build (vs := [(0, _), (1, _), (2, _)]) (cells := (PtC kM.pat).toArray) ⟨rfl, rfl, rfl, rfl⟩ rfl (fun w => run_build w 40 _ _ (by kernel_rfl)) ?_   -- build 7 type 40
        refine R.build (vs := [(0, _), (1, _)]) (cells := (LtC kM).toArray) ⟨rfl, rfl, rfl, rfl⟩ rfl (fun w => run_build w 43 _ _ (by kernel_rfl)) ?_   -- build 8 type 43
        refine R.buildSliceF (sz := 21) (bytes := 288) (vs := [_]) (cs := LtC kM) ⟨rfl, rfl, rfl, rfl⟩ rfl Tryd.underlying44 (InfoE.mk (by kernel_rfl)) rfl rfl rfl rfl rfl fun b61 => ?_   -- build 9 type 44
        refine R.build (vs := [(0, _), (1, _)]) (cells := (RlC (mkR i).head (.slice (some ⟨b61, 0, none⟩) 1 1)).toArray) ⟨rfl, rfl, rfl, rfl⟩ rfl (fun w => run_build w 46 _ _ (by kernel_rfl)) ?_   -- build 10 type 46
        refine R.buildSliceF (sz := 13) (bytes := 192) (vs := [_]) (cs := RlC (mkR i).head (.slice (some ⟨b61, 0, none⟩) 1 1)) ⟨rfl, rfl, rfl, rfl⟩ rfl Tryd.underlying22 (InfoE.mk (by kernel_rfl)) rfl rfl rfl rfl rfl fun b63 => ?_   -- build 11 type 22
        refine R.append (sz := 13) (bytes := 192) (G1 := [_, _, _, _]) (H := Ha) (news := RlC (mkR i).head (.slice (some ⟨b61, 0, none⟩) 1 1)) ⟨rfl, rfl, rfl, rfl⟩ rfl rfl rfl Tryd.underlying22 (InfoE.mk (by kernel_rfl)) (hS) (rfl) (rfl) (.own (by repeat (first | exact List.mem_cons_self | apply List.mem_cons_of_mem | apply List.mem_append_right)) 0 _ (fun j v hv => by simpa using hv)) (by omega) (by rfl) (by omega) (by omega) fun v64 H64 hv64 => ?_
        refine R.assign ⟨rfl, rfl, rfl, rfl⟩ rfl ?_
        refine GOps.nil ?_
        refine GW.region ?_
        refine R.move ⟨rfl, rfl, rfl, rfl⟩ rfl ?_
        refine R.add (r := (((i + 1) : Nat) : Int)) ⟨rfl, rfl, rfl, rfl⟩ rfl rfl (by rw [wrap64_id (by omega) (by omega)]; omega) ?_   -- add ['t31', '1']
        refine R.assign ⟨rfl, rfl, rfl, rfl⟩ rfl ?_
        refine GOps.nil ?_
        exact ⟨i + 1, v64, H64, b61 :: l, by omega, ⟨by omega, by rw [List.length_cons, hb], by rw [rowsC, hb]; exact hv64⟩, rfl, by repeat (first | exact Keeps.nil _ | refine Keeps.cons rfl ?_), by first | exact Hs.refl _ | exact Hs.tl _ | exact Hs.tl2 _ _ | exact many_hs _ _ _ _ _ _⟩
      · try simp only [decide_eq_true_eq, decide_eq_false_iff_not, Bool.not_eq_true', Bool.not_eq_false'] at hc5
        subst hb
        obtain ⟨A, c, rfl, hcap, hr⟩ := many_at w0 ((b4, .exact (.cells (SlC (kV kx)).toArray 37 (0, 0))) :: (b3, .exact (.cells (SlC kP).toArray 37 (0, 0))) :: G) hS
        generalize hli : l.length = i at *
        refine GW.exit ?_
        refine GW.seq ?_
        refine GW.region ?_
        refine R.move ⟨rfl, rfl, rfl, rfl⟩ rfl ?_
        refine R.call ⟨rfl, rfl, rfl, rfl⟩ rfl (vs := [_]) rfl ((many_check _ _ A i c hr hcap (by omega)).mono ?_)
        rintro _ _ ⟨⟨h10, b0, rfl⟩ | ⟨h10, b0, rfl⟩, rfl⟩
        · refine R.move ⟨rfl, rfl, rfl, rfl⟩ rfl ?_
          refine R.extract ⟨rfl, rfl, rfl, rfl⟩ rfl rfl ?_
          refine R.extract ⟨rfl, rfl, rfl, rfl⟩ rfl rfl ?_
          refine R.alloc ⟨rfl, rfl, rfl, rfl⟩ Tryd.zeroValue26 fun b8 => ?_
          refine R.storeAll (G1 := []) rfl rfl rfl rfl rfl Tryd.sizeOf26 rfl rfl rfl rfl ?_   -- t8:_
          refine R.assign ⟨rfl, rfl, rfl, rfl⟩ rfl ?_
          refine GOps.nil ?_
          refine GW.seq ?_
          refine GW.region ?_
          refine R.move ⟨rfl, rfl, rfl, rfl⟩ rfl ?_
          refine R.eqI ⟨rfl, rfl, rfl, rfl⟩ rfl rfl ?_   -- eql ['t70', '9']
          refine R.move ⟨rfl, rfl, rfl, rfl⟩ rfl ?_
          refine R.gtr ⟨rfl, rfl, rfl, rfl⟩ rfl rfl ?_   -- gtr ['t72', '1000']
          refine R.eqB ⟨rfl, rfl, rfl, rfl⟩ rfl rfl Tryd.underlying4 ?_   -- eql ['t71', 't73']
          refine R.move ⟨rfl, rfl, rfl, rfl⟩ rfl ?_
          refine GOps.caseB 75 rfl (fun hg6 => ?_) (fun hg6 => ?_)
          · try simp only [decide_eq_true_eq, decide_eq_false_iff_not, Bool.not_eq_true', Bool.not_eq_false'] at hg6
            refine R.move ⟨rfl, rfl, rfl, rfl⟩ rfl ?_
            refine R.eqI ⟨rfl, rfl, rfl, rfl⟩ rfl rfl ?_   -- eql ['t76', '0']
            refine R.move ⟨rfl, rfl, rfl, rfl⟩ rfl ?_
            refine R.leq ⟨rfl, rfl, rfl, rfl⟩ rfl rfl ?_   -- leq ['t78', '1000']
            refine R.eqB ⟨rfl, rfl, rfl, rfl⟩ rfl rfl Tryd.underlying4 ?_   -- eql ['t77', 't79']
            refine R.pick_t ⟨rfl, rfl, rfl, rfl⟩ rfl rfl ?_
            refine R.move ⟨rfl, rfl, rfl, rfl⟩ rfl ?_
            refine GOps.caseB 82 rfl (fun hg7 => ?_) (fun hg7 => ?_)
            · try simp only [decide_eq_true_eq, decide_eq_false_iff_not, Bool.not_eq_true', Bool.not_eq_false'] at hg7
              refine R.call ⟨rfl, rfl, rfl, rfl⟩ rfl (vs := []) rfl ((law_known _ _).mono ?_)
              rintro _ _ ⟨rfl, rfl⟩
              refine R.pick_t ⟨rfl, rfl, rfl, rfl⟩ rfl rfl ?_
              refine R.assign ⟨rfl, rfl, rfl, rfl⟩ rfl ?_
              refine GOps.nil ?_
              refine GW.ret (Out.of (Res.one rfl rfl) (by first | exact Hs.refl _ | exact many_out _ _ _ _ _ _) ⟨?_, rfl⟩)
              first | rfl | (exfalso; omega) | (exfalso; simp_all; done) | (exfalso; simp_all; omega)
            · try simp only [decide_eq_true_eq, decide_eq_false_iff_not, Bool.not_eq_true', Bool.not_eq_false'] at hg7
              refine GOps.skip rfl rfl rfl ?_
              refine R.pick_f ⟨rfl, rfl, rfl, rfl⟩ rfl rfl ?_
              refine R.assign ⟨rfl, rfl, rfl, rfl⟩ rfl ?_
              refine GOps.nil ?_
              refine GW.ret (Out.of (Res.one rfl rfl) (by first | exact Hs.refl _ | exact many_out _ _ _ _ _ _) ⟨?_, rfl⟩)
              first | rfl | (exfalso; omega) | (exfalso; simp_all; done) | (exfalso; simp_all; omega)
          · try simp only [decide_eq_true_eq, decide_eq_false_iff_not, Bool.not_eq_true', Bool.not_eq_false'] at hg6
            refine GOps.skip rfl rfl rfl ?_
            refine GOps.skip rfl rfl rfl ?_
            refine GOps.skip rfl rfl rfl ?_
            refine GOps.skip rfl rfl rfl ?_
            refine GOps.skip rfl rfl rfl ?_
            refine R.pick_f ⟨rfl, rfl, rfl, rfl⟩ rfl rfl ?_
            refine R.move ⟨rfl, rfl, rfl, rfl⟩ rfl ?_
            refine GOps.skip rfl rfl rfl ?_
            refine R.pick_f ⟨rfl, rfl, rfl, rfl⟩ rfl rfl ?_
            refine R.assign ⟨rfl, rfl, rfl, rfl⟩ rfl ?_
            refine GOps.nil ?_
            refine GW.ret (Out.of (Res.one rfl rfl) (by first | exact Hs.refl _ | exact many_out _ _ _ _ _ _) ⟨?_, rfl⟩)
            first | rfl | (exfalso; omega) | (exfalso; simp_all; done) | (exfalso; simp_all; omega)
        · refine R.move ⟨rfl, rfl, rfl, rfl⟩ rfl ?_
          refine R.extract ⟨rfl, rfl, rfl, rfl⟩ rfl rfl ?_
          refine R.extract ⟨rfl, rfl, rfl, rfl⟩ rfl rfl ?_
          refine R.alloc ⟨rfl, rfl, rfl, rfl⟩ Tryd.zeroValue26 fun b8 => ?_
          refine R.storeAll (G1 := []) rfl rfl rfl rfl rfl Tryd.sizeOf26 rfl rfl rfl rfl ?_   -- t8:_
          refine R.assign ⟨rfl, rfl, rfl, rfl⟩ rfl ?_
          refine GOps.nil ?_
          refine GW.seq ?_
          refine GW.region ?_
          refine R.move ⟨rfl, rfl, rfl, rfl⟩ rfl ?_
          refine R.eqI ⟨rfl, rfl, rfl, rfl⟩ rfl rfl ?_   -- eql ['t70', '9']
          refine R.move ⟨rfl, rfl, rfl, rfl⟩ rfl ?_
          refine R.gtr ⟨rfl, rfl, rfl, rfl⟩ rfl rfl ?_   -- gtr ['t72', '1000']
          refine R.eqB ⟨rfl, rfl, rfl, rfl⟩ rfl rfl Tryd.underlying4 ?_   -- eql ['t71', 't73']
          refine R.move ⟨rfl, rfl, rfl, rfl⟩ rfl ?_
          refine GOps.caseB 75 rfl (fun hg8 => ?_) (fun hg8 => ?_)
          · try simp only [decide_eq_true_eq, decide_eq_false_iff_not, Bool.not_eq_true', Bool.not_eq_false'] at hg8
            refine R.move ⟨rfl, rfl, rfl, rfl⟩ rfl ?_
            refine R.eqI ⟨rfl, rfl, rfl, rfl⟩ rfl rfl ?_   -- eql ['t76', '0']
            refine R.move ⟨rfl, rfl, rfl, rfl⟩ rfl ?_
            refine R.leq ⟨rfl, rfl, rfl, rfl⟩ rfl rfl ?_   -- leq ['t78', '1000']
            refine R.eqB ⟨rfl, rfl, rfl, rfl⟩ rfl rfl Tryd.underlying4 ?_   -- eql ['t77', 't79']
            refine R.pick_t ⟨rfl, rfl, rfl, rfl⟩ rfl rfl ?_
            refine R.move ⟨rfl, rfl, rfl, rfl⟩ rfl ?_
            refine GOps.caseB 82 rfl (fun hg9 => ?_) (fun hg9 => ?_)
            · try simp only [decide_eq_true_eq, decide_eq_false_iff_not, Bool.not_eq_true', Bool.not_eq_false'] at hg9
              refine R.call ⟨rfl, rfl, rfl, rfl⟩ rfl (vs := []) rfl ((law_known _ _).mono ?_)
              rintro _ _ ⟨rfl, rfl⟩
              refine R.pick_t ⟨rfl, rfl, rfl, rfl⟩ rfl rfl ?_
              refine R.assign ⟨rfl, rfl, rfl, rfl⟩ rfl ?_
              refine GOps.nil ?_
              refine GW.ret (Out.of (Res.one rfl rfl) (by first | exact Hs.refl _ | exact many_out _ _ _ _ _ _) ⟨?_, rfl⟩)
              first | rfl | (exfalso; omega) | (exfalso; simp_all; done) | (exfalso; simp_all; omega)
            · try simp only [decide_eq_true_eq, decide_eq_false_iff_not, Bool.not_eq_true', Bool.not_eq_false'] at hg9
              refine GOps.skip rfl rfl rfl ?_
              refine R.pick_f ⟨rfl, rfl, rfl, rfl⟩ rfl rfl ?_
              refine R.assign ⟨rfl, rfl, rfl, rfl⟩ rfl ?_
              refine GOps.nil ?_
              refine GW.ret (Out.of (Res.one rfl rfl) (by first | exact Hs.refl _ | exact many_out _ _ _ _ _ _) ⟨?_, rfl⟩)
              first | rfl | (exfalso; omega) | (exfalso; simp_all; done) | (exfalso; simp_all; omega)
          · try simp only [decide_eq_true_eq, decide_eq_false_iff_not, Bool.not_eq_true', Bool.not_eq_false'] at hg8
            refine GOps.skip rfl rfl rfl ?_
            refine GOps.skip rfl rfl rfl ?_
            refine GOps.skip rfl rfl rfl ?_
            refine GOps.skip rfl rfl rfl ?_
            refine GOps.skip rfl rfl rfl ?_
            refine R.pick_f ⟨rfl, rfl, rfl, rfl⟩ rfl rfl ?_
            refine R.move ⟨rfl, rfl, rfl, rfl⟩ rfl ?_
            refine GOps.skip rfl rfl rfl ?_
            refine R.pick_f ⟨rfl, rfl, rfl, rfl⟩ rfl rfl ?_
            refine R.assign ⟨rfl, rfl, rfl, rfl⟩ rfl ?_
            refine GOps.nil ?_
            refine GW.ret (Out.of (Res.one rfl rfl) (by first | exact Hs.refl _ | exact many_out _ _ _ _ _ _) ⟨?_, rfl⟩)
            first | rfl | (exfalso; omega) | (exfalso; simp_all; done) | (exfalso; simp_all; omega)

end Go.Proofs.YtgjmandjhjfgkaaDoor.Gl
