import Derived.Test.YtgjmandjhjfgkaaDoorU2
namespace Go.Proofs.YtgjmandjhjfgkaaDoor.Gl
open Go.RowKit Go.Shelf
set_option linter.unusedVariables false
set_option linter.unnecessarySimpa false
set_option linter.unusedSimpArgs false
attribute [-simp] List.getD_eq_getElem?_getD


theorem idx_Rule (w0 : World) (G : Hp) (A : Option Addr) (rs : List Rl) (c : Nat) (k : FuncId) (cap : Array Value) (p : Rl → Bool) (hr : RlsAt w0 G A rs) (hm : rs.length ≤ 1048576)
    (hf : ∀ o A c, o ∈ rs → LtsAt w0 G A o.body → GC Tryd.prog w0 k (#[] ++ [Value.agg (RlC o.head (.slice A o.body.length c)).toArray].toArray ++ cap) (fun v G' => v = .bool (p o) ∧ G = G') G) :
    GC Tryd.prog w0 21 #[.slice A rs.length c, .func (.func k) #[] cap] (fun v G' => ∃ r : Int, v = .int .i64 r ∧ decide (r ≥ 0) = rs.any p ∧ G = G') G := by
  refine GC.body (args := [.slice A rs.length c, .func (.func k) #[] cap]) Tryd.func21 rfl (by kernel_rfl) rfl ?_
  refine GW.seq ?_
  refine GW.region ?_
  refine R.assign ⟨rfl, rfl, rfl, rfl⟩ rfl ?_
  refine GOps.nil ?_
  refine GW.seq ?_
  refine GW.seq ?_
  refine GW.region ?_
  refine R.move ⟨rfl, rfl, rfl, rfl⟩ rfl ?_
  refine R.lenS ⟨rfl, rfl, rfl, rfl⟩ rfl rfl Tryd.underlying22 ?_
  refine R.move ⟨rfl, rfl, rfl, rfl⟩ rfl ?_
  refine GOps.nil ?_
  refine GW.block ?_
  -- LOOP: live 0:s, 1:f, 7, 8
  refine GW.loopI (fun i : Nat => [(0, .slice A rs.length c), (1, .func (.func k) #[] cap), (7, .int .i64 rs.length), (8, .int .i64 i)]) (fun i => G) (fun i => rs.length - i) (fun i => i ≤ rs.length ∧ (rs.take i).any p = false) 0
    (by repeat (first | exact Keeps.nil _ | refine Keeps.cons rfl ?_)) (Hs.refl _) (⟨by omega, by simp⟩) ?_
  rintro i ⟨hi, h0⟩
  refine GW.seq ?_
  refine GW.region ?_
  refine R.lss ⟨rfl, rfl, rfl, rfl⟩ rfl rfl ?_   -- lss ['t8', 't7']
  refine GOps.nil ?_
  refine GW.seq ?_
  refine GW.ite rfl (fun hc1 => ?_) (fun hc1 => ?_)
  · try simp only [decide_eq_true_eq, decide_eq_false_iff_not, Bool.not_eq_true', Bool.not_eq_false'] at hc1
    obtain ⟨x, hx⟩ : ∃ x, rs[i]? = some x := ⟨_, List.getElem?_eq_getElem (by omega)⟩
    obtain ⟨b, f, cs, rfl, ⟨A', c', rfl, hl', hm', hls⟩, hrd⟩ := hr i x hx
    refine GW.skip ?_
    refine GW.seq ?_
    refine GW.block ?_
    refine GW.seq ?_
    refine GW.region ?_
    refine R.move ⟨rfl, rfl, rfl, rfl⟩ rfl ?_
    refine R.assign ⟨rfl, rfl, rfl, rfl⟩ rfl ?_
    refine GOps.nil ?_
    refine GW.seq ?_
    refine GW.region ?_
    refine R.move ⟨rfl, rfl, rfl, rfl⟩ rfl ?_
    refine R.move ⟨rfl, rfl, rfl, rfl⟩ rfl ?_
    refine R.move ⟨rfl, rfl, rfl, rfl⟩ rfl ?_
    refine R.indexAddrS ⟨rfl, rfl, rfl, rfl⟩ rfl rfl Tryd.underlying22 Tryd.sizeOf46 (by omega) (by omega) ?_   -- ['t12', 't13']
    refine R.loadA ⟨rfl, rfl, rfl, rfl⟩ rfl Tryd.underlying46 rfl Tryd.sizeOf46 (hrd) (by rfl) ?_   -- load 0 slices.go:109
    refine R.call ⟨rfl, rfl, rfl, rfl⟩ rfl (vs := [_]) rfl ((hf x A' c' (List.mem_of_getElem? hx) hls).mono ?_)
    rintro _ _ ⟨rfl, rfl⟩
    refine GOps.nil ?_
    refine GW.ite rfl (fun hc2 => ?_) (fun hc2 => ?_)
    · try simp only [decide_eq_true_eq, decide_eq_false_iff_not, Bool.not_eq_true', Bool.not_eq_false'] at hc2
      refine GW.seq ?_
      refine GW.region ?_
      refine R.move ⟨rfl, rfl, rfl, rfl⟩ rfl ?_
      refine R.assign ⟨rfl, rfl, rfl, rfl⟩ rfl ?_
      refine GOps.nil ?_
      first | exact GW.ret (Out.of (Res.one rfl rfl) (Hs.refl _) ⟨_, rfl, by rw [any_of_get p rs i x hx (by assumption)]; exact decide_eq_true (by omega), rfl⟩) | exact GW.ret (Out.of (Res.one rfl rfl) (Hs.refl _) ⟨_, rfl, by rw [any_of_take p rs i (by omega) h0]; rfl, rfl⟩)
    · try simp only [decide_eq_true_eq, decide_eq_false_iff_not, Bool.not_eq_true', Bool.not_eq_false'] at hc2
      refine GW.skip ?_
      refine GW.region ?_
      refine R.add (r := (((i + 1) : Nat) : Int)) ⟨rfl, rfl, rfl, rfl⟩ rfl rfl (by rw [wrap64_id (by omega) (by omega)]; omega) ?_   -- add ['t8', '1']
      refine R.move ⟨rfl, rfl, rfl, rfl⟩ rfl ?_
      refine GOps.nil ?_
      exact ⟨i + 1, by omega, ⟨by omega, any_take_succ p rs i x hx h0 (by assumption)⟩, rfl, by repeat (first | exact Keeps.nil _ | refine Keeps.cons rfl ?_), by first | exact Hs.refl _ | exact Hs.tl _ | exact Hs.tl2 _ _⟩
  · try simp only [decide_eq_true_eq, decide_eq_false_iff_not, Bool.not_eq_true', Bool.not_eq_false'] at hc1
    refine GW.exit ?_
    refine GW.seq ?_
    refine GW.region ?_
    refine R.assign ⟨rfl, rfl, rfl, rfl⟩ rfl ?_
    refine GOps.nil ?_
    first | exact GW.ret (Out.of (Res.one rfl rfl) (Hs.refl _) ⟨_, rfl, by rw [any_of_get p rs i x hx (by assumption)]; exact decide_eq_true (by omega), rfl⟩) | exact GW.ret (Out.of (Res.one rfl rfl) (Hs.refl _) ⟨_, rfl, by rw [any_of_take p rs i (by omega) h0]; rfl, rfl⟩)

theorem has_Rule (w0 : World) (G : Hp) (A : Option Addr) (rs : List Rl) (c : Nat) (k : FuncId) (cap : Array Value) (p : Rl → Bool) (hr : RlsAt w0 G A rs) (hm : rs.length ≤ 1048576)
    (hf : ∀ o A c, o ∈ rs → LtsAt w0 G A o.body → GC Tryd.prog w0 k (#[] ++ [Value.agg (RlC o.head (.slice A o.body.length c)).toArray].toArray ++ cap) (fun v G' => v = .bool (p o) ∧ G = G') G) :
    GC Tryd.prog w0 14 #[.slice A rs.length c, .func (.func k) #[] cap] (fun v G' => v = .bool (rs.any p) ∧ G = G') G := by
  refine GC.body (args := [.slice A rs.length c, .func (.func k) #[] cap]) Tryd.func14 rfl (by kernel_rfl) rfl ?_
  refine GW.seq ?_
  refine GW.region ?_
  refine R.assign ⟨rfl, rfl, rfl, rfl⟩ rfl ?_
  refine GOps.nil ?_
  refine GW.seq ?_
  refine GW.region ?_
  refine R.move ⟨rfl, rfl, rfl, rfl⟩ rfl ?_
  refine R.move ⟨rfl, rfl, rfl, rfl⟩ rfl ?_
  refine R.call ⟨rfl, rfl, rfl, rfl⟩ rfl (vs := [_, _]) rfl ((idx_Rule _ _ _ _ _ _ _ p hr hm hf).mono ?_)
  rintro _ _ ⟨r, rfl, hr, rfl⟩
  refine R.geq ⟨rfl, rfl, rfl, rfl⟩ rfl rfl ?_   -- geq ['t7', '0']
  refine R.assign ⟨rfl, rfl, rfl, rfl⟩ rfl ?_
  refine GOps.nil ?_
  refine GW.ret (Out.of (Res.one rfl rfl) (by first | exact Hs.refl _ | exact Hs.tl _ | exact Hs.tl2 _ _ | exact Hs.tl3 _ _ _ | exact (Hs.app _).trans (Hs.tl _) | exact (Hs.app _).trans ((Hs.app _).trans (Hs.tl _))) ⟨?_, rfl⟩)
  rw [← hr]

theorem Program1 (w0 : World) (G : Hp) (o r : Rl) (A B : Option Addr) (c e b : Nat) (ho : LtsAt w0 G A o.body) (hr : LtsAt w0 G B r.body) (hmo : o.body.length ≤ 1048576) (hmr : r.body.length ≤ 1048576) (hb : Rds w0 G b 0 (RlC r.head (.slice B r.body.length e))) : GC Tryd.prog w0 15 (#[] ++ [Value.agg (RlC o.head (.slice A o.body.length c)).toArray].toArray ++ #[.pointer (some ⟨b, 0, none⟩)]) (fun v G' => v = .bool (sameRl o r) ∧ G = G') G := by
  refine GC.body (args := [.agg (RlC o.head (.slice A o.body.length c)).toArray, .pointer (some ⟨b, 0, none⟩)]) Tryd.func15 rfl (by kernel_rfl) rfl ?_
  refine GW.seq ?_
  refine GW.region ?_
  refine R.box ⟨rfl, rfl, rfl, rfl⟩ rfl fun b2 => ?_   -- type 46
  refine R.assign ⟨rfl, rfl, rfl, rfl⟩ rfl ?_
  refine GOps.nil ?_
  refine GW.seq ?_
  refine GW.region ?_
  refine R.load_own (cs := RlC o.head (.slice A o.body.length c)) ⟨rfl, rfl, rfl, rfl⟩ rfl Tryd.underlying46 rfl Tryd.sizeOf46 (by repeat (first | exact List.mem_cons_self | apply List.mem_cons_of_mem | apply List.mem_append_right)) (by rfl) (by rfl) ?_   -- load 0 check.go:98 t2:o
  refine R.loadA ⟨rfl, rfl, rfl, rfl⟩ rfl Tryd.underlying46 rfl Tryd.sizeOf46 (Rds.mono (sub_cons _) hb) (by rfl) ?_   -- load 1 check.go:98
  refine R.call ⟨rfl, rfl, rfl, rfl⟩ rfl (vs := [_, _]) rfl ((rules_Same _ _ o r A B c e (ho.mono (sub_cons _)) (hr.mono (sub_cons _)) hmo hmr).mono ?_)
  rintro _ _ ⟨rfl, rfl⟩
  refine R.assign ⟨rfl, rfl, rfl, rfl⟩ rfl ?_
  refine GOps.nil ?_
  refine GW.ret (Out.of (Res.one rfl rfl) (by first | exact Hs.refl _ | exact Hs.tl _ | exact Hs.tl2 _ _ | exact Hs.tl3 _ _ _ | exact (Hs.app _).trans (Hs.tl _) | exact (Hs.app _).trans ((Hs.app _).trans (Hs.tl _))) ⟨?_, rfl⟩)
  rfl

theorem law_few (w0 : World) (G : Hp) (A : Option Addr) (rs : List Rl) (c : Nat) (hr : RlsAt w0 G A rs) (hm : rs.length ≤ 1048576) : GC Tryd.prog w0 6 #[.slice A rs.length c] (fun v G' => v = .bool (rs.all (fun r => decide (r.body.length ≤ 40)) && decide (rs.length ≤ 30)) ∧ G = G') G := by
  refine GC.body (args := [.slice A rs.length c]) Tryd.func6 rfl (by kernel_rfl) rfl ?_
  refine GW.seq ?_
  refine GW.region ?_
  refine R.assign ⟨rfl, rfl, rfl, rfl⟩ rfl ?_
  refine GOps.nil ?_
  refine GW.seq ?_
  refine GW.seq ?_
  refine GW.region ?_
  refine R.assign ⟨rfl, rfl, rfl, rfl⟩ rfl ?_
  refine GOps.nil ?_
  refine GW.block ?_
  -- LOOP: live 0:l, 3:i
  refine GW.loopI (fun i : Nat => [(0, .slice A rs.length c), (3, .int .i64 i)]) (fun i => G) (fun i => rs.length - i) (fun i => i ≤ rs.length ∧ (rs.take i).all (fun r => decide (r.body.length ≤ 40)) = true) 0
    (by repeat (first | exact Keeps.nil _ | refine Keeps.cons rfl ?_)) (Hs.refl _) (⟨by omega, by simp⟩) ?_
  rintro i ⟨hi, h0⟩
  refine GW.seq ?_
  refine GW.seq ?_
  refine GW.region ?_
  refine R.move ⟨rfl, rfl, rfl, rfl⟩ rfl ?_
  refine R.move ⟨rfl, rfl, rfl, rfl⟩ rfl ?_
  refine R.lenS ⟨rfl, rfl, rfl, rfl⟩ rfl rfl Tryd.underlying22 ?_
  refine R.lss ⟨rfl, rfl, rfl, rfl⟩ rfl rfl ?_   -- lss ['t4', 't6']
  refine GOps.nil ?_
  refine GW.ite rfl (fun hc1 => ?_) (fun hc1 => ?_)
  · try simp only [decide_eq_true_eq, decide_eq_false_iff_not, Bool.not_eq_true', Bool.not_eq_false'] at hc1
    obtain ⟨x, hx⟩ : ∃ x, rs[i]? = some x := ⟨_, List.getElem?_eq_getElem (by omega)⟩
    obtain ⟨b, f, cs, rfl, ⟨A', c', rfl, hl', hm', hls⟩, hrd⟩ := hr i x hx
    refine GW.skip ?_
    refine GW.seq ?_
    refine GW.block ?_
    refine GW.seq ?_
    refine GW.region ?_
    refine R.move ⟨rfl, rfl, rfl, rfl⟩ rfl ?_
    refine R.move ⟨rfl, rfl, rfl, rfl⟩ rfl ?_
    refine R.indexAddrS ⟨rfl, rfl, rfl, rfl⟩ rfl rfl Tryd.underlying22 Tryd.sizeOf46 (by omega) (by omega) ?_   -- ['t10', 't11']
    refine R.fieldAddr ⟨rfl, rfl, rfl, rfl⟩ rfl Tryd.underlying46 rfl Tryd.sizeOf44 ?_   -- "Body"
    refine R.load1 ⟨rfl, rfl, rfl, rfl⟩ rfl Tryd.underlying44 rfl (hrd 12 _ rfl) ?_   -- load 0 law.go:23
    refine R.lenS ⟨rfl, rfl, rfl, rfl⟩ rfl rfl Tryd.underlying44 ?_
    refine R.gtr ⟨rfl, rfl, rfl, rfl⟩ rfl rfl ?_   -- gtr ['t15', '40']
    refine GOps.nil ?_
    refine GW.ite rfl (fun hc2 => ?_) (fun hc2 => ?_)
    · try simp only [decide_eq_true_eq, decide_eq_false_iff_not, Bool.not_eq_true', Bool.not_eq_false'] at hc2
      refine GW.seq ?_
      refine GW.region ?_
      refine R.assign ⟨rfl, rfl, rfl, rfl⟩ rfl ?_
      refine GOps.nil ?_
      refine GW.ret (Out.of (Res.one rfl rfl) (by first | exact Hs.refl _ | exact Hs.tl _ | exact Hs.tl2 _ _ | exact Hs.tl3 _ _ _ | exact (Hs.app _).trans (Hs.tl _) | exact (Hs.app _).trans ((Hs.app _).trans (Hs.tl _))) ⟨?_, rfl⟩)
      refine vb ?_; first | (rw [all_of_get _ rs i x hx (decide_eq_false (by omega))]; rfl) | (rw [all_of_take _ rs i (by omega) h0, Bool.true_and, Bool.eq_iff_iff]; simp; try omega)
    · try simp only [decide_eq_true_eq, decide_eq_false_iff_not, Bool.not_eq_true', Bool.not_eq_false'] at hc2
      refine GW.skip ?_
      refine GW.region ?_
      refine R.move ⟨rfl, rfl, rfl, rfl⟩ rfl ?_
      refine R.add (r := (((i + 1) : Nat) : Int)) ⟨rfl, rfl, rfl, rfl⟩ rfl rfl (by rw [wrap64_id (by omega) (by omega)]; omega) ?_   -- add ['t8', '1']
      refine R.assign ⟨rfl, rfl, rfl, rfl⟩ rfl ?_
      refine GOps.nil ?_
      exact ⟨i + 1, by omega, ⟨by omega, all_take_succ _ rs i x hx h0 (decide_eq_true (by omega))⟩, rfl, by repeat (first | exact Keeps.nil _ | refine Keeps.cons rfl ?_), by first | exact Hs.refl _ | exact Hs.tl _ | exact Hs.tl2 _ _⟩
  · try simp only [decide_eq_true_eq, decide_eq_false_iff_not, Bool.not_eq_true', Bool.not_eq_false'] at hc1
    refine GW.exit ?_
    refine GW.seq ?_
    refine GW.region ?_
    refine R.move ⟨rfl, rfl, rfl, rfl⟩ rfl ?_
    refine R.lenS ⟨rfl, rfl, rfl, rfl⟩ rfl rfl Tryd.underlying22 ?_
    refine R.leq ⟨rfl, rfl, rfl, rfl⟩ rfl rfl ?_   -- leq ['t18', '30']
    refine R.assign ⟨rfl, rfl, rfl, rfl⟩ rfl ?_
    refine GOps.nil ?_
    refine GW.ret (Out.of (Res.one rfl rfl) (by first | exact Hs.refl _ | exact Hs.tl _ | exact Hs.tl2 _ _ | exact Hs.tl3 _ _ _ | exact (Hs.app _).trans (Hs.tl _) | exact (Hs.app _).trans ((Hs.app _).trans (Hs.tl _))) ⟨?_, rfl⟩)
    refine vb ?_; first | (rw [all_of_get _ rs i x hx (decide_eq_false (by omega))]; rfl) | (rw [all_of_take _ rs i (by omega) h0, Bool.true_and, Bool.eq_iff_iff]; simp; try omega)

end Go.Proofs.YtgjmandjhjfgkaaDoor.Gl
