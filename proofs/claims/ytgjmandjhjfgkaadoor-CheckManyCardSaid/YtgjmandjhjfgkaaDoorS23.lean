/- CheckParts: the walk. -/
import Derived.Test.YtgjmandjhjfgkaaDoorS22
namespace Go.Proofs.YtgjmandjhjfgkaaDoor.Gl
open Go.RowKit Go.Shelf
set_option linter.unusedVariables false
set_option linter.unnecessarySimpa false
set_option linter.unusedSimpArgs false
attribute [-simp] List.getD_eq_getElem?_getD



/-! ### a piece of a program -/
def piece (rs : List Rl) (i j : Int) : List Rl := (rs.take j.toNat).drop i.toNat
theorem piece_mem {rs : List Rl} {i j : Int} {r : Rl} (h : r ∈ piece rs i j) : r ∈ rs := List.mem_of_mem_take (List.mem_of_mem_drop h)
theorem piece_get {rs : List Rl} {i j : Int} {k : Nat} {r : Rl} (h : (piece rs i j)[k]? = some r) : rs[i.toNat + k]? = some r := by
  unfold piece at h
  rw [List.getElem?_drop] at h
  have hlt := (List.getElem?_eq_some_iff.1 h).1
  rw [List.length_take] at hlt
  rwa [List.getElem?_take_of_lt (by omega)] at h
theorem piece_len {rs : List Rl} {i j : Int} (h : j ≤ rs.length) : (piece rs i j).length = j.toNat - i.toNat := by
  unfold piece
  rw [List.length_drop, List.length_take]
  omega
theorem any_false_sub {p : Rl → Bool} {xs ys : List Rl} (h : ∀ x ∈ xs, x ∈ ys) (hy : ys.any p = false) : xs.any p = false := by
  rw [List.any_eq_false] at hy ⊢
  exact fun x hx => hy x (h x hx)
theorem firstE_ne : ∀ (rs : List Rl), rs.all zE = false → firstE rs ≠ 0
  | [], h => by simp at h
  | r :: rs, h => by
    unfold firstE
    cases hz : zE r with
    | true =>
      rw [List.all_cons, hz, Bool.true_and] at h
      exact firstE_ne rs h
    | false =>
      simp only [cond_false]
      exact of_decide_eq_false hz
theorem allTo_all {f : Nat → Bool} {n : Nat} (h : ∀ k, k < n → f k = true) : allTo f n = true := by
  induction n with
  | zero => rfl
  | succ n ih => exact allTo_succ (ih fun k hk => h k (by omega)) (h n (by omega))
theorem allTo_at {f : Nat → Bool} {n k : Nat} (h : allTo f n = true) (hk : k < n) : f k = true := by
  cases e : f k with
  | true => rfl
  | false => rw [allTo_false hk e] at h; cases h
theorem prog_parts {rs : List Rl} (h : progE rs = 0) : rs.all zE = true ∧ (negates rs && rs.any badRule) = false ∧ noDup rs = true ∧ rs.length ≤ 1000 := by
  cases hE : rs.all zE with
  | false => exact absurd (by unfold progE at h; rw [hE] at h; exact h) (firstE_ne rs hE)
  | true =>
    cases hb : (negates rs && rs.any badRule) with
    | true => unfold progE at h; rw [hE, hb] at h; cases h
    | false =>
      cases hd : noDup rs with
      | false => rw [prog_8 hE hb hd] at h; cases h
      | true =>
        refine ⟨rfl, rfl, rfl, ?_⟩
        rcases Nat.lt_or_ge 1000 rs.length with hl | hl
        · rw [prog_9 hE hb hd hl] at h; cases h
        · exact hl
theorem negates_false_sub {xs ys : List Rl} (h : ∀ x ∈ xs, x ∈ ys) (hy : negates ys = false) : negates xs = false := any_false_sub h hy
theorem piece_prog {rs : List Rl} {i j : Int} (h : progE rs = 0) : progE (piece rs i j) = 0 := by
  obtain ⟨h1, h2, h3, h4⟩ := prog_parts h
  refine prog_0 ?_ ?_ ?_ ?_
  · rw [List.all_eq_true] at h1 ⊢
    exact fun x hx => h1 x (piece_mem hx)
  · cases hn : negates rs with
    | false => rw [negates_false_sub (fun x hx => piece_mem hx) hn]; rfl
    | true => rw [hn, Bool.true_and] at h2; rw [any_false_sub (fun x hx => piece_mem hx) h2, Bool.and_false]
  · refine allTo_all fun k hk => allTo_all fun l hl => ?_
    obtain ⟨x, hx⟩ : ∃ x, (piece rs i j)[k]? = some x := ⟨_, List.getElem?_eq_getElem hk⟩
    obtain ⟨y, hy⟩ : ∃ y, (piece rs i j)[l]? = some y := ⟨_, List.getElem?_eq_getElem (by omega)⟩
    have hx' := piece_get hx
    have hy' := piece_get hy
    have hkl : i.toNat + k < rs.length := (List.getElem?_eq_some_iff.1 hx').1
    have h5 : noSame rs (i.toNat + k) = true := allTo_at h3 hkl
    have h6 := allTo_at h5 (k := i.toNat + l) (by omega)
    rw [sameAt_of hx' hy'] at h6
    rw [sameAt_of hx hy]
    exact h6
  · have : (piece rs i j).length ≤ rs.length := by unfold piece; rw [List.length_drop, List.length_take]; omega
    omega
theorem piece_val {rs : List Rl} {i j : Int} (h : progE rs = 0) : progV (piece rs i j) = .tuple #[.agg #[.bool (!negates (piece rs i j))], .int .i64 0] := by
  unfold progV; rw [piece_prog h]; rfl
theorem piece_check (w0 : World) (G : Hp) (A : Option Addr) (rs : List Rl) (c : Nat) (i j : Int) (hr : RlsAt w0 G A rs) (hcap : rs.length ≤ c) (hc63 : c ≤ 9223372036854775807) (hm : rs.length ≤ 1048576) (hok : ∀ r ∈ rs, RlOk r ∧ r.body.length ≤ 1048576) (h0 : 0 ≤ i) (h1 : i ≤ j) (h2 : j ≤ rs.length) (h : progE rs = 0) : GC Tryd.prog w0 8 #[.slice (cutA A i.toNat 13 c) (j.toNat - i.toNat) (c - i.toNat)] (fun v G' => v = .tuple #[.agg #[.bool (!negates (piece rs i j))], .int .i64 0] ∧ G = G') G := by
  rw [← piece_len h2, ← piece_val h]
  exact check_Program w0 G _ (piece rs i j) (c - i.toNat) (hr.cut hcap) (by rw [piece_len h2]; omega) (by rw [piece_len h2]; omega) (fun r hr => hok r (piece_mem hr))
theorem piece_neg (w0 : World) (G : Hp) (A : Option Addr) (rs : List Rl) (c : Nat) (i j : Int) (hr : RlsAt w0 G A rs) (hcap : rs.length ≤ c) (hc63 : c ≤ 9223372036854775807) (hm : rs.length ≤ 1048576) (hok : ∀ r ∈ rs, RlOk r ∧ r.body.length ≤ 1048576) (h0 : 0 ≤ i) (h1 : i ≤ j) (h2 : j ≤ rs.length) : GC Tryd.prog w0 10 #[.slice (cutA A i.toNat 13 c) (j.toNat - i.toNat) (c - i.toNat)] (fun v G' => v = .bool (negates (piece rs i j)) ∧ G = G') G := by
  rw [← piece_len h2]
  exact ref_Negates w0 G _ (piece rs i j) (c - i.toNat) (hr.cut hcap) (by rw [piece_len h2]; omega)


theorem law_Parts (w0 : World) (G : Hp) (A : Option Addr) (rs : List Rl) (c : Nat) (i j : Int) (hr : RlsAt w0 G A rs) (hcap : rs.length ≤ c) (hc63 : c ≤ 9223372036854775807) (hm : rs.length ≤ 1048576) (hok : ∀ r ∈ rs, RlOk r ∧ r.body.length ≤ 1048576) : GC Tryd.prog w0 4 #[.slice A rs.length c, .int .i64 i, .int .i64 j] (fun v G' => v = .bool true ∧ G = G') G := by
  refine GC.body (args := [.slice A rs.length c, .int .i64 i, .int .i64 j]) Tryd.func4 rfl (by kernel_rfl) rfl ?_
  refine GW.seq ?_
  refine GW.region ?_
  refine R.assign ⟨rfl, rfl, rfl, rfl⟩ rfl ?_
  refine GOps.nil ?_
  refine GW.seq ?_
  refine GW.seq ?_
  refine GW.region ?_
  refine R.move ⟨rfl, rfl, rfl, rfl⟩ rfl ?_
  refine R.call ⟨rfl, rfl, rfl, rfl⟩ rfl (vs := [_]) rfl ((law_few _ _ A rs c hr hm).mono ?_)
  rintro _ _ ⟨rfl, rfl⟩
  refine R.not ⟨rfl, rfl, rfl, rfl⟩ rfl ?_
  refine R.move ⟨rfl, rfl, rfl, rfl⟩ rfl ?_
  refine GOps.caseB 12 rfl (fun hg1 => ?_) (fun hg1 => ?_)
  · try simp only [decide_eq_true_eq, decide_eq_false_iff_not, Bool.not_eq_true', Bool.not_eq_false'] at hg1
    refine GOps.skip rfl rfl rfl ?_
    refine GOps.skip rfl rfl rfl ?_
    refine R.pick_t ⟨rfl, rfl, rfl, rfl⟩ rfl rfl ?_
    refine R.move ⟨rfl, rfl, rfl, rfl⟩ rfl ?_
    refine GOps.skip rfl rfl rfl ?_
    refine GOps.skip rfl rfl rfl ?_
    refine GOps.skip rfl rfl rfl ?_
    refine R.pick_t ⟨rfl, rfl, rfl, rfl⟩ rfl rfl ?_
    refine R.move ⟨rfl, rfl, rfl, rfl⟩ rfl ?_
    refine GOps.skip rfl rfl rfl ?_
    refine GOps.skip rfl rfl rfl ?_
    refine GOps.skip rfl rfl rfl ?_
    refine GOps.skip rfl rfl rfl ?_
    refine R.pick_t ⟨rfl, rfl, rfl, rfl⟩ rfl rfl ?_
    refine R.move ⟨rfl, rfl, rfl, rfl⟩ rfl ?_
    refine GOps.skip rfl rfl rfl ?_
    refine GOps.skip rfl rfl rfl ?_
    refine GOps.skip rfl rfl rfl ?_
    refine R.pick_t ⟨rfl, rfl, rfl, rfl⟩ rfl rfl ?_
    refine GOps.nil ?_
    refine GW.cond_t rfl ?_
    refine GW.seq ?_
    refine GW.region ?_
    refine R.call ⟨rfl, rfl, rfl, rfl⟩ rfl (vs := []) rfl ((law_known _ _).mono ?_)
    rintro _ _ ⟨rfl, rfl⟩
    refine R.assign ⟨rfl, rfl, rfl, rfl⟩ rfl ?_
    refine GOps.nil ?_
    refine GW.ret (Out.of (Res.one rfl rfl) (by first | exact Hs.refl _ | exact Hs.tl _ | exact Hs.tl2 _ _ | exact Hs.tl3 _ _ _ | exact (Hs.app _).trans (Hs.tl _) | exact (Hs.app _).trans ((Hs.app _).trans (Hs.tl _)) | exact Hs.sub (by repeat (first | exact List.Sublist.refl _ | apply List.Sublist.cons))) ⟨?_, rfl⟩)
    first | rfl | (exfalso; omega) | (exfalso; simp_all; done)
  · try simp only [decide_eq_true_eq, decide_eq_false_iff_not, Bool.not_eq_true', Bool.not_eq_false'] at hg1
    refine R.move ⟨rfl, rfl, rfl, rfl⟩ rfl ?_
    refine R.lss ⟨rfl, rfl, rfl, rfl⟩ rfl rfl ?_   -- lss ['t13', '0']
    refine R.pick_f ⟨rfl, rfl, rfl, rfl⟩ rfl rfl ?_
    refine R.move ⟨rfl, rfl, rfl, rfl⟩ rfl ?_
    refine GOps.caseB 16 rfl (fun hg2 => ?_) (fun hg2 => ?_)
    · try simp only [decide_eq_true_eq, decide_eq_false_iff_not, Bool.not_eq_true', Bool.not_eq_false'] at hg2
      refine GOps.skip rfl rfl rfl ?_
      refine GOps.skip rfl rfl rfl ?_
      refine GOps.skip rfl rfl rfl ?_
      refine R.pick_t ⟨rfl, rfl, rfl, rfl⟩ rfl rfl ?_
      refine R.move ⟨rfl, rfl, rfl, rfl⟩ rfl ?_
      refine GOps.skip rfl rfl rfl ?_
      refine GOps.skip rfl rfl rfl ?_
      refine GOps.skip rfl rfl rfl ?_
      refine GOps.skip rfl rfl rfl ?_
      refine R.pick_t ⟨rfl, rfl, rfl, rfl⟩ rfl rfl ?_
      refine R.move ⟨rfl, rfl, rfl, rfl⟩ rfl ?_
      refine GOps.skip rfl rfl rfl ?_
      refine GOps.skip rfl rfl rfl ?_
      refine GOps.skip rfl rfl rfl ?_
      refine R.pick_t ⟨rfl, rfl, rfl, rfl⟩ rfl rfl ?_
      refine GOps.nil ?_
      refine GW.cond_t rfl ?_
      refine GW.seq ?_
      refine GW.region ?_
      refine R.call ⟨rfl, rfl, rfl, rfl⟩ rfl (vs := []) rfl ((law_known _ _).mono ?_)
      rintro _ _ ⟨rfl, rfl⟩
      refine R.assign ⟨rfl, rfl, rfl, rfl⟩ rfl ?_
      refine GOps.nil ?_
      refine GW.ret (Out.of (Res.one rfl rfl) (by first | exact Hs.refl _ | exact Hs.tl _ | exact Hs.tl2 _ _ | exact Hs.tl3 _ _ _ | exact (Hs.app _).trans (Hs.tl _) | exact (Hs.app _).trans ((Hs.app _).trans (Hs.tl _)) | exact Hs.sub (by repeat (first | exact List.Sublist.refl _ | apply List.Sublist.cons))) ⟨?_, rfl⟩)
      first | rfl | (exfalso; omega) | (exfalso; simp_all; done)
    · try simp only [decide_eq_true_eq, decide_eq_false_iff_not, Bool.not_eq_true', Bool.not_eq_false'] at hg2
      refine R.move ⟨rfl, rfl, rfl, rfl⟩ rfl ?_
      refine R.move ⟨rfl, rfl, rfl, rfl⟩ rfl ?_
      refine R.lss ⟨rfl, rfl, rfl, rfl⟩ rfl rfl ?_   -- lss ['t17', 't18']
      refine R.pick_f ⟨rfl, rfl, rfl, rfl⟩ rfl rfl ?_
      refine R.move ⟨rfl, rfl, rfl, rfl⟩ rfl ?_
      refine GOps.caseB 21 rfl (fun hg3 => ?_) (fun hg3 => ?_)
      · try simp only [decide_eq_true_eq, decide_eq_false_iff_not, Bool.not_eq_true', Bool.not_eq_false'] at hg3
        refine GOps.skip rfl rfl rfl ?_
        refine GOps.skip rfl rfl rfl ?_
        refine GOps.skip rfl rfl rfl ?_
        refine GOps.skip rfl rfl rfl ?_
        refine R.pick_t ⟨rfl, rfl, rfl, rfl⟩ rfl rfl ?_
        refine R.move ⟨rfl, rfl, rfl, rfl⟩ rfl ?_
        refine GOps.skip rfl rfl rfl ?_
        refine GOps.skip rfl rfl rfl ?_
        refine GOps.skip rfl rfl rfl ?_
        refine R.pick_t ⟨rfl, rfl, rfl, rfl⟩ rfl rfl ?_
        refine GOps.nil ?_
        refine GW.cond_t rfl ?_
        refine GW.seq ?_
        refine GW.region ?_
        refine R.call ⟨rfl, rfl, rfl, rfl⟩ rfl (vs := []) rfl ((law_known _ _).mono ?_)
        rintro _ _ ⟨rfl, rfl⟩
        refine R.assign ⟨rfl, rfl, rfl, rfl⟩ rfl ?_
        refine GOps.nil ?_
        refine GW.ret (Out.of (Res.one rfl rfl) (by first | exact Hs.refl _ | exact Hs.tl _ | exact Hs.tl2 _ _ | exact Hs.tl3 _ _ _ | exact (Hs.app _).trans (Hs.tl _) | exact (Hs.app _).trans ((Hs.app _).trans (Hs.tl _)) | exact Hs.sub (by repeat (first | exact List.Sublist.refl _ | apply List.Sublist.cons))) ⟨?_, rfl⟩)
        first | rfl | (exfalso; omega) | (exfalso; simp_all; done)
      · try simp only [decide_eq_true_eq, decide_eq_false_iff_not, Bool.not_eq_true', Bool.not_eq_false'] at hg3
        refine R.move ⟨rfl, rfl, rfl, rfl⟩ rfl ?_
        refine R.move ⟨rfl, rfl, rfl, rfl⟩ rfl ?_
        refine R.lenS ⟨rfl, rfl, rfl, rfl⟩ rfl rfl Tryd.underlying22 ?_
        refine R.gtr ⟨rfl, rfl, rfl, rfl⟩ rfl rfl ?_   -- gtr ['t22', 't24']
        refine R.pick_f ⟨rfl, rfl, rfl, rfl⟩ rfl rfl ?_
        refine R.move ⟨rfl, rfl, rfl, rfl⟩ rfl ?_
        refine GOps.caseB 27 rfl (fun hg4 => ?_) (fun hg4 => ?_)
        · try simp only [decide_eq_true_eq, decide_eq_false_iff_not, Bool.not_eq_true', Bool.not_eq_false'] at hg4
          refine GOps.skip rfl rfl rfl ?_
          refine GOps.skip rfl rfl rfl ?_
          refine GOps.skip rfl rfl rfl ?_
          refine R.pick_t ⟨rfl, rfl, rfl, rfl⟩ rfl rfl ?_
          refine GOps.nil ?_
          refine GW.cond_t rfl ?_
          refine GW.seq ?_
          refine GW.region ?_
          refine R.call ⟨rfl, rfl, rfl, rfl⟩ rfl (vs := []) rfl ((law_known _ _).mono ?_)
          rintro _ _ ⟨rfl, rfl⟩
          refine R.assign ⟨rfl, rfl, rfl, rfl⟩ rfl ?_
          refine GOps.nil ?_
          refine GW.ret (Out.of (Res.one rfl rfl) (by first | exact Hs.refl _ | exact Hs.tl _ | exact Hs.tl2 _ _ | exact Hs.tl3 _ _ _ | exact (Hs.app _).trans (Hs.tl _) | exact (Hs.app _).trans ((Hs.app _).trans (Hs.tl _)) | exact Hs.sub (by repeat (first | exact List.Sublist.refl _ | apply List.Sublist.cons))) ⟨?_, rfl⟩)
          first | rfl | (exfalso; omega) | (exfalso; simp_all; done)
        · try simp only [decide_eq_true_eq, decide_eq_false_iff_not, Bool.not_eq_true', Bool.not_eq_false'] at hg4
          refine R.move ⟨rfl, rfl, rfl, rfl⟩ rfl ?_
          refine R.call ⟨rfl, rfl, rfl, rfl⟩ rfl (vs := [_]) rfl ((ref_Program _ _ A rs c hr hm hok).mono ?_)
          rintro _ _ ⟨rfl, rfl⟩
          refine R.neI ⟨rfl, rfl, rfl, rfl⟩ rfl rfl ?_   -- neq ['t29', '0']
          refine R.pick_f ⟨rfl, rfl, rfl, rfl⟩ rfl rfl ?_
          refine GOps.nil ?_
          refine GW.ite rfl (fun hc5 => ?_) (fun hc5 => ?_)
          · try simp only [decide_eq_true_eq, decide_eq_false_iff_not, Bool.not_eq_true', Bool.not_eq_false'] at hc5
            refine GW.seq ?_
            refine GW.region ?_
            refine R.call ⟨rfl, rfl, rfl, rfl⟩ rfl (vs := []) rfl ((law_known _ _).mono ?_)
            rintro _ _ ⟨rfl, rfl⟩
            refine R.assign ⟨rfl, rfl, rfl, rfl⟩ rfl ?_
            refine GOps.nil ?_
            refine GW.ret (Out.of (Res.one rfl rfl) (by first | exact Hs.refl _ | exact Hs.tl _ | exact Hs.tl2 _ _ | exact Hs.tl3 _ _ _ | exact (Hs.app _).trans (Hs.tl _) | exact (Hs.app _).trans ((Hs.app _).trans (Hs.tl _)) | exact Hs.sub (by repeat (first | exact List.Sublist.refl _ | apply List.Sublist.cons))) ⟨?_, rfl⟩)
            first | rfl | (exfalso; omega) | (exfalso; simp_all; done)
          · try simp only [decide_eq_true_eq, decide_eq_false_iff_not, Bool.not_eq_true', Bool.not_eq_false'] at hc5
            refine GW.skip ?_
            refine GW.seq ?_
            refine GW.region ?_
            refine R.move ⟨rfl, rfl, rfl, rfl⟩ rfl ?_
            refine R.move ⟨rfl, rfl, rfl, rfl⟩ rfl ?_
            refine R.move ⟨rfl, rfl, rfl, rfl⟩ rfl ?_
            refine R.sliceSLH ⟨rfl, rfl, rfl, rfl⟩ rfl rfl rfl Tryd.underlying22 Tryd.sizeOf46 (by omega) (by omega) (by omega) ?_
            refine R.call ⟨rfl, rfl, rfl, rfl⟩ rfl (vs := [_]) rfl ((piece_check _ _ A rs c i j hr hcap hc63 hm hok (by omega) (by omega) (by omega) (by omega)).mono ?_)
            rintro _ _ ⟨rfl, rfl⟩
            refine R.move ⟨rfl, rfl, rfl, rfl⟩ rfl ?_
            refine R.extract ⟨rfl, rfl, rfl, rfl⟩ rfl rfl ?_
            refine R.extract ⟨rfl, rfl, rfl, rfl⟩ rfl rfl ?_
            refine R.alloc ⟨rfl, rfl, rfl, rfl⟩ Tryd.zeroValue26 fun b7 => ?_
            refine R.storeAll (G1 := []) rfl rfl rfl rfl rfl Tryd.sizeOf26 rfl rfl rfl rfl ?_   -- t7:m
            refine R.assign ⟨rfl, rfl, rfl, rfl⟩ rfl ?_
            refine GOps.nil ?_
            refine GW.seq ?_
            refine GW.drawS 17 rfl (by kernel_rfl) ?_
            refine GA.val 0 rfl (V.move ⟨rfl, rfl, rfl, rfl⟩ rfl) rfl (by kernel_rfl) (by kernel_rfl) (by kernel_rfl) ?_
            refine GA.val 1 rfl (V.eqI ⟨rfl, rfl, rfl, rfl⟩ rfl rfl) rfl (by kernel_rfl) (by kernel_rfl) (by kernel_rfl) ?_   -- eql ['t41', '0']
            refine GA.val 2 rfl (V.move ⟨rfl, rfl, rfl, rfl⟩ rfl) rfl (by kernel_rfl) (by kernel_rfl) (by kernel_rfl) ?_
            refine GA.val 3 rfl (V.fieldAddr ⟨rfl, rfl, rfl, rfl⟩ rfl Tryd.underlying26 rfl Tryd.sizeOf4) rfl (by kernel_rfl) (by kernel_rfl) (by kernel_rfl) ?_   -- "Equality"
            refine GA.val 4 rfl (V.load1 ⟨rfl, rfl, rfl, rfl⟩ rfl Tryd.underlying4 rfl (.own' (by repeat (first | exact List.mem_cons_self | apply List.mem_cons_of_mem | apply List.mem_append_right)) (by rfl))) rfl (by kernel_rfl) (by kernel_rfl) (by kernel_rfl) ?_   -- load 0 law.go:68 t44
            refine GA.val 5 rfl (V.move ⟨rfl, rfl, rfl, rfl⟩ rfl) rfl (by kernel_rfl) (by kernel_rfl) (by kernel_rfl) ?_
            refine GA.val 6 rfl (V.move ⟨rfl, rfl, rfl, rfl⟩ rfl) rfl (by kernel_rfl) (by kernel_rfl) (by kernel_rfl) ?_
            refine GA.val 7 rfl (V.move ⟨rfl, rfl, rfl, rfl⟩ rfl) rfl (by kernel_rfl) (by kernel_rfl) (by kernel_rfl) ?_
            refine GA.val 8 rfl (V.sliceSLH ⟨rfl, rfl, rfl, rfl⟩ rfl rfl rfl Tryd.underlying22 Tryd.sizeOf46 (by omega) (by omega) (by omega)) rfl (by kernel_rfl) (by kernel_rfl) (by kernel_rfl) ?_
            refine GA.one 9 (by first | exact Hs.refl _ | exact Hs.tl _ | exact Hs.tl2 _ _ | exact Hs.tl3 _ _ _ | exact Hs.sub (by simp)) (by kernel_rfl) rfl ?_
            refine R.call ⟨rfl, rfl, rfl, rfl⟩ rfl (vs := [_]) rfl ((piece_neg _ _ A rs c i j (hr.mono (sub_cons _)) hcap hc63 hm hok (by omega) (by omega) (by omega)).mono ?_)
            rintro _ _ ⟨rfl, rfl⟩
            refine GOps.nil ?_
            refine GA.val 10 rfl (V.not ⟨rfl, rfl, rfl, rfl⟩ rfl) rfl (by kernel_rfl) (by kernel_rfl) (by kernel_rfl) ?_
            refine GA.val 11 rfl (V.eqB ⟨rfl, rfl, rfl, rfl⟩ rfl rfl Tryd.underlying4) rfl (by kernel_rfl) (by kernel_rfl) (by kernel_rfl) ?_   -- eql ['t45', 't51']
            refine GA.val 12 rfl (V.pick_t ⟨rfl, rfl, rfl, rfl⟩ rfl rfl) rfl (by kernel_rfl) (by kernel_rfl) (by kernel_rfl) ?_
            refine GA.val 13 rfl (V.move ⟨rfl, rfl, rfl, rfl⟩ rfl) rfl (by kernel_rfl) (by kernel_rfl) (by kernel_rfl) ?_
            refine GA.caseB 54 rfl (fun hg6 => ?_) (fun hg6 => ?_)
            · try simp only [decide_eq_true_eq, decide_eq_false_iff_not, Bool.not_eq_true', Bool.not_eq_false'] at hg6
              refine GA.one 14 (by first | exact Hs.refl _ | exact Hs.tl _ | exact Hs.tl2 _ _ | exact Hs.tl3 _ _ _ | exact Hs.sub (by simp)) (by kernel_rfl) rfl ?_
              refine R.call ⟨rfl, rfl, rfl, rfl⟩ rfl (vs := []) rfl ((law_known _ _).mono ?_)
              rintro _ _ ⟨rfl, rfl⟩
              refine GOps.nil ?_
              refine GA.val 15 rfl (V.pick_t ⟨rfl, rfl, rfl, rfl⟩ rfl rfl) rfl (by kernel_rfl) (by kernel_rfl) (by kernel_rfl) ?_
              refine GA.val 16 rfl (V.assign ⟨rfl, rfl, rfl, rfl⟩ rfl) rfl (by kernel_rfl) (by kernel_rfl) (by kernel_rfl) ?_
              refine GA.done (by first | exact Hs.refl _ | exact Hs.tl _ | exact Hs.tl2 _ _ | exact Hs.tl3 _ _ _ | exact Hs.sub (by simp)) (by kernel_rfl) ?_
              refine GW.ret (Out.of (Res.one rfl rfl) (by first | exact Hs.refl _ | exact Hs.tl _ | exact Hs.tl2 _ _ | exact Hs.tl3 _ _ _ | exact (Hs.app _).trans (Hs.tl _) | exact (Hs.app _).trans ((Hs.app _).trans (Hs.tl _)) | exact Hs.sub (by repeat (first | exact List.Sublist.refl _ | apply List.Sublist.cons))) ⟨?_, rfl⟩)
              first | rfl | (exfalso; omega) | (exfalso; simp_all; done)
            · try simp only [decide_eq_true_eq, decide_eq_false_iff_not, Bool.not_eq_true', Bool.not_eq_false'] at hg6
              refine GA.skip 14 rfl rfl rfl rfl rfl (by kernel_rfl) (by kernel_rfl) (by kernel_rfl) ?_
              refine GA.val 15 rfl (V.pick_f ⟨rfl, rfl, rfl, rfl⟩ rfl rfl) rfl (by kernel_rfl) (by kernel_rfl) (by kernel_rfl) ?_
              refine GA.val 16 rfl (V.assign ⟨rfl, rfl, rfl, rfl⟩ rfl) rfl (by kernel_rfl) (by kernel_rfl) (by kernel_rfl) ?_
              refine GA.done (by first | exact Hs.refl _ | exact Hs.tl _ | exact Hs.tl2 _ _ | exact Hs.tl3 _ _ _ | exact Hs.sub (by simp)) (by kernel_rfl) ?_
              refine GW.ret (Out.of (Res.one rfl rfl) (by first | exact Hs.refl _ | exact Hs.tl _ | exact Hs.tl2 _ _ | exact Hs.tl3 _ _ _ | exact (Hs.app _).trans (Hs.tl _) | exact (Hs.app _).trans ((Hs.app _).trans (Hs.tl _)) | exact Hs.sub (by repeat (first | exact List.Sublist.refl _ | apply List.Sublist.cons))) ⟨?_, rfl⟩)
              first | rfl | (exfalso; omega) | (exfalso; simp_all; done)

end Go.Proofs.YtgjmandjhjfgkaaDoor.Gl
