import Derived.Test.YtgjmandjhjfgkaaDoorS15
namespace Go.Proofs.YtgjmandjhjfgkaaDoor.Gl
open Go.RowKit Go.Shelf
set_option linter.unusedVariables false
set_option linter.unnecessarySimpa false
set_option linter.unusedSimpArgs false
attribute [-simp] List.getD_eq_getElem?_getD



theorem allTo_cast {f : Nat → Bool} {k i : Nat} (h : allTo f k = true) (e : k = i) : allTo f i = true := e ▸ h
def zE (r : Rl) : Bool := decide (ruleE r = 0)
def firstE : List Rl → Int
  | [] => 0
  | r :: rs => bif zE r then firstE rs else ruleE r
def badLit (l : Lt) : Bool := decide (l.kind = 2) && !emp l.pat.s1.v
def badRule (r : Rl) : Bool := !emp r.head.s1.v || r.body.any badLit
def sameAt (rs : List Rl) (i k : Nat) : Bool := match rs[i]?, rs[k]? with
  | some a, some b => sameRl a b
  | _, _ => false
theorem sameAt_of {rs : List Rl} {i k : Nat} {x y : Rl} (hx : rs[i]? = some x) (hy : rs[k]? = some y) : sameAt rs i k = sameRl x y := by simp [sameAt, hx, hy]
def noSame (rs : List Rl) (i : Nat) : Bool := allTo (fun k => !(sameAt rs i k)) i
def noDup (rs : List Rl) : Bool := allTo (noSame rs) rs.length
def progE (rs : List Rl) : Int := bif rs.all zE then (bif (negates rs && rs.any badRule) then 5 else bif noDup rs then (bif decide (1000 < rs.length) then 9 else 0) else 8) else firstE rs
theorem firstE_of : ∀ (rs : List Rl) (i : Nat) (x : Rl), (rs.take i).all zE = true → rs[i]? = some x → zE x = false → firstE rs = ruleE x ∧ rs.all zE = false
  | [], i, x, _, h, _ => by simp at h
  | r :: rs, 0, x, _, h, hx => by
    simp at h
    subst h
    simp [firstE, hx]
  | r :: rs, i + 1, x, h0, h, hx => by
    simp only [List.take_succ_cons, List.all_cons, Bool.and_eq_true] at h0
    have ih := firstE_of rs i x h0.2 (by simpa using h) hx
    simp [firstE, h0.1, ih.1, ih.2]
theorem prog_E {rs : List Rl} {i : Nat} {x : Rl} (h0 : (rs.take i).all zE = true) (hx : rs[i]? = some x) (hne : ¬ ruleE x = 0) : progE rs = ruleE x := by
  obtain ⟨h1, h2⟩ := firstE_of rs i x h0 hx (decide_eq_false hne)
  unfold progE
  rw [h2, h1]; rfl
theorem prog_5 {rs : List Rl} (hE : rs.all zE = true) (hn : negates rs = true) (hb : rs.any badRule = true) : progE rs = 5 := by unfold progE; rw [hE, hn, hb]; rfl
theorem prog_8 {rs : List Rl} (hE : rs.all zE = true) (hb : (negates rs && rs.any badRule) = false) (hd : noDup rs = false) : progE rs = 8 := by unfold progE; rw [hE, hb, hd]; rfl
theorem prog_9 {rs : List Rl} (hE : rs.all zE = true) (hb : (negates rs && rs.any badRule) = false) (hd : noDup rs = true) (hl : 1000 < rs.length) : progE rs = 9 := by unfold progE; rw [hE, hb, hd, decide_eq_true hl]; rfl
theorem prog_0 {rs : List Rl} (hE : rs.all zE = true) (hb : (negates rs && rs.any badRule) = false) (hd : noDup rs = true) (hl : ¬ 1000 < rs.length) : progE rs = 0 := by unfold progE; rw [hE, hb, hd, decide_eq_false hl]; rfl
theorem nb1 {rs : List Rl} (hn : negates rs = true) (hb : rs.any badRule = false) : (negates rs && rs.any badRule) = false := by rw [hb]; simp
theorem nb2 {rs : List Rl} (hn : negates rs = false) : (negates rs && rs.any badRule) = false := by rw [hn]; rfl
theorem noDup_no {rs : List Rl} {i k : Nat} {x y : Rl} (hi : i < rs.length) (hk : k < i) (hx : rs[i]? = some x) (hy : rs[k]? = some y) (h : sameRl x y = true) : noDup rs = false :=
  allTo_false hi (allTo_false hk (by rw [sameAt_of hx hy, h]; rfl))
theorem bad_head {r : Rl} (h : emp r.head.s1.v = false) : badRule r = true := by unfold badRule; rw [h]; rfl
theorem bad_lit {l : Lt} (h1 : l.kind = 2) (h2 : emp l.pat.s1.v = false) : badLit l = true := by unfold badLit; rw [decide_eq_true h1, h2]; rfl
theorem bad_body {r : Rl} {k : Nat} {y : Lt} (hy : r.body[k]? = some y) (h : badLit y = true) : badRule r = true := by unfold badRule; rw [any_of_get badLit _ k y hy h]; simp
theorem bad_no {r : Rl} (h : emp r.head.s1.v = true) (hb : r.body.any badLit = false) : badRule r = false := by unfold badRule; rw [h, hb]; rfl
theorem lit_no1 {l : Lt} (h1 : ¬ l.kind = 2) : badLit l = false := by unfold badLit; rw [decide_eq_false h1]; rfl
theorem lit_no2 {l : Lt} (h2 : emp l.pat.s1.v = true) : badLit l = false := by unfold badLit; rw [h2]; simp
theorem s1_cell {w0 : World} {G : Hp} {b o : Nat} {x : Lt} (h : Rds w0 G b o (LtC x)) : Rd w0 G b (o + 1 + (1 : Int).toNat * 4 + 0) (.string x.pat.s1.v) := h 5 _ rfl
theorem h1_cell {w0 : World} {G : Hp} {b o : Nat} {p : Pt} {v : Value} (h : Rds w0 G b o (RlC p v)) : Rd w0 G b (o + 0 + (1 : Int).toNat * 4 + 0) (.string p.s1.v) := h 4 _ rfl


theorem ref_Program (w0 : World) (G : Hp) (A : Option Addr) (rs : List Rl) (c : Nat) (hr : RlsAt w0 G A rs) (hm : rs.length ≤ 1048576) (hok : ∀ r ∈ rs, RlOk r ∧ r.body.length ≤ 1048576) : GC Tryd.prog w0 9 #[.slice A rs.length c] (fun v G' => v = .int .i64 (progE rs) ∧ G = G') G := by
  refine GC.body (args := [.slice A rs.length c]) Tryd.func9 rfl (by kernel_rfl) rfl ?_
  refine GW.seq ?_
  refine GW.region ?_
  refine R.assign ⟨rfl, rfl, rfl, rfl⟩ rfl ?_
  refine GOps.nil ?_
  refine GW.seq ?_
  refine GW.seq ?_
  refine GW.region ?_
  refine R.assign ⟨rfl, rfl, rfl, rfl⟩ rfl ?_
  refine GOps.nil ?_
  refine GW.block ?_
  -- LOOP: live 0:l, 3:i
  refine GW.loopI (fun i : Nat => [(0, .slice A rs.length c), (3, .int .i64 i)]) (fun i => G) (fun i => rs.length - i) (fun i => i ≤ rs.length ∧ (rs.take i).all zE = true) 0
    (by repeat (first | exact Keeps.nil _ | refine Keeps.cons rfl ?_)) (Hs.refl _) (⟨by omega, by simp⟩) ?_
  rintro i ⟨hi, h0⟩
  refine GW.seq ?_
  refine GW.seq ?_
  refine GW.region ?_
  refine R.move ⟨rfl, rfl, rfl, rfl⟩ rfl ?_
  refine R.move ⟨rfl, rfl, rfl, rfl⟩ rfl ?_
  refine R.lenS ⟨rfl, rfl, rfl, rfl⟩ rfl rfl Tryd.underlying22 ?_
  refine R.lss ⟨rfl, rfl, rfl, rfl⟩ rfl rfl ?_   -- lss ['t9', 't11']
  refine GOps.nil ?_
  refine GW.ite rfl (fun hc1 => ?_) (fun hc1 => ?_)
  · try simp only [decide_eq_true_eq, decide_eq_false_iff_not, Bool.not_eq_true', Bool.not_eq_false'] at hc1
    obtain ⟨x, hx⟩ : ∃ x, rs[i]? = some x := ⟨_, List.getElem?_eq_getElem (by omega)⟩
    obtain ⟨b, f, cs, rfl, ⟨A', c', rfl, hl', hm', hls⟩, hrd⟩ := hr i x hx
    have hxo := hok x (List.mem_of_getElem? hx)
    refine GW.skip ?_
    refine GW.seq ?_
    refine GW.block ?_
    refine GW.seq ?_
    refine GW.region ?_
    refine R.move ⟨rfl, rfl, rfl, rfl⟩ rfl ?_
    refine R.move ⟨rfl, rfl, rfl, rfl⟩ rfl ?_
    refine R.indexAddrS ⟨rfl, rfl, rfl, rfl⟩ rfl rfl Tryd.underlying22 Tryd.sizeOf46 (by omega) (by omega) ?_   -- ['t15', 't16']
    refine R.loadA ⟨rfl, rfl, rfl, rfl⟩ rfl Tryd.underlying46 rfl Tryd.sizeOf46 (hrd) (by rfl) ?_   -- load 0 ref.go:89
    refine R.call ⟨rfl, rfl, rfl, rfl⟩ rfl (vs := [_]) rfl ((ref_Rule _ _ x A' c' hls hxo.2 hxo.1).mono ?_)
    rintro _ _ ⟨rfl, rfl⟩
    refine R.assign ⟨rfl, rfl, rfl, rfl⟩ rfl ?_
    refine GOps.nil ?_
    refine GW.seq ?_
    refine GW.region ?_
    refine R.move ⟨rfl, rfl, rfl, rfl⟩ rfl ?_
    refine R.neI ⟨rfl, rfl, rfl, rfl⟩ rfl rfl ?_   -- neq ['t20', '0']
    refine GOps.nil ?_
    refine GW.ite rfl (fun hc2 => ?_) (fun hc2 => ?_)
    · try simp only [decide_eq_true_eq, decide_eq_false_iff_not, Bool.not_eq_true', Bool.not_eq_false'] at hc2
      refine GW.seq ?_
      refine GW.region ?_
      refine R.move ⟨rfl, rfl, rfl, rfl⟩ rfl ?_
      refine R.assign ⟨rfl, rfl, rfl, rfl⟩ rfl ?_
      refine GOps.nil ?_
      refine GW.ret (Out.of (Res.one rfl rfl) (by first | exact Hs.refl _ | exact Hs.tl _ | exact Hs.tl2 _ _ | exact Hs.tl3 _ _ _ | exact (Hs.app _).trans (Hs.tl _) | exact (Hs.app _).trans ((Hs.app _).trans (Hs.tl _))) ⟨?_, rfl⟩)
      first | rw [prog_E h0 hx hc2] | rw [prog_5 hE hc3 (any_of_get badRule rs i x hx (bad_head hc5))] | rw [prog_5 hE hc3 (any_of_get badRule rs i x hx (bad_body hy (bad_lit hg7 hc8)))] | rw [prog_8 hE hnb (noDup_no (by omega) (by omega) hx hy (by assumption))] | rw [prog_9 hE hnb hD (by omega)] | rw [prog_0 hE hnb hD (by omega)]
    · try simp only [decide_eq_true_eq, decide_eq_false_iff_not, Bool.not_eq_true', Bool.not_eq_false'] at hc2
      refine GW.skip ?_
      refine GW.region ?_
      refine R.move ⟨rfl, rfl, rfl, rfl⟩ rfl ?_
      refine R.add (r := (((i + 1) : Nat) : Int)) ⟨rfl, rfl, rfl, rfl⟩ rfl rfl (by rw [wrap64_id (by omega) (by omega)]; omega) ?_   -- add ['t13', '1']
      refine R.assign ⟨rfl, rfl, rfl, rfl⟩ rfl ?_
      refine GOps.nil ?_
      exact ⟨i + 1, by omega, ⟨by omega, all_take_succ zE rs i x hx h0 (decide_eq_true (by omega))⟩, rfl, by repeat (first | exact Keeps.nil _ | refine Keeps.cons rfl ?_), by first | exact Hs.refl _ | exact Hs.tl _ | exact Hs.tl2 _ _⟩
  · try simp only [decide_eq_true_eq, decide_eq_false_iff_not, Bool.not_eq_true', Bool.not_eq_false'] at hc1
    have hE : rs.all zE = true := all_of_take zE rs i (by omega) h0
    refine GW.exit ?_
    refine GW.seq ?_
    refine GW.seq ?_
    refine GW.region ?_
    refine R.move ⟨rfl, rfl, rfl, rfl⟩ rfl ?_
    refine R.call ⟨rfl, rfl, rfl, rfl⟩ rfl (vs := [_]) rfl ((ref_Negates _ _ A rs c hr hm).mono ?_)
    rintro _ _ ⟨rfl, rfl⟩
    refine GOps.nil ?_
    refine GW.ite rfl (fun hc3 => ?_) (fun hc3 => ?_)
    · try simp only [decide_eq_true_eq, decide_eq_false_iff_not, Bool.not_eq_true', Bool.not_eq_false'] at hc3
      refine GW.seq ?_
      refine GW.region ?_
      refine R.assign ⟨rfl, rfl, rfl, rfl⟩ rfl ?_
      refine GOps.nil ?_
      refine GW.block ?_
      -- LOOP: live 0:l, 5:i
      refine GW.loopI (fun i : Nat => [(0, .slice A rs.length c), (5, .int .i64 i)]) (fun i => G) (fun i => rs.length - i) (fun i => i ≤ rs.length ∧ (rs.take i).any badRule = false) 0
        (by repeat (first | exact Keeps.nil _ | refine Keeps.cons rfl ?_)) (Hs.refl _) (⟨by omega, by simp⟩) ?_
      rintro i ⟨hi, h0⟩
      refine GW.seq ?_
      refine GW.seq ?_
      refine GW.region ?_
      refine R.move ⟨rfl, rfl, rfl, rfl⟩ rfl ?_
      refine R.move ⟨rfl, rfl, rfl, rfl⟩ rfl ?_
      refine R.lenS ⟨rfl, rfl, rfl, rfl⟩ rfl rfl Tryd.underlying22 ?_
      refine R.lss ⟨rfl, rfl, rfl, rfl⟩ rfl rfl ?_   -- lss ['t25', 't27']
      refine GOps.nil ?_
      refine GW.ite rfl (fun hc4 => ?_) (fun hc4 => ?_)
      · try simp only [decide_eq_true_eq, decide_eq_false_iff_not, Bool.not_eq_true', Bool.not_eq_false'] at hc4
        obtain ⟨x, hx⟩ : ∃ x, rs[i]? = some x := ⟨_, List.getElem?_eq_getElem (by omega)⟩
        obtain ⟨b, f, cs, rfl, ⟨A', c', rfl, hl', hm', hls⟩, hrd⟩ := hr i x hx
        have hxo := hok x (List.mem_of_getElem? hx)
        refine GW.skip ?_
        refine GW.seq ?_
        refine GW.block ?_
        refine GW.seq ?_
        refine GW.seq ?_
        refine GW.region ?_
        refine R.move ⟨rfl, rfl, rfl, rfl⟩ rfl ?_
        refine R.move ⟨rfl, rfl, rfl, rfl⟩ rfl ?_
        refine R.indexAddrS ⟨rfl, rfl, rfl, rfl⟩ rfl rfl Tryd.underlying22 Tryd.sizeOf46 (by omega) (by omega) ?_   -- ['t31', 't32']
        refine R.fieldAddr ⟨rfl, rfl, rfl, rfl⟩ rfl Tryd.underlying46 rfl Tryd.sizeOf40 ?_   -- "Head"
        refine R.indexAddrA ⟨rfl, rfl, rfl, rfl⟩ rfl rfl Tryd.underlying40 Tryd.sizeOf37 (by omega) (by omega) ?_   -- ['t34', '1']
        refine R.fieldAddr ⟨rfl, rfl, rfl, rfl⟩ rfl Tryd.underlying37 rfl Tryd.sizeOf9 ?_   -- "Var"
        refine R.load1 ⟨rfl, rfl, rfl, rfl⟩ rfl Tryd.underlying9 rfl (h1_cell hrd) ?_   -- load 1 ref.go:95
        refine R.neS ⟨rfl, rfl, rfl, rfl⟩ rfl rfl ?_   -- neq ['t37', 'const']
        refine GOps.nil ?_
        refine GW.ite rfl (fun hc5 => ?_) (fun hc5 => ?_)
        · try simp only [decide_eq_true_eq, decide_eq_false_iff_not, Bool.not_eq_true', Bool.not_eq_false'] at hc5
          refine GW.seq ?_
          refine GW.region ?_
          refine R.assign ⟨rfl, rfl, rfl, rfl⟩ rfl ?_
          refine GOps.nil ?_
          refine GW.ret (Out.of (Res.one rfl rfl) (by first | exact Hs.refl _ | exact Hs.tl _ | exact Hs.tl2 _ _ | exact Hs.tl3 _ _ _ | exact (Hs.app _).trans (Hs.tl _) | exact (Hs.app _).trans ((Hs.app _).trans (Hs.tl _))) ⟨?_, rfl⟩)
          first | rw [prog_E h0 hx hc2] | rw [prog_5 hE hc3 (any_of_get badRule rs i x hx (bad_head hc5))] | rw [prog_5 hE hc3 (any_of_get badRule rs i x hx (bad_body hy (bad_lit hg7 hc8)))] | rw [prog_8 hE hnb (noDup_no (by omega) (by omega) hx hy (by assumption))] | rw [prog_9 hE hnb hD (by omega)] | rw [prog_0 hE hnb hD (by omega)]
        · try simp only [decide_eq_true_eq, decide_eq_false_iff_not, Bool.not_eq_true', Bool.not_eq_false'] at hc5
          refine GW.skip ?_
          refine GW.seq ?_
          refine GW.region ?_
          refine R.assign ⟨rfl, rfl, rfl, rfl⟩ rfl ?_
          refine GOps.nil ?_
          refine GW.block ?_
          -- LOOP: live 0:l, 5:i, 6:k
          refine GW.loopI (fun k : Nat => [(0, .slice (some ⟨b, f, none⟩) rs.length c), (5, .int .i64 i), (6, .int .i64 k)]) (fun k => G) (fun k => x.body.length - k) (fun k => k ≤ x.body.length ∧ (x.body.take k).any badLit = false) 0
            (by repeat (first | exact Keeps.nil _ | refine Keeps.cons rfl ?_)) (Hs.refl _) (⟨by omega, by simp⟩) ?_
          rintro k ⟨hk, hk0⟩
          refine GW.seq ?_
          refine GW.seq ?_
          refine GW.region ?_
          refine R.move ⟨rfl, rfl, rfl, rfl⟩ rfl ?_
          refine R.move ⟨rfl, rfl, rfl, rfl⟩ rfl ?_
          refine R.move ⟨rfl, rfl, rfl, rfl⟩ rfl ?_
          refine R.indexAddrS ⟨rfl, rfl, rfl, rfl⟩ rfl rfl Tryd.underlying22 Tryd.sizeOf46 (by omega) (by omega) ?_   -- ['t40', 't41']
          refine R.fieldAddr ⟨rfl, rfl, rfl, rfl⟩ rfl Tryd.underlying46 rfl Tryd.sizeOf44 ?_   -- "Body"
          refine R.load1 ⟨rfl, rfl, rfl, rfl⟩ rfl Tryd.underlying44 rfl (hrd 12 _ rfl) ?_   -- load 2 ref.go:98
          refine R.lenS ⟨rfl, rfl, rfl, rfl⟩ rfl rfl Tryd.underlying44 ?_
          refine R.lss ⟨rfl, rfl, rfl, rfl⟩ rfl rfl ?_   -- lss ['t39', 't45']
          refine GOps.nil ?_
          refine GW.ite rfl (fun hc6 => ?_) (fun hc6 => ?_)
          · try simp only [decide_eq_true_eq, decide_eq_false_iff_not, Bool.not_eq_true', Bool.not_eq_false'] at hc6
            obtain ⟨y, hy⟩ : ∃ y, x.body[k]? = some y := ⟨_, List.getElem?_eq_getElem (by omega)⟩
            obtain ⟨bb, oo, csy, rfl, rfl, hrd2⟩ := hls k y hy
            refine GW.skip ?_
            refine GW.seq ?_
            refine GW.block ?_
            refine GW.seq ?_
            refine GW.region ?_
            refine R.move ⟨rfl, rfl, rfl, rfl⟩ rfl ?_
            refine R.move ⟨rfl, rfl, rfl, rfl⟩ rfl ?_
            refine R.indexAddrS ⟨rfl, rfl, rfl, rfl⟩ rfl rfl Tryd.underlying22 Tryd.sizeOf46 (by omega) (by omega) ?_   -- ['t49', 't50']
            refine R.fieldAddr ⟨rfl, rfl, rfl, rfl⟩ rfl Tryd.underlying46 rfl Tryd.sizeOf44 ?_   -- "Body"
            refine R.load1 ⟨rfl, rfl, rfl, rfl⟩ rfl Tryd.underlying44 rfl (hrd 12 _ rfl) ?_   -- load 3 ref.go:99
            refine R.move ⟨rfl, rfl, rfl, rfl⟩ rfl ?_
            refine R.indexAddrS ⟨rfl, rfl, rfl, rfl⟩ rfl rfl Tryd.underlying44 Tryd.sizeOf43 (by omega) (by omega) ?_   -- ['t53', 't54']
            refine R.fieldAddr ⟨rfl, rfl, rfl, rfl⟩ rfl Tryd.underlying43 rfl Tryd.sizeOf41 ?_   -- "Kind"
            refine R.load1 ⟨rfl, rfl, rfl, rfl⟩ rfl Tryd.underlying41 rfl (hrd2 0 _ rfl) ?_   -- load 4 ref.go:99
            refine R.eqI ⟨rfl, rfl, rfl, rfl⟩ rfl rfl ?_   -- eql ['t57', '2']
            refine R.move ⟨rfl, rfl, rfl, rfl⟩ rfl ?_
            refine GOps.caseB 59 rfl (fun hg7 => ?_) (fun hg7 => ?_)
            · try simp only [decide_eq_true_eq, decide_eq_false_iff_not, Bool.not_eq_true', Bool.not_eq_false'] at hg7
              refine R.move ⟨rfl, rfl, rfl, rfl⟩ rfl ?_
              refine R.move ⟨rfl, rfl, rfl, rfl⟩ rfl ?_
              refine R.indexAddrS ⟨rfl, rfl, rfl, rfl⟩ rfl rfl Tryd.underlying22 Tryd.sizeOf46 (by omega) (by omega) ?_   -- ['t60', 't61']
              refine R.fieldAddr ⟨rfl, rfl, rfl, rfl⟩ rfl Tryd.underlying46 rfl Tryd.sizeOf44 ?_   -- "Body"
              refine R.load1 ⟨rfl, rfl, rfl, rfl⟩ rfl Tryd.underlying44 rfl (hrd 12 _ rfl) ?_   -- load 5 ref.go:99
              refine R.move ⟨rfl, rfl, rfl, rfl⟩ rfl ?_
              refine R.indexAddrS ⟨rfl, rfl, rfl, rfl⟩ rfl rfl Tryd.underlying44 Tryd.sizeOf43 (by omega) (by omega) ?_   -- ['t64', 't65']
              refine R.fieldAddr ⟨rfl, rfl, rfl, rfl⟩ rfl Tryd.underlying43 rfl Tryd.sizeOf40 ?_   -- "Pattern"
              refine R.indexAddrA ⟨rfl, rfl, rfl, rfl⟩ rfl rfl Tryd.underlying40 Tryd.sizeOf37 (by omega) (by omega) ?_   -- ['t67', '1']
              refine R.fieldAddr ⟨rfl, rfl, rfl, rfl⟩ rfl Tryd.underlying37 rfl Tryd.sizeOf9 ?_   -- "Var"
              refine R.load1 ⟨rfl, rfl, rfl, rfl⟩ rfl Tryd.underlying9 rfl (s1_cell hrd2) ?_   -- load 6 ref.go:99
              refine R.neS ⟨rfl, rfl, rfl, rfl⟩ rfl rfl ?_   -- neq ['t70', 'const']
              refine R.pick_t ⟨rfl, rfl, rfl, rfl⟩ rfl rfl ?_
              refine GOps.nil ?_
              refine GW.ite rfl (fun hc8 => ?_) (fun hc8 => ?_)
              · try simp only [decide_eq_true_eq, decide_eq_false_iff_not, Bool.not_eq_true', Bool.not_eq_false'] at hc8
                refine GW.seq ?_
                refine GW.region ?_
                refine R.assign ⟨rfl, rfl, rfl, rfl⟩ rfl ?_
                refine GOps.nil ?_
                refine GW.ret (Out.of (Res.one rfl rfl) (by first | exact Hs.refl _ | exact Hs.tl _ | exact Hs.tl2 _ _ | exact Hs.tl3 _ _ _ | exact (Hs.app _).trans (Hs.tl _) | exact (Hs.app _).trans ((Hs.app _).trans (Hs.tl _))) ⟨?_, rfl⟩)
                first | rw [prog_E h0 hx hc2] | rw [prog_5 hE hc3 (any_of_get badRule rs i x hx (bad_head hc5))] | rw [prog_5 hE hc3 (any_of_get badRule rs i x hx (bad_body hy (bad_lit hg7 hc8)))] | rw [prog_8 hE hnb (noDup_no (by omega) (by omega) hx hy (by assumption))] | rw [prog_9 hE hnb hD (by omega)] | rw [prog_0 hE hnb hD (by omega)]
              · try simp only [decide_eq_true_eq, decide_eq_false_iff_not, Bool.not_eq_true', Bool.not_eq_false'] at hc8
                refine GW.skip ?_
                refine GW.region ?_
                refine R.move ⟨rfl, rfl, rfl, rfl⟩ rfl ?_
                refine R.add (r := (((k + 1) : Nat) : Int)) ⟨rfl, rfl, rfl, rfl⟩ rfl rfl (by rw [wrap64_id (by omega) (by omega)]; omega) ?_   -- add ['t47', '1']
                refine R.assign ⟨rfl, rfl, rfl, rfl⟩ rfl ?_
                refine GOps.nil ?_
                exact ⟨k + 1, by omega, ⟨by omega, any_take_succ badLit x.body k y hy hk0 (by first | exact lit_no1 hg7 | exact lit_no2 hc8)⟩, rfl, by repeat (first | exact Keeps.nil _ | refine Keeps.cons rfl ?_), by first | exact Hs.refl _ | exact Hs.tl _ | exact Hs.tl2 _ _⟩
            · try simp only [decide_eq_true_eq, decide_eq_false_iff_not, Bool.not_eq_true', Bool.not_eq_false'] at hg7
              refine GOps.skip rfl rfl rfl ?_
              refine GOps.skip rfl rfl rfl ?_
              refine GOps.skip rfl rfl rfl ?_
              refine GOps.skip rfl rfl rfl ?_
              refine GOps.skip rfl rfl rfl ?_
              refine GOps.skip rfl rfl rfl ?_
              refine GOps.skip rfl rfl rfl ?_
              refine GOps.skip rfl rfl rfl ?_
              refine GOps.skip rfl rfl rfl ?_
              refine GOps.skip rfl rfl rfl ?_
              refine GOps.skip rfl rfl rfl ?_
              refine GOps.skip rfl rfl rfl ?_
              refine R.pick_f ⟨rfl, rfl, rfl, rfl⟩ rfl rfl ?_
              refine GOps.nil ?_
              refine GW.cond_f rfl ?_
              refine GW.skip ?_
              refine GW.region ?_
              refine R.move ⟨rfl, rfl, rfl, rfl⟩ rfl ?_
              refine R.add (r := (((k + 1) : Nat) : Int)) ⟨rfl, rfl, rfl, rfl⟩ rfl rfl (by rw [wrap64_id (by omega) (by omega)]; omega) ?_   -- add ['t47', '1']
              refine R.assign ⟨rfl, rfl, rfl, rfl⟩ rfl ?_
              refine GOps.nil ?_
              exact ⟨k + 1, by omega, ⟨by omega, any_take_succ badLit x.body k y hy hk0 (by first | exact lit_no1 hg7 | exact lit_no2 hc8)⟩, rfl, by repeat (first | exact Keeps.nil _ | refine Keeps.cons rfl ?_), by first | exact Hs.refl _ | exact Hs.tl _ | exact Hs.tl2 _ _⟩
          · try simp only [decide_eq_true_eq, decide_eq_false_iff_not, Bool.not_eq_true', Bool.not_eq_false'] at hc6
            refine GW.exit ?_
            refine GW.region ?_
            refine R.move ⟨rfl, rfl, rfl, rfl⟩ rfl ?_
            refine R.add (r := (((i + 1) : Nat) : Int)) ⟨rfl, rfl, rfl, rfl⟩ rfl rfl (by rw [wrap64_id (by omega) (by omega)]; omega) ?_   -- add ['t29', '1']
            refine R.assign ⟨rfl, rfl, rfl, rfl⟩ rfl ?_
            refine GOps.nil ?_
            exact ⟨i + 1, by omega, ⟨by omega, any_take_succ badRule rs i x hx h0 (bad_no hc5 (any_of_take badLit _ k (by omega) hk0))⟩, rfl, by repeat (first | exact Keeps.nil _ | refine Keeps.cons rfl ?_), by first | exact Hs.refl _ | exact Hs.tl _ | exact Hs.tl2 _ _⟩
      · try simp only [decide_eq_true_eq, decide_eq_false_iff_not, Bool.not_eq_true', Bool.not_eq_false'] at hc4
        have hB : rs.any badRule = false := any_of_take badRule rs i (by omega) h0
        have hnb := nb1 hc3 hB
        refine GW.exit ?_
        refine GW.seq ?_
        refine GW.seq ?_
        refine GW.region ?_
        refine R.assign ⟨rfl, rfl, rfl, rfl⟩ rfl ?_
        refine GOps.nil ?_
        refine GW.block ?_
        -- LOOP: live 0:l, 7:i
        refine GW.loopI (fun i : Nat => [(0, .slice A rs.length c), (7, .int .i64 i)]) (fun i => G) (fun i => rs.length - i) (fun i => i ≤ rs.length ∧ allTo (noSame rs) i = true) 0
          (by repeat (first | exact Keeps.nil _ | refine Keeps.cons rfl ?_)) (Hs.refl _) (⟨by omega, rfl⟩) ?_
        rintro i ⟨hi, h0⟩
        refine GW.seq ?_
        refine GW.seq ?_
        refine GW.region ?_
        refine R.move ⟨rfl, rfl, rfl, rfl⟩ rfl ?_
        refine R.move ⟨rfl, rfl, rfl, rfl⟩ rfl ?_
        refine R.lenS ⟨rfl, rfl, rfl, rfl⟩ rfl rfl Tryd.underlying22 ?_
        refine R.lss ⟨rfl, rfl, rfl, rfl⟩ rfl rfl ?_   -- lss ['t73', 't75']
        refine GOps.nil ?_
        refine GW.ite rfl (fun hc9 => ?_) (fun hc9 => ?_)
        · try simp only [decide_eq_true_eq, decide_eq_false_iff_not, Bool.not_eq_true', Bool.not_eq_false'] at hc9
          obtain ⟨x, hx⟩ : ∃ x, rs[i]? = some x := ⟨_, List.getElem?_eq_getElem (by omega)⟩
          obtain ⟨b, f, cs, rfl, ⟨A', c', rfl, hl', hm', hls⟩, hrd⟩ := hr i x hx
          have hxo := hok x (List.mem_of_getElem? hx)
          refine GW.skip ?_
          refine GW.seq ?_
          refine GW.block ?_
          refine GW.seq ?_
          refine GW.region ?_
          refine R.assign ⟨rfl, rfl, rfl, rfl⟩ rfl ?_
          refine GOps.nil ?_
          refine GW.block ?_
          -- LOOP: live 0:l, 7:i, 8:k
          refine GW.loopI (fun k : Nat => [(0, .slice (some ⟨b, f, none⟩) rs.length c), (7, .int .i64 i), (8, .int .i64 k)]) (fun k => G) (fun k => i - k) (fun k => k ≤ i ∧ allTo (fun k => !(sameAt rs i k)) k = true) 0
            (by repeat (first | exact Keeps.nil _ | refine Keeps.cons rfl ?_)) (Hs.refl _) (⟨by omega, rfl⟩) ?_
          rintro k ⟨hk, hk0⟩
          refine GW.seq ?_
          refine GW.seq ?_
          refine GW.region ?_
          refine R.move ⟨rfl, rfl, rfl, rfl⟩ rfl ?_
          refine R.move ⟨rfl, rfl, rfl, rfl⟩ rfl ?_
          refine R.lss ⟨rfl, rfl, rfl, rfl⟩ rfl rfl ?_   -- lss ['t79', 't80']
          refine GOps.nil ?_
          refine GW.ite rfl (fun hc10 => ?_) (fun hc10 => ?_)
          · try simp only [decide_eq_true_eq, decide_eq_false_iff_not, Bool.not_eq_true', Bool.not_eq_false'] at hc10
            obtain ⟨y, hy⟩ : ∃ y, rs[k]? = some y := ⟨_, List.getElem?_eq_getElem (by omega)⟩
            obtain ⟨b2, f2, cs2, he, ⟨A2, c2, rfl, hl2, hm2, hls2⟩, hrd2⟩ := hr k y hy
            cases he
            have hyo := hok y (List.mem_of_getElem? hy)
            refine GW.skip ?_
            refine GW.seq ?_
            refine GW.block ?_
            refine GW.seq ?_
            refine GW.drawS 9 rfl (by kernel_rfl) ?_
            refine GA.val 0 rfl (V.move ⟨rfl, rfl, rfl, rfl⟩ rfl) rfl (by kernel_rfl) (by kernel_rfl) (by kernel_rfl) ?_
            refine GA.val 1 rfl (V.move ⟨rfl, rfl, rfl, rfl⟩ rfl) rfl (by kernel_rfl) (by kernel_rfl) (by kernel_rfl) ?_
            refine GA.val 2 rfl (V.indexAddrS ⟨rfl, rfl, rfl, rfl⟩ rfl rfl Tryd.underlying22 Tryd.sizeOf46 (by omega) (by omega)) rfl (by kernel_rfl) (by kernel_rfl) (by kernel_rfl) ?_   -- ['t84', 't85']
            refine GA.val 3 rfl (V.loadA ⟨rfl, rfl, rfl, rfl⟩ rfl Tryd.underlying46 rfl Tryd.sizeOf46 (hrd) (by rfl)) rfl (by kernel_rfl) (by kernel_rfl) (by kernel_rfl) ?_   -- load 7 ref.go:107
            refine GA.val 4 rfl (V.move ⟨rfl, rfl, rfl, rfl⟩ rfl) rfl (by kernel_rfl) (by kernel_rfl) (by kernel_rfl) ?_
            refine GA.val 5 rfl (V.move ⟨rfl, rfl, rfl, rfl⟩ rfl) rfl (by kernel_rfl) (by kernel_rfl) (by kernel_rfl) ?_
            refine GA.val 6 rfl (V.indexAddrS ⟨rfl, rfl, rfl, rfl⟩ rfl rfl Tryd.underlying22 Tryd.sizeOf46 (by omega) (by omega)) rfl (by kernel_rfl) (by kernel_rfl) (by kernel_rfl) ?_   -- ['t88', 't89']
            refine GA.val 7 rfl (V.loadA ⟨rfl, rfl, rfl, rfl⟩ rfl Tryd.underlying46 rfl Tryd.sizeOf46 (hrd2) (by rfl)) rfl (by kernel_rfl) (by kernel_rfl) (by kernel_rfl) ?_   -- load 8 ref.go:107
            refine GA.one 8 (by first | exact Hs.refl _ | exact Hs.tl _ | exact Hs.tl2 _ _ | exact Hs.tl3 _ _ _ | exact Hs.sub (by simp)) (by kernel_rfl) rfl ?_
            refine R.call ⟨rfl, rfl, rfl, rfl⟩ rfl (vs := [_, _]) rfl ((ref_Same _ _ x y A' A2 c' c2 hls hls2 hxo.2 hyo.2).mono ?_)
            rintro _ _ ⟨rfl, rfl⟩
            refine GOps.nil ?_
            refine GA.done (by first | exact Hs.refl _ | exact Hs.tl _ | exact Hs.tl2 _ _ | exact Hs.tl3 _ _ _ | exact Hs.sub (by simp)) (by kernel_rfl) ?_
            refine GW.ite rfl (fun hc11 => ?_) (fun hc11 => ?_)
            · try simp only [decide_eq_true_eq, decide_eq_false_iff_not, Bool.not_eq_true', Bool.not_eq_false'] at hc11
              refine GW.seq ?_
              refine GW.region ?_
              refine R.assign ⟨rfl, rfl, rfl, rfl⟩ rfl ?_
              refine GOps.nil ?_
              refine GW.ret (Out.of (Res.one rfl rfl) (by first | exact Hs.refl _ | exact Hs.tl _ | exact Hs.tl2 _ _ | exact Hs.tl3 _ _ _ | exact (Hs.app _).trans (Hs.tl _) | exact (Hs.app _).trans ((Hs.app _).trans (Hs.tl _))) ⟨?_, rfl⟩)
              first | rw [prog_E h0 hx hc2] | rw [prog_5 hE hc3 (any_of_get badRule rs i x hx (bad_head hc5))] | rw [prog_5 hE hc3 (any_of_get badRule rs i x hx (bad_body hy (bad_lit hg7 hc8)))] | rw [prog_8 hE hnb (noDup_no (by omega) (by omega) hx hy (by assumption))] | rw [prog_9 hE hnb hD (by omega)] | rw [prog_0 hE hnb hD (by omega)]
            · try simp only [decide_eq_true_eq, decide_eq_false_iff_not, Bool.not_eq_true', Bool.not_eq_false'] at hc11
              refine GW.skip ?_
              refine GW.region ?_
              refine R.move ⟨rfl, rfl, rfl, rfl⟩ rfl ?_
              refine R.add (r := (((k + 1) : Nat) : Int)) ⟨rfl, rfl, rfl, rfl⟩ rfl rfl (by rw [wrap64_id (by omega) (by omega)]; omega) ?_   -- add ['t82', '1']
              refine R.assign ⟨rfl, rfl, rfl, rfl⟩ rfl ?_
              refine GOps.nil ?_
              exact ⟨k + 1, by omega, ⟨by omega, allTo_succ hk0 (by simp only [sameAt_of hx hy]; rw [show sameRl x y = false by assumption]; rfl)⟩, rfl, by repeat (first | exact Keeps.nil _ | refine Keeps.cons rfl ?_), by first | exact Hs.refl _ | exact Hs.tl _ | exact Hs.tl2 _ _⟩
          · try simp only [decide_eq_true_eq, decide_eq_false_iff_not, Bool.not_eq_true', Bool.not_eq_false'] at hc10
            refine GW.exit ?_
            refine GW.region ?_
            refine R.move ⟨rfl, rfl, rfl, rfl⟩ rfl ?_
            refine R.add (r := (((i + 1) : Nat) : Int)) ⟨rfl, rfl, rfl, rfl⟩ rfl rfl (by rw [wrap64_id (by omega) (by omega)]; omega) ?_   -- add ['t77', '1']
            refine R.assign ⟨rfl, rfl, rfl, rfl⟩ rfl ?_
            refine GOps.nil ?_
            exact ⟨i + 1, by omega, ⟨by omega, allTo_succ h0 (allTo_cast hk0 (by omega))⟩, rfl, by repeat (first | exact Keeps.nil _ | refine Keeps.cons rfl ?_), by first | exact Hs.refl _ | exact Hs.tl _ | exact Hs.tl2 _ _⟩
        · try simp only [decide_eq_true_eq, decide_eq_false_iff_not, Bool.not_eq_true', Bool.not_eq_false'] at hc9
          have hD : noDup rs = true := by unfold noDup; rw [show rs.length = i by omega]; exact h0
          refine GW.exit ?_
          refine GW.seq ?_
          refine GW.seq ?_
          refine GW.region ?_
          refine R.move ⟨rfl, rfl, rfl, rfl⟩ rfl ?_
          refine R.lenS ⟨rfl, rfl, rfl, rfl⟩ rfl rfl Tryd.underlying22 ?_
          refine R.gtr ⟨rfl, rfl, rfl, rfl⟩ rfl rfl ?_   -- gtr ['t94', '1000']
          refine GOps.nil ?_
          refine GW.ite rfl (fun hc12 => ?_) (fun hc12 => ?_)
          · try simp only [decide_eq_true_eq, decide_eq_false_iff_not, Bool.not_eq_true', Bool.not_eq_false'] at hc12
            refine GW.seq ?_
            refine GW.region ?_
            refine R.assign ⟨rfl, rfl, rfl, rfl⟩ rfl ?_
            refine GOps.nil ?_
            refine GW.ret (Out.of (Res.one rfl rfl) (by first | exact Hs.refl _ | exact Hs.tl _ | exact Hs.tl2 _ _ | exact Hs.tl3 _ _ _ | exact (Hs.app _).trans (Hs.tl _) | exact (Hs.app _).trans ((Hs.app _).trans (Hs.tl _))) ⟨?_, rfl⟩)
            first | rw [prog_E h0 hx hc2] | rw [prog_5 hE hc3 (any_of_get badRule rs i x hx (bad_head hc5))] | rw [prog_5 hE hc3 (any_of_get badRule rs i x hx (bad_body hy (bad_lit hg7 hc8)))] | rw [prog_8 hE hnb (noDup_no (by omega) (by omega) hx hy (by assumption))] | rw [prog_9 hE hnb hD (by omega)] | rw [prog_0 hE hnb hD (by omega)]
          · try simp only [decide_eq_true_eq, decide_eq_false_iff_not, Bool.not_eq_true', Bool.not_eq_false'] at hc12
            refine GW.skip ?_
            refine GW.seq ?_
            refine GW.region ?_
            refine R.assign ⟨rfl, rfl, rfl, rfl⟩ rfl ?_
            refine GOps.nil ?_
            refine GW.ret (Out.of (Res.one rfl rfl) (by first | exact Hs.refl _ | exact Hs.tl _ | exact Hs.tl2 _ _ | exact Hs.tl3 _ _ _ | exact (Hs.app _).trans (Hs.tl _) | exact (Hs.app _).trans ((Hs.app _).trans (Hs.tl _))) ⟨?_, rfl⟩)
            first | rw [prog_E h0 hx hc2] | rw [prog_5 hE hc3 (any_of_get badRule rs i x hx (bad_head hc5))] | rw [prog_5 hE hc3 (any_of_get badRule rs i x hx (bad_body hy (bad_lit hg7 hc8)))] | rw [prog_8 hE hnb (noDup_no (by omega) (by omega) hx hy (by assumption))] | rw [prog_9 hE hnb hD (by omega)] | rw [prog_0 hE hnb hD (by omega)]
    · try simp only [decide_eq_true_eq, decide_eq_false_iff_not, Bool.not_eq_true', Bool.not_eq_false'] at hc3
      have hnb := nb2 hc3
      refine GW.skip ?_
      refine GW.seq ?_
      refine GW.seq ?_
      refine GW.region ?_
      refine R.assign ⟨rfl, rfl, rfl, rfl⟩ rfl ?_
      refine GOps.nil ?_
      refine GW.block ?_
      -- LOOP: live 0:l, 7:i
      refine GW.loopI (fun i : Nat => [(0, .slice A rs.length c), (7, .int .i64 i)]) (fun i => G) (fun i => rs.length - i) (fun i => i ≤ rs.length ∧ allTo (noSame rs) i = true) 0
        (by repeat (first | exact Keeps.nil _ | refine Keeps.cons rfl ?_)) (Hs.refl _) (⟨by omega, rfl⟩) ?_
      rintro i ⟨hi, h0⟩
      refine GW.seq ?_
      refine GW.seq ?_
      refine GW.region ?_
      refine R.move ⟨rfl, rfl, rfl, rfl⟩ rfl ?_
      refine R.move ⟨rfl, rfl, rfl, rfl⟩ rfl ?_
      refine R.lenS ⟨rfl, rfl, rfl, rfl⟩ rfl rfl Tryd.underlying22 ?_
      refine R.lss ⟨rfl, rfl, rfl, rfl⟩ rfl rfl ?_   -- lss ['t73', 't75']
      refine GOps.nil ?_
      refine GW.ite rfl (fun hc13 => ?_) (fun hc13 => ?_)
      · try simp only [decide_eq_true_eq, decide_eq_false_iff_not, Bool.not_eq_true', Bool.not_eq_false'] at hc13
        obtain ⟨x, hx⟩ : ∃ x, rs[i]? = some x := ⟨_, List.getElem?_eq_getElem (by omega)⟩
        obtain ⟨b, f, cs, rfl, ⟨A', c', rfl, hl', hm', hls⟩, hrd⟩ := hr i x hx
        have hxo := hok x (List.mem_of_getElem? hx)
        refine GW.skip ?_
        refine GW.seq ?_
        refine GW.block ?_
        refine GW.seq ?_
        refine GW.region ?_
        refine R.assign ⟨rfl, rfl, rfl, rfl⟩ rfl ?_
        refine GOps.nil ?_
        refine GW.block ?_
        -- LOOP: live 0:l, 7:i, 8:k
        refine GW.loopI (fun k : Nat => [(0, .slice (some ⟨b, f, none⟩) rs.length c), (7, .int .i64 i), (8, .int .i64 k)]) (fun k => G) (fun k => i - k) (fun k => k ≤ i ∧ allTo (fun k => !(sameAt rs i k)) k = true) 0
          (by repeat (first | exact Keeps.nil _ | refine Keeps.cons rfl ?_)) (Hs.refl _) (⟨by omega, rfl⟩) ?_
        rintro k ⟨hk, hk0⟩
        refine GW.seq ?_
        refine GW.seq ?_
        refine GW.region ?_
        refine R.move ⟨rfl, rfl, rfl, rfl⟩ rfl ?_
        refine R.move ⟨rfl, rfl, rfl, rfl⟩ rfl ?_
        refine R.lss ⟨rfl, rfl, rfl, rfl⟩ rfl rfl ?_   -- lss ['t79', 't80']
        refine GOps.nil ?_
        refine GW.ite rfl (fun hc14 => ?_) (fun hc14 => ?_)
        · try simp only [decide_eq_true_eq, decide_eq_false_iff_not, Bool.not_eq_true', Bool.not_eq_false'] at hc14
          obtain ⟨y, hy⟩ : ∃ y, rs[k]? = some y := ⟨_, List.getElem?_eq_getElem (by omega)⟩
          obtain ⟨b2, f2, cs2, he, ⟨A2, c2, rfl, hl2, hm2, hls2⟩, hrd2⟩ := hr k y hy
          cases he
          have hyo := hok y (List.mem_of_getElem? hy)
          refine GW.skip ?_
          refine GW.seq ?_
          refine GW.block ?_
          refine GW.seq ?_
          refine GW.drawS 9 rfl (by kernel_rfl) ?_
          refine GA.val 0 rfl (V.move ⟨rfl, rfl, rfl, rfl⟩ rfl) rfl (by kernel_rfl) (by kernel_rfl) (by kernel_rfl) ?_
          refine GA.val 1 rfl (V.move ⟨rfl, rfl, rfl, rfl⟩ rfl) rfl (by kernel_rfl) (by kernel_rfl) (by kernel_rfl) ?_
          refine GA.val 2 rfl (V.indexAddrS ⟨rfl, rfl, rfl, rfl⟩ rfl rfl Tryd.underlying22 Tryd.sizeOf46 (by omega) (by omega)) rfl (by kernel_rfl) (by kernel_rfl) (by kernel_rfl) ?_   -- ['t84', 't85']
          refine GA.val 3 rfl (V.loadA ⟨rfl, rfl, rfl, rfl⟩ rfl Tryd.underlying46 rfl Tryd.sizeOf46 (hrd) (by rfl)) rfl (by kernel_rfl) (by kernel_rfl) (by kernel_rfl) ?_   -- load 9 ref.go:107
          refine GA.val 4 rfl (V.move ⟨rfl, rfl, rfl, rfl⟩ rfl) rfl (by kernel_rfl) (by kernel_rfl) (by kernel_rfl) ?_
          refine GA.val 5 rfl (V.move ⟨rfl, rfl, rfl, rfl⟩ rfl) rfl (by kernel_rfl) (by kernel_rfl) (by kernel_rfl) ?_
          refine GA.val 6 rfl (V.indexAddrS ⟨rfl, rfl, rfl, rfl⟩ rfl rfl Tryd.underlying22 Tryd.sizeOf46 (by omega) (by omega)) rfl (by kernel_rfl) (by kernel_rfl) (by kernel_rfl) ?_   -- ['t88', 't89']
          refine GA.val 7 rfl (V.loadA ⟨rfl, rfl, rfl, rfl⟩ rfl Tryd.underlying46 rfl Tryd.sizeOf46 (hrd2) (by rfl)) rfl (by kernel_rfl) (by kernel_rfl) (by kernel_rfl) ?_   -- load 10 ref.go:107
          refine GA.one 8 (by first | exact Hs.refl _ | exact Hs.tl _ | exact Hs.tl2 _ _ | exact Hs.tl3 _ _ _ | exact Hs.sub (by simp)) (by kernel_rfl) rfl ?_
          refine R.call ⟨rfl, rfl, rfl, rfl⟩ rfl (vs := [_, _]) rfl ((ref_Same _ _ x y A' A2 c' c2 hls hls2 hxo.2 hyo.2).mono ?_)
          rintro _ _ ⟨rfl, rfl⟩
          refine GOps.nil ?_
          refine GA.done (by first | exact Hs.refl _ | exact Hs.tl _ | exact Hs.tl2 _ _ | exact Hs.tl3 _ _ _ | exact Hs.sub (by simp)) (by kernel_rfl) ?_
          refine GW.ite rfl (fun hc15 => ?_) (fun hc15 => ?_)
          · try simp only [decide_eq_true_eq, decide_eq_false_iff_not, Bool.not_eq_true', Bool.not_eq_false'] at hc15
            refine GW.seq ?_
            refine GW.region ?_
            refine R.assign ⟨rfl, rfl, rfl, rfl⟩ rfl ?_
            refine GOps.nil ?_
            refine GW.ret (Out.of (Res.one rfl rfl) (by first | exact Hs.refl _ | exact Hs.tl _ | exact Hs.tl2 _ _ | exact Hs.tl3 _ _ _ | exact (Hs.app _).trans (Hs.tl _) | exact (Hs.app _).trans ((Hs.app _).trans (Hs.tl _))) ⟨?_, rfl⟩)
            first | rw [prog_E h0 hx hc2] | rw [prog_5 hE hc3 (any_of_get badRule rs i x hx (bad_head hc5))] | rw [prog_5 hE hc3 (any_of_get badRule rs i x hx (bad_body hy (bad_lit hg7 hc8)))] | rw [prog_8 hE hnb (noDup_no (by omega) (by omega) hx hy (by assumption))] | rw [prog_9 hE hnb hD (by omega)] | rw [prog_0 hE hnb hD (by omega)]
          · try simp only [decide_eq_true_eq, decide_eq_false_iff_not, Bool.not_eq_true', Bool.not_eq_false'] at hc15
            refine GW.skip ?_
            refine GW.region ?_
            refine R.move ⟨rfl, rfl, rfl, rfl⟩ rfl ?_
            refine R.add (r := (((k + 1) : Nat) : Int)) ⟨rfl, rfl, rfl, rfl⟩ rfl rfl (by rw [wrap64_id (by omega) (by omega)]; omega) ?_   -- add ['t82', '1']
            refine R.assign ⟨rfl, rfl, rfl, rfl⟩ rfl ?_
            refine GOps.nil ?_
            exact ⟨k + 1, by omega, ⟨by omega, allTo_succ hk0 (by simp only [sameAt_of hx hy]; rw [show sameRl x y = false by assumption]; rfl)⟩, rfl, by repeat (first | exact Keeps.nil _ | refine Keeps.cons rfl ?_), by first | exact Hs.refl _ | exact Hs.tl _ | exact Hs.tl2 _ _⟩
        · try simp only [decide_eq_true_eq, decide_eq_false_iff_not, Bool.not_eq_true', Bool.not_eq_false'] at hc14
          refine GW.exit ?_
          refine GW.region ?_
          refine R.move ⟨rfl, rfl, rfl, rfl⟩ rfl ?_
          refine R.add (r := (((i + 1) : Nat) : Int)) ⟨rfl, rfl, rfl, rfl⟩ rfl rfl (by rw [wrap64_id (by omega) (by omega)]; omega) ?_   -- add ['t77', '1']
          refine R.assign ⟨rfl, rfl, rfl, rfl⟩ rfl ?_
          refine GOps.nil ?_
          exact ⟨i + 1, by omega, ⟨by omega, allTo_succ h0 (allTo_cast hk0 (by omega))⟩, rfl, by repeat (first | exact Keeps.nil _ | refine Keeps.cons rfl ?_), by first | exact Hs.refl _ | exact Hs.tl _ | exact Hs.tl2 _ _⟩
      · try simp only [decide_eq_true_eq, decide_eq_false_iff_not, Bool.not_eq_true', Bool.not_eq_false'] at hc13
        have hD : noDup rs = true := by unfold noDup; rw [show rs.length = i by omega]; exact h0
        refine GW.exit ?_
        refine GW.seq ?_
        refine GW.seq ?_
        refine GW.region ?_
        refine R.move ⟨rfl, rfl, rfl, rfl⟩ rfl ?_
        refine R.lenS ⟨rfl, rfl, rfl, rfl⟩ rfl rfl Tryd.underlying22 ?_
        refine R.gtr ⟨rfl, rfl, rfl, rfl⟩ rfl rfl ?_   -- gtr ['t94', '1000']
        refine GOps.nil ?_
        refine GW.ite rfl (fun hc16 => ?_) (fun hc16 => ?_)
        · try simp only [decide_eq_true_eq, decide_eq_false_iff_not, Bool.not_eq_true', Bool.not_eq_false'] at hc16
          refine GW.seq ?_
          refine GW.region ?_
          refine R.assign ⟨rfl, rfl, rfl, rfl⟩ rfl ?_
          refine GOps.nil ?_
          refine GW.ret (Out.of (Res.one rfl rfl) (by first | exact Hs.refl _ | exact Hs.tl _ | exact Hs.tl2 _ _ | exact Hs.tl3 _ _ _ | exact (Hs.app _).trans (Hs.tl _) | exact (Hs.app _).trans ((Hs.app _).trans (Hs.tl _))) ⟨?_, rfl⟩)
          first | rw [prog_E h0 hx hc2] | rw [prog_5 hE hc3 (any_of_get badRule rs i x hx (bad_head hc5))] | rw [prog_5 hE hc3 (any_of_get badRule rs i x hx (bad_body hy (bad_lit hg7 hc8)))] | rw [prog_8 hE hnb (noDup_no (by omega) (by omega) hx hy (by assumption))] | rw [prog_9 hE hnb hD (by omega)] | rw [prog_0 hE hnb hD (by omega)]
        · try simp only [decide_eq_true_eq, decide_eq_false_iff_not, Bool.not_eq_true', Bool.not_eq_false'] at hc16
          refine GW.skip ?_
          refine GW.seq ?_
          refine GW.region ?_
          refine R.assign ⟨rfl, rfl, rfl, rfl⟩ rfl ?_
          refine GOps.nil ?_
          refine GW.ret (Out.of (Res.one rfl rfl) (by first | exact Hs.refl _ | exact Hs.tl _ | exact Hs.tl2 _ _ | exact Hs.tl3 _ _ _ | exact (Hs.app _).trans (Hs.tl _) | exact (Hs.app _).trans ((Hs.app _).trans (Hs.tl _))) ⟨?_, rfl⟩)
          first | rw [prog_E h0 hx hc2] | rw [prog_5 hE hc3 (any_of_get badRule rs i x hx (bad_head hc5))] | rw [prog_5 hE hc3 (any_of_get badRule rs i x hx (bad_body hy (bad_lit hg7 hc8)))] | rw [prog_8 hE hnb (noDup_no (by omega) (by omega) hx hy (by assumption))] | rw [prog_9 hE hnb hD (by omega)] | rw [prog_0 hE hnb hD (by omega)]

end Go.Proofs.YtgjmandjhjfgkaaDoor.Gl
