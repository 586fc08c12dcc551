/- Part 5 of the proof: X6 X7 X8 X9 XA X10 X11 X12 Y1 Y2 Y3. -/
import Derived.Test.YtfddkcmooommeaaGreatDoorMA4
import Derived.Laws.Cover2
section
namespace Go.Proofs.YtfddkcmooommeaaGreatDoor.Gl
open Go.RowKit Go.Shelf
set_option linter.unusedVariables false
set_option linter.unnecessarySimpa false
set_option linter.unusedSimpArgs false
attribute [-simp] List.getD_eq_getElem?_getD
theorem flush_yes {kn : List Bool} {out wait : List St} {i : Nat} {x : St} {v : Value} {H : Hp} (hx : wait[i]? = some x) (hr : readyF kn x = true) (h : SlAt 11 50 (stsC (out ++ (wait.take i).filter (readyF kn)) ++ StC x) ((out ++ (wait.take i).filter (readyF kn)).length + 1) v H) : SlAt 11 50 (stsC (out ++ (wait.take (i + 1)).filter (readyF kn))) (out ++ (wait.take (i + 1)).filter (readyF kn)).length v H := by
  have e : (out ++ (wait.take (i + 1)).filter (readyF kn)) = (out ++ (wait.take i).filter (readyF kn)) ++ [x] := by rw [List.take_add_one, hx, List.filter_append, ← List.append_assoc]; simp [hr]
  rw [e, sts_app, sts_one, List.length_append]
  exact h
theorem flush_no {kn : List Bool} {out wait : List St} {i : Nat} {x : St} {v : Value} {H : Hp} (hx : wait[i]? = some x) (hr : readyF kn x = false) (h : SlAt 11 50 (stsC (out ++ (wait.take i).filter (readyF kn))) (out ++ (wait.take i).filter (readyF kn)).length v H) : SlAt 11 50 (stsC (out ++ (wait.take (i + 1)).filter (readyF kn))) (out ++ (wait.take (i + 1)).filter (readyF kn)).length v H := by
  have e : (out ++ (wait.take (i + 1)).filter (readyF kn)) = (out ++ (wait.take i).filter (readyF kn)) := by rw [List.take_add_one, hx, List.filter_append]; simp [hr]
  rw [e]
  exact h
theorem out_len {kn : List Bool} {out wait : List St} {i : Nat} (hi : i ≤ wait.length) : (out ++ (wait.take i).filter (readyF kn)).length ≤ out.length + wait.length := by
  have := List.length_filter_le (readyF kn) (wait.take i)
  rw [List.length_take] at this
  rw [List.length_append]
  omega
theorem steps_flush (w0 : World) (G : Hp) (vw vo : Value) (Hw Ho : Hp) (wait out : List St) (bW bR bO : Nat) (kn : List Bool) (bK bk : Nat) (hK : (bK, Know.exact (.cells #[.slice (some ⟨bk, 0, none⟩) kn.length kn.length] 47 (0, 0))) ∈ G) (hk : (bk, Know.exact (.cells (boolC kn).toArray 4 (0, 0))) ∈ G) (hR : (bR, Know.exact (.cells #[.func (.func 61) #[] #[.pointer (some ⟨bK, 0, none⟩)]] 133 (0, 0))) ∈ G) (hw : SlAt 11 50 (stsC wait) wait.length vw Hw) (ho : SlAt 11 50 (stsC out) out.length vo Ho) (hwl : wait.length ≤ 10000) (hol : out.length ≤ 10000)
    (hb : ∀ s ∈ wait, ∀ p ∈ placesSt s, p.var < kn.length) : GC Tryz.prog w0 63 (#[] ++ #[] ++ #[.pointer (some ⟨bW, 0, none⟩), .pointer (some ⟨bR, 0, none⟩), .pointer (some ⟨bO, 0, none⟩)]) (fun v G' => ∃ vw' Hw' vo' Ho', (v = .tuple #[] ∧ SlAt 11 50 (stsC (wait.filter fun s => !readyF kn s)) (wait.filter fun s => !readyF kn s).length vw' Hw' ∧ SlAt 11 50 (stsC (out ++ wait.filter (readyF kn))) (out ++ wait.filter (readyF kn)).length vo' Ho') ∧ (bW, .exact (.cells #[vw'] 39 (0, 0))) :: (bO, .exact (.cells #[vo'] 39 (0, 0))) :: (Hw' ++ (Ho' ++ G)) = G') ((bW, .exact (.cells #[vw] 39 (0, 0))) :: (bO, .exact (.cells #[vo] 39 (0, 0))) :: (Hw ++ (Ho ++ G))) := by
  obtain ⟨Aw, cw, rfl, hws, hcw⟩ := hw.sts w0 []
  rw [List.append_nil] at hws
  refine GC.body (args := [.pointer (some ⟨bW, 0, none⟩), .pointer (some ⟨bR, 0, none⟩), .pointer (some ⟨bO, 0, none⟩)]) Tryz.func63 rfl (by kernel_rfl) rfl ?_
  refine GW.seq ?_
  refine GW.seq ?_
  refine GW.region ?_
  refine R.load1 ⟨rfl, rfl, rfl, rfl⟩ rfl Tryz.underlying39 rfl (.own' (by repeat (first | exact List.mem_cons_self | apply List.mem_cons_of_mem | apply List.mem_append_right)) (by rfl)) ?_   -- load 0 plan.go:91 t0
  refine R.lenS ⟨rfl, rfl, rfl, rfl⟩ rfl rfl Tryz.underlying39 ?_
  refine R.move ⟨rfl, rfl, rfl, rfl⟩ rfl ?_
  refine GOps.nil ?_
  refine GW.block ?_
  -- LOOP: live 0, 1, 2, 5, 6, 7
  refine GW.loop4 (fun (i : Nat) (vo' : Value) (Ho' : Hp) (u1 : Unit) => [(0, .pointer (some ⟨bW, 0, none⟩)), (1, .pointer (some ⟨bR, 0, none⟩)), (2, .pointer (some ⟨bO, 0, none⟩)), (5, .slice Aw wait.length cw), (6, .int .i64 wait.length), (7, .int .i64 i)]) (fun (i : Nat) (vo' : Value) (Ho' : Hp) (u1 : Unit) => (bW, .exact (.cells #[.slice Aw wait.length cw] 39 (0, 0))) :: (bO, .exact (.cells #[vo'] 39 (0, 0))) :: (Hw ++ (Ho' ++ G))) (fun i : Nat => wait.length - i) (fun (i : Nat) (vo' : Value) (Ho' : Hp) (u1 : Unit) => i ≤ wait.length ∧ SlAt 11 50 (stsC (out ++ (wait.take i).filter (readyF kn))) (out ++ (wait.take i).filter (readyF kn)).length vo' Ho') 0 (vo) (Ho) (())
    (by repeat (first | exact Keeps.nil _ | refine Keeps.cons rfl ?_)) (Hs.refl _) (⟨by omega, by simpa using ho⟩) ?_
  rintro i vo' Ho' u1 ⟨hi, ho'⟩
  refine GW.seq ?_
  refine GW.region ?_
  refine R.lss ⟨rfl, rfl, rfl, rfl⟩ rfl rfl ?_   -- lss ['t7', 't6']
  refine GOps.nil ?_
  refine GW.seq ?_
  refine GW.ite rfl (fun hc1 => ?_) (fun hc1 => ?_)
  · try simp only [decide_eq_true_eq, decide_eq_false_iff_not, Bool.not_eq_true', Bool.not_eq_false'] at hc1
    obtain ⟨x, hx⟩ : ∃ x, wait[i]? = some x := ⟨_, List.getElem?_eq_getElem (by omega)⟩
    obtain ⟨xb, xo, cs, rfl, rfl, hrd⟩ := hws i x hx
    have hol2 := out_len (kn := kn) (out := out) (wait := wait) (i := i) (by omega)
    refine GW.skip ?_
    refine GW.seq ?_
    refine GW.block ?_
    refine GW.seq ?_
    refine GW.region ?_
    refine R.indexAddrS ⟨rfl, rfl, rfl, rfl⟩ rfl rfl Tryz.underlying39 Tryz.sizeOf50 (by omega) (by omega) ?_   -- ['t5', 't7']
    refine R.loadA ⟨rfl, rfl, rfl, rfl⟩ rfl Tryz.underlying50 rfl Tryz.sizeOf50 (hrd.mono (fun y hy => List.mem_cons_of_mem _ (List.mem_cons_of_mem _ (List.mem_append_left _ hy)))) (by rfl) ?_   -- load 1 plan.go:91
    refine R.alloc ⟨rfl, rfl, rfl, rfl⟩ Tryz.zeroValue50 fun b4 => ?_
    refine R.storeAll (G1 := []) rfl rfl rfl rfl rfl Tryz.sizeOf50 rfl rfl rfl rfl ?_   -- t4:s
    refine GOps.nil ?_
    refine GW.seq ?_
    refine GW.region ?_
    refine R.load1 ⟨rfl, rfl, rfl, rfl⟩ rfl Tryz.underlying133 rfl (.own' (List.mem_cons_of_mem _ (List.mem_cons_of_mem _ (List.mem_cons_of_mem _ (List.mem_append_right _ (List.mem_append_right _ hR))))) rfl) ?_   -- load 2 plan.go:92
    refine R.load_own (cs := StC x) ⟨rfl, rfl, rfl, rfl⟩ rfl Tryz.underlying50 rfl Tryz.sizeOf50 (by repeat (first | exact List.mem_cons_self | apply List.mem_cons_of_mem | apply List.mem_append_right)) (by rfl) (by rfl) ?_   -- load 3 plan.go:92 t4:s
    refine R.call ⟨rfl, rfl, rfl, rfl⟩ rfl (vs := [_]) rfl ((steps_ready _ _ x kn bK bk (List.mem_cons_of_mem _ (List.mem_cons_of_mem _ (List.mem_cons_of_mem _ (List.mem_append_right _ (List.mem_append_right _ hK))))) (List.mem_cons_of_mem _ (List.mem_cons_of_mem _ (List.mem_cons_of_mem _ (List.mem_append_right _ (List.mem_append_right _ hk))))) (hb x (List.mem_of_getElem? hx))).mono ?_)
    rintro _ _ ⟨rfl, rfl⟩
    refine GOps.nil ?_
    refine GW.ite rfl (fun hc2 => ?_) (fun hc2 => ?_)
    · try simp only [decide_eq_true_eq, decide_eq_false_iff_not, Bool.not_eq_true', Bool.not_eq_false'] at hc2
      refine GW.region ?_
      refine R.load1 ⟨rfl, rfl, rfl, rfl⟩ rfl Tryz.underlying39 rfl (.own' (by repeat (first | exact List.mem_cons_self | apply List.mem_cons_of_mem | apply List.mem_append_right)) (by rfl)) ?_   -- load 4 plan.go:93 t2
      refine R.load_own (cs := StC x) ⟨rfl, rfl, rfl, rfl⟩ rfl Tryz.underlying50 rfl Tryz.sizeOf50 (by repeat (first | exact List.mem_cons_self | apply List.mem_cons_of_mem | apply List.mem_append_right)) (by rfl) (by rfl) ?_   -- load 5 plan.go:93 t4:s
      refine R.buildSliceF (sz := 11) (bytes := 88) (vs := [_]) (cs := StC x) ⟨rfl, rfl, rfl, rfl⟩ rfl Tryz.underlying39 (InfoE.mk (by kernel_rfl)) rfl rfl rfl rfl rfl fun b16 => ?_   -- build 0 type 39
      refine R.append (sz := 11) (bytes := 88) (G1 := [_, _, _, _] ++ Hw) (H := Ho') (news := StC x) ⟨rfl, rfl, rfl, rfl⟩ rfl rfl rfl Tryz.underlying39 (InfoE.mk (by kernel_rfl)) (ho') (rfl) (rfl) (.own (by repeat (first | exact List.mem_cons_self | apply List.mem_cons_of_mem | apply List.mem_append_right | exact List.mem_append_left _ List.mem_cons_self)) 0 _ (fun j v hv => by simpa using hv)) (by omega) (by rfl) (by omega) (by omega) fun v17 H17 hv17 => ?_
      obtain ⟨A17, c17, rfl, hc17⟩ := hv17.split
      refine R.storeAll (G1 := [_, _, _]) rfl rfl rfl rfl rfl Tryz.sizeOf39 rfl rfl rfl rfl ?_   -- t2
      refine GOps.nil ?_
      refine GW.region ?_
      refine R.add (r := (((i + 1) : Nat) : Int)) ⟨rfl, rfl, rfl, rfl⟩ rfl rfl (by rw [wrap64_id (by omega) (by omega)]; omega) ?_   -- add ['t7', '1']
      refine R.move ⟨rfl, rfl, rfl, rfl⟩ rfl ?_
      refine GOps.nil ?_
      first | exact ⟨i + 1, .slice A17 _ c17, H17, (), by omega, ⟨by omega, flush_yes hx (by assumption) hv17⟩, rfl, by repeat (first | exact Keeps.nil _ | refine Keeps.cons rfl ?_), Hs.tl2 _ _⟩ | exact ⟨i + 1, vo', Ho', (), by omega, ⟨by omega, flush_no hx (by assumption) ho'⟩, rfl, by repeat (first | exact Keeps.nil _ | refine Keeps.cons rfl ?_), Hs.tl _⟩
    · try simp only [decide_eq_true_eq, decide_eq_false_iff_not, Bool.not_eq_true', Bool.not_eq_false'] at hc2
      refine GW.skip ?_
      refine GW.region ?_
      refine R.add (r := (((i + 1) : Nat) : Int)) ⟨rfl, rfl, rfl, rfl⟩ rfl rfl (by rw [wrap64_id (by omega) (by omega)]; omega) ?_   -- add ['t7', '1']
      refine R.move ⟨rfl, rfl, rfl, rfl⟩ rfl ?_
      refine GOps.nil ?_
      first | exact ⟨i + 1, .slice A17 _ c17, H17, (), by omega, ⟨by omega, flush_yes hx (by assumption) hv17⟩, rfl, by repeat (first | exact Keeps.nil _ | refine Keeps.cons rfl ?_), Hs.tl2 _ _⟩ | exact ⟨i + 1, vo', Ho', (), by omega, ⟨by omega, flush_no hx (by assumption) ho'⟩, rfl, by repeat (first | exact Keeps.nil _ | refine Keeps.cons rfl ?_), Hs.tl _⟩
  · try simp only [decide_eq_true_eq, decide_eq_false_iff_not, Bool.not_eq_true', Bool.not_eq_false'] at hc1
    rw [List.take_of_length_le (by omega)] at ho'
    refine GW.exit ?_
    refine GW.region ?_
    refine R.load1 ⟨rfl, rfl, rfl, rfl⟩ rfl Tryz.underlying39 rfl (.own' (by repeat (first | exact List.mem_cons_self | apply List.mem_cons_of_mem | apply List.mem_append_right)) (by rfl)) ?_   -- load 6 plan.go:96 t0
    refine R.load1 ⟨rfl, rfl, rfl, rfl⟩ rfl Tryz.underlying133 rfl (.own' (List.mem_cons_of_mem _ (List.mem_cons_of_mem _ (List.mem_append_right _ (List.mem_append_right _ hR)))) rfl) ?_   -- load 7 plan.go:96
    refine GOps.weak (Keeps.refl _) (Hs.perm (pm2 _ _ _ _)) ?_
    refine R.call ⟨rfl, rfl, rfl, rfl⟩ rfl (vs := [_, _]) rfl ((del_St _ _ (.slice Aw wait.length cw) Hw wait 61 #[.pointer (some ⟨bK, 0, none⟩)] (readyF kn) hw (by omega) (fun o ho G1 h1 => steps_ready _ _ o kn bK bk (h1 _ (List.mem_cons_of_mem _ (List.mem_cons_of_mem _ (List.mem_append_right _ hK)))) (h1 _ (List.mem_cons_of_mem _ (List.mem_cons_of_mem _ (List.mem_append_right _ hk)))) (hb o ho))).mono ?_)
    rintro v21 _ ⟨Hw2, hw2, rfl⟩
    refine GOps.weak (Keeps.refl _) (Hs.perm (pm2 _ _ _ _).symm) ?_
    obtain ⟨A21, c21, rfl, hc21⟩ := hw2.split
    refine R.storeAll (G1 := []) rfl rfl rfl rfl rfl Tryz.sizeOf39 rfl rfl rfl rfl ?_   -- t0
    refine GOps.nil ?_
    exact Out.end_ (Res.none rfl) (Hs.refl _) ⟨.slice A21 _ c21, Hw2, vo', Ho', ⟨rfl, hw2, ho'⟩, rfl⟩
end Go.Proofs.YtfddkcmooommeaaGreatDoor.Gl
end
section
namespace Go.Proofs.YtfddkcmooommeaaGreatDoor.Gl
open Go.RowKit Go.Shelf
set_option linter.unusedVariables false
set_option linter.unnecessarySimpa false
set_option linter.unusedSimpArgs false
attribute [-simp] List.getD_eq_getElem?_getD
def zC (xs : List Int) : List Value := xs.map fun z => Value.int .i64 z
def IntsAt (w0 : World) (G : Hp) (A : Option Addr) (xs : List Int) : Prop := RowAt w0 G 1 (fun z cs => cs = [.int .i64 z]) A xs
theorem IntsAt.mono {w0 : World} {G G' : Hp} {A : Option Addr} {xs : List Int} (h : IntsAt w0 G A xs) (hs : ∀ y ∈ G, y ∈ G') : IntsAt w0 G' A xs := fun i x hx => by obtain ⟨b, o, cs, h1, h2, h3⟩ := h i x hx; exact ⟨b, o, cs, h1, h2, h3.mono hs⟩
theorem int_at {w0 : World} {G : Hp} {A : Option Addr} {xs : List Int} {i : Nat} {z : Int} (h : IntsAt w0 G A xs) (hx : xs[i]? = some z) : ∃ b o, A = some ⟨b, o, none⟩ ∧ Rd w0 G b (o + i * 1) (.int .i64 z) := by
  obtain ⟨b, o, cs, hA, rfl, h3⟩ := h i z hx
  exact ⟨b, o, hA, h3 0 _ rfl⟩
theorem SlAt.ints {xs : List Int} {v : Value} {H : Hp} (w0 : World) (G : Hp) (h : SlAt 1 3 (zC xs) xs.length v H) : ∃ A c, v = .slice A xs.length c ∧ IntsAt w0 (H ++ G) A xs ∧ xs.length ≤ c := by
  generalize hn : xs.length = n at h
  cases h with
  | nil h0 hc =>
    subst h0
    rw [List.length_eq_zero_iff] at hn
    subst hn
    exact ⟨none, 0, rfl, fun i x hx => by simp at hx, Nat.le_refl _⟩
  | row b cap hl hc =>
    refine ⟨some ⟨b, 0, none⟩, cap, rfl, fun i x hx => ⟨b, 0, _, rfl, rfl, fun j v hv => ?_⟩, hc⟩
    refine .own (List.mem_append_left _ List.mem_cons_self) ?_
    cases j with
    | zero =>
      simp at hv
      subst hv
      show (zC xs)[0 + i * 1 + 0]? = _
      rw [show 0 + i * 1 + 0 = i by omega]
      simp [zC, hx]
    | succ j => simp at hv
theorem exact_ints {w0 : World} {G : Hp} {b : Nat} {ns : List Nat} (h : (b, Know.exact (.cells (intC ns).toArray 3 (0, 0))) ∈ G) : IntsAt w0 G (some ⟨b, 0, none⟩) (ns.map fun n : Nat => (n : Int)) := by
  intro i x hx
  rw [List.getElem?_map, Option.map_eq_some_iff] at hx
  obtain ⟨n, hn, rfl⟩ := hx
  refine ⟨b, 0, _, rfl, rfl, fun j v hv => ?_⟩
  refine .own h ?_
  cases j with
  | zero =>
    simp at hv
    subst hv
    show (intC ns).toArray[0 + i * 1 + 0]? = _
    rw [show 0 + i * 1 + 0 = i by omega, List.getElem?_toArray]
    exact intC_get hn
  | succ j => simp at hv
def upL (n i : Nat) : List Nat := (List.range n).map fun j => if j < i then j else 0
theorem upL_len (n i : Nat) : (upL n i).length = n := by simp [upL]
theorem upL_all (n : Nat) : upL n n = List.range n := by
  unfold upL
  conv => rhs; rw [← List.map_id (List.range n)]
  refine List.map_congr_left fun j hj => ?_
  rw [if_pos (List.mem_range.1 hj)]
  rfl
theorem upL_set {n i : Nat} (h : i < n) : (upL n i).set i i = upL n (i + 1) := by
  apply List.ext_getElem?
  intro j
  rw [List.getElem?_set, upL_len]
  split
  · rename_i e
    subst e
    simp [upL, h]
  · rename_i e
    unfold upL
    rcases Nat.lt_or_ge j n with hj | hj
    · simp only [List.getElem?_map, List.getElem?_range hj, Option.map_some]
      congr 1
      by_cases h1 : j < i
      · rw [if_pos h1, if_pos (by omega)]
      · rw [if_neg h1, if_neg (by omega)]
    · rw [List.getElem?_eq_none (by simpa using hj), List.getElem?_eq_none (by simpa using hj)]
theorem upL_put {n i : Nat} (h : i < n) : splice (intC (upL n i)).toArray (0 + (i : Int).toNat * 1) (Value.int .i64 (i : Nat)).cells.toList = (intC (upL n (i + 1))).toArray := by
  rw [show 0 + (i : Int).toNat * 1 = i by simp, show (Value.int .i64 (i : Nat)).cells.toList = [Value.int .i64 (i : Nat)] from rfl, splice_one (by rw [intC_len, upL_len]; exact h), ← upL_set h]
  simp [intC, List.map_set]
theorem upL_zero (n : Nat) : (intC (upL n 0)).toArray = (List.replicate n (Value.int .i64 0)).toArray := by
  congr 1
  apply List.ext_getElem?
  intro j
  rcases Nat.lt_or_ge j n with hj | hj
  · simp [intC, upL, hj]
  · rw [List.getElem?_eq_none (by rw [intC_len, upL_len]; exact hj), List.getElem?_eq_none (by simpa using hj)]
theorem Hs.cellsEq {b : Nat} {e : TypeId} {C D : Array Value} (h : C = D) (R : Hp) : Hs ((b, .exact (.cells C e (0, 0))) :: R) ((b, .exact (.cells D e (0, 0))) :: R) := h ▸ Hs.refl _
theorem take_eq_succ {xs ys : List Int} {i : Nat} {x y : Int} (h : xs.take i = ys.take i) (hx : xs[i]? = some x) (hy : ys[i]? = some y) (he : x = y) : xs.take (i + 1) = ys.take (i + 1) := by
  rw [List.take_add_one, List.take_add_one, h, hx, hy, he]
theorem plan_upTo (w0 : World) (G : Hp) (n : Nat) (hn : n ≤ 100000) : GC Tryz.prog w0 60 #[.int .i64 (n : Nat)] (fun v G' => ∃ b, v = .slice (some ⟨b, 0, none⟩) n n ∧ (b, .exact (.cells (intC (List.range n)).toArray 3 (0, 0))) :: G = G') G := by
  refine GC.body (args := [.int .i64 (n : Nat)]) Tryz.func60 rfl (by kernel_rfl) rfl ?_
  refine GW.seq ?_
  refine GW.region ?_
  refine R.assign ⟨rfl, rfl, rfl, rfl⟩ rfl ?_
  refine GOps.nil ?_
  refine GW.seq ?_
  refine GW.region ?_
  refine R.move ⟨rfl, rfl, rfl, rfl⟩ rfl ?_
  refine R.makeZero (n := n) (bytes := 8) (z0 := .int .i64 0) ⟨rfl, rfl, rfl, rfl⟩ (by rfl) (by rfl) Tryz.underlying32 (InfoE.mk (by kernel_rfl)) (InfoZ.mk (by kernel_rfl)) (by omega) (by omega) fun b6 => ?_
  refine R.assign ⟨rfl, rfl, rfl, rfl⟩ rfl ?_
  refine GOps.nil ?_
  refine GW.seq ?_
  refine GW.seq ?_
  refine GW.region ?_
  refine R.move ⟨rfl, rfl, rfl, rfl⟩ rfl ?_
  refine R.lenS ⟨rfl, rfl, rfl, rfl⟩ rfl rfl Tryz.underlying32 ?_
  refine R.move ⟨rfl, rfl, rfl, rfl⟩ rfl ?_
  refine GOps.nil ?_
  refine GW.block ?_
  -- LOOP: live 3:l, 8, 9
  refine GW.loopI (fun i : Nat => [(3, .slice (some ⟨b6, 0, none⟩) n n), (8, .int .i64 n), (9, .int .i64 i)]) (fun i => (b6, .exact (.cells (intC (upL n i)).toArray 3 (0, 0))) :: G) (fun i => n - i) (fun i => i ≤ n) 0
    (by repeat (first | exact Keeps.nil _ | refine Keeps.cons rfl ?_)) (Hs.cellsEq (upL_zero n).symm _) (Nat.zero_le _) ?_
  rintro i hi
  refine GW.seq ?_
  refine GW.region ?_
  refine R.lss ⟨rfl, rfl, rfl, rfl⟩ rfl rfl ?_   -- lss ['t9', 't8']
  refine GOps.nil ?_
  refine GW.seq ?_
  refine GW.ite rfl (fun hc1 => ?_) (fun hc1 => ?_)
  · try simp only [decide_eq_true_eq, decide_eq_false_iff_not, Bool.not_eq_true', Bool.not_eq_false'] at hc1
    refine GW.skip ?_
    refine GW.seq ?_
    refine GW.block ?_
    refine GW.seq ?_
    refine GW.region ?_
    refine R.move ⟨rfl, rfl, rfl, rfl⟩ rfl ?_
    refine R.assign ⟨rfl, rfl, rfl, rfl⟩ rfl ?_
    refine GOps.nil ?_
    refine GW.region ?_
    refine R.move ⟨rfl, rfl, rfl, rfl⟩ rfl ?_
    refine R.move ⟨rfl, rfl, rfl, rfl⟩ rfl ?_
    refine R.move ⟨rfl, rfl, rfl, rfl⟩ rfl ?_
    refine R.indexAddrS ⟨rfl, rfl, rfl, rfl⟩ rfl rfl Tryz.underlying32 Tryz.sizeOf3 (by omega) (by omega) ?_   -- ['t12', 't13']
    refine R.store (G1 := []) rfl rfl rfl rfl rfl Tryz.sizeOf3 rfl rfl (rfl) (by simp [intC_len, upL_len]; omega) ?_   -- t15
    refine GOps.nil ?_
    refine GW.region ?_
    refine R.add (r := (((i + 1) : Nat) : Int)) ⟨rfl, rfl, rfl, rfl⟩ rfl rfl (by rw [wrap64_id (by omega) (by omega)]; omega) ?_   -- add ['t9', '1']
    refine R.move ⟨rfl, rfl, rfl, rfl⟩ rfl ?_
    refine GOps.nil ?_
    exact ⟨i + 1, by omega, by omega, rfl, by repeat (first | exact Keeps.nil _ | refine Keeps.cons rfl ?_), by first | exact Hs.refl _ | exact Hs.tl _ | exact Hs.tl2 _ _ | exact Hs.cellsEq (upL_put (by omega)) _⟩
  · try simp only [decide_eq_true_eq, decide_eq_false_iff_not, Bool.not_eq_true', Bool.not_eq_false'] at hc1
    refine GW.exit ?_
    refine GW.seq ?_
    refine GW.region ?_
    refine R.move ⟨rfl, rfl, rfl, rfl⟩ rfl ?_
    refine R.assign ⟨rfl, rfl, rfl, rfl⟩ rfl ?_
    refine GOps.nil ?_
    obtain rfl : i = n := by omega
    rw [upL_all]
    exact GW.ret (Out.of (Res.one rfl rfl) (Hs.refl _) ⟨b6, rfl, rfl⟩)
theorem sl_EqInt (w0 : World) (G : Hp) (A B : Option Addr) (xs ys : List Int) (c e : Nat) (hx : IntsAt w0 G A xs) (hy : IntsAt w0 G B ys) (hm : xs.length ≤ 100000) (hm2 : ys.length ≤ 100000) : GC Tryz.prog w0 59 #[.slice A xs.length c, .slice B ys.length e] (fun v G' => v = .bool (decide (xs = ys)) ∧ G = G') G := by
  refine GC.body (args := [.slice A xs.length c, .slice B ys.length e]) Tryz.func59 rfl (by kernel_rfl) rfl ?_
  refine GW.seq ?_
  refine GW.region ?_
  refine R.assign ⟨rfl, rfl, rfl, rfl⟩ rfl ?_
  refine GOps.nil ?_
  refine GW.seq ?_
  refine GW.seq ?_
  refine GW.region ?_
  refine R.move ⟨rfl, rfl, rfl, rfl⟩ rfl ?_
  refine R.lenS ⟨rfl, rfl, rfl, rfl⟩ rfl rfl Tryz.underlying32 ?_
  refine R.move ⟨rfl, rfl, rfl, rfl⟩ rfl ?_
  refine R.lenS ⟨rfl, rfl, rfl, rfl⟩ rfl rfl Tryz.underlying32 ?_
  refine R.neI ⟨rfl, rfl, rfl, rfl⟩ rfl rfl ?_   -- neq ['t7', 't9']
  refine GOps.nil ?_
  refine GW.ite rfl (fun hc1 => ?_) (fun hc1 => ?_)
  · try simp only [decide_eq_true_eq, decide_eq_false_iff_not, Bool.not_eq_true', Bool.not_eq_false'] at hc1
    have hne : xs ≠ ys := fun e0 => by subst e0; omega
    refine GW.seq ?_
    refine GW.region ?_
    refine R.assign ⟨rfl, rfl, rfl, rfl⟩ rfl ?_
    refine GOps.nil ?_
    refine GW.ret (Out.of (Res.one rfl rfl) (by first | exact Hs.refl _ | exact Hs.tl _ | exact Hs.tl2 _ _ | exact Hs.tl3 _ _ _ | exact (Hs.app _).trans (Hs.tl _) | exact (Hs.app _).trans ((Hs.app _).trans (Hs.tl _)) | exact Hs.sub (by repeat (first | exact List.Sublist.refl _ | apply List.Sublist.cons))) ⟨?_, rfl⟩)
    first | rw [decide_eq_false hne] | rw [decide_eq_true heq]
  · try simp only [decide_eq_true_eq, decide_eq_false_iff_not, Bool.not_eq_true', Bool.not_eq_false'] at hc1
    refine GW.skip ?_
    refine GW.seq ?_
    refine GW.seq ?_
    refine GW.region ?_
    refine R.move ⟨rfl, rfl, rfl, rfl⟩ rfl ?_
    refine R.lenS ⟨rfl, rfl, rfl, rfl⟩ rfl rfl Tryz.underlying32 ?_
    refine R.move ⟨rfl, rfl, rfl, rfl⟩ rfl ?_
    refine GOps.nil ?_
    refine GW.block ?_
    -- LOOP: live 0:s1, 1:s2, 12, 13
    refine GW.loopI (fun i : Nat => [(0, .slice A xs.length c), (1, .slice B ys.length e), (12, .int .i64 xs.length), (13, .int .i64 i)]) (fun i => G) (fun i => xs.length - i) (fun i => i ≤ xs.length ∧ xs.take i = ys.take i) 0
      (by repeat (first | exact Keeps.nil _ | refine Keeps.cons rfl ?_)) (Hs.refl _) (⟨by omega, by simp⟩) ?_
    rintro i ⟨hi, h0⟩
    refine GW.seq ?_
    refine GW.region ?_
    refine R.lss ⟨rfl, rfl, rfl, rfl⟩ rfl rfl ?_   -- lss ['t13', 't12']
    refine GOps.nil ?_
    refine GW.seq ?_
    refine GW.ite rfl (fun hc2 => ?_) (fun hc2 => ?_)
    · try simp only [decide_eq_true_eq, decide_eq_false_iff_not, Bool.not_eq_true', Bool.not_eq_false'] at hc2
      obtain ⟨x, hxi⟩ : ∃ x, xs[i]? = some x := ⟨_, List.getElem?_eq_getElem (by omega)⟩
      obtain ⟨y, hyi⟩ : ∃ y, ys[i]? = some y := ⟨_, List.getElem?_eq_getElem (by omega)⟩
      obtain ⟨xb, xo, rfl, hrx⟩ := int_at hx hxi
      obtain ⟨yb, yo, rfl, hry⟩ := int_at hy hyi
      refine GW.skip ?_
      refine GW.seq ?_
      refine GW.block ?_
      refine GW.seq ?_
      refine GW.region ?_
      refine R.move ⟨rfl, rfl, rfl, rfl⟩ rfl ?_
      refine R.assign ⟨rfl, rfl, rfl, rfl⟩ rfl ?_
      refine GOps.nil ?_
      refine GW.seq ?_
      refine GW.drawS 9 rfl (by kernel_rfl) ?_
      refine GA.val 0 rfl (V.move ⟨rfl, rfl, rfl, rfl⟩ rfl) rfl (by kernel_rfl) (by kernel_rfl) (by kernel_rfl) ?_
      refine GA.val 1 rfl (V.move ⟨rfl, rfl, rfl, rfl⟩ rfl) rfl (by kernel_rfl) (by kernel_rfl) (by kernel_rfl) ?_
      refine GA.val 2 rfl (V.indexAddrS ⟨rfl, rfl, rfl, rfl⟩ rfl rfl Tryz.underlying32 Tryz.sizeOf3 (by omega) (by omega)) rfl (by kernel_rfl) (by kernel_rfl) (by kernel_rfl) ?_   -- ['t16', 't17']
      refine GA.val 3 rfl (V.load1 ⟨rfl, rfl, rfl, rfl⟩ rfl Tryz.underlying3 rfl (hrx)) rfl (by kernel_rfl) (by kernel_rfl) (by kernel_rfl) ?_   -- load 0 slices.go:25
      refine GA.val 4 rfl (V.move ⟨rfl, rfl, rfl, rfl⟩ rfl) rfl (by kernel_rfl) (by kernel_rfl) (by kernel_rfl) ?_
      refine GA.val 5 rfl (V.move ⟨rfl, rfl, rfl, rfl⟩ rfl) rfl (by kernel_rfl) (by kernel_rfl) (by kernel_rfl) ?_
      refine GA.val 6 rfl (V.indexAddrS ⟨rfl, rfl, rfl, rfl⟩ rfl rfl Tryz.underlying32 Tryz.sizeOf3 (by omega) (by omega)) rfl (by kernel_rfl) (by kernel_rfl) (by kernel_rfl) ?_   -- ['t20', 't21']
      refine GA.val 7 rfl (V.load1 ⟨rfl, rfl, rfl, rfl⟩ rfl Tryz.underlying3 rfl (hry)) rfl (by kernel_rfl) (by kernel_rfl) (by kernel_rfl) ?_   -- load 1 slices.go:25
      refine GA.val 8 rfl (V.neI ⟨rfl, rfl, rfl, rfl⟩ rfl rfl) rfl (by kernel_rfl) (by kernel_rfl) (by kernel_rfl) ?_   -- neq ['t19', 't23']
      refine GA.done (by first | exact Hs.refl _ | exact Hs.tl _ | exact Hs.tl2 _ _ | exact Hs.tl3 _ _ _ | exact Hs.app _ | exact Hs.sub (by simp)) (by kernel_rfl) ?_
      refine GW.ite rfl (fun hc3 => ?_) (fun hc3 => ?_)
      · try simp only [decide_eq_true_eq, decide_eq_false_iff_not, Bool.not_eq_true', Bool.not_eq_false'] at hc3
        have hne : xs ≠ ys := fun e0 => by subst e0; rw [hxi] at hyi; have := Option.some.inj hyi; omega
        refine GW.seq ?_
        refine GW.region ?_
        refine R.assign ⟨rfl, rfl, rfl, rfl⟩ rfl ?_
        refine GOps.nil ?_
        refine GW.ret (Out.of (Res.one rfl rfl) (by first | exact Hs.refl _ | exact Hs.tl _ | exact Hs.tl2 _ _ | exact Hs.tl3 _ _ _ | exact (Hs.app _).trans (Hs.tl _) | exact (Hs.app _).trans ((Hs.app _).trans (Hs.tl _)) | exact Hs.sub (by repeat (first | exact List.Sublist.refl _ | apply List.Sublist.cons))) ⟨?_, rfl⟩)
        first | rw [decide_eq_false hne] | rw [decide_eq_true heq]
      · try simp only [decide_eq_true_eq, decide_eq_false_iff_not, Bool.not_eq_true', Bool.not_eq_false'] at hc3
        refine GW.skip ?_
        refine GW.region ?_
        refine R.add (r := (((i + 1) : Nat) : Int)) ⟨rfl, rfl, rfl, rfl⟩ rfl rfl (by rw [wrap64_id (by omega) (by omega)]; omega) ?_   -- add ['t13', '1']
        refine R.move ⟨rfl, rfl, rfl, rfl⟩ rfl ?_
        refine GOps.nil ?_
        exact ⟨i + 1, by omega, ⟨by omega, take_eq_succ h0 hxi hyi (by omega)⟩, rfl, by repeat (first | exact Keeps.nil _ | refine Keeps.cons rfl ?_), by first | exact Hs.refl _ | exact Hs.tl _ | exact Hs.tl2 _ _⟩
    · try simp only [decide_eq_true_eq, decide_eq_false_iff_not, Bool.not_eq_true', Bool.not_eq_false'] at hc2
      have heq : xs = ys := by rwa [List.take_of_length_le (by omega), List.take_of_length_le (by omega)] at h0
      refine GW.exit ?_
      refine GW.seq ?_
      refine GW.region ?_
      refine R.assign ⟨rfl, rfl, rfl, rfl⟩ rfl ?_
      refine GOps.nil ?_
      refine GW.ret (Out.of (Res.one rfl rfl) (by first | exact Hs.refl _ | exact Hs.tl _ | exact Hs.tl2 _ _ | exact Hs.tl3 _ _ _ | exact (Hs.app _).trans (Hs.tl _) | exact (Hs.app _).trans ((Hs.app _).trans (Hs.tl _)) | exact Hs.sub (by repeat (first | exact List.Sublist.refl _ | apply List.Sublist.cons))) ⟨?_, rfl⟩)
      first | rw [decide_eq_false hne] | rw [decide_eq_true heq]
theorem sl_Values (w0 : World) (G : Hp) (A : Option Addr) (n c : Nat) : GC Tryz.prog w0 58 #[.slice A n c] (fun v G' => ∃ b, v = .func (.func 89) #[] #[.pointer (some ⟨b, 0, none⟩)] ∧ (b, .exact (.cells #[.slice A n c] 32 (0, 0))) :: G = G') G := by
  refine GC.body (args := [.slice A n c]) Tryz.func58 rfl (by kernel_rfl) rfl ?_
  refine GW.seq ?_
  refine GW.region ?_
  refine R.box ⟨rfl, rfl, rfl, rfl⟩ rfl fun b1 => ?_   -- type 32
  refine R.assign ⟨rfl, rfl, rfl, rfl⟩ rfl ?_
  refine GOps.nil ?_
  refine GW.seq ?_
  refine GW.region ?_
  refine R.makeFunc (vs := []) (us := [_]) ⟨rfl, rfl, rfl, rfl⟩ rfl rfl ?_
  refine R.assign ⟨rfl, rfl, rfl, rfl⟩ rfl ?_
  refine GOps.nil ?_
  exact GW.ret (Out.of (Res.one rfl rfl) (Hs.refl _) ⟨b1, rfl, rfl⟩)
theorem values1 {σ : Type} (w0 : World) (l b1 : Nat) (A : Option Addr) (xs : List Int) (c : Nat) (L : σ → Hp) (I : Nat → σ → Prop) (F : Hp) (x0 : σ) (hm : xs.length ≤ 100000)
    (hR : ∀ x, Rd w0 (L x ++ F) b1 0 (.slice A xs.length c)) (hx : IntsAt w0 F A xs) (h0 : I 0 x0)
    (hy : ∀ j x z, I j x → xs[j]? = some z → GY Tryz.prog w0 l [.int .i64 z] (fun v G' => v = .bool true ∧ ∃ x', I (j + 1) x' ∧ L x' ++ F = G') (L x ++ F)) :
    GC Tryz.prog w0 89 #[.func (.yield l) #[] #[], .pointer (some ⟨b1, 0, none⟩)] (fun v G' => ∃ x, I xs.length x ∧ L x ++ F = G') (L x0 ++ F) := by
  refine GC.body (args := [.func (.yield l) #[] #[], .pointer (some ⟨b1, 0, none⟩)]) Tryz.func89 rfl (by kernel_rfl) rfl ?_
  refine GW.seq ?_
  refine GW.region ?_
  refine R.load1 ⟨rfl, rfl, rfl, rfl⟩ rfl Tryz.underlying32 rfl (hR x0) ?_   -- load 0 iter.go:39
  refine R.lenS ⟨rfl, rfl, rfl, rfl⟩ rfl rfl Tryz.underlying32 ?_
  refine R.move ⟨rfl, rfl, rfl, rfl⟩ rfl ?_
  refine GOps.nil ?_
  refine GW.block ?_
  -- LOOP: live 0:yield, 5, 6, 7
  refine GW.loop4 (fun (i : Nat) (x : σ) (u1 : Unit) (u2 : Unit) => [(0, .func (.yield l) #[] #[]), (5, .slice A xs.length c), (6, .int .i64 xs.length), (7, .int .i64 i)]) (fun (i : Nat) (x : σ) (u1 : Unit) (u2 : Unit) => L x ++ F) (fun i : Nat => xs.length - i) (fun (i : Nat) (x : σ) (u1 : Unit) (u2 : Unit) => i ≤ xs.length ∧ I i x) 0 (x0) (()) (())
    (by repeat (first | exact Keeps.nil _ | refine Keeps.cons rfl ?_)) (Hs.refl _) (⟨by omega, h0⟩) ?_
  rintro i x u1 u2 ⟨hi, hI⟩
  refine GW.seq ?_
  refine GW.region ?_
  refine R.lss ⟨rfl, rfl, rfl, rfl⟩ rfl rfl ?_   -- lss ['t7', 't6']
  refine GOps.nil ?_
  refine GW.seq ?_
  refine GW.ite rfl (fun hc1 => ?_) (fun hc1 => ?_)
  · try simp only [decide_eq_true_eq, decide_eq_false_iff_not, Bool.not_eq_true', Bool.not_eq_false'] at hc1
    obtain ⟨z, hz⟩ : ∃ z, xs[i]? = some z := ⟨_, List.getElem?_eq_getElem (by omega)⟩
    obtain ⟨zb, zo, rfl, hrz⟩ := int_at hx hz
    refine GW.skip ?_
    refine GW.seq ?_
    refine GW.block ?_
    refine GW.seq ?_
    refine GW.region ?_
    refine R.indexAddrS ⟨rfl, rfl, rfl, rfl⟩ rfl rfl Tryz.underlying32 Tryz.sizeOf3 (by omega) (by omega) ?_   -- ['t5', 't7']
    refine R.load1 ⟨rfl, rfl, rfl, rfl⟩ rfl Tryz.underlying3 rfl (hrz.mono (fun y hy => List.mem_append_right _ hy)) ?_   -- load 1 iter.go:39
    refine R.assign ⟨rfl, rfl, rfl, rfl⟩ rfl ?_
    refine GOps.nil ?_
    refine GW.seq ?_
    refine GW.region ?_
    refine R.move ⟨rfl, rfl, rfl, rfl⟩ rfl ?_
    refine R.move ⟨rfl, rfl, rfl, rfl⟩ rfl ?_
    refine R.yield ⟨rfl, rfl, rfl, rfl⟩ rfl (vs := [_]) rfl ((hy i x z hI hz).mono ?_)
    rintro v G2 ⟨rfl, x', hI', rfl⟩
    refine R.not ⟨rfl, rfl, rfl, rfl⟩ rfl ?_
    refine GOps.nil ?_
    refine GW.ite rfl (fun hc2 => ?_) (fun hc2 => ?_)
    · try simp only [decide_eq_true_eq, decide_eq_false_iff_not, Bool.not_eq_true', Bool.not_eq_false'] at hc2
      exfalso; simp at hc2
    · try simp only [decide_eq_true_eq, decide_eq_false_iff_not, Bool.not_eq_true', Bool.not_eq_false'] at hc2
      refine GW.skip ?_
      refine GW.region ?_
      refine R.add (r := (((i + 1) : Nat) : Int)) ⟨rfl, rfl, rfl, rfl⟩ rfl rfl (by rw [wrap64_id (by omega) (by omega)]; omega) ?_   -- add ['t7', '1']
      refine R.move ⟨rfl, rfl, rfl, rfl⟩ rfl ?_
      refine GOps.nil ?_
      exact ⟨i + 1, x', (), (), by omega, ⟨by omega, hI'⟩, rfl, by repeat (first | exact Keeps.nil _ | refine Keeps.cons rfl ?_), by first | exact Hs.refl _ | exact Hs.tl _ | exact Hs.tl2 _ _⟩
  · try simp only [decide_eq_true_eq, decide_eq_false_iff_not, Bool.not_eq_true', Bool.not_eq_false'] at hc1
    refine GW.exit ?_
    obtain rfl : i = xs.length := by omega
    refine Out.end_ (Res.none rfl) (Hs.refl _) ⟨x, hI, rfl⟩
end Go.Proofs.YtfddkcmooommeaaGreatDoor.Gl
end
section
namespace Go.Proofs.YtfddkcmooommeaaGreatDoor.Gl
open Go.RowKit Go.Shelf
set_option linter.unusedVariables false
set_option linter.unnecessarySimpa false
set_option linter.unusedSimpArgs false
attribute [-simp] List.getD_eq_getElem?_getD
theorem zC_succ {xs : List Int} {j : Nat} {z : Int} {v : Value} {H : Hp} (h : xs[j]? = some z) (hS : SlAt 1 3 (zC (xs.take j) ++ [.int .i64 z]) (j + 1) v H) : SlAt 1 3 (zC (xs.take (j + 1))) (j + 1) v H := by
  rw [List.take_add_one, h]
  unfold zC at hS ⊢
  rw [List.map_append]
  exact hS
theorem sl_AppendSeq (w0 : World) (G : Hp) (A : Option Addr) (xs : List Int) (c b1 : Nat) (hb1 : (b1, Know.exact (.cells #[.slice A xs.length c] 32 (0, 0))) ∈ G) (hx : IntsAt w0 G A xs) (hm : xs.length ≤ 100000) : GC Tryz.prog w0 108 #[.slice none 0 0, .func (.func 89) #[] #[.pointer (some ⟨b1, 0, none⟩)]] (fun v G' => ∃ H, (SlAt 1 3 (zC xs) xs.length v H ∧ (xs.length = 0 → v = .slice none 0 0 ∧ H = [])) ∧ H ++ G = G') G := by
  refine GC.body (args := [.slice none 0 0, .func (.func 89) #[] #[.pointer (some ⟨b1, 0, none⟩)]]) Tryz.func108 rfl (by kernel_rfl) rfl ?_
  refine GW.seq ?_
  refine GW.region ?_
  refine R.box ⟨rfl, rfl, rfl, rfl⟩ rfl fun b2 => ?_   -- type 32
  refine R.assign ⟨rfl, rfl, rfl, rfl⟩ rfl ?_
  refine GOps.nil ?_
  refine GW.seq ?_
  refine GW.seq ?_
  refine GW.region ?_
  refine R.move ⟨rfl, rfl, rfl, rfl⟩ rfl ?_
  refine GOps.nil ?_
  refine GW.block ?_
  refine GW.rangeFunc rfl fun D0 l0 r0 hp0 ha0 hb0 hfr0 => ?_
  refine GC.mono (values1 w0 l0 b1 A xs c (fun x : Value × Hp => (l0, lrec r0 .ready none) :: (D0, .exact (.deferred (some []))) :: (b2, .exact (.cells #[x.1] 32 (0, 0))) :: x.2) (fun j x => SlAt 1 3 (zC (xs.take j)) j x.1 x.2 ∧ (j = 0 → x.1 = .slice none 0 0 ∧ x.2 = [])) G (.slice none 0 0, []) hm (fun x => .own (List.mem_cons_of_mem _ (List.mem_cons_of_mem _ (List.mem_cons_of_mem _ (List.mem_append_right _ hb1)))) rfl) hx ⟨.nil rfl rfl, fun _ => ⟨rfl, rfl⟩⟩ ?_) ?_
  · rintro j x z ⟨hI, _⟩ hz; obtain ⟨va, Ho⟩ := x; simp only at hI; have hjn := (List.getElem?_eq_some_iff.1 hz).1; show GY _ _ _ _ _ ((l0, lrec r0 .ready none) :: (D0, .exact (.deferred (some []))) :: (b2, .exact (.cells #[va] 32 (0, 0))) :: (Ho ++ G))
    refine GY.intro hfr0 (by rw [hp0]; rfl) (by rw [hp0]; rfl) ?_
    rw [hp0, ha0, hb0]
    refine GW.region ?_
    refine R.assign ⟨rfl, rfl, rfl, rfl⟩ rfl ?_
    refine GOps.nil ?_
    refine ⟨_, Hs.refl _, ?_⟩
    refine GW.block ?_
    refine GW.region ?_
    refine R.load1 ⟨rfl, rfl, rfl, rfl⟩ rfl Tryz.underlying32 rfl (.own' (by repeat (first | exact List.mem_cons_self | apply List.mem_cons_of_mem | apply List.mem_append_right)) (by rfl)) ?_   -- load 0 iter.go:52 t2:s
    refine R.move ⟨rfl, rfl, rfl, rfl⟩ rfl ?_
    refine R.buildSliceF (sz := 1) (bytes := 8) (vs := [_]) (cs := [.int .i64 z]) ⟨rfl, rfl, rfl, rfl⟩ rfl Tryz.underlying32 (InfoE.mk (by kernel_rfl)) rfl rfl rfl rfl rfl fun b10 => ?_   -- build 0 type 32
    refine R.append (sz := 1) (bytes := 8) (G1 := [_, _, _, _]) (H := Ho) (news := [.int .i64 z]) ⟨rfl, rfl, rfl, rfl⟩ rfl rfl rfl Tryz.underlying32 (InfoE.mk (by kernel_rfl)) (hI) (rfl) (rfl) (.own (by repeat (first | exact List.mem_cons_self | apply List.mem_cons_of_mem | apply List.mem_append_right | exact List.mem_append_left _ List.mem_cons_self)) 0 _ (fun j v hv => by simpa using hv)) (by omega) (by rfl) (by omega) (by omega) fun v11 H11 hv11 => ?_
    obtain ⟨A11, c11, rfl, hc11⟩ := hv11.split
    refine R.storeAll (G1 := [_, _, _]) rfl rfl rfl rfl rfl Tryz.sizeOf32 rfl rfl rfl rfl ?_   -- t2:s
    refine GOps.nil ?_
    exact ⟨_, Hs.sub (by repeat (first | exact List.Sublist.refl _ | apply List.Sublist.cons_cons | apply List.Sublist.cons)), rfl, (.slice A11 _ c11, H11), ⟨zC_succ hz hv11, fun e => absurd e (Nat.succ_ne_zero j)⟩, rfl⟩
  · rintro _ _ ⟨x, hI, rfl⟩
    · obtain ⟨va, Ho⟩ := x
      refine ⟨.ready, none, _, by simp, Hs.refl _, ?_⟩
      show GW _ _ _ _ _ ((D0, .exact (.deferred (some []))) :: (b2, .exact (.cells #[va] 32 (0, 0))) :: (Ho ++ G))
      refine GW.seq ?_
      refine GW.region ?_
      refine R.load1 ⟨rfl, rfl, rfl, rfl⟩ rfl Tryz.underlying32 rfl (.own' (by repeat (first | exact List.mem_cons_self | apply List.mem_cons_of_mem | apply List.mem_append_right)) (by rfl)) ?_   -- load 1 iter.go:54 t2:s
      refine R.assign ⟨rfl, rfl, rfl, rfl⟩ rfl ?_
      refine GOps.nil ?_
      simp only [List.take_length] at hI
      exact GW.ret (Out.of1 (Res.one rfl rfl) (Hs.tl _) ⟨Ho, hI, rfl⟩)
theorem sl_Collect (w0 : World) (G : Hp) (A : Option Addr) (xs : List Int) (c b1 : Nat) (hb1 : (b1, Know.exact (.cells #[.slice A xs.length c] 32 (0, 0))) ∈ G) (hx : IntsAt w0 G A xs) (hm : xs.length ≤ 100000) : GC Tryz.prog w0 87 #[.func (.func 89) #[] #[.pointer (some ⟨b1, 0, none⟩)]] (fun v G' => ∃ H, (SlAt 1 3 (zC xs) xs.length v H ∧ (xs.length = 0 → v = .slice none 0 0 ∧ H = [])) ∧ H ++ G = G') G := by
  refine GC.body (args := [.func (.func 89) #[] #[.pointer (some ⟨b1, 0, none⟩)]]) Tryz.func87 rfl (by kernel_rfl) rfl ?_
  refine GW.seq ?_
  refine GW.region ?_
  refine R.assign ⟨rfl, rfl, rfl, rfl⟩ rfl ?_
  refine GOps.nil ?_
  refine GW.seq ?_
  refine GW.region ?_
  refine R.move ⟨rfl, rfl, rfl, rfl⟩ rfl ?_
  refine R.call ⟨rfl, rfl, rfl, rfl⟩ rfl (vs := [_, _]) rfl ((sl_AppendSeq _ _ A xs c b1 hb1 hx hm).mono ?_)
  rintro v4 _ ⟨H4, h4, rfl⟩
  refine R.assign ⟨rfl, rfl, rfl, rfl⟩ rfl ?_
  refine GOps.nil ?_
  exact GW.ret (Out.of (Res.one rfl rfl) (Hs.refl _) ⟨H4, h4, rfl⟩)
theorem len64_0 (w0 : World) (G : Hp) : GC Tryz.prog w0 135 #[.int .u64 0] (fun v G' => ∃ z, v = .int .i64 z ∧ G = G') G := by
  refine GC.body (args := [.int .u64 0]) Tryz.func135 rfl (by kernel_rfl) rfl ?_
  refine GW.seq ?_
  refine GW.region ?_
  refine R.assign ⟨rfl, rfl, rfl, rfl⟩ rfl ?_
  refine GOps.nil ?_
  refine GW.seq ?_
  refine GW.seq ?_
  refine GW.region ?_
  refine R.move ⟨rfl, rfl, rfl, rfl⟩ rfl ?_
  refine R.geq ⟨rfl, rfl, rfl, rfl⟩ rfl rfl ?_   -- geq ['t3', '4294967296']
  refine GOps.nil ?_
  refine GW.cond_f rfl ?_
  refine GW.skip ?_
  refine GW.seq ?_
  refine GW.seq ?_
  refine GW.region ?_
  refine R.move ⟨rfl, rfl, rfl, rfl⟩ rfl ?_
  refine R.geq ⟨rfl, rfl, rfl, rfl⟩ rfl rfl ?_   -- geq ['t7', '65536']
  refine GOps.nil ?_
  refine GW.cond_f rfl ?_
  refine GW.skip ?_
  refine GW.seq ?_
  refine GW.seq ?_
  refine GW.region ?_
  refine R.move ⟨rfl, rfl, rfl, rfl⟩ rfl ?_
  refine R.geq ⟨rfl, rfl, rfl, rfl⟩ rfl rfl ?_   -- geq ['t13', '256']
  refine GOps.nil ?_
  refine GW.cond_f rfl ?_
  refine GW.skip ?_
  refine GW.seq ?_
  refine GW.region ?_
  refine R.move ⟨rfl, rfl, rfl, rfl⟩ rfl ?_
  refine R.move ⟨rfl, rfl, rfl, rfl⟩ rfl ?_
  refine R.conv (r := 0) ⟨rfl, rfl, rfl, rfl⟩ rfl Tryz.underlying192 Tryz.underlying5 (rfl) ?_
  refine R.indexStrA ⟨rfl, rfl, rfl, rfl⟩ rfl rfl Tryz.underlying9 (by decide) (by decide +kernel) fun c1 hx1 hb1 => ?_   -- "bits.go:350" ['const', 't21']
  refine R.conv (r := _) ⟨rfl, rfl, rfl, rfl⟩ rfl Tryz.underlying5 Tryz.underlying3 (rfl) ?_
  refine R.add (r := _) ⟨rfl, rfl, rfl, rfl⟩ rfl rfl (rfl) ?_   -- add ['t19', 't23']
  refine R.assign ⟨rfl, rfl, rfl, rfl⟩ rfl ?_
  refine GOps.nil ?_
  exact GW.ret (Out.of (Res.one rfl rfl) (Hs.refl _) ⟨_, rfl, rfl⟩)
theorem len_0 (w0 : World) (G : Hp) : GC Tryz.prog w0 110 #[.int .u64 0] (fun v G' => ∃ z, v = .int .i64 z ∧ G = G') G := by
  refine GC.body (args := [.int .u64 0]) Tryz.func110 rfl (by kernel_rfl) rfl ?_
  refine GW.seq ?_
  refine GW.region ?_
  refine R.assign ⟨rfl, rfl, rfl, rfl⟩ rfl ?_
  refine GOps.nil ?_
  refine GW.seq ?_
  refine GW.ite rfl (fun hc1 => ?_) (fun hc1 => ?_)
  · try simp only [decide_eq_true_eq, decide_eq_false_iff_not, Bool.not_eq_true', Bool.not_eq_false'] at hc1
    exfalso; cases hc1
  · try simp only [decide_eq_true_eq, decide_eq_false_iff_not, Bool.not_eq_true', Bool.not_eq_false'] at hc1
    refine GW.skip ?_
    refine GW.seq ?_
    refine GW.region ?_
    refine R.move ⟨rfl, rfl, rfl, rfl⟩ rfl ?_
    refine R.call ⟨rfl, rfl, rfl, rfl⟩ rfl (vs := [_]) rfl ((len64_0 _ _).mono ?_)
    rintro _ _ ⟨z, rfl, rfl⟩
    refine R.assign ⟨rfl, rfl, rfl, rfl⟩ rfl ?_
    refine GOps.nil ?_
    exact GW.ret (Out.of (Res.one rfl rfl) (Hs.refl _) ⟨_, rfl, rfl⟩)
theorem ins_0 (w0 : World) (G : Hp) : GC Tryz.prog w0 125 #[.slice none 0 0, .int .i64 0, .int .i64 0] (fun v G' => v = .tuple #[] ∧ G = G') G := by
  refine GC.body (args := [.slice none 0 0, .int .i64 0, .int .i64 0]) Tryz.func125 rfl (by kernel_rfl) rfl ?_
  refine GW.seq ?_
  refine GW.region ?_
  refine R.move ⟨rfl, rfl, rfl, rfl⟩ rfl ?_
  refine R.add (r := 1) ⟨rfl, rfl, rfl, rfl⟩ rfl rfl (rfl) ?_   -- add ['t8', '1']
  refine R.assign ⟨rfl, rfl, rfl, rfl⟩ rfl ?_
  refine GOps.nil ?_
  refine GW.block ?_
  -- LOOP: live 0:data, 1:a, 2:b, 6:i
  refine GW.loopI (fun i : Nat => [(0, .slice none 0 0), (1, .int .i64 0), (2, .int .i64 0), (6, .int .i64 1)]) (fun i => G) (fun i => 1 - i) (fun i => i = 0) 0
    (by repeat (first | exact Keeps.nil _ | refine Keeps.cons rfl ?_)) (Hs.refl _) (rfl) ?_
  rintro i hi
  refine GW.seq ?_
  refine GW.seq ?_
  refine GW.region ?_
  refine R.move ⟨rfl, rfl, rfl, rfl⟩ rfl ?_
  refine R.move ⟨rfl, rfl, rfl, rfl⟩ rfl ?_
  refine R.lss ⟨rfl, rfl, rfl, rfl⟩ rfl rfl ?_   -- lss ['t10', 't11']
  refine GOps.nil ?_
  refine GW.ite rfl (fun hc1 => ?_) (fun hc1 => ?_)
  · try simp only [decide_eq_true_eq, decide_eq_false_iff_not, Bool.not_eq_true', Bool.not_eq_false'] at hc1
    exfalso; omega
  · try simp only [decide_eq_true_eq, decide_eq_false_iff_not, Bool.not_eq_true', Bool.not_eq_false'] at hc1
    refine GW.exit ?_
    exact Out.end_ (Res.none rfl) (Hs.refl _) ⟨rfl, rfl⟩
theorem pdq_0 (w0 : World) (G : Hp) (z : Int) : GC Tryz.prog w0 109 #[.slice none 0 0, .int .i64 0, .int .i64 0, .int .i64 z] (fun v G' => v = .tuple #[] ∧ G = G') G := by
  refine GC.body (args := [.slice none 0 0, .int .i64 0, .int .i64 0, .int .i64 z]) Tryz.func109 rfl (by kernel_rfl) rfl ?_
  refine GW.seq ?_
  refine GW.region ?_
  refine R.assign ⟨rfl, rfl, rfl, rfl⟩ rfl ?_
  refine GOps.nil ?_
  refine GW.seq ?_
  refine GW.region ?_
  refine R.assign ⟨rfl, rfl, rfl, rfl⟩ rfl ?_
  refine GOps.nil ?_
  refine GW.block ?_
  -- LOOP: live 0:data, 1:a, 2:b, 3:limit, 8:wasBalanced, 9:wasPartitioned
  refine GW.loopI (fun i : Nat => [(0, .slice none 0 0), (1, .int .i64 0), (2, .int .i64 0), (3, .int .i64 z), (8, .bool true), (9, .bool true)]) (fun i => G) (fun i => 1 - i) (fun i => i = 0) 0
    (by repeat (first | exact Keeps.nil _ | refine Keeps.cons rfl ?_)) (Hs.refl _) (rfl) ?_
  rintro i hi
  refine GW.block ?_
  refine GW.seq ?_
  refine GW.region ?_
  refine R.move ⟨rfl, rfl, rfl, rfl⟩ rfl ?_
  refine R.move ⟨rfl, rfl, rfl, rfl⟩ rfl ?_
  refine R.sub (r := 0) ⟨rfl, rfl, rfl, rfl⟩ rfl rfl (rfl) ?_   -- sub ['t19', 't20']
  refine R.assign ⟨rfl, rfl, rfl, rfl⟩ rfl ?_
  refine GOps.nil ?_
  refine GW.seq ?_
  refine GW.seq ?_
  refine GW.region ?_
  refine R.move ⟨rfl, rfl, rfl, rfl⟩ rfl ?_
  refine R.leq ⟨rfl, rfl, rfl, rfl⟩ rfl rfl ?_   -- leq ['t22', '12']
  refine GOps.nil ?_
  refine GW.cond_t rfl ?_
  refine GW.seq ?_
  refine GW.region ?_
  refine R.move ⟨rfl, rfl, rfl, rfl⟩ rfl ?_
  refine R.move ⟨rfl, rfl, rfl, rfl⟩ rfl ?_
  refine R.move ⟨rfl, rfl, rfl, rfl⟩ rfl ?_
  refine R.call ⟨rfl, rfl, rfl, rfl⟩ rfl (vs := [_, _, _]) rfl ((ins_0 _ _).mono ?_)
  rintro _ _ ⟨rfl, rfl⟩
  refine GOps.nil ?_
  exact GW.ret (Out.of (Res.none rfl) (Hs.refl _) ⟨rfl, rfl⟩)
theorem sort_0 (w0 : World) (G : Hp) : GC Tryz.prog w0 88 #[.slice none 0 0] (fun v G' => v = .tuple #[] ∧ G = G') G := by
  refine GC.body (args := [.slice none 0 0]) Tryz.func88 rfl (by kernel_rfl) rfl ?_
  refine GW.seq ?_
  refine GW.region ?_
  refine R.move ⟨rfl, rfl, rfl, rfl⟩ rfl ?_
  refine R.lenS ⟨rfl, rfl, rfl, rfl⟩ rfl rfl Tryz.underlying32 ?_
  refine R.assign ⟨rfl, rfl, rfl, rfl⟩ rfl ?_
  refine GOps.nil ?_
  refine GW.region ?_
  refine R.move ⟨rfl, rfl, rfl, rfl⟩ rfl ?_
  refine R.move ⟨rfl, rfl, rfl, rfl⟩ rfl ?_
  refine R.move ⟨rfl, rfl, rfl, rfl⟩ rfl ?_
  refine R.conv (r := 0) ⟨rfl, rfl, rfl, rfl⟩ rfl Tryz.underlying3 Tryz.underlying149 (rfl) ?_
  refine R.call ⟨rfl, rfl, rfl, rfl⟩ rfl (vs := [_]) rfl ((len_0 _ _).mono ?_)
  rintro _ _ ⟨z, rfl, rfl⟩
  refine R.call ⟨rfl, rfl, rfl, rfl⟩ rfl (vs := [_, _, _, _]) rfl ((pdq_0 _ _ z).mono ?_)
  rintro _ _ ⟨rfl, rfl⟩
  refine GOps.nil ?_
  refine Out.end_ (Res.none rfl) (Hs.refl _) ⟨rfl, rfl⟩
theorem sorted_0 (w0 : World) (G : Hp) (b1 : Nat) (hb1 : (b1, Know.exact (.cells #[.slice none 0 0] 32 (0, 0))) ∈ G) : GC Tryz.prog w0 57 #[.func (.func 89) #[] #[.pointer (some ⟨b1, 0, none⟩)]] (fun v G' => v = .slice none 0 0 ∧ G = G') G := by
  refine GC.body (args := [.func (.func 89) #[] #[.pointer (some ⟨b1, 0, none⟩)]]) Tryz.func57 rfl (by kernel_rfl) rfl ?_
  refine GW.seq ?_
  refine GW.region ?_
  refine R.assign ⟨rfl, rfl, rfl, rfl⟩ rfl ?_
  refine GOps.nil ?_
  refine GW.seq ?_
  refine GW.region ?_
  refine R.move ⟨rfl, rfl, rfl, rfl⟩ rfl ?_
  refine R.call ⟨rfl, rfl, rfl, rfl⟩ rfl (vs := [_]) rfl ((sl_Collect _ _ none [] 0 b1 hb1 (fun i x h => by simp at h) (by simp)).mono ?_)
  rintro v5 _ ⟨H5, h5, rfl⟩
  obtain ⟨rfl, rfl⟩ := h5.2 rfl
  refine R.assign ⟨rfl, rfl, rfl, rfl⟩ rfl ?_
  refine GOps.nil ?_
  refine GW.seq ?_
  refine GW.region ?_
  refine R.move ⟨rfl, rfl, rfl, rfl⟩ rfl ?_
  refine R.call ⟨rfl, rfl, rfl, rfl⟩ rfl (vs := [_]) rfl ((sort_0 _ _).mono ?_)
  rintro _ _ ⟨rfl, rfl⟩
  refine GOps.nil ?_
  refine GW.seq ?_
  refine GW.region ?_
  refine R.move ⟨rfl, rfl, rfl, rfl⟩ rfl ?_
  refine R.assign ⟨rfl, rfl, rfl, rfl⟩ rfl ?_
  refine GOps.nil ?_
  exact GW.ret (Out.of (Res.one rfl rfl) (Hs.refl _) ⟨rfl, rfl⟩)
end Go.Proofs.YtfddkcmooommeaaGreatDoor.Gl
end
section
namespace Go.Proofs.YtfddkcmooommeaaGreatDoor.Gl
open Go.RowKit Go.Shelf
set_option linter.unusedVariables false
set_option linter.unnecessarySimpa false
set_option linter.unusedSimpArgs false
attribute [-simp] List.getD_eq_getElem?_getD
theorem GW.cutX {X : Cx} {x y : Code} {Q : Post} {fr : Fr} {ds : List Deferred} {G : Hp} {α : Type} (FR : α → Fr) (GG : α → Hp) (I : α → Prop) (h1 : GW X x (fun e fr1 ds1 G1 => e = .normal ∧ ds1 = ds ∧ ∃ a, I a ∧ Keeps fr1 (FR a) ∧ Hs G1 (GG a)) fr ds G)
    (h2 : ∀ a, I a → GW X y Q (FR a) ds (GG a)) : GW X (.seq x y) Q fr ds G := by
  refine GW.seq (h1.mono ?_)
  rintro e fr1 ds1 G1 ⟨rfl, rfl, a, hI, hk, hs⟩
  exact GW.weak hk hs (h2 a hI)
structure BS where
  m : List St
  w : List St
  n : List St
  ts : List Tm
  bad : Int
def bodyStep (lim : Nat) (vars : List ByteArray) (a : BS) (l : Lt) : BS :=
  if (stepF lim vars (a.ts, a.bad) l).1.kind = 1 then ⟨a.m ++ [(stepF lim vars (a.ts, a.bad) l).1], a.w, a.n, (stepF lim vars (a.ts, a.bad) l).2.1, (stepF lim vars (a.ts, a.bad) l).2.2⟩
  else if (stepF lim vars (a.ts, a.bad) l).1.kind = 2 then ⟨a.m, a.w, a.n ++ [(stepF lim vars (a.ts, a.bad) l).1], (stepF lim vars (a.ts, a.bad) l).2.1, (stepF lim vars (a.ts, a.bad) l).2.2⟩
  else ⟨a.m, a.w ++ [(stepF lim vars (a.ts, a.bad) l).1], a.n, (stepF lim vars (a.ts, a.bad) l).2.1, (stepF lim vars (a.ts, a.bad) l).2.2⟩
def bodyTo (lim : Nat) (vars : List ByteArray) (ts : List Tm) (bad : Int) (body : List Lt) (i : Nat) : BS := (body.take i).foldl (bodyStep lim vars) ⟨[], [], [], ts, bad⟩
theorem bodyTo_succ {lim : Nat} {vars : List ByteArray} {ts : List Tm} {bad : Int} {body : List Lt} {i : Nat} {l : Lt} (h : body[i]? = some l) : bodyTo lim vars ts bad body (i + 1) = bodyStep lim vars (bodyTo lim vars ts bad body i) l := by
  unfold bodyTo
  rw [List.take_add_one, h, List.foldl_append]
  rfl
theorem bodyStep_1 {lim : Nat} {vars : List ByteArray} {a : BS} {l : Lt} (h : (stepF lim vars (a.ts, a.bad) l).1.kind = 1) : bodyStep lim vars a l = ⟨a.m ++ [(stepF lim vars (a.ts, a.bad) l).1], a.w, a.n, (stepF lim vars (a.ts, a.bad) l).2.1, (stepF lim vars (a.ts, a.bad) l).2.2⟩ := by unfold bodyStep; rw [if_pos h]
theorem bodyStep_2 {lim : Nat} {vars : List ByteArray} {a : BS} {l : Lt} (h1 : ¬ (stepF lim vars (a.ts, a.bad) l).1.kind = 1) (h : (stepF lim vars (a.ts, a.bad) l).1.kind = 2) : bodyStep lim vars a l = ⟨a.m, a.w, a.n ++ [(stepF lim vars (a.ts, a.bad) l).1], (stepF lim vars (a.ts, a.bad) l).2.1, (stepF lim vars (a.ts, a.bad) l).2.2⟩ := by unfold bodyStep; rw [if_neg h1, if_pos h]
theorem bodyStep_3 {lim : Nat} {vars : List ByteArray} {a : BS} {l : Lt} (h1 : ¬ (stepF lim vars (a.ts, a.bad) l).1.kind = 1) (h : ¬ (stepF lim vars (a.ts, a.bad) l).1.kind = 2) : bodyStep lim vars a l = ⟨a.m, a.w ++ [(stepF lim vars (a.ts, a.bad) l).1], a.n, (stepF lim vars (a.ts, a.bad) l).2.1, (stepF lim vars (a.ts, a.bad) l).2.2⟩ := by unfold bodyStep; rw [if_neg h1, if_neg h]
theorem idxB_lt' (xs : List ByteArray) (s : ByteArray) : idxB xs s < xs.length := by
  unfold idxB
  cases e : idxN xs s with
  | some i =>
    unfold idxN at e
    obtain ⟨hi, _⟩ := List.findIdx?_eq_some_iff_getElem.1 e
    simp only
    omega
  | none => simp only; omega
theorem placeF_lt (lim : Nat) (vars : List ByteArray) (q : List Tm × Int) (s : Sl) : (placeF lim vars q s).1.var < vars.length := by
  cases h : emp s.v with
  | true =>
    unfold placeF
    rw [h]
    simp only [cond_true]
    omega
  | false =>
    rw [placeF_var h]
    exact idxB_lt' _ _
theorem stepF_places {lim : Nat} {vars : List ByteArray} {q : List Tm × Int} {l : Lt} : ∀ p ∈ placesSt (stepF lim vars q l).1, p.var < vars.length := by
  intro p hp
  by_cases h1 : l.kind = 1
  · rw [stepF_1 h1, placesSt_r (.inl rfl)] at hp
    simp only [List.mem_cons, List.not_mem_nil, or_false] at hp
    rcases hp with rfl | rfl | rfl <;> exact placeF_lt _ _ _ _
  by_cases h2 : l.kind = 2
  · rw [stepF_2 h1 h2, placesSt_r (.inr rfl)] at hp
    simp only [List.mem_cons, List.not_mem_nil, or_false] at hp
    rcases hp with rfl | rfl | rfl <;> exact placeF_lt _ _ _ _
  by_cases h3 : l.kind = 3
  · rw [stepF_3 h1 h2 h3, placesSt_ab (by simp) (by simp)] at hp
    simp only [List.mem_cons, List.not_mem_nil, or_false] at hp
    rcases hp with rfl | rfl <;> exact placeF_lt _ _ _ _
  · rw [stepF_4 h1 h2 h3, placesSt_ab (by simp) (by simp)] at hp
    simp only [List.mem_cons, List.not_mem_nil, or_false] at hp
    rcases hp with rfl | rfl <;> exact placeF_lt _ _ _ _
structure BOk (nv i : Nat) (a : BS) : Prop where
  len : a.m.length ≤ i ∧ a.w.length ≤ i ∧ a.n.length ≤ i
  m1 : ∀ s ∈ a.m, s.kind = 1
  pl : ∀ s ∈ a.m ++ (a.w ++ a.n), ∀ p ∈ placesSt s, p.var < nv
theorem BOk.zero (nv : Nat) (ts : List Tm) (bad : Int) : BOk nv 0 ⟨[], [], [], ts, bad⟩ := ⟨by simp, by simp, by simp⟩
theorem BOk.step {lim : Nat} {vars : List ByteArray} {a : BS} {l : Lt} {i : Nat} (h : BOk vars.length i a) : BOk vars.length (i + 1) (bodyStep lim vars a l) := by
  have hs : ∀ p ∈ placesSt (stepF lim vars (a.ts, a.bad) l).1, p.var < vars.length := stepF_places
  obtain ⟨⟨l1, l2, l3⟩, hm, hp⟩ := h
  by_cases h1 : (stepF lim vars (a.ts, a.bad) l).1.kind = 1
  · rw [bodyStep_1 h1]
    refine ⟨⟨by simp; omega, by simp; omega, by simp; omega⟩, fun s hs1 => ?_, fun s hs1 => ?_⟩
    · rcases List.mem_append.1 hs1 with h | h
      · exact hm s h
      · rw [List.mem_singleton.1 h]; exact h1
    · simp only [List.append_assoc, List.mem_append, List.mem_singleton, List.singleton_append, List.mem_cons] at hs1
      rcases hs1 with h | rfl | h | h
      · exact hp s (List.mem_append_left _ h)
      · exact hs
      · exact hp s (List.mem_append_right _ (List.mem_append_left _ h))
      · exact hp s (List.mem_append_right _ (List.mem_append_right _ h))
  by_cases h2 : (stepF lim vars (a.ts, a.bad) l).1.kind = 2
  · rw [bodyStep_2 h1 h2]
    refine ⟨⟨by simp; omega, by simp; omega, by simp; omega⟩, hm, fun s hs1 => ?_⟩
    simp only [List.mem_append, List.mem_singleton] at hs1
    rcases hs1 with h | h | h | rfl
    · exact hp s (List.mem_append_left _ h)
    · exact hp s (List.mem_append_right _ (List.mem_append_left _ h))
    · exact hp s (List.mem_append_right _ (List.mem_append_right _ h))
    · exact hs
  · rw [bodyStep_3 h1 h2]
    refine ⟨⟨by simp; omega, by simp; omega, by simp; omega⟩, hm, fun s hs1 => ?_⟩
    simp only [List.mem_append, List.mem_singleton] at hs1
    rcases hs1 with h | (h | rfl) | h
    · exact hp s (List.mem_append_left _ h)
    · exact hp s (List.mem_append_right _ (List.mem_append_left _ h))
    · exact hs
    · exact hp s (List.mem_append_right _ (List.mem_append_right _ h))
theorem BOk.all {lim : Nat} {vars : List ByteArray} {ts : List Tm} {bad : Int} {body : List Lt} : ∀ (i : Nat), i ≤ body.length → BOk vars.length i (bodyTo lim vars ts bad body i)
  | 0, _ => BOk.zero _ _ _
  | i + 1, h => by
    rw [bodyTo_succ (List.getElem?_eq_getElem (show i < body.length by omega))]
    exact (BOk.all i (by omega)).step
structure RS where
  kn : List Bool
  w : List St
  o : List St
def zSt : St := ⟨0, zRw, zPl, zPl⟩
def flushR (q : RS) : RS := ⟨q.kn, q.w.filter (fun s => !readyF q.kn s), q.o ++ q.w.filter (readyF q.kn)⟩
def markP (kn : List Bool) (p : Pl) : List Bool := if p.var ≥ 0 then kn.set p.var.toNat true else kn
def row3 (r : Rw) : List Pl := [r.p0, r.p1, r.p2]
def markTo (kn : List Bool) (r : Rw) (k : Nat) : List Bool := ((row3 r).take k).foldl markP kn
def takeR (ms : List St) (q : RS) (z : Int) : RS := flushR ⟨markTo q.kn (ms.getD z.toNat zSt).row 3, q.w, q.o ++ [ms.getD z.toNat zSt]⟩
def runTo (ms : List St) (q : RS) (ord : List Int) (i : Nat) : RS := (ord.take i).foldl (takeR ms) (flushR q)
theorem runTo_succ {ms : List St} {q : RS} {ord : List Int} {i : Nat} {z : Int} (h : ord[i]? = some z) : runTo ms q ord (i + 1) = takeR ms (runTo ms q ord i) z := by
  unfold runTo
  rw [List.take_add_one, h, List.foldl_append]
  rfl
theorem markTo_succ {kn : List Bool} {r : Rw} {k : Nat} {p : Pl} (h : (row3 r)[k]? = some p) : markTo kn r (k + 1) = markP (markTo kn r k) p := by
  unfold markTo
  rw [List.take_add_one, h, List.foldl_append]
  rfl
theorem markP_len (kn : List Bool) (p : Pl) : (markP kn p).length = kn.length := by
  unfold markP
  split <;> simp
theorem markTo_len (kn : List Bool) (r : Rw) (k : Nat) : (markTo kn r k).length = kn.length := by
  unfold markTo
  generalize (row3 r).take k = l
  induction l generalizing kn with
  | nil => rfl
  | cons p l ih => rw [List.foldl_cons, ih, markP_len]
structure ROk (nv b : Nat) (q : RS) : Prop where
  kn : q.kn.length = nv
  w : ∀ s ∈ q.w, ∀ p ∈ placesSt s, p.var < nv
  wl : q.w.length ≤ b
theorem ROk.flush {nv b : Nat} {q : RS} (h : ROk nv b q) : ROk nv b (flushR q) :=
  ⟨h.kn, fun s hs => h.w s (List.mem_filter.1 hs).1, Nat.le_trans (List.length_filter_le _ _) h.wl⟩
theorem ROk.take {nv b : Nat} {q : RS} {ms : List St} {z : Int} (h : ROk nv b q) : ROk nv b (takeR ms q z) :=
  ROk.flush ⟨by rw [markTo_len]; exact h.kn, h.w, h.wl⟩
theorem flush_size (q : RS) : (flushR q).w.length + (flushR q).o.length = q.w.length + q.o.length := by
  unfold flushR
  simp only [List.length_append]
  have : ∀ l : List St, (l.filter (fun s => !readyF q.kn s)).length + (l.filter (readyF q.kn)).length = l.length := by
    intro l
    induction l with
    | nil => rfl
    | cons s l ih =>
      simp only [List.filter_cons]
      cases readyF q.kn s <;> simp <;> omega
  have := this q.w
  omega
theorem take_size (ms : List St) (q : RS) (z : Int) : (takeR ms q z).w.length + (takeR ms q z).o.length = q.w.length + q.o.length + 1 := by
  unfold takeR
  rw [flush_size]
  simp
  omega
theorem run_ok {nv b : Nat} {q : RS} {ms : List St} {ord : List Int} (h : ROk nv b q) : ∀ i, ROk nv b (runTo ms q ord i) ∧ (i ≤ ord.length → (runTo ms q ord i).w.length + (runTo ms q ord i).o.length = q.w.length + q.o.length + i)
  | 0 => ⟨h.flush, fun _ => by show (flushR q).w.length + (flushR q).o.length = _; rw [flush_size]; rfl⟩
  | i + 1 => by
    obtain ⟨h1, h2⟩ := run_ok (ms := ms) (ord := ord) h i
    rcases Nat.lt_or_ge i ord.length with hi | hi
    · rw [runTo_succ (List.getElem?_eq_getElem hi)]
      refine ⟨h1.take, fun _ => ?_⟩
      rw [take_size, h2 (by omega)]
      omega
    · have e : runTo ms q ord (i + 1) = runTo ms q ord i := by
        unfold runTo
        rw [List.take_of_length_le (by omega), List.take_of_length_le hi]
      rw [e]
      exact ⟨h1, fun h => by omega⟩
def ordF (n : Nat) (order srt : List Int) : List Int := if srt.length = n ∧ srt = (List.range n).map (fun k : Nat => (k : Int)) then order else (List.range n).map (fun k : Nat => (k : Int))
def planSteps (lim : Nat) (vars : List ByteArray) (ts : List Tm) (bad : Int) (body : List Lt) (order srt : List Int) : List St × (List Tm × Int) :=
  let a := bodyTo lim vars ts bad body body.length
  let ord := ordF a.m.length order srt
  ((runTo a.m ⟨List.replicate vars.length false, a.w ++ a.n, []⟩ ord ord.length).o, (a.ts, a.bad))
end Go.Proofs.YtfddkcmooommeaaGreatDoor.Gl
end
section
namespace Go.Proofs.YtfddkcmooommeaaGreatDoor.Gl
open Go.RowKit Go.Shelf
set_option linter.unusedVariables false
set_option linter.unnecessarySimpa false
set_option linter.unusedSimpArgs false
attribute [-simp] List.getD_eq_getElem?_getD
theorem GC.post {P : Program} {w0 : World} {f : FuncId} {args : Array Value} {R R' : Value → Hp → Prop} {G : Hp} (h : GC P w0 f args R G) (hr : ∀ v G1, R v G1 → ∃ G2, Hs G1 G2 ∧ R' v G2) : GC P w0 f args R' G :=
  ⟨h.1, fun n W hw => (h.2 n W hw).mono fun _ _ ⟨v, G', e, hs, hR⟩ => by
    obtain ⟨G2, h1, h2⟩ := hr _ _ hR
    exact ⟨v, G2, e, h1 _ _ hs, h2⟩⟩
theorem GC.pre {P : Program} {w0 : World} {f : FuncId} {args : Array Value} {R : Value → Hp → Prop} {G G' : Hp} (hs : Hs G G') (h : GC P w0 f args R G') : GC P w0 f args R G := ⟨h.1, fun n W hw => h.2 n W (hs _ _ hw)⟩
abbrev knC (kn : List Bool) : Know := .exact (.cells (boolC kn).toArray 4 (0, 0))
abbrev slC1 (v : Value) : Know := .exact (.cells #[v] 39 (0, 0))
abbrev can (bk bW bO : Nat) (kn : List Bool) (vw vo : Value) (Hw Ho R : Hp) : Hp := (bk, knC kn) :: (bW, slC1 vw) :: (bO, slC1 vo) :: (Hw ++ (Ho ++ R))
theorem can_in (k w o : Nat × Know) (W O R : Hp) : (k :: w :: o :: (W ++ (O ++ R))).Perm (w :: o :: (W ++ (O ++ (k :: R)))) := by
  have h : (W ++ (O ++ (k :: R))).Perm (k :: (W ++ (O ++ R))) := by
    rw [← List.append_assoc, ← List.append_assoc]
    exact List.perm_middle
  exact (List.Perm.swap w k _).trans (((List.Perm.swap o k _).trans (h.symm.cons o)).cons w)
theorem flush_can (w0 : World) (R : Hp) (vw vo : Value) (Hw Ho : Hp) (wait out : List St) (bW bR bO bK bk n : Nat) (kn : List Bool) (hn : kn.length = n)
    (hK : (bK, Know.exact (.cells #[.slice (some ⟨bk, 0, none⟩) n n] 47 (0, 0))) ∈ R) (hR : (bR, Know.exact (.cells #[.func (.func 61) #[] #[.pointer (some ⟨bK, 0, none⟩)]] 133 (0, 0))) ∈ R)
    (hw : SlAt 11 50 (stsC wait) wait.length vw Hw) (ho : SlAt 11 50 (stsC out) out.length vo Ho) (hwl : wait.length ≤ 10000) (hol : out.length ≤ 10000)
    (hb : ∀ s ∈ wait, ∀ p ∈ placesSt s, p.var < n) :
    GC Tryz.prog w0 63 (#[] ++ #[] ++ #[.pointer (some ⟨bW, 0, none⟩), .pointer (some ⟨bR, 0, none⟩), .pointer (some ⟨bO, 0, none⟩)]) (fun v G' => ∃ vw' Hw' vo' Ho', (v = .tuple #[] ∧ SlAt 11 50 (stsC (wait.filter fun s => !readyF kn s)) (wait.filter fun s => !readyF kn s).length vw' Hw' ∧ SlAt 11 50 (stsC (out ++ wait.filter (readyF kn))) (out ++ wait.filter (readyF kn)).length vo' Ho') ∧ can bk bW bO kn vw' vo' Hw' Ho' R = G') (can bk bW bO kn vw vo Hw Ho R) := by
  subst hn
  refine GC.pre (Hs.perm (can_in _ _ _ _ _ _).symm) ?_
  refine (steps_flush w0 ((bk, knC kn) :: R) vw vo Hw Ho wait out bW bR bO kn bK bk (List.mem_cons_of_mem _ hK) List.mem_cons_self (List.mem_cons_of_mem _ hR) hw ho hwl hol hb).post ?_
  rintro v G1 ⟨vw', Hw', vo', Ho', h1, rfl⟩
  exact ⟨_, Hs.perm (can_in _ _ _ _ _ _), vw', Hw', vo', Ho', h1, rfl⟩
theorem can_new (a b k o w m : Nat × Know) (D M W X G : Hp) : (a :: b :: k :: o :: w :: m :: (D ++ (M ++ (W ++ (X ++ G))))).Perm (k :: w :: o :: (W ++ ([] ++ (a :: b :: m :: (D ++ (M ++ (X ++ G))))))) := by
  have h : (W ++ (a :: b :: m :: (D ++ (M ++ (X ++ G))))).Perm (a :: b :: m :: (D ++ (M ++ (W ++ (X ++ G))))) := by
    refine (pm3 a b m W _).trans (((List.Perm.cons m ?_).cons b).cons a)
    rw [← List.append_assoc D M, ← List.append_assoc D M (W ++ (X ++ G)), ← List.append_assoc W (D ++ M), ← List.append_assoc (D ++ M) W]
    exact List.Perm.append_right _ List.perm_append_comm
  rw [List.nil_append]
  -- bring k, w, o ahead
  have h1 : (a :: b :: k :: o :: w :: m :: (D ++ (M ++ (W ++ (X ++ G))))).Perm (k :: w :: o :: a :: b :: m :: (D ++ (M ++ (W ++ (X ++ G))))) := by
    have e1 : (a :: b :: k :: o :: w :: m :: (D ++ (M ++ (W ++ (X ++ G))))) = [a, b] ++ (k :: o :: w :: (m :: (D ++ (M ++ (W ++ (X ++ G)))))) := rfl
    rw [e1]
    refine (pm3 k o w [a, b] _).trans ?_
    exact (List.Perm.swap w o _).cons k
  exact h1.trans (((h.symm.cons o).cons w).cons k)
theorem can_end (k w o a b m : Nat × Know) (W O D M X G : Hp) : Hs (k :: w :: o :: (W ++ (O ++ (a :: b :: m :: (D ++ (M ++ (X ++ G))))))) (m :: (D ++ (O ++ G))) := by
  refine (Hs.sub (G' := O ++ (m :: (D ++ G))) ?_).trans (Hs.perm ?_)
  · have h1 : (m :: (D ++ G)).Sublist (a :: b :: m :: (D ++ (M ++ (X ++ G)))) := ((((List.sublist_append_right X G).trans (List.sublist_append_right M _)).append_left D).cons_cons m |>.cons b).cons a
    exact ((((h1.append_left O).trans (List.sublist_append_right W _)).cons o).cons w).cons k
  · refine List.Perm.trans ?_ (pm1 m O (D ++ G)).symm
    refine List.Perm.cons m ?_
    rw [← List.append_assoc, ← List.append_assoc]
    exact List.Perm.append_right _ List.perm_append_comm
theorem Hs.toRest (k w o : Nat × Know) (W O R : Hp) : Hs (k :: w :: o :: (W ++ (O ++ R))) R := Hs.sub ((((List.sublist_append_right O R).trans (List.sublist_append_right W _)).cons o |>.cons w).cons k)
theorem ord_deep (x p q r : Nat × Know) (A B C G : Hp) : Hs (x :: p :: q :: r :: (A ++ (B ++ (C ++ G)))) (p :: q :: r :: (A ++ (B ++ (C ++ ([x] ++ G))))) := Hs.perm (by
  have h : (A ++ (B ++ (C ++ (x :: G)))).Perm (x :: (A ++ (B ++ (C ++ G)))) := by
    have h0 := @List.perm_middle _ x (A ++ (B ++ C)) G
    simp only [List.append_assoc] at h0
    exact h0
  exact ((h.cons r).cons q |>.cons p).trans (pm3' x p q r _))
  where pm3' (x p q r : Nat × Know) (l : Hp) : (p :: q :: r :: x :: l).Perm (x :: p :: q :: r :: l) := pm1 x [p, q, r] l
theorem sub1 (x : Nat × Know) (H R : Hp) : R.Sublist (H ++ x :: R) := (List.sublist_cons_self x R).trans (List.sublist_append_right H _)
theorem Hs.asc (x1 x2 x3 x4 x5 x6 : Nat × Know) (A B E : Hp) : Hs (x1 :: x2 :: x3 :: x4 :: x5 :: x6 :: (A ++ (B ++ E))) (x1 :: x2 :: x3 :: x4 :: x5 :: x6 :: ((A ++ B) ++ E)) := Hs.eq (by rw [List.append_assoc])
theorem Hs.asc' (x1 x2 x3 x4 x5 x6 : Nat × Know) (A B E : Hp) : Hs (x1 :: x2 :: x3 :: x4 :: x5 :: x6 :: ((A ++ B) ++ E)) (x1 :: x2 :: x3 :: x4 :: x5 :: x6 :: (A ++ (B ++ E))) := Hs.eq (by rw [List.append_assoc])
theorem Hs.asc2 (x1 x2 x3 x4 x5 x6 : Nat × Know) (A B C E : Hp) : Hs (x1 :: x2 :: x3 :: x4 :: x5 :: x6 :: (A ++ (B ++ (C ++ E)))) (x1 :: x2 :: x3 :: x4 :: x5 :: x6 :: ((A ++ (B ++ C)) ++ E)) := Hs.eq (by simp only [List.append_assoc])
theorem Hs.asc2' (x1 x2 x3 x4 x5 x6 : Nat × Know) (A B C E : Hp) : Hs (x1 :: x2 :: x3 :: x4 :: x5 :: x6 :: ((A ++ (B ++ C)) ++ E)) (x1 :: x2 :: x3 :: x4 :: x5 :: x6 :: (A ++ (B ++ (C ++ E)))) := Hs.eq (by simp only [List.append_assoc])
theorem Hs.asc3 (x1 x2 x3 : Nat × Know) (A B E : Hp) : Hs (x1 :: x2 :: x3 :: (A ++ (B ++ E))) (x1 :: x2 :: x3 :: ((A ++ B) ++ E)) := Hs.eq (by rw [List.append_assoc])
theorem Hs.asc3' (x1 x2 x3 : Nat × Know) (A B E : Hp) : Hs (x1 :: x2 :: x3 :: ((A ++ B) ++ E)) (x1 :: x2 :: x3 :: (A ++ (B ++ E))) := Hs.eq (by rw [List.append_assoc])
theorem Hs.drop3 (x1 x2 x3 y : Nat × Know) (A B C G : Hp) : Hs (x1 :: x2 :: x3 :: (A ++ (B ++ (C ++ ([y] ++ G))))) (x1 :: x2 :: x3 :: (A ++ (B ++ (C ++ G)))) := Hs.sub ((((((List.sublist_cons_self y G).append_left C).append_left B).append_left A).cons_cons x3).cons_cons x2 |>.cons_cons x1)
theorem stsC_one (l : List St) : (stsC l).all (·.oneCell') = true := by
  rw [List.all_eq_true]
  intro v hv
  unfold stsC at hv
  obtain ⟨s, _, hs⟩ := List.mem_flatMap.1 hv
  simp only [StC, List.mem_cons, List.not_mem_nil, or_false] at hs
  rcases hs with rfl | rfl | rfl | rfl | rfl | rfl | rfl | rfl | rfl | rfl | rfl <;> rfl
theorem Hs.kn {bk : Nat} {C : Array Value} {kn : List Bool} {R : Hp} (h : C = (boolC kn).toArray) : Hs ((bk, .exact (.cells C 4 (0, 0))) :: R) ((bk, knC kn) :: R) := h ▸ Hs.refl _
theorem kn_zero (n : Nat) : (List.replicate n (Value.bool false)).toArray = (boolC (List.replicate n false)).toArray := by simp [boolC]
theorem getD_some {ms : List St} {i : Nat} (h : i < ms.length) : ms[i]? = some (ms.getD i zSt) := by rw [List.getD, List.getElem?_eq_getElem h]; rfl
theorem rw_index {r : Rw} {k : Nat} (h : k < 3) : ∃ p, (row3 r)[k]? = some p ∧ p ∈ row3 r ∧ ((RwC r).toArray.extract (k * 2) (k * 2 + 2)) = (PlC p).toArray := by
  rcases k with _ | _ | _ | k
  · exact ⟨r.p0, rfl, by simp [row3], rfl⟩
  · exact ⟨r.p1, rfl, by simp [row3], rfl⟩
  · exact ⟨r.p2, rfl, by simp [row3], rfl⟩
  · omega
theorem row_in {w0 : World} {G : Hp} {b o : Nat} {s : St} (h : Rds w0 G b o (StC s)) : Rds w0 G b (o + 1) (RwC s.row) := fun j v hv => by
  have := h (j + 1) v (by
    show (Value.int .i64 s.kind :: (RwC s.row ++ (PlC s.a ++ PlC s.b)))[j + 1]? = some v
    rw [List.getElem?_cons_succ, List.getElem?_append_left (List.getElem?_eq_some_iff.1 hv).1]
    exact hv)
  rwa [show o + (j + 1) = o + 1 + j by omega] at this
theorem mark_put {kn : List Bool} {i : Nat} (h : i < kn.length) : splice (boolC kn).toArray (0 + i * 1) (Value.bool true).cells.toList = (boolC (kn.set i true)).toArray := by
  rw [show 0 + i * 1 = i by omega, show (Value.bool true).cells.toList = [Value.bool true] from rfl, splice_one (by simpa [boolC] using h)]
  simp [boolC, List.map_set]
theorem eq_up (w0 : World) (G : Hp) (A : Option Addr) (xs : List Int) (c b n : Nat) (hx : IntsAt w0 G A xs) (hb : (b, Know.exact (.cells (intC (List.range n)).toArray 3 (0, 0))) ∈ G) (hm : xs.length ≤ 100000) (hm2 : n ≤ 100000) :
    GC Tryz.prog w0 59 #[.slice A xs.length c, .slice (some ⟨b, 0, none⟩) n n] (fun v G' => v = .bool (decide (xs = (List.range n).map (fun k : Nat => (k : Int)))) ∧ G = G') G := by
  have h := sl_EqInt w0 G A (some ⟨b, 0, none⟩) xs ((List.range n).map (fun k : Nat => (k : Int))) c n hx (exact_ints hb) hm (by simpa using hm2)
  simpa using h
theorem ordF_range {n : Nat} {order srt : List Int} (h : ∀ z ∈ order, z ∈ srt) : ∀ z ∈ ordF n order srt, 0 ≤ z ∧ z < n := by
  intro z hz
  unfold ordF at hz
  split at hz
  · rename_i he
    have := h z hz
    rw [he.2] at this
    obtain ⟨k, hk, rfl⟩ := List.mem_map.1 this
    have := List.mem_range.1 hk
    omega
  · obtain ⟨k, hk, rfl⟩ := List.mem_map.1 hz
    have := List.mem_range.1 hk
    omega
theorem ordF_yes {n : Nat} {order srt : List Int} (h1 : srt.length = n) (h2 : srt = (List.range n).map (fun k : Nat => (k : Int))) : ordF n order srt = order := by unfold ordF; rw [if_pos ⟨h1, h2⟩]
theorem ordF_eq {n : Nat} {srt : List Int} (e : srt.length = n) (h : srt = (List.range srt.length).map (fun k : Nat => (k : Int))) : srt = (List.range n).map (fun k : Nat => (k : Int)) := by rw [← e]; exact h
theorem ordF_no {n : Nat} {order srt : List Int} (h : ¬ (srt.length = n ∧ srt = (List.range n).map (fun k : Nat => (k : Int)))) : ordF n order srt = (List.range n).map (fun k : Nat => (k : Int)) := by unfold ordF; rw [if_neg h]
end Go.Proofs.YtfddkcmooommeaaGreatDoor.Gl
end
section
namespace Go.Proofs.YtfddkcmooommeaaGreatDoor.Gl
open Go.RowKit Go.Shelf
set_option linter.unusedVariables false
set_option linter.unnecessarySimpa false
set_option linter.unusedSimpArgs false
attribute [-simp] List.getD_eq_getElem?_getD
theorem plan_steps (w0 : World) (G : Hp) (HD : Hp) (ts : List Tm) (lim bD bM c : Nat) (A : Option Addr) (vars : List ByteArray) (bad : Int) (hD : Dic ts lim bD HD) (hv : StAt w0 G A vars) (hm : vars.length ≤ 100000)
    (bA : Option Addr) (body : List Lt) (bc : Nat) (hl : LtsAt w0 G bA body) (hbl : body.length ≤ 1000) (hterm : ∀ l ∈ body, ∀ s ∈ stepSl l, emp s.v = true → mayT s.t = true)
    (oA : Option Addr) (order srt : List Int) (oc : Nat) (ho : IntsAt w0 G oA order) (hol : order.length ≤ 1000) (hsl : srt.length ≤ 1000) (hmem : ∀ z ∈ order, z ∈ srt)
    (hS : ∀ (b1 : Nat) (G0 : Hp), (b1, Know.exact (.cells #[.slice oA order.length oc] 32 (0, 0))) ∈ G0 → IntsAt w0 G0 oA order → GC Tryz.prog w0 57 #[.func (.func 89) #[] #[.pointer (some ⟨b1, 0, none⟩)]] (fun v G' => ∃ H, SlAt 1 3 (zC srt) srt.length v H ∧ H ++ G0 = G') G0) :
    GC Tryz.prog w0 33 #[.pointer (some ⟨bM, 0, none⟩), .slice bA body.length bc, .slice oA order.length oc] (fun v G' => ∃ HD' Ho, (SlAt 11 50 (stsC (planSteps lim vars ts bad body order srt).1) (planSteps lim vars ts bad body order srt).1.length v Ho ∧ Dic (planSteps lim vars ts bad body order srt).2.1 lim bD HD') ∧ (bM, mkC bD A vars.length c (planSteps lim vars ts bad body order srt).2.2) :: (HD' ++ (Ho ++ G)) = G') ((bM, mkC bD A vars.length c bad) :: (HD ++ G)) := by
  refine GC.body (args := [.pointer (some ⟨bM, 0, none⟩), .slice bA body.length bc, .slice oA order.length oc]) Tryz.func33 rfl (by kernel_rfl) rfl ?_
  refine GW.seq ?_
  refine GW.region ?_
  refine R.assign ⟨rfl, rfl, rfl, rfl⟩ rfl ?_
  refine GOps.nil ?_
  refine GW.seq ?_
  refine GW.region ?_
  refine R.assign ⟨rfl, rfl, rfl, rfl⟩ rfl ?_
  refine R.alloc ⟨rfl, rfl, rfl, rfl⟩ Tryz.zeroValue39 fun b8 => ?_
  refine R.alloc ⟨rfl, rfl, rfl, rfl⟩ Tryz.zeroValue39 fun b9 => ?_
  refine GOps.nil ?_
  refine GW.seq ?_
  refine GW.region ?_
  refine R.assign ⟨rfl, rfl, rfl, rfl⟩ rfl ?_
  refine GOps.nil ?_
  refine GW.seq ?_
  refine GW.seq ?_
  refine GW.region ?_
  refine R.move ⟨rfl, rfl, rfl, rfl⟩ rfl ?_
  refine R.lenS ⟨rfl, rfl, rfl, rfl⟩ rfl rfl Tryz.underlying29 ?_
  refine R.move ⟨rfl, rfl, rfl, rfl⟩ rfl ?_
  refine GOps.nil ?_
  refine GW.block ?_
  -- LOOP: live 0:m, 2:order, 7:matches, 8:wait, 9:out, 10:nots, 22, 23, 24
  refine GW.loop4 (fun (i : Nat) (a : BS) (h : (Value × Value × Value) × (Hp × Hp × Hp × Hp)) (u1 : Unit) => [(0, .pointer (some ⟨bM, 0, none⟩)), (2, .slice oA order.length oc), (7, h.1.1), (8, .pointer (some ⟨b8, 0, none⟩)), (9, .pointer (some ⟨b9, 0, none⟩)), (10, h.1.2.2), (22, .slice bA body.length bc), (23, .int .i64 body.length), (24, .int .i64 i)]) (fun (i : Nat) (a : BS) (h : (Value × Value × Value) × (Hp × Hp × Hp × Hp)) (u1 : Unit) => (b9, slC1 (.slice none 0 0)) :: (b8, slC1 h.1.2.1) :: (bM, mkC bD A vars.length c a.bad) :: (h.2.2.2.2 ++ (h.2.1 ++ (h.2.2.1 ++ (h.2.2.2.1 ++ G))))) (fun i : Nat => body.length - i) (fun (i : Nat) (a : BS) (h : (Value × Value × Value) × (Hp × Hp × Hp × Hp)) (u1 : Unit) => i ≤ body.length ∧ a = bodyTo lim vars ts bad body i ∧ SlAt 11 50 (stsC (a.m)) (a.m).length h.1.1 h.2.1 ∧ SlAt 11 50 (stsC (a.w)) (a.w).length h.1.2.1 h.2.2.1 ∧ SlAt 11 50 (stsC (a.n)) (a.n).length h.1.2.2 h.2.2.2.1 ∧ Dic a.ts lim bD h.2.2.2.2 ∧ (a.n.length = 0 → h.1.2.2 = .slice none 0 0 ∧ h.2.2.2.1 = [])) 0 (⟨[], [], [], ts, bad⟩) (((.slice none 0 0, .slice none 0 0, .slice none 0 0), ([], [], [], HD))) (())
    (by repeat (first | exact Keeps.nil _ | refine Keeps.cons rfl ?_)) (Hs.refl _) (⟨Nat.zero_le _, rfl, .nil rfl rfl, .nil rfl rfl, .nil rfl rfl, hD, fun _ => ⟨rfl, rfl⟩⟩) ?_
  rintro i a h u1 ⟨hi, ha, hM, hW, hN, hD2, hnil⟩
  obtain ⟨⟨vm, vw, vn⟩, Hm, Hw, Hn, HD2⟩ := h
  have hbo : BOk vars.length i a := by rw [ha]; exact BOk.all i hi
  obtain ⟨hbl1, hbl2, hbl3⟩ := hbo.len
  refine GW.seq ?_
  refine GW.region ?_
  refine R.lss ⟨rfl, rfl, rfl, rfl⟩ rfl rfl ?_   -- lss ['t24', 't23']
  refine GOps.nil ?_
  refine GW.seq ?_
  refine GW.ite rfl (fun hc1 => ?_) (fun hc1 => ?_)
  · try simp only [decide_eq_true_eq, decide_eq_false_iff_not, Bool.not_eq_true', Bool.not_eq_false'] at hc1
    obtain ⟨l, hx⟩ : ∃ l, body[i]? = some l := ⟨_, List.getElem?_eq_getElem (by omega)⟩
    obtain ⟨lb, lo, cs0, rfl, rfl, hrd⟩ := hl i l hx
    refine GW.skip ?_
    refine GW.seq ?_
    refine GW.block ?_
    refine GW.seq ?_
    refine GW.region ?_
    refine R.indexAddrS ⟨rfl, rfl, rfl, rfl⟩ rfl rfl Tryz.underlying29 Tryz.sizeOf89 (by omega) (by omega) ?_   -- ['t22', 't24']
    refine R.loadA ⟨rfl, rfl, rfl, rfl⟩ rfl Tryz.underlying89 rfl Tryz.sizeOf89 (hrd.mono (fun y hy => by repeat (first | exact hy | apply List.mem_cons_of_mem | apply List.mem_append_right))) (by rfl) ?_   -- load 0 plan.go:65
    refine R.alloc ⟨rfl, rfl, rfl, rfl⟩ Tryz.zeroValue89 fun b12 => ?_
    refine R.storeAll (G1 := []) rfl rfl rfl rfl rfl Tryz.sizeOf89 rfl rfl rfl rfl ?_   -- t12:l
    refine GOps.nil ?_
    refine GW.seq ?_
    refine GW.region ?_
    refine R.move ⟨rfl, rfl, rfl, rfl⟩ rfl ?_
    refine R.load_own (cs := LtC l) ⟨rfl, rfl, rfl, rfl⟩ rfl Tryz.underlying89 rfl Tryz.sizeOf89 (by repeat (first | exact List.mem_cons_self | apply List.mem_cons_of_mem | apply List.mem_append_right)) (by rfl) (by rfl) ?_   -- load 1 plan.go:66 t12:l
    refine GOps.weak (Keeps.refl _) (Hs.toM3 _ _ _ _ _ _) ?_
    refine R.call ⟨rfl, rfl, rfl, rfl⟩ rfl (vs := [_, _]) rfl ((plan_step _ _ HD2 a.ts lim bD bM c A vars a.bad hD2 (hv.mono (fun y hy => by repeat (first | exact hy | apply List.mem_cons_of_mem | apply List.mem_append_right))) (by omega) l (hterm l (List.mem_of_getElem? hx))).mono ?_)
    rintro _ _ ⟨HD3, ⟨rfl, hD3⟩, rfl⟩
    refine GOps.weak (Keeps.refl _) (Hs.fromM3 _ _ _ _ _ _) ?_
    refine R.alloc ⟨rfl, rfl, rfl, rfl⟩ Tryz.zeroValue50 fun b13 => ?_
    refine R.storeAll (G1 := []) rfl rfl rfl rfl rfl Tryz.sizeOf50 rfl rfl rfl rfl ?_   -- t13:s
    refine GOps.nil ?_
    refine GW.seq ?_
    refine GW.region ?_
    refine R.fieldAddr ⟨rfl, rfl, rfl, rfl⟩ rfl Tryz.underlying50 rfl Tryz.sizeOf48 ?_   -- "Kind"
    refine R.load1 ⟨rfl, rfl, rfl, rfl⟩ rfl Tryz.underlying48 rfl (.own' (by repeat (first | exact List.mem_cons_self | apply List.mem_cons_of_mem | apply List.mem_append_right)) (by rfl)) ?_   -- load 2 plan.go:67 t31
    refine GOps.nil ?_
    refine GW.block ?_
    refine GW.seq ?_
    refine GW.region ?_
    refine R.eqI ⟨rfl, rfl, rfl, rfl⟩ rfl rfl ?_   -- eql ['t32', '1']
    refine R.assign ⟨rfl, rfl, rfl, rfl⟩ rfl ?_
    refine GOps.nil ?_
    refine GW.ite rfl (fun hc2 => ?_) (fun hc2 => ?_)
    · try simp only [decide_eq_true_eq, decide_eq_false_iff_not, Bool.not_eq_true', Bool.not_eq_false'] at hc2
      refine GW.region ?_
      refine R.move ⟨rfl, rfl, rfl, rfl⟩ rfl ?_
      refine R.load_own (cs := StC (stepF lim vars (a.ts, a.bad) l).1) ⟨rfl, rfl, rfl, rfl⟩ rfl Tryz.underlying50 rfl Tryz.sizeOf50 (by repeat (first | exact List.mem_cons_self | apply List.mem_cons_of_mem | apply List.mem_append_right)) (by rfl) (by rfl) ?_   -- load 3 plan.go:69 t13:s
      refine R.buildSliceF (sz := 11) (bytes := 88) (vs := [_]) (cs := StC (stepF lim vars (a.ts, a.bad) l).1) ⟨rfl, rfl, rfl, rfl⟩ rfl Tryz.underlying39 (InfoE.mk (by kernel_rfl)) rfl rfl rfl rfl rfl fun b41 => ?_   -- build 0 type 39
      refine R.append (sz := 11) (bytes := 88) (G1 := [_, _, _, _, _, _] ++ HD3) (H := Hm) (news := StC (stepF lim vars (a.ts, a.bad) l).1) ⟨rfl, rfl, rfl, rfl⟩ rfl rfl rfl Tryz.underlying39 (InfoE.mk (by kernel_rfl)) (hM) (rfl) (rfl) (.own (by repeat (first | exact List.mem_cons_self | apply List.mem_cons_of_mem | apply List.mem_append_right | exact List.mem_append_left _ List.mem_cons_self)) 0 _ (fun j v hv => by simpa using hv)) (by omega) (by rfl) (by omega) (by omega) fun v42 H42 hv42 => ?_
      obtain ⟨A42, c42, rfl, hc42⟩ := hv42.split
      refine R.assign ⟨rfl, rfl, rfl, rfl⟩ rfl ?_
      refine GOps.nil ?_
      refine GW.region ?_
      refine R.add (r := (((i + 1) : Nat) : Int)) ⟨rfl, rfl, rfl, rfl⟩ rfl rfl (by rw [wrap64_id (by omega) (by omega)]; omega) ?_   -- add ['t24', '1']
      refine R.move ⟨rfl, rfl, rfl, rfl⟩ rfl ?_
      refine GOps.nil ?_
      first | exact ⟨i + 1, ⟨a.m ++ [(stepF lim vars (a.ts, a.bad) l).1], a.w, a.n, (stepF lim vars (a.ts, a.bad) l).2.1, (stepF lim vars (a.ts, a.bad) l).2.2⟩, ((.slice A42 _ c42, vw, vn), (H42, Hw, Hn, HD3)), (), by omega, ⟨by omega, by rw [bodyTo_succ hx, ← ha, bodyStep_1 (by assumption)], (by show SlAt 11 50 (stsC (a.m ++ [(stepF lim vars (a.ts, a.bad) l).1])) (a.m ++ [(stepF lim vars (a.ts, a.bad) l).1]).length _ _; rw [sts_app, sts_one, List.length_append]; exact hv42), hW, hN, hD3, hnil⟩, rfl, by repeat (first | exact Keeps.nil _ | refine Keeps.cons rfl ?_), Hs.tl3 _ _ _⟩ | exact ⟨i + 1, ⟨a.m, a.w, a.n ++ [(stepF lim vars (a.ts, a.bad) l).1], (stepF lim vars (a.ts, a.bad) l).2.1, (stepF lim vars (a.ts, a.bad) l).2.2⟩, ((vm, vw, .slice A48 _ c48), (Hm, Hw, H48, HD3)), (), by omega, ⟨by omega, by rw [bodyTo_succ hx, ← ha, bodyStep_2 (by assumption) (by assumption)], hM, hW, (by show SlAt 11 50 (stsC (a.n ++ [(stepF lim vars (a.ts, a.bad) l).1])) (a.n ++ [(stepF lim vars (a.ts, a.bad) l).1]).length _ _; rw [sts_app, sts_one, List.length_append]; exact hv48), hD3, fun e => by simp at e⟩, rfl, by repeat (first | exact Keeps.nil _ | refine Keeps.cons rfl ?_), Hs.tl3 _ _ _⟩ | exact ⟨i + 1, ⟨a.m, a.w ++ [(stepF lim vars (a.ts, a.bad) l).1], a.n, (stepF lim vars (a.ts, a.bad) l).2.1, (stepF lim vars (a.ts, a.bad) l).2.2⟩, ((vm, .slice A36 _ c36, vn), (Hm, H36, Hn, HD3)), (), by omega, ⟨by omega, by rw [bodyTo_succ hx, ← ha, bodyStep_3 (by assumption) (by assumption)], hM, (by show SlAt 11 50 (stsC (a.w ++ [(stepF lim vars (a.ts, a.bad) l).1])) (a.w ++ [(stepF lim vars (a.ts, a.bad) l).1]).length _ _; rw [sts_app, sts_one, List.length_append]; exact hv36), hN, hD3, hnil⟩, rfl, by repeat (first | exact Keeps.nil _ | refine Keeps.cons rfl ?_), Hs.tl3 _ _ _⟩
    · try simp only [decide_eq_true_eq, decide_eq_false_iff_not, Bool.not_eq_true', Bool.not_eq_false'] at hc2
      refine GW.seq ?_
      refine GW.region ?_
      refine R.eqI ⟨rfl, rfl, rfl, rfl⟩ rfl rfl ?_   -- eql ['t32', '2']
      refine R.assign ⟨rfl, rfl, rfl, rfl⟩ rfl ?_
      refine GOps.nil ?_
      refine GW.ite rfl (fun hc3 => ?_) (fun hc3 => ?_)
      · try simp only [decide_eq_true_eq, decide_eq_false_iff_not, Bool.not_eq_true', Bool.not_eq_false'] at hc3
        refine GW.region ?_
        refine R.move ⟨rfl, rfl, rfl, rfl⟩ rfl ?_
        refine R.load_own (cs := StC (stepF lim vars (a.ts, a.bad) l).1) ⟨rfl, rfl, rfl, rfl⟩ rfl Tryz.underlying50 rfl Tryz.sizeOf50 (by repeat (first | exact List.mem_cons_self | apply List.mem_cons_of_mem | apply List.mem_append_right)) (by rfl) (by rfl) ?_   -- load 4 plan.go:71 t13:s
        refine R.buildSliceF (sz := 11) (bytes := 88) (vs := [_]) (cs := StC (stepF lim vars (a.ts, a.bad) l).1) ⟨rfl, rfl, rfl, rfl⟩ rfl Tryz.underlying39 (InfoE.mk (by kernel_rfl)) rfl rfl rfl rfl rfl fun b47 => ?_   -- build 1 type 39
        refine GOps.weak (Keeps.refl _) (Hs.asc2 _ _ _ _ _ _ _ _ _ _) ?_
        refine R.append (sz := 11) (bytes := 88) (G1 := [_, _, _, _, _, _] ++ (HD3 ++ (Hm ++ Hw))) (H := Hn) (news := StC (stepF lim vars (a.ts, a.bad) l).1) ⟨rfl, rfl, rfl, rfl⟩ rfl rfl rfl Tryz.underlying39 (InfoE.mk (by kernel_rfl)) (hN) (rfl) (rfl) (.own (by repeat (first | exact List.mem_cons_self | apply List.mem_cons_of_mem | apply List.mem_append_right | exact List.mem_append_left _ List.mem_cons_self)) 0 _ (fun j v hv => by simpa using hv)) (by omega) (by rfl) (by omega) (by omega) fun v48 H48 hv48 => ?_
        refine GOps.weak (Keeps.refl _) (Hs.asc2' _ _ _ _ _ _ HD3 Hm Hw (H48 ++ G)) ?_
        obtain ⟨A48, c48, rfl, hc48⟩ := hv48.split
        refine R.assign ⟨rfl, rfl, rfl, rfl⟩ rfl ?_
        refine GOps.nil ?_
        refine GW.region ?_
        refine R.add (r := (((i + 1) : Nat) : Int)) ⟨rfl, rfl, rfl, rfl⟩ rfl rfl (by rw [wrap64_id (by omega) (by omega)]; omega) ?_   -- add ['t24', '1']
        refine R.move ⟨rfl, rfl, rfl, rfl⟩ rfl ?_
        refine GOps.nil ?_
        first | exact ⟨i + 1, ⟨a.m ++ [(stepF lim vars (a.ts, a.bad) l).1], a.w, a.n, (stepF lim vars (a.ts, a.bad) l).2.1, (stepF lim vars (a.ts, a.bad) l).2.2⟩, ((.slice A42 _ c42, vw, vn), (H42, Hw, Hn, HD3)), (), by omega, ⟨by omega, by rw [bodyTo_succ hx, ← ha, bodyStep_1 (by assumption)], (by show SlAt 11 50 (stsC (a.m ++ [(stepF lim vars (a.ts, a.bad) l).1])) (a.m ++ [(stepF lim vars (a.ts, a.bad) l).1]).length _ _; rw [sts_app, sts_one, List.length_append]; exact hv42), hW, hN, hD3, hnil⟩, rfl, by repeat (first | exact Keeps.nil _ | refine Keeps.cons rfl ?_), Hs.tl3 _ _ _⟩ | exact ⟨i + 1, ⟨a.m, a.w, a.n ++ [(stepF lim vars (a.ts, a.bad) l).1], (stepF lim vars (a.ts, a.bad) l).2.1, (stepF lim vars (a.ts, a.bad) l).2.2⟩, ((vm, vw, .slice A48 _ c48), (Hm, Hw, H48, HD3)), (), by omega, ⟨by omega, by rw [bodyTo_succ hx, ← ha, bodyStep_2 (by assumption) (by assumption)], hM, hW, (by show SlAt 11 50 (stsC (a.n ++ [(stepF lim vars (a.ts, a.bad) l).1])) (a.n ++ [(stepF lim vars (a.ts, a.bad) l).1]).length _ _; rw [sts_app, sts_one, List.length_append]; exact hv48), hD3, fun e => by simp at e⟩, rfl, by repeat (first | exact Keeps.nil _ | refine Keeps.cons rfl ?_), Hs.tl3 _ _ _⟩ | exact ⟨i + 1, ⟨a.m, a.w ++ [(stepF lim vars (a.ts, a.bad) l).1], a.n, (stepF lim vars (a.ts, a.bad) l).2.1, (stepF lim vars (a.ts, a.bad) l).2.2⟩, ((vm, .slice A36 _ c36, vn), (Hm, H36, Hn, HD3)), (), by omega, ⟨by omega, by rw [bodyTo_succ hx, ← ha, bodyStep_3 (by assumption) (by assumption)], hM, (by show SlAt 11 50 (stsC (a.w ++ [(stepF lim vars (a.ts, a.bad) l).1])) (a.w ++ [(stepF lim vars (a.ts, a.bad) l).1]).length _ _; rw [sts_app, sts_one, List.length_append]; exact hv36), hN, hD3, hnil⟩, rfl, by repeat (first | exact Keeps.nil _ | refine Keeps.cons rfl ?_), Hs.tl3 _ _ _⟩
      · try simp only [decide_eq_true_eq, decide_eq_false_iff_not, Bool.not_eq_true', Bool.not_eq_false'] at hc3
        refine GW.region ?_
        refine R.load1 ⟨rfl, rfl, rfl, rfl⟩ rfl Tryz.underlying39 rfl (.own' (by repeat (first | exact List.mem_cons_self | apply List.mem_cons_of_mem | apply List.mem_append_right)) (by rfl)) ?_   -- load 5 plan.go:73 t8:wait
        refine R.load_own (cs := StC (stepF lim vars (a.ts, a.bad) l).1) ⟨rfl, rfl, rfl, rfl⟩ rfl Tryz.underlying50 rfl Tryz.sizeOf50 (by repeat (first | exact List.mem_cons_self | apply List.mem_cons_of_mem | apply List.mem_append_right)) (by rfl) (by rfl) ?_   -- load 6 plan.go:73 t13:s
        refine R.buildSliceF (sz := 11) (bytes := 88) (vs := [_]) (cs := StC (stepF lim vars (a.ts, a.bad) l).1) ⟨rfl, rfl, rfl, rfl⟩ rfl Tryz.underlying39 (InfoE.mk (by kernel_rfl)) rfl rfl rfl rfl rfl fun b35 => ?_   -- build 2 type 39
        refine GOps.weak (Keeps.refl _) (Hs.asc _ _ _ _ _ _ _ _ _) ?_
        refine R.append (sz := 11) (bytes := 88) (G1 := [_, _, _, _, _, _] ++ (HD3 ++ Hm)) (H := Hw) (news := StC (stepF lim vars (a.ts, a.bad) l).1) ⟨rfl, rfl, rfl, rfl⟩ rfl rfl rfl Tryz.underlying39 (InfoE.mk (by kernel_rfl)) (hW) (rfl) (rfl) (.own (by repeat (first | exact List.mem_cons_self | apply List.mem_cons_of_mem | apply List.mem_append_right | exact List.mem_append_left _ List.mem_cons_self)) 0 _ (fun j v hv => by simpa using hv)) (by omega) (by rfl) (by omega) (by omega) fun v36 H36 hv36 => ?_
        refine GOps.weak (Keeps.refl _) (Hs.asc' _ _ _ _ _ _ HD3 Hm (H36 ++ (Hn ++ G))) ?_
        obtain ⟨A36, c36, rfl, hc36⟩ := hv36.split
        refine R.storeAll (G1 := [_, _, _, _]) rfl rfl rfl rfl rfl Tryz.sizeOf39 rfl rfl rfl rfl ?_   -- t8:wait
        refine GOps.nil ?_
        refine GW.region ?_
        refine R.add (r := (((i + 1) : Nat) : Int)) ⟨rfl, rfl, rfl, rfl⟩ rfl rfl (by rw [wrap64_id (by omega) (by omega)]; omega) ?_   -- add ['t24', '1']
        refine R.move ⟨rfl, rfl, rfl, rfl⟩ rfl ?_
        refine GOps.nil ?_
        first | exact ⟨i + 1, ⟨a.m ++ [(stepF lim vars (a.ts, a.bad) l).1], a.w, a.n, (stepF lim vars (a.ts, a.bad) l).2.1, (stepF lim vars (a.ts, a.bad) l).2.2⟩, ((.slice A42 _ c42, vw, vn), (H42, Hw, Hn, HD3)), (), by omega, ⟨by omega, by rw [bodyTo_succ hx, ← ha, bodyStep_1 (by assumption)], (by show SlAt 11 50 (stsC (a.m ++ [(stepF lim vars (a.ts, a.bad) l).1])) (a.m ++ [(stepF lim vars (a.ts, a.bad) l).1]).length _ _; rw [sts_app, sts_one, List.length_append]; exact hv42), hW, hN, hD3, hnil⟩, rfl, by repeat (first | exact Keeps.nil _ | refine Keeps.cons rfl ?_), Hs.tl3 _ _ _⟩ | exact ⟨i + 1, ⟨a.m, a.w, a.n ++ [(stepF lim vars (a.ts, a.bad) l).1], (stepF lim vars (a.ts, a.bad) l).2.1, (stepF lim vars (a.ts, a.bad) l).2.2⟩, ((vm, vw, .slice A48 _ c48), (Hm, Hw, H48, HD3)), (), by omega, ⟨by omega, by rw [bodyTo_succ hx, ← ha, bodyStep_2 (by assumption) (by assumption)], hM, hW, (by show SlAt 11 50 (stsC (a.n ++ [(stepF lim vars (a.ts, a.bad) l).1])) (a.n ++ [(stepF lim vars (a.ts, a.bad) l).1]).length _ _; rw [sts_app, sts_one, List.length_append]; exact hv48), hD3, fun e => by simp at e⟩, rfl, by repeat (first | exact Keeps.nil _ | refine Keeps.cons rfl ?_), Hs.tl3 _ _ _⟩ | exact ⟨i + 1, ⟨a.m, a.w ++ [(stepF lim vars (a.ts, a.bad) l).1], a.n, (stepF lim vars (a.ts, a.bad) l).2.1, (stepF lim vars (a.ts, a.bad) l).2.2⟩, ((vm, .slice A36 _ c36, vn), (Hm, H36, Hn, HD3)), (), by omega, ⟨by omega, by rw [bodyTo_succ hx, ← ha, bodyStep_3 (by assumption) (by assumption)], hM, (by show SlAt 11 50 (stsC (a.w ++ [(stepF lim vars (a.ts, a.bad) l).1])) (a.w ++ [(stepF lim vars (a.ts, a.bad) l).1]).length _ _; rw [sts_app, sts_one, List.length_append]; exact hv36), hN, hD3, hnil⟩, rfl, by repeat (first | exact Keeps.nil _ | refine Keeps.cons rfl ?_), Hs.tl3 _ _ _⟩
  · try simp only [decide_eq_true_eq, decide_eq_false_iff_not, Bool.not_eq_true', Bool.not_eq_false'] at hc1
    obtain rfl : i = body.length := by omega
    subst ha
    obtain ⟨Am, cm, rfl, hms, hcm⟩ := hM.sts w0 []
    rw [List.append_nil] at hms
    refine GW.exit ?_
    refine GW.cutX (fun a : Value × Hp => [(0, .pointer (some ⟨bM, 0, none⟩)), (2, .slice oA order.length oc), (7, .slice Am (bodyTo lim vars ts bad body body.length).m.length cm), (8, .pointer (some ⟨b8, 0, none⟩)), (9, .pointer (some ⟨b9, 0, none⟩))]) (fun a : Value × Hp => (b9, slC1 (.slice none 0 0)) :: (b8, slC1 a.1) :: (bM, mkC bD A vars.length c (bodyTo lim vars ts bad body body.length).bad) :: (HD2 ++ (Hm ++ (a.2 ++ G)))) (fun a : Value × Hp => SlAt 11 50 (stsC ((bodyTo lim vars ts bad body body.length).w ++ (bodyTo lim vars ts bad body body.length).n)) ((bodyTo lim vars ts bad body body.length).w ++ (bodyTo lim vars ts bad body body.length).n).length a.1 a.2) ?_ ?_
    · refine GW.region ?_
      refine R.load1 ⟨rfl, rfl, rfl, rfl⟩ rfl Tryz.underlying39 rfl (.own' (by repeat (first | exact List.mem_cons_self | apply List.mem_cons_of_mem | apply List.mem_append_right)) (by rfl)) ?_   -- load 7 plan.go:77 t8:wait
      refine R.move ⟨rfl, rfl, rfl, rfl⟩ rfl ?_
      rcases Nat.eq_zero_or_pos (bodyTo lim vars ts bad body body.length).n.length with hn0 | hn0
      · obtain ⟨rfl, rfl⟩ := hnil hn0
        obtain ⟨Aw, cw, rfl, hcw⟩ := hW.split
        refine R.appendNil (sz := 11) (bytes := 88) ⟨rfl, rfl, rfl, rfl⟩ rfl rfl rfl Tryz.underlying39 (InfoE.mk (by kernel_rfl)) (hcw) ?_
        refine R.storeAll (G1 := [_]) rfl rfl rfl rfl rfl Tryz.sizeOf39 rfl rfl rfl rfl ?_   -- t8:wait
        refine GOps.nil ?_
        first | exact ⟨rfl, rfl, (.slice Aw _ cw, Hw), (by rw [List.length_eq_zero_iff] at hn0; show SlAt 11 50 (stsC ((bodyTo lim vars ts bad body body.length).w ++ (bodyTo lim vars ts bad body body.length).n)) ((bodyTo lim vars ts bad body body.length).w ++ (bodyTo lim vars ts bad body body.length).n).length _ _; rw [hn0, List.append_nil]; exact hW), by repeat (first | exact Keeps.nil _ | refine Keeps.cons rfl ?_), Hs.refl _⟩ | exact ⟨rfl, rfl, (.slice A52 _ c52, H52), (by show SlAt 11 50 (stsC ((bodyTo lim vars ts bad body body.length).w ++ (bodyTo lim vars ts bad body body.length).n)) ((bodyTo lim vars ts bad body body.length).w ++ (bodyTo lim vars ts bad body body.length).n).length _ _; rw [sts_app, List.length_append]; exact hv52), by repeat (first | exact Keeps.nil _ | refine Keeps.cons rfl ?_), Hs.drop3 _ _ _ _ _ _ _ _⟩
      · obtain ⟨bn, cn, rfl, rfl, hcn⟩ := hN.row_of hn0
        refine GOps.weak (Keeps.refl _) (Hs.asc3 _ _ _ _ _ _) ?_
        refine R.append (sz := 11) (bytes := 88) (G1 := [_, _, _] ++ (HD2 ++ Hm)) (H := Hw) (news := stsC (bodyTo lim vars ts bad body body.length).n) ⟨rfl, rfl, rfl, rfl⟩ rfl rfl rfl Tryz.underlying39 (InfoE.mk (by kernel_rfl)) (hW) (rfl) (stsC_len _) (row_rds (by repeat (first | exact List.mem_cons_self | apply List.mem_cons_of_mem | apply List.mem_append_right | exact List.mem_append_left _ List.mem_cons_self))) (by omega) (stsC_one _) (by omega) (by omega) fun v52 H52 hv52 => ?_
        refine GOps.weak (Keeps.refl _) (Hs.asc3' _ _ _ HD2 Hm (H52 ++ _)) ?_
        obtain ⟨A52, c52, rfl, hc52⟩ := hv52.split
        refine R.storeAll (G1 := [_]) rfl rfl rfl rfl rfl Tryz.sizeOf39 rfl rfl rfl rfl ?_   -- t8:wait
        refine GOps.nil ?_
        first | exact ⟨rfl, rfl, (.slice Aw _ cw, Hw), (by rw [List.length_eq_zero_iff] at hn0; show SlAt 11 50 (stsC ((bodyTo lim vars ts bad body body.length).w ++ (bodyTo lim vars ts bad body body.length).n)) ((bodyTo lim vars ts bad body body.length).w ++ (bodyTo lim vars ts bad body body.length).n).length _ _; rw [hn0, List.append_nil]; exact hW), by repeat (first | exact Keeps.nil _ | refine Keeps.cons rfl ?_), Hs.refl _⟩ | exact ⟨rfl, rfl, (.slice A52 _ c52, H52), (by show SlAt 11 50 (stsC ((bodyTo lim vars ts bad body body.length).w ++ (bodyTo lim vars ts bad body body.length).n)) ((bodyTo lim vars ts bad body body.length).w ++ (bodyTo lim vars ts bad body body.length).n).length _ _; rw [sts_app, List.length_append]; exact hv52), by repeat (first | exact Keeps.nil _ | refine Keeps.cons rfl ?_), Hs.drop3 _ _ _ _ _ _ _ _⟩
    · rintro ⟨vw2, Hw2⟩ hW2
      simp only at hW2
      refine GW.cutX (fun a : (Option Addr × Nat × Nat) × Hp => [(0, .pointer (some ⟨bM, 0, none⟩)), (2, .slice a.1.1 a.1.2.1 a.1.2.2), (7, .slice Am (bodyTo lim vars ts bad body body.length).m.length cm), (8, .pointer (some ⟨b8, 0, none⟩)), (9, .pointer (some ⟨b9, 0, none⟩))]) (fun a : (Option Addr × Nat × Nat) × Hp => (b9, slC1 (.slice none 0 0)) :: (b8, slC1 vw2) :: (bM, mkC bD A vars.length c (bodyTo lim vars ts bad body body.length).bad) :: (HD2 ++ (Hm ++ (Hw2 ++ (a.2 ++ G))))) (fun a : (Option Addr × Nat × Nat) × Hp => a.1.2.1 = (ordF (bodyTo lim vars ts bad body body.length).m.length order srt).length ∧ IntsAt w0 (a.2 ++ G) a.1.1 (ordF (bodyTo lim vars ts bad body body.length).m.length order srt) ∧ (ordF (bodyTo lim vars ts bad body body.length).m.length order srt).length ≤ 1000) ?_ ?_
      · refine GW.seq ?_
        refine GW.region ?_
        refine R.move ⟨rfl, rfl, rfl, rfl⟩ rfl ?_
        refine R.call ⟨rfl, rfl, rfl, rfl⟩ rfl (vs := [_]) rfl ((sl_Values _ _ oA order.length oc).mono ?_)
        rintro _ _ ⟨b54, rfl, rfl⟩
        refine R.call ⟨rfl, rfl, rfl, rfl⟩ rfl (vs := [_]) rfl ((hS b54 _ List.mem_cons_self (ho.mono (fun y hy => by repeat (first | exact hy | apply List.mem_cons_of_mem | apply List.mem_append_right)))).mono ?_)
        rintro v55 _ ⟨H55, h55, rfl⟩
        obtain ⟨As, cs, rfl, hsr, hcs⟩ := h55.ints w0 []
        rw [List.append_nil] at hsr
        refine R.assign ⟨rfl, rfl, rfl, rfl⟩ rfl ?_
        refine GOps.nil ?_
        refine GW.seq ?_
        refine GW.region ?_
        refine R.move ⟨rfl, rfl, rfl, rfl⟩ rfl ?_
        refine R.lenS ⟨rfl, rfl, rfl, rfl⟩ rfl rfl Tryz.underlying32 ?_
        refine R.move ⟨rfl, rfl, rfl, rfl⟩ rfl ?_
        refine R.lenS ⟨rfl, rfl, rfl, rfl⟩ rfl rfl Tryz.underlying39 ?_
        refine R.neI ⟨rfl, rfl, rfl, rfl⟩ rfl rfl ?_   -- neq ['t57', 't59']
        refine R.move ⟨rfl, rfl, rfl, rfl⟩ rfl ?_
        refine GOps.caseB 61 rfl (fun hg4 => ?_) (fun hg4 => ?_)
        · try simp only [decide_eq_true_eq, decide_eq_false_iff_not, Bool.not_eq_true', Bool.not_eq_false'] at hg4
          refine GOps.skip rfl rfl rfl ?_
          refine GOps.skip rfl rfl rfl ?_
          refine GOps.skip rfl rfl rfl ?_
          refine GOps.skip rfl rfl rfl ?_
          refine GOps.skip rfl rfl rfl ?_
          refine GOps.skip rfl rfl rfl ?_
          refine R.pick_t ⟨rfl, rfl, rfl, rfl⟩ rfl rfl ?_
          refine GOps.nil ?_
          refine GW.cond_t rfl ?_
          refine GW.region ?_
          refine R.move ⟨rfl, rfl, rfl, rfl⟩ rfl ?_
          refine R.lenS ⟨rfl, rfl, rfl, rfl⟩ rfl rfl Tryz.underlying39 ?_
          refine R.call ⟨rfl, rfl, rfl, rfl⟩ rfl (vs := [_]) rfl ((plan_upTo _ _ (bodyTo lim vars ts bad body body.length).m.length (by omega)).mono ?_)
          rintro _ _ ⟨b71, rfl, rfl⟩
          refine R.assign ⟨rfl, rfl, rfl, rfl⟩ rfl ?_
          refine GOps.nil ?_
          first | exact ⟨rfl, rfl, ((some ⟨b71, 0, none⟩, (bodyTo lim vars ts bad body body.length).m.length, (bodyTo lim vars ts bad body body.length).m.length), [(b71, .exact (.cells (intC (List.range (bodyTo lim vars ts bad body body.length).m.length)).toArray 3 (0, 0)))]), ⟨(by rw [ordF_no (by rintro ⟨e1, e2⟩; first | omega | (rw [← e1] at e2; exact hc5 e2)), List.length_map, List.length_range]), (by rw [ordF_no (by rintro ⟨e1, e2⟩; first | omega | (rw [← e1] at e2; exact hc5 e2))]; exact exact_ints (List.mem_append_left _ List.mem_cons_self)), (by rw [ordF_no (by rintro ⟨e1, e2⟩; first | omega | (rw [← e1] at e2; exact hc5 e2)), List.length_map, List.length_range]; omega)⟩, by repeat (first | exact Keeps.nil _ | refine Keeps.cons rfl ?_), (Hs.sub (by first | exact (sub1 _ _ _).cons_cons _ | exact ((sub1 _ _ _).cons _).cons_cons _)).trans (ord_deep _ _ _ _ _ _ _ _)⟩ | exact ⟨rfl, rfl, ((oA, order.length, oc), []), ⟨(by rw [ordF_yes (by omega) (ordF_eq (by omega) hc5)]), (by rw [ordF_yes (by omega) (ordF_eq (by omega) hc5)]; exact ho), (by rw [ordF_yes (by omega) (ordF_eq (by omega) hc5)]; exact hol)⟩, by repeat (first | exact Keeps.nil _ | refine Keeps.cons rfl ?_), Hs.sub ((sub1 _ _ _).cons _)⟩
        · try simp only [decide_eq_true_eq, decide_eq_false_iff_not, Bool.not_eq_true', Bool.not_eq_false'] at hg4
          refine R.move ⟨rfl, rfl, rfl, rfl⟩ rfl ?_
          refine R.move ⟨rfl, rfl, rfl, rfl⟩ rfl ?_
          refine R.lenS ⟨rfl, rfl, rfl, rfl⟩ rfl rfl Tryz.underlying32 ?_
          refine R.call ⟨rfl, rfl, rfl, rfl⟩ rfl (vs := [_]) rfl ((plan_upTo _ _ srt.length (by omega)).mono ?_)
          rintro _ _ ⟨b65, rfl, rfl⟩
          refine R.call ⟨rfl, rfl, rfl, rfl⟩ rfl (vs := [_, _]) rfl ((eq_up _ _ As srt cs b65 srt.length (hsr.mono (fun y hy => List.mem_cons_of_mem _ (List.mem_append_left _ hy))) List.mem_cons_self (by omega) (by omega)).mono ?_)
          rintro _ _ ⟨rfl, rfl⟩
          refine R.not ⟨rfl, rfl, rfl, rfl⟩ rfl ?_
          refine R.pick_f ⟨rfl, rfl, rfl, rfl⟩ rfl rfl ?_
          refine GOps.nil ?_
          refine GW.ite rfl (fun hc5 => ?_) (fun hc5 => ?_)
          · try simp only [decide_eq_true_eq, decide_eq_false_iff_not, Bool.not_eq_true', Bool.not_eq_false'] at hc5
            refine GW.region ?_
            refine R.move ⟨rfl, rfl, rfl, rfl⟩ rfl ?_
            refine R.lenS ⟨rfl, rfl, rfl, rfl⟩ rfl rfl Tryz.underlying39 ?_
            refine R.call ⟨rfl, rfl, rfl, rfl⟩ rfl (vs := [_]) rfl ((plan_upTo _ _ (bodyTo lim vars ts bad body body.length).m.length (by omega)).mono ?_)
            rintro _ _ ⟨b71, rfl, rfl⟩
            refine R.assign ⟨rfl, rfl, rfl, rfl⟩ rfl ?_
            refine GOps.nil ?_
            first | exact ⟨rfl, rfl, ((some ⟨b71, 0, none⟩, (bodyTo lim vars ts bad body body.length).m.length, (bodyTo lim vars ts bad body body.length).m.length), [(b71, .exact (.cells (intC (List.range (bodyTo lim vars ts bad body body.length).m.length)).toArray 3 (0, 0)))]), ⟨(by rw [ordF_no (by rintro ⟨e1, e2⟩; first | omega | (rw [← e1] at e2; exact hc5 e2)), List.length_map, List.length_range]), (by rw [ordF_no (by rintro ⟨e1, e2⟩; first | omega | (rw [← e1] at e2; exact hc5 e2))]; exact exact_ints (List.mem_append_left _ List.mem_cons_self)), (by rw [ordF_no (by rintro ⟨e1, e2⟩; first | omega | (rw [← e1] at e2; exact hc5 e2)), List.length_map, List.length_range]; omega)⟩, by repeat (first | exact Keeps.nil _ | refine Keeps.cons rfl ?_), (Hs.sub (by first | exact (sub1 _ _ _).cons_cons _ | exact ((sub1 _ _ _).cons _).cons_cons _)).trans (ord_deep _ _ _ _ _ _ _ _)⟩ | exact ⟨rfl, rfl, ((oA, order.length, oc), []), ⟨(by rw [ordF_yes (by omega) (ordF_eq (by omega) hc5)]), (by rw [ordF_yes (by omega) (ordF_eq (by omega) hc5)]; exact ho), (by rw [ordF_yes (by omega) (ordF_eq (by omega) hc5)]; exact hol)⟩, by repeat (first | exact Keeps.nil _ | refine Keeps.cons rfl ?_), Hs.sub ((sub1 _ _ _).cons _)⟩
          · try simp only [decide_eq_true_eq, decide_eq_false_iff_not, Bool.not_eq_true', Bool.not_eq_false'] at hc5
            refine GW.skip ?_
            first | exact ⟨rfl, rfl, ((some ⟨b71, 0, none⟩, (bodyTo lim vars ts bad body body.length).m.length, (bodyTo lim vars ts bad body body.length).m.length), [(b71, .exact (.cells (intC (List.range (bodyTo lim vars ts bad body body.length).m.length)).toArray 3 (0, 0)))]), ⟨(by rw [ordF_no (by rintro ⟨e1, e2⟩; first | omega | (rw [← e1] at e2; exact hc5 e2)), List.length_map, List.length_range]), (by rw [ordF_no (by rintro ⟨e1, e2⟩; first | omega | (rw [← e1] at e2; exact hc5 e2))]; exact exact_ints (List.mem_append_left _ List.mem_cons_self)), (by rw [ordF_no (by rintro ⟨e1, e2⟩; first | omega | (rw [← e1] at e2; exact hc5 e2)), List.length_map, List.length_range]; omega)⟩, by repeat (first | exact Keeps.nil _ | refine Keeps.cons rfl ?_), (Hs.sub (by first | exact (sub1 _ _ _).cons_cons _ | exact ((sub1 _ _ _).cons _).cons_cons _)).trans (ord_deep _ _ _ _ _ _ _ _)⟩ | exact ⟨rfl, rfl, ((oA, order.length, oc), []), ⟨(by rw [ordF_yes (by omega) (ordF_eq (by omega) hc5)]), (by rw [ordF_yes (by omega) (ordF_eq (by omega) hc5)]; exact ho), (by rw [ordF_yes (by omega) (ordF_eq (by omega) hc5)]; exact hol)⟩, by repeat (first | exact Keeps.nil _ | refine Keeps.cons rfl ?_), Hs.sub ((sub1 _ _ _).cons _)⟩
      · rintro ⟨⟨Ax, nx, cx⟩, Hx⟩ ⟨rfl, hox, hoxl⟩
        simp only at hox
        refine GW.seq ?_
        refine GW.region ?_
        refine R.move ⟨rfl, rfl, rfl, rfl⟩ rfl ?_
        refine R.nilCheck ⟨rfl, rfl, rfl, rfl⟩ rfl ?_
        refine R.fieldAddr ⟨rfl, rfl, rfl, rfl⟩ rfl Tryz.underlying97 rfl Tryz.sizeOf61 ?_   -- "vars"
        refine R.load1 ⟨rfl, rfl, rfl, rfl⟩ rfl Tryz.underlying61 rfl (.own' (by repeat (first | exact List.mem_cons_self | apply List.mem_cons_of_mem | apply List.mem_append_right)) (by rfl)) ?_   -- load 8 plan.go:81 t74
        refine R.lenS ⟨rfl, rfl, rfl, rfl⟩ rfl rfl Tryz.underlying61 ?_
        refine R.makeZero (n := vars.length) (bytes := 1) (z0 := .bool false) ⟨rfl, rfl, rfl, rfl⟩ (by rfl) (by rfl) Tryz.underlying47 (InfoE.mk (by kernel_rfl)) (InfoZ.mk (by kernel_rfl)) (by omega) (by omega) fun b77 => ?_
        refine R.alloc ⟨rfl, rfl, rfl, rfl⟩ Tryz.zeroValue47 fun b15 => ?_
        refine R.storeAll (G1 := []) rfl rfl rfl rfl rfl Tryz.sizeOf47 rfl rfl rfl rfl ?_   -- t15:known
        refine GOps.nil ?_
        refine GW.seq ?_
        refine GW.region ?_
        refine R.makeFunc (vs := []) (us := [_]) ⟨rfl, rfl, rfl, rfl⟩ rfl rfl ?_
        refine R.alloc ⟨rfl, rfl, rfl, rfl⟩ Tryz.zeroValue133 fun b16 => ?_
        refine R.storeAll (G1 := []) rfl rfl rfl rfl rfl Tryz.sizeOf133 rfl rfl rfl rfl ?_   -- t16:ready
        refine GOps.nil ?_
        refine GW.cutX (fun a : Unit => [(2, .slice Ax (ordF (bodyTo lim vars ts bad body body.length).m.length order srt).length cx), (7, .slice Am (bodyTo lim vars ts bad body body.length).m.length cm), (9, .pointer (some ⟨b9, 0, none⟩)), (15, .pointer (some ⟨b15, 0, none⟩)), (17, .func (.func 63) #[] #[.pointer (some ⟨b8, 0, none⟩), .pointer (some ⟨b16, 0, none⟩), .pointer (some ⟨b9, 0, none⟩)])]) (fun a : Unit => can b77 b8 b9 (List.replicate vars.length false) (vw2) (.slice none 0 0) (Hw2) ([]) ((b16, .exact (.cells #[.func (.func 61) #[] #[.pointer (some ⟨b15, 0, none⟩)]] 133 (0, 0))) :: (b15, .exact (.cells #[.slice (some ⟨b77, 0, none⟩) vars.length vars.length] 47 (0, 0))) :: (bM, mkC bD A vars.length c (bodyTo lim vars ts bad body body.length).bad) :: (HD2 ++ (Hm ++ (Hx ++ G))))) (fun a : Unit => True) ?_ ?_
        · refine GW.region ?_
          refine R.makeFunc (vs := []) (us := [_, _, _]) ⟨rfl, rfl, rfl, rfl⟩ rfl rfl ?_
          refine R.assign ⟨rfl, rfl, rfl, rfl⟩ rfl ?_
          refine GOps.nil ?_
          exact ⟨rfl, rfl, (), trivial, by repeat (first | exact Keeps.nil _ | refine Keeps.cons rfl ?_), (Hs.perm (can_new _ _ _ _ _ _ _ _ _ _ _).symm).trans (Hs.kn (kn_zero _))⟩
        · intro _ _
          have hbo := BOk.all (lim := lim) (vars := vars) (ts := ts) (bad := bad) (body := body) body.length (Nat.le_refl _)
          have hwp : ∀ s ∈ (bodyTo lim vars ts bad body body.length).w ++ (bodyTo lim vars ts bad body body.length).n, ∀ p ∈ placesSt s, p.var < vars.length := fun s hs => hbo.pl s (List.mem_append_right _ hs)
          have hq0 : ROk vars.length 2000 ⟨List.replicate vars.length false, (bodyTo lim vars ts bad body body.length).w ++ (bodyTo lim vars ts bad body body.length).n, []⟩ := ⟨by simp, hwp, by simp; have := hbo.len; omega⟩
          refine GW.seq ?_
          refine GW.region ?_
          refine R.move ⟨rfl, rfl, rfl, rfl⟩ rfl ?_
          refine R.call ⟨rfl, rfl, rfl, rfl⟩ rfl (vs := []) rfl ((flush_can _ _ _ _ _ _ ((bodyTo lim vars ts bad body body.length).w ++ (bodyTo lim vars ts bad body body.length).n) [] b8 b16 b9 b15 b77 vars.length (List.replicate vars.length false) (by simp) (by show _ ∈ (_ :: _ :: _ :: (_ ++ (_ ++ _))); repeat (first | exact List.mem_cons_self | apply List.mem_cons_of_mem | apply List.mem_append_right)) (by show _ ∈ (_ :: _ :: _ :: (_ ++ (_ ++ _))); repeat (first | exact List.mem_cons_self | apply List.mem_cons_of_mem | apply List.mem_append_right)) hW2 (.nil rfl rfl) (by simp; omega) (by simp) hwp).mono ?_)
          rintro _ _ ⟨vw3, Hw3, vo3, Ho3, ⟨rfl, hW3, hO3⟩, rfl⟩
          refine GOps.nil ?_
          refine GW.seq ?_
          refine GW.seq ?_
          refine GW.region ?_
          refine R.move ⟨rfl, rfl, rfl, rfl⟩ rfl ?_
          refine R.lenS ⟨rfl, rfl, rfl, rfl⟩ rfl rfl Tryz.underlying32 ?_
          refine R.move ⟨rfl, rfl, rfl, rfl⟩ rfl ?_
          refine GOps.nil ?_
          refine GW.block ?_
          -- LOOP: live 7:matches, 9:out, 15:known, 17:flush, 82, 83, 84
          refine GW.loop4 (fun (i : Nat) (q : RS) (h : (Value × Value) × (Hp × Hp)) (u1 : Unit) => [(7, .slice Am (bodyTo lim vars ts bad body body.length).m.length cm), (9, .pointer (some ⟨b9, 0, none⟩)), (15, .pointer (some ⟨b15, 0, none⟩)), (17, .func (.func 63) #[] #[.pointer (some ⟨b8, 0, none⟩), .pointer (some ⟨b16, 0, none⟩), .pointer (some ⟨b9, 0, none⟩)]), (82, .slice Ax (ordF (bodyTo lim vars ts bad body body.length).m.length order srt).length cx), (83, .int .i64 (ordF (bodyTo lim vars ts bad body body.length).m.length order srt).length), (84, .int .i64 i)]) (fun (i : Nat) (q : RS) (h : (Value × Value) × (Hp × Hp)) (u1 : Unit) => can b77 b8 b9 (q.kn) (h.1.1) (h.1.2) (h.2.1) (h.2.2) ((b16, .exact (.cells #[.func (.func 61) #[] #[.pointer (some ⟨b15, 0, none⟩)]] 133 (0, 0))) :: (b15, .exact (.cells #[.slice (some ⟨b77, 0, none⟩) vars.length vars.length] 47 (0, 0))) :: (bM, mkC bD A vars.length c (bodyTo lim vars ts bad body body.length).bad) :: (HD2 ++ (Hm ++ (Hx ++ G))))) (fun i : Nat => (ordF (bodyTo lim vars ts bad body body.length).m.length order srt).length - i) (fun (i : Nat) (q : RS) (h : (Value × Value) × (Hp × Hp)) (u1 : Unit) => i ≤ (ordF (bodyTo lim vars ts bad body body.length).m.length order srt).length ∧ q = runTo (bodyTo lim vars ts bad body body.length).m ⟨List.replicate vars.length false, (bodyTo lim vars ts bad body body.length).w ++ (bodyTo lim vars ts bad body body.length).n, []⟩ (ordF (bodyTo lim vars ts bad body body.length).m.length order srt) i ∧ SlAt 11 50 (stsC (q.w)) (q.w).length h.1.1 h.2.1 ∧ SlAt 11 50 (stsC (q.o)) (q.o).length h.1.2 h.2.2) 0 (flushR ⟨List.replicate vars.length false, (bodyTo lim vars ts bad body body.length).w ++ (bodyTo lim vars ts bad body body.length).n, []⟩) (((vw3, vo3), (Hw3, Ho3))) (())
            (by repeat (first | exact Keeps.nil _ | refine Keeps.cons rfl ?_)) (Hs.refl _) (⟨Nat.zero_le _, rfl, hW3, hO3⟩) ?_
          rintro i q h u1 ⟨hi, hq, hWq, hOq⟩
          obtain ⟨⟨vw, vo⟩, Hw, Ho⟩ := h
          obtain ⟨hq1, hq2⟩ := run_ok (ms := (bodyTo lim vars ts bad body body.length).m) (ord := (ordF (bodyTo lim vars ts bad body body.length).m.length order srt)) hq0 i
          rw [← hq] at hq1 hq2
          have hq3 := hq2 hi
          have hq4 : q.o.length ≤ 4000 := by simp only [List.length_append, List.length_nil] at hq3; have := hbo.len; omega
          refine GW.seq ?_
          refine GW.region ?_
          refine R.lss ⟨rfl, rfl, rfl, rfl⟩ rfl rfl ?_   -- lss ['t84', 't83']
          refine GOps.nil ?_
          refine GW.seq ?_
          refine GW.ite rfl (fun hc6 => ?_) (fun hc6 => ?_)
          · try simp only [decide_eq_true_eq, decide_eq_false_iff_not, Bool.not_eq_true', Bool.not_eq_false'] at hc6
            obtain ⟨z, hz⟩ : ∃ z, (ordF (bodyTo lim vars ts bad body body.length).m.length order srt)[i]? = some z := ⟨_, List.getElem?_eq_getElem (by omega)⟩
            obtain ⟨zb, zo, rfl, hrz⟩ := int_at hox hz
            have hzr := ordF_range hmem z (List.mem_of_getElem? hz)
            have hzx := getD_some (ms := (bodyTo lim vars ts bad body body.length).m) (i := z.toNat) (by omega)
            obtain ⟨sb, so, cs1, rfl, rfl, hrs⟩ := hms z.toNat _ hzx
            have hsm := List.mem_of_getElem? hzx
            refine GW.skip ?_
            refine GW.seq ?_
            refine GW.block ?_
            refine GW.seq ?_
            refine GW.region ?_
            refine R.indexAddrS ⟨rfl, rfl, rfl, rfl⟩ rfl rfl Tryz.underlying32 Tryz.sizeOf3 (by omega) (by omega) ?_   -- ['t82', 't84']
            refine R.load1 ⟨rfl, rfl, rfl, rfl⟩ rfl Tryz.underlying3 rfl (hrz.mono (by intro y hy; show _ ∈ (_ :: _ :: _ :: (_ ++ (_ ++ (_ :: _ :: _ :: (_ ++ (_ ++ _)))))); repeat (first | exact hy | apply List.mem_cons_of_mem | apply List.mem_append_right))) ?_   -- load 9 plan.go:99
            refine R.assign ⟨rfl, rfl, rfl, rfl⟩ rfl ?_
            refine GOps.nil ?_
            refine GW.cutX (fun a : Value × Hp => [(7, .slice (some ⟨sb, so, none⟩) (bodyTo lim vars ts bad body body.length).m.length cm), (9, .pointer (some ⟨b9, 0, none⟩)), (15, .pointer (some ⟨b15, 0, none⟩)), (17, .func (.func 63) #[] #[.pointer (some ⟨b8, 0, none⟩), .pointer (some ⟨b16, 0, none⟩), .pointer (some ⟨b9, 0, none⟩)]), (19, .int .i64 z), (82, .slice (some ⟨zb, zo, none⟩) (ordF (bodyTo lim vars ts bad body body.length).m.length order srt).length cx), (83, .int .i64 (ordF (bodyTo lim vars ts bad body body.length).m.length order srt).length), (84, .int .i64 i)]) (fun a : Value × Hp => can b77 b8 b9 (q.kn) (vw) (a.1) (Hw) (a.2) ((b16, .exact (.cells #[.func (.func 61) #[] #[.pointer (some ⟨b15, 0, none⟩)]] 133 (0, 0))) :: (b15, .exact (.cells #[.slice (some ⟨b77, 0, none⟩) vars.length vars.length] 47 (0, 0))) :: (bM, mkC bD A vars.length c (bodyTo lim vars ts bad body body.length).bad) :: (HD2 ++ (Hm ++ (Hx ++ G))))) (fun a : Value × Hp => SlAt 11 50 (stsC (q.o ++ [((bodyTo lim vars ts bad body body.length).m.getD z.toNat zSt)])) (q.o ++ [((bodyTo lim vars ts bad body body.length).m.getD z.toNat zSt)]).length a.1 a.2) ?_ ?_
            · refine GW.draw ((b16, .exact (.cells #[.func (.func 61) #[] #[.pointer (some ⟨b15, 0, none⟩)]] 133 (0, 0))) :: (b15, .exact (.cells #[.slice (some ⟨b77, 0, none⟩) vars.length vars.length] 47 (0, 0))) :: (bM, mkC bD A vars.length c (bodyTo lim vars ts bad body body.length).bad) :: (HD2 ++ (Hm ++ (Hx ++ G)))) 8 rfl (by kernel_rfl) ?_
              refine GA.val 1 rfl (V.move ⟨rfl, rfl, rfl, rfl⟩ rfl) rfl (by kernel_rfl) (by kernel_rfl) (by kernel_rfl) ?_
              refine GA.val 2 rfl (V.move ⟨rfl, rfl, rfl, rfl⟩ rfl) rfl (by kernel_rfl) (by kernel_rfl) (by kernel_rfl) ?_
              refine GA.val 3 rfl (V.indexAddrS ⟨rfl, rfl, rfl, rfl⟩ rfl rfl Tryz.underlying39 Tryz.sizeOf50 (by omega) (by omega)) rfl (by kernel_rfl) (by kernel_rfl) (by kernel_rfl) ?_   -- ['t89', 't90']
              refine GA.val 4 rfl (V.loadA ⟨rfl, rfl, rfl, rfl⟩ rfl Tryz.underlying50 rfl Tryz.sizeOf50 (hrs.mono (by intro y hy; repeat (first | exact List.mem_append_left _ hy | apply List.mem_cons_of_mem | apply List.mem_append_right))) (by rfl)) rfl (by kernel_rfl) (by kernel_rfl) (by kernel_rfl) ?_   -- load 10 plan.go:100
              refine GA.two 0 5 (by first | exact Hs.toRest _ _ _ _ _ _ | exact Hs.sub (by repeat (first | exact List.Sublist.refl _ | apply List.Sublist.cons | refine List.Sublist.trans ?_ (List.sublist_append_right _ _))) | exact Hs.refl _ | exact Hs.tl _ | exact Hs.tl2 _ _ | exact Hs.tl3 _ _ _ | exact Hs.app _ | exact Hs.sub (by simp)) (by kernel_rfl) rfl rfl ?_ ?_
              · refine R.load1 ⟨rfl, rfl, rfl, rfl⟩ rfl Tryz.underlying39 rfl (.own' (by repeat (first | exact List.mem_cons_self | apply List.mem_cons_of_mem | apply List.mem_append_right)) (by rfl)) ?_   -- load 11 plan.go:100 t9:out
                refine GOps.nil ?_
                refine GA.one 5 (by first | exact Hs.toRest _ _ _ _ _ _ | exact Hs.sub (by repeat (first | exact List.Sublist.refl _ | apply List.Sublist.cons | refine List.Sublist.trans ?_ (List.sublist_append_right _ _))) | exact Hs.refl _ | exact Hs.tl _ | exact Hs.tl2 _ _ | exact Hs.tl3 _ _ _ | exact Hs.app _ | exact Hs.sub (by simp)) (by kernel_rfl) rfl ?_
                refine R.buildSliceF (sz := 11) (bytes := 88) (vs := [_]) (cs := StC ((bodyTo lim vars ts bad body body.length).m.getD z.toNat zSt)) ⟨rfl, rfl, rfl, rfl⟩ rfl Tryz.underlying39 (InfoE.mk (by kernel_rfl)) rfl rfl rfl rfl rfl fun b93 => ?_   -- build 3 type 39
                refine GOps.nil ?_
                refine GA.one 6 (by first | exact Hs.toRest _ _ _ _ _ _ | exact Hs.sub (by repeat (first | exact List.Sublist.refl _ | apply List.Sublist.cons | refine List.Sublist.trans ?_ (List.sublist_append_right _ _))) | exact Hs.refl _ | exact Hs.tl _ | exact Hs.tl2 _ _ | exact Hs.tl3 _ _ _ | exact Hs.app _ | exact Hs.sub (by simp)) (by kernel_rfl) rfl ?_
                refine R.append (sz := 11) (bytes := 88) (G1 := [_, _, _, _] ++ Hw) (H := Ho) (news := StC ((bodyTo lim vars ts bad body body.length).m.getD z.toNat zSt)) ⟨rfl, rfl, rfl, rfl⟩ rfl rfl rfl Tryz.underlying39 (InfoE.mk (by kernel_rfl)) (hOq) (rfl) (rfl) (.own (by repeat (first | exact List.mem_cons_self | apply List.mem_cons_of_mem | apply List.mem_append_right | exact List.mem_append_left _ List.mem_cons_self)) 0 _ (fun j v hv => by simpa using hv)) (by omega) (by rfl) (by omega) (by omega) fun v94 H94 hv94 => ?_
                obtain ⟨A94, c94, rfl, hc94⟩ := hv94.split
                refine GOps.nil ?_
                refine GA.one 7 (by first | exact Hs.toRest _ _ _ _ _ _ | exact Hs.sub (by repeat (first | exact List.Sublist.refl _ | apply List.Sublist.cons | refine List.Sublist.trans ?_ (List.sublist_append_right _ _))) | exact Hs.refl _ | exact Hs.tl _ | exact Hs.tl2 _ _ | exact Hs.tl3 _ _ _ | exact Hs.app _ | exact Hs.sub (by simp)) (by kernel_rfl) rfl ?_
                refine R.storeAll (G1 := [_, _, _]) rfl rfl rfl rfl rfl Tryz.sizeOf39 rfl rfl rfl rfl ?_   -- t9:out
                refine GOps.nil ?_
                refine GA.done (by first | exact Hs.toRest _ _ _ _ _ _ | exact Hs.sub (by repeat (first | exact List.Sublist.refl _ | apply List.Sublist.cons | refine List.Sublist.trans ?_ (List.sublist_append_right _ _))) | exact Hs.refl _ | exact Hs.tl _ | exact Hs.tl2 _ _ | exact Hs.tl3 _ _ _ | exact Hs.app _ | exact Hs.sub (by simp)) (by kernel_rfl) ?_
                exact ⟨rfl, rfl, (.slice A94 _ c94, H94), (by show SlAt 11 50 (stsC (q.o ++ [((bodyTo lim vars ts bad body body.length).m.getD z.toNat zSt)])) (q.o ++ [((bodyTo lim vars ts bad body body.length).m.getD z.toNat zSt)]).length _ _; rw [sts_app, sts_one, List.length_append]; exact hv94), by repeat (first | exact Keeps.nil _ | refine Keeps.cons rfl ?_), Hs.tl _⟩
              · refine R.buildSliceF (sz := 11) (bytes := 88) (vs := [_]) (cs := StC ((bodyTo lim vars ts bad body body.length).m.getD z.toNat zSt)) ⟨rfl, rfl, rfl, rfl⟩ rfl Tryz.underlying39 (InfoE.mk (by kernel_rfl)) rfl rfl rfl rfl rfl fun b93 => ?_   -- build 4 type 39
                refine GOps.nil ?_
                refine GA.one 0 (by first | exact Hs.toRest _ _ _ _ _ _ | exact Hs.sub (by repeat (first | exact List.Sublist.refl _ | apply List.Sublist.cons | refine List.Sublist.trans ?_ (List.sublist_append_right _ _))) | exact Hs.refl _ | exact Hs.tl _ | exact Hs.tl2 _ _ | exact Hs.tl3 _ _ _ | exact Hs.app _ | exact Hs.sub (by simp)) (by kernel_rfl) rfl ?_
                refine R.load1 ⟨rfl, rfl, rfl, rfl⟩ rfl Tryz.underlying39 rfl (.own' (by repeat (first | exact List.mem_cons_self | apply List.mem_cons_of_mem | apply List.mem_append_right)) (by rfl)) ?_   -- load 12 plan.go:100 t9:out
                refine GOps.nil ?_
                refine GA.one 6 (by first | exact Hs.toRest _ _ _ _ _ _ | exact Hs.sub (by repeat (first | exact List.Sublist.refl _ | apply List.Sublist.cons | refine List.Sublist.trans ?_ (List.sublist_append_right _ _))) | exact Hs.refl _ | exact Hs.tl _ | exact Hs.tl2 _ _ | exact Hs.tl3 _ _ _ | exact Hs.app _ | exact Hs.sub (by simp)) (by kernel_rfl) rfl ?_
                refine R.append (sz := 11) (bytes := 88) (G1 := [_, _, _, _] ++ Hw) (H := Ho) (news := StC ((bodyTo lim vars ts bad body body.length).m.getD z.toNat zSt)) ⟨rfl, rfl, rfl, rfl⟩ rfl rfl rfl Tryz.underlying39 (InfoE.mk (by kernel_rfl)) (hOq) (rfl) (rfl) (.own (by repeat (first | exact List.mem_cons_self | apply List.mem_cons_of_mem | apply List.mem_append_right | exact List.mem_append_left _ List.mem_cons_self)) 0 _ (fun j v hv => by simpa using hv)) (by omega) (by rfl) (by omega) (by omega) fun v94 H94 hv94 => ?_
                obtain ⟨A94, c94, rfl, hc94⟩ := hv94.split
                refine GOps.nil ?_
                refine GA.one 7 (by first | exact Hs.toRest _ _ _ _ _ _ | exact Hs.sub (by repeat (first | exact List.Sublist.refl _ | apply List.Sublist.cons | refine List.Sublist.trans ?_ (List.sublist_append_right _ _))) | exact Hs.refl _ | exact Hs.tl _ | exact Hs.tl2 _ _ | exact Hs.tl3 _ _ _ | exact Hs.app _ | exact Hs.sub (by simp)) (by kernel_rfl) rfl ?_
                refine R.storeAll (G1 := [_, _, _]) rfl rfl rfl rfl rfl Tryz.sizeOf39 rfl rfl rfl rfl ?_   -- t9:out
                refine GOps.nil ?_
                refine GA.done (by first | exact Hs.toRest _ _ _ _ _ _ | exact Hs.sub (by repeat (first | exact List.Sublist.refl _ | apply List.Sublist.cons | refine List.Sublist.trans ?_ (List.sublist_append_right _ _))) | exact Hs.refl _ | exact Hs.tl _ | exact Hs.tl2 _ _ | exact Hs.tl3 _ _ _ | exact Hs.app _ | exact Hs.sub (by simp)) (by kernel_rfl) ?_
                exact ⟨rfl, rfl, (.slice A94 _ c94, H94), (by show SlAt 11 50 (stsC (q.o ++ [((bodyTo lim vars ts bad body body.length).m.getD z.toNat zSt)])) (q.o ++ [((bodyTo lim vars ts bad body body.length).m.getD z.toNat zSt)]).length _ _; rw [sts_app, sts_one, List.length_append]; exact hv94), by repeat (first | exact Keeps.nil _ | refine Keeps.cons rfl ?_), Hs.tl _⟩
            · rintro ⟨vo2, Ho2⟩ hO2
              simp only at hO2
              refine GW.seq ?_
              refine GW.seq ?_
              refine GW.region ?_
              refine R.move ⟨rfl, rfl, rfl, rfl⟩ rfl ?_
              refine R.move ⟨rfl, rfl, rfl, rfl⟩ rfl ?_
              refine R.indexAddrS ⟨rfl, rfl, rfl, rfl⟩ rfl rfl Tryz.underlying39 Tryz.sizeOf50 (by omega) (by omega) ?_   -- ['t95', 't96']
              refine R.fieldAddr ⟨rfl, rfl, rfl, rfl⟩ rfl Tryz.underlying50 rfl Tryz.sizeOf38 ?_   -- "Row"
              refine R.loadA ⟨rfl, rfl, rfl, rfl⟩ rfl Tryz.underlying38 rfl Tryz.sizeOf38 (row_in (hrs.mono (by intro y hy; show _ ∈ (_ :: _ :: _ :: (_ ++ (_ ++ (_ :: _ :: _ :: (_ ++ (_ ++ _)))))); repeat (first | exact List.mem_append_left _ hy | apply List.mem_cons_of_mem | apply List.mem_append_right)))) (by rfl) ?_   -- load 13 plan.go:101
              refine R.move ⟨rfl, rfl, rfl, rfl⟩ rfl ?_
              refine GOps.nil ?_
              refine GW.block ?_
              -- LOOP: live 7:matches, 9:out, 15:known, 17:flush, 82, 83, 84, 99, 100
              refine GW.loopI (fun k : Nat => [(7, .slice (some ⟨sb, so, none⟩) (bodyTo lim vars ts bad body body.length).m.length cm), (9, .pointer (some ⟨b9, 0, none⟩)), (15, .pointer (some ⟨b15, 0, none⟩)), (17, .func (.func 63) #[] #[.pointer (some ⟨b8, 0, none⟩), .pointer (some ⟨b16, 0, none⟩), .pointer (some ⟨b9, 0, none⟩)]), (82, .slice (some ⟨zb, zo, none⟩) (ordF (bodyTo lim vars ts bad body body.length).m.length order srt).length cx), (83, .int .i64 (ordF (bodyTo lim vars ts bad body body.length).m.length order srt).length), (84, .int .i64 i), (99, .agg (RwC ((bodyTo lim vars ts bad body body.length).m.getD z.toNat zSt).row).toArray), (100, .int .i64 k)]) (fun k => can b77 b8 b9 (markTo q.kn ((bodyTo lim vars ts bad body body.length).m.getD z.toNat zSt).row k) (vw) (vo2) (Hw) (Ho2) ((b16, .exact (.cells #[.func (.func 61) #[] #[.pointer (some ⟨b15, 0, none⟩)]] 133 (0, 0))) :: (b15, .exact (.cells #[.slice (some ⟨b77, 0, none⟩) vars.length vars.length] 47 (0, 0))) :: (bM, mkC bD A vars.length c (bodyTo lim vars ts bad body body.length).bad) :: (HD2 ++ (Hm ++ (Hx ++ G))))) (fun k => 3 - k) (fun k => k ≤ 3) 0
                (by repeat (first | exact Keeps.nil _ | refine Keeps.cons rfl ?_)) (Hs.refl _) (Nat.zero_le _) ?_
              rintro k hk
              refine GW.seq ?_
              refine GW.region ?_
              refine R.lss ⟨rfl, rfl, rfl, rfl⟩ rfl rfl ?_   -- lss ['t100', '3']
              refine GOps.nil ?_
              refine GW.seq ?_
              refine GW.ite rfl (fun hc7 => ?_) (fun hc7 => ?_)
              · try simp only [decide_eq_true_eq, decide_eq_false_iff_not, Bool.not_eq_true', Bool.not_eq_false'] at hc7
                obtain ⟨p, hp, hpm, hpe⟩ := rw_index (r := ((bodyTo lim vars ts bad body body.length).m.getD z.toNat zSt).row) (k := k) (by omega)
                have hpv : p.var < vars.length := hbo.pl _ (List.mem_append_left _ hsm) p (by rw [placesSt_r (.inl (hbo.m1 _ hsm))]; exact hpm)
                refine GW.skip ?_
                refine GW.seq ?_
                refine GW.block ?_
                refine GW.seq ?_
                refine GW.region ?_
                refine R.indexArr (es := (PlC p).toArray) ⟨rfl, rfl, rfl, rfl⟩ rfl rfl Tryz.underlying38 Tryz.underlying37 rfl Tryz.sizeOf37 (by omega) (by omega) (hpe) ?_
                refine R.alloc ⟨rfl, rfl, rfl, rfl⟩ Tryz.zeroValue37 fun b21 => ?_
                refine R.storeAll (G1 := []) rfl rfl rfl rfl rfl Tryz.sizeOf37 rfl rfl rfl rfl ?_   -- t21:p
                refine GOps.nil ?_
                refine GW.seq ?_
                refine GW.region ?_
                refine R.fieldAddr ⟨rfl, rfl, rfl, rfl⟩ rfl Tryz.underlying37 rfl Tryz.sizeOf3 ?_   -- "Var"
                refine R.load1 ⟨rfl, rfl, rfl, rfl⟩ rfl Tryz.underlying3 rfl (.own' (by repeat (first | exact List.mem_cons_self | apply List.mem_cons_of_mem | apply List.mem_append_right)) (by rfl)) ?_   -- load 14 plan.go:102 t103
                refine R.geq ⟨rfl, rfl, rfl, rfl⟩ rfl rfl ?_   -- geq ['t104', '0']
                refine GOps.nil ?_
                refine GW.ite rfl (fun hc8 => ?_) (fun hc8 => ?_)
                · try simp only [decide_eq_true_eq, decide_eq_false_iff_not, Bool.not_eq_true', Bool.not_eq_false'] at hc8
                  refine GW.region ?_
                  refine R.load1 ⟨rfl, rfl, rfl, rfl⟩ rfl Tryz.underlying47 rfl (.own' (by repeat (first | exact List.mem_cons_self | apply List.mem_cons_of_mem | apply List.mem_append_right)) (by rfl)) ?_   -- load 15 plan.go:103 t15:known
                  refine R.fieldAddr ⟨rfl, rfl, rfl, rfl⟩ rfl Tryz.underlying37 rfl Tryz.sizeOf3 ?_   -- "Var"
                  refine R.load1 ⟨rfl, rfl, rfl, rfl⟩ rfl Tryz.underlying3 rfl (.own' (by repeat (first | exact List.mem_cons_self | apply List.mem_cons_of_mem | apply List.mem_append_right)) (by rfl)) ?_   -- load 16 plan.go:103 t107
                  refine R.indexAddrS ⟨rfl, rfl, rfl, rfl⟩ rfl rfl Tryz.underlying47 Tryz.sizeOf4 (by omega) (by omega) ?_   -- ['t106', 't108']
                  refine R.store (G1 := [_]) rfl rfl rfl rfl rfl Tryz.sizeOf4 rfl rfl (rfl) (by simp [boolC, markTo_len, hq1.kn]; omega) ?_   -- t109
                  refine GOps.nil ?_
                  refine GW.region ?_
                  refine R.add (r := (((k + 1) : Nat) : Int)) ⟨rfl, rfl, rfl, rfl⟩ rfl rfl (by rw [wrap64_id (by omega) (by omega)]; omega) ?_   -- add ['t100', '1']
                  refine R.move ⟨rfl, rfl, rfl, rfl⟩ rfl ?_
                  refine GOps.nil ?_
                  first | exact ⟨k + 1, by omega, by omega, rfl, by repeat (first | exact Keeps.nil _ | refine Keeps.cons rfl ?_), (Hs.tl _).trans (Hs.kn (by rw [markTo_succ hp, markP, if_pos (by omega)]; exact mark_put (by rw [markTo_len, hq1.kn]; omega)))⟩ | exact ⟨k + 1, by omega, by omega, rfl, by repeat (first | exact Keeps.nil _ | refine Keeps.cons rfl ?_), (Hs.tl _).trans (Hs.kn (by rw [markTo_succ hp, markP, if_neg (by omega)]))⟩
                · try simp only [decide_eq_true_eq, decide_eq_false_iff_not, Bool.not_eq_true', Bool.not_eq_false'] at hc8
                  refine GW.skip ?_
                  refine GW.region ?_
                  refine R.add (r := (((k + 1) : Nat) : Int)) ⟨rfl, rfl, rfl, rfl⟩ rfl rfl (by rw [wrap64_id (by omega) (by omega)]; omega) ?_   -- add ['t100', '1']
                  refine R.move ⟨rfl, rfl, rfl, rfl⟩ rfl ?_
                  refine GOps.nil ?_
                  first | exact ⟨k + 1, by omega, by omega, rfl, by repeat (first | exact Keeps.nil _ | refine Keeps.cons rfl ?_), (Hs.tl _).trans (Hs.kn (by rw [markTo_succ hp, markP, if_pos (by omega)]; exact mark_put (by rw [markTo_len, hq1.kn]; omega)))⟩ | exact ⟨k + 1, by omega, by omega, rfl, by repeat (first | exact Keeps.nil _ | refine Keeps.cons rfl ?_), (Hs.tl _).trans (Hs.kn (by rw [markTo_succ hp, markP, if_neg (by omega)]))⟩
              · try simp only [decide_eq_true_eq, decide_eq_false_iff_not, Bool.not_eq_true', Bool.not_eq_false'] at hc7
                obtain rfl : k = 3 := by omega
                refine GW.exit ?_
                refine GW.region ?_
                refine R.move ⟨rfl, rfl, rfl, rfl⟩ rfl ?_
                refine R.call ⟨rfl, rfl, rfl, rfl⟩ rfl (vs := []) rfl ((flush_can _ _ _ _ _ _ q.w (q.o ++ [((bodyTo lim vars ts bad body body.length).m.getD z.toNat zSt)]) b8 b16 b9 b15 b77 vars.length (markTo q.kn ((bodyTo lim vars ts bad body body.length).m.getD z.toNat zSt).row 3) (by rw [markTo_len]; exact hq1.kn) (by show _ ∈ (_ :: _ :: _ :: (_ ++ (_ ++ _))); repeat (first | exact List.mem_cons_self | apply List.mem_cons_of_mem | apply List.mem_append_right)) (by show _ ∈ (_ :: _ :: _ :: (_ ++ (_ ++ _))); repeat (first | exact List.mem_cons_self | apply List.mem_cons_of_mem | apply List.mem_append_right)) hWq hO2 (by have := hq1.wl; omega) (by simp; omega) hq1.w).mono ?_)
                rintro _ _ ⟨vw4, Hw4, vo4, Ho4, ⟨rfl, hW4, hO4⟩, rfl⟩
                refine GOps.nil ?_
                refine GW.region ?_
                refine R.add (r := (((i + 1) : Nat) : Int)) ⟨rfl, rfl, rfl, rfl⟩ rfl rfl (by rw [wrap64_id (by omega) (by omega)]; omega) ?_   -- add ['t84', '1']
                refine R.move ⟨rfl, rfl, rfl, rfl⟩ rfl ?_
                refine GOps.nil ?_
                exact ⟨i + 1, takeR (bodyTo lim vars ts bad body body.length).m q z, ((vw4, vo4), (Hw4, Ho4)), (), by omega, ⟨by omega, by rw [runTo_succ hz, ← hq], hW4, hO4⟩, rfl, by repeat (first | exact Keeps.nil _ | refine Keeps.cons rfl ?_), Hs.refl _⟩
          · try simp only [decide_eq_true_eq, decide_eq_false_iff_not, Bool.not_eq_true', Bool.not_eq_false'] at hc6
            obtain rfl : i = (ordF (bodyTo lim vars ts bad body body.length).m.length order srt).length := by omega
            subst hq
            refine GW.exit ?_
            refine GW.seq ?_
            refine GW.region ?_
            refine R.load1 ⟨rfl, rfl, rfl, rfl⟩ rfl Tryz.underlying39 rfl (.own' (by repeat (first | exact List.mem_cons_self | apply List.mem_cons_of_mem | apply List.mem_append_right)) (by rfl)) ?_   -- load 17 plan.go:108 t9:out
            refine R.assign ⟨rfl, rfl, rfl, rfl⟩ rfl ?_
            refine GOps.nil ?_
            exact GW.ret (Out.of (Res.one rfl rfl) (can_end _ _ _ _ _ _ _ _ _ _ _ _) ⟨HD2, Ho, ⟨hOq, hD2⟩, rfl⟩)
end Go.Proofs.YtfddkcmooommeaaGreatDoor.Gl
end
section
namespace Go.Proofs.YtfddkcmooommeaaGreatDoor.Gl
open Go.RowKit Go.Shelf
set_option linter.unusedVariables false
set_option linter.unnecessarySimpa false
set_option linter.unusedSimpArgs false
attribute [-simp] List.getD_eq_getElem?_getD
def planC (h : Rw) (v : Value) (n : Nat) : List Value := [.int .i64 h.p0.var, .int .u32 (h.p0.id : Nat), .int .i64 h.p1.var, .int .u32 (h.p1.id : Nat), .int .i64 h.p2.var, .int .u32 (h.p2.id : Nat), v, .int .i64 (n : Nat)]
structure PRes where
  head : Rw
  steps : List St
  vars : Nat
  e : Int
  ts : List Tm
def planRule (lim : Nat) (ts : List Tm) (r : Rl) (order srt : List Int) : PRes :=
  if ruleE r = 0 then
    if (planSteps lim (dd (allSlots r)) (rowF lim (dd (allSlots r)) (ts, 0) r.head).2.1 (rowF lim (dd (allSlots r)) (ts, 0) r.head).2.2 r.body order srt).2.2 = 0 then ⟨(rowF lim (dd (allSlots r)) (ts, 0) r.head).1, (planSteps lim (dd (allSlots r)) (rowF lim (dd (allSlots r)) (ts, 0) r.head).2.1 (rowF lim (dd (allSlots r)) (ts, 0) r.head).2.2 r.body order srt).1, (dd (allSlots r)).length, 0, (planSteps lim (dd (allSlots r)) (rowF lim (dd (allSlots r)) (ts, 0) r.head).2.1 (rowF lim (dd (allSlots r)) (ts, 0) r.head).2.2 r.body order srt).2.1⟩ else ⟨zRw, [], 0, (planSteps lim (dd (allSlots r)) (rowF lim (dd (allSlots r)) (ts, 0) r.head).2.1 (rowF lim (dd (allSlots r)) (ts, 0) r.head).2.2 r.body order srt).2.2, (planSteps lim (dd (allSlots r)) (rowF lim (dd (allSlots r)) (ts, 0) r.head).2.1 (rowF lim (dd (allSlots r)) (ts, 0) r.head).2.2 r.body order srt).2.1⟩
  else ⟨zRw, [], 0, 2, ts⟩
theorem planRule_bad {lim : Nat} {ts : List Tm} {r : Rl} {order srt : List Int} (h : ¬ ruleE r = 0) : planRule lim ts r order srt = ⟨zRw, [], 0, 2, ts⟩ := by unfold planRule; rw [if_neg h]
theorem planRule_full {lim : Nat} {ts : List Tm} {r : Rl} {order srt : List Int} (h : ruleE r = 0) (h2 : ¬ (planSteps lim (dd (allSlots r)) (rowF lim (dd (allSlots r)) (ts, 0) r.head).2.1 (rowF lim (dd (allSlots r)) (ts, 0) r.head).2.2 r.body order srt).2.2 = 0) : planRule lim ts r order srt = ⟨zRw, [], 0, (planSteps lim (dd (allSlots r)) (rowF lim (dd (allSlots r)) (ts, 0) r.head).2.1 (rowF lim (dd (allSlots r)) (ts, 0) r.head).2.2 r.body order srt).2.2, (planSteps lim (dd (allSlots r)) (rowF lim (dd (allSlots r)) (ts, 0) r.head).2.1 (rowF lim (dd (allSlots r)) (ts, 0) r.head).2.2 r.body order srt).2.1⟩ := by unfold planRule; rw [if_pos h, if_neg h2]
theorem planRule_ok {lim : Nat} {ts : List Tm} {r : Rl} {order srt : List Int} (h : ruleE r = 0) (h2 : (planSteps lim (dd (allSlots r)) (rowF lim (dd (allSlots r)) (ts, 0) r.head).2.1 (rowF lim (dd (allSlots r)) (ts, 0) r.head).2.2 r.body order srt).2.2 = 0) : planRule lim ts r order srt = ⟨(rowF lim (dd (allSlots r)) (ts, 0) r.head).1, (planSteps lim (dd (allSlots r)) (rowF lim (dd (allSlots r)) (ts, 0) r.head).2.1 (rowF lim (dd (allSlots r)) (ts, 0) r.head).2.2 r.body order srt).1, (dd (allSlots r)).length, 0, (planSteps lim (dd (allSlots r)) (rowF lim (dd (allSlots r)) (ts, 0) r.head).2.1 (rowF lim (dd (allSlots r)) (ts, 0) r.head).2.2 r.body order srt).2.1⟩ := by unfold planRule; rw [if_pos h, if_pos h2]
theorem Dic.mem {ts : List Tm} {lim b : Nat} {H : Hp} (h : Dic ts lim b H) : ∃ va ve bt n, (b, dictC lim va ve bt n) ∈ H := by
  obtain ⟨va, ve, Ha, He, bt, k, tab, rfl, _⟩ := h
  exact ⟨va, ve, bt, _, List.mem_cons_self⟩
theorem rule_may {r : Rl} (h : ruleE r = 0) : mayRl r = true := by
  unfold ruleE at h
  cases hm : mayRl r with
  | true => rfl
  | false => rw [hm] at h; cases h
theorem may_slot {s : Sl} (h : maySl s = true) : emp s.v = true → mayT s.t = true := fun he => by
  unfold maySl at h
  rw [he] at h
  exact h
theorem may_pt {p : Pt} (h : mayPt p = true) : ∀ s ∈ sl3 p, emp s.v = true → mayT s.t = true := by
  unfold mayPt at h
  simp only [Bool.and_eq_true] at h
  intro s hs
  simp only [sl3, List.mem_cons, List.not_mem_nil, or_false] at hs
  rcases hs with rfl | rfl | rfl
  · exact may_slot h.1
  · exact may_slot h.2.1
  · exact may_slot h.2.2
theorem may_lt {l : Lt} (h : mayLt l = true) : ∀ s ∈ stepSl l, emp s.v = true → mayT s.t = true := by
  intro s hs
  unfold stepSl at hs
  unfold mayLt at h
  by_cases h1 : l.kind = 1 ∨ l.kind = 2
  · rw [if_pos h1] at hs
    have : (decide (l.kind = 1) || decide (l.kind = 2)) = true := by simpa using h1
    rw [this, cond_true, Bool.and_eq_true] at h
    exact may_pt h.1 s hs
  · rw [if_neg h1] at hs
    have : (decide (l.kind = 1) || decide (l.kind = 2)) = false := by simpa using h1
    rw [this, cond_false] at h
    cases h2 : (decide (l.kind = 3) || decide (l.kind = 4)) with
    | false => rw [h2] at h; cases h
    | true =>
      rw [h2, cond_true, Bool.and_eq_true, Bool.and_eq_true] at h
      simp only [List.mem_cons, List.not_mem_nil, or_false] at hs
      rcases hs with rfl | rfl
      · exact may_slot h.2.1
      · exact may_slot h.2.2
theorem may_head {r : Rl} (h : ruleE r = 0) : ∀ s ∈ sl3 r.head, emp s.v = true → mayT s.t = true := by
  have := rule_may h
  unfold mayRl at this
  rw [Bool.and_eq_true] at this
  exact may_pt this.1
theorem may_body {r : Rl} (h : ruleE r = 0) : ∀ l ∈ r.body, ∀ s ∈ stepSl l, emp s.v = true → mayT s.t = true := by
  have := rule_may h
  unfold mayRl at this
  simp only [Bool.and_eq_true, List.all_eq_true] at this
  exact fun l hl => may_lt (this.2.2 l hl)
theorem Hs.toM1 (x m : Nat × Know) (H G : Hp) : Hs (x :: m :: (H ++ G)) (m :: (H ++ (x :: G))) := Hs.perm (((pm1 x H G).cons m).trans (List.Perm.swap x m _))
theorem Hs.fromM1 (x m : Nat × Know) (H G : Hp) : Hs (m :: (H ++ (x :: G))) (x :: m :: (H ++ G)) := Hs.perm (((pm1 x H G).cons m).trans (List.Perm.swap x m _)).symm
theorem Hs.fromM1o (x m : Nat × Know) (H O G : Hp) : Hs (m :: (H ++ (O ++ (x :: G)))) (x :: m :: (H ++ (O ++ G))) := Hs.perm (by
  have h : (H ++ (O ++ (x :: G))).Perm (x :: (H ++ (O ++ G))) := by
    have h0 := @List.perm_middle _ x (H ++ O) G
    simp only [List.append_assoc] at h0
    exact h0
  exact ((h.cons m).trans (List.Perm.swap x m _)).symm)
theorem Hs.mkRow {bM bD n c : Nat} {A : Option Addr} {bad : Int} (G1 G2 : Hp) : Hs (G1 ++ (bM, mkC bD A n c bad) :: G2) (G1 ++ (bM, .row [.pointer (some ⟨bD, 0, none⟩), .slice A n c] 97 3) :: G2) := fun w0 w hw => Sat.weakKnow hw (fun x hx => by
  simp only [Know.holds] at hx ⊢
  refine ⟨_, hx, rfl, fun j v hv => ?_⟩
  rcases j with _ | _ | j
  · exact hv
  · exact hv
  · simp at hv)
theorem Hs.newMk (m x y : Nat × Know) (V D G : Hp) : Hs (m :: (V ++ (x :: y :: (D ++ G)))) (m :: (D ++ (V ++ (x :: y :: G)))) := Hs.perm (List.Perm.cons m (by
  have h1 : (V ++ (x :: y :: (D ++ G))).Perm (x :: y :: (V ++ (D ++ G))) := pm2 x y V _
  have h2 : (D ++ (V ++ (x :: y :: G))).Perm (x :: y :: (D ++ (V ++ G))) := by
    have := pm2 x y (D ++ V) G
    simp only [List.append_assoc] at this
    exact this
  refine h2.trans ((List.Perm.cons y ?_).cons x |>.trans h1.symm)
  rw [← List.append_assoc, ← List.append_assoc]
  exact List.Perm.append_right _ List.perm_append_comm))
theorem Hs.deep6 (x m y z : Nat × Know) (D O V G : Hp) : Hs (x :: m :: (D ++ (O ++ (V ++ (y :: z :: G))))) (y :: x :: m :: (D ++ (O ++ (V ++ (z :: G))))) := Hs.perm (by
  have h : (D ++ (O ++ (V ++ (y :: z :: G)))).Perm (y :: (D ++ (O ++ (V ++ (z :: G))))) := by
    have h0 := @List.perm_middle _ y (D ++ (O ++ V)) (z :: G)
    simp only [List.append_assoc] at h0
    exact h0
  exact (((h.cons m).trans (List.Perm.swap y m _)).cons x |>.trans (List.Perm.swap y x _)).symm)
theorem Hs.gj11 (y x m : Nat × Know) (D G : Hp) : Hs (y :: x :: m :: (D ++ G)) (m :: G) := Hs.sub ((((List.sublist_append_right D G).cons_cons m).cons x).cons y)
theorem Hs.endY (x m y z : Nat × Know) (D O V G : Hp) : Hs (y :: x :: m :: (D ++ (O ++ (V ++ (z :: G))))) (D ++ (O ++ G)) := Hs.sub ((((((List.Sublist.refl G).cons z).trans (List.sublist_append_right V _)).append_left O).append_left D).cons m |>.cons x |>.cons y)
theorem Hs.endY0 (x m y z : Nat × Know) (D O V G : Hp) : Hs (y :: x :: m :: (D ++ (O ++ (V ++ (z :: G))))) (D ++ ([] ++ G)) := (Hs.endY x m y z D O V G).trans (Hs.sub ((List.sublist_append_right O G).append_left D))
theorem plan_Names (w0 : World) (G : Hp) (r : Rl) (A : Option Addr) (c : Nat) (hl : LtsAt w0 G A r.body) (hm : r.body.length ≤ 100000) : GC Tryz.prog w0 31 #[.agg (RlC r.head (.slice A r.body.length c)).toArray] (fun v G' => ∃ H, SlAt 1 9 ((dd (allSlots r)).map Value.string) (dd (allSlots r)).length v H ∧ H ++ G = G') G := by
  refine GC.body (args := [.agg (RlC r.head (.slice A r.body.length c)).toArray]) Tryz.func31 rfl (by kernel_rfl) rfl ?_
  refine GW.seq ?_
  refine GW.region ?_
  refine R.box ⟨rfl, rfl, rfl, rfl⟩ rfl fun b1 => ?_   -- type 31
  refine R.assign ⟨rfl, rfl, rfl, rfl⟩ rfl ?_
  refine GOps.nil ?_
  refine GW.seq ?_
  refine GW.region ?_
  refine R.load_own (cs := RlC r.head (.slice A r.body.length c)) ⟨rfl, rfl, rfl, rfl⟩ rfl Tryz.underlying31 rfl Tryz.sizeOf31 (by repeat (first | exact List.mem_cons_self | apply List.mem_cons_of_mem | apply List.mem_append_right)) (by rfl) (by rfl) ?_   -- load 0 plan.go:121 t1:r
  refine R.call ⟨rfl, rfl, rfl, rfl⟩ rfl (vs := [_]) rfl ((check_Vars _ _ r A c (hl.mono (sub_cons _)) hm).mono ?_)
  rintro v4 _ ⟨H4, h4, rfl⟩
  refine R.assign ⟨rfl, rfl, rfl, rfl⟩ rfl ?_
  refine GOps.nil ?_
  exact GW.ret (Out.of (Res.one rfl rfl) (Hs.app1 _ _ _) ⟨H4, h4, rfl⟩)
theorem plan_Rule (w0 : World) (G : Hp) (HD : Hp) (ts : List Tm) (lim bD : Nat) (hD : Dic ts lim bD HD) (r : Rl) (bA : Option Addr) (bc : Nat) (hl : LtsAt w0 G bA r.body) (hbl : r.body.length ≤ 1000) (hok : RlOk r)
    (oA : Option Addr) (order srt : List Int) (oc : Nat) (ho : IntsAt w0 G oA order) (hol : order.length ≤ 1000) (hsl : srt.length ≤ 1000) (hmem : ∀ z ∈ order, z ∈ srt)
    (hS : ∀ (b1 : Nat) (G0 : Hp), (b1, Know.exact (.cells #[.slice oA order.length oc] 32 (0, 0))) ∈ G0 → IntsAt w0 G0 oA order → GC Tryz.prog w0 57 #[.func (.func 89) #[] #[.pointer (some ⟨b1, 0, none⟩)]] (fun v G' => ∃ H, SlAt 1 3 (zC srt) srt.length v H ∧ H ++ G0 = G') G0) :
    GC Tryz.prog w0 10 #[.pointer (some ⟨bD, 0, none⟩), .agg (RlC r.head (.slice bA r.body.length bc)).toArray, .slice oA order.length oc] (fun v G' => ∃ vs Ho HD', (v = .tuple #[.agg (planC (planRule lim ts r order srt).head vs (planRule lim ts r order srt).vars).toArray, .int .i64 (planRule lim ts r order srt).e] ∧ SlAt 11 50 (stsC (planRule lim ts r order srt).steps) (planRule lim ts r order srt).steps.length vs Ho ∧ Dic (planRule lim ts r order srt).ts lim bD HD') ∧ HD' ++ (Ho ++ G) = G') (HD ++ G) := by
  obtain ⟨va, ve, bt, nk, hmD⟩ := hD.mem
  have hvl : (dd (allSlots r)).length ≤ 3 + 3 * r.body.length := Nat.le_trans (dd_len _) (allTake_len r r.body.length).2
  refine GC.body (args := [.pointer (some ⟨bD, 0, none⟩), .agg (RlC r.head (.slice bA r.body.length bc)).toArray, .slice oA order.length oc]) Tryz.func10 rfl (by kernel_rfl) rfl ?_
  refine GW.seq ?_
  refine GW.region ?_
  refine R.box ⟨rfl, rfl, rfl, rfl⟩ rfl fun b4 => ?_   -- type 31
  refine R.alloc ⟨rfl, rfl, rfl, rfl⟩ Tryz.zeroValue41 fun b6 => ?_
  refine R.assign ⟨rfl, rfl, rfl, rfl⟩ rfl ?_
  refine GOps.nil ?_
  refine GW.seq ?_
  refine GW.seq ?_
  refine GW.region ?_
  refine R.move ⟨rfl, rfl, rfl, rfl⟩ rfl ?_
  refine R.build (vs := []) (cells := #[.int .i64 0, .string (ByteArray.mk #[]), .string (ByteArray.mk #[])]) ⟨rfl, rfl, rfl, rfl⟩ rfl (fun w => run_build w 24 _ _ (by kernel_rfl)) ?_   -- build 0 type 24
  refine R.call ⟨rfl, rfl, rfl, rfl⟩ rfl (vs := [_, _]) rfl ((int_zero _ _ va ve bD bt lim nk (List.mem_cons_of_mem _ (List.mem_cons_of_mem _ (List.mem_append_left _ hmD)))).mono ?_)
  rintro _ _ ⟨rfl, rfl⟩
  refine R.move ⟨rfl, rfl, rfl, rfl⟩ rfl ?_
  refine R.extract ⟨rfl, rfl, rfl, rfl⟩ rfl rfl ?_
  refine R.extract ⟨rfl, rfl, rfl, rfl⟩ rfl rfl ?_
  refine R.assign ⟨rfl, rfl, rfl, rfl⟩ rfl ?_
  refine R.assign ⟨rfl, rfl, rfl, rfl⟩ rfl ?_
  refine GOps.nil ?_
  refine GW.seq ?_
  refine GW.region ?_
  refine R.move ⟨rfl, rfl, rfl, rfl⟩ rfl ?_
  refine R.eqI ⟨rfl, rfl, rfl, rfl⟩ rfl rfl ?_   -- eql ['t19', '1']
  refine GOps.nil ?_
  refine GW.cond_f rfl ?_
  refine GW.skip ?_
  refine GW.seq ?_
  refine GW.seq ?_
  refine GW.region ?_
  refine R.load_own (cs := RlC r.head (.slice bA r.body.length bc)) ⟨rfl, rfl, rfl, rfl⟩ rfl Tryz.underlying31 rfl Tryz.sizeOf31 (by repeat (first | exact List.mem_cons_self | apply List.mem_cons_of_mem | apply List.mem_append_right)) (by rfl) (by rfl) ?_   -- load 0 plan.go:151 t4:r
  refine R.call ⟨rfl, rfl, rfl, rfl⟩ rfl (vs := [_]) rfl ((check_Rule _ _ r bA bc (hl.mono (fun y hy => by repeat (first | exact hy | apply List.mem_cons_of_mem | apply List.mem_append_right))) (by omega) hok).mono ?_)
  rintro _ _ ⟨rfl, rfl⟩
  rw [chk_eq]
  refine R.neI ⟨rfl, rfl, rfl, rfl⟩ rfl rfl ?_   -- neq ['t24', '0']
  refine GOps.nil ?_
  refine GW.ite rfl (fun hc1 => ?_) (fun hc1 => ?_)
  · try simp only [decide_eq_true_eq, decide_eq_false_iff_not, Bool.not_eq_true', Bool.not_eq_false'] at hc1
    have hr0 : ¬ ruleE r = 0 := hc1
    refine GW.seq ?_
    refine GW.region ?_
    refine R.build (vs := []) (cells := (planC zRw (.slice none 0 0) 0).toArray) ⟨rfl, rfl, rfl, rfl⟩ rfl (fun w => run_build w 41 _ _ (by kernel_rfl)) ?_   -- build 1 type 41
    refine R.storeAll (G1 := []) rfl rfl rfl rfl rfl Tryz.sizeOf41 rfl rfl rfl rfl ?_   -- t6
    refine R.assign ⟨rfl, rfl, rfl, rfl⟩ rfl ?_
    refine GOps.nil ?_
    first | (rw [planRule_bad hr0]; exact GW.ret (Out.of (resCellTmp rfl rfl rfl Tryz.underlying41 rfl Tryz.sizeOf41 (Rds.own (C := (planC zRw (.slice none 0 0) 0).toArray) (by repeat (first | exact List.mem_cons_self | apply List.mem_cons_of_mem | apply List.mem_append_right | exact List.mem_append_left _ List.mem_cons_self)) 0 (planC zRw (.slice none 0 0) 0) (fun j v hv => by simpa using hv)) rfl) (Hs.tl2 _ _) ⟨.slice none 0 0, [], HD, ⟨rfl, .nil rfl rfl, hD⟩, rfl⟩)) | (rw [planRule_full hr0 (by first | assumption | omega)]; exact GW.ret (Out.of (resCellTmp rfl rfl rfl Tryz.underlying41 rfl Tryz.sizeOf41 (Rds.own (C := (planC zRw (.slice none 0 0) 0).toArray) (by repeat (first | exact List.mem_cons_self | apply List.mem_cons_of_mem | apply List.mem_append_right | exact List.mem_append_left _ List.mem_cons_self)) 0 (planC zRw (.slice none 0 0) 0) (fun j v hv => by simpa using hv)) rfl) (Hs.endY0 _ _ _ _ _ _ _ _) ⟨.slice none 0 0, [], HD3, ⟨rfl, .nil rfl rfl, hD3⟩, rfl⟩)) | (rw [planRule_ok hr0 (by first | assumption | omega)]; exact GW.ret (Out.of (resCellTmp rfl rfl rfl Tryz.underlying41 rfl Tryz.sizeOf41 (Rds.own (C := (planC (rowF lim (dd (allSlots r)) (ts, 0) r.head).1 (.slice A48 (planSteps lim (dd (allSlots r)) (rowF lim (dd (allSlots r)) (ts, 0) r.head).2.1 (rowF lim (dd (allSlots r)) (ts, 0) r.head).2.2 r.body order srt).1.length c48) (dd (allSlots r)).length).toArray) (by repeat (first | exact List.mem_cons_self | apply List.mem_cons_of_mem | apply List.mem_append_right | exact List.mem_append_left _ List.mem_cons_self)) 0 (planC (rowF lim (dd (allSlots r)) (ts, 0) r.head).1 (.slice A48 (planSteps lim (dd (allSlots r)) (rowF lim (dd (allSlots r)) (ts, 0) r.head).2.1 (rowF lim (dd (allSlots r)) (ts, 0) r.head).2.2 r.body order srt).1.length c48) (dd (allSlots r)).length) (fun j v hv => by simpa using hv)) rfl) (Hs.endY _ _ _ _ _ _ _ _) ⟨.slice A48 _ c48, Ho, HD3, ⟨rfl, hst, hD3⟩, rfl⟩))
  · try simp only [decide_eq_true_eq, decide_eq_false_iff_not, Bool.not_eq_true', Bool.not_eq_false'] at hc1
    have hr0 : ruleE r = 0 := by omega
    refine GW.skip ?_
    refine GW.cutX (fun a : (Option Addr × Nat × Nat) × Hp => [(2, .slice oA order.length oc), (4, .pointer (some ⟨b4, 0, none⟩)), (6, .pointer (some ⟨b6, 0, none⟩)), (10, .pointer (some ⟨a.1.2.1, 0, none⟩))]) (fun a : (Option Addr × Nat × Nat) × Hp => (a.1.2.1, mkC bD a.1.1 (dd (allSlots r)).length a.1.2.2 0) :: (HD ++ (a.2 ++ ((b6, .exact (.cells (planC zRw (.slice none 0 0) 0).toArray 41 (0, 0))) :: (b4, .exact (.cells (Value.agg (RlC r.head (.slice bA r.body.length bc)).toArray).cells 31 (0, 0))) :: G)))) (fun a : (Option Addr × Nat × Nat) × Hp => StAt w0 (a.2 ++ []) a.1.1 (dd (allSlots r))) ?_ ?_
    · refine GW.region ?_
      refine R.move ⟨rfl, rfl, rfl, rfl⟩ rfl ?_
      refine R.load_own (cs := RlC r.head (.slice bA r.body.length bc)) ⟨rfl, rfl, rfl, rfl⟩ rfl Tryz.underlying31 rfl Tryz.sizeOf31 (by repeat (first | exact List.mem_cons_self | apply List.mem_cons_of_mem | apply List.mem_append_right)) (by rfl) (by rfl) ?_   -- load 1 plan.go:154 t4:r
      refine R.call ⟨rfl, rfl, rfl, rfl⟩ rfl (vs := [_]) rfl ((plan_Names _ _ r bA bc (hl.mono (fun y hy => by repeat (first | exact hy | apply List.mem_cons_of_mem | apply List.mem_append_right))) (by omega)).mono ?_)
      rintro v29 _ ⟨Hv, hv29, rfl⟩
      obtain ⟨Av, cv, rfl, hvs⟩ := hv29.strs w0 []
      refine R.build (vs := [(0, _), (1, _)]) (cells := #[.pointer (some ⟨bD, 0, none⟩), .slice Av (dd (allSlots r)).length cv, .int .i64 0]) ⟨rfl, rfl, rfl, rfl⟩ rfl (fun w => run_build w 97 _ _ (by kernel_rfl)) ?_   -- build 2 type 97
      refine R.box ⟨rfl, rfl, rfl, rfl⟩ rfl fun b31 => ?_   -- type 97
      refine R.assign ⟨rfl, rfl, rfl, rfl⟩ rfl ?_
      refine GOps.nil ?_
      exact ⟨rfl, rfl, ((Av, b31, cv), Hv), hvs, by repeat (first | exact Keeps.nil _ | refine Keeps.cons rfl ?_), Hs.newMk _ _ _ _ _ _⟩
    · rintro ⟨⟨Av, b31, cv⟩, Hv⟩ hvs
      simp only at hvs
      refine GW.seq ?_
      refine GW.region ?_
      refine R.move ⟨rfl, rfl, rfl, rfl⟩ rfl ?_
      refine R.makeFunc (vs := [_]) (us := []) ⟨rfl, rfl, rfl, rfl⟩ rfl rfl ?_
      refine R.assign ⟨rfl, rfl, rfl, rfl⟩ rfl ?_
      refine GOps.nil ?_
      refine GW.cutX (fun a : Nat × Hp => [(2, .slice oA order.length oc), (4, .pointer (some ⟨b4, 0, none⟩)), (6, .pointer (some ⟨b6, 0, none⟩)), (10, .pointer (some ⟨b31, 0, none⟩)), (12, .pointer (some ⟨a.1, 0, none⟩))]) (fun a : Nat × Hp => (a.1, .exact (.cells (planC (rowF lim (dd (allSlots r)) (ts, 0) r.head).1 (.slice none 0 0) (dd (allSlots r)).length).toArray 41 (0, 0))) :: (b31, mkC bD Av (dd (allSlots r)).length cv (rowF lim (dd (allSlots r)) (ts, 0) r.head).2.2) :: (a.2 ++ (Hv ++ ((b6, .exact (.cells (planC zRw (.slice none 0 0) 0).toArray 41 (0, 0))) :: (b4, .exact (.cells (Value.agg (RlC r.head (.slice bA r.body.length bc)).toArray).cells 31 (0, 0))) :: G)))) (fun a : Nat × Hp => Dic (rowF lim (dd (allSlots r)) (ts, 0) r.head).2.1 lim bD a.2) ?_ ?_
      · refine GW.draw ((b31, .row [.pointer (some ⟨bD, 0, none⟩), .slice Av (dd (allSlots r)).length cv] 97 3) :: (Hv ++ ((b6, .exact (.cells (planC zRw (.slice none 0 0) 0).toArray 41 (0, 0))) :: (b4, .exact (.cells (Value.agg (RlC r.head (.slice bA r.body.length bc)).toArray).cells 31 (0, 0))) :: G))) 12 rfl (by kernel_rfl) ?_
        refine GA.val 0 rfl (V.move ⟨rfl, rfl, rfl, rfl⟩ rfl) rfl (by kernel_rfl) (by kernel_rfl) (by kernel_rfl) ?_
        refine GA.val 1 rfl (V.fieldAddr ⟨rfl, rfl, rfl, rfl⟩ rfl Tryz.underlying31 rfl Tryz.sizeOf28) rfl (by kernel_rfl) (by kernel_rfl) (by kernel_rfl) ?_   -- "Head"
        refine GA.val 2 rfl (V.load_own (cs := PtC r.head) ⟨rfl, rfl, rfl, rfl⟩ rfl Tryz.underlying28 rfl Tryz.sizeOf28 (by repeat (first | exact List.mem_cons_self | apply List.mem_cons_of_mem | apply List.mem_append_right)) (by rfl) (by rfl)) rfl (by kernel_rfl) (by kernel_rfl) (by kernel_rfl) ?_   -- load 2 plan.go:156 t35
        refine GA.val 4 rfl (V.move ⟨rfl, rfl, rfl, rfl⟩ rfl) rfl (by kernel_rfl) (by kernel_rfl) (by kernel_rfl) ?_
        refine GA.val 5 rfl (V.nilCheck ⟨rfl, rfl, rfl, rfl⟩ rfl) rfl (by kernel_rfl) (by kernel_rfl) (by kernel_rfl) ?_
        refine GA.val 6 rfl (V.fieldAddr ⟨rfl, rfl, rfl, rfl⟩ rfl Tryz.underlying97 rfl Tryz.sizeOf61) rfl (by kernel_rfl) (by kernel_rfl) (by kernel_rfl) ?_   -- "vars"
        refine GA.val 7 rfl (V.load1 ⟨rfl, rfl, rfl, rfl⟩ rfl Tryz.underlying61 rfl (.own (by repeat (first | exact List.mem_cons_self | apply List.mem_cons_of_mem | apply List.mem_append_right | exact List.mem_append_left _ List.mem_cons_self)) rfl)) rfl (by kernel_rfl) (by kernel_rfl) (by kernel_rfl) ?_   -- load 3 plan.go:156
        refine GA.val 8 rfl (V.lenS ⟨rfl, rfl, rfl, rfl⟩ rfl rfl Tryz.underlying61) rfl (by kernel_rfl) (by kernel_rfl) (by kernel_rfl) ?_
        refine GA.two 3 10 (by first | exact (Hs.mkRow [] _).trans (Hs.sub ((List.sublist_append_right _ _).cons_cons _)) | exact (Hs.tl _).trans ((Hs.mkRow [] _).trans (Hs.sub ((List.sublist_append_right _ _).cons_cons _))) | exact Hs.gj11 _ _ _ _ _ | exact Hs.refl _ | exact Hs.tl _ | exact Hs.tl2 _ _ | exact Hs.tl3 _ _ _ | exact Hs.app _ | exact Hs.sub (by simp)) (by kernel_rfl) rfl rfl ?_ ?_
        · first | refine GOps.weak (Keeps.refl _) (Hs.toM1 _ _ _ _) ?_ | skip
          refine R.call ⟨rfl, rfl, rfl, rfl⟩ rfl (vs := [_]) rfl ((plan_row _ _ HD ts lim bD b31 cv Av (dd (allSlots r)) 0 hD (hvs.mono (fun y hy => by rw [List.append_nil] at hy; repeat (first | exact List.mem_append_left _ hy | apply List.mem_cons_of_mem | apply List.mem_append_right))) (by omega) r.head (may_head hr0)).mono ?_)
          rintro _ _ ⟨HD2, ⟨rfl, hD2⟩, rfl⟩
          first | refine GOps.weak (Keeps.refl _) (Hs.fromM1 _ _ _ _) ?_ | skip
          refine GOps.nil ?_
          refine GA.val 9 rfl (V.build (vs := [(0, _), (2, _)]) (cells := (planC (rowF lim (dd (allSlots r)) (ts, 0) r.head).1 (.slice none 0 0) (dd (allSlots r)).length).toArray) ⟨rfl, rfl, rfl, rfl⟩ rfl (fun w => run_build w 41 _ _ (by kernel_rfl))) rfl (by kernel_rfl) (by kernel_rfl) (by kernel_rfl) ?_   -- build 3 type 41
          refine GA.one 10 (by first | exact (Hs.mkRow [] _).trans (Hs.sub ((List.sublist_append_right _ _).cons_cons _)) | exact (Hs.tl _).trans ((Hs.mkRow [] _).trans (Hs.sub ((List.sublist_append_right _ _).cons_cons _))) | exact Hs.gj11 _ _ _ _ _ | exact Hs.refl _ | exact Hs.tl _ | exact Hs.tl2 _ _ | exact Hs.tl3 _ _ _ | exact Hs.app _ | exact Hs.sub (by simp)) (by kernel_rfl) rfl ?_
          refine R.alloc ⟨rfl, rfl, rfl, rfl⟩ Tryz.zeroValue41 fun b12 => ?_
          refine GOps.nil ?_
          refine GA.one 11 (by first | exact (Hs.mkRow [] _).trans (Hs.sub ((List.sublist_append_right _ _).cons_cons _)) | exact (Hs.tl _).trans ((Hs.mkRow [] _).trans (Hs.sub ((List.sublist_append_right _ _).cons_cons _))) | exact Hs.gj11 _ _ _ _ _ | exact Hs.refl _ | exact Hs.tl _ | exact Hs.tl2 _ _ | exact Hs.tl3 _ _ _ | exact Hs.app _ | exact Hs.sub (by simp)) (by kernel_rfl) rfl ?_
          refine R.storeAll (G1 := []) rfl rfl rfl rfl rfl Tryz.sizeOf41 rfl rfl rfl rfl ?_   -- t12:p
          refine GOps.nil ?_
          refine GA.done (by first | exact (Hs.mkRow [] _).trans (Hs.sub ((List.sublist_append_right _ _).cons_cons _)) | exact (Hs.tl _).trans ((Hs.mkRow [] _).trans (Hs.sub ((List.sublist_append_right _ _).cons_cons _))) | exact Hs.gj11 _ _ _ _ _ | exact Hs.refl _ | exact Hs.tl _ | exact Hs.tl2 _ _ | exact Hs.tl3 _ _ _ | exact Hs.app _ | exact Hs.sub (by simp)) (by kernel_rfl) ?_
          exact ⟨rfl, rfl, (b12, HD2), hD2, by repeat (first | exact Keeps.nil _ | refine Keeps.cons rfl ?_), Hs.refl _⟩
        · refine R.alloc ⟨rfl, rfl, rfl, rfl⟩ Tryz.zeroValue41 fun b12 => ?_
          refine GOps.nil ?_
          refine GA.one 3 (by first | exact (Hs.mkRow [] _).trans (Hs.sub ((List.sublist_append_right _ _).cons_cons _)) | exact (Hs.tl _).trans ((Hs.mkRow [] _).trans (Hs.sub ((List.sublist_append_right _ _).cons_cons _))) | exact Hs.gj11 _ _ _ _ _ | exact Hs.refl _ | exact Hs.tl _ | exact Hs.tl2 _ _ | exact Hs.tl3 _ _ _ | exact Hs.app _ | exact Hs.sub (by simp)) (by kernel_rfl) rfl ?_
          first | refine GOps.weak (Keeps.refl _) (Hs.toM1 _ _ _ _) ?_ | skip
          refine R.call ⟨rfl, rfl, rfl, rfl⟩ rfl (vs := [_]) rfl ((plan_row _ _ HD ts lim bD b31 cv Av (dd (allSlots r)) 0 hD (hvs.mono (fun y hy => by rw [List.append_nil] at hy; repeat (first | exact List.mem_append_left _ hy | apply List.mem_cons_of_mem | apply List.mem_append_right))) (by omega) r.head (may_head hr0)).mono ?_)
          rintro _ _ ⟨HD2, ⟨rfl, hD2⟩, rfl⟩
          first | refine GOps.weak (Keeps.refl _) (Hs.fromM1 _ _ _ _) ?_ | skip
          refine GOps.nil ?_
          refine GA.val 9 rfl (V.build (vs := [(0, _), (2, _)]) (cells := (planC (rowF lim (dd (allSlots r)) (ts, 0) r.head).1 (.slice none 0 0) (dd (allSlots r)).length).toArray) ⟨rfl, rfl, rfl, rfl⟩ rfl (fun w => run_build w 41 _ _ (by kernel_rfl))) rfl (by kernel_rfl) (by kernel_rfl) (by kernel_rfl) ?_   -- build 4 type 41
          refine GA.one 11 (by first | exact (Hs.mkRow [] _).trans (Hs.sub ((List.sublist_append_right _ _).cons_cons _)) | exact (Hs.tl _).trans ((Hs.mkRow [] _).trans (Hs.sub ((List.sublist_append_right _ _).cons_cons _))) | exact Hs.gj11 _ _ _ _ _ | exact Hs.refl _ | exact Hs.tl _ | exact Hs.tl2 _ _ | exact Hs.tl3 _ _ _ | exact Hs.app _ | exact Hs.sub (by simp)) (by kernel_rfl) rfl ?_
          refine R.storeAll (G1 := []) rfl rfl rfl rfl rfl Tryz.sizeOf41 rfl rfl rfl rfl ?_   -- t12:p
          refine GOps.nil ?_
          refine GA.done (by first | exact (Hs.mkRow [] _).trans (Hs.sub ((List.sublist_append_right _ _).cons_cons _)) | exact (Hs.tl _).trans ((Hs.mkRow [] _).trans (Hs.sub ((List.sublist_append_right _ _).cons_cons _))) | exact Hs.gj11 _ _ _ _ _ | exact Hs.refl _ | exact Hs.tl _ | exact Hs.tl2 _ _ | exact Hs.tl3 _ _ _ | exact Hs.app _ | exact Hs.sub (by simp)) (by kernel_rfl) ?_
          exact ⟨rfl, rfl, (b12, HD2), hD2, by repeat (first | exact Keeps.nil _ | refine Keeps.cons rfl ?_), Hs.refl _⟩
      · rintro ⟨b12, HD2⟩ hD2
        simp only at hD2
        refine GW.seq ?_
        refine GW.region ?_
        refine R.move ⟨rfl, rfl, rfl, rfl⟩ rfl ?_
        refine R.fieldAddr ⟨rfl, rfl, rfl, rfl⟩ rfl Tryz.underlying31 rfl Tryz.sizeOf29 ?_   -- "Body"
        refine R.load1 ⟨rfl, rfl, rfl, rfl⟩ rfl Tryz.underlying29 rfl (.own (by repeat (first | exact List.mem_cons_self | apply List.mem_cons_of_mem | apply List.mem_append_right | exact List.mem_append_left _ List.mem_cons_self)) rfl) ?_   -- load 4 plan.go:157
        refine R.move ⟨rfl, rfl, rfl, rfl⟩ rfl ?_
        refine GOps.weak (Keeps.refl _) (Hs.toM1 _ _ _ _) ?_
        refine R.call ⟨rfl, rfl, rfl, rfl⟩ rfl (vs := [_, _, _]) rfl ((plan_steps _ _ HD2 (rowF lim (dd (allSlots r)) (ts, 0) r.head).2.1 lim bD b31 cv Av (dd (allSlots r)) (rowF lim (dd (allSlots r)) (ts, 0) r.head).2.2 hD2 (hvs.mono (fun y hy => by rw [List.append_nil] at hy; repeat (first | exact List.mem_append_left _ hy | apply List.mem_cons_of_mem | apply List.mem_append_right))) (by omega) bA r.body bc (hl.mono (fun y hy => by repeat (first | exact hy | apply List.mem_cons_of_mem | apply List.mem_append_right))) hbl (may_body hr0) oA order srt oc (ho.mono (fun y hy => by repeat (first | exact hy | apply List.mem_cons_of_mem | apply List.mem_append_right))) hol hsl hmem hS).mono ?_)
        rintro v48 _ ⟨HD3, Ho, ⟨hst, hD3⟩, rfl⟩
        refine GOps.weak (Keeps.refl _) (Hs.fromM1o _ _ _ _ _) ?_
        obtain ⟨A48, c48, rfl, hc48⟩ := hst.split
        refine R.fieldAddr ⟨rfl, rfl, rfl, rfl⟩ rfl Tryz.underlying41 rfl Tryz.sizeOf39 ?_   -- "Steps"
        refine R.store (G1 := []) rfl rfl rfl rfl rfl Tryz.sizeOf39 rfl rfl (rfl) (Nat.le_of_ble_eq_true rfl) ?_   -- t49
        refine GOps.nil ?_
        refine GW.seq ?_
        refine GW.seq ?_
        refine GW.region ?_
        refine R.move ⟨rfl, rfl, rfl, rfl⟩ rfl ?_
        refine R.nilCheck ⟨rfl, rfl, rfl, rfl⟩ rfl ?_
        refine R.fieldAddr ⟨rfl, rfl, rfl, rfl⟩ rfl Tryz.underlying97 rfl Tryz.sizeOf42 ?_   -- "bad"
        refine R.load1 ⟨rfl, rfl, rfl, rfl⟩ rfl Tryz.underlying42 rfl (.own' (by repeat (first | exact List.mem_cons_self | apply List.mem_cons_of_mem | apply List.mem_append_right)) (by rfl)) ?_   -- load 5 plan.go:158 t52
        refine R.neI ⟨rfl, rfl, rfl, rfl⟩ rfl rfl ?_   -- neq ['t53', '0']
        refine GOps.nil ?_
        refine GW.ite rfl (fun hc2 => ?_) (fun hc2 => ?_)
        · try simp only [decide_eq_true_eq, decide_eq_false_iff_not, Bool.not_eq_true', Bool.not_eq_false'] at hc2
          refine GW.weak (Keeps.refl _) (Hs.deep6 _ _ _ _ _ _ _ _) ?_
          refine GW.seq ?_
          refine GW.draw ((b31, mkC bD Av (dd (allSlots r)).length cv (planSteps lim (dd (allSlots r)) (rowF lim (dd (allSlots r)) (ts, 0) r.head).2.1 (rowF lim (dd (allSlots r)) (ts, 0) r.head).2.2 r.body order srt).2.2) :: (Ho ++ (Hv ++ ((b4, .exact (.cells (Value.agg (RlC r.head (.slice bA r.body.length bc)).toArray).cells 31 (0, 0))) :: G)))) 7 rfl (by kernel_rfl) ?_
          refine GA.val 0 rfl (V.build (vs := []) (cells := (planC zRw (.slice none 0 0) 0).toArray) ⟨rfl, rfl, rfl, rfl⟩ rfl (fun w => run_build w 41 _ _ (by kernel_rfl))) rfl (by kernel_rfl) (by kernel_rfl) (by kernel_rfl) ?_   -- build 5 type 41
          refine GA.val 1 rfl (V.move ⟨rfl, rfl, rfl, rfl⟩ rfl) rfl (by kernel_rfl) (by kernel_rfl) (by kernel_rfl) ?_
          refine GA.val 2 rfl (V.nilCheck ⟨rfl, rfl, rfl, rfl⟩ rfl) rfl (by kernel_rfl) (by kernel_rfl) (by kernel_rfl) ?_
          refine GA.val 3 rfl (V.fieldAddr ⟨rfl, rfl, rfl, rfl⟩ rfl Tryz.underlying97 rfl Tryz.sizeOf42) rfl (by kernel_rfl) (by kernel_rfl) (by kernel_rfl) ?_   -- "bad"
          refine GA.val 4 rfl (V.load1 ⟨rfl, rfl, rfl, rfl⟩ rfl Tryz.underlying42 rfl (.own' (by repeat (first | exact List.mem_cons_self | apply List.mem_cons_of_mem | apply List.mem_append_right)) (by rfl))) rfl (by kernel_rfl) (by kernel_rfl) (by kernel_rfl) ?_   -- load 6 plan.go:159 t58
          refine GA.one 5 (by first | exact (Hs.mkRow [] _).trans (Hs.sub ((List.sublist_append_right _ _).cons_cons _)) | exact (Hs.tl _).trans ((Hs.mkRow [] _).trans (Hs.sub ((List.sublist_append_right _ _).cons_cons _))) | exact Hs.gj11 _ _ _ _ _ | exact Hs.refl _ | exact Hs.tl _ | exact Hs.tl2 _ _ | exact Hs.tl3 _ _ _ | exact Hs.app _ | exact Hs.sub (by simp)) (by kernel_rfl) rfl ?_
          refine R.storeAll (G1 := []) rfl rfl rfl rfl rfl Tryz.sizeOf41 rfl rfl rfl rfl ?_   -- t6
          refine GOps.nil ?_
          refine GA.val 6 rfl (V.assign ⟨rfl, rfl, rfl, rfl⟩ rfl) rfl (by kernel_rfl) (by kernel_rfl) (by kernel_rfl) ?_
          refine GA.done (by first | exact (Hs.mkRow [] _).trans (Hs.sub ((List.sublist_append_right _ _).cons_cons _)) | exact (Hs.tl _).trans ((Hs.mkRow [] _).trans (Hs.sub ((List.sublist_append_right _ _).cons_cons _))) | exact Hs.gj11 _ _ _ _ _ | exact Hs.refl _ | exact Hs.tl _ | exact Hs.tl2 _ _ | exact Hs.tl3 _ _ _ | exact Hs.app _ | exact Hs.sub (by simp)) (by kernel_rfl) ?_
          first | (rw [planRule_bad hr0]; exact GW.ret (Out.of (resCellTmp rfl rfl rfl Tryz.underlying41 rfl Tryz.sizeOf41 (Rds.own (C := (planC zRw (.slice none 0 0) 0).toArray) (by repeat (first | exact List.mem_cons_self | apply List.mem_cons_of_mem | apply List.mem_append_right | exact List.mem_append_left _ List.mem_cons_self)) 0 (planC zRw (.slice none 0 0) 0) (fun j v hv => by simpa using hv)) rfl) (Hs.tl2 _ _) ⟨.slice none 0 0, [], HD, ⟨rfl, .nil rfl rfl, hD⟩, rfl⟩)) | (rw [planRule_full hr0 (by first | assumption | omega)]; exact GW.ret (Out.of (resCellTmp rfl rfl rfl Tryz.underlying41 rfl Tryz.sizeOf41 (Rds.own (C := (planC zRw (.slice none 0 0) 0).toArray) (by repeat (first | exact List.mem_cons_self | apply List.mem_cons_of_mem | apply List.mem_append_right | exact List.mem_append_left _ List.mem_cons_self)) 0 (planC zRw (.slice none 0 0) 0) (fun j v hv => by simpa using hv)) rfl) (Hs.endY0 _ _ _ _ _ _ _ _) ⟨.slice none 0 0, [], HD3, ⟨rfl, .nil rfl rfl, hD3⟩, rfl⟩)) | (rw [planRule_ok hr0 (by first | assumption | omega)]; exact GW.ret (Out.of (resCellTmp rfl rfl rfl Tryz.underlying41 rfl Tryz.sizeOf41 (Rds.own (C := (planC (rowF lim (dd (allSlots r)) (ts, 0) r.head).1 (.slice A48 (planSteps lim (dd (allSlots r)) (rowF lim (dd (allSlots r)) (ts, 0) r.head).2.1 (rowF lim (dd (allSlots r)) (ts, 0) r.head).2.2 r.body order srt).1.length c48) (dd (allSlots r)).length).toArray) (by repeat (first | exact List.mem_cons_self | apply List.mem_cons_of_mem | apply List.mem_append_right | exact List.mem_append_left _ List.mem_cons_self)) 0 (planC (rowF lim (dd (allSlots r)) (ts, 0) r.head).1 (.slice A48 (planSteps lim (dd (allSlots r)) (rowF lim (dd (allSlots r)) (ts, 0) r.head).2.1 (rowF lim (dd (allSlots r)) (ts, 0) r.head).2.2 r.body order srt).1.length c48) (dd (allSlots r)).length) (fun j v hv => by simpa using hv)) rfl) (Hs.endY _ _ _ _ _ _ _ _) ⟨.slice A48 _ c48, Ho, HD3, ⟨rfl, hst, hD3⟩, rfl⟩))
        · try simp only [decide_eq_true_eq, decide_eq_false_iff_not, Bool.not_eq_true', Bool.not_eq_false'] at hc2
          refine GW.weak (Keeps.refl _) (Hs.deep6 _ _ _ _ _ _ _ _) ?_
          refine GW.skip ?_
          refine GW.seq ?_
          refine GW.region ?_
          refine R.load_own (cs := planC (rowF lim (dd (allSlots r)) (ts, 0) r.head).1 (.slice A48 (planSteps lim (dd (allSlots r)) (rowF lim (dd (allSlots r)) (ts, 0) r.head).2.1 (rowF lim (dd (allSlots r)) (ts, 0) r.head).2.2 r.body order srt).1.length c48) (dd (allSlots r)).length) ⟨rfl, rfl, rfl, rfl⟩ rfl Tryz.underlying41 rfl Tryz.sizeOf41 (by repeat (first | exact List.mem_cons_self | apply List.mem_cons_of_mem | apply List.mem_append_right)) (by rfl) (by rfl) ?_   -- load 7 plan.go:161 t12:p
          refine R.storeAll (G1 := []) rfl rfl rfl rfl rfl Tryz.sizeOf41 rfl rfl rfl rfl ?_   -- t6
          refine R.assign ⟨rfl, rfl, rfl, rfl⟩ rfl ?_
          refine GOps.nil ?_
          first | (rw [planRule_bad hr0]; exact GW.ret (Out.of (resCellTmp rfl rfl rfl Tryz.underlying41 rfl Tryz.sizeOf41 (Rds.own (C := (planC zRw (.slice none 0 0) 0).toArray) (by repeat (first | exact List.mem_cons_self | apply List.mem_cons_of_mem | apply List.mem_append_right | exact List.mem_append_left _ List.mem_cons_self)) 0 (planC zRw (.slice none 0 0) 0) (fun j v hv => by simpa using hv)) rfl) (Hs.tl2 _ _) ⟨.slice none 0 0, [], HD, ⟨rfl, .nil rfl rfl, hD⟩, rfl⟩)) | (rw [planRule_full hr0 (by first | assumption | omega)]; exact GW.ret (Out.of (resCellTmp rfl rfl rfl Tryz.underlying41 rfl Tryz.sizeOf41 (Rds.own (C := (planC zRw (.slice none 0 0) 0).toArray) (by repeat (first | exact List.mem_cons_self | apply List.mem_cons_of_mem | apply List.mem_append_right | exact List.mem_append_left _ List.mem_cons_self)) 0 (planC zRw (.slice none 0 0) 0) (fun j v hv => by simpa using hv)) rfl) (Hs.endY0 _ _ _ _ _ _ _ _) ⟨.slice none 0 0, [], HD3, ⟨rfl, .nil rfl rfl, hD3⟩, rfl⟩)) | (rw [planRule_ok hr0 (by first | assumption | omega)]; exact GW.ret (Out.of (resCellTmp rfl rfl rfl Tryz.underlying41 rfl Tryz.sizeOf41 (Rds.own (C := (planC (rowF lim (dd (allSlots r)) (ts, 0) r.head).1 (.slice A48 (planSteps lim (dd (allSlots r)) (rowF lim (dd (allSlots r)) (ts, 0) r.head).2.1 (rowF lim (dd (allSlots r)) (ts, 0) r.head).2.2 r.body order srt).1.length c48) (dd (allSlots r)).length).toArray) (by repeat (first | exact List.mem_cons_self | apply List.mem_cons_of_mem | apply List.mem_append_right | exact List.mem_append_left _ List.mem_cons_self)) 0 (planC (rowF lim (dd (allSlots r)) (ts, 0) r.head).1 (.slice A48 (planSteps lim (dd (allSlots r)) (rowF lim (dd (allSlots r)) (ts, 0) r.head).2.1 (rowF lim (dd (allSlots r)) (ts, 0) r.head).2.2 r.body order srt).1.length c48) (dd (allSlots r)).length) (fun j v hv => by simpa using hv)) rfl) (Hs.endY _ _ _ _ _ _ _ _) ⟨.slice A48 _ c48, Ho, HD3, ⟨rfl, hst, hD3⟩, rfl⟩))
end Go.Proofs.YtfddkcmooommeaaGreatDoor.Gl
end
section
namespace Go.Proofs.YtfddkcmooommeaaGreatDoor.Gl
open Go.RowKit Go.Shelf
set_option linter.unusedVariables false
set_option linter.unnecessarySimpa false
set_option linter.unusedSimpArgs false
attribute [-simp] List.getD_eq_getElem?_getD
section
variable {X : Cx} {Q : Post} {fr : Fr} {ds : List Deferred} {G : Hp} {ops : Array Oper} {o : Oper} {rest : List Oper} {d : Nat}
theorem R.addS {t u : TypeId} {x y : Operand} {m n : ByteArray} (h : At X ops fr o (.binOp .add t x y u) d) (hx : evO fr x = some (.string m)) (hy : evO fr y = some (.string n)) (hz : m.size + n.size ≤ 9223372036854775807)
    (K : GOps X ops Q rest ((d, .string (m ++ n)) :: fr) ds G) : GOps X ops Q (o :: rest) fr ds G :=
  R.bin h hx hy (fun w _ => by rw [Sem.run_bind, run_guard_string]; simp [binOp, Op.stringOp]; omega) K
end
def kV (s : ByteArray) : Sl := ⟨s, zTm⟩
def kH : ByteArray := ⟨#[104, 116, 116, 112, 58, 47, 47]⟩
def pS (s : ByteArray) : Sl := ⟨ByteArray.empty, ⟨1, kH ++ s, ByteArray.empty⟩⟩
def c1 (n : UInt8) : ByteArray := ⟨#[n]⟩
def k1 : Lt := ⟨1, ⟨kV (c1 121), pS (c1 113), kV (c1 120)⟩, zSl, zSl⟩
def k2 : Lt := ⟨4, zPt, kV (c1 120), kV (c1 121)⟩
def k3 : Lt := ⟨1, ⟨kV (c1 120), pS (c1 114), kV (c1 122)⟩, zSl, zSl⟩
def k13 : Rl := ⟨⟨kV (c1 120), pS (c1 112), kV (c1 121)⟩, [k1, k2, k3]⟩
theorem k_slV (n : UInt8) : SlOk (kV (c1 n)) := ⟨by show 1 ≤ 1048576; decide, Nat.zero_le _, Nat.zero_le _⟩
theorem k_slP (n : UInt8) : SlOk (pS (c1 n)) := ⟨Nat.zero_le _, by show (kH ++ c1 n).size ≤ 1048576; rw [ByteArray.size_append]; exact Nat.le_of_ble_eq_true rfl, Nat.zero_le _⟩
theorem z_sl : SlOk zSl := ⟨Nat.zero_le _, Nat.zero_le _, Nat.zero_le _⟩
theorem k13_ok : RlOk k13 := ⟨⟨k_slV _, k_slP _, k_slV _⟩, fun l hl => by
  simp only [k13, List.mem_cons, List.not_mem_nil, or_false] at hl
  rcases hl with rfl | rfl | rfl
  · exact ⟨⟨k_slV _, k_slP _, k_slV _⟩, z_sl, z_sl⟩
  · exact ⟨⟨z_sl, z_sl, z_sl⟩, k_slV _, k_slV _⟩
  · exact ⟨⟨k_slV _, k_slP _, k_slV _⟩, z_sl, z_sl⟩⟩
def k13B : Bool := match planRule 100 [] k13 [] [] with
  | ⟨_, [s0, s1, s2], 3, 0, _⟩ => decide (s0.kind = 1) && (decide (s1.kind = 4) && decide (s2.row.p1.id = 3))
  | _ => false
theorem k13B_true : k13B = true := by decide +kernel
theorem k13_plan : ∃ h s0 s1 s2 ts', planRule 100 [] k13 [] [] = ⟨h, [s0, s1, s2], 3, 0, ts'⟩ ∧ s0.kind = 1 ∧ s1.kind = 4 ∧ s2.row.p1.id = 3 := by
  have h := k13B_true
  unfold k13B at h
  split at h
  · rename_i hh s0 s1 s2 ts' e
    simp only [Bool.and_eq_true, decide_eq_true_eq] at h
    exact ⟨hh, s0, s1, s2, ts', e, h.1, h.2.1, h.2.2⟩
  · cases h
theorem sorted_hS (w0 : World) : ∀ (b1 : Nat) (G0 : Hp), (b1, Know.exact (.cells #[.slice none ([] : List Int).length 0] 32 (0, 0))) ∈ G0 → IntsAt w0 G0 none ([] : List Int) → GC Tryz.prog w0 57 #[.func (.func 89) #[] #[.pointer (some ⟨b1, 0, none⟩)]] (fun v G' => ∃ H, SlAt 1 3 (zC ([] : List Int)) ([] : List Int).length v H ∧ H ++ G0 = G') G0 := fun b1 G0 hm _ =>
  (sorted_0 w0 G0 b1 hm).mono (by rintro v G' ⟨rfl, rfl⟩; exact ⟨[], .nil rfl rfl, rfl⟩)
theorem plan_Rule0 (w0 : World) (G : Hp) (HD : Hp) (ts : List Tm) (lim bD : Nat) (hD : Dic ts lim bD HD) (r : Rl) (bA : Option Addr) (bc : Nat) (hl : LtsAt w0 G bA r.body) (hbl : r.body.length ≤ 1000) (hok : RlOk r) :
    GC Tryz.prog w0 10 #[.pointer (some ⟨bD, 0, none⟩), .agg (RlC r.head (.slice bA r.body.length bc)).toArray, .slice none 0 0] (fun v G' => ∃ vs Ho HD', (v = .tuple #[.agg (planC (planRule lim ts r [] []).head vs (planRule lim ts r [] []).vars).toArray, .int .i64 (planRule lim ts r [] []).e] ∧ SlAt 11 50 (stsC (planRule lim ts r [] []).steps) (planRule lim ts r [] []).steps.length vs Ho ∧ Dic (planRule lim ts r [] []).ts lim bD HD') ∧ HD' ++ (Ho ++ G) = G') (HD ++ G) :=
  plan_Rule w0 G HD ts lim bD hD r bA bc hl hbl hok none [] [] 0 (fun i x h => by simp at h) (by simp) (by simp) (by simp) (sorted_hS w0)
theorem k13_lts {w0 : World} {G : Hp} {b : Nat} (h : (b, Know.exact (.cells (LtC k1 ++ (LtC k2 ++ LtC k3)).toArray 89 (0, 0))) ∈ G) : LtsAt w0 G (some ⟨b, 0, none⟩) k13.body := by
  intro i x hx
  rcases i with _ | _ | _ | i
  · have : k1 = x := by simpa [k13] using hx
    subst this
    exact ⟨b, 0, _, rfl, rfl, fun j v hv => .own' h (by rw [List.getElem?_toArray, show 0 + 0 * 21 + j = j by omega, List.getElem?_append_left (List.getElem?_eq_some_iff.1 hv).1]; exact hv)⟩
  · have : k2 = x := by simpa [k13] using hx
    subst this
    exact ⟨b, 0, _, rfl, rfl, fun j v hv => .own' h (by rw [List.getElem?_toArray, show 0 + (0 + 1) * 21 + j = 21 + j by omega, List.getElem?_append_right (by show 21 ≤ _; omega), show 21 + j - (LtC k1).length = j by show 21 + j - 21 = j; omega, List.getElem?_append_left (List.getElem?_eq_some_iff.1 hv).1]; exact hv)⟩
  · have : k3 = x := by simpa [k13] using hx
    subst this
    exact ⟨b, 0, _, rfl, rfl, fun j v hv => .own' h (by rw [List.getElem?_toArray, show 0 + (0 + 1 + 1) * 21 + j = 42 + j by omega, List.getElem?_append_right (by show 21 ≤ _; omega), show 42 + j - (LtC k1).length = 21 + j by show 42 + j - 21 = 21 + j; omega, List.getElem?_append_right (by show 21 ≤ _; omega), show 21 + j - (LtC k2).length = j by show 21 + j - 21 = j; omega]; exact hv)⟩
  · simp [k13] at hx
theorem known_plan (w0 : World) (G : Hp) (HD : Hp) (bD b37 : Nat) (hD : Dic [] 100 bD HD) (hb : (b37, Know.exact (.cells (LtC k1 ++ (LtC k2 ++ LtC k3)).toArray 89 (0, 0))) ∈ G) :
    GC Tryz.prog w0 10 #[.pointer (some ⟨bD, 0, none⟩), .agg (RlC k13.head (.slice (some ⟨b37, 0, none⟩) 3 3)).toArray, .slice none 0 0] (fun v G' => ∃ h s0 s1 s2 bs cap HD', (v = .tuple #[.agg (planC h (.slice (some ⟨bs, 0, none⟩) 3 cap) 3).toArray, .int .i64 0] ∧ s0.kind = 1 ∧ s1.kind = 4 ∧ s2.row.p1.id = 3) ∧ HD' ++ ((bs, .row (stsC [s0, s1, s2]) 50 (cap * 11)) :: G) = G') (HD ++ G) := by
  refine (plan_Rule0 w0 G HD [] 100 bD hD k13 (some ⟨b37, 0, none⟩) 3 (k13_lts hb) (by decide) k13_ok).mono ?_
  rintro v G' ⟨vs, Ho, HD', ⟨rfl, hS, hD'⟩, rfl⟩
  obtain ⟨h, s0, s1, s2, ts', e, e0, e1, e2⟩ := k13_plan
  rw [e] at hS ⊢
  obtain ⟨bs, cap, rfl, rfl, _⟩ := hS.row_of (Nat.succ_pos 2)
  exact ⟨h, s0, s1, s2, bs, cap, HD', ⟨rfl, e0, e1, e2⟩, rfl⟩
theorem known_end (x p q : Nat × Know) (D G : Hp) : Hs (x :: (D ++ (p :: q :: G))) G := Hs.sub ((((List.Sublist.refl G).cons q).cons p |>.trans (List.sublist_append_right D _)).cons x)
theorem known1 (w0 : World) (G : Hp) (s : ByteArray) : GC Tryz.prog w0 27 #[.string s] (fun v G' => v = .agg (SlC (kV s)).toArray ∧ G = G') G := by
  refine GC.body (args := [.string s]) Tryz.func27 rfl (by kernel_rfl) rfl ?_
  refine GW.seq ?_
  refine GW.region ?_
  refine R.alloc ⟨rfl, rfl, rfl, rfl⟩ Tryz.zeroValue26 fun b2 => ?_
  refine GOps.nil ?_
  refine GW.seq ?_
  refine GW.region ?_
  refine R.move ⟨rfl, rfl, rfl, rfl⟩ rfl ?_
  refine R.build (vs := [(0, _)]) (cells := (SlC (kV s)).toArray) ⟨rfl, rfl, rfl, rfl⟩ rfl (fun w => run_build w 26 _ _ (by kernel_rfl)) ?_   -- build 0 type 26
  refine R.storeAll (G1 := []) rfl rfl rfl rfl rfl Tryz.sizeOf26 rfl rfl rfl rfl ?_   -- t2
  refine GOps.nil ?_
  exact GW.ret (Out.of (resCellA rfl rfl Tryz.underlying26 rfl Tryz.sizeOf26 (Rds.own (C := (SlC (kV s)).toArray) List.mem_cons_self 0 (SlC (kV s)) (fun j v hv => by simpa using hv)) rfl) (Hs.tl _) ⟨rfl, rfl⟩)
theorem known2 (w0 : World) (G : Hp) (s : ByteArray) (hs : s.size ≤ 1000) : GC Tryz.prog w0 28 #[.string s] (fun v G' => v = .agg (SlC (pS s)).toArray ∧ G = G') G := by
  refine GC.body (args := [.string s]) Tryz.func28 rfl (by kernel_rfl) rfl ?_
  refine GW.seq ?_
  refine GW.region ?_
  refine R.alloc ⟨rfl, rfl, rfl, rfl⟩ Tryz.zeroValue26 fun b2 => ?_
  refine GOps.nil ?_
  refine GW.seq ?_
  refine GW.region ?_
  refine R.move ⟨rfl, rfl, rfl, rfl⟩ rfl ?_
  refine R.addS ⟨rfl, rfl, rfl, rfl⟩ rfl rfl (by show 7 + s.size ≤ _; omega) ?_   -- add ['const', 't3']
  refine R.build (vs := [(0, _), (1, _)]) (cells := (TmC (pS s).t).toArray) ⟨rfl, rfl, rfl, rfl⟩ rfl (fun w => run_build w 24 _ _ (by kernel_rfl)) ?_   -- build 0 type 24
  refine R.build (vs := [(1, _)]) (cells := (SlC (pS s)).toArray) ⟨rfl, rfl, rfl, rfl⟩ rfl (fun w => run_build w 26 _ _ (by kernel_rfl)) ?_   -- build 1 type 26
  refine R.storeAll (G1 := []) rfl rfl rfl rfl rfl Tryz.sizeOf26 rfl rfl rfl rfl ?_   -- t2
  refine GOps.nil ?_
  exact GW.ret (Out.of (resCellA rfl rfl Tryz.underlying26 rfl Tryz.sizeOf26 (Rds.own (C := (SlC (pS s)).toArray) List.mem_cons_self 0 (SlC (pS s)) (fun j v hv => by simpa using hv)) rfl) (Hs.tl _) ⟨rfl, rfl⟩)
theorem law_known (w0 : World) (G : Hp) : GC Tryz.prog w0 9 #[] (fun v G' => v = .bool true ∧ G = G') G := by
  refine GC.body (args := []) Tryz.func9 rfl (by kernel_rfl) rfl ?_
  refine GW.seq ?_
  refine GW.region ?_
  refine R.assign ⟨rfl, rfl, rfl, rfl⟩ rfl ?_
  refine GOps.nil ?_
  refine GW.seq ?_
  refine GW.region ?_
  refine R.call ⟨rfl, rfl, rfl, rfl⟩ rfl (vs := [_]) rfl ((dict_New _ _ 100 (by decide)).mono ?_)
  rintro _ _ ⟨bD, HD, ⟨rfl, hD⟩, rfl⟩
  refine R.assign ⟨rfl, rfl, rfl, rfl⟩ rfl ?_
  refine GOps.nil ?_
  refine GW.seq ?_
  refine GW.region ?_
  refine R.assign ⟨rfl, rfl, rfl, rfl⟩ rfl ?_
  refine GOps.nil ?_
  refine GW.seq ?_
  refine GW.region ?_
  refine R.assign ⟨rfl, rfl, rfl, rfl⟩ rfl ?_
  refine GOps.nil ?_
  refine GW.seq ?_
  refine GW.region ?_
  refine R.move ⟨rfl, rfl, rfl, rfl⟩ rfl ?_
  refine R.move ⟨rfl, rfl, rfl, rfl⟩ rfl ?_
  refine R.call ⟨rfl, rfl, rfl, rfl⟩ rfl (vs := [_]) rfl ((known1 _ _ (c1 120)).mono ?_)
  rintro _ _ ⟨rfl, rfl⟩
  refine R.move ⟨rfl, rfl, rfl, rfl⟩ rfl ?_
  refine R.call ⟨rfl, rfl, rfl, rfl⟩ rfl (vs := [_]) rfl ((known2 _ _ (c1 112) (by decide)).mono ?_)
  rintro _ _ ⟨rfl, rfl⟩
  refine R.move ⟨rfl, rfl, rfl, rfl⟩ rfl ?_
  refine R.call ⟨rfl, rfl, rfl, rfl⟩ rfl (vs := [_]) rfl ((known1 _ _ (c1 121)).mono ?_)
  rintro _ _ ⟨rfl, rfl⟩
  refine R.build (vs := [(0, _), (1, _), (2, _)]) (cells := (PtC k13.head).toArray) ⟨rfl, rfl, rfl, rfl⟩ rfl (fun w => run_build w 28 _ _ (by kernel_rfl)) ?_   -- build 0 type 28
  refine R.move ⟨rfl, rfl, rfl, rfl⟩ rfl ?_
  refine R.call ⟨rfl, rfl, rfl, rfl⟩ rfl (vs := [_]) rfl ((known1 _ _ (c1 121)).mono ?_)
  rintro _ _ ⟨rfl, rfl⟩
  refine R.move ⟨rfl, rfl, rfl, rfl⟩ rfl ?_
  refine R.call ⟨rfl, rfl, rfl, rfl⟩ rfl (vs := [_]) rfl ((known2 _ _ (c1 113) (by decide)).mono ?_)
  rintro _ _ ⟨rfl, rfl⟩
  refine R.move ⟨rfl, rfl, rfl, rfl⟩ rfl ?_
  refine R.call ⟨rfl, rfl, rfl, rfl⟩ rfl (vs := [_]) rfl ((known1 _ _ (c1 120)).mono ?_)
  rintro _ _ ⟨rfl, rfl⟩
  refine R.build (vs := [(0, _), (1, _), (2, _)]) (cells := (PtC k1.pat).toArray) ⟨rfl, rfl, rfl, rfl⟩ rfl (fun w => run_build w 28 _ _ (by kernel_rfl)) ?_   -- build 1 type 28
  refine R.build (vs := [(0, _), (1, _)]) (cells := (LtC k1).toArray) ⟨rfl, rfl, rfl, rfl⟩ rfl (fun w => run_build w 89 _ _ (by kernel_rfl)) ?_   -- build 2 type 89
  refine R.move ⟨rfl, rfl, rfl, rfl⟩ rfl ?_
  refine R.call ⟨rfl, rfl, rfl, rfl⟩ rfl (vs := [_]) rfl ((known1 _ _ (c1 120)).mono ?_)
  rintro _ _ ⟨rfl, rfl⟩
  refine R.move ⟨rfl, rfl, rfl, rfl⟩ rfl ?_
  refine R.call ⟨rfl, rfl, rfl, rfl⟩ rfl (vs := [_]) rfl ((known1 _ _ (c1 121)).mono ?_)
  rintro _ _ ⟨rfl, rfl⟩
  refine R.build (vs := [(0, _), (2, _), (3, _)]) (cells := (LtC k2).toArray) ⟨rfl, rfl, rfl, rfl⟩ rfl (fun w => run_build w 89 _ _ (by kernel_rfl)) ?_   -- build 3 type 89
  refine R.move ⟨rfl, rfl, rfl, rfl⟩ rfl ?_
  refine R.call ⟨rfl, rfl, rfl, rfl⟩ rfl (vs := [_]) rfl ((known1 _ _ (c1 120)).mono ?_)
  rintro _ _ ⟨rfl, rfl⟩
  refine R.move ⟨rfl, rfl, rfl, rfl⟩ rfl ?_
  refine R.call ⟨rfl, rfl, rfl, rfl⟩ rfl (vs := [_]) rfl ((known2 _ _ (c1 114) (by decide)).mono ?_)
  rintro _ _ ⟨rfl, rfl⟩
  refine R.move ⟨rfl, rfl, rfl, rfl⟩ rfl ?_
  refine R.call ⟨rfl, rfl, rfl, rfl⟩ rfl (vs := [_]) rfl ((known1 _ _ (c1 122)).mono ?_)
  rintro _ _ ⟨rfl, rfl⟩
  refine R.build (vs := [(0, _), (1, _), (2, _)]) (cells := (PtC k3.pat).toArray) ⟨rfl, rfl, rfl, rfl⟩ rfl (fun w => run_build w 28 _ _ (by kernel_rfl)) ?_   -- build 4 type 28
  refine R.build (vs := [(0, _), (1, _)]) (cells := (LtC k3).toArray) ⟨rfl, rfl, rfl, rfl⟩ rfl (fun w => run_build w 89 _ _ (by kernel_rfl)) ?_   -- build 5 type 89
  refine R.buildSliceF (sz := 21) (bytes := 288) (vs := [_, _, _]) (cs := LtC k1 ++ (LtC k2 ++ LtC k3)) ⟨rfl, rfl, rfl, rfl⟩ rfl Tryz.underlying29 (InfoE.mk (by kernel_rfl)) rfl rfl rfl rfl rfl fun b37 => ?_   -- build 6 type 29
  refine R.build (vs := [(0, _), (1, _)]) (cells := (RlC k13.head (.slice (some ⟨b37, 0, none⟩) 3 3)).toArray) ⟨rfl, rfl, rfl, rfl⟩ rfl (fun w => run_build w 31 _ _ (by kernel_rfl)) ?_   -- build 7 type 31
  refine GOps.weak (Keeps.refl _) (Hs.perm (pm1 _ _ _)) ?_
  refine R.call ⟨rfl, rfl, rfl, rfl⟩ rfl (vs := [_, _, _]) rfl ((known_plan _ _ HD bD b37 hD List.mem_cons_self).mono ?_)
  rintro _ _ ⟨h, s0, s1, s2, bs, cap, HD2, ⟨rfl, e0, e1, e2⟩, rfl⟩
  refine R.move ⟨rfl, rfl, rfl, rfl⟩ rfl ?_
  refine R.extract ⟨rfl, rfl, rfl, rfl⟩ rfl rfl ?_
  refine R.extract ⟨rfl, rfl, rfl, rfl⟩ rfl rfl ?_
  refine R.alloc ⟨rfl, rfl, rfl, rfl⟩ Tryz.zeroValue41 fun b4 => ?_
  refine R.storeAll (G1 := []) rfl rfl rfl rfl rfl Tryz.sizeOf41 rfl rfl rfl rfl ?_   -- t4:x
  refine R.assign ⟨rfl, rfl, rfl, rfl⟩ rfl ?_
  refine GOps.nil ?_
  refine GW.seq ?_
  refine GW.region ?_
  refine R.move ⟨rfl, rfl, rfl, rfl⟩ rfl ?_
  refine R.eqI ⟨rfl, rfl, rfl, rfl⟩ rfl rfl ?_   -- eql ['t42', '0']
  refine R.move ⟨rfl, rfl, rfl, rfl⟩ rfl ?_
  refine R.fieldAddr ⟨rfl, rfl, rfl, rfl⟩ rfl Tryz.underlying41 rfl Tryz.sizeOf3 ?_   -- "Vars"
  refine R.load1 ⟨rfl, rfl, rfl, rfl⟩ rfl Tryz.underlying3 rfl (.own' (by repeat (first | exact List.mem_cons_self | apply List.mem_cons_of_mem | apply List.mem_append_right)) (by rfl)) ?_   -- load 0 law.go:20 t45
  refine R.eqI ⟨rfl, rfl, rfl, rfl⟩ rfl rfl ?_   -- eql ['t46', '3']
  refine R.pick_t ⟨rfl, rfl, rfl, rfl⟩ rfl rfl ?_
  refine R.move ⟨rfl, rfl, rfl, rfl⟩ rfl ?_
  refine R.fieldAddr ⟨rfl, rfl, rfl, rfl⟩ rfl Tryz.underlying41 rfl Tryz.sizeOf39 ?_   -- "Steps"
  refine R.load1 ⟨rfl, rfl, rfl, rfl⟩ rfl Tryz.underlying39 rfl (.own' (by repeat (first | exact List.mem_cons_self | apply List.mem_cons_of_mem | apply List.mem_append_right)) (by rfl)) ?_   -- load 1 law.go:20 t50
  refine R.lenS ⟨rfl, rfl, rfl, rfl⟩ rfl rfl Tryz.underlying39 ?_
  refine R.eqI ⟨rfl, rfl, rfl, rfl⟩ rfl rfl ?_   -- eql ['t52', '3']
  refine R.pick_t ⟨rfl, rfl, rfl, rfl⟩ rfl rfl ?_
  refine R.move ⟨rfl, rfl, rfl, rfl⟩ rfl ?_
  refine R.fieldAddr ⟨rfl, rfl, rfl, rfl⟩ rfl Tryz.underlying41 rfl Tryz.sizeOf39 ?_   -- "Steps"
  refine R.load1 ⟨rfl, rfl, rfl, rfl⟩ rfl Tryz.underlying39 rfl (.own' (by repeat (first | exact List.mem_cons_self | apply List.mem_cons_of_mem | apply List.mem_append_right)) (by rfl)) ?_   -- load 2 law.go:20 t56
  refine R.indexAddrS ⟨rfl, rfl, rfl, rfl⟩ rfl rfl Tryz.underlying39 Tryz.sizeOf50 (by omega) (by omega) ?_   -- ['t57', '0']
  refine R.fieldAddr ⟨rfl, rfl, rfl, rfl⟩ rfl Tryz.underlying50 rfl Tryz.sizeOf48 ?_   -- "Kind"
  refine R.load1 ⟨rfl, rfl, rfl, rfl⟩ rfl Tryz.underlying48 rfl (st_load (ss := [s0, s1, s2]) (i := 0) (by repeat (first | exact List.mem_cons_self | apply List.mem_cons_of_mem | apply List.mem_append_right | exact List.mem_append_left _ List.mem_cons_self)) rfl 0 _ rfl) ?_   -- load 3 law.go:20
  refine R.eqI ⟨rfl, rfl, rfl, rfl⟩ rfl rfl ?_   -- eql ['t60', '1']
  refine R.pick_t ⟨rfl, rfl, rfl, rfl⟩ rfl rfl ?_
  refine R.move ⟨rfl, rfl, rfl, rfl⟩ rfl ?_
  refine GOps.caseB 63 rfl (fun hg1 => ?_) (fun hg1 => ?_)
  · try simp only [decide_eq_true_eq, decide_eq_false_iff_not, Bool.not_eq_true', Bool.not_eq_false'] at hg1
    refine R.fieldAddr ⟨rfl, rfl, rfl, rfl⟩ rfl Tryz.underlying41 rfl Tryz.sizeOf39 ?_   -- "Steps"
    refine R.load1 ⟨rfl, rfl, rfl, rfl⟩ rfl Tryz.underlying39 rfl (.own' (by repeat (first | exact List.mem_cons_self | apply List.mem_cons_of_mem | apply List.mem_append_right)) (by rfl)) ?_   -- load 4 law.go:20 t64
    refine R.indexAddrS ⟨rfl, rfl, rfl, rfl⟩ rfl rfl Tryz.underlying39 Tryz.sizeOf50 (by omega) (by omega) ?_   -- ['t65', '1']
    refine R.fieldAddr ⟨rfl, rfl, rfl, rfl⟩ rfl Tryz.underlying50 rfl Tryz.sizeOf48 ?_   -- "Kind"
    refine R.load1 ⟨rfl, rfl, rfl, rfl⟩ rfl Tryz.underlying48 rfl (st_load (ss := [s0, s1, s2]) (i := 1) (by repeat (first | exact List.mem_cons_self | apply List.mem_cons_of_mem | apply List.mem_append_right | exact List.mem_append_left _ List.mem_cons_self)) rfl 0 _ rfl) ?_   -- load 5 law.go:20
    refine R.eqI ⟨rfl, rfl, rfl, rfl⟩ rfl rfl ?_   -- eql ['t68', '4']
    refine R.pick_t ⟨rfl, rfl, rfl, rfl⟩ rfl rfl ?_
    refine R.move ⟨rfl, rfl, rfl, rfl⟩ rfl ?_
    refine GOps.caseB 71 rfl (fun hg2 => ?_) (fun hg2 => ?_)
    · try simp only [decide_eq_true_eq, decide_eq_false_iff_not, Bool.not_eq_true', Bool.not_eq_false'] at hg2
      refine R.fieldAddr ⟨rfl, rfl, rfl, rfl⟩ rfl Tryz.underlying41 rfl Tryz.sizeOf39 ?_   -- "Steps"
      refine R.load1 ⟨rfl, rfl, rfl, rfl⟩ rfl Tryz.underlying39 rfl (.own' (by repeat (first | exact List.mem_cons_self | apply List.mem_cons_of_mem | apply List.mem_append_right)) (by rfl)) ?_   -- load 6 law.go:20 t72
      refine R.indexAddrS ⟨rfl, rfl, rfl, rfl⟩ rfl rfl Tryz.underlying39 Tryz.sizeOf50 (by omega) (by omega) ?_   -- ['t73', '2']
      refine R.fieldAddr ⟨rfl, rfl, rfl, rfl⟩ rfl Tryz.underlying50 rfl Tryz.sizeOf38 ?_   -- "Row"
      refine R.indexAddrA ⟨rfl, rfl, rfl, rfl⟩ rfl rfl Tryz.underlying38 Tryz.sizeOf37 (by omega) (by omega) ?_   -- ['t75', '1']
      refine R.fieldAddr ⟨rfl, rfl, rfl, rfl⟩ rfl Tryz.underlying37 rfl Tryz.sizeOf35 ?_   -- "ID"
      refine R.load1 ⟨rfl, rfl, rfl, rfl⟩ rfl Tryz.underlying35 rfl (st_load (ss := [s0, s1, s2]) (i := 2) (by repeat (first | exact List.mem_cons_self | apply List.mem_cons_of_mem | apply List.mem_append_right | exact List.mem_append_left _ List.mem_cons_self)) rfl 4 _ rfl) ?_   -- load 7 law.go:20
      refine R.eqI ⟨rfl, rfl, rfl, rfl⟩ rfl rfl ?_   -- eql ['t78', '3']
      refine R.pick_t ⟨rfl, rfl, rfl, rfl⟩ rfl rfl ?_
      refine R.assign ⟨rfl, rfl, rfl, rfl⟩ rfl ?_
      refine GOps.nil ?_
      refine GW.ret (Out.of (Res.one rfl rfl) (known_end _ _ _ _ _) ⟨?_, rfl⟩)
      first | (rw [e2]; rfl) | (exfalso; omega) | (exfalso; simp_all; done)
    · try simp only [decide_eq_true_eq, decide_eq_false_iff_not, Bool.not_eq_true', Bool.not_eq_false'] at hg2
      refine GOps.skip rfl rfl rfl ?_
      refine GOps.skip rfl rfl rfl ?_
      refine GOps.skip rfl rfl rfl ?_
      refine GOps.skip rfl rfl rfl ?_
      refine GOps.skip rfl rfl rfl ?_
      refine GOps.skip rfl rfl rfl ?_
      refine GOps.skip rfl rfl rfl ?_
      refine GOps.skip rfl rfl rfl ?_
      refine R.pick_f ⟨rfl, rfl, rfl, rfl⟩ rfl rfl ?_
      refine R.assign ⟨rfl, rfl, rfl, rfl⟩ rfl ?_
      refine GOps.nil ?_
      refine GW.ret (Out.of (Res.one rfl rfl) (known_end _ _ _ _ _) ⟨?_, rfl⟩)
      first | (rw [e2]; rfl) | (exfalso; omega) | (exfalso; simp_all; done)
  · try simp only [decide_eq_true_eq, decide_eq_false_iff_not, Bool.not_eq_true', Bool.not_eq_false'] at hg1
    refine GOps.skip rfl rfl rfl ?_
    refine GOps.skip rfl rfl rfl ?_
    refine GOps.skip rfl rfl rfl ?_
    refine GOps.skip rfl rfl rfl ?_
    refine GOps.skip rfl rfl rfl ?_
    refine GOps.skip rfl rfl rfl ?_
    refine R.pick_f ⟨rfl, rfl, rfl, rfl⟩ rfl rfl ?_
    refine R.move ⟨rfl, rfl, rfl, rfl⟩ rfl ?_
    refine GOps.skip rfl rfl rfl ?_
    refine GOps.skip rfl rfl rfl ?_
    refine GOps.skip rfl rfl rfl ?_
    refine GOps.skip rfl rfl rfl ?_
    refine GOps.skip rfl rfl rfl ?_
    refine GOps.skip rfl rfl rfl ?_
    refine GOps.skip rfl rfl rfl ?_
    refine GOps.skip rfl rfl rfl ?_
    refine R.pick_f ⟨rfl, rfl, rfl, rfl⟩ rfl rfl ?_
    refine R.assign ⟨rfl, rfl, rfl, rfl⟩ rfl ?_
    refine GOps.nil ?_
    refine GW.ret (Out.of (Res.one rfl rfl) (known_end _ _ _ _ _) ⟨?_, rfl⟩)
    first | (rw [e2]; rfl) | (exfalso; omega) | (exfalso; simp_all; done)
end Go.Proofs.YtfddkcmooommeaaGreatDoor.Gl
end
section
namespace Go.Proofs.YtfddkcmooommeaaGreatDoor.Gl
open Go.RowKit Go.Shelf
set_option linter.unusedVariables false
set_option linter.unnecessarySimpa false
set_option linter.unusedSimpArgs false
attribute [-simp] List.getD_eq_getElem?_getD
abbrev flt (n : Int) : Nat := FloatKind.f64.nearest n
theorem word_read (neg : Bool) (rung : Nat) (h : rung ≤ Ieee.double.infRung) : ∀ ng fr, Ieee.double.read (Ieee.double.word neg rung) ≠ .nan ng fr := by
  intro ng fr e
  have hs : Ieee.double.infRung < Ieee.double.signWeight := by decide +kernel
  have hm : Ieee.double.word neg rung % Ieee.double.signWeight = rung := by
    unfold Ieee.Format.word
    split
    · rw [Nat.add_mod_left, Nat.mod_eq_of_lt (by omega)]
    · exact Nat.mod_eq_of_lt (by omega)
  unfold Ieee.Format.read at e
  simp only [hm] at e
  split at e
  · cases e
  · split at e
    · cases e
    · split at e
      · cases e
      · omega
theorem order_self {x : Nat} (h : ∀ ng fr, Ieee.double.read x ≠ .nan ng fr) : Ieee.double.order x x = some .eq := by
  unfold Ieee.Format.order
  cases e : Ieee.double.read x with
  | number s m i => simp [Ieee.Datum.order]
  | infinity s => simp [Ieee.Datum.order]
  | nan s f => exact absurd e (h s f)
theorem flt_self (n : Int) : FloatKind.f64.format.order (flt n) (flt n) = some .eq := by
  show Ieee.double.order (flt n) (flt n) = some .eq
  refine order_self ?_
  show ∀ ng fr, Ieee.double.read (Ieee.double.nearest (decide (n < 0)) n.natAbs 0) ≠ .nan ng fr
  unfold Ieee.Format.nearest
  split
  · exact word_read _ 0 (Nat.zero_le _)
  · exact word_read _ _ (Nat.min_le_right _ _)
theorem zero_self : FloatKind.f64.format.order 0 0 = some .eq := by decide +kernel
section
variable {X : Cx} {Q : Post} {fr : Fr} {ds : List Deferred} {G : Hp} {ops : Array Oper} {o : Oper} {rest : List Oper} {d : Nat}
theorem V.convF {s t : TypeId} {x : Operand} {k : IntKind} {ts : TypeDesc} {m : Int} (h : At X ops fr o (.convert s t x) d) (hx : evO fr x = some (.int k m)) (hs : X.P.underlying s = some ts) (ht : X.P.underlying t = some (.float .f64)) : GV X ops fr G o d (.float .f64 (flt m)) :=
  GV.of h (by simp) (fun ρ w hρ hw => by
    have := run_convert_int_float (P := X.P) w s t k .f64 m (by rw [hs]; rfl) ht
    simp only [execOp, h.op, hρ _ _ hx, Sem.run_bind, this, Result.andThen_ok]; rfl)
theorem R.convF {s t : TypeId} {x : Operand} {k : IntKind} {ts : TypeDesc} {m : Int} (h : At X ops fr o (.convert s t x) d) (hx : evO fr x = some (.int k m)) (hs : X.P.underlying s = some ts) (ht : X.P.underlying t = some (.float .f64)) (K : GOps X ops Q rest ((d, .float .f64 (flt m)) :: fr) ds G) : GOps X ops Q (o :: rest) fr ds G :=
  R.val h (by simp) (V.convF (G := G) h hx hs ht).run K
theorem run_guard_flt (b : BinOp) (t : TypeId) (x y : Operand) (k k' : FloatKind) (m n : Nat) (P : Program) (w : World) : (eqGuard b t x y (.float k m) (.float k' n)).run P w = .ok () w := by
  unfold eqGuard; cases b <;> simp
theorem V.neF {t u : TypeId} {x y : Operand} {m n : Nat} (h : At X ops fr o (.binOp .neq t x y u) d) (hx : evO fr x = some (.float .f64 m)) (hy : evO fr y = some (.float .f64 n)) : GV X ops fr G o d (.bool (FloatKind.f64.format.order m n != some .eq)) :=
  V.bin h hx hy (fun w _ => by rw [Sem.run_bind, run_guard_flt, Result.andThen_ok, binOp_float_cmp_neq]; rfl)
theorem R.neF {t u : TypeId} {x y : Operand} {m n : Nat} (h : At X ops fr o (.binOp .neq t x y u) d) (hx : evO fr x = some (.float .f64 m)) (hy : evO fr y = some (.float .f64 n)) (K : GOps X ops Q rest ((d, .bool (FloatKind.f64.format.order m n != some .eq)) :: fr) ds G) : GOps X ops Q (o :: rest) fr ds G :=
  R.val h (by simp) (V.neF (G := G) h hx hy).run K
end
def pk (r : Rw) (i : Nat) : Pl := if i = 0 then r.p0 else if i = 1 then r.p1 else r.p2
def lv (p : Pl) : Int := if p.var < 0 then -1 else p.var
def rid (p : Pl) : Nat := if p.var < 0 then p.id else 0
def upto (k : Nat) (f : Nat → Value) (z : Value) (i : Nat) : Value := if i < k then f i else z
def upd (f : Nat → Value) (k : Nat) (x : Value) (i : Nat) : Value := if i = k then x else f i
def mkL (c : Value) (v d : Nat → Value) : Array Value := #[c, v 0, v 1, v 2, d 0, d 1, d 2]
def mk3 (v : Nat → Value) : Array Value := #[v 0, v 1, v 2]
theorem mkL_v {c : Value} {v d : Nat → Value} {k : Nat} {x : Int} (h : k < 3) : splice (mkL c v d) (0 + 1 + k * 1) (Value.int .i64 x).cells.toList = mkL c (upd v k (.int .i64 x)) d := by
  rcases (show k = 0 ∨ k = 1 ∨ k = 2 by omega) with rfl | rfl | rfl <;> rfl
theorem mkL_d {c : Value} {v d : Nat → Value} {k : Nat} {x : Nat} (h : k < 3) : splice (mkL c v d) (0 + 4 + k * 1) (Value.float .f64 x).cells.toList = mkL c v (upd d k (.float .f64 x)) := by
  rcases (show k = 0 ∨ k = 1 ∨ k = 2 by omega) with rfl | rfl | rfl <;> rfl
theorem mk3_v {v : Nat → Value} {k : Nat} {x : Nat} (h : k < 3) : splice (mk3 v) (0 + k * 1) (Value.int .u32 (x : Nat)).cells.toList = mk3 (upd v k (.int .u32 (x : Nat))) := by
  rcases (show k = 0 ∨ k = 1 ∨ k = 2 by omega) with rfl | rfl | rfl <;> rfl
theorem mkL_eq {c : Value} {v v' d d' : Nat → Value} (h : ∀ i, i < 3 → v i = v' i) (h' : ∀ i, i < 3 → d i = d' i) : mkL c v d = mkL c v' d' := by
  unfold mkL
  rw [h 0 (by omega), h 1 (by omega), h 2 (by omega), h' 0 (by omega), h' 1 (by omega), h' 2 (by omega)]
theorem mk3_eq {v v' : Nat → Value} (h : ∀ i, i < 3 → v i = v' i) : mk3 v = mk3 v' := by
  unfold mk3
  rw [h 0 (by omega), h 1 (by omega), h 2 (by omega)]
theorem upto_succ {k : Nat} {f : Nat → Value} {z x : Value} (h : f k = x) (i : Nat) : upd (upto k f z) k x i = upto (k + 1) f z i := by
  unfold upd upto
  by_cases h1 : i = k
  · subst h1
    rw [if_pos rfl, if_pos (by omega), h]
  · rw [if_neg h1]
    by_cases h2 : i < k
    · rw [if_pos h2, if_pos (by omega)]
    · rw [if_neg h2, if_neg (by omega)]
theorem upd_upd {f : Nat → Value} {k : Nat} {x y : Value} (i : Nat) : upd (upd f k x) k y i = upd f k y i := by
  unfold upd
  by_cases h1 : i = k
  · rw [if_pos h1, if_pos h1]
  · rw [if_neg h1, if_neg h1, if_neg h1]
theorem upto_keep {k : Nat} {f : Nat → Value} {z : Value} (h : f k = z) (i : Nat) : upto k f z i = upto (k + 1) f z i := by
  unfold upto
  by_cases h2 : i < k
  · rw [if_pos h2, if_pos (by omega)]
  · rw [if_neg h2]
    by_cases h3 : i = k
    · subst h3; rw [if_pos (by omega), h]
    · rw [if_neg (by omega)]
theorem pk_get {r : Rw} {k : Nat} (h : k < 3) : (row3 r)[k]? = some (pk r k) := by
  rcases (show k = 0 ∨ k = 1 ∨ k = 2 by omega) with rfl | rfl | rfl <;> rfl
theorem pk_index {r : Rw} {k : Nat} (h : k < 3) : ((RwC r).toArray.extract (k * 2) (k * 2 + 2)) = (PlC (pk r k)).toArray := by
  rcases (show k = 0 ∨ k = 1 ∨ k = 2 by omega) with rfl | rfl | rfl <;> rfl
structure Lk where
  c : Nat
  v : Nat → Int
  d : Nat → Nat
def LkC (l : Lk) : List Value := [.float .f64 l.c, .int .i64 (l.v 0), .int .i64 (l.v 1), .int .i64 (l.v 2), .float .f64 (l.d 0), .float .f64 (l.d 1), .float .f64 (l.d 2)]
def ids (r : Rw) : Nat × Nat × Nat := (rid r.p0, rid r.p1, rid r.p2)
def lookF (cf : Nat × Nat × Nat → Nat) (df : Nat → Nat) (s : St) : Lk := ⟨cf (ids s.row), fun i => lv (pk s.row i), df⟩
def isM (s : St) : Bool := decide (s.kind = 1)
def looksF (cf : Nat × Nat × Nat → Nat) (df : Nat → Nat) (ss : List St) : List Lk := (ss.filter isM).map (lookF cf df)
def lksC (l : List Lk) : List Value := l.flatMap LkC
theorem lks_get : ∀ (ss : List Lk) (i : Nat) (s : Lk), ss[i]? = some s → ∀ (j : Nat) v, (LkC s)[j]? = some v → (lksC ss)[i * 7 + j]? = some v
  | [], i, s, h, _, _, _ => by simp at h
  | t :: ss, 0, s, h, j, v, hv => by
    simp at h
    subst h
    have hj := (List.getElem?_eq_some_iff.1 hv).1
    show (LkC t ++ lksC ss)[0 * 7 + j]? = some v
    rw [Nat.zero_mul, Nat.zero_add, List.getElem?_append_left hj]
    exact hv
  | t :: ss, i + 1, s, h, j, v, hv => by
    have ih := lks_get ss i s (by simpa using h) j v hv
    show (LkC t ++ lksC ss)[(i + 1) * 7 + j]? = some v
    rw [List.getElem?_append_right (by show 7 ≤ _; omega), show (i + 1) * 7 + j - (LkC t).length = i * 7 + j by show (i + 1) * 7 + j - 7 = _; omega]
    exact ih
theorem lk_load {w0 : World} {G : Hp} {b m i : Nat} {ls : List Lk} {x : Lk} (hm : (b, Know.row (lksC ls) 77 m) ∈ G) (hx : ls[i]? = some x) : Rds w0 G b (0 + i * 7) (LkC x) := fun j v hv => .own hm (by show (lksC ls)[0 + i * 7 + j]? = _; rw [Nat.zero_add]; exact lks_get ls i x hx j v hv)
theorem looks_yes {cf : Nat × Nat × Nat → Nat} {df : Nat → Nat} {ss : List St} {i : Nat} {s : St} {v : Value} {H : Hp} (hx : ss[i]? = some s) (hk : s.kind = 1) (h : SlAt 7 77 (lksC (looksF cf df (ss.take i)) ++ LkC (lookF cf df s)) ((looksF cf df (ss.take i)).length + 1) v H) : SlAt 7 77 (lksC (looksF cf df (ss.take (i + 1)))) (looksF cf df (ss.take (i + 1))).length v H := by
  have e : looksF cf df (ss.take (i + 1)) = looksF cf df (ss.take i) ++ [lookF cf df s] := by
    unfold looksF
    rw [List.take_add_one, hx, List.filter_append, List.map_append]
    simp [isM, hk]
  rw [e, List.length_append]
  have : lksC (looksF cf df (ss.take i) ++ [lookF cf df s]) = lksC (looksF cf df (ss.take i)) ++ LkC (lookF cf df s) := by simp [lksC]
  rw [this]
  exact h
theorem looks_no {cf : Nat × Nat × Nat → Nat} {df : Nat → Nat} {ss : List St} {i : Nat} {s : St} (hx : ss[i]? = some s) (hk : ¬ s.kind = 1) : looksF cf df (ss.take (i + 1)) = looksF cf df (ss.take i) := by
  unfold looksF
  rw [List.take_add_one, hx, List.filter_append]
  simp [isM, hk]
theorem looks_len {cf : Nat × Nat × Nat → Nat} {df : Nat → Nat} {ss : List St} : (looksF cf df ss).length ≤ ss.length := by
  unfold looksF
  rw [List.length_map]
  exact List.length_filter_le _ _
theorem looks_at {cf : Nat × Nat × Nat → Nat} {df : Nat → Nat} {ss : List St} {i : Nat} {s : St} (hx : ss[i]? = some s) (hk : s.kind = 1) : (looksF cf df ss)[(looksF cf df (ss.take i)).length]? = some (lookF cf df s) := by
  have e : ss = ss.take i ++ (s :: ss.drop (i + 1)) := by
    have hi := (List.getElem?_eq_some_iff.1 hx).1
    rw [List.getElem?_eq_getElem hi] at hx
    rw [← Option.some.inj hx, List.getElem_cons_drop, List.take_append_drop]
  have h2 : looksF cf df ss = looksF cf df (ss.take i) ++ (lookF cf df s :: looksF cf df (ss.drop (i + 1))) := by
    conv => lhs; rw [e]
    unfold looksF
    rw [List.filter_append, List.map_append, List.filter_cons]
    simp [isM, hk]
  rw [h2, List.getElem?_append_right (Nat.le_refl _), Nat.sub_self]
  rfl
end Go.Proofs.YtfddkcmooommeaaGreatDoor.Gl
end
section
namespace Go.Proofs.YtfddkcmooommeaaGreatDoor.Gl
open Go.RowKit Go.Shelf
set_option linter.unusedVariables false
set_option linter.unnecessarySimpa false
set_option linter.unusedSimpArgs false
attribute [-simp] List.getD_eq_getElem?_getD
def cI (a : Int) (x y z : Nat) : Int := IntKind.i64.wrap (IntKind.i64.wrap (IntKind.i64.wrap (a + IntKind.i64.wrap (IntKind.i64.wrap (x : Int) * 100)) + IntKind.i64.wrap (IntKind.i64.wrap (y : Int) * 10)) + IntKind.i64.wrap (z : Int))
theorem spl_size {C : Array Value} {f : Nat} {v : Value} (h : f + v.cells.toList.length ≤ C.size) : (splice C f v.cells.toList).size = C.size := by
  simp only [splice, List.size_toArray, List.length_append, List.length_take, List.length_drop, Array.length_toList] at h ⊢
  omega
theorem spl_size2 {C : Array Value} {f g : Nat} {v u : Value} (h : f + v.cells.toList.length ≤ C.size) (h2 : g + u.cells.toList.length ≤ C.size) : (splice (splice C f v.cells.toList) g u.cells.toList).size = C.size := by
  rw [spl_size (by rw [spl_size h]; exact h2), spl_size h]
section
variable {s : St} {k : Nat} {df : Nat → Nat} {c : Value}
theorem look_pos (h3 : k < 3) (h : ¬ (pk s.row k).var < 0) : splice (splice (mkL c (upto k (fun i => Value.int .i64 (lv (pk s.row i))) (Value.int .i64 0)) (upto k (fun i => Value.float .f64 (df i)) (Value.float .f64 0))) (0 + 1 + k * 1) (Value.int .i64 (pk s.row k).var).cells.toList) (0 + 4 + k * 1) (Value.float .f64 (df k)).cells.toList = mkL c (upto (k + 1) (fun i => Value.int .i64 (lv (pk s.row i))) (Value.int .i64 0)) (upto (k + 1) (fun i => Value.float .f64 (df i)) (Value.float .f64 0)) := by
  rw [mkL_v h3, mkL_d h3]
  exact mkL_eq (fun i _ => upto_succ (by simp only [lv]; rw [if_neg h]) i) (fun i _ => upto_succ rfl i)
theorem look_neg (h3 : k < 3) (h : (pk s.row k).var < 0) : splice (splice (splice (mkL c (upto k (fun i => Value.int .i64 (lv (pk s.row i))) (Value.int .i64 0)) (upto k (fun i => Value.float .f64 (df i)) (Value.float .f64 0))) (0 + 1 + k * 1) (Value.int .i64 (pk s.row k).var).cells.toList) (0 + 1 + k * 1) (Value.int .i64 (-1)).cells.toList) (0 + 4 + k * 1) (Value.float .f64 (df k)).cells.toList = mkL c (upto (k + 1) (fun i => Value.int .i64 (lv (pk s.row i))) (Value.int .i64 0)) (upto (k + 1) (fun i => Value.float .f64 (df i)) (Value.float .f64 0)) := by
  rw [mkL_v h3, mkL_v h3, mkL_d h3]
  exact mkL_eq (fun i _ => (upd_upd i).trans (upto_succ (by simp only [lv]; rw [if_pos h]) i)) (fun i _ => upto_succ rfl i)
theorem look_pos0 (h3 : k < 3) (h : ¬ (pk s.row k).var < 0) : splice (mkL c (upto k (fun i => Value.int .i64 (lv (pk s.row i))) (Value.int .i64 0)) (upto k (fun i => Value.float .f64 ((fun _ => 0 : Nat → Nat) i)) (Value.float .f64 0))) (0 + 1 + k * 1) (Value.int .i64 (pk s.row k).var).cells.toList = mkL c (upto (k + 1) (fun i => Value.int .i64 (lv (pk s.row i))) (Value.int .i64 0)) (upto (k + 1) (fun i => Value.float .f64 ((fun _ => 0 : Nat → Nat) i)) (Value.float .f64 0)) := by
  rw [mkL_v h3]
  exact mkL_eq (fun i _ => upto_succ (by simp only [lv]; rw [if_neg h]) i) (fun i _ => upto_keep rfl i)
theorem look_neg0 (h3 : k < 3) (h : (pk s.row k).var < 0) : splice (splice (mkL c (upto k (fun i => Value.int .i64 (lv (pk s.row i))) (Value.int .i64 0)) (upto k (fun i => Value.float .f64 ((fun _ => 0 : Nat → Nat) i)) (Value.float .f64 0))) (0 + 1 + k * 1) (Value.int .i64 (pk s.row k).var).cells.toList) (0 + 1 + k * 1) (Value.int .i64 (-1)).cells.toList = mkL c (upto (k + 1) (fun i => Value.int .i64 (lv (pk s.row i))) (Value.int .i64 0)) (upto (k + 1) (fun i => Value.float .f64 ((fun _ => 0 : Nat → Nat) i)) (Value.float .f64 0)) := by
  rw [mkL_v h3, mkL_v h3]
  exact mkL_eq (fun i _ => (upd_upd i).trans (upto_succ (by simp only [lv]; rw [if_pos h]) i)) (fun i _ => upto_keep rfl i)
theorem ids_neg (h3 : k < 3) (h : (pk s.row k).var < 0) : splice (mk3 (upto k (fun i => Value.int .u32 (rid (pk s.row i) : Nat)) (Value.int .u32 0))) (0 + k * 1) (Value.int .u32 ((pk s.row k).id : Nat)).cells.toList = mk3 (upto (k + 1) (fun i => Value.int .u32 (rid (pk s.row i) : Nat)) (Value.int .u32 0)) := by
  rw [mk3_v h3]
  exact mk3_eq (fun i _ => upto_succ (by simp only [rid]; rw [if_pos h]) i)
theorem ids_pos (h : ¬ (pk s.row k).var < 0) : mk3 (upto k (fun i => Value.int .u32 (rid (pk s.row i) : Nat)) (Value.int .u32 0)) = mk3 (upto (k + 1) (fun i => Value.int .u32 (rid (pk s.row i) : Nat)) (Value.int .u32 0)) :=
  mk3_eq (fun i _ => upto_keep (by simp only [rid]; rw [if_neg h]; rfl) i)
end
theorem Hs.lookEq {b11 b10 : Nat} {C D C' D' : Array Value} (h : C = D) (h' : C' = D') (x : Nat × Know) (R : Hp) : Hs (x :: (b11, .exact (.cells C 68 (0, 0))) :: (b10, .exact (.cells C' 77 (0, 0))) :: R) ((b11, .exact (.cells D 68 (0, 0))) :: (b10, .exact (.cells D' 77 (0, 0))) :: R) := h ▸ h' ▸ Hs.tl x
theorem Hs.lookGj (x y z w u : Nat × Know) (H G : Hp) : Hs (x :: y :: z :: w :: (H ++ (u :: G))) (x :: G) := Hs.sub (((((List.sublist_cons_self u G).trans (List.sublist_append_right H _)).cons w |>.cons z).cons y).cons_cons x)
theorem cnt19 (w0 : World) (G : Hp) (ba : Nat) (a : Int) (x y z : Nat) (hba : (ba, Know.exact (.cells #[.int .i64 a] 3 (0, 0))) ∈ G) : GC Tryz.prog w0 19 (#[] ++ #[Value.agg [Value.int .u32 (x : Nat), Value.int .u32 (y : Nat), Value.int .u32 (z : Nat)].toArray] ++ #[.pointer (some ⟨ba, 0, none⟩)]) (fun v G' => v = .int .i64 (cI a x y z) ∧ G = G') G := by
  refine GC.body (args := [.agg [Value.int .u32 (x : Nat), Value.int .u32 (y : Nat), Value.int .u32 (z : Nat)].toArray, .pointer (some ⟨ba, 0, none⟩)]) Tryz.func19 rfl (by kernel_rfl) rfl ?_
  refine GW.seq ?_
  refine GW.region ?_
  refine R.box ⟨rfl, rfl, rfl, rfl⟩ rfl fun b2 => ?_   -- type 68
  refine R.assign ⟨rfl, rfl, rfl, rfl⟩ rfl ?_
  refine GOps.nil ?_
  refine GW.seq ?_
  refine GW.region ?_
  refine R.load1 ⟨rfl, rfl, rfl, rfl⟩ rfl Tryz.underlying3 rfl (.own' (List.mem_cons_of_mem _ hba) rfl) ?_   -- load 0 law.go:133
  refine R.indexAddrA ⟨rfl, rfl, rfl, rfl⟩ rfl rfl Tryz.underlying68 Tryz.sizeOf35 (by omega) (by omega) ?_   -- ['t2:x', '0']
  refine R.load1 ⟨rfl, rfl, rfl, rfl⟩ rfl Tryz.underlying35 rfl (.own' (by repeat (first | exact List.mem_cons_self | apply List.mem_cons_of_mem | apply List.mem_append_right)) (by rfl)) ?_   -- load 1 law.go:133 t5
  refine R.conv (r := _) ⟨rfl, rfl, rfl, rfl⟩ rfl Tryz.underlying35 Tryz.underlying3 (rfl) ?_
  refine R.mul (r := _) ⟨rfl, rfl, rfl, rfl⟩ rfl rfl (rfl) ?_   -- mul ['t7', '100']
  refine R.add (r := _) ⟨rfl, rfl, rfl, rfl⟩ rfl rfl (rfl) ?_   -- add ['t4', 't8']
  refine R.indexAddrA ⟨rfl, rfl, rfl, rfl⟩ rfl rfl Tryz.underlying68 Tryz.sizeOf35 (by omega) (by omega) ?_   -- ['t2:x', '1']
  refine R.load1 ⟨rfl, rfl, rfl, rfl⟩ rfl Tryz.underlying35 rfl (.own' (by repeat (first | exact List.mem_cons_self | apply List.mem_cons_of_mem | apply List.mem_append_right)) (by rfl)) ?_   -- load 2 law.go:133 t10
  refine R.conv (r := _) ⟨rfl, rfl, rfl, rfl⟩ rfl Tryz.underlying35 Tryz.underlying3 (rfl) ?_
  refine R.mul (r := _) ⟨rfl, rfl, rfl, rfl⟩ rfl rfl (rfl) ?_   -- mul ['t12', '10']
  refine R.add (r := _) ⟨rfl, rfl, rfl, rfl⟩ rfl rfl (rfl) ?_   -- add ['t9', 't13']
  refine R.indexAddrA ⟨rfl, rfl, rfl, rfl⟩ rfl rfl Tryz.underlying68 Tryz.sizeOf35 (by omega) (by omega) ?_   -- ['t2:x', '2']
  refine R.load1 ⟨rfl, rfl, rfl, rfl⟩ rfl Tryz.underlying35 rfl (.own' (by repeat (first | exact List.mem_cons_self | apply List.mem_cons_of_mem | apply List.mem_append_right)) (by rfl)) ?_   -- load 3 law.go:133 t15
  refine R.conv (r := _) ⟨rfl, rfl, rfl, rfl⟩ rfl Tryz.underlying35 Tryz.underlying3 (rfl) ?_
  refine R.add (r := _) ⟨rfl, rfl, rfl, rfl⟩ rfl rfl (rfl) ?_   -- add ['t14', 't17']
  refine R.assign ⟨rfl, rfl, rfl, rfl⟩ rfl ?_
  refine GOps.nil ?_
  refine GW.ret (Out.of (Res.one rfl rfl) (by first | exact Hs.refl _ | exact Hs.tl _ | exact Hs.tl2 _ _ | exact Hs.tl3 _ _ _ | exact (Hs.app _).trans (Hs.tl _) | exact (Hs.app _).trans ((Hs.app _).trans (Hs.tl _)) | exact Hs.sub (by repeat (first | exact List.Sublist.refl _ | apply List.Sublist.cons))) ⟨?_, rfl⟩)
  rfl
theorem dst21 (w0 : World) (G : Hp) (bb : Nat) (b : Int) (i : Nat) (hbb : (bb, Know.exact (.cells #[.int .i64 b] 3 (0, 0))) ∈ G) : GC Tryz.prog w0 21 (#[] ++ #[Value.int .i64 (i : Nat)] ++ #[.pointer (some ⟨bb, 0, none⟩)]) (fun v G' => v = .int .i64 (IntKind.i64.wrap (b + (i : Nat))) ∧ G = G') G := by
  refine GC.body (args := [.int .i64 (i : Nat), .pointer (some ⟨bb, 0, none⟩)]) Tryz.func21 rfl (by kernel_rfl) rfl ?_
  refine GW.seq ?_
  refine GW.region ?_
  refine R.assign ⟨rfl, rfl, rfl, rfl⟩ rfl ?_
  refine GOps.nil ?_
  refine GW.seq ?_
  refine GW.region ?_
  refine R.load1 ⟨rfl, rfl, rfl, rfl⟩ rfl Tryz.underlying3 rfl (.own' hbb rfl) ?_   -- load 0 law.go:134
  refine R.move ⟨rfl, rfl, rfl, rfl⟩ rfl ?_
  refine R.add (r := _) ⟨rfl, rfl, rfl, rfl⟩ rfl rfl (rfl) ?_   -- add ['t4', 't5']
  refine R.assign ⟨rfl, rfl, rfl, rfl⟩ rfl ?_
  refine GOps.nil ?_
  refine GW.ret (Out.of (Res.one rfl rfl) (by first | exact Hs.refl _ | exact Hs.tl _ | exact Hs.tl2 _ _ | exact Hs.tl3 _ _ _ | exact (Hs.app _).trans (Hs.tl _) | exact (Hs.app _).trans ((Hs.app _).trans (Hs.tl _)) | exact Hs.sub (by repeat (first | exact List.Sublist.refl _ | apply List.Sublist.cons))) ⟨?_, rfl⟩)
  rfl
theorem looks_nil (w0 : World) (G : Hp) (h : Rw) (As : Option Addr) (steps : List St) (cs n : Nat)  (hs : StsAt w0 G As steps) (hlen : steps.length ≤ 100000)  : GC Tryz.prog w0 20 #[.agg (planC h (.slice As steps.length cs) n).toArray, .nilFunc, .nilFunc] (fun v G' => ∃ H, SlAt 7 77 (lksC (looksF (fun _ : Nat × Nat × Nat => 0) (fun _ : Nat => 0) steps)) (looksF (fun _ : Nat × Nat × Nat => 0) (fun _ : Nat => 0) steps).length v H ∧ H ++ G = G') G := by
  refine GC.body (args := [.agg (planC h (.slice As steps.length cs) n).toArray, .nilFunc, .nilFunc]) Tryz.func20 rfl (by kernel_rfl) rfl ?_
  refine GW.seq ?_
  refine GW.region ?_
  refine R.box ⟨rfl, rfl, rfl, rfl⟩ rfl fun b3 => ?_   -- type 41
  refine R.assign ⟨rfl, rfl, rfl, rfl⟩ rfl ?_
  refine GOps.nil ?_
  refine GW.seq ?_
  refine GW.region ?_
  refine R.assign ⟨rfl, rfl, rfl, rfl⟩ rfl ?_
  refine GOps.nil ?_
  refine GW.seq ?_
  refine GW.seq ?_
  refine GW.region ?_
  refine R.fieldAddr ⟨rfl, rfl, rfl, rfl⟩ rfl Tryz.underlying41 rfl Tryz.sizeOf39 ?_   -- "Steps"
  refine R.load1 ⟨rfl, rfl, rfl, rfl⟩ rfl Tryz.underlying39 rfl (.own' (by repeat (first | exact List.mem_cons_self | apply List.mem_cons_of_mem | apply List.mem_append_right)) (by rfl)) ?_   -- load 0 plan.go:184 t14
  refine R.lenS ⟨rfl, rfl, rfl, rfl⟩ rfl rfl Tryz.underlying39 ?_
  refine R.move ⟨rfl, rfl, rfl, rfl⟩ rfl ?_
  refine GOps.nil ?_
  refine GW.block ?_
  -- LOOP: live 1:count, 2:distinct, 7:out, 15, 16, 17
  refine GW.loop4 (fun (i : Nat) (vo : Value) (Ho2 : Hp) (u1 : Unit) => [(1, .nilFunc), (2, .nilFunc), (7, vo), (15, .slice As steps.length cs), (16, .int .i64 steps.length), (17, .int .i64 i)]) (fun (i : Nat) (vo : Value) (Ho2 : Hp) (u1 : Unit) => Ho2 ++ ((b3, .exact (.cells (Value.agg (planC h (.slice As steps.length cs) n).toArray).cells 41 (0, 0))) :: G)) (fun i : Nat => steps.length - i) (fun (i : Nat) (vo : Value) (Ho2 : Hp) (u1 : Unit) => i ≤ steps.length ∧ SlAt 7 77 (lksC (looksF (fun _ : Nat × Nat × Nat => 0) (fun _ : Nat => 0) (steps.take i))) (looksF (fun _ : Nat × Nat × Nat => 0) (fun _ : Nat => 0) (steps.take i)).length vo Ho2) 0 (.slice none 0 0) ([]) (())
    (by repeat (first | exact Keeps.nil _ | refine Keeps.cons rfl ?_)) (Hs.refl _) (⟨Nat.zero_le _, .nil rfl rfl⟩) ?_
  rintro i vo Ho2 u1 ⟨hi, hO⟩
  have hol : (looksF (fun _ : Nat × Nat × Nat => 0) (fun _ : Nat => 0) (steps.take i)).length ≤ steps.length := Nat.le_trans looks_len (by rw [List.length_take]; omega)
  refine GW.seq ?_
  refine GW.region ?_
  refine R.lss ⟨rfl, rfl, rfl, rfl⟩ rfl rfl ?_   -- lss ['t17', 't16']
  refine GOps.nil ?_
  refine GW.seq ?_
  refine GW.ite rfl (fun hc1 => ?_) (fun hc1 => ?_)
  · try simp only [decide_eq_true_eq, decide_eq_false_iff_not, Bool.not_eq_true', Bool.not_eq_false'] at hc1
    obtain ⟨s, hx⟩ : ∃ s, steps[i]? = some s := ⟨_, List.getElem?_eq_getElem (by omega)⟩
    obtain ⟨sb, so, cs0, rfl, rfl, hrd⟩ := hs i s hx
    refine GW.skip ?_
    refine GW.seq ?_
    refine GW.block ?_
    refine GW.seq ?_
    refine GW.region ?_
    refine R.indexAddrS ⟨rfl, rfl, rfl, rfl⟩ rfl rfl Tryz.underlying39 Tryz.sizeOf50 (by omega) (by omega) ?_   -- ['t15', 't17']
    refine R.loadA ⟨rfl, rfl, rfl, rfl⟩ rfl Tryz.underlying50 rfl Tryz.sizeOf50 (hrd.mono (fun y hy => List.mem_append_right _ (List.mem_cons_of_mem _ hy))) (by rfl) ?_   -- load 1 plan.go:184
    refine R.alloc ⟨rfl, rfl, rfl, rfl⟩ Tryz.zeroValue50 fun b9 => ?_
    refine R.storeAll (G1 := []) rfl rfl rfl rfl rfl Tryz.sizeOf50 rfl rfl rfl rfl ?_   -- t9:s
    refine GOps.nil ?_
    refine GW.seq ?_
    refine GW.seq ?_
    refine GW.region ?_
    refine R.fieldAddr ⟨rfl, rfl, rfl, rfl⟩ rfl Tryz.underlying50 rfl Tryz.sizeOf48 ?_   -- "Kind"
    refine R.load1 ⟨rfl, rfl, rfl, rfl⟩ rfl Tryz.underlying48 rfl (.own' (by repeat (first | exact List.mem_cons_self | apply List.mem_cons_of_mem | apply List.mem_append_right)) (by rfl)) ?_   -- load 2 plan.go:185 t21
    refine R.neI ⟨rfl, rfl, rfl, rfl⟩ rfl rfl ?_   -- neq ['t22', '1']
    refine GOps.nil ?_
    refine GW.ite rfl (fun hc2 => ?_) (fun hc2 => ?_)
    · try simp only [decide_eq_true_eq, decide_eq_false_iff_not, Bool.not_eq_true', Bool.not_eq_false'] at hc2
      refine GW.exit ?_
      refine GW.region ?_
      refine R.add (r := (((i + 1) : Nat) : Int)) ⟨rfl, rfl, rfl, rfl⟩ rfl rfl (by rw [wrap64_id (by omega) (by omega)]; omega) ?_   -- add ['t17', '1']
      refine R.move ⟨rfl, rfl, rfl, rfl⟩ rfl ?_
      refine GOps.nil ?_
      first | exact ⟨i + 1, .slice A65 _ c65, H65, (), by omega, ⟨by omega, looks_yes hx (by omega) hv65⟩, rfl, by repeat (first | exact Keeps.nil _ | refine Keeps.cons rfl ?_), Hs.sub (List.sublist_append_right [_, _, _, _] _)⟩ | exact ⟨i + 1, vo, Ho2, (), by omega, ⟨by omega, by rw [looks_no hx (by omega)]; exact hO⟩, rfl, by repeat (first | exact Keeps.nil _ | refine Keeps.cons rfl ?_), Hs.tl _⟩
    · try simp only [decide_eq_true_eq, decide_eq_false_iff_not, Bool.not_eq_true', Bool.not_eq_false'] at hc2
      refine GW.skip ?_
      refine GW.seq ?_
      refine GW.region ?_
      refine R.alloc ⟨rfl, rfl, rfl, rfl⟩ Tryz.zeroValue77 fun b10 => ?_
      refine GOps.nil ?_
      refine GW.seq ?_
      refine GW.region ?_
      refine R.alloc ⟨rfl, rfl, rfl, rfl⟩ Tryz.zeroValue68 fun b11 => ?_
      refine GOps.nil ?_
      refine GW.seq ?_
      refine GW.seq ?_
      refine GW.region ?_
      refine R.fieldAddr ⟨rfl, rfl, rfl, rfl⟩ rfl Tryz.underlying50 rfl Tryz.sizeOf38 ?_   -- "Row"
      refine R.load_own (cs := RwC s.row) ⟨rfl, rfl, rfl, rfl⟩ rfl Tryz.underlying38 rfl Tryz.sizeOf38 (by repeat (first | exact List.mem_cons_self | apply List.mem_cons_of_mem | apply List.mem_append_right)) (by rfl) (by rfl) ?_   -- load 3 plan.go:190 t24
      refine R.move ⟨rfl, rfl, rfl, rfl⟩ rfl ?_
      refine GOps.nil ?_
      refine GW.block ?_
      -- LOOP: live 1:count, 2:distinct, 7:out, 10:l, 11:r, 15, 16, 17, 25, 26
      refine GW.loopI (fun k : Nat => [(1, .nilFunc), (2, .nilFunc), (7, vo), (10, .pointer (some ⟨b10, 0, none⟩)), (11, .pointer (some ⟨b11, 0, none⟩)), (15, .slice (some ⟨sb, so, none⟩) steps.length cs), (16, .int .i64 steps.length), (17, .int .i64 i), (25, .agg (RwC s.row).toArray), (26, .int .i64 k)]) (fun k => (b11, .exact (.cells (mk3 (upto k (fun i => Value.int .u32 (rid (pk s.row i) : Nat)) (Value.int .u32 0))) 68 (0, 0))) :: (b10, .exact (.cells (mkL (.float .f64 0) (upto k (fun i => Value.int .i64 (lv (pk s.row i))) (Value.int .i64 0)) (upto k (fun i => Value.float .f64 ((fun _ : Nat => 0) i)) (Value.float .f64 0))) 77 (0, 0))) :: (b9, .exact (.cells (Value.agg (StC s).toArray).cells 50 (0, 0))) :: (Ho2 ++ ((b3, .exact (.cells (Value.agg (planC h (.slice (some ⟨sb, so, none⟩) steps.length cs) n).toArray).cells 41 (0, 0))) :: G))) (fun k => 3 - k) (fun k => k ≤ 3) 0
        (by repeat (first | exact Keeps.nil _ | refine Keeps.cons rfl ?_)) (Hs.refl _) (Nat.zero_le _) ?_
      rintro k hk
      refine GW.seq ?_
      refine GW.region ?_
      refine R.lss ⟨rfl, rfl, rfl, rfl⟩ rfl rfl ?_   -- lss ['t26', '3']
      refine GOps.nil ?_
      refine GW.seq ?_
      refine GW.ite rfl (fun hc3 => ?_) (fun hc3 => ?_)
      · try simp only [decide_eq_true_eq, decide_eq_false_iff_not, Bool.not_eq_true', Bool.not_eq_false'] at hc3
        refine GW.skip ?_
        refine GW.seq ?_
        refine GW.block ?_
        refine GW.seq ?_
        refine GW.region ?_
        refine R.move ⟨rfl, rfl, rfl, rfl⟩ rfl ?_
        refine R.indexArr (es := (PlC (pk s.row k)).toArray) ⟨rfl, rfl, rfl, rfl⟩ rfl rfl Tryz.underlying38 Tryz.underlying37 rfl Tryz.sizeOf37 (by omega) (by omega) (pk_index (by omega)) ?_
        refine R.alloc ⟨rfl, rfl, rfl, rfl⟩ Tryz.zeroValue37 fun b13 => ?_
        refine R.assign ⟨rfl, rfl, rfl, rfl⟩ rfl ?_
        refine R.storeAll (G1 := []) rfl rfl rfl rfl rfl Tryz.sizeOf37 rfl rfl rfl rfl ?_   -- t13:x
        refine GOps.nil ?_
        refine GW.seq ?_
        refine GW.region ?_
        refine R.move ⟨rfl, rfl, rfl, rfl⟩ rfl ?_
        refine R.fieldAddr ⟨rfl, rfl, rfl, rfl⟩ rfl Tryz.underlying37 rfl Tryz.sizeOf3 ?_   -- "Var"
        refine R.load1 ⟨rfl, rfl, rfl, rfl⟩ rfl Tryz.underlying3 rfl (.own' (by repeat (first | exact List.mem_cons_self | apply List.mem_cons_of_mem | apply List.mem_append_right)) (by rfl)) ?_   -- load 4 plan.go:191 t31
        refine R.fieldAddr ⟨rfl, rfl, rfl, rfl⟩ rfl Tryz.underlying77 rfl Tryz.sizeOf74 ?_   -- "Vars"
        refine R.indexAddrA ⟨rfl, rfl, rfl, rfl⟩ rfl rfl Tryz.underlying74 Tryz.sizeOf3 (by omega) (by omega) ?_   -- ['t33', 't30']
        refine R.store (G1 := [_, _]) rfl rfl rfl rfl rfl Tryz.sizeOf3 rfl rfl (rfl) (by show 0 + 1 + k * 1 + 1 ≤ 7; omega) ?_   -- t34
        refine GOps.nil ?_
        refine GW.seq ?_
        refine GW.seq ?_
        refine GW.region ?_
        refine R.fieldAddr ⟨rfl, rfl, rfl, rfl⟩ rfl Tryz.underlying37 rfl Tryz.sizeOf3 ?_   -- "Var"
        refine R.load1 ⟨rfl, rfl, rfl, rfl⟩ rfl Tryz.underlying3 rfl (.own' (by repeat (first | exact List.mem_cons_self | apply List.mem_cons_of_mem | apply List.mem_append_right)) (by rfl)) ?_   -- load 5 plan.go:192 t35
        refine R.lss ⟨rfl, rfl, rfl, rfl⟩ rfl rfl ?_   -- lss ['t36', '0']
        refine GOps.nil ?_
        refine GW.ite rfl (fun hc4 => ?_) (fun hc4 => ?_)
        · try simp only [decide_eq_true_eq, decide_eq_false_iff_not, Bool.not_eq_true', Bool.not_eq_false'] at hc4
          refine GW.draw ((b13, .exact (.cells (Value.agg (PlC (pk s.row k)).toArray).cells 37 (0, 0))) :: G) 9 rfl (by kernel_rfl) ?_
          refine GA.val 0 rfl (V.move ⟨rfl, rfl, rfl, rfl⟩ rfl) rfl (by kernel_rfl) (by kernel_rfl) (by kernel_rfl) ?_
          refine GA.val 1 rfl (V.move ⟨rfl, rfl, rfl, rfl⟩ rfl) rfl (by kernel_rfl) (by kernel_rfl) (by kernel_rfl) ?_
          refine GA.val 2 rfl (V.fieldAddr ⟨rfl, rfl, rfl, rfl⟩ rfl Tryz.underlying37 rfl Tryz.sizeOf35) rfl (by kernel_rfl) (by kernel_rfl) (by kernel_rfl) ?_   -- "ID"
          refine GA.val 3 rfl (V.load1 ⟨rfl, rfl, rfl, rfl⟩ rfl Tryz.underlying35 rfl (.own' (by repeat (first | exact List.mem_cons_self | apply List.mem_cons_of_mem | apply List.mem_append_right)) (by rfl))) rfl (by kernel_rfl) (by kernel_rfl) (by kernel_rfl) ?_   -- load 6 plan.go:193 t40
          refine GA.val 4 rfl (V.fieldAddr ⟨rfl, rfl, rfl, rfl⟩ rfl Tryz.underlying77 rfl Tryz.sizeOf74) rfl (by kernel_rfl) (by kernel_rfl) (by kernel_rfl) ?_   -- "Vars"
          refine GA.val 5 rfl (V.indexAddrA ⟨rfl, rfl, rfl, rfl⟩ rfl rfl Tryz.underlying74 Tryz.sizeOf3 (by omega) (by omega)) rfl (by kernel_rfl) (by kernel_rfl) (by kernel_rfl) ?_   -- ['t42', 't38']
          refine GA.one 6 (by first | exact Hs.lookGj _ _ _ _ _ _ _ | exact Hs.refl _ | exact Hs.tl _ | exact Hs.tl2 _ _ | exact Hs.tl3 _ _ _ | exact Hs.app _ | exact Hs.sub (by simp)) (by kernel_rfl) rfl ?_
          refine R.store (G1 := [_, _]) rfl rfl rfl rfl rfl Tryz.sizeOf3 rfl rfl (rfl) (by rw [spl_size (by show 0 + 1 + k * 1 + 1 ≤ 7; omega)]; show 0 + 1 + k * 1 + 1 ≤ 7; omega) ?_   -- t43
          refine GOps.nil ?_
          refine GA.val 7 rfl (V.indexAddrA ⟨rfl, rfl, rfl, rfl⟩ rfl rfl Tryz.underlying68 Tryz.sizeOf35 (by omega) (by omega)) rfl (by kernel_rfl) (by kernel_rfl) (by kernel_rfl) ?_   -- ['t11:r', 't39']
          refine GA.one 8 (by first | exact Hs.lookGj _ _ _ _ _ _ _ | exact Hs.refl _ | exact Hs.tl _ | exact Hs.tl2 _ _ | exact Hs.tl3 _ _ _ | exact Hs.app _ | exact Hs.sub (by simp)) (by kernel_rfl) rfl ?_
          refine R.store (G1 := [_]) rfl rfl rfl rfl rfl Tryz.sizeOf35 rfl rfl (rfl) (by show 0 + k * 1 + 1 ≤ 3; omega) ?_   -- t44
          refine GOps.nil ?_
          refine GA.done (by first | exact Hs.lookGj _ _ _ _ _ _ _ | exact Hs.refl _ | exact Hs.tl _ | exact Hs.tl2 _ _ | exact Hs.tl3 _ _ _ | exact Hs.app _ | exact Hs.sub (by simp)) (by kernel_rfl) ?_
          refine GW.seq ?_
          refine GW.region ?_
          refine R.move ⟨rfl, rfl, rfl, rfl⟩ rfl ?_
          refine R.neNil ⟨rfl, rfl, rfl, rfl⟩ rfl rfl Tryz.underlying72 ?_   -- neq ['t45', 'const']
          refine GOps.nil ?_
          refine GW.cond_f rfl ?_
          refine GW.skip ?_
          refine GW.region ?_
          refine R.add (r := (((k + 1) : Nat) : Int)) ⟨rfl, rfl, rfl, rfl⟩ rfl rfl (by rw [wrap64_id (by omega) (by omega)]; omega) ?_   -- add ['t26', '1']
          refine R.move ⟨rfl, rfl, rfl, rfl⟩ rfl ?_
          refine GOps.nil ?_
          first | exact ⟨k + 1, by omega, by omega, rfl, by repeat (first | exact Keeps.nil _ | refine Keeps.cons rfl ?_), Hs.lookEq (ids_neg (by omega) (by omega)) (look_neg0 (by omega) (by omega)) _ _⟩ | exact ⟨k + 1, by omega, by omega, rfl, by repeat (first | exact Keeps.nil _ | refine Keeps.cons rfl ?_), Hs.lookEq (ids_pos (by omega)) (look_pos0 (by omega) (by omega)) _ _⟩
        · try simp only [decide_eq_true_eq, decide_eq_false_iff_not, Bool.not_eq_true', Bool.not_eq_false'] at hc4
          refine GW.skip ?_
          refine GW.seq ?_
          refine GW.region ?_
          refine R.move ⟨rfl, rfl, rfl, rfl⟩ rfl ?_
          refine R.neNil ⟨rfl, rfl, rfl, rfl⟩ rfl rfl Tryz.underlying72 ?_   -- neq ['t45', 'const']
          refine GOps.nil ?_
          refine GW.cond_f rfl ?_
          refine GW.skip ?_
          refine GW.region ?_
          refine R.add (r := (((k + 1) : Nat) : Int)) ⟨rfl, rfl, rfl, rfl⟩ rfl rfl (by rw [wrap64_id (by omega) (by omega)]; omega) ?_   -- add ['t26', '1']
          refine R.move ⟨rfl, rfl, rfl, rfl⟩ rfl ?_
          refine GOps.nil ?_
          first | exact ⟨k + 1, by omega, by omega, rfl, by repeat (first | exact Keeps.nil _ | refine Keeps.cons rfl ?_), Hs.lookEq (ids_neg (by omega) (by omega)) (look_neg0 (by omega) (by omega)) _ _⟩ | exact ⟨k + 1, by omega, by omega, rfl, by repeat (first | exact Keeps.nil _ | refine Keeps.cons rfl ?_), Hs.lookEq (ids_pos (by omega)) (look_pos0 (by omega) (by omega)) _ _⟩
      · try simp only [decide_eq_true_eq, decide_eq_false_iff_not, Bool.not_eq_true', Bool.not_eq_false'] at hc3
        obtain rfl : k = 3 := by omega
        refine GW.exit ?_
        refine GW.seq ?_
        refine GW.seq ?_
        refine GW.region ?_
        refine R.move ⟨rfl, rfl, rfl, rfl⟩ rfl ?_
        refine R.neNil ⟨rfl, rfl, rfl, rfl⟩ rfl rfl Tryz.underlying69 ?_   -- neq ['t55', 'const']
        refine GOps.nil ?_
        refine GW.cond_f rfl ?_
        refine GW.skip ?_
        refine GW.region ?_
        refine R.move ⟨rfl, rfl, rfl, rfl⟩ rfl ?_
        refine R.load_own (cs := LkC (lookF (fun _ : Nat × Nat × Nat => 0) (fun _ : Nat => 0) s)) ⟨rfl, rfl, rfl, rfl⟩ rfl Tryz.underlying77 rfl Tryz.sizeOf77 (by repeat (first | exact List.mem_cons_self | apply List.mem_cons_of_mem | apply List.mem_append_right)) (by rfl) (by rfl) ?_   -- load 7 plan.go:202 t10:l
        refine R.buildSliceF (sz := 7) (bytes := 56) (vs := [_]) (cs := LkC (lookF (fun _ : Nat × Nat × Nat => 0) (fun _ : Nat => 0) s)) ⟨rfl, rfl, rfl, rfl⟩ rfl Tryz.underlying70 (InfoE.mk (by kernel_rfl)) rfl rfl rfl rfl rfl fun b64 => ?_   -- build 0 type 70
        refine R.append (sz := 7) (bytes := 56) (G1 := [_, _, _, _]) (H := Ho2) (news := LkC (lookF (fun _ : Nat × Nat × Nat => 0) (fun _ : Nat => 0) s)) ⟨rfl, rfl, rfl, rfl⟩ rfl rfl rfl Tryz.underlying70 (InfoE.mk (by kernel_rfl)) (hO) (rfl) (rfl) (.own (by repeat (first | exact List.mem_cons_self | apply List.mem_cons_of_mem | apply List.mem_append_right | exact List.mem_append_left _ List.mem_cons_self)) 0 _ (fun j v hv => by simpa using hv)) (by omega) (by rfl) (by omega) (by omega) fun v65 H65 hv65 => ?_
        obtain ⟨A65, c65, rfl, hc65⟩ := hv65.split
        refine R.assign ⟨rfl, rfl, rfl, rfl⟩ rfl ?_
        refine GOps.nil ?_
        refine GW.region ?_
        refine R.add (r := (((i + 1) : Nat) : Int)) ⟨rfl, rfl, rfl, rfl⟩ rfl rfl (by rw [wrap64_id (by omega) (by omega)]; omega) ?_   -- add ['t17', '1']
        refine R.move ⟨rfl, rfl, rfl, rfl⟩ rfl ?_
        refine GOps.nil ?_
        first | exact ⟨i + 1, .slice A65 _ c65, H65, (), by omega, ⟨by omega, looks_yes hx (by omega) hv65⟩, rfl, by repeat (first | exact Keeps.nil _ | refine Keeps.cons rfl ?_), Hs.sub (List.sublist_append_right [_, _, _, _] _)⟩ | exact ⟨i + 1, vo, Ho2, (), by omega, ⟨by omega, by rw [looks_no hx (by omega)]; exact hO⟩, rfl, by repeat (first | exact Keeps.nil _ | refine Keeps.cons rfl ?_), Hs.tl _⟩
  · try simp only [decide_eq_true_eq, decide_eq_false_iff_not, Bool.not_eq_true', Bool.not_eq_false'] at hc1
    refine GW.exit ?_
    refine GW.seq ?_
    refine GW.region ?_
    refine R.move ⟨rfl, rfl, rfl, rfl⟩ rfl ?_
    refine R.assign ⟨rfl, rfl, rfl, rfl⟩ rfl ?_
    refine GOps.nil ?_
    rw [List.take_of_length_le (by omega)] at hO
    exact GW.ret (Out.of (Res.one rfl rfl) (Hs.app1 _ _ _) ⟨Ho2, hO, rfl⟩)
theorem looks_fn (w0 : World) (G : Hp) (h : Rw) (As : Option Addr) (steps : List St) (cs n : Nat) (a b : Int) (ba bb : Nat) (hs : StsAt w0 G As steps) (hlen : steps.length ≤ 100000) (hba : (ba, Know.exact (.cells #[.int .i64 a] 3 (0, 0))) ∈ G) (hbb : (bb, Know.exact (.cells #[.int .i64 b] 3 (0, 0))) ∈ G) : GC Tryz.prog w0 20 #[.agg (planC h (.slice As steps.length cs) n).toArray, .func (.func 19) #[] #[.pointer (some ⟨ba, 0, none⟩)], .func (.func 21) #[] #[.pointer (some ⟨bb, 0, none⟩)]] (fun v G' => ∃ H, SlAt 7 77 (lksC (looksF (fun q : Nat × Nat × Nat => flt (cI a q.1 q.2.1 q.2.2)) (fun i : Nat => flt (IntKind.i64.wrap (b + (i : Nat)))) steps)) (looksF (fun q : Nat × Nat × Nat => flt (cI a q.1 q.2.1 q.2.2)) (fun i : Nat => flt (IntKind.i64.wrap (b + (i : Nat)))) steps).length v H ∧ H ++ G = G') G := by
  refine GC.body (args := [.agg (planC h (.slice As steps.length cs) n).toArray, .func (.func 19) #[] #[.pointer (some ⟨ba, 0, none⟩)], .func (.func 21) #[] #[.pointer (some ⟨bb, 0, none⟩)]]) Tryz.func20 rfl (by kernel_rfl) rfl ?_
  refine GW.seq ?_
  refine GW.region ?_
  refine R.box ⟨rfl, rfl, rfl, rfl⟩ rfl fun b3 => ?_   -- type 41
  refine R.assign ⟨rfl, rfl, rfl, rfl⟩ rfl ?_
  refine GOps.nil ?_
  refine GW.seq ?_
  refine GW.region ?_
  refine R.assign ⟨rfl, rfl, rfl, rfl⟩ rfl ?_
  refine GOps.nil ?_
  refine GW.seq ?_
  refine GW.seq ?_
  refine GW.region ?_
  refine R.fieldAddr ⟨rfl, rfl, rfl, rfl⟩ rfl Tryz.underlying41 rfl Tryz.sizeOf39 ?_   -- "Steps"
  refine R.load1 ⟨rfl, rfl, rfl, rfl⟩ rfl Tryz.underlying39 rfl (.own' (by repeat (first | exact List.mem_cons_self | apply List.mem_cons_of_mem | apply List.mem_append_right)) (by rfl)) ?_   -- load 0 plan.go:184 t14
  refine R.lenS ⟨rfl, rfl, rfl, rfl⟩ rfl rfl Tryz.underlying39 ?_
  refine R.move ⟨rfl, rfl, rfl, rfl⟩ rfl ?_
  refine GOps.nil ?_
  refine GW.block ?_
  -- LOOP: live 1:count, 2:distinct, 7:out, 15, 16, 17
  refine GW.loop4 (fun (i : Nat) (vo : Value) (Ho2 : Hp) (u1 : Unit) => [(1, .func (.func 19) #[] #[.pointer (some ⟨ba, 0, none⟩)]), (2, .func (.func 21) #[] #[.pointer (some ⟨bb, 0, none⟩)]), (7, vo), (15, .slice As steps.length cs), (16, .int .i64 steps.length), (17, .int .i64 i)]) (fun (i : Nat) (vo : Value) (Ho2 : Hp) (u1 : Unit) => Ho2 ++ ((b3, .exact (.cells (Value.agg (planC h (.slice As steps.length cs) n).toArray).cells 41 (0, 0))) :: G)) (fun i : Nat => steps.length - i) (fun (i : Nat) (vo : Value) (Ho2 : Hp) (u1 : Unit) => i ≤ steps.length ∧ SlAt 7 77 (lksC (looksF (fun q : Nat × Nat × Nat => flt (cI a q.1 q.2.1 q.2.2)) (fun i : Nat => flt (IntKind.i64.wrap (b + (i : Nat)))) (steps.take i))) (looksF (fun q : Nat × Nat × Nat => flt (cI a q.1 q.2.1 q.2.2)) (fun i : Nat => flt (IntKind.i64.wrap (b + (i : Nat)))) (steps.take i)).length vo Ho2) 0 (.slice none 0 0) ([]) (())
    (by repeat (first | exact Keeps.nil _ | refine Keeps.cons rfl ?_)) (Hs.refl _) (⟨Nat.zero_le _, .nil rfl rfl⟩) ?_
  rintro i vo Ho2 u1 ⟨hi, hO⟩
  have hol : (looksF (fun q : Nat × Nat × Nat => flt (cI a q.1 q.2.1 q.2.2)) (fun i : Nat => flt (IntKind.i64.wrap (b + (i : Nat)))) (steps.take i)).length ≤ steps.length := Nat.le_trans looks_len (by rw [List.length_take]; omega)
  refine GW.seq ?_
  refine GW.region ?_
  refine R.lss ⟨rfl, rfl, rfl, rfl⟩ rfl rfl ?_   -- lss ['t17', 't16']
  refine GOps.nil ?_
  refine GW.seq ?_
  refine GW.ite rfl (fun hc1 => ?_) (fun hc1 => ?_)
  · try simp only [decide_eq_true_eq, decide_eq_false_iff_not, Bool.not_eq_true', Bool.not_eq_false'] at hc1
    obtain ⟨s, hx⟩ : ∃ s, steps[i]? = some s := ⟨_, List.getElem?_eq_getElem (by omega)⟩
    obtain ⟨sb, so, cs0, rfl, rfl, hrd⟩ := hs i s hx
    refine GW.skip ?_
    refine GW.seq ?_
    refine GW.block ?_
    refine GW.seq ?_
    refine GW.region ?_
    refine R.indexAddrS ⟨rfl, rfl, rfl, rfl⟩ rfl rfl Tryz.underlying39 Tryz.sizeOf50 (by omega) (by omega) ?_   -- ['t15', 't17']
    refine R.loadA ⟨rfl, rfl, rfl, rfl⟩ rfl Tryz.underlying50 rfl Tryz.sizeOf50 (hrd.mono (fun y hy => List.mem_append_right _ (List.mem_cons_of_mem _ hy))) (by rfl) ?_   -- load 1 plan.go:184
    refine R.alloc ⟨rfl, rfl, rfl, rfl⟩ Tryz.zeroValue50 fun b9 => ?_
    refine R.storeAll (G1 := []) rfl rfl rfl rfl rfl Tryz.sizeOf50 rfl rfl rfl rfl ?_   -- t9:s
    refine GOps.nil ?_
    refine GW.seq ?_
    refine GW.seq ?_
    refine GW.region ?_
    refine R.fieldAddr ⟨rfl, rfl, rfl, rfl⟩ rfl Tryz.underlying50 rfl Tryz.sizeOf48 ?_   -- "Kind"
    refine R.load1 ⟨rfl, rfl, rfl, rfl⟩ rfl Tryz.underlying48 rfl (.own' (by repeat (first | exact List.mem_cons_self | apply List.mem_cons_of_mem | apply List.mem_append_right)) (by rfl)) ?_   -- load 2 plan.go:185 t21
    refine R.neI ⟨rfl, rfl, rfl, rfl⟩ rfl rfl ?_   -- neq ['t22', '1']
    refine GOps.nil ?_
    refine GW.ite rfl (fun hc2 => ?_) (fun hc2 => ?_)
    · try simp only [decide_eq_true_eq, decide_eq_false_iff_not, Bool.not_eq_true', Bool.not_eq_false'] at hc2
      refine GW.exit ?_
      refine GW.region ?_
      refine R.add (r := (((i + 1) : Nat) : Int)) ⟨rfl, rfl, rfl, rfl⟩ rfl rfl (by rw [wrap64_id (by omega) (by omega)]; omega) ?_   -- add ['t17', '1']
      refine R.move ⟨rfl, rfl, rfl, rfl⟩ rfl ?_
      refine GOps.nil ?_
      first | exact ⟨i + 1, .slice A65 _ c65, H65, (), by omega, ⟨by omega, looks_yes hx (by omega) hv65⟩, rfl, by repeat (first | exact Keeps.nil _ | refine Keeps.cons rfl ?_), Hs.sub (List.sublist_append_right [_, _, _, _] _)⟩ | exact ⟨i + 1, vo, Ho2, (), by omega, ⟨by omega, by rw [looks_no hx (by omega)]; exact hO⟩, rfl, by repeat (first | exact Keeps.nil _ | refine Keeps.cons rfl ?_), Hs.tl _⟩
    · try simp only [decide_eq_true_eq, decide_eq_false_iff_not, Bool.not_eq_true', Bool.not_eq_false'] at hc2
      refine GW.skip ?_
      refine GW.seq ?_
      refine GW.region ?_
      refine R.alloc ⟨rfl, rfl, rfl, rfl⟩ Tryz.zeroValue77 fun b10 => ?_
      refine GOps.nil ?_
      refine GW.seq ?_
      refine GW.region ?_
      refine R.alloc ⟨rfl, rfl, rfl, rfl⟩ Tryz.zeroValue68 fun b11 => ?_
      refine GOps.nil ?_
      refine GW.seq ?_
      refine GW.seq ?_
      refine GW.region ?_
      refine R.fieldAddr ⟨rfl, rfl, rfl, rfl⟩ rfl Tryz.underlying50 rfl Tryz.sizeOf38 ?_   -- "Row"
      refine R.load_own (cs := RwC s.row) ⟨rfl, rfl, rfl, rfl⟩ rfl Tryz.underlying38 rfl Tryz.sizeOf38 (by repeat (first | exact List.mem_cons_self | apply List.mem_cons_of_mem | apply List.mem_append_right)) (by rfl) (by rfl) ?_   -- load 3 plan.go:190 t24
      refine R.move ⟨rfl, rfl, rfl, rfl⟩ rfl ?_
      refine GOps.nil ?_
      refine GW.block ?_
      -- LOOP: live 1:count, 2:distinct, 7:out, 10:l, 11:r, 15, 16, 17, 25, 26
      refine GW.loopI (fun k : Nat => [(1, .func (.func 19) #[] #[.pointer (some ⟨ba, 0, none⟩)]), (2, .func (.func 21) #[] #[.pointer (some ⟨bb, 0, none⟩)]), (7, vo), (10, .pointer (some ⟨b10, 0, none⟩)), (11, .pointer (some ⟨b11, 0, none⟩)), (15, .slice (some ⟨sb, so, none⟩) steps.length cs), (16, .int .i64 steps.length), (17, .int .i64 i), (25, .agg (RwC s.row).toArray), (26, .int .i64 k)]) (fun k => (b11, .exact (.cells (mk3 (upto k (fun i => Value.int .u32 (rid (pk s.row i) : Nat)) (Value.int .u32 0))) 68 (0, 0))) :: (b10, .exact (.cells (mkL (.float .f64 0) (upto k (fun i => Value.int .i64 (lv (pk s.row i))) (Value.int .i64 0)) (upto k (fun i => Value.float .f64 ((fun i : Nat => flt (IntKind.i64.wrap (b + (i : Nat)))) i)) (Value.float .f64 0))) 77 (0, 0))) :: (b9, .exact (.cells (Value.agg (StC s).toArray).cells 50 (0, 0))) :: (Ho2 ++ ((b3, .exact (.cells (Value.agg (planC h (.slice (some ⟨sb, so, none⟩) steps.length cs) n).toArray).cells 41 (0, 0))) :: G))) (fun k => 3 - k) (fun k => k ≤ 3) 0
        (by repeat (first | exact Keeps.nil _ | refine Keeps.cons rfl ?_)) (Hs.refl _) (Nat.zero_le _) ?_
      rintro k hk
      refine GW.seq ?_
      refine GW.region ?_
      refine R.lss ⟨rfl, rfl, rfl, rfl⟩ rfl rfl ?_   -- lss ['t26', '3']
      refine GOps.nil ?_
      refine GW.seq ?_
      refine GW.ite rfl (fun hc3 => ?_) (fun hc3 => ?_)
      · try simp only [decide_eq_true_eq, decide_eq_false_iff_not, Bool.not_eq_true', Bool.not_eq_false'] at hc3
        refine GW.skip ?_
        refine GW.seq ?_
        refine GW.block ?_
        refine GW.seq ?_
        refine GW.region ?_
        refine R.move ⟨rfl, rfl, rfl, rfl⟩ rfl ?_
        refine R.indexArr (es := (PlC (pk s.row k)).toArray) ⟨rfl, rfl, rfl, rfl⟩ rfl rfl Tryz.underlying38 Tryz.underlying37 rfl Tryz.sizeOf37 (by omega) (by omega) (pk_index (by omega)) ?_
        refine R.alloc ⟨rfl, rfl, rfl, rfl⟩ Tryz.zeroValue37 fun b13 => ?_
        refine R.assign ⟨rfl, rfl, rfl, rfl⟩ rfl ?_
        refine R.storeAll (G1 := []) rfl rfl rfl rfl rfl Tryz.sizeOf37 rfl rfl rfl rfl ?_   -- t13:x
        refine GOps.nil ?_
        refine GW.seq ?_
        refine GW.region ?_
        refine R.move ⟨rfl, rfl, rfl, rfl⟩ rfl ?_
        refine R.fieldAddr ⟨rfl, rfl, rfl, rfl⟩ rfl Tryz.underlying37 rfl Tryz.sizeOf3 ?_   -- "Var"
        refine R.load1 ⟨rfl, rfl, rfl, rfl⟩ rfl Tryz.underlying3 rfl (.own' (by repeat (first | exact List.mem_cons_self | apply List.mem_cons_of_mem | apply List.mem_append_right)) (by rfl)) ?_   -- load 4 plan.go:191 t31
        refine R.fieldAddr ⟨rfl, rfl, rfl, rfl⟩ rfl Tryz.underlying77 rfl Tryz.sizeOf74 ?_   -- "Vars"
        refine R.indexAddrA ⟨rfl, rfl, rfl, rfl⟩ rfl rfl Tryz.underlying74 Tryz.sizeOf3 (by omega) (by omega) ?_   -- ['t33', 't30']
        refine R.store (G1 := [_, _]) rfl rfl rfl rfl rfl Tryz.sizeOf3 rfl rfl (rfl) (by show 0 + 1 + k * 1 + 1 ≤ 7; omega) ?_   -- t34
        refine GOps.nil ?_
        refine GW.seq ?_
        refine GW.seq ?_
        refine GW.region ?_
        refine R.fieldAddr ⟨rfl, rfl, rfl, rfl⟩ rfl Tryz.underlying37 rfl Tryz.sizeOf3 ?_   -- "Var"
        refine R.load1 ⟨rfl, rfl, rfl, rfl⟩ rfl Tryz.underlying3 rfl (.own' (by repeat (first | exact List.mem_cons_self | apply List.mem_cons_of_mem | apply List.mem_append_right)) (by rfl)) ?_   -- load 5 plan.go:192 t35
        refine R.lss ⟨rfl, rfl, rfl, rfl⟩ rfl rfl ?_   -- lss ['t36', '0']
        refine GOps.nil ?_
        refine GW.ite rfl (fun hc4 => ?_) (fun hc4 => ?_)
        · try simp only [decide_eq_true_eq, decide_eq_false_iff_not, Bool.not_eq_true', Bool.not_eq_false'] at hc4
          refine GW.draw ((b13, .exact (.cells (Value.agg (PlC (pk s.row k)).toArray).cells 37 (0, 0))) :: G) 9 rfl (by kernel_rfl) ?_
          refine GA.val 0 rfl (V.move ⟨rfl, rfl, rfl, rfl⟩ rfl) rfl (by kernel_rfl) (by kernel_rfl) (by kernel_rfl) ?_
          refine GA.val 1 rfl (V.move ⟨rfl, rfl, rfl, rfl⟩ rfl) rfl (by kernel_rfl) (by kernel_rfl) (by kernel_rfl) ?_
          refine GA.val 2 rfl (V.fieldAddr ⟨rfl, rfl, rfl, rfl⟩ rfl Tryz.underlying37 rfl Tryz.sizeOf35) rfl (by kernel_rfl) (by kernel_rfl) (by kernel_rfl) ?_   -- "ID"
          refine GA.val 3 rfl (V.load1 ⟨rfl, rfl, rfl, rfl⟩ rfl Tryz.underlying35 rfl (.own' (by repeat (first | exact List.mem_cons_self | apply List.mem_cons_of_mem | apply List.mem_append_right)) (by rfl))) rfl (by kernel_rfl) (by kernel_rfl) (by kernel_rfl) ?_   -- load 6 plan.go:193 t40
          refine GA.val 4 rfl (V.fieldAddr ⟨rfl, rfl, rfl, rfl⟩ rfl Tryz.underlying77 rfl Tryz.sizeOf74) rfl (by kernel_rfl) (by kernel_rfl) (by kernel_rfl) ?_   -- "Vars"
          refine GA.val 5 rfl (V.indexAddrA ⟨rfl, rfl, rfl, rfl⟩ rfl rfl Tryz.underlying74 Tryz.sizeOf3 (by omega) (by omega)) rfl (by kernel_rfl) (by kernel_rfl) (by kernel_rfl) ?_   -- ['t42', 't38']
          refine GA.one 6 (by first | exact Hs.lookGj _ _ _ _ _ _ _ | exact Hs.refl _ | exact Hs.tl _ | exact Hs.tl2 _ _ | exact Hs.tl3 _ _ _ | exact Hs.app _ | exact Hs.sub (by simp)) (by kernel_rfl) rfl ?_
          refine R.store (G1 := [_, _]) rfl rfl rfl rfl rfl Tryz.sizeOf3 rfl rfl (rfl) (by rw [spl_size (by show 0 + 1 + k * 1 + 1 ≤ 7; omega)]; show 0 + 1 + k * 1 + 1 ≤ 7; omega) ?_   -- t43
          refine GOps.nil ?_
          refine GA.val 7 rfl (V.indexAddrA ⟨rfl, rfl, rfl, rfl⟩ rfl rfl Tryz.underlying68 Tryz.sizeOf35 (by omega) (by omega)) rfl (by kernel_rfl) (by kernel_rfl) (by kernel_rfl) ?_   -- ['t11:r', 't39']
          refine GA.one 8 (by first | exact Hs.lookGj _ _ _ _ _ _ _ | exact Hs.refl _ | exact Hs.tl _ | exact Hs.tl2 _ _ | exact Hs.tl3 _ _ _ | exact Hs.app _ | exact Hs.sub (by simp)) (by kernel_rfl) rfl ?_
          refine R.store (G1 := [_]) rfl rfl rfl rfl rfl Tryz.sizeOf35 rfl rfl (rfl) (by show 0 + k * 1 + 1 ≤ 3; omega) ?_   -- t44
          refine GOps.nil ?_
          refine GA.done (by first | exact Hs.lookGj _ _ _ _ _ _ _ | exact Hs.refl _ | exact Hs.tl _ | exact Hs.tl2 _ _ | exact Hs.tl3 _ _ _ | exact Hs.app _ | exact Hs.sub (by simp)) (by kernel_rfl) ?_
          refine GW.seq ?_
          refine GW.region ?_
          refine R.move ⟨rfl, rfl, rfl, rfl⟩ rfl ?_
          refine R.neFn ⟨rfl, rfl, rfl, rfl⟩ rfl rfl Tryz.underlying72 ?_   -- neq ['t45', 'const']
          refine GOps.nil ?_
          refine GW.cond_t rfl ?_
          refine GW.region ?_
          refine R.move ⟨rfl, rfl, rfl, rfl⟩ rfl ?_
          refine R.move ⟨rfl, rfl, rfl, rfl⟩ rfl ?_
          refine R.move ⟨rfl, rfl, rfl, rfl⟩ rfl ?_
          refine R.call ⟨rfl, rfl, rfl, rfl⟩ rfl (vs := [_]) rfl ((dst21 _ _ bb b k (List.mem_cons_of_mem _ (List.mem_cons_of_mem _ (List.mem_cons_of_mem _ (List.mem_cons_of_mem _ (List.mem_append_right _ (List.mem_cons_of_mem _ hbb))))))).mono ?_)
          rintro _ _ ⟨rfl, rfl⟩
          refine R.convF ⟨rfl, rfl, rfl, rfl⟩ rfl Tryz.underlying3 Tryz.underlying73 ?_
          refine R.fieldAddr ⟨rfl, rfl, rfl, rfl⟩ rfl Tryz.underlying77 rfl Tryz.sizeOf75 ?_   -- "Distinct"
          refine R.indexAddrA ⟨rfl, rfl, rfl, rfl⟩ rfl rfl Tryz.underlying75 Tryz.sizeOf73 (by omega) (by omega) ?_   -- ['t52', 't47']
          refine R.store (G1 := [_, _]) rfl rfl rfl rfl rfl Tryz.sizeOf73 rfl rfl (rfl) (by rw [spl_size2 (by show 0 + 1 + k * 1 + 1 ≤ 7; omega) (by show 0 + 1 + k * 1 + 1 ≤ 7; omega)]; show 0 + 4 + k * 1 + 1 ≤ 7; omega) ?_   -- t53
          refine GOps.nil ?_
          refine GW.region ?_
          refine R.add (r := (((k + 1) : Nat) : Int)) ⟨rfl, rfl, rfl, rfl⟩ rfl rfl (by rw [wrap64_id (by omega) (by omega)]; omega) ?_   -- add ['t26', '1']
          refine R.move ⟨rfl, rfl, rfl, rfl⟩ rfl ?_
          refine GOps.nil ?_
          first | exact ⟨k + 1, by omega, by omega, rfl, by repeat (first | exact Keeps.nil _ | refine Keeps.cons rfl ?_), Hs.lookEq (ids_neg (by omega) (by omega)) (look_neg (by omega) (by omega)) _ _⟩ | exact ⟨k + 1, by omega, by omega, rfl, by repeat (first | exact Keeps.nil _ | refine Keeps.cons rfl ?_), Hs.lookEq (ids_pos (by omega)) (look_pos (by omega) (by omega)) _ _⟩
        · try simp only [decide_eq_true_eq, decide_eq_false_iff_not, Bool.not_eq_true', Bool.not_eq_false'] at hc4
          refine GW.skip ?_
          refine GW.seq ?_
          refine GW.region ?_
          refine R.move ⟨rfl, rfl, rfl, rfl⟩ rfl ?_
          refine R.neFn ⟨rfl, rfl, rfl, rfl⟩ rfl rfl Tryz.underlying72 ?_   -- neq ['t45', 'const']
          refine GOps.nil ?_
          refine GW.cond_t rfl ?_
          refine GW.region ?_
          refine R.move ⟨rfl, rfl, rfl, rfl⟩ rfl ?_
          refine R.move ⟨rfl, rfl, rfl, rfl⟩ rfl ?_
          refine R.move ⟨rfl, rfl, rfl, rfl⟩ rfl ?_
          refine R.call ⟨rfl, rfl, rfl, rfl⟩ rfl (vs := [_]) rfl ((dst21 _ _ bb b k (List.mem_cons_of_mem _ (List.mem_cons_of_mem _ (List.mem_cons_of_mem _ (List.mem_cons_of_mem _ (List.mem_append_right _ (List.mem_cons_of_mem _ hbb))))))).mono ?_)
          rintro _ _ ⟨rfl, rfl⟩
          refine R.convF ⟨rfl, rfl, rfl, rfl⟩ rfl Tryz.underlying3 Tryz.underlying73 ?_
          refine R.fieldAddr ⟨rfl, rfl, rfl, rfl⟩ rfl Tryz.underlying77 rfl Tryz.sizeOf75 ?_   -- "Distinct"
          refine R.indexAddrA ⟨rfl, rfl, rfl, rfl⟩ rfl rfl Tryz.underlying75 Tryz.sizeOf73 (by omega) (by omega) ?_   -- ['t52', 't47']
          refine R.store (G1 := [_, _]) rfl rfl rfl rfl rfl Tryz.sizeOf73 rfl rfl (rfl) (by rw [spl_size (by show 0 + 1 + k * 1 + 1 ≤ 7; omega)]; show 0 + 4 + k * 1 + 1 ≤ 7; omega) ?_   -- t53
          refine GOps.nil ?_
          refine GW.region ?_
          refine R.add (r := (((k + 1) : Nat) : Int)) ⟨rfl, rfl, rfl, rfl⟩ rfl rfl (by rw [wrap64_id (by omega) (by omega)]; omega) ?_   -- add ['t26', '1']
          refine R.move ⟨rfl, rfl, rfl, rfl⟩ rfl ?_
          refine GOps.nil ?_
          first | exact ⟨k + 1, by omega, by omega, rfl, by repeat (first | exact Keeps.nil _ | refine Keeps.cons rfl ?_), Hs.lookEq (ids_neg (by omega) (by omega)) (look_neg (by omega) (by omega)) _ _⟩ | exact ⟨k + 1, by omega, by omega, rfl, by repeat (first | exact Keeps.nil _ | refine Keeps.cons rfl ?_), Hs.lookEq (ids_pos (by omega)) (look_pos (by omega) (by omega)) _ _⟩
      · try simp only [decide_eq_true_eq, decide_eq_false_iff_not, Bool.not_eq_true', Bool.not_eq_false'] at hc3
        obtain rfl : k = 3 := by omega
        refine GW.exit ?_
        refine GW.seq ?_
        refine GW.seq ?_
        refine GW.region ?_
        refine R.move ⟨rfl, rfl, rfl, rfl⟩ rfl ?_
        refine R.neFn ⟨rfl, rfl, rfl, rfl⟩ rfl rfl Tryz.underlying69 ?_   -- neq ['t55', 'const']
        refine GOps.nil ?_
        refine GW.cond_t rfl ?_
        refine GW.region ?_
        refine R.move ⟨rfl, rfl, rfl, rfl⟩ rfl ?_
        refine R.load_own (cs := [.int .u32 (rid s.row.p0 : Nat), .int .u32 (rid s.row.p1 : Nat), .int .u32 (rid s.row.p2 : Nat)]) ⟨rfl, rfl, rfl, rfl⟩ rfl Tryz.underlying68 rfl Tryz.sizeOf68 (by repeat (first | exact List.mem_cons_self | apply List.mem_cons_of_mem | apply List.mem_append_right)) (by rfl) (by rfl) ?_   -- load 7 plan.go:200 t11:r
        refine R.call ⟨rfl, rfl, rfl, rfl⟩ rfl (vs := [_]) rfl ((cnt19 _ _ ba a (rid s.row.p0) (rid s.row.p1) (rid s.row.p2) (List.mem_cons_of_mem _ (List.mem_cons_of_mem _ (List.mem_cons_of_mem _ (List.mem_append_right _ (List.mem_cons_of_mem _ hba)))))).mono ?_)
        rintro _ _ ⟨rfl, rfl⟩
        refine R.convF ⟨rfl, rfl, rfl, rfl⟩ rfl Tryz.underlying3 Tryz.underlying73 ?_
        refine R.fieldAddr ⟨rfl, rfl, rfl, rfl⟩ rfl Tryz.underlying77 rfl Tryz.sizeOf73 ?_   -- "Count"
        refine R.store (G1 := [_]) rfl rfl rfl rfl rfl Tryz.sizeOf73 rfl rfl (rfl) (Nat.le_of_ble_eq_true rfl) ?_   -- t61
        refine GOps.nil ?_
        refine GW.region ?_
        refine R.move ⟨rfl, rfl, rfl, rfl⟩ rfl ?_
        refine R.load_own (cs := LkC (lookF (fun q : Nat × Nat × Nat => flt (cI a q.1 q.2.1 q.2.2)) (fun i : Nat => flt (IntKind.i64.wrap (b + (i : Nat)))) s)) ⟨rfl, rfl, rfl, rfl⟩ rfl Tryz.underlying77 rfl Tryz.sizeOf77 (by repeat (first | exact List.mem_cons_self | apply List.mem_cons_of_mem | apply List.mem_append_right)) (by rfl) (by rfl) ?_   -- load 8 plan.go:202 t10:l
        refine R.buildSliceF (sz := 7) (bytes := 56) (vs := [_]) (cs := LkC (lookF (fun q : Nat × Nat × Nat => flt (cI a q.1 q.2.1 q.2.2)) (fun i : Nat => flt (IntKind.i64.wrap (b + (i : Nat)))) s)) ⟨rfl, rfl, rfl, rfl⟩ rfl Tryz.underlying70 (InfoE.mk (by kernel_rfl)) rfl rfl rfl rfl rfl fun b64 => ?_   -- build 0 type 70
        refine R.append (sz := 7) (bytes := 56) (G1 := [_, _, _, _]) (H := Ho2) (news := LkC (lookF (fun q : Nat × Nat × Nat => flt (cI a q.1 q.2.1 q.2.2)) (fun i : Nat => flt (IntKind.i64.wrap (b + (i : Nat)))) s)) ⟨rfl, rfl, rfl, rfl⟩ rfl rfl rfl Tryz.underlying70 (InfoE.mk (by kernel_rfl)) (hO) (rfl) (rfl) (.own (by repeat (first | exact List.mem_cons_self | apply List.mem_cons_of_mem | apply List.mem_append_right | exact List.mem_append_left _ List.mem_cons_self)) 0 _ (fun j v hv => by simpa using hv)) (by omega) (by rfl) (by omega) (by omega) fun v65 H65 hv65 => ?_
        obtain ⟨A65, c65, rfl, hc65⟩ := hv65.split
        refine R.assign ⟨rfl, rfl, rfl, rfl⟩ rfl ?_
        refine GOps.nil ?_
        refine GW.region ?_
        refine R.add (r := (((i + 1) : Nat) : Int)) ⟨rfl, rfl, rfl, rfl⟩ rfl rfl (by rw [wrap64_id (by omega) (by omega)]; omega) ?_   -- add ['t17', '1']
        refine R.move ⟨rfl, rfl, rfl, rfl⟩ rfl ?_
        refine GOps.nil ?_
        first | exact ⟨i + 1, .slice A65 _ c65, H65, (), by omega, ⟨by omega, looks_yes hx (by omega) hv65⟩, rfl, by repeat (first | exact Keeps.nil _ | refine Keeps.cons rfl ?_), Hs.sub (List.sublist_append_right [_, _, _, _] _)⟩ | exact ⟨i + 1, vo, Ho2, (), by omega, ⟨by omega, by rw [looks_no hx (by omega)]; exact hO⟩, rfl, by repeat (first | exact Keeps.nil _ | refine Keeps.cons rfl ?_), Hs.tl _⟩
  · try simp only [decide_eq_true_eq, decide_eq_false_iff_not, Bool.not_eq_true', Bool.not_eq_false'] at hc1
    refine GW.exit ?_
    refine GW.seq ?_
    refine GW.region ?_
    refine R.move ⟨rfl, rfl, rfl, rfl⟩ rfl ?_
    refine R.assign ⟨rfl, rfl, rfl, rfl⟩ rfl ?_
    refine GOps.nil ?_
    rw [List.take_of_length_le (by omega)] at hO
    exact GW.ret (Out.of (Res.one rfl rfl) (Hs.app1 _ _ _) ⟨Ho2, hO, rfl⟩)
end Go.Proofs.YtfddkcmooommeaaGreatDoor.Gl
end
section
namespace Go.Proofs.YtfddkcmooommeaaGreatDoor.Gl
open Go.RowKit Go.Shelf
set_option linter.unusedVariables false
set_option linter.unnecessarySimpa false
set_option linter.unusedSimpArgs false
attribute [-simp] List.getD_eq_getElem?_getD
theorem internF_room {lim : Nat} {ts : List Tm} {t : Tm} (h : ts.length < lim) : (internF lim ts t).2.1 = 0 ∧ (internF lim ts t).2.2.length ≤ ts.length + 1 := by
  unfold internF
  cases idxT ts t with
  | some n => exact ⟨rfl, Nat.le_succ _⟩
  | none =>
    simp only
    rw [if_neg (by omega)]
    exact ⟨rfl, by simp⟩
theorem placeF_room {lim : Nat} {vars : List ByteArray} {q : List Tm × Int} {s : Sl} (h : q.1.length < lim) (hb : q.2 = 0) : (placeF lim vars q s).2.2 = 0 ∧ (placeF lim vars q s).2.1.length ≤ q.1.length + 1 := by
  cases he : emp s.v with
  | false => rw [placeF_var he]; exact ⟨hb, Nat.le_succ _⟩
  | true => rw [placeF_t0 he hb]; exact internF_room h
theorem rowF_room {lim : Nat} {vars : List ByteArray} {q : List Tm × Int} {p : Pt} (h : q.1.length + 3 ≤ lim) (hb : q.2 = 0) : (rowF lim vars q p).2.2 = 0 ∧ (rowF lim vars q p).2.1.length ≤ q.1.length + 3 := by
  obtain ⟨a1, a2⟩ := placeF_room (lim := lim) (vars := vars) (s := p.s0) (show q.1.length < lim by omega) hb
  obtain ⟨b1, b2⟩ := placeF_room (lim := lim) (vars := vars) (s := p.s1) (show (placeF lim vars q p.s0).2.1.length < lim by omega) a1
  obtain ⟨c1, c2⟩ := placeF_room (lim := lim) (vars := vars) (s := p.s2) (show (placeF lim vars (placeF lim vars q p.s0).2 p.s1).2.1.length < lim by omega) b1
  exact ⟨c1, by show (placeF lim vars (placeF lim vars (placeF lim vars q p.s0).2 p.s1).2 p.s2).2.1.length ≤ _; omega⟩
theorem stepF_room {lim : Nat} {vars : List ByteArray} {q : List Tm × Int} {l : Lt} (h : q.1.length + 3 ≤ lim) (hb : q.2 = 0) : (stepF lim vars q l).2.2 = 0 ∧ (stepF lim vars q l).2.1.length ≤ q.1.length + 3 := by
  by_cases h1 : l.kind = 1
  · rw [stepF_1 h1]; exact rowF_room h hb
  by_cases h2 : l.kind = 2
  · rw [stepF_2 h1 h2]; exact rowF_room h hb
  have hab : (placeF lim vars (placeF lim vars q l.a).2 l.b).2.2 = 0 ∧ (placeF lim vars (placeF lim vars q l.a).2 l.b).2.1.length ≤ q.1.length + 3 := by
    obtain ⟨a1, a2⟩ := placeF_room (lim := lim) (vars := vars) (s := l.a) (show q.1.length < lim by omega) hb
    obtain ⟨b1, b2⟩ := placeF_room (lim := lim) (vars := vars) (s := l.b) (show (placeF lim vars q l.a).2.1.length < lim by omega) a1
    exact ⟨b1, by omega⟩
  by_cases h3 : l.kind = 3
  · rw [stepF_3 h1 h2 h3]; exact hab
  · rw [stepF_4 h1 h2 h3]; exact hab
theorem bodyStep_room {lim : Nat} {vars : List ByteArray} {a : BS} {l : Lt} (h : a.ts.length + 3 ≤ lim) (hb : a.bad = 0) : (bodyStep lim vars a l).bad = 0 ∧ (bodyStep lim vars a l).ts.length ≤ a.ts.length + 3 := by
  have hs := stepF_room (lim := lim) (vars := vars) (q := (a.ts, a.bad)) (l := l) h hb
  by_cases h1 : (stepF lim vars (a.ts, a.bad) l).1.kind = 1
  · rw [bodyStep_1 h1]; exact hs
  by_cases h2 : (stepF lim vars (a.ts, a.bad) l).1.kind = 2
  · rw [bodyStep_2 h1 h2]; exact hs
  · rw [bodyStep_3 h1 h2]; exact hs
theorem bodyTo_room {lim : Nat} {vars : List ByteArray} {ts : List Tm} {body : List Lt} (h : ts.length + 3 * body.length ≤ lim) : ∀ i, i ≤ body.length → (bodyTo lim vars ts 0 body i).bad = 0 ∧ (bodyTo lim vars ts 0 body i).ts.length ≤ ts.length + 3 * i
  | 0, _ => ⟨rfl, Nat.le_refl _⟩
  | i + 1, hi => by
    obtain ⟨h1, h2⟩ := bodyTo_room h i (by omega)
    rw [bodyTo_succ (List.getElem?_eq_getElem (show i < body.length by omega))]
    obtain ⟨h3, h4⟩ := bodyStep_room (lim := lim) (vars := vars) (l := body[i]) (show (bodyTo lim vars ts 0 body i).ts.length + 3 ≤ lim by omega) h1
    exact ⟨h3, by omega⟩
theorem planRule_room {lim : Nat} {r : Rl} {order srt : List Int} (h0 : ruleE r = 0) (h : 3 + 3 * r.body.length ≤ lim) : (planRule lim [] r order srt).e = 0 := by
  have h1 := rowF_room (lim := lim) (vars := dd (allSlots r)) (q := (([] : List Tm), (0 : Int))) (p := r.head) (by simp; omega) rfl
  have h2 : (planSteps lim (dd (allSlots r)) (rowF lim (dd (allSlots r)) ([], 0) r.head).2.1 (rowF lim (dd (allSlots r)) ([], 0) r.head).2.2 r.body order srt).2.2 = 0 := by
    show (bodyTo lim (dd (allSlots r)) (rowF lim (dd (allSlots r)) ([], 0) r.head).2.1 (rowF lim (dd (allSlots r)) ([], 0) r.head).2.2 r.body r.body.length).bad = 0
    rw [h1.1]
    exact (bodyTo_room (by have := h1.2; simp at this; omega) _ (Nat.le_refl _)).1
  rw [planRule_ok h0 h2]
def Low (s : St) : Prop := ∀ p ∈ row3 s.row, -1 ≤ p.var
theorem idxB_ge (xs : List ByteArray) (s : ByteArray) : -1 ≤ idxB xs s := by
  unfold idxB
  cases idxN xs s with
  | some n => simp only; omega
  | none => exact Int.le_refl _
theorem placeF_ge (lim : Nat) (vars : List ByteArray) (q : List Tm × Int) (s : Sl) : -1 ≤ (placeF lim vars q s).1.var := by
  cases h : emp s.v with
  | true =>
    unfold placeF
    rw [h]
    exact Int.le_refl _
  | false =>
    rw [placeF_var h]
    exact idxB_ge _ _
theorem rowF_low (lim : Nat) (vars : List ByteArray) (q : List Tm × Int) (p : Pt) : ∀ x ∈ row3 (rowF lim vars q p).1, -1 ≤ x.var := by
  intro x hx
  simp only [row3, List.mem_cons, List.not_mem_nil, or_false] at hx
  rcases hx with rfl | rfl | rfl <;> exact placeF_ge _ _ _ _
theorem zRw_low : ∀ x ∈ row3 zRw, -1 ≤ x.var := by
  intro x hx
  simp only [row3, List.mem_cons, List.not_mem_nil, or_false] at hx
  rcases hx with rfl | rfl | rfl <;> decide
theorem stepF_low (lim : Nat) (vars : List ByteArray) (q : List Tm × Int) (l : Lt) : Low (stepF lim vars q l).1 := by
  by_cases h1 : l.kind = 1
  · rw [stepF_1 h1]; exact rowF_low _ _ _ _
  by_cases h2 : l.kind = 2
  · rw [stepF_2 h1 h2]; exact rowF_low _ _ _ _
  by_cases h3 : l.kind = 3
  · rw [stepF_3 h1 h2 h3]; exact zRw_low
  · rw [stepF_4 h1 h2 h3]; exact zRw_low
theorem body_low {lim : Nat} {vars : List ByteArray} {ts : List Tm} {bad : Int} {body : List Lt} : ∀ i, i ≤ body.length → ∀ s ∈ (bodyTo lim vars ts bad body i).m ++ ((bodyTo lim vars ts bad body i).w ++ (bodyTo lim vars ts bad body i).n), Low s
  | 0, _ => fun s hs => by cases hs
  | i + 1, hi => by
    have ih := body_low (lim := lim) (vars := vars) (ts := ts) (bad := bad) (body := body) i (by omega)
    rw [bodyTo_succ (List.getElem?_eq_getElem (show i < body.length by omega))]
    generalize bodyTo lim vars ts bad body i = a at ih
    have hl := stepF_low lim vars (a.ts, a.bad) body[i]
    by_cases h1 : (stepF lim vars (a.ts, a.bad) body[i]).1.kind = 1
    · rw [bodyStep_1 h1]
      intro s hs
      simp only [List.append_assoc, List.mem_append, List.mem_singleton, List.singleton_append, List.mem_cons] at hs
      rcases hs with h | rfl | h | h
      · exact ih s (List.mem_append_left _ h)
      · exact hl
      · exact ih s (List.mem_append_right _ (List.mem_append_left _ h))
      · exact ih s (List.mem_append_right _ (List.mem_append_right _ h))
    by_cases h2 : (stepF lim vars (a.ts, a.bad) body[i]).1.kind = 2
    · rw [bodyStep_2 h1 h2]
      intro s hs
      simp only [List.mem_append, List.mem_singleton] at hs
      rcases hs with h | h | h | rfl
      · exact ih s (List.mem_append_left _ h)
      · exact ih s (List.mem_append_right _ (List.mem_append_left _ h))
      · exact ih s (List.mem_append_right _ (List.mem_append_right _ h))
      · exact hl
    · rw [bodyStep_3 h1 h2]
      intro s hs
      simp only [List.mem_append, List.mem_singleton] at hs
      rcases hs with h | (h | rfl) | h
      · exact ih s (List.mem_append_left _ h)
      · exact ih s (List.mem_append_right _ (List.mem_append_left _ h))
      · exact hl
      · exact ih s (List.mem_append_right _ (List.mem_append_right _ h))
theorem run_all {P : St → Prop} {ms : List St} (hm : ∀ s ∈ ms, P s) (hz : P zSt) {q : RS} {ord : List Int} (hw : ∀ s ∈ q.w ++ q.o, P s) : ∀ i, ∀ s ∈ (runTo ms q ord i).w ++ (runTo ms q ord i).o, P s
  | 0 => fun s hs => by
    show P s
    have hs' : s ∈ (flushR q).w ++ (flushR q).o := hs
    simp only [flushR, List.mem_append, List.mem_filter] at hs'
    rcases hs' with h | h | h
    · exact hw s (List.mem_append_left _ h.1)
    · exact hw s (List.mem_append_right _ h)
    · exact hw s (List.mem_append_left _ h.1)
  | i + 1 => by
    have ih := run_all hm hz (ord := ord) hw i
    rcases Nat.lt_or_ge i ord.length with hi | hi
    · rw [runTo_succ (List.getElem?_eq_getElem hi)]
      generalize runTo ms q ord i = a at ih
      have hg : P (ms.getD (ord[i]).toNat zSt) := by
        rcases Nat.lt_or_ge (ord[i]).toNat ms.length with h | h
        · exact hm _ (List.mem_of_getElem? (getD_some h))
        · rw [List.getD, List.getElem?_eq_none h]; exact hz
      intro s hs
      simp only [takeR, flushR, List.mem_append, List.mem_filter, List.mem_singleton] at hs
      rcases hs with h | (h | rfl) | h
      · exact ih s (List.mem_append_left _ h.1)
      · exact ih s (List.mem_append_right _ h)
      · exact hg
      · exact ih s (List.mem_append_left _ h.1)
    · have e : runTo ms q ord (i + 1) = runTo ms q ord i := by
        unfold runTo
        rw [List.take_of_length_le (by omega), List.take_of_length_le hi]
      rw [e]; exact ih
theorem planSteps_all {P : St → Prop} {lim : Nat} {vars : List ByteArray} {ts : List Tm} {bad : Int} {body : List Lt} {order srt : List Int} (hz : P zSt) (h : ∀ s ∈ (bodyTo lim vars ts bad body body.length).m ++ ((bodyTo lim vars ts bad body body.length).w ++ (bodyTo lim vars ts bad body body.length).n), P s) : ∀ s ∈ (planSteps lim vars ts bad body order srt).1, P s := fun s hs =>
  run_all (fun s hs => h s (List.mem_append_left _ hs)) hz (q := ⟨List.replicate vars.length false, (bodyTo lim vars ts bad body body.length).w ++ (bodyTo lim vars ts bad body body.length).n, []⟩) (by rw [List.append_nil]; exact fun s hs => h s (List.mem_append_right _ hs)) _ s (List.mem_append_right _ hs)
theorem planRule_low {lim : Nat} {ts : List Tm} {r : Rl} {order srt : List Int} : ∀ s ∈ (planRule lim ts r order srt).steps, Low s := by
  unfold planRule
  split
  · split
    · exact planSteps_all zRw_low (body_low _ (Nat.le_refl _))
    · intro s hs; cases hs
  · intro s hs; cases hs
theorem planRule_len {lim : Nat} {ts : List Tm} {r : Rl} {order srt : List Int} (hmem : ∀ z ∈ order, z ∈ srt) (hol : order.length ≤ 1000) (hb : r.body.length ≤ 1000) : (planRule lim ts r order srt).steps.length ≤ 5000 := by
  unfold planRule
  split
  · split
    · have hbo := BOk.all (lim := lim) (vars := dd (allSlots r)) (ts := (rowF lim (dd (allSlots r)) (ts, 0) r.head).2.1) (bad := (rowF lim (dd (allSlots r)) (ts, 0) r.head).2.2) (body := r.body) r.body.length (Nat.le_refl _)
      have hl := hbo.len
      have hr := (run_ok (ms := (bodyTo lim (dd (allSlots r)) (rowF lim (dd (allSlots r)) (ts, 0) r.head).2.1 (rowF lim (dd (allSlots r)) (ts, 0) r.head).2.2 r.body r.body.length).m) (ord := ordF (bodyTo lim (dd (allSlots r)) (rowF lim (dd (allSlots r)) (ts, 0) r.head).2.1 (rowF lim (dd (allSlots r)) (ts, 0) r.head).2.2 r.body r.body.length).m.length order srt) (nv := (dd (allSlots r)).length) (b := 2000) (q := ⟨List.replicate (dd (allSlots r)).length false, (bodyTo lim (dd (allSlots r)) (rowF lim (dd (allSlots r)) (ts, 0) r.head).2.1 (rowF lim (dd (allSlots r)) (ts, 0) r.head).2.2 r.body r.body.length).w ++ (bodyTo lim (dd (allSlots r)) (rowF lim (dd (allSlots r)) (ts, 0) r.head).2.1 (rowF lim (dd (allSlots r)) (ts, 0) r.head).2.2 r.body r.body.length).n, []⟩) ⟨by simp, fun s hs => hbo.pl s (List.mem_append_right _ hs), by simp; omega⟩ _).2 (Nat.le_refl _)
      have hol2 : (ordF (bodyTo lim (dd (allSlots r)) (rowF lim (dd (allSlots r)) (ts, 0) r.head).2.1 (rowF lim (dd (allSlots r)) (ts, 0) r.head).2.2 r.body r.body.length).m.length order srt).length ≤ 1000 := by
        unfold ordF
        split
        · exact hol
        · simp; omega
      simp only [List.length_append, List.length_nil] at hr
      show (runTo _ _ _ _).o.length ≤ 5000
      omega
    · simp
  · simp
theorem SlAt.lks {ls : List Lk} {v : Value} {H : Hp} (h : SlAt 7 77 (lksC ls) ls.length v H) : ∃ A c, v = .slice A ls.length c ∧ ∀ (w0 : World) (G : Hp), (∀ y ∈ H, y ∈ G) → ∀ i x, ls[i]? = some x → ∃ b, A = some ⟨b, 0, none⟩ ∧ Rds w0 G b (0 + i * 7) (LkC x) := by
  generalize hn : ls.length = n at h
  cases h with
  | nil h0 hc =>
    subst h0
    rw [List.length_eq_zero_iff] at hn
    subst hn
    exact ⟨none, 0, rfl, fun w0 G hs i x hx => by simp at hx⟩
  | row b cap hl hc => exact ⟨some ⟨b, 0, none⟩, cap, rfl, fun w0 G hs i x hx => ⟨b, rfl, lk_load (hs _ List.mem_cons_self) hx⟩⟩
theorem lk_v {w0 : World} {G : Hp} {b o k : Nat} {l : Lk} (h : Rds w0 G b o (LkC l)) (hk : k < 3) : Rd w0 G b (o + 1 + k * 1) (.int .i64 (l.v k)) := by
  have := h (1 + k) (.int .i64 (l.v k)) (by rcases (show k = 0 ∨ k = 1 ∨ k = 2 by omega) with rfl | rfl | rfl <;> rfl)
  rwa [show o + (1 + k) = o + 1 + k * 1 by omega] at this
theorem lk_d {w0 : World} {G : Hp} {b o k : Nat} {l : Lk} (h : Rds w0 G b o (LkC l)) (hk : k < 3) : Rd w0 G b (o + 4 + k * 1) (.float .f64 (l.d k)) := by
  have := h (4 + k) (.float .f64 (l.d k)) (by rcases (show k = 0 ∨ k = 1 ∨ k = 2 by omega) with rfl | rfl | rfl <;> rfl)
  rwa [show o + (4 + k) = o + 4 + k * 1 by omega] at this
theorem lk_c {w0 : World} {G : Hp} {b o : Nat} {l : Lk} (h : Rds w0 G b o (LkC l)) : Rd w0 G b (o + 0) (.float .f64 l.c) := h 0 _ rfl
theorem pk_load {w0 : World} {G : Hp} {b o k : Nat} {r : Rw} (h : Rds w0 G b o (RwC r)) (hk : k < 3) : Rds w0 G b (o + k * 2) (PlC (pk r k)) := pl_load (l := row3 r) h (pk_get hk)
def mN (ss : List St) (i : Nat) : Nat := ((ss.take i).filter isM).length
theorem mN_yes {ss : List St} {i : Nat} {s : St} (hx : ss[i]? = some s) (hk : s.kind = 1) : mN ss (i + 1) = mN ss i + 1 := by
  unfold mN
  rw [List.take_add_one, hx, List.filter_append]
  simp [isM, hk]
theorem mN_no {ss : List St} {i : Nat} {s : St} (hx : ss[i]? = some s) (hk : ¬ s.kind = 1) : mN ss (i + 1) = mN ss i := by
  unfold mN
  rw [List.take_add_one, hx, List.filter_append]
  simp [isM, hk]
theorem mN_all (ss : List St) (cf : Nat × Nat × Nat → Nat) (df : Nat → Nat) : (looksF cf df ss).length = mN ss ss.length := by
  unfold mN looksF
  rw [List.length_map, List.take_length]
theorem mN_at {cf : Nat × Nat × Nat → Nat} {df : Nat → Nat} {ss : List St} {i : Nat} {s : St} (hx : ss[i]? = some s) (hk : s.kind = 1) : (looksF cf df ss)[mN ss i]? = some (lookF cf df s) := by
  have := looks_at (cf := cf) (df := df) hx hk
  unfold looksF at this ⊢
  rw [List.length_map] at this
  exact this
theorem mN_le (ss : List St) (i : Nat) : mN ss i ≤ i := by
  have := List.length_filter_le isM (ss.take i)
  rw [List.length_take] at this
  unfold mN
  omega
theorem low_lv {s : St} (h : Low s) {k : Nat} (hk : k < 3) : lv (pk s.row k) = (pk s.row k).var := by
  have := h (pk s.row k) (List.mem_of_getElem? (pk_get hk))
  unfold lv
  split <;> omega
end Go.Proofs.YtfddkcmooommeaaGreatDoor.Gl
end
