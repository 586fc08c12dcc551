import Derived.Test.YtgjmandjhjfgkaaDoorS16
import Derived.Test.YtgjmandjhjfgkaaDoorGw
namespace Go.Proofs.YtgjmandjhjfgkaaDoor.Gl
open Go.RowKit Go.Shelf
set_option linter.unusedVariables false
set_option linter.unnecessarySimpa false
set_option linter.unusedSimpArgs false
attribute [-simp] List.getD_eq_getElem?_getD



/-! ### plain: the places of a rule -/
def hdL (r : Rl) : List (Int × Sl) := [(-1, r.head.s0), (-1, r.head.s1), (-1, r.head.s2)]
def plFrom (i : Nat) : List Lt → List (Int × Sl)
  | [] => []
  | l :: ls => (slotsOf l).map (fun s => ((i : Int), s)) ++ plFrom (i + 1) ls
def placesL (r : Rl) : List (Int × Sl) := hdL r ++ plFrom 0 r.body
def offs (r : Rl) (i : Nat) : Nat := 3 + ((r.body.take i).flatMap slotsOf).length
theorem offs_succ {r : Rl} {i : Nat} {x : Lt} (h : r.body[i]? = some x) : offs r (i + 1) = offs r i + (slotsOf x).length := by
  unfold offs
  rw [List.take_add_one, h]
  simp
  omega
theorem plFrom_get : ∀ (ls : List Lt) (n i k : Nat) (x : Lt) (s : Sl), ls[i]? = some x → (slotsOf x)[k]? = some s → (plFrom n ls)[((ls.take i).flatMap slotsOf).length + k]? = some (((n + i : Nat) : Int), s)
  | [], n, i, k, x, s, h, _ => by simp at h
  | l :: ls, n, 0, k, x, s, h, hk => by
    simp at h
    subst h
    have hlt : k < (slotsOf l).length := (List.getElem?_eq_some_iff.1 hk).1
    simp only [List.take_zero, List.flatMap_nil, List.length_nil, Nat.zero_add, plFrom, Nat.add_zero]
    rw [List.getElem?_append_left (by simpa using hlt), List.getElem?_map, hk]
    rfl
  | l :: ls, n, i + 1, k, x, s, h, hk => by
    have ih := plFrom_get ls (n + 1) i k x s (by simpa using h) hk
    simp only [List.take_succ_cons, List.flatMap_cons, List.length_append, plFrom]
    rw [List.getElem?_append_right (by simp; omega)]
    have e : (slotsOf l).length + ((ls.take i).flatMap slotsOf).length + k - ((slotsOf l).map (fun s => ((n : Int), s))).length = ((ls.take i).flatMap slotsOf).length + k := by simp; omega
    rw [e, ih, show n + 1 + i = n + (i + 1) by omega]
theorem places_body {r : Rl} {i k : Nat} {x : Lt} {s : Sl} (hx : r.body[i]? = some x) (hs : (slotsOf x)[k]? = some s) : (placesL r)[offs r i + k]? = some ((i : Int), s) := by
  have := plFrom_get r.body 0 i k x s hx hs
  unfold placesL offs
  rw [List.getElem?_append_right (by simp [hdL]; omega), show 3 + ((r.body.take i).flatMap slotsOf).length + k - (hdL r).length = ((r.body.take i).flatMap slotsOf).length + k by simp [hdL]; omega, this]
  simp
theorem places_head {r : Rl} {k : Nat} (hk : k < 3) : ∃ s, (placesL r)[k]? = some (-1, s) ∧ (PtC r.head).toArray.extract (k * 4) (k * 4 + 4) = (SlC s).toArray := by
  rcases (by omega : k = 0 ∨ k = 1 ∨ k = 2) with rfl | rfl | rfl
  · exact ⟨_, rfl, rfl⟩
  · exact ⟨_, rfl, rfl⟩
  · exact ⟨_, rfl, rfl⟩
theorem places_len (r : Rl) : (placesL r).length = offs r r.body.length := by
  have h : ∀ (ls : List Lt) (n : Nat), (plFrom n ls).length = (ls.flatMap slotsOf).length := by
    intro ls
    induction ls with
    | nil => intro n; rfl
    | cons l ls ih => intro n; simp [plFrom, ih]
  unfold placesL offs
  rw [List.length_append, h, List.take_length]
  rfl
theorem lit_pat {x : Lt} {k : Nat} (hk : k < 3) (h : x.kind = 1 ∨ x.kind = 2) : ∃ s, (slotsOf x)[k]? = some s ∧ ∀ j v, (SlC s)[j]? = some v → (LtC x)[1 + k * 4 + j]? = some v := by
  rw [slotsOf_t h]
  have hj : ∀ (s : Sl) (j : Nat) (v : Value), (SlC s)[j]? = some v → j < 4 := fun s j v h => (List.getElem?_eq_some_iff.1 h).1
  rcases (by omega : k = 0 ∨ k = 1 ∨ k = 2) with rfl | rfl | rfl
  all_goals
    refine ⟨_, rfl, fun j v hv => ?_⟩
    have := hj _ j v hv
    rcases (by omega : j = 0 ∨ j = 1 ∨ j = 2 ∨ j = 3) with rfl | rfl | rfl | rfl <;> exact hv
theorem lit_ab {x : Lt} {k : Nat} (hk : k < 2) (h : ¬ x.kind = 1) (h2 : ¬ x.kind = 2) : ∃ s, (slotsOf x)[k]? = some s ∧ ∀ j v, (SlC s)[j]? = some v → (SlC x.a ++ SlC x.b)[k * 4 + j]? = some v := by
  rw [slotsOf_f h h2]
  have hj : ∀ (s : Sl) (j : Nat) (v : Value), (SlC s)[j]? = some v → j < 4 := fun s j v h => (List.getElem?_eq_some_iff.1 h).1
  rcases (by omega : k = 0 ∨ k = 1) with rfl | rfl
  all_goals
    refine ⟨_, rfl, fun j v hv => ?_⟩
    have := hj _ j v hv
    rcases (by omega : j = 0 ∨ j = 1 ∨ j = 2 ∨ j = 3) with rfl | rfl | rfl | rfl <;> exact hv
/-- More is known than before, behind whatever else. -/
def Ext (F F' : Hp) : Prop := (∀ y ∈ F, y ∈ F') ∧ ∀ L : Hp, Hs (L ++ F') (L ++ F)
theorem Ext.refl (F : Hp) : Ext F F := ⟨fun _ h => h, fun _ => Hs.refl _⟩
theorem Ext.cons {F F' : Hp} (h : Ext F F') (x : Nat × Know) : Ext F (x :: F') := ⟨fun y hy => List.mem_cons_of_mem _ (h.1 y hy), fun L => (Hs.sub (List.Sublist.append (List.Sublist.refl _) (List.sublist_cons_self x F'))).trans (h.2 L)⟩
theorem cast1 {σ : Type} {I : Nat → σ → Prop} {a b : Nat} {x : σ} (h : I a x) (e : a = b) : I b x := e ▸ h
theorem rl_head {w0 : World} {G : Hp} {b o : Nat} {p : Pt} {v : Value} (h : Rds w0 G b o (RlC p v)) : Rds w0 G b o (PtC p) := fun j u hu => h j u (by
  have e : RlC p v = PtC p ++ [v] := rfl
  rw [e, List.getElem?_append_left (List.getElem?_eq_some_iff.1 hu).1]
  exact hu)
theorem Hs.midL (L : Hp) (x : Nat × Know) (F : Hp) : Hs (x :: (L ++ F)) (L ++ (x :: F)) := Hs.perm List.perm_middle
theorem own_slot {w0 : World} {G : Hp} {b o k : Nat} {C : List Value} {e : TypeId} {z : Nat × Nat} {s : Sl} (hm : (b, Know.exact (.cells C.toArray e z)) ∈ G) (h : ∀ j v, (SlC s)[j]? = some v → C[o + k * 4 + j]? = some v) : Rds w0 G b (o + (k : Int).toNat * 4) (SlC s) :=
  .own hm _ _ (fun j v hv => by simpa using h j v hv)


theorem check_places (w0 : World) (G : Hp) (r : Rl) (A : Option Addr) (c : Nat) : GC Tryd.prog w0 20 #[.agg (RlC r.head (.slice A r.body.length c)).toArray] (fun v G' => ∃ b, v = .func (.func 30) #[] #[.pointer (some ⟨b, 0, none⟩)] ∧ (b, .exact (.cells (RlC r.head (.slice A r.body.length c)).toArray 46 (0, 0))) :: G = G') G := by
  refine GC.body (args := [.agg (RlC r.head (.slice A r.body.length c)).toArray]) Tryd.func20 rfl (by kernel_rfl) rfl ?_
  refine GW.seq ?_
  refine GW.region ?_
  refine R.box ⟨rfl, rfl, rfl, rfl⟩ rfl fun b1 => ?_   -- type 46
  refine R.assign ⟨rfl, rfl, rfl, rfl⟩ rfl ?_
  refine GOps.nil ?_
  refine GW.seq ?_
  refine GW.region ?_
  refine R.makeFunc (vs := []) (us := [_]) ⟨rfl, rfl, rfl, rfl⟩ rfl rfl ?_
  refine R.assign ⟨rfl, rfl, rfl, rfl⟩ rfl ?_
  refine GOps.nil ?_
  exact GW.ret (Out.of (Res.one rfl rfl) (Hs.refl _) ⟨_, rfl, rfl⟩)

theorem places1 {σ : Type} (w0 : World) (l bR : Nat) (r : Rl) (A : Option Addr) (c : Nat) (L : σ → Hp) (I : Nat → σ → Prop) (S : Hp → Prop) (F : Hp) (x0 : σ) (hm : r.body.length ≤ 1048576)
    (hR : ∀ x, Rds w0 (L x) bR 0 (RlC r.head (.slice A r.body.length c))) (hl : LtsAt w0 F A r.body) (h0 : I 0 x0)
    (hy : ∀ F' j x i s, Ext F F' → I j x → (placesL r)[j]? = some (i, s) → GY Tryd.prog w0 l [.int .i64 i, .agg (SlC s).toArray] (fun v G' => (v = .bool true ∧ ∃ x', I (j + 1) x' ∧ L x' ++ F' = G') ∨ (v = .bool false ∧ S G')) (L x ++ F')) :
    GC Tryd.prog w0 30 #[.func (.yield l) #[] #[], .pointer (some ⟨bR, 0, none⟩)] (fun v G' => (∃ x F', I (placesL r).length x ∧ Ext F F' ∧ L x ++ F' = G') ∨ S G') (L x0 ++ F) := by
  refine GC.body (args := [.func (.yield l) #[] #[], .pointer (some ⟨bR, 0, none⟩)]) Tryd.func30 rfl (by kernel_rfl) rfl ?_
  refine GW.seq ?_
  refine GW.seq ?_
  refine GW.region ?_
  refine R.fieldAddr ⟨rfl, rfl, rfl, rfl⟩ rfl Tryd.underlying46 rfl Tryd.sizeOf40 ?_   -- "Head"
  refine R.loadA ⟨rfl, rfl, rfl, rfl⟩ rfl Tryd.underlying40 rfl Tryd.sizeOf40 (rl_head (Rds.mono (fun y h => List.mem_append_left _ h) (hR x0))) (by rfl) ?_   -- load 0 check.go:15
  refine R.move ⟨rfl, rfl, rfl, rfl⟩ rfl ?_
  refine GOps.nil ?_
  refine GW.block ?_
  -- LOOP: live 0:yield, 1, 11, 12
  refine GW.loop4 (fun (k : Nat) (x : σ) (F' : Hp) (u1 : Unit) => [(0, .func (.yield l) #[] #[]), (1, .pointer (some ⟨bR, 0, none⟩)), (11, .agg (PtC r.head).toArray), (12, .int .i64 k)]) (fun (k : Nat) (x : σ) (F' : Hp) (u1 : Unit) => L x ++ F') (fun k : Nat => 3 - k) (fun (k : Nat) (x : σ) (F' : Hp) (u1 : Unit) => k ≤ 3 ∧ I k x ∧ Ext F F') 0 (x0) (F) (())
    (by repeat (first | exact Keeps.nil _ | refine Keeps.cons rfl ?_)) (Hs.refl _) (⟨by omega, h0, Ext.refl F⟩) ?_
  rintro k x F' u1 ⟨hk, hI, hF⟩
  refine GW.seq ?_
  refine GW.region ?_
  refine R.lss ⟨rfl, rfl, rfl, rfl⟩ rfl rfl ?_   -- lss ['t12', '3']
  refine GOps.nil ?_
  refine GW.seq ?_
  refine GW.ite rfl (fun hc1 => ?_) (fun hc1 => ?_)
  · try simp only [decide_eq_true_eq, decide_eq_false_iff_not, Bool.not_eq_true', Bool.not_eq_false'] at hc1
    obtain ⟨s, hs, hse⟩ := places_head (r := r) (k := k) (by omega)
    refine GW.skip ?_
    refine GW.seq ?_
    refine GW.block ?_
    refine GW.seq ?_
    refine GW.region ?_
    refine R.indexArr (es := (SlC s).toArray) ⟨rfl, rfl, rfl, rfl⟩ rfl rfl Tryd.underlying40 Tryd.underlying37 rfl Tryd.sizeOf37 (by omega) (by omega) (hse) ?_
    refine R.alloc ⟨rfl, rfl, rfl, rfl⟩ Tryd.zeroValue37 fun b4 => ?_
    refine R.storeAll (G1 := []) rfl rfl rfl rfl rfl Tryd.sizeOf37 rfl rfl rfl rfl ?_   -- t4:s
    refine GOps.nil ?_
    refine GW.seq ?_
    refine GW.region ?_
    refine R.move ⟨rfl, rfl, rfl, rfl⟩ rfl ?_
    refine R.load_own (cs := SlC s) ⟨rfl, rfl, rfl, rfl⟩ rfl Tryd.underlying37 rfl Tryd.sizeOf37 (by repeat (first | exact List.mem_cons_self | apply List.mem_cons_of_mem | apply List.mem_append_right)) (by rfl) (by rfl) ?_   -- load 1 check.go:16 t4:s
    refine R.yield ⟨rfl, rfl, rfl, rfl⟩ rfl (vs := [_, _]) rfl ((GY.weak (Hs.tl _) (hy F' k x (-1) s hF hI hs)).mono ?_)
    rintro v G2 (⟨rfl, x', hI', rfl⟩ | ⟨rfl, hS⟩)
    · refine R.not ⟨rfl, rfl, rfl, rfl⟩ rfl ?_
      refine GOps.nil ?_
      refine GW.cond_f rfl ?_
      refine GW.skip ?_
      refine GW.region ?_
      refine R.add (r := (((k + 1) : Nat) : Int)) ⟨rfl, rfl, rfl, rfl⟩ rfl rfl (by rw [wrap64_id (by omega) (by omega)]; omega) ?_   -- add ['t12', '1']
      refine R.move ⟨rfl, rfl, rfl, rfl⟩ rfl ?_
      refine GOps.nil ?_
      exact ⟨k + 1, x', F', (), by omega, ⟨by omega, hI', hF⟩, rfl, by repeat (first | exact Keeps.nil _ | refine Keeps.cons rfl ?_), by first | exact Hs.refl _ | exact Hs.tl _ | exact Hs.tl2 _ _⟩
    · refine R.not ⟨rfl, rfl, rfl, rfl⟩ rfl ?_
      refine GOps.nil ?_
      refine GW.cond_t rfl ?_
      exact GW.ret (Out.of (Res.none rfl) (Hs.refl _) (.inr hS))
  · try simp only [decide_eq_true_eq, decide_eq_false_iff_not, Bool.not_eq_true', Bool.not_eq_false'] at hc1
    refine GW.exit ?_
    refine GW.seq ?_
    refine GW.region ?_
    refine R.fieldAddr ⟨rfl, rfl, rfl, rfl⟩ rfl Tryd.underlying46 rfl Tryd.sizeOf44 ?_   -- "Body"
    refine R.load1 ⟨rfl, rfl, rfl, rfl⟩ rfl Tryd.underlying44 rfl (Rd.mono (fun y h => List.mem_append_left _ h) ((hR x) 12 _ rfl)) ?_   -- load 2 check.go:20
    refine R.lenS ⟨rfl, rfl, rfl, rfl⟩ rfl rfl Tryd.underlying44 ?_
    refine R.move ⟨rfl, rfl, rfl, rfl⟩ rfl ?_
    refine GOps.nil ?_
    refine GW.block ?_
    -- LOOP: live 0:yield, 21, 22, 23
    refine GW.loop4 (fun (i : Nat) (x : σ) (F' : Hp) (u1 : Unit) => [(0, .func (.yield l) #[] #[]), (21, .slice A r.body.length c), (22, .int .i64 r.body.length), (23, .int .i64 i)]) (fun (i : Nat) (x : σ) (F' : Hp) (u1 : Unit) => L x ++ F') (fun i : Nat => r.body.length - i) (fun (i : Nat) (x : σ) (F' : Hp) (u1 : Unit) => i ≤ r.body.length ∧ I (offs r i) x ∧ Ext F F') 0 (x) (F') (())
      (by repeat (first | exact Keeps.nil _ | refine Keeps.cons rfl ?_)) (Hs.refl _) (⟨by omega, cast1 hI (by show k = 3; omega), hF⟩) ?_
    rintro i x F' u1 ⟨hi, hI, hF⟩
    refine GW.seq ?_
    refine GW.region ?_
    refine R.lss ⟨rfl, rfl, rfl, rfl⟩ rfl rfl ?_   -- lss ['t23', 't22']
    refine GOps.nil ?_
    refine GW.seq ?_
    refine GW.ite rfl (fun hc2 => ?_) (fun hc2 => ?_)
    · try simp only [decide_eq_true_eq, decide_eq_false_iff_not, Bool.not_eq_true', Bool.not_eq_false'] at hc2
      obtain ⟨y, hyb⟩ : ∃ y, r.body[i]? = some y := ⟨_, List.getElem?_eq_getElem (by omega)⟩
      obtain ⟨bb, oo, cs, rfl, rfl, hrd⟩ := hl i y hyb
      refine GW.skip ?_
      refine GW.seq ?_
      refine GW.block ?_
      refine GW.seq ?_
      refine GW.region ?_
      refine R.move ⟨rfl, rfl, rfl, rfl⟩ rfl ?_
      refine R.indexAddrS ⟨rfl, rfl, rfl, rfl⟩ rfl rfl Tryd.underlying44 Tryd.sizeOf43 (by omega) (by omega) ?_   -- ['t21', 't23']
      refine R.loadA ⟨rfl, rfl, rfl, rfl⟩ rfl Tryd.underlying43 rfl Tryd.sizeOf43 (Rds.mono (fun z h => List.mem_append_right _ (hF.1 z h)) hrd) (by rfl) ?_   -- load 3 check.go:20
      refine R.alloc ⟨rfl, rfl, rfl, rfl⟩ Tryd.zeroValue43 fun b6 => ?_
      refine R.assign ⟨rfl, rfl, rfl, rfl⟩ rfl ?_
      refine R.storeAll (G1 := []) rfl rfl rfl rfl rfl Tryd.sizeOf43 rfl rfl rfl rfl ?_   -- t6:l
      refine GOps.nil ?_
      refine GW.seq ?_
      refine GW.region ?_
      refine R.fieldAddr ⟨rfl, rfl, rfl, rfl⟩ rfl Tryd.underlying43 rfl Tryd.sizeOf40 ?_   -- "Pattern"
      refine R.sliceArr ⟨rfl, rfl, rfl, rfl⟩ rfl Tryd.underlying40 Tryd.sizeOf37 ?_
      refine R.assign ⟨rfl, rfl, rfl, rfl⟩ rfl ?_
      refine GOps.nil ?_
      refine GW.seq ?_
      refine GW.seq ?_
      refine GW.region ?_
      refine R.fieldAddr ⟨rfl, rfl, rfl, rfl⟩ rfl Tryd.underlying43 rfl Tryd.sizeOf41 ?_   -- "Kind"
      refine R.load1 ⟨rfl, rfl, rfl, rfl⟩ rfl Tryd.underlying41 rfl (.own' (by repeat (first | exact List.mem_cons_self | apply List.mem_cons_of_mem | apply List.mem_append_right)) (by rfl)) ?_   -- load 4 check.go:22 t30
      refine R.neI ⟨rfl, rfl, rfl, rfl⟩ rfl rfl ?_   -- neq ['t31', '1']
      refine R.move ⟨rfl, rfl, rfl, rfl⟩ rfl ?_
      refine GOps.caseB 33 rfl (fun hg3 => ?_) (fun hg3 => ?_)
      · try simp only [decide_eq_true_eq, decide_eq_false_iff_not, Bool.not_eq_true', Bool.not_eq_false'] at hg3
        refine R.fieldAddr ⟨rfl, rfl, rfl, rfl⟩ rfl Tryd.underlying43 rfl Tryd.sizeOf41 ?_   -- "Kind"
        refine R.load1 ⟨rfl, rfl, rfl, rfl⟩ rfl Tryd.underlying41 rfl (.own' (by repeat (first | exact List.mem_cons_self | apply List.mem_cons_of_mem | apply List.mem_append_right)) (by rfl)) ?_   -- load 5 check.go:22 t34
        refine R.neI ⟨rfl, rfl, rfl, rfl⟩ rfl rfl ?_   -- neq ['t35', '2']
        refine R.pick_t ⟨rfl, rfl, rfl, rfl⟩ rfl rfl ?_
        refine GOps.nil ?_
        refine GW.ite rfl (fun hc4 => ?_) (fun hc4 => ?_)
        · try simp only [decide_eq_true_eq, decide_eq_false_iff_not, Bool.not_eq_true', Bool.not_eq_false'] at hc4
          refine GW.region ?_
          refine R.fieldAddr ⟨rfl, rfl, rfl, rfl⟩ rfl Tryd.underlying43 rfl Tryd.sizeOf37 ?_   -- "A"
          refine R.load_own (cs := SlC y.a) ⟨rfl, rfl, rfl, rfl⟩ rfl Tryd.underlying37 rfl Tryd.sizeOf37 (by repeat (first | exact List.mem_cons_self | apply List.mem_cons_of_mem | apply List.mem_append_right)) (by rfl) (by rfl) ?_   -- load 6 check.go:23 t38
          refine R.fieldAddr ⟨rfl, rfl, rfl, rfl⟩ rfl Tryd.underlying43 rfl Tryd.sizeOf37 ?_   -- "B"
          refine R.load_own (cs := SlC y.b) ⟨rfl, rfl, rfl, rfl⟩ rfl Tryd.underlying37 rfl Tryd.sizeOf37 (by repeat (first | exact List.mem_cons_self | apply List.mem_cons_of_mem | apply List.mem_append_right)) (by rfl) (by rfl) ?_   -- load 7 check.go:23 t40
          refine R.buildSliceF (sz := 4) (bytes := 56) (vs := [_, _]) (cs := [_, _, _, _, _, _, _, _]) ⟨rfl, rfl, rfl, rfl⟩ rfl Tryd.underlying68 (InfoE.mk (by kernel_rfl)) rfl rfl rfl rfl rfl fun b42 => ?_   -- build 0 type 68
          refine R.assign ⟨rfl, rfl, rfl, rfl⟩ rfl ?_
          refine GOps.nil ?_
          refine GW.seq ?_
          refine GW.region ?_
          refine R.move ⟨rfl, rfl, rfl, rfl⟩ rfl ?_
          refine R.lenS ⟨rfl, rfl, rfl, rfl⟩ rfl rfl Tryd.underlying68 ?_
          refine R.move ⟨rfl, rfl, rfl, rfl⟩ rfl ?_
          refine GOps.nil ?_
          refine GW.block ?_
          -- LOOP: live 0:yield, 5:i, 21, 22, 23, 43, 44, 45
          refine GW.loop4 (fun (k : Nat) (x : σ) (F' : Hp) (u1 : Unit) => [(0, .func (.yield l) #[] #[]), (5, .int .i64 i), (21, .slice (some ⟨bb, oo, none⟩) r.body.length c), (22, .int .i64 r.body.length), (23, .int .i64 i), (43, .slice (some ⟨b42, 0, none⟩) 2 2), (44, .int .i64 2), (45, .int .i64 k)]) (fun (k : Nat) (x : σ) (F' : Hp) (u1 : Unit) => L x ++ F') (fun k : Nat => 2 - k) (fun (k : Nat) (x : σ) (F' : Hp) (u1 : Unit) => k ≤ 2 ∧ I (offs r i + k) x ∧ (b42, Know.exact (.cells (SlC y.a ++ SlC y.b).toArray 37 (0, 0))) ∈ F' ∧ Ext F F') 0 (x) ((b42, .exact (.cells (SlC y.a ++ SlC y.b).toArray 37 (0, 0))) :: F') (())
            (by repeat (first | exact Keeps.nil _ | refine Keeps.cons rfl ?_)) ((Hs.swapDrop _ _ _).trans (Hs.midL _ _ _)) (⟨by omega, hI, List.mem_cons_self, hF.cons _⟩) ?_
          rintro k x F' u1 ⟨hk, hI, hmem, hF⟩
          refine GW.seq ?_
          refine GW.region ?_
          refine R.lss ⟨rfl, rfl, rfl, rfl⟩ rfl rfl ?_   -- lss ['t45', 't44']
          refine GOps.nil ?_
          refine GW.seq ?_
          refine GW.ite rfl (fun hc5 => ?_) (fun hc5 => ?_)
          · try simp only [decide_eq_true_eq, decide_eq_false_iff_not, Bool.not_eq_true', Bool.not_eq_false'] at hc5
            obtain ⟨s, hs, hsc⟩ := lit_ab (x := y) (k := k) (by omega) (by omega) (by omega)
            refine GW.skip ?_
            refine GW.seq ?_
            refine GW.block ?_
            refine GW.seq ?_
            refine GW.region ?_
            refine R.indexAddrS ⟨rfl, rfl, rfl, rfl⟩ rfl rfl Tryd.underlying68 Tryd.sizeOf37 (by omega) (by omega) ?_   -- ['t43', 't45']
            refine R.loadA ⟨rfl, rfl, rfl, rfl⟩ rfl Tryd.underlying37 rfl Tryd.sizeOf37 (by first | exact own_slot (o := 0) (List.mem_append_right _ hmem) (fun j v hv => by simpa using hsc j v hv) | exact own_slot (o := 1) (List.mem_append_right _ hmem) hsc) (by rfl) ?_   -- load 8 check.go:25
            refine R.alloc ⟨rfl, rfl, rfl, rfl⟩ Tryd.zeroValue37 fun b9 => ?_
            refine R.storeAll (G1 := []) rfl rfl rfl rfl rfl Tryd.sizeOf37 rfl rfl rfl rfl ?_   -- t9:s
            refine GOps.nil ?_
            refine GW.seq ?_
            refine GW.region ?_
            refine R.move ⟨rfl, rfl, rfl, rfl⟩ rfl ?_
            refine R.move ⟨rfl, rfl, rfl, rfl⟩ rfl ?_
            refine R.load_own (cs := SlC s) ⟨rfl, rfl, rfl, rfl⟩ rfl Tryd.underlying37 rfl Tryd.sizeOf37 (by repeat (first | exact List.mem_cons_self | apply List.mem_cons_of_mem | apply List.mem_append_right)) (by rfl) (by rfl) ?_   -- load 9 check.go:26 t9:s
            refine R.yield ⟨rfl, rfl, rfl, rfl⟩ rfl (vs := [_, _]) rfl ((GY.weak (Hs.tl _) (hy F' (offs r i + k) x (i : Int) s hF hI (places_body hyb hs))).mono ?_)
            rintro v G2 (⟨rfl, x', hI', rfl⟩ | ⟨rfl, hS⟩)
            · refine R.not ⟨rfl, rfl, rfl, rfl⟩ rfl ?_
              refine GOps.nil ?_
              refine GW.cond_f rfl ?_
              refine GW.skip ?_
              refine GW.region ?_
              refine R.add (r := (((k + 1) : Nat) : Int)) ⟨rfl, rfl, rfl, rfl⟩ rfl rfl (by rw [wrap64_id (by omega) (by omega)]; omega) ?_   -- add ['t45', '1']
              refine R.move ⟨rfl, rfl, rfl, rfl⟩ rfl ?_
              refine GOps.nil ?_
              exact ⟨k + 1, x', F', (), by omega, ⟨by omega, hI', hmem, hF⟩, rfl, by repeat (first | exact Keeps.nil _ | refine Keeps.cons rfl ?_), by first | exact Hs.refl _ | exact Hs.tl _ | exact Hs.tl2 _ _⟩
            · refine R.not ⟨rfl, rfl, rfl, rfl⟩ rfl ?_
              refine GOps.nil ?_
              refine GW.cond_t rfl ?_
              exact GW.ret (Out.of (Res.none rfl) (Hs.refl _) (.inr hS))
          · try simp only [decide_eq_true_eq, decide_eq_false_iff_not, Bool.not_eq_true', Bool.not_eq_false'] at hc5
            refine GW.exit ?_
            refine GW.region ?_
            refine R.add (r := (((i + 1) : Nat) : Int)) ⟨rfl, rfl, rfl, rfl⟩ rfl rfl (by rw [wrap64_id (by omega) (by omega)]; omega) ?_   -- add ['t23', '1']
            refine R.move ⟨rfl, rfl, rfl, rfl⟩ rfl ?_
            refine GOps.nil ?_
            exact ⟨i + 1, x, F', (), by omega, by first | exact ⟨by omega, cast1 hI (by rw [offs_succ hyb, slotsOf_f (by omega) (by omega)]; show offs r i + k = offs r i + 2; omega), hF⟩ | exact ⟨by omega, cast1 hI (by rw [offs_succ hyb, slotsOf_t (by omega)]; show offs r i + k = offs r i + 3; omega), hF⟩, rfl, by repeat (first | exact Keeps.nil _ | refine Keeps.cons rfl ?_), by first | exact Hs.refl _ | exact Hs.tl _ | exact Hs.tl2 _ _⟩
        · try simp only [decide_eq_true_eq, decide_eq_false_iff_not, Bool.not_eq_true', Bool.not_eq_false'] at hc4
          refine GW.skip ?_
          refine GW.seq ?_
          refine GW.region ?_
          refine R.move ⟨rfl, rfl, rfl, rfl⟩ rfl ?_
          refine R.lenS ⟨rfl, rfl, rfl, rfl⟩ rfl rfl Tryd.underlying68 ?_
          refine R.move ⟨rfl, rfl, rfl, rfl⟩ rfl ?_
          refine GOps.nil ?_
          refine GW.block ?_
          -- LOOP: live 0:yield, 5:i, 21, 22, 23, 43, 44, 45
          refine GW.loop4 (fun (k : Nat) (x : σ) (F' : Hp) (u1 : Unit) => [(0, .func (.yield l) #[] #[]), (5, .int .i64 i), (21, .slice (some ⟨bb, oo, none⟩) r.body.length c), (22, .int .i64 r.body.length), (23, .int .i64 i), (43, .slice (some ⟨b6, 0 + 1, none⟩) 3 3), (44, .int .i64 3), (45, .int .i64 k)]) (fun (k : Nat) (x : σ) (F' : Hp) (u1 : Unit) => L x ++ F') (fun k : Nat => 3 - k) (fun (k : Nat) (x : σ) (F' : Hp) (u1 : Unit) => k ≤ 3 ∧ I (offs r i + k) x ∧ (b6, Know.exact (.cells (LtC y).toArray 43 (0, 0))) ∈ F' ∧ Ext F F') 0 (x) ((b6, .exact (.cells (LtC y).toArray 43 (0, 0))) :: F') (())
            (by repeat (first | exact Keeps.nil _ | refine Keeps.cons rfl ?_)) (Hs.midL _ _ _) (⟨by omega, hI, List.mem_cons_self, hF.cons _⟩) ?_
          rintro k x F' u1 ⟨hk, hI, hmem, hF⟩
          refine GW.seq ?_
          refine GW.region ?_
          refine R.lss ⟨rfl, rfl, rfl, rfl⟩ rfl rfl ?_   -- lss ['t45', 't44']
          refine GOps.nil ?_
          refine GW.seq ?_
          refine GW.ite rfl (fun hc6 => ?_) (fun hc6 => ?_)
          · try simp only [decide_eq_true_eq, decide_eq_false_iff_not, Bool.not_eq_true', Bool.not_eq_false'] at hc6
            obtain ⟨s, hs, hsc⟩ := lit_pat (x := y) (k := k) (by omega) (by omega)
            refine GW.skip ?_
            refine GW.seq ?_
            refine GW.block ?_
            refine GW.seq ?_
            refine GW.region ?_
            refine R.indexAddrS ⟨rfl, rfl, rfl, rfl⟩ rfl rfl Tryd.underlying68 Tryd.sizeOf37 (by omega) (by omega) ?_   -- ['t43', 't45']
            refine R.loadA ⟨rfl, rfl, rfl, rfl⟩ rfl Tryd.underlying37 rfl Tryd.sizeOf37 (by first | exact own_slot (o := 0) (List.mem_append_right _ hmem) (fun j v hv => by simpa using hsc j v hv) | exact own_slot (o := 1) (List.mem_append_right _ hmem) hsc) (by rfl) ?_   -- load 10 check.go:25
            refine R.alloc ⟨rfl, rfl, rfl, rfl⟩ Tryd.zeroValue37 fun b9 => ?_
            refine R.storeAll (G1 := []) rfl rfl rfl rfl rfl Tryd.sizeOf37 rfl rfl rfl rfl ?_   -- t9:s
            refine GOps.nil ?_
            refine GW.seq ?_
            refine GW.region ?_
            refine R.move ⟨rfl, rfl, rfl, rfl⟩ rfl ?_
            refine R.move ⟨rfl, rfl, rfl, rfl⟩ rfl ?_
            refine R.load_own (cs := SlC s) ⟨rfl, rfl, rfl, rfl⟩ rfl Tryd.underlying37 rfl Tryd.sizeOf37 (by repeat (first | exact List.mem_cons_self | apply List.mem_cons_of_mem | apply List.mem_append_right)) (by rfl) (by rfl) ?_   -- load 11 check.go:26 t9:s
            refine R.yield ⟨rfl, rfl, rfl, rfl⟩ rfl (vs := [_, _]) rfl ((GY.weak (Hs.tl _) (hy F' (offs r i + k) x (i : Int) s hF hI (places_body hyb hs))).mono ?_)
            rintro v G2 (⟨rfl, x', hI', rfl⟩ | ⟨rfl, hS⟩)
            · refine R.not ⟨rfl, rfl, rfl, rfl⟩ rfl ?_
              refine GOps.nil ?_
              refine GW.cond_f rfl ?_
              refine GW.skip ?_
              refine GW.region ?_
              refine R.add (r := (((k + 1) : Nat) : Int)) ⟨rfl, rfl, rfl, rfl⟩ rfl rfl (by rw [wrap64_id (by omega) (by omega)]; omega) ?_   -- add ['t45', '1']
              refine R.move ⟨rfl, rfl, rfl, rfl⟩ rfl ?_
              refine GOps.nil ?_
              exact ⟨k + 1, x', F', (), by omega, ⟨by omega, hI', hmem, hF⟩, rfl, by repeat (first | exact Keeps.nil _ | refine Keeps.cons rfl ?_), by first | exact Hs.refl _ | exact Hs.tl _ | exact Hs.tl2 _ _⟩
            · refine R.not ⟨rfl, rfl, rfl, rfl⟩ rfl ?_
              refine GOps.nil ?_
              refine GW.cond_t rfl ?_
              exact GW.ret (Out.of (Res.none rfl) (Hs.refl _) (.inr hS))
          · try simp only [decide_eq_true_eq, decide_eq_false_iff_not, Bool.not_eq_true', Bool.not_eq_false'] at hc6
            refine GW.exit ?_
            refine GW.region ?_
            refine R.add (r := (((i + 1) : Nat) : Int)) ⟨rfl, rfl, rfl, rfl⟩ rfl rfl (by rw [wrap64_id (by omega) (by omega)]; omega) ?_   -- add ['t23', '1']
            refine R.move ⟨rfl, rfl, rfl, rfl⟩ rfl ?_
            refine GOps.nil ?_
            exact ⟨i + 1, x, F', (), by omega, by first | exact ⟨by omega, cast1 hI (by rw [offs_succ hyb, slotsOf_f (by omega) (by omega)]; show offs r i + k = offs r i + 2; omega), hF⟩ | exact ⟨by omega, cast1 hI (by rw [offs_succ hyb, slotsOf_t (by omega)]; show offs r i + k = offs r i + 3; omega), hF⟩, rfl, by repeat (first | exact Keeps.nil _ | refine Keeps.cons rfl ?_), by first | exact Hs.refl _ | exact Hs.tl _ | exact Hs.tl2 _ _⟩
      · try simp only [decide_eq_true_eq, decide_eq_false_iff_not, Bool.not_eq_true', Bool.not_eq_false'] at hg3
        refine GOps.skip rfl rfl rfl ?_
        refine GOps.skip rfl rfl rfl ?_
        refine GOps.skip rfl rfl rfl ?_
        refine R.pick_f ⟨rfl, rfl, rfl, rfl⟩ rfl rfl ?_
        refine GOps.nil ?_
        refine GW.cond_f rfl ?_
        refine GW.skip ?_
        refine GW.seq ?_
        refine GW.region ?_
        refine R.move ⟨rfl, rfl, rfl, rfl⟩ rfl ?_
        refine R.lenS ⟨rfl, rfl, rfl, rfl⟩ rfl rfl Tryd.underlying68 ?_
        refine R.move ⟨rfl, rfl, rfl, rfl⟩ rfl ?_
        refine GOps.nil ?_
        refine GW.block ?_
        -- LOOP: live 0:yield, 5:i, 21, 22, 23, 43, 44, 45
        refine GW.loop4 (fun (k : Nat) (x : σ) (F' : Hp) (u1 : Unit) => [(0, .func (.yield l) #[] #[]), (5, .int .i64 i), (21, .slice (some ⟨bb, oo, none⟩) r.body.length c), (22, .int .i64 r.body.length), (23, .int .i64 i), (43, .slice (some ⟨b6, 0 + 1, none⟩) 3 3), (44, .int .i64 3), (45, .int .i64 k)]) (fun (k : Nat) (x : σ) (F' : Hp) (u1 : Unit) => L x ++ F') (fun k : Nat => 3 - k) (fun (k : Nat) (x : σ) (F' : Hp) (u1 : Unit) => k ≤ 3 ∧ I (offs r i + k) x ∧ (b6, Know.exact (.cells (LtC y).toArray 43 (0, 0))) ∈ F' ∧ Ext F F') 0 (x) ((b6, .exact (.cells (LtC y).toArray 43 (0, 0))) :: F') (())
          (by repeat (first | exact Keeps.nil _ | refine Keeps.cons rfl ?_)) (Hs.midL _ _ _) (⟨by omega, hI, List.mem_cons_self, hF.cons _⟩) ?_
        rintro k x F' u1 ⟨hk, hI, hmem, hF⟩
        refine GW.seq ?_
        refine GW.region ?_
        refine R.lss ⟨rfl, rfl, rfl, rfl⟩ rfl rfl ?_   -- lss ['t45', 't44']
        refine GOps.nil ?_
        refine GW.seq ?_
        refine GW.ite rfl (fun hc7 => ?_) (fun hc7 => ?_)
        · try simp only [decide_eq_true_eq, decide_eq_false_iff_not, Bool.not_eq_true', Bool.not_eq_false'] at hc7
          obtain ⟨s, hs, hsc⟩ := lit_pat (x := y) (k := k) (by omega) (by omega)
          refine GW.skip ?_
          refine GW.seq ?_
          refine GW.block ?_
          refine GW.seq ?_
          refine GW.region ?_
          refine R.indexAddrS ⟨rfl, rfl, rfl, rfl⟩ rfl rfl Tryd.underlying68 Tryd.sizeOf37 (by omega) (by omega) ?_   -- ['t43', 't45']
          refine R.loadA ⟨rfl, rfl, rfl, rfl⟩ rfl Tryd.underlying37 rfl Tryd.sizeOf37 (by first | exact own_slot (o := 0) (List.mem_append_right _ hmem) (fun j v hv => by simpa using hsc j v hv) | exact own_slot (o := 1) (List.mem_append_right _ hmem) hsc) (by rfl) ?_   -- load 12 check.go:25
          refine R.alloc ⟨rfl, rfl, rfl, rfl⟩ Tryd.zeroValue37 fun b9 => ?_
          refine R.storeAll (G1 := []) rfl rfl rfl rfl rfl Tryd.sizeOf37 rfl rfl rfl rfl ?_   -- t9:s
          refine GOps.nil ?_
          refine GW.seq ?_
          refine GW.region ?_
          refine R.move ⟨rfl, rfl, rfl, rfl⟩ rfl ?_
          refine R.move ⟨rfl, rfl, rfl, rfl⟩ rfl ?_
          refine R.load_own (cs := SlC s) ⟨rfl, rfl, rfl, rfl⟩ rfl Tryd.underlying37 rfl Tryd.sizeOf37 (by repeat (first | exact List.mem_cons_self | apply List.mem_cons_of_mem | apply List.mem_append_right)) (by rfl) (by rfl) ?_   -- load 13 check.go:26 t9:s
          refine R.yield ⟨rfl, rfl, rfl, rfl⟩ rfl (vs := [_, _]) rfl ((GY.weak (Hs.tl _) (hy F' (offs r i + k) x (i : Int) s hF hI (places_body hyb hs))).mono ?_)
          rintro v G2 (⟨rfl, x', hI', rfl⟩ | ⟨rfl, hS⟩)
          · refine R.not ⟨rfl, rfl, rfl, rfl⟩ rfl ?_
            refine GOps.nil ?_
            refine GW.cond_f rfl ?_
            refine GW.skip ?_
            refine GW.region ?_
            refine R.add (r := (((k + 1) : Nat) : Int)) ⟨rfl, rfl, rfl, rfl⟩ rfl rfl (by rw [wrap64_id (by omega) (by omega)]; omega) ?_   -- add ['t45', '1']
            refine R.move ⟨rfl, rfl, rfl, rfl⟩ rfl ?_
            refine GOps.nil ?_
            exact ⟨k + 1, x', F', (), by omega, ⟨by omega, hI', hmem, hF⟩, rfl, by repeat (first | exact Keeps.nil _ | refine Keeps.cons rfl ?_), by first | exact Hs.refl _ | exact Hs.tl _ | exact Hs.tl2 _ _⟩
          · refine R.not ⟨rfl, rfl, rfl, rfl⟩ rfl ?_
            refine GOps.nil ?_
            refine GW.cond_t rfl ?_
            exact GW.ret (Out.of (Res.none rfl) (Hs.refl _) (.inr hS))
        · try simp only [decide_eq_true_eq, decide_eq_false_iff_not, Bool.not_eq_true', Bool.not_eq_false'] at hc7
          refine GW.exit ?_
          refine GW.region ?_
          refine R.add (r := (((i + 1) : Nat) : Int)) ⟨rfl, rfl, rfl, rfl⟩ rfl rfl (by rw [wrap64_id (by omega) (by omega)]; omega) ?_   -- add ['t23', '1']
          refine R.move ⟨rfl, rfl, rfl, rfl⟩ rfl ?_
          refine GOps.nil ?_
          exact ⟨i + 1, x, F', (), by omega, by first | exact ⟨by omega, cast1 hI (by rw [offs_succ hyb, slotsOf_f (by omega) (by omega)]; show offs r i + k = offs r i + 2; omega), hF⟩ | exact ⟨by omega, cast1 hI (by rw [offs_succ hyb, slotsOf_t (by omega)]; show offs r i + k = offs r i + 3; omega), hF⟩, rfl, by repeat (first | exact Keeps.nil _ | refine Keeps.cons rfl ?_), by first | exact Hs.refl _ | exact Hs.tl _ | exact Hs.tl2 _ _⟩
    · try simp only [decide_eq_true_eq, decide_eq_false_iff_not, Bool.not_eq_true', Bool.not_eq_false'] at hc2
      refine GW.exit ?_
      refine Out.end_ (Res.none rfl) (Hs.refl _) (.inl ⟨x, F', cast1 hI (by rw [places_len, show i = r.body.length by omega]), hF, rfl⟩)

end Go.Proofs.YtgjmandjhjfgkaaDoor.Gl
