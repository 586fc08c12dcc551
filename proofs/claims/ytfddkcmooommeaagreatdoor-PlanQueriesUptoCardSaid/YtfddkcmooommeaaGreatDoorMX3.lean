/- Part 3 of the proof: S17 S18 U2 V2 W1 W2 W3 W4 W5 W6 X1 X2 X3 Gz X4 X5 X6. -/
import Derived.Test.YtfddkcmooommeaaGreatDoorMX2
import Derived.Laws.StructEq
section
namespace Go.Proofs.YtfddkcmooommeaaGreatDoor.Gl
open Go.RowKit Go.Shelf
set_option linter.unusedVariables false
set_option linter.unnecessarySimpa false
set_option linter.unusedSimpArgs false
attribute [-simp] List.getD_eq_getElem?_getD
def hdL (r : Rl) : List (Int × Sl) := [(-1, r.head.s0), (-1, r.head.s1), (-1, r.head.s2)]
def plFrom (i : Nat) : List Lt → List (Int × Sl)
 | [] => []
 | l :: ls => (slotsOf l).map (fun s => ((i : Int), s)) ++ plFrom (i + 1) ls
def placesL (r : Rl) : List (Int × Sl) := hdL r ++ plFrom 0 r.body
def offs (r : Rl) (i : Nat) : Nat := 3 + ((r.body.take i).flatMap slotsOf).length
theorem offs_succ {r : Rl} {i : Nat} {x : Lt} (h : r.body[i]? = some x) : offs r (i + 1) = offs r i + (slotsOf x).length := by
 unfold offs
 rw [List.take_add_one, h]
 simp
 omega
theorem plFrom_get : ∀ (ls : List Lt) (n i k : Nat) (x : Lt) (s : Sl), ls[i]? = some x → (slotsOf x)[k]? = some s → (plFrom n ls)[((ls.take i).flatMap slotsOf).length + k]? = some (((n + i : Nat) : Int), s)
 | [], n, i, k, x, s, h, _ => by simp at h
 | l :: ls, n, 0, k, x, s, h, hk => by
  simp at h
  subst h
  have hlt : k < (slotsOf l).length := (List.getElem?_eq_some_iff.1 hk).1
  simp only [List.take_zero, List.flatMap_nil, List.length_nil, Nat.zero_add, plFrom, Nat.add_zero]
  rw [List.getElem?_append_left (by simpa using hlt), List.getElem?_map, hk]
  rfl
 | l :: ls, n, i + 1, k, x, s, h, hk => by
  have ih := plFrom_get ls (n + 1) i k x s (by simpa using h) hk
  simp only [List.take_succ_cons, List.flatMap_cons, List.length_append, plFrom]
  rw [List.getElem?_append_right (by simp; omega)]
  have e : (slotsOf l).length + ((ls.take i).flatMap slotsOf).length + k - ((slotsOf l).map (fun s => ((n : Int), s))).length = ((ls.take i).flatMap slotsOf).length + k := by simp; omega
  rw [e, ih, show n + 1 + i = n + (i + 1) by omega]
theorem places_body {r : Rl} {i k : Nat} {x : Lt} {s : Sl} (hx : r.body[i]? = some x) (hs : (slotsOf x)[k]? = some s) : (placesL r)[offs r i + k]? = some ((i : Int), s) := by
 have := plFrom_get r.body 0 i k x s hx hs
 unfold placesL offs
 rw [List.getElem?_append_right (by simp [hdL]; omega), show 3 + ((r.body.take i).flatMap slotsOf).length + k - (hdL r).length = ((r.body.take i).flatMap slotsOf).length + k by simp [hdL]; omega, this]
 simp
theorem places_head {r : Rl} {k : Nat} (hk : k < 3) : ∃ s, (placesL r)[k]? = some (-1, s) ∧ (PtC r.head).toArray.extract (k * 4) (k * 4 + 4) = (SlC s).toArray := by
 rcases (by omega : k = 0 ∨ k = 1 ∨ k = 2) with rfl | rfl | rfl
 ·exact ⟨_, rfl, rfl⟩
 ·exact ⟨_, rfl, rfl⟩
 ·exact ⟨_, rfl, rfl⟩
theorem places_len (r : Rl) : (placesL r).length = offs r r.body.length := by
 have h : ∀ (ls : List Lt) (n : Nat), (plFrom n ls).length = (ls.flatMap slotsOf).length := by
  intro ls
  induction ls with
  | nil => intro n; rfl
  | cons l ls ih => intro n; simp [plFrom, ih]
 unfold placesL offs
 rw [List.length_append, h, List.take_length]
 rfl
theorem lit_pat {x : Lt} {k : Nat} (hk : k < 3) (h : x.kind = 1 ∨ x.kind = 2) : ∃ s, (slotsOf x)[k]? = some s ∧ ∀ j v, (SlC s)[j]? = some v → (LtC x)[1 + k * 4 + j]? = some v := by
 rw [slotsOf_t h]
 have hj : ∀ (s : Sl) (j : Nat) (v : Value), (SlC s)[j]? = some v → j < 4 := fun s j v h => (List.getElem?_eq_some_iff.1 h).1
 rcases (by omega : k = 0 ∨ k = 1 ∨ k = 2) with rfl | rfl | rfl
 all_goals
  refine ⟨_, rfl, fun j v hv => ?_⟩
  have := hj _ j v hv
  rcases (by omega : j = 0 ∨ j = 1 ∨ j = 2 ∨ j = 3) with rfl | rfl | rfl | rfl <;> exact hv
theorem lit_ab {x : Lt} {k : Nat} (hk : k < 2) (h : ¬ x.kind = 1) (h2 : ¬ x.kind = 2) : ∃ s, (slotsOf x)[k]? = some s ∧ ∀ j v, (SlC s)[j]? = some v → (SlC x.a ++ SlC x.b)[k * 4 + j]? = some v := by
 rw [slotsOf_f h h2]
 have hj : ∀ (s : Sl) (j : Nat) (v : Value), (SlC s)[j]? = some v → j < 4 := fun s j v h => (List.getElem?_eq_some_iff.1 h).1
 rcases (by omega : k = 0 ∨ k = 1) with rfl | rfl
 all_goals
  refine ⟨_, rfl, fun j v hv => ?_⟩
  have := hj _ j v hv
  rcases (by omega : j = 0 ∨ j = 1 ∨ j = 2 ∨ j = 3) with rfl | rfl | rfl | rfl <;> exact hv
def Ext (F F' : Hp) : Prop := (∀ y ∈ F, y ∈ F') ∧ ∀ L : Hp, Hs (L ++ F') (L ++ F)
theorem Ext.refl (F : Hp) : Ext F F := ⟨fun _ h => h, fun _ => Hs.refl _⟩
theorem Ext.cons {F F' : Hp} (h : Ext F F') (x : Nat × Know) : Ext F (x :: F') := ⟨fun y hy => List.mem_cons_of_mem _ (h.1 y hy), fun L => (Hs.sub (List.Sublist.append (List.Sublist.refl _) (List.sublist_cons_self x F'))).trans (h.2 L)⟩
theorem cast1 {σ : Type} {I : Nat → σ → Prop} {a b : Nat} {x : σ} (h : I a x) (e : a = b) : I b x := e ▸ h
theorem rl_head {w0 : World} {G : Hp} {b o : Nat} {p : Pt} {v : Value} (h : Rds w0 G b o (RlC p v)) : Rds w0 G b o (PtC p) := fun j u hu => h j u (by
 have e : RlC p v = PtC p ++ [v] := rfl
 rw [e, List.getElem?_append_left (List.getElem?_eq_some_iff.1 hu).1]
 exact hu)
theorem Hs.midL (L : Hp) (x : Nat × Know) (F : Hp) : Hs (x :: (L ++ F)) (L ++ (x :: F)) := Hs.perm List.perm_middle
theorem own_slot {w0 : World} {G : Hp} {b o k : Nat} {C : List Value} {e : TypeId} {z : Nat × Nat} {s : Sl} (hm : (b, Know.exact (.cells C.toArray e z)) ∈ G) (h : ∀ j v, (SlC s)[j]? = some v → C[o + k * 4 + j]? = some v) : Rds w0 G b (o + (k : Int).toNat * 4) (SlC s) :=
 .own hm _ _ (fun j v hv => by simpa using h j v hv)
theorem check_places (w0 : World) (G : Hp) (r : Rl) (A : Option Addr) (c : Nat) : GC Tryz.prog w0 53 #[.agg (RlC r.head (.slice A r.body.length c)).toArray] (fun v G' => ∃ b, v = .func (.func 85) #[] #[.pointer (some ⟨b, 0, none⟩)] ∧ (b, .exact (.cells (RlC r.head (.slice A r.body.length c)).toArray 31 (0, 0))) :: G = G') G := by
 refine GC.body (args := [.agg (RlC r.head (.slice A r.body.length c)).toArray]) Tryz.func53 rfl (by kernel_rfl) rfl ?_
 refine GW.seq ?_
 refine GW.region ?_
 refine R.box ⟨Z,Z,Z,Z⟩ Z fun b1 => ?_
 refine R.assign ⟨Z,Z,Z,Z⟩ Z ?_
 refine GOps.nil ?_
 refine GW.seq ?_
 refine GW.region ?_
 refine R.makeFunc (vs := []) (us := [_]) ⟨Z,Z,Z,Z⟩ Z Z ?_
 refine R.assign ⟨Z,Z,Z,Z⟩ Z ?_
 refine GOps.nil ?_
 exact GW.ret (Out.of (Res.one rfl rfl) (Hs.refl _) ⟨_, rfl, rfl⟩)
theorem places1 {σ : Type} (w0 : World) (l bR : Nat) (r : Rl) (A : Option Addr) (c : Nat) (L : σ → Hp) (I : Nat → σ → Prop) (S : Hp → Prop) (F : Hp) (x0 : σ) (hm : r.body.length ≤ 1048576)
  (hR : ∀ x, Rds w0 (L x) bR 0 (RlC r.head (.slice A r.body.length c))) (hl : LtsAt w0 F A r.body) (h0 : I 0 x0)
  (hy : ∀ F' j x i s, Ext F F' → I j x → (placesL r)[j]? = some (i, s) → GY Tryz.prog w0 l [.int .i64 i, .agg (SlC s).toArray] (fun v G' => (v = .bool true ∧ ∃ x', I (j + 1) x' ∧ L x' ++ F' = G') ∨ (v = .bool false ∧ S G')) (L x ++ F')) :
  GC Tryz.prog w0 85 #[.func (.yield l) #[] #[], .pointer (some ⟨bR, 0, none⟩)] (fun v G' => (∃ x F', I (placesL r).length x ∧ Ext F F' ∧ L x ++ F' = G') ∨ S G') (L x0 ++ F) := by
 refine GC.body (args := [.func (.yield l) #[] #[], .pointer (some ⟨bR, 0, none⟩)]) Tryz.func85 rfl (by kernel_rfl) rfl ?_
 refine GW.seq ?_
 refine GW.seq ?_
 refine GW.region ?_
 refine R.fieldAddr ⟨Z,Z,Z,Z⟩ Z Tryz.underlying31 Z Tryz.sizeOf28 ?_
 refine R.loadA ⟨Z,Z,Z,Z⟩ Z Tryz.underlying28 Z Tryz.sizeOf28 (rl_head (Rds.mono (fun y h => List.mem_append_left _ h) (hR x0))) (by rfl) ?_
 refine R.move ⟨Z,Z,Z,Z⟩ Z ?_
 refine GOps.nil ?_
 refine GW.block ?_
 refine GW.loop4 (fun (k : Nat) (x : σ) (F' : Hp) (u1 : Unit) => [(0, .func (.yield l) #[] #[]), (1, .pointer (some ⟨bR, 0, none⟩)), (11, .agg (PtC r.head).toArray), (12, .int .i64 k)]) (fun (k : Nat) (x : σ) (F' : Hp) (u1 : Unit) => L x ++ F') (fun k : Nat => 3 - k) (fun (k : Nat) (x : σ) (F' : Hp) (u1 : Unit) => k ≤ 3 ∧ I k x ∧ Ext F F') 0 (x0) (F) (())
  (keepG) (Hs.refl _) (⟨by omega, h0, Ext.refl F⟩) ?_
 rintro k x F' u1 ⟨hk, hI, hF⟩
 refine GW.seq ?_
 refine GW.region ?_
 refine R.lss ⟨Z,Z,Z,Z⟩ Z Z ?_
 refine GOps.nil ?_
 refine GW.seq ?_
 refine GW.ite Z (fun hc1 => ?_) (fun hc1 => ?_)
 ·try simp only [dcQ] at hc1
  obtain ⟨s, hs, hse⟩ := places_head (r := r) (k := k) (by omega)
  refine GW.skip ?_
  refine GW.seq ?_
  refine GW.block ?_
  refine GW.seq ?_
  refine GW.region ?_
  refine R.indexArr (es := (SlC s).toArray) ⟨Z,Z,Z,Z⟩ Z Z Tryz.underlying28 Tryz.underlying26 Z Tryz.sizeOf26 (by omega) (by omega) (hse) ?_
  refine R.alloc ⟨Z,Z,Z,Z⟩ Tryz.zeroValue26 fun b4 => ?_
  refine R.storeAll (G1 := []) Z Z Z Z Z Tryz.sizeOf26 Z Z Z Z ?_
  refine GOps.nil ?_
  refine GW.seq ?_
  refine GW.region ?_
  refine R.move ⟨Z,Z,Z,Z⟩ Z ?_
  refine R.load_own (cs := SlC s) ⟨Z,Z,Z,Z⟩ Z Tryz.underlying26 Z Tryz.sizeOf26 memG (by rfl) (by rfl) ?_
  refine R.yield ⟨Z,Z,Z,Z⟩ Z (vs := [_, _]) Z ((GY.weak (Hs.tl _) (hy F' k x (-1) s hF hI hs)).mono ?_)
  rintro v G2 (⟨rfl, x', hI', rfl⟩ | ⟨rfl, hS⟩)
  ·refine R.not ⟨Z,Z,Z,Z⟩ Z ?_
   refine GOps.nil ?_
   refine GW.cond_f Z ?_
   refine GW.skip ?_
   refine GW.region ?_
   refine R.add (r := (((k + 1) : Nat) : Int)) ⟨Z,Z,Z,Z⟩ Z Z (by rw [wrap64_id (by omega) (by omega)]; omega) ?_
   refine R.move ⟨Z,Z,Z,Z⟩ Z ?_
   refine GOps.nil ?_
   exact ⟨k + 1, x', F', (), by omega, ⟨by omega, hI', hF⟩, rfl, keepG, by first | exact Hs.refl _ | exact Hs.tl _ | exact Hs.tl2 _ _⟩
  ·refine R.not ⟨Z,Z,Z,Z⟩ Z ?_
   refine GOps.nil ?_
   refine GW.cond_t Z ?_
   exact GW.ret (Out.of (Res.none rfl) (Hs.refl _) (.inr hS))
 ·try simp only [dcQ] at hc1
  refine GW.exit ?_
  refine GW.seq ?_
  refine GW.region ?_
  refine R.fieldAddr ⟨Z,Z,Z,Z⟩ Z Tryz.underlying31 Z Tryz.sizeOf29 ?_
  refine R.load1 ⟨Z,Z,Z,Z⟩ Z Tryz.underlying29 Z (Rd.mono (fun y h => List.mem_append_left _ h) ((hR x) 12 _ Z)) ?_
  refine R.lenS ⟨Z,Z,Z,Z⟩ Z Z Tryz.underlying29 ?_
  refine R.move ⟨Z,Z,Z,Z⟩ Z ?_
  refine GOps.nil ?_
  refine GW.block ?_
  refine GW.loop4 (fun (i : Nat) (x : σ) (F' : Hp) (u1 : Unit) => [(0, .func (.yield l) #[] #[]), (21, .slice A r.body.length c), (22, .int .i64 r.body.length), (23, .int .i64 i)]) (fun (i : Nat) (x : σ) (F' : Hp) (u1 : Unit) => L x ++ F') (fun i : Nat => r.body.length - i) (fun (i : Nat) (x : σ) (F' : Hp) (u1 : Unit) => i ≤ r.body.length ∧ I (offs r i) x ∧ Ext F F') 0 (x) (F') (())
   (keepG) (Hs.refl _) (⟨by omega, cast1 hI (by show k = 3; omega), hF⟩) ?_
  rintro i x F' u1 ⟨hi, hI, hF⟩
  refine GW.seq ?_
  refine GW.region ?_
  refine R.lss ⟨Z,Z,Z,Z⟩ Z Z ?_
  refine GOps.nil ?_
  refine GW.seq ?_
  refine GW.ite Z (fun hc2 => ?_) (fun hc2 => ?_)
  ·try simp only [dcQ] at hc2
   obtain ⟨y, hyb⟩ : ∃ y, r.body[i]? = some y := ⟨_, List.getElem?_eq_getElem (by omega)⟩
   obtain ⟨bb, oo, cs, rfl, rfl, hrd⟩ := hl i y hyb
   refine GW.skip ?_
   refine GW.seq ?_
   refine GW.block ?_
   refine GW.seq ?_
   refine GW.region ?_
   refine R.move ⟨Z,Z,Z,Z⟩ Z ?_
   refine R.indexAddrS ⟨Z,Z,Z,Z⟩ Z Z Tryz.underlying29 Tryz.sizeOf89 (by omega) (by omega) ?_
   refine R.loadA ⟨Z,Z,Z,Z⟩ Z Tryz.underlying89 Z Tryz.sizeOf89 (Rds.mono (fun z h => List.mem_append_right _ (hF.1 z h)) hrd) (by rfl) ?_
   refine R.alloc ⟨Z,Z,Z,Z⟩ Tryz.zeroValue89 fun b6 => ?_
   refine R.assign ⟨Z,Z,Z,Z⟩ Z ?_
   refine R.storeAll (G1 := []) Z Z Z Z Z Tryz.sizeOf89 Z Z Z Z ?_
   refine GOps.nil ?_
   refine GW.seq ?_
   refine GW.region ?_
   refine R.fieldAddr ⟨Z,Z,Z,Z⟩ Z Tryz.underlying89 Z Tryz.sizeOf28 ?_
   refine R.sliceArr ⟨Z,Z,Z,Z⟩ Z Tryz.underlying28 Tryz.sizeOf26 ?_
   refine R.assign ⟨Z,Z,Z,Z⟩ Z ?_
   refine GOps.nil ?_
   refine GW.seq ?_
   refine GW.seq ?_
   refine GW.region ?_
   refine R.fieldAddr ⟨Z,Z,Z,Z⟩ Z Tryz.underlying89 Z Tryz.sizeOf87 ?_
   refine R.load1 ⟨Z,Z,Z,Z⟩ Z Tryz.underlying87 Z (.own' memG (by rfl)) ?_
   refine R.neI ⟨Z,Z,Z,Z⟩ Z Z ?_
   refine R.move ⟨Z,Z,Z,Z⟩ Z ?_
   refine GOps.caseB 33 Z (fun hg3 => ?_) (fun hg3 => ?_)
   ·try simp only [dcQ] at hg3
    refine R.fieldAddr ⟨Z,Z,Z,Z⟩ Z Tryz.underlying89 Z Tryz.sizeOf87 ?_
    refine R.load1 ⟨Z,Z,Z,Z⟩ Z Tryz.underlying87 Z (.own' memG (by rfl)) ?_
    refine R.neI ⟨Z,Z,Z,Z⟩ Z Z ?_
    refine R.pick_t ⟨Z,Z,Z,Z⟩ Z Z ?_
    refine GOps.nil ?_
    refine GW.ite Z (fun hc4 => ?_) (fun hc4 => ?_)
    ·try simp only [dcQ] at hc4
     refine GW.region ?_
     refine R.fieldAddr ⟨Z,Z,Z,Z⟩ Z Tryz.underlying89 Z Tryz.sizeOf26 ?_
     refine R.load_own (cs := SlC y.a) ⟨Z,Z,Z,Z⟩ Z Tryz.underlying26 Z Tryz.sizeOf26 memG (by rfl) (by rfl) ?_
     refine R.fieldAddr ⟨Z,Z,Z,Z⟩ Z Tryz.underlying89 Z Tryz.sizeOf26 ?_
     refine R.load_own (cs := SlC y.b) ⟨Z,Z,Z,Z⟩ Z Tryz.underlying26 Z Tryz.sizeOf26 memG (by rfl) (by rfl) ?_
     refine R.buildSliceF (sz := 4) (bytes := 56) (vs := [_, _]) (cs := [_, _, _, _, _, _, _, _]) ⟨Z,Z,Z,Z⟩ Z Tryz.underlying106 (InfoE.mk (by kernel_rfl)) Z Z Z Z Z fun b42 => ?_
     refine R.assign ⟨Z,Z,Z,Z⟩ Z ?_
     refine GOps.nil ?_
     refine GW.seq ?_
     refine GW.region ?_
     refine R.move ⟨Z,Z,Z,Z⟩ Z ?_
     refine R.lenS ⟨Z,Z,Z,Z⟩ Z Z Tryz.underlying106 ?_
     refine R.move ⟨Z,Z,Z,Z⟩ Z ?_
     refine GOps.nil ?_
     refine GW.block ?_
     refine GW.loop4 (fun (k : Nat) (x : σ) (F' : Hp) (u1 : Unit) => [(0, .func (.yield l) #[] #[]), (5, .int .i64 i), (21, .slice (some ⟨bb, oo, none⟩) r.body.length c), (22, .int .i64 r.body.length), (23, .int .i64 i), (43, .slice (some ⟨b42, 0, none⟩) 2 2), (44, .int .i64 2), (45, .int .i64 k)]) (fun (k : Nat) (x : σ) (F' : Hp) (u1 : Unit) => L x ++ F') (fun k : Nat => 2 - k) (fun (k : Nat) (x : σ) (F' : Hp) (u1 : Unit) => k ≤ 2 ∧ I (offs r i + k) x ∧ (b42, Know.exact (.cells (SlC y.a ++ SlC y.b).toArray 26 (0, 0))) ∈ F' ∧ Ext F F') 0 (x) ((b42, .exact (.cells (SlC y.a ++ SlC y.b).toArray 26 (0, 0))) :: F') (())
      (keepG) ((Hs.swapDrop _ _ _).trans (Hs.midL _ _ _)) (⟨by omega, hI, List.mem_cons_self, hF.cons _⟩) ?_
     rintro k x F' u1 ⟨hk, hI, hmem, hF⟩
     refine GW.seq ?_
     refine GW.region ?_
     refine R.lss ⟨Z,Z,Z,Z⟩ Z Z ?_
     refine GOps.nil ?_
     refine GW.seq ?_
     refine GW.ite Z (fun hc5 => ?_) (fun hc5 => ?_)
     ·try simp only [dcQ] at hc5
      obtain ⟨s, hs, hsc⟩ := lit_ab (x := y) (k := k) (by omega) (by omega) (by omega)
      refine GW.skip ?_
      refine GW.seq ?_
      refine GW.block ?_
      refine GW.seq ?_
      refine GW.region ?_
      refine R.indexAddrS ⟨Z,Z,Z,Z⟩ Z Z Tryz.underlying106 Tryz.sizeOf26 (by omega) (by omega) ?_
      refine R.loadA ⟨Z,Z,Z,Z⟩ Z Tryz.underlying26 Z Tryz.sizeOf26 (by first | exact own_slot (o := 0) (List.mem_append_right _ hmem) (fun j v hv => by simpa using hsc j v hv) | exact own_slot (o := 1) (List.mem_append_right _ hmem) hsc) (by rfl) ?_
      refine R.alloc ⟨Z,Z,Z,Z⟩ Tryz.zeroValue26 fun b9 => ?_
      refine R.storeAll (G1 := []) Z Z Z Z Z Tryz.sizeOf26 Z Z Z Z ?_
      refine GOps.nil ?_
      refine GW.seq ?_
      refine GW.region ?_
      refine R.move ⟨Z,Z,Z,Z⟩ Z ?_
      refine R.move ⟨Z,Z,Z,Z⟩ Z ?_
      refine R.load_own (cs := SlC s) ⟨Z,Z,Z,Z⟩ Z Tryz.underlying26 Z Tryz.sizeOf26 memG (by rfl) (by rfl) ?_
      refine R.yield ⟨Z,Z,Z,Z⟩ Z (vs := [_, _]) Z ((GY.weak (Hs.tl _) (hy F' (offs r i + k) x (i : Int) s hF hI (places_body hyb hs))).mono ?_)
      rintro v G2 (⟨rfl, x', hI', rfl⟩ | ⟨rfl, hS⟩)
      ·refine R.not ⟨Z,Z,Z,Z⟩ Z ?_
       refine GOps.nil ?_
       refine GW.cond_f Z ?_
       refine GW.skip ?_
       refine GW.region ?_
       refine R.add (r := (((k + 1) : Nat) : Int)) ⟨Z,Z,Z,Z⟩ Z Z (by rw [wrap64_id (by omega) (by omega)]; omega) ?_
       refine R.move ⟨Z,Z,Z,Z⟩ Z ?_
       refine GOps.nil ?_
       exact ⟨k + 1, x', F', (), by omega, ⟨by omega, hI', hmem, hF⟩, rfl, keepG, by first | exact Hs.refl _ | exact Hs.tl _ | exact Hs.tl2 _ _⟩
      ·refine R.not ⟨Z,Z,Z,Z⟩ Z ?_
       refine GOps.nil ?_
       refine GW.cond_t Z ?_
       exact GW.ret (Out.of (Res.none rfl) (Hs.refl _) (.inr hS))
     ·try simp only [dcQ] at hc5
      refine GW.exit ?_
      refine GW.region ?_
      refine R.add (r := (((i + 1) : Nat) : Int)) ⟨Z,Z,Z,Z⟩ Z Z (by rw [wrap64_id (by omega) (by omega)]; omega) ?_
      refine R.move ⟨Z,Z,Z,Z⟩ Z ?_
      refine GOps.nil ?_
      exact ⟨i + 1, x, F', (), by omega, by first | exact ⟨by omega, cast1 hI (by rw [offs_succ hyb, slotsOf_f (by omega) (by omega)]; show offs r i + k = offs r i + 2; omega), hF⟩ | exact ⟨by omega, cast1 hI (by rw [offs_succ hyb, slotsOf_t (by omega)]; show offs r i + k = offs r i + 3; omega), hF⟩, rfl, keepG, by first | exact Hs.refl _ | exact Hs.tl _ | exact Hs.tl2 _ _⟩
    ·try simp only [dcQ] at hc4
     refine GW.skip ?_
     refine GW.seq ?_
     refine GW.region ?_
     refine R.move ⟨Z,Z,Z,Z⟩ Z ?_
     refine R.lenS ⟨Z,Z,Z,Z⟩ Z Z Tryz.underlying106 ?_
     refine R.move ⟨Z,Z,Z,Z⟩ Z ?_
     refine GOps.nil ?_
     refine GW.block ?_
     refine GW.loop4 (fun (k : Nat) (x : σ) (F' : Hp) (u1 : Unit) => [(0, .func (.yield l) #[] #[]), (5, .int .i64 i), (21, .slice (some ⟨bb, oo, none⟩) r.body.length c), (22, .int .i64 r.body.length), (23, .int .i64 i), (43, .slice (some ⟨b6, 0 + 1, none⟩) 3 3), (44, .int .i64 3), (45, .int .i64 k)]) (fun (k : Nat) (x : σ) (F' : Hp) (u1 : Unit) => L x ++ F') (fun k : Nat => 3 - k) (fun (k : Nat) (x : σ) (F' : Hp) (u1 : Unit) => k ≤ 3 ∧ I (offs r i + k) x ∧ (b6, Know.exact (.cells (LtC y).toArray 89 (0, 0))) ∈ F' ∧ Ext F F') 0 (x) ((b6, .exact (.cells (LtC y).toArray 89 (0, 0))) :: F') (())
      (keepG) (Hs.midL _ _ _) (⟨by omega, hI, List.mem_cons_self, hF.cons _⟩) ?_
     rintro k x F' u1 ⟨hk, hI, hmem, hF⟩
     refine GW.seq ?_
     refine GW.region ?_
     refine R.lss ⟨Z,Z,Z,Z⟩ Z Z ?_
     refine GOps.nil ?_
     refine GW.seq ?_
     refine GW.ite Z (fun hc6 => ?_) (fun hc6 => ?_)
     ·try simp only [dcQ] at hc6
      obtain ⟨s, hs, hsc⟩ := lit_pat (x := y) (k := k) (by omega) (by omega)
      refine GW.skip ?_
      refine GW.seq ?_
      refine GW.block ?_
      refine GW.seq ?_
      refine GW.region ?_
      refine R.indexAddrS ⟨Z,Z,Z,Z⟩ Z Z Tryz.underlying106 Tryz.sizeOf26 (by omega) (by omega) ?_
      refine R.loadA ⟨Z,Z,Z,Z⟩ Z Tryz.underlying26 Z Tryz.sizeOf26 (by first | exact own_slot (o := 0) (List.mem_append_right _ hmem) (fun j v hv => by simpa using hsc j v hv) | exact own_slot (o := 1) (List.mem_append_right _ hmem) hsc) (by rfl) ?_
      refine R.alloc ⟨Z,Z,Z,Z⟩ Tryz.zeroValue26 fun b9 => ?_
      refine R.storeAll (G1 := []) Z Z Z Z Z Tryz.sizeOf26 Z Z Z Z ?_
      refine GOps.nil ?_
      refine GW.seq ?_
      refine GW.region ?_
      refine R.move ⟨Z,Z,Z,Z⟩ Z ?_
      refine R.move ⟨Z,Z,Z,Z⟩ Z ?_
      refine R.load_own (cs := SlC s) ⟨Z,Z,Z,Z⟩ Z Tryz.underlying26 Z Tryz.sizeOf26 memG (by rfl) (by rfl) ?_
      refine R.yield ⟨Z,Z,Z,Z⟩ Z (vs := [_, _]) Z ((GY.weak (Hs.tl _) (hy F' (offs r i + k) x (i : Int) s hF hI (places_body hyb hs))).mono ?_)
      rintro v G2 (⟨rfl, x', hI', rfl⟩ | ⟨rfl, hS⟩)
      ·refine R.not ⟨Z,Z,Z,Z⟩ Z ?_
       refine GOps.nil ?_
       refine GW.cond_f Z ?_
       refine GW.skip ?_
       refine GW.region ?_
       refine R.add (r := (((k + 1) : Nat) : Int)) ⟨Z,Z,Z,Z⟩ Z Z (by rw [wrap64_id (by omega) (by omega)]; omega) ?_
       refine R.move ⟨Z,Z,Z,Z⟩ Z ?_
       refine GOps.nil ?_
       exact ⟨k + 1, x', F', (), by omega, ⟨by omega, hI', hmem, hF⟩, rfl, keepG, by first | exact Hs.refl _ | exact Hs.tl _ | exact Hs.tl2 _ _⟩
      ·refine R.not ⟨Z,Z,Z,Z⟩ Z ?_
       refine GOps.nil ?_
       refine GW.cond_t Z ?_
       exact GW.ret (Out.of (Res.none rfl) (Hs.refl _) (.inr hS))
     ·try simp only [dcQ] at hc6
      refine GW.exit ?_
      refine GW.region ?_
      refine R.add (r := (((i + 1) : Nat) : Int)) ⟨Z,Z,Z,Z⟩ Z Z (by rw [wrap64_id (by omega) (by omega)]; omega) ?_
      refine R.move ⟨Z,Z,Z,Z⟩ Z ?_
      refine GOps.nil ?_
      exact ⟨i + 1, x, F', (), by omega, by first | exact ⟨by omega, cast1 hI (by rw [offs_succ hyb, slotsOf_f (by omega) (by omega)]; show offs r i + k = offs r i + 2; omega), hF⟩ | exact ⟨by omega, cast1 hI (by rw [offs_succ hyb, slotsOf_t (by omega)]; show offs r i + k = offs r i + 3; omega), hF⟩, rfl, keepG, by first | exact Hs.refl _ | exact Hs.tl _ | exact Hs.tl2 _ _⟩
   ·try simp only [dcQ] at hg3
    refine GOps.skip Z Z Z ?_
    refine GOps.skip Z Z Z ?_
    refine GOps.skip Z Z Z ?_
    refine R.pick_f ⟨Z,Z,Z,Z⟩ Z Z ?_
    refine GOps.nil ?_
    refine GW.cond_f Z ?_
    refine GW.skip ?_
    refine GW.seq ?_
    refine GW.region ?_
    refine R.move ⟨Z,Z,Z,Z⟩ Z ?_
    refine R.lenS ⟨Z,Z,Z,Z⟩ Z Z Tryz.underlying106 ?_
    refine R.move ⟨Z,Z,Z,Z⟩ Z ?_
    refine GOps.nil ?_
    refine GW.block ?_
    refine GW.loop4 (fun (k : Nat) (x : σ) (F' : Hp) (u1 : Unit) => [(0, .func (.yield l) #[] #[]), (5, .int .i64 i), (21, .slice (some ⟨bb, oo, none⟩) r.body.length c), (22, .int .i64 r.body.length), (23, .int .i64 i), (43, .slice (some ⟨b6, 0 + 1, none⟩) 3 3), (44, .int .i64 3), (45, .int .i64 k)]) (fun (k : Nat) (x : σ) (F' : Hp) (u1 : Unit) => L x ++ F') (fun k : Nat => 3 - k) (fun (k : Nat) (x : σ) (F' : Hp) (u1 : Unit) => k ≤ 3 ∧ I (offs r i + k) x ∧ (b6, Know.exact (.cells (LtC y).toArray 89 (0, 0))) ∈ F' ∧ Ext F F') 0 (x) ((b6, .exact (.cells (LtC y).toArray 89 (0, 0))) :: F') (())
     (keepG) (Hs.midL _ _ _) (⟨by omega, hI, List.mem_cons_self, hF.cons _⟩) ?_
    rintro k x F' u1 ⟨hk, hI, hmem, hF⟩
    refine GW.seq ?_
    refine GW.region ?_
    refine R.lss ⟨Z,Z,Z,Z⟩ Z Z ?_
    refine GOps.nil ?_
    refine GW.seq ?_
    refine GW.ite Z (fun hc7 => ?_) (fun hc7 => ?_)
    ·try simp only [dcQ] at hc7
     obtain ⟨s, hs, hsc⟩ := lit_pat (x := y) (k := k) (by omega) (by omega)
     refine GW.skip ?_
     refine GW.seq ?_
     refine GW.block ?_
     refine GW.seq ?_
     refine GW.region ?_
     refine R.indexAddrS ⟨Z,Z,Z,Z⟩ Z Z Tryz.underlying106 Tryz.sizeOf26 (by omega) (by omega) ?_
     refine R.loadA ⟨Z,Z,Z,Z⟩ Z Tryz.underlying26 Z Tryz.sizeOf26 (by first | exact own_slot (o := 0) (List.mem_append_right _ hmem) (fun j v hv => by simpa using hsc j v hv) | exact own_slot (o := 1) (List.mem_append_right _ hmem) hsc) (by rfl) ?_
     refine R.alloc ⟨Z,Z,Z,Z⟩ Tryz.zeroValue26 fun b9 => ?_
     refine R.storeAll (G1 := []) Z Z Z Z Z Tryz.sizeOf26 Z Z Z Z ?_
     refine GOps.nil ?_
     refine GW.seq ?_
     refine GW.region ?_
     refine R.move ⟨Z,Z,Z,Z⟩ Z ?_
     refine R.move ⟨Z,Z,Z,Z⟩ Z ?_
     refine R.load_own (cs := SlC s) ⟨Z,Z,Z,Z⟩ Z Tryz.underlying26 Z Tryz.sizeOf26 memG (by rfl) (by rfl) ?_
     refine R.yield ⟨Z,Z,Z,Z⟩ Z (vs := [_, _]) Z ((GY.weak (Hs.tl _) (hy F' (offs r i + k) x (i : Int) s hF hI (places_body hyb hs))).mono ?_)
     rintro v G2 (⟨rfl, x', hI', rfl⟩ | ⟨rfl, hS⟩)
     ·refine R.not ⟨Z,Z,Z,Z⟩ Z ?_
      refine GOps.nil ?_
      refine GW.cond_f Z ?_
      refine GW.skip ?_
      refine GW.region ?_
      refine R.add (r := (((k + 1) : Nat) : Int)) ⟨Z,Z,Z,Z⟩ Z Z (by rw [wrap64_id (by omega) (by omega)]; omega) ?_
      refine R.move ⟨Z,Z,Z,Z⟩ Z ?_
      refine GOps.nil ?_
      exact ⟨k + 1, x', F', (), by omega, ⟨by omega, hI', hmem, hF⟩, rfl, keepG, by first | exact Hs.refl _ | exact Hs.tl _ | exact Hs.tl2 _ _⟩
     ·refine R.not ⟨Z,Z,Z,Z⟩ Z ?_
      refine GOps.nil ?_
      refine GW.cond_t Z ?_
      exact GW.ret (Out.of (Res.none rfl) (Hs.refl _) (.inr hS))
    ·try simp only [dcQ] at hc7
     refine GW.exit ?_
     refine GW.region ?_
     refine R.add (r := (((i + 1) : Nat) : Int)) ⟨Z,Z,Z,Z⟩ Z Z (by rw [wrap64_id (by omega) (by omega)]; omega) ?_
     refine R.move ⟨Z,Z,Z,Z⟩ Z ?_
     refine GOps.nil ?_
     exact ⟨i + 1, x, F', (), by omega, by first | exact ⟨by omega, cast1 hI (by rw [offs_succ hyb, slotsOf_f (by omega) (by omega)]; show offs r i + k = offs r i + 2; omega), hF⟩ | exact ⟨by omega, cast1 hI (by rw [offs_succ hyb, slotsOf_t (by omega)]; show offs r i + k = offs r i + 3; omega), hF⟩, rfl, keepG, by first | exact Hs.refl _ | exact Hs.tl _ | exact Hs.tl2 _ _⟩
  ·try simp only [dcQ] at hc2
   refine GW.exit ?_
   refine Out.end_ (Res.none rfl) (Hs.refl _) (.inl ⟨x, F', cast1 hI (by rw [places_len, show i = r.body.length by omega]), hF, rfl⟩)
end Go.Proofs.YtfddkcmooommeaaGreatDoor.Gl
end
section
namespace Go.Proofs.YtfddkcmooommeaaGreatDoor.Gl
open Go.RowKit Go.Shelf
set_option linter.unusedVariables false
set_option linter.unnecessarySimpa false
set_option linter.unusedSimpArgs false
attribute [-simp] List.getD_eq_getElem?_getD
theorem Ext.trans {F F' F'' : Hp} (h : Ext F F') (h' : Ext F' F'') : Ext F F'' := ⟨fun y hy => h'.1 y (h.1 y hy), fun L => (h'.2 L).trans (h.2 L)⟩
def entsL : Nat → List ByteArray → List MapEntry
 | _, [] => []
 | n, k :: ks => { key := .string k, val := .agg #[.bool true], born := n } :: entsL (n + 1) ks
def entriesOf (ks : List ByteArray) : Array MapEntry := (entsL 0 ks).toArray
def emap (ks : List ByteArray) : Know := .exact (.map (entriesOf ks) ks.length)
theorem entsL_snoc (k : ByteArray) : ∀ (ks : List ByteArray) (n : Nat), entsL n (ks ++ [k]) = entsL n ks ++ [{ key := .string k, val := .agg #[.bool true], born := n + ks.length }]
 | [], n => rfl
 | x :: ks, n => by
  simp only [List.cons_append, entsL, entsL_snoc k ks (n + 1), List.length_cons]
  rw [show n + 1 + ks.length = n + (ks.length + 1) by omega]
theorem emap_push (ks : List ByteArray) (k : ByteArray) : Know.exact (.map ((entriesOf ks).push { key := .string k, val := .agg #[.bool true], born := ks.length }) (ks.length + 1)) = emap (ks ++ [k]) := by
 unfold emap entriesOf
 rw [entsL_snoc, List.length_append]
 simp
theorem entsL_get : ∀ (ks : List ByteArray) (n j : Nat) (k : ByteArray), ks[j]? = some k → (entsL n ks)[j]? = some { key := .string k, val := .agg #[.bool true], born := n + j }
 | [], n, j, k, h => by simp at h
 | x :: ks, n, 0, k, h => by
  simp at h
  subst h
  rfl
 | x :: ks, n, j + 1, k, h => by
  have := entsL_get ks (n + 1) j k (by simpa using h)
  simp only [entsL, List.getElem?_cons_succ, this]
  rw [show n + 1 + j = n + (j + 1) by omega]
theorem emap_old {ks : List ByteArray} {j : Nat} {k : ByteArray} (h : ks[j]? = some k) : Know.exact (.map ((entriesOf ks).modify j fun e => { e with key := .string k, val := .agg #[.bool true] }) ks.length) = emap ks := by
 have e : (entriesOf ks).modify j (fun e => { e with key := .string k, val := .agg #[.bool true] }) = entriesOf ks := by
  apply Array.ext_getElem?
  intro i
  rw [Array.getElem?_modify]
  by_cases hi : j = i
  ·subst hi
   rw [if_pos rfl]
   have := entsL_get ks 0 j k h
   unfold entriesOf
   rw [List.getElem?_toArray, this]
   rfl
  ·rw [if_neg hi]
 unfold emap
 rw [e]
theorem ents_same {ks : List ByteArray} {j : Nat} {k : ByteArray} (h : ks[j]? = some k) : Instr.sameBits 10000 ((((entriesOf ks)[j]?).map (·.key)).getD (.string k)) (.string k) = true := by
 have := entsL_get ks 0 j k h
 unfold entriesOf
 rw [List.getElem?_toArray, this]
 simp [Instr.sameBits, beq_toListBytes]
theorem find_ents (k : ByteArray) : ∀ (ks : List ByteArray) (n i : Nat), (inB ks k = false ∧ Instr.findNow .string (.string k) (entsL n ks) i = some none) ∨ (inB ks k = true ∧ ∃ j, ks[j]? = some k ∧ Instr.findNow .string (.string k) (entsL n ks) i = some (some (i + j, .agg #[.bool true])))
 | [], n, i => .inl ⟨rfl, rfl⟩
 | x :: ks, n, i => by
  have ih := find_ents k ks (n + 1) (i + 1)
  simp only [entsL, Instr.findNow, Instr.sameNow, beq_toListBytes, inB, List.any_cons, eqB]
  by_cases h : (k.toList == x.toList) = true
  ·right
   have hx : x = k := by
    rw [toList_beq, beq_iff_eq] at h
    exact (bs_inj h).symm
   subst hx
   refine ⟨by simp, 0, rfl, by simp⟩
  ·have h' : (k.toList == x.toList) = false := by simpa using h
   have h2 : (x.toList == k.toList) = false := by
    rw [toList_beq] at h' ⊢
    simp only [beq_eq_false_iff_ne, ne_eq] at h' ⊢
    exact fun e => h' e.symm
   rw [h', h2]
   rcases ih with ⟨h3, h4⟩ | ⟨h3, j, h4, h5⟩
   ·left
    exact ⟨by simpa [inB, eqB] using h3, h4⟩
   ·right
    refine ⟨by simpa [inB, eqB] using h3, j + 1, by simpa using h4, ?_⟩
    simp only [h5]
    rw [show i + 1 + j = i + (j + 1) by omega]
theorem find_no {ks : List ByteArray} {k : ByteArray} (h : inB ks k = false) : Instr.findNow .string (.string k) (entriesOf ks).toList 0 = some none := by
 rcases find_ents k ks 0 0 with ⟨_, h2⟩ | ⟨h2, _⟩
 ·exact h2
 ·rw [h] at h2; cases h2
theorem find_yes {ks : List ByteArray} {k : ByteArray} (h : inB ks k = true) : ∃ j, ks[j]? = some k ∧ Instr.findNow .string (.string k) (entriesOf ks).toList 0 = some (some (j, .agg #[.bool true])) := by
 rcases find_ents k ks 0 0 with ⟨h2, _⟩ | ⟨_, j, h2, h3⟩
 ·rw [h] at h2; cases h2
 ·exact ⟨j, h2, by rw [Nat.zero_add] at h3; exact h3⟩
theorem find_any (ks : List ByteArray) (k : ByteArray) : ∃ rr, Instr.findNow .string (.string k) (entriesOf ks).toList 0 = some rr ∧ hit (.agg #[.bool false]) rr = .agg #[.bool (inB ks k)] := by
 cases h : inB ks k with
 | false => exact ⟨_, find_no h, rfl⟩
 | true => obtain ⟨j, _, h2⟩ := find_yes h; exact ⟨_, h2, rfl⟩
def holdsAt (r : Rl) (i : Int) : Bool := decide (0 ≤ i) && (match r.body[i.toNat]? with | some l => decide (l.kind = 1) | none => false)
theorem hold_no1 {r : Rl} {i : Int} (h : ¬ 0 ≤ i) : holdsAt r i = false := by unfold holdsAt; rw [decide_eq_false h]; rfl
theorem hold_of {r : Rl} {i : Int} {y : Lt} (h : 0 ≤ i) (hy : r.body[i.toNat]? = some y) : holdsAt r i = decide (y.kind = 1) := by unfold holdsAt; rw [decide_eq_true h, hy]; rfl
def kStep (r : Rl) (ks : List ByteArray) (p : Int × Sl) : List ByteArray := bif (holdsAt r p.1 && !emp p.2.v) then (bif inB ks p.2.v then ks else ks ++ [p.2.v]) else ks
def keysTo (r : Rl) (j : Nat) : List ByteArray := ((placesL r).take j).foldl (kStep r) []
theorem keysTo_succ {r : Rl} {j : Nat} {p : Int × Sl} (h : (placesL r)[j]? = some p) : keysTo r (j + 1) = kStep r (keysTo r j) p := by
 unfold keysTo
 rw [List.take_add_one, h, List.foldl_append]
 rfl
theorem key_new {r : Rl} {j : Nat} {i : Int} {s : Sl} {ks : List ByteArray} (hI : ks = keysTo r j) (h : (placesL r)[j]? = some (i, s)) (hc : (holdsAt r i && !emp s.v) = true) (hk : inB ks s.v = false) : ks ++ [s.v] = keysTo r (j + 1) := by
 rw [keysTo_succ h, ← hI, kStep, hc, hk]; rfl
theorem key_old {r : Rl} {j : Nat} {i : Int} {s : Sl} {ks : List ByteArray} (hI : ks = keysTo r j) (h : (placesL r)[j]? = some (i, s)) (hc : (holdsAt r i && !emp s.v) = true) (hk : inB ks s.v = true) : ks = keysTo r (j + 1) := by
 rw [keysTo_succ h, ← hI, kStep, hc, hk]; rfl
theorem key_not {r : Rl} {j : Nat} {i : Int} {s : Sl} {ks : List ByteArray} (hI : ks = keysTo r j) (h : (placesL r)[j]? = some (i, s)) (hc : (holdsAt r i && !emp s.v) = false) : ks = keysTo r (j + 1) := by
 rw [keysTo_succ h, ← hI, kStep, hc]; rfl
def placeOk (ks : List ByteArray) (p : Int × Sl) : Bool := emp p.2.v || inB ks p.2.v
theorem place_ok {ks : List ByteArray} {i : Int} {s : Sl} (h : (!emp s.v && !(inB ks s.v)) = false) : placeOk ks (i, s) = true := by
 unfold placeOk
 show (emp s.v || inB ks s.v) = true
 generalize emp s.v = a at *
 generalize inB ks s.v = b at *
 cases a <;> cases b <;> first | rfl | cases h
theorem place_bad {ks : List ByteArray} {i : Int} {s : Sl} (h : (!emp s.v && !(inB ks s.v)) = true) : placeOk ks (i, s) = false := by
 unfold placeOk
 show (emp s.v || inB ks s.v) = false
 generalize emp s.v = a at *
 generalize inB ks s.v = b at *
 cases a <;> cases b <;> first | rfl | cases h
def chkE (r : Rl) : Int := bif mayRl r then (bif (placesL r).all (placeOk (keysTo r (placesL r).length)) then 0 else 5) else 2
theorem plFrom_inv : ∀ (ls : List Lt) (n j : Nat) (i : Int) (s : Sl), (plFrom n ls)[j]? = some (i, s) → ∃ k y, i = ((n + k : Nat) : Int) ∧ ls[k]? = some y
 | [], n, j, i, s, h => by simp [plFrom] at h
 | l :: ls, n, j, i, s, h => by
  rw [plFrom] at h
  rcases Nat.lt_or_ge j ((slotsOf l).map (fun s => ((n : Int), s))).length with hj | hj
  ·rw [List.getElem?_append_left hj, List.getElem?_map, Option.map_eq_some_iff] at h
   obtain ⟨t, _, h2⟩ := h
   cases h2
   exact ⟨0, l, rfl, rfl⟩
  ·rw [List.getElem?_append_right hj] at h
   obtain ⟨k, y, h1, h2⟩ := plFrom_inv ls (n + 1) _ i s h
   exact ⟨k + 1, y, by rw [h1]; omega, by simpa using h2⟩
theorem places_inv {r : Rl} {j : Nat} {i : Int} {s : Sl} (h : (placesL r)[j]? = some (i, s)) : ∃ y, 0 ≤ i → r.body[i.toNat]? = some y := by
 unfold placesL at h
 rcases Nat.lt_or_ge j (hdL r).length with hj | hj
 ·rw [List.getElem?_append_left hj] at h
  refine ⟨⟨0, ⟨s, s, s⟩, s, s⟩, fun h0 => ?_⟩
  have hj3 : j < 3 := hj
  rcases (by omega : j = 0 ∨ j = 1 ∨ j = 2) with rfl | rfl | rfl <;>
  ·simp [hdL] at h
   omega
 ·rw [List.getElem?_append_right hj] at h
  obtain ⟨k, y, h1, h2⟩ := plFrom_inv _ _ _ _ _ h
  refine ⟨y, fun _ => ?_⟩
  rw [h1]
  simpa using h2
theorem check_Rule (w0 : World) (G : Hp) (r : Rl) (A : Option Addr) (c : Nat) (hl : LtsAt w0 G A r.body) (hm : r.body.length ≤ 1048576) (h : RlOk r) : GC Tryz.prog w0 30 #[.agg (RlC r.head (.slice A r.body.length c)).toArray] (fun v G' => v = .int .i64 (chkE r) ∧ G = G') G := by
 refine GC.body (args := [.agg (RlC r.head (.slice A r.body.length c)).toArray]) Tryz.func30 rfl (by kernel_rfl) rfl ?_
 refine GW.seq ?_
 refine GW.region ?_
 refine R.box ⟨Z,Z,Z,Z⟩ Z fun b1 => ?_
 refine R.alloc ⟨Z,Z,Z,Z⟩ Tryz.zeroValue42 fun b2 => ?_
 refine GOps.nil ?_
 refine GW.seq ?_
 refine GW.seq ?_
 refine GW.region ?_
 refine R.load_own (cs := RlC r.head (.slice A r.body.length c)) ⟨Z,Z,Z,Z⟩ Z Tryz.underlying31 Z Tryz.sizeOf31 memG (by rfl) (by rfl) ?_
 refine R.call ⟨Z,Z,Z,Z⟩ Z (vs := [_]) Z ((rules_May _ _ r A c ((hl.mono (sub_cons _)).mono (sub_cons _)) hm h).mono ?_)
 rintro _ _ ⟨rfl, rfl⟩
 refine R.not ⟨Z,Z,Z,Z⟩ Z ?_
 refine GOps.nil ?_
 refine GW.ite Z (fun hc1 => ?_) (fun hc1 => ?_)
 ·try simp only [dcQ] at hc1
  refine GW.seq ?_
  refine GW.region ?_
  refine R.storeAll (G1 := []) Z Z Z Z Z Tryz.sizeOf42 Z Z Z Z ?_
  refine GOps.nil ?_
  refine GW.ret (Out.of (resCell Z Z Tryz.underlying42 Z (.own' memG Z)) hsA ⟨?_, Z⟩)
  unfold chkE; first | (rw [show mayRl r = false from hc1]; rfl) | (rw [show mayRl r = true from hc1, ← hI, hbad]; rfl) | (rw [show mayRl r = true from hc1, ← hI, all_of_take (placeOk ks) (placesL r) _ (Nat.le_refl _) hI2]; rfl)
 ·try simp only [dcQ] at hc1
  refine GW.skip ?_
  refine GW.seq ?_
  refine GW.region ?_
  refine R.makeMap ⟨Z,Z,Z,Z⟩ fun b11 => ?_
  refine R.alloc ⟨Z,Z,Z,Z⟩ Tryz.zeroValue119 fun b3 => ?_
  refine R.storeAll (G1 := []) Z Z Z Z Z Tryz.sizeOf119 Z Z Z Z ?_
  refine GOps.nil ?_
  refine GW.seq ?_
  refine GW.seq ?_
  refine GW.region ?_
  refine R.load_own (cs := RlC r.head (.slice A r.body.length c)) ⟨Z,Z,Z,Z⟩ Z Tryz.underlying31 Z Tryz.sizeOf31 memG (by rfl) (by rfl) ?_
  refine R.call ⟨Z,Z,Z,Z⟩ Z (vs := [_]) Z ((check_places _ _ r A c).mono ?_)
  rintro _ _ ⟨bP, rfl, rfl⟩
  refine GOps.nil ?_
  refine GW.block ?_
  refine GW.rangeFunc Z fun D0 l0 r0 hp0 ha0 hb0 hfr0 => ?_
  refine GC.mono (places1 w0 l0 bP r A c (fun ks => [(l0, lrec r0 .ready none), (D0, .exact (.deferred (some []))), (bP, .exact (.cells (RlC r.head (.slice A r.body.length c)).toArray 31 (0, 0))), (b3, .exact (.cells #[.map (some b11)] 119 (0, 0))), (b11, emap ks), (b2, .exact (.cells #[.int .i64 0] 42 (0, 0))), (b1, .exact (.cells (RlC r.head (.slice A r.body.length c)).toArray 31 (0, 0)))]) (fun j ks => ks = keysTo r j) (fun _ => False) G [] hm (fun ks => .own memG 0 _ (fun j v hv => by simpa using hv)) hl rfl ?_) ?_
  ·intro F' j ks i s hF hI hn; obtain ⟨y, hyb⟩ := places_inv hn; show GY _ _ _ _ _ ((l0, lrec r0 .ready none) :: (D0, .exact (.deferred (some []))) :: (bP, .exact (.cells (RlC r.head (.slice A r.body.length c)).toArray 31 (0, 0))) :: (b3, .exact (.cells #[.map (some b11)] 119 (0, 0))) :: (b11, emap ks) :: (b2, .exact (.cells #[.int .i64 0] 42 (0, 0))) :: (b1, .exact (.cells (RlC r.head (.slice A r.body.length c)).toArray 31 (0, 0))) :: F')
   refine GY.intro hfr0 (by rw [hp0]; rfl) (by rw [hp0]; rfl) ?_
   rw [hp0, ha0, hb0]
   refine GW.seq ?_
   refine GW.region ?_
   refine R.assign ⟨Z,Z,Z,Z⟩ Z ?_
   refine GOps.nil ?_
   refine GW.region ?_
   refine R.alloc ⟨Z,Z,Z,Z⟩ Tryz.zeroValue26 fun b5 => ?_
   refine R.storeAll (G1 := []) Z Z Z Z Z Tryz.sizeOf26 Z Z Z Z ?_
   refine GOps.nil ?_
   refine ⟨_, Hs.perm (List.Perm.swap _ _ _), ?_⟩
   refine GW.block ?_
   refine GW.cutS 31 (holdsAt r i && !emp s.v) [(3, .pointer (some ⟨b3, 0, none⟩)), (5, .pointer (some ⟨b5, 0, none⟩))] ?_ ?_
   ·refine R.move ⟨Z,Z,Z,Z⟩ Z ?_
    refine R.geq ⟨Z,Z,Z,Z⟩ Z Z ?_
    refine R.move ⟨Z,Z,Z,Z⟩ Z ?_
    refine GOps.caseB 18 Z (fun hg2 => ?_) (fun hg2 => ?_)
    ·try simp only [dcQ] at hg2
     ·have hyl := hyb (by omega)
      have hlt : i.toNat < r.body.length := (List.getElem?_eq_some_iff.1 hyl).1
      obtain ⟨bb, oo, cs, rfl, rfl, hrd⟩ := hl i.toNat y hyl
      refine R.fieldAddr ⟨Z,Z,Z,Z⟩ Z Tryz.underlying31 Z Tryz.sizeOf29 ?_
      refine R.load1 ⟨Z,Z,Z,Z⟩ Z Tryz.underlying29 Z (.own' memG (by rfl)) ?_
      refine R.move ⟨Z,Z,Z,Z⟩ Z ?_
      refine R.indexAddrS ⟨Z,Z,Z,Z⟩ Z Z Tryz.underlying29 Tryz.sizeOf89 (by omega) (by omega) ?_
      refine R.fieldAddr ⟨Z,Z,Z,Z⟩ Z Tryz.underlying89 Z Tryz.sizeOf87 ?_
      refine R.load1 ⟨Z,Z,Z,Z⟩ Z Tryz.underlying87 Z (Rd.mono (fun z hz => by repeat (first | exact hF.1 z hz | apply List.mem_cons_of_mem)) (hrd 0 _ Z)) ?_
      refine R.eqI ⟨Z,Z,Z,Z⟩ Z Z ?_
      refine R.pick_t ⟨Z,Z,Z,Z⟩ Z Z ?_
      refine R.move ⟨Z,Z,Z,Z⟩ Z ?_
      refine GOps.caseB 27 Z (fun hg3 => ?_) (fun hg3 => ?_)
      ·try simp only [dcQ] at hg3
       refine R.fieldAddr ⟨Z,Z,Z,Z⟩ Z Tryz.underlying26 Z Tryz.sizeOf9 ?_
       refine R.load1 ⟨Z,Z,Z,Z⟩ Z Tryz.underlying9 Z (.own' memG (by rfl)) ?_
       refine R.neS ⟨Z,Z,Z,Z⟩ Z Z ?_
       refine R.pick_t ⟨Z,Z,Z,Z⟩ Z Z ?_
       refine GOps.nil ?_
       exact ⟨rfl, rfl, keepG, by first | exact Hs.refl _ | exact Hs.tl _, vbs (by first | (rw [hold_no1 (by omega)]; rfl) | (rw [hold_of (by omega) hyl, decide_eq_false (by assumption)]; rfl) | (rw [hold_of (by omega) hyl, decide_eq_true (by assumption)]; rfl))⟩
      ·try simp only [dcQ] at hg3
       refine GOps.skip Z Z Z ?_
       refine GOps.skip Z Z Z ?_
       refine GOps.skip Z Z Z ?_
       refine R.pick_f ⟨Z,Z,Z,Z⟩ Z Z ?_
       refine GOps.nil ?_
       exact ⟨rfl, rfl, keepG, by first | exact Hs.refl _ | exact Hs.tl _, vbs (by first | (rw [hold_no1 (by omega)]; rfl) | (rw [hold_of (by omega) hyl, decide_eq_false (by assumption)]; rfl) | (rw [hold_of (by omega) hyl, decide_eq_true (by assumption)]; rfl))⟩
    ·try simp only [dcQ] at hg2
     refine GOps.skip Z Z Z ?_
     refine GOps.skip Z Z Z ?_
     refine GOps.skip Z Z Z ?_
     refine GOps.skip Z Z Z ?_
     refine GOps.skip Z Z Z ?_
     refine GOps.skip Z Z Z ?_
     refine GOps.skip Z Z Z ?_
     refine R.pick_f ⟨Z,Z,Z,Z⟩ Z Z ?_
     refine R.move ⟨Z,Z,Z,Z⟩ Z ?_
     refine GOps.skip Z Z Z ?_
     refine GOps.skip Z Z Z ?_
     refine GOps.skip Z Z Z ?_
     refine R.pick_f ⟨Z,Z,Z,Z⟩ Z Z ?_
     refine GOps.nil ?_
     exact ⟨rfl, rfl, keepG, by first | exact Hs.refl _ | exact Hs.tl _, vbs (by first | (rw [hold_no1 (by omega)]; rfl) | (rw [hold_of (by omega) hyl, decide_eq_false (by assumption)]; rfl) | (rw [hold_of (by omega) hyl, decide_eq_true (by assumption)]; rfl))⟩
   ·refine GW.ite Z (fun hc4 => ?_) (fun hc4 => ?_)
    ·try simp only [dcQ] at hc4
     refine GW.region ?_
     refine R.load1 ⟨Z,Z,Z,Z⟩ Z Tryz.underlying119 Z (.own' memG (by rfl)) ?_
     refine R.fieldAddr ⟨Z,Z,Z,Z⟩ Z Tryz.underlying26 Z Tryz.sizeOf9 ?_
     refine R.load1 ⟨Z,Z,Z,Z⟩ Z Tryz.underlying9 Z (.own' memG (by rfl)) ?_
     cases hk : inB ks s.v
     ·refine R.build (vs := [(0, _)]) (cells := #[.bool true]) ⟨Z,Z,Z,Z⟩ Z (fun w => run_build w 123 _ _ (by kernel_rfl)) ?_
      refine R.putNew (key := .string s.v) (v := .agg #[.bool true]) (G1 := [_, _, _, _, _]) (.inl Z) Z Z Z Z Z Tryz.underlying119 Tryz.underlying9 Z Z (find_no hk) ?_
      rw [emap_push]
      refine GOps.nil ?_
      first | exact ⟨_, Hs.swapDrop _ _ _, .inl ⟨rfl, ks ++ [s.v], key_new hI hn (by assumption) hk, rfl⟩⟩ | exact ⟨_, Hs.swapDrop _ _ _, .inl ⟨rfl, ks, key_old hI hn (by assumption) hk, rfl⟩⟩ | exact ⟨_, Hs.swapDrop _ _ _, .inl ⟨rfl, ks, key_not hI hn (by assumption), rfl⟩⟩
     ·obtain ⟨jk, hjk, hfk⟩ := find_yes hk
      refine R.build (vs := [(0, _)]) (cells := #[.bool true]) ⟨Z,Z,Z,Z⟩ Z (fun w => run_build w 123 _ _ (by kernel_rfl)) ?_
      refine R.putOld (key := .string s.v) (v := .agg #[.bool true]) (G1 := [_, _, _, _, _]) (.inl Z) Z Z Z Z Z Tryz.underlying119 Tryz.underlying9 Z Z (hfk) (ents_same hjk) ?_
      rw [emap_old hjk]
      refine GOps.nil ?_
      first | exact ⟨_, Hs.swapDrop _ _ _, .inl ⟨rfl, ks ++ [s.v], key_new hI hn (by assumption) hk, rfl⟩⟩ | exact ⟨_, Hs.swapDrop _ _ _, .inl ⟨rfl, ks, key_old hI hn (by assumption) hk, rfl⟩⟩ | exact ⟨_, Hs.swapDrop _ _ _, .inl ⟨rfl, ks, key_not hI hn (by assumption), rfl⟩⟩
    ·try simp only [dcQ] at hc4
     refine GW.skip ?_
     first | exact ⟨_, Hs.swapDrop _ _ _, .inl ⟨rfl, ks ++ [s.v], key_new hI hn (by assumption) hk, rfl⟩⟩ | exact ⟨_, Hs.swapDrop _ _ _, .inl ⟨rfl, ks, key_old hI hn (by assumption) hk, rfl⟩⟩ | exact ⟨_, Hs.swapDrop _ _ _, .inl ⟨rfl, ks, key_not hI hn (by assumption), rfl⟩⟩
  ·rintro _ _ (⟨ks, F', hI, hF, rfl⟩ | hF)
   ·refine ⟨.ready, none, _, by simp, Hs.refl _, ?_⟩
    show GW _ _ _ _ _ ((D0, .exact (.deferred (some []))) :: (bP, .exact (.cells (RlC r.head (.slice A r.body.length c)).toArray 31 (0, 0))) :: (b3, .exact (.cells #[.map (some b11)] 119 (0, 0))) :: (b11, emap ks) :: (b2, .exact (.cells #[.int .i64 0] 42 (0, 0))) :: (b1, .exact (.cells (RlC r.head (.slice A r.body.length c)).toArray 31 (0, 0))) :: F')
    refine GW.seq ?_
    refine GW.seq ?_
    refine GW.region ?_
    refine R.load_own (cs := RlC r.head (.slice A r.body.length c)) ⟨Z,Z,Z,Z⟩ Z Tryz.underlying31 Z Tryz.sizeOf31 memG (by rfl) (by rfl) ?_
    refine R.call ⟨Z,Z,Z,Z⟩ Z (vs := [_]) Z ((check_places _ _ r A c).mono ?_)
    rintro _ _ ⟨bQ, rfl, rfl⟩
    refine GOps.nil ?_
    refine GW.block ?_
    refine GW.rangeFunc Z fun D1 l1 r1 hp1 ha1 hb1 hfr1 => ?_
    refine GC.mono (places1 w0 l1 bQ r A c (fun _ : Unit => [(l1, lrec r1 .ready none), (D1, .exact (.deferred (some []))), (bQ, .exact (.cells (RlC r.head (.slice A r.body.length c)).toArray 31 (0, 0))), (D0, .exact (.deferred (some []))), (bP, .exact (.cells (RlC r.head (.slice A r.body.length c)).toArray 31 (0, 0))), (b3, .exact (.cells #[.map (some b11)] 119 (0, 0))), (b11, emap ks), (b2, .exact (.cells #[.int .i64 0] 42 (0, 0))), (b1, .exact (.cells (RlC r.head (.slice A r.body.length c)).toArray 31 (0, 0)))]) (fun j _ => ((placesL r).take j).all (placeOk ks) = true) (fun G' => ∃ F'', G' = (l1, lrec r1 .done (some .ret)) :: (D1, .exact (.deferred (some []))) :: (bQ, .exact (.cells (RlC r.head (.slice A r.body.length c)).toArray 31 (0, 0))) :: (D0, .exact (.deferred (some []))) :: (bP, .exact (.cells (RlC r.head (.slice A r.body.length c)).toArray 31 (0, 0))) :: (b3, .exact (.cells #[.map (some b11)] 119 (0, 0))) :: (b11, emap ks) :: (b2, .exact (.cells #[.int .i64 5] 42 (0, 0))) :: (b1, .exact (.cells (RlC r.head (.slice A r.body.length c)).toArray 31 (0, 0))) :: F'' ∧ (placesL r).all (placeOk ks) = false ∧ Ext G F'') F' () hm (fun _ => .own memG 0 _ (fun j v hv => by simpa using hv)) (hl.mono hF.1) rfl ?_) ?_
    ·intro F'' j _ i s hF2 hI2 hn; show GY _ _ _ _ _ ((l1, lrec r1 .ready none) :: (D1, .exact (.deferred (some []))) :: (bQ, .exact (.cells (RlC r.head (.slice A r.body.length c)).toArray 31 (0, 0))) :: (D0, .exact (.deferred (some []))) :: (bP, .exact (.cells (RlC r.head (.slice A r.body.length c)).toArray 31 (0, 0))) :: (b3, .exact (.cells #[.map (some b11)] 119 (0, 0))) :: (b11, emap ks) :: (b2, .exact (.cells #[.int .i64 0] 42 (0, 0))) :: (b1, .exact (.cells (RlC r.head (.slice A r.body.length c)).toArray 31 (0, 0))) :: F'')
     refine GY.intro hfr1 (by rw [hp1]; rfl) (by rw [hp1]; rfl) ?_
     rw [hp1, ha1, hb1]
     refine GW.region ?_
     refine R.alloc ⟨Z,Z,Z,Z⟩ Tryz.zeroValue26 fun b7 => ?_
     refine R.storeAll (G1 := []) Z Z Z Z Z Tryz.sizeOf26 Z Z Z Z ?_
     refine GOps.nil ?_
     refine ⟨_, Hs.perm (List.Perm.swap _ _ _), ?_⟩
     refine GW.block ?_
     refine GW.cutS 50 (!emp s.v && !(inB ks s.v)) [(2, .pointer (some ⟨b2, 0, none⟩))] ?_ ?_
     ·refine R.fieldAddr ⟨Z,Z,Z,Z⟩ Z Tryz.underlying26 Z Tryz.sizeOf9 ?_
      refine R.load1 ⟨Z,Z,Z,Z⟩ Z Tryz.underlying9 Z (.own' memG (by rfl)) ?_
      refine R.neS ⟨Z,Z,Z,Z⟩ Z Z ?_
      refine R.move ⟨Z,Z,Z,Z⟩ Z ?_
      refine GOps.caseB 43 Z (fun hg5 => ?_) (fun hg5 => ?_)
      ·try simp only [dcQ] at hg5
       refine R.load1 ⟨Z,Z,Z,Z⟩ Z Tryz.underlying119 Z (.own' memG (by rfl)) ?_
       refine R.fieldAddr ⟨Z,Z,Z,Z⟩ Z Tryz.underlying26 Z Tryz.sizeOf9 ?_
       refine R.load1 ⟨Z,Z,Z,Z⟩ Z Tryz.underlying9 Z (.own' memG (by rfl)) ?_
       ·obtain ⟨rr, hrr, hrv⟩ := find_any ks s.v
        refine R.lookup (r := rr) (v := .agg #[.bool (inB ks s.v)]) ⟨Z,Z,Z,Z⟩ Z Z Tryz.underlying119 Tryz.underlying9 Z Tryz.zeroValue123 memG (hrr) (hrv) ?_
        refine R.field1 ⟨Z,Z,Z,Z⟩ Z Tryz.underlying123 Z Tryz.underlying4 Z Z ?_
        refine R.not ⟨Z,Z,Z,Z⟩ Z ?_
        refine R.pick_t ⟨Z,Z,Z,Z⟩ Z Z ?_
        refine GOps.nil ?_
        exact ⟨rfl, rfl, keepG, by first | exact Hs.refl _ | exact Hs.tl _, vbs (by first | (rw [show emp s.v = false from hg5]; rfl) | (rw [show emp s.v = true from hg5]; rfl))⟩
      ·try simp only [dcQ] at hg5
       refine GOps.skip Z Z Z ?_
       refine GOps.skip Z Z Z ?_
       refine GOps.skip Z Z Z ?_
       refine GOps.skip Z Z Z ?_
       refine GOps.skip Z Z Z ?_
       refine GOps.skip Z Z Z ?_
       refine R.pick_f ⟨Z,Z,Z,Z⟩ Z Z ?_
       refine GOps.nil ?_
       exact ⟨rfl, rfl, keepG, by first | exact Hs.refl _ | exact Hs.tl _, vbs (by first | (rw [show emp s.v = false from hg5]; rfl) | (rw [show emp s.v = true from hg5]; rfl))⟩
     ·refine GW.ite Z (fun hc6 => ?_) (fun hc6 => ?_)
      ·try simp only [dcQ] at hc6
       refine GW.seq ?_
       refine GW.region ?_
       refine R.storeAll (G1 := [_, _, _, _, _, _, _, _]) Z Z Z Z Z Tryz.sizeOf42 Z Z Z Z ?_
       refine GOps.nil ?_
       refine GW.ret ?_
       exact ⟨_, Hs.swapDrop _ _ _, .inr ⟨rfl, F'', rfl, all_of_get _ _ j _ hn (place_bad (by assumption)), hF.trans hF2⟩⟩
      ·try simp only [dcQ] at hc6
       refine GW.skip ?_
       exact ⟨_, Hs.swapDrop _ _ _, .inl ⟨rfl, (), all_take_succ _ _ j _ hn hI2 (place_ok (by assumption)), rfl⟩⟩
    ·rintro _ _ (⟨_, F'', hI2, hF2, rfl⟩ | ⟨F'', rfl, hbad, hF2⟩)
     ·refine ⟨.ready, none, _, by simp, Hs.refl _, ?_⟩
      show GW _ _ _ _ _ ((D1, .exact (.deferred (some []))) :: (bQ, .exact (.cells (RlC r.head (.slice A r.body.length c)).toArray 31 (0, 0))) :: (D0, .exact (.deferred (some []))) :: (bP, .exact (.cells (RlC r.head (.slice A r.body.length c)).toArray 31 (0, 0))) :: (b3, .exact (.cells #[.map (some b11)] 119 (0, 0))) :: (b11, emap ks) :: (b2, .exact (.cells #[.int .i64 0] 42 (0, 0))) :: (b1, .exact (.cells (RlC r.head (.slice A r.body.length c)).toArray 31 (0, 0))) :: F'')
      have hE := hF.trans hF2
      refine GW.seq ?_
      refine GW.region ?_
      refine R.storeAll (G1 := [_, _, _, _, _, _]) Z Z Z Z Z Tryz.sizeOf42 Z Z Z Z ?_
      refine GOps.nil ?_
      refine GW.weak (Keeps.refl _) (G' := (D1, .exact (.deferred (some []))) :: (D0, .exact (.deferred (some []))) :: (b2, _) :: G) ((hE.2 [(D1, _), (bQ, _), (D0, _), (bP, _), (b3, _), (b11, _), (b2, _), (b1, _)]).trans (Hs.sub (by repeat (first | exact List.Sublist.refl _ | apply List.Sublist.cons_cons | apply List.Sublist.cons)))) ?_
      refine GW.ret (Out.of2 (resCell Z Z Tryz.underlying42 Z (.own' memG Z)) (Hs.tl _) ⟨?_, Z⟩)
      unfold chkE; first | (rw [show mayRl r = false from hc1]; rfl) | (rw [show mayRl r = true from hc1, ← hI, hbad]; rfl) | (rw [show mayRl r = true from hc1, ← hI, all_of_take (placeOk ks) (placesL r) _ (Nat.le_refl _) hI2]; rfl)
     ·have hE := hF2
      refine ⟨.done, some .ret, _, by simp, Hs.refl _, ?_⟩
      show GW _ .ret _ _ _ _
      refine GW.weak (Keeps.refl _) (G' := (D1, .exact (.deferred (some []))) :: (D0, .exact (.deferred (some []))) :: (b2, _) :: G) ((hE.2 [(D1, _), (bQ, _), (D0, _), (bP, _), (b3, _), (b11, _), (b2, _), (b1, _)]).trans (Hs.sub (by repeat (first | exact List.Sublist.refl _ | apply List.Sublist.cons_cons | apply List.Sublist.cons)))) ?_
      refine GW.ret (Out.of2 (resCell Z Z Tryz.underlying42 Z (.own' memG Z)) (Hs.tl _) ⟨?_, Z⟩)
      unfold chkE; first | (rw [show mayRl r = false from hc1]; rfl) | (rw [show mayRl r = true from hc1, ← hI, hbad]; rfl) | (rw [show mayRl r = true from hc1, ← hI, all_of_take (placeOk ks) (placesL r) _ (Nat.le_refl _) hI2]; rfl)
   ·exact hF.elim
end Go.Proofs.YtfddkcmooommeaaGreatDoor.Gl
end
section
namespace Go.Proofs.YtfddkcmooommeaaGreatDoor.Gl
set_option linter.unusedVariables false
set_option linter.unnecessarySimpa false
set_option linter.unusedSimpArgs false
theorem eqB_iff {s x : ByteArray} : eqB s x = true ↔ x = s := by
 unfold eqB
 rw [toList_beq, beq_iff_eq]
 exact ⟨bs_inj, fun h => by rw [h]⟩
theorem inB_iff {xs : List ByteArray} {s : ByteArray} : inB xs s = true ↔ s ∈ xs := by
 unfold inB
 rw [List.any_eq_true]
 constructor
 ·rintro ⟨x, hx, h⟩
  rw [eqB_iff] at h
  subst h
  exact hx
 ·intro h
  exact ⟨s, h, eqB_iff.2 rfl⟩
theorem kfold {r : Rl} {x : ByteArray} : ∀ (l : List (Int × Sl)) (ks : List ByteArray), x ∈ l.foldl (kStep r) ks ↔ x ∈ ks ∨ ∃ p ∈ l, holdsAt r p.1 = true ∧ emp p.2.v = false ∧ p.2.v = x
 | [], ks => by simp
 | p :: l, ks => by
  rw [List.foldl_cons, kfold l (kStep r ks p)]
  have hs : x ∈ kStep r ks p ↔ x ∈ ks ∨ (holdsAt r p.1 = true ∧ emp p.2.v = false ∧ p.2.v = x) := by
   unfold kStep
   cases h1 : holdsAt r p.1
   ·simp
   ·cases h2 : emp p.2.v
    ·cases h3 : inB ks p.2.v
     ·simp [eq_comm]
     ·have := inB_iff.1 h3
      simp only [Bool.not_false, Bool.and_self, cond_true, true_and]
      constructor
      ·exact Or.inl
      ·rintro (h | rfl)
       ·exact h
       ·exact this
    ·simp
  rw [hs]
  simp only [List.mem_cons, exists_eq_or_imp, or_assoc]
theorem dfold {x : ByteArray} : ∀ (q : List Sl) (out : List ByteArray), x ∈ q.foldl ddStep out ↔ x ∈ out ∨ ∃ s ∈ q, emp s.v = false ∧ s.v = x
 | [], out => by simp
 | s :: q, out => by
  rw [List.foldl_cons, dfold q (ddStep out s)]
  have hs : x ∈ ddStep out s ↔ x ∈ out ∨ (emp s.v = false ∧ s.v = x) := by
   unfold ddStep
   cases h2 : emp s.v
   ·cases h3 : inB out s.v
    ·simp [eq_comm]
    ·have := inB_iff.1 h3
     simp only [Bool.not_false, Bool.not_true, Bool.and_false, cond_false, true_and]
     constructor
     ·exact Or.inl
     ·rintro (h | rfl)
      ·exact h
      ·exact this
   ·simp
  rw [hs]
  simp only [List.mem_cons, exists_eq_or_imp, or_assoc]
theorem plFrom_mem : ∀ (ls : List Lt) (n : Nat) (p : Int × Sl), p ∈ plFrom n ls ↔ ∃ (k : Nat) (y : Lt), ls[k]? = some y ∧ p.1 = ((n + k : Nat) : Int) ∧ p.2 ∈ slotsOf y
 | [], n, p => by simp [plFrom]
 | l :: ls, n, p => by
  rw [plFrom, List.mem_append, plFrom_mem ls (n + 1) p, List.mem_map]
  constructor
  ·rintro (⟨s, hs, rfl⟩ | ⟨k, y, h1, h2, h3⟩)
   ·exact ⟨0, l, rfl, rfl, hs⟩
   ·exact ⟨k + 1, y, by simpa using h1, by rw [h2]; omega, h3⟩
  ·rintro ⟨k, y, h1, h2, h3⟩
   cases k with
   | zero =>
    simp at h1
    subst h1
    left
    exact ⟨p.2, h3, by rw [Nat.add_zero] at h2; exact Prod.ext h2.symm rfl⟩
   | succ k => exact .inr ⟨k, y, by simpa using h1, by rw [h2]; omega, h3⟩
theorem places_mem {r : Rl} {p : Int × Sl} : p ∈ placesL r ↔ (p.1 = -1 ∧ (p.2 = r.head.s0 ∨ p.2 = r.head.s1 ∨ p.2 = r.head.s2)) ∨ ∃ (k : Nat) (y : Lt), r.body[k]? = some y ∧ p.1 = (k : Int) ∧ p.2 ∈ slotsOf y := by
 unfold placesL hdL
 rw [List.mem_append, plFrom_mem]
 simp only [Nat.zero_add]
 refine or_congr ?_ Iff.rfl
 obtain ⟨i, s⟩ := p
 simp only [List.mem_cons, Prod.mk.injEq, List.not_mem_nil, or_false]
 constructor
 ·rintro (⟨h1, h2⟩ | ⟨h1, h2⟩ | ⟨h1, h2⟩)
  ·exact ⟨h1, .inl h2⟩
  ·exact ⟨h1, .inr (.inl h2)⟩
  ·exact ⟨h1, .inr (.inr h2)⟩
 ·rintro ⟨h1, h2 | h2 | h2⟩
  ·exact .inl ⟨h1, h2⟩
  ·exact .inr (.inl ⟨h1, h2⟩)
  ·exact .inr (.inr ⟨h1, h2⟩)
theorem all_mem {r : Rl} {s : Sl} : s ∈ allSlots r ↔ (s = r.head.s0 ∨ s = r.head.s1 ∨ s = r.head.s2) ∨ ∃ (k : Nat) (y : Lt), r.body[k]? = some y ∧ s ∈ slotsOf y := by
 unfold allSlots allTake
 rw [List.take_length, List.mem_append, List.mem_flatMap]
 refine or_congr (by simp) ?_
 constructor
 ·rintro ⟨y, h1, h2⟩
  obtain ⟨k, hk⟩ := List.getElem?_of_mem h1
  exact ⟨k, y, hk, h2⟩
 ·rintro ⟨k, y, h1, h2⟩
  exact ⟨y, List.mem_of_getElem? h1, h2⟩
theorem all_places {r : Rl} {s : Sl} : s ∈ allSlots r ↔ ∃ i, (i, s) ∈ placesL r := by
 rw [all_mem]
 constructor
 ·rintro (h | ⟨k, y, h1, h2⟩)
  ·exact ⟨-1, places_mem.2 (.inl ⟨rfl, h⟩)⟩
  ·exact ⟨k, places_mem.2 (.inr ⟨k, y, h1, rfl, h2⟩)⟩
 ·rintro ⟨i, h⟩
  rcases places_mem.1 h with ⟨_, h⟩ | ⟨k, y, h1, _, h2⟩
  ·exact .inl h
  ·exact .inr ⟨k, y, h1, h2⟩
theorem given_mem {r : Rl} {x : ByteArray} : x ∈ givenL r ↔ ∃ (k : Nat) (y : Lt), r.body[k]? = some y ∧ y.kind = 1 ∧ x ∈ patL y := by
 unfold givenL givenTake
 rw [List.take_length, List.mem_flatMap]
 constructor
 ·rintro ⟨y, h1, h2⟩
  obtain ⟨k, hk⟩ := List.getElem?_of_mem h1
  unfold givenOf at h2
  split at h2
  ·rename_i h3
   exact ⟨k, y, hk, h3, h2⟩
  ·cases h2
 ·rintro ⟨k, y, h1, h2, h3⟩
  refine ⟨y, List.mem_of_getElem? h1, ?_⟩
  unfold givenOf
  rw [if_pos h2]
  exact h3
theorem keys_mem {r : Rl} {x : ByteArray} (hx : emp x = false) : x ∈ keysTo r (placesL r).length ↔ x ∈ givenL r := by
 unfold keysTo
 rw [List.take_length, kfold, given_mem]
 constructor
 ·rintro (h | ⟨⟨i, s⟩, h1, h2, h3, h4⟩)
  ·cases h
  ·rcases places_mem.1 h1 with ⟨hi, _⟩ | ⟨k, y, hk, hi, hs⟩
   ·simp only at hi
    subst hi
    rw [hold_no1 (by omega)] at h2
    cases h2
   ·simp only at hi hs h4 h2
    subst hi
    rw [hold_of (by omega) (by simpa using hk)] at h2
    have h2 : y.kind = 1 := by simpa using h2
    refine ⟨k, y, hk, h2, ?_⟩
    rw [slotsOf_t (.inl h2)] at hs
    subst h4
    simp only [List.mem_cons, List.not_mem_nil, or_false] at hs
    unfold patL
    rcases hs with rfl | rfl | rfl <;> simp
 ·rintro ⟨k, y, hk, h2, h3⟩
  right
  have hs : ∃ s ∈ slotsOf y, s.v = x := by
   rw [slotsOf_t (.inl h2)]
   unfold patL at h3
   simp only [List.mem_cons, List.not_mem_nil, or_false] at h3
   rcases h3 with rfl | rfl | rfl
   ·exact ⟨_, by simp, rfl⟩
   ·exact ⟨_, by simp, rfl⟩
   ·exact ⟨_, by simp, rfl⟩
  obtain ⟨s, hs1, hs2⟩ := hs
  refine ⟨((k : Int), s), places_mem.2 (.inr ⟨k, y, hk, rfl, hs1⟩), ?_, by simp only [hs2]; exact hx, hs2⟩
  simp only
  rw [hold_of (by omega) (by simpa using hk), decide_eq_true h2]
theorem chk_eq (r : Rl) : chkE r = ruleE r := by
 have h : (placesL r).all (placeOk (keysTo r (placesL r).length)) = (dd (allSlots r)).all (inB (givenL r)) := by
  rw [Bool.eq_iff_iff, List.all_eq_true, List.all_eq_true]
  constructor
  ·intro h x hx
   unfold dd at hx
   rw [dfold] at hx
   rcases hx with hx | ⟨s, h1, h2, rfl⟩
   ·cases hx
   ·obtain ⟨i, hi⟩ := all_places.1 h1
    have h3 := h _ hi
    unfold placeOk at h3
    simp only [h2, Bool.false_or] at h3
    exact inB_iff.2 ((keys_mem h2).1 (inB_iff.1 h3))
  ·rintro h ⟨i, s⟩ hp
   unfold placeOk
   simp only
   cases h2 : emp s.v with
   | true => rfl
   | false =>
    have h3 := h s.v (by unfold dd; rw [dfold]; exact .inr ⟨s, all_places.2 ⟨i, hp⟩, h2, rfl⟩)
    rw [Bool.false_or]
    exact inB_iff.2 ((keys_mem h2).2 (inB_iff.1 h3))
 unfold chkE ruleE
 rw [h]
theorem beq_toList_comm (a b : ByteArray) : (a.toList == b.toList) = (b.toList == a.toList) := by
 rw [Bool.eq_iff_iff]
 simp only [beq_iff_eq]
 exact eq_comm
end Go.Proofs.YtfddkcmooommeaaGreatDoor.Gl
end
section
namespace Go.Proofs.YtfddkcmooommeaaGreatDoor.Gl
open Go.RowKit Go.Shelf
set_option linter.unusedVariables false
set_option linter.unnecessarySimpa false
set_option linter.unusedSimpArgs false
def u8C (l : List Nat) : List Value := l.map fun c => Value.int .u8 (c : Nat)
def intC (l : List Nat) : List Value := l.map fun c => Value.int .i64 (c : Nat)
def u32C (l : List Nat) : List Value := l.map fun c => Value.int .u32 (c : Nat)
theorem u8C_get {l : List Nat} {i c : Nat} (h : l[i]? = some c) : (u8C l)[i]? = some (.int .u8 (c : Nat)) := by simp [u8C, h]
theorem intC_get {l : List Nat} {i c : Nat} (h : l[i]? = some c) : (intC l)[i]? = some (.int .i64 (c : Nat)) := by simp [intC, h]
theorem u32C_get {l : List Nat} {i c : Nat} (h : l[i]? = some c) : (u32C l)[i]? = some (.int .u32 (c : Nat)) := by simp [u32C, h]
theorem u8C_len (l : List Nat) : (u8C l).length = l.length := by simp [u8C]
theorem intC_len (l : List Nat) : (intC l).length = l.length := by simp [intC]
theorem u32C_len (l : List Nat) : (u32C l).length = l.length := by simp [u32C]
theorem u8C_app (l m : List Nat) : u8C (l ++ m) = u8C l ++ u8C m := by simp [u8C]
theorem intC_app (l m : List Nat) : intC (l ++ m) = intC l ++ intC m := by simp [intC]
theorem strC_u8 (s : ByteArray) : strC s = u8C (bs s) := rfl
theorem u8C_inv {l : List Nat} {i : Nat} {v : Value} (h : (u8C l)[i]? = some v) : ∃ c : Nat, l[i]? = some c ∧ v = .int .u8 (c : Nat) := by
 simp [u8C] at h
 obtain ⟨c, h1, h2⟩ := h
 exact ⟨c, h1, h2.symm⟩
theorem emp_size {s : ByteArray} (h : emp s = true) : s.size = 0 := by
 unfold emp at h
 rw [toList_beq, beq_iff_eq] at h
 rw [← bs_length, h]
 rfl
theorem mayT_facts {t : Tm} (h : mayT t = true) : 1 ≤ t.kind ∧ t.kind ≤ 5 ∧ t.text.size ≤ 4000 ∧ t.ext.size ≤ 4000 := by
 unfold mayT at h
 split at h
 ·simp only [iriS, bs_length, Bool.and_eq_true, decide_eq_true_eq] at h
  have := emp_size h.2
  omega
 split at h
 ·simp only [word, bs_length, Bool.and_eq_true, decide_eq_true_eq] at h
  have := emp_size h.2
  omega
 split at h
 ·simp only [valS, Bool.and_eq_true, decide_eq_true_eq] at h
  have := emp_size h.2
  omega
 split at h
 ·simp only [valS, tagS, bs_length, Bool.and_eq_true, decide_eq_true_eq] at h
  omega
 split at h
 ·simp only [valS, iriS, bs_length, Bool.and_eq_true, decide_eq_true_eq] at h
  omega
 ·cases h
theorem tmEq_iff {a b : Tm} : tmEq a b = true ↔ a = b := by
 obtain ⟨k, s, e⟩ := a
 obtain ⟨k', s', e'⟩ := b
 simp only [tmEq, toList_beq, Bool.and_true, Bool.and_eq_true, beq_iff_eq, Tm.mk.injEq]
 exact ⟨fun ⟨h1, h2, h3⟩ => ⟨h1, bs_inj h2, bs_inj h3⟩, fun ⟨h1, h2, h3⟩ => ⟨h1, by rw [h2], by rw [h3]⟩⟩
def packL (t : Tm) : List Nat := [t.kind.toNat, t.text.size / 256, t.text.size % 256] ++ (bs t.text ++ bs t.ext)
theorem packL_len (t : Tm) : (packL t).length = 3 + (t.text.size + t.ext.size) := by
 simp [packL, bs_length]
 omega
theorem packL_lt {t : Tm} (h : mayT t = true) : ∀ c ∈ packL t, c < 256 := by
 obtain ⟨h1, h2, h3, h4⟩ := mayT_facts h
 intro c hc
 simp only [packL, List.mem_append, List.mem_cons, List.not_mem_nil, or_false] at hc
 rcases hc with (rfl | rfl | rfl) | hc | hc
 ·omega
 ·omega
 ·omega
 ·obtain ⟨i, hi⟩ := List.getElem?_of_mem hc; exact bs_lt _ i c hi
 ·obtain ⟨i, hi⟩ := List.getElem?_of_mem hc; exact bs_lt _ i c hi
theorem packL_inj {a b : Tm} (ha : mayT a = true) (hb : mayT b = true) (h : packL a = packL b) : a = b := by
 obtain ⟨h1, h2, h3, h4⟩ := mayT_facts ha
 obtain ⟨g1, g2, g3, g4⟩ := mayT_facts hb
 obtain ⟨k, s, e⟩ := a
 obtain ⟨k', s', e'⟩ := b
 simp only [packL, List.cons_append, List.nil_append, List.cons.injEq] at h h1 h2 h3 h4 g1 g2 g3 g4
 obtain ⟨e1, e2, e3, e4⟩ := h
 have hs : s.size = s'.size := by omega
 have h5 := List.append_inj e4 (by rw [bs_length, bs_length, hs])
 have hk : k = k' := by omega
 rw [hk, bs_inj h5.1, bs_inj h5.2]
def bytesL (ts : List Tm) : List Nat := ts.flatMap packL
def endsL (ts : List Tm) : List Nat := (List.range ts.length).map fun i => (bytesL (ts.take (i + 1))).length
theorem endsL_get {ts : List Tm} {i : Nat} (h : i < ts.length) : (endsL ts)[i]? = some (bytesL (ts.take (i + 1))).length := by simp [endsL, h]
theorem bytes_succ {ts : List Tm} {n : Nat} {t : Tm} (h : ts[n]? = some t) : bytesL (ts.take (n + 1)) = bytesL (ts.take n) ++ packL t := by
 unfold bytesL
 rw [List.take_add_one, h, List.flatMap_append]
 simp
theorem bytes_app (ts us : List Tm) : bytesL (ts ++ us) = bytesL ts ++ bytesL us := by simp [bytesL]
theorem bytes_one (t : Tm) : bytesL [t] = packL t := by simp [bytesL]
theorem bytes_get {ts : List Tm} {n : Nat} {t : Tm} (h : ts[n]? = some t) {j c : Nat} (hj : (packL t)[j]? = some c) : (bytesL ts)[(bytesL (ts.take n)).length + j]? = some c := by
 have e : ts = ts.take (n + 1) ++ ts.drop (n + 1) := (List.take_append_drop _ _).symm
 have h1 : bytesL ts = (bytesL (ts.take n) ++ packL t) ++ bytesL (ts.drop (n + 1)) := by
  rw [← bytes_succ h, ← bytes_app, List.take_append_drop]
 have hl := (List.getElem?_eq_some_iff.1 hj).1
 rw [h1, List.getElem?_append_left (by rw [List.length_append]; omega), List.getElem?_append_right (by omega), Nat.add_sub_cancel_left]
 exact hj
theorem ends_app (ts : List Tm) (t : Tm) : endsL (ts ++ [t]) = endsL ts ++ [(bytesL (ts ++ [t])).length] := by
 unfold endsL
 rw [List.length_append, List.length_singleton, List.range_succ, List.map_append]
 congr 1
 ·refine List.map_congr_left fun i hi => ?_
  rw [List.take_append_of_le_length (by have := List.mem_range.1 hi; omega)]
 ·rw [List.map_singleton, List.take_of_length_le (by simp)]
theorem bytes_le {ts : List Tm} (hm : ∀ t ∈ ts, mayT t = true) : (bytesL ts).length ≤ ts.length * 8003 := by
 induction ts with
 | nil => simp [bytesL]
 | cons t ts ih =>
  have h1 := ih fun u hu => hm u (List.mem_cons_of_mem _ hu)
  obtain ⟨_, _, h3, h4⟩ := mayT_facts (hm t List.mem_cons_self)
  have h5 : bytesL (t :: ts) = packL t ++ bytesL ts := by simp [bytesL]
  rw [h5, List.length_append, packL_len, List.length_cons]
  omega
theorem take_le (ts : List Tm) (n : Nat) : (bytesL (ts.take n)).length ≤ (bytesL ts).length := by
 have : bytesL ts = bytesL (ts.take n) ++ bytesL (ts.drop n) := by rw [← bytes_app, List.take_append_drop]
 rw [this, List.length_append]
 omega
structure Raw (ts : List Tm) (va ve : Value) (Ha He : Hp) : Prop where
 ha : SlAt 1 5 (u8C (bytesL ts)) (bytesL ts).length va Ha
 he : SlAt 1 3 (intC (endsL ts)) ts.length ve He
 may : ∀ t ∈ ts, mayT t = true
 most : ts.length ≤ 1000
abbrev dictC (lim : Nat) (va ve : Value) (bt n : Nat) : Know := .exact (.cells #[.int .i64 (lim : Nat), va, ve, .slice (some ⟨bt, 0, none⟩) n n] 103 (0, 0))
abbrev tabC (tab : List Nat) : Know := .exact (.cells (u32C tab).toArray 35 (0, 0))
theorem SlAt.split {sz : Nat} {e : TypeId} {cs : List Value} {n : Nat} {v : Value} {H : Hp} (h : SlAt sz e cs n v H) : ∃ A c, v = .slice A n c ∧ n ≤ c := by
 cases h with
 | nil h0 hc => subst h0; exact ⟨none, 0, rfl, Nat.le_refl _⟩
 | row b cap hl hc => exact ⟨some ⟨b, 0, none⟩, cap, rfl, hc⟩
theorem tab_load {w0 : World} {G : Hp} {bt p n : Nat} {tab : List Nat} (hm : (bt, tabC tab) ∈ G) (h : tab[p]? = some n) : Rd w0 G bt (0 + p * 1) (.int .u32 (n : Nat)) := by
 refine .own hm ?_
 show (u32C tab).toArray[0 + p * 1]? = _
 rw [Nat.zero_add, Nat.mul_one, List.getElem?_toArray]
 exact u32C_get h
theorem row_load {w0 : World} {G : Hp} {b i m : Nat} {cs : List Value} {e : TypeId} {v : Value} (hm : (b, Know.row cs e m) ∈ G) (h : cs[i]? = some v) : Rd w0 G b (0 + i * 1) v := by
 refine .own hm ?_
 show cs[0 + i * 1]? = _
 rw [Nat.zero_add, Nat.mul_one]
 exact h
end Go.Proofs.YtfddkcmooommeaaGreatDoor.Gl
end
section
namespace Go.Proofs.YtfddkcmooommeaaGreatDoor.Gl
open Go.RowKit Go.Shelf
set_option linter.unusedVariables false
set_option linter.unnecessarySimpa false
set_option linter.unusedSimpArgs false
attribute [-simp] List.getD_eq_getElem?_getD
theorem u32_id (n : Nat) (h : n < 4294967296) : IntKind.u32.wrap (n : Int) = (n : Int) := by rw [IntKind.wrap_u32]; omega
theorem u32_sub (n m : Nat) (h : n < 4294967296) (h2 : m ≤ n) : IntKind.u32.wrap ((n : Int) - (m : Int)) = ((n - m : Nat) : Int) := by rw [IntKind.wrap_u32]; omega
section
variable {X : Cx} {Q : Post} {fr : Fr} {ds : List Deferred} {G : Hp} {ops : Array Oper} {o : Oper} {rest : List Oper} {d : Nat}
theorem R.xor {t u : TypeId} {x y : Operand} {k : IntKind} {m n r : Int} (h : At X ops fr o (.binOp .xor t x y u) d) (hx : evO fr x = some (.int k m)) (hy : evO fr y = some (.int k n)) (hr : Go.bits .xor k m n = r)
  (K : GOps X ops Q rest ((d, .int k r) :: fr) ds G) : GOps X ops Q (o :: rest) fr ds G := R.bits (.inr (.inr (.inl rfl))) h hx hy hr K
end
theorem byte_load {w0 : World} {G : Hp} {b f i c : Nat} {p : List Nat} (h : Rds w0 G b f (u8C p)) (hx : p[i]? = some c) : Rd w0 G b (f + i * 1) (.int .u8 (c : Nat)) := by rw [Nat.mul_one]; exact h i _ (u8C_get hx)
theorem hash_succ {p : List Nat} {i c : Nat} (hx : p[i]? = some c) : IntKind.u32.wrap (Go.bits .xor .u32 (hashL (p.take i)) (c : Int) * 16777619) = hashL (p.take (i + 1)) := by
 unfold hashL
 rw [List.take_add_one, hx, List.foldl_append]
 rfl
theorem hash_range (p : List Nat) : 0 ≤ hashL p ∧ hashL p < 4294967296 := by
 unfold hashL
 rw [← List.reverse_reverse p, List.foldl_reverse]
 cases p.reverse with
 | nil => simp
 | cons c l =>
  simp only [List.foldr_cons, hstep]
  rw [IntKind.wrap_u32]
  omega
theorem hash_mask (p : List Nat) (k : Nat) (hk : k ≤ 62) : Go.bits .and .i64 (hashL p) ((2 ^ k - 1 : Nat) : Int) = ((home k p : Nat) : Int) := by
 obtain ⟨h1, h2⟩ := hash_range p
 have := and_mask (hashL p).toNat k (by omega) hk
 rw [Int.toNat_of_nonneg h1] at this
 exact this
theorem step_mask (k h j : Nat) (hk : k ≤ 20) : Go.bits .and .i64 ((((h + j) % 2 ^ k + 1 : Nat)) : Int) ((2 ^ k - 1 : Nat) : Int) = (((h + (j + 1)) % 2 ^ k : Nat) : Int) := by
 have hp : 2 ^ k ≤ 2 ^ 20 := Nat.pow_le_pow_right (by decide) hk
 have hpos : 0 < 2 ^ k := Nat.pow_pos (by decide)
 have hm := Nat.mod_lt (h + j) hpos
 rw [and_mask _ k (by omega) (by omega), Nat.mod_add_mod]
 rfl
theorem len_mask {n k : Nat} (h : n = 2 ^ k) (hk : k ≤ 20) : IntKind.i64.wrap ((n : Int) - 1) = ((2 ^ k - 1 : Nat) : Int) := by
 have hp : 2 ^ k ≤ 2 ^ 20 := Nat.pow_le_pow_right (by decide) hk
 have hpos : 0 < 2 ^ k := Nat.pow_pos (by decide)
 rw [h, wrap64_id (by omega) (by omega)]
 omega
theorem strOf_beq {l m : List Nat} (h1 : ∀ c ∈ l, c < 256) (h2 : ∀ c ∈ m, c < 256) : ((strOf l).toList == (strOf m).toList) = (l == m) := by
 rw [toList_beq, bs_strOf h1, bs_strOf h2]
theorem ends_pred {ts : List Tm} {n : Nat} (h1 : 1 ≤ n) (h2 : n ≤ ts.length) : (endsL ts)[n - 1]? = some (bytesL (ts.take n)).length := by
 rw [endsL_get (by omega), show n - 1 + 1 = n by omega]
theorem at_leaf {w0 : World} {G : Hp} {ts : List Tm} {n m ba : Nat} {t : Tm} (ht : ts[n]? = some t) (hm : (ba, Know.row (u8C (bytesL ts)) 5 m) ∈ G) :
  ∃ a f, Value.slice (cutA (some ⟨ba, 0, none⟩) (((bytesL (ts.take n)).length : Nat) : Int).toNat 1 (((bytesL (ts.take (n + 1))).length : Nat) : Int).toNat) ((((bytesL (ts.take (n + 1))).length : Nat) : Int).toNat - (((bytesL (ts.take n)).length : Nat) : Int).toNat) ((((bytesL (ts.take (n + 1))).length : Nat) : Int).toNat - (((bytesL (ts.take n)).length : Nat) : Int).toNat) = .slice (some ⟨a, f, none⟩) (packL t).length (packL t).length ∧ Rds w0 G a f (u8C (packL t)) := by
 have h1 := bytes_succ ht
 have h2 : (bytesL (ts.take (n + 1))).length = (bytesL (ts.take n)).length + (packL t).length := by rw [h1, List.length_append]
 have h3 := packL_len t
 simp only [Int.toNat_natCast, cutA]
 rw [if_neg (by omega)]
 refine ⟨ba, (bytesL (ts.take n)).length, ?_, fun j v hv => ?_⟩
 ·simp [add_none]
  omega
 ·obtain ⟨c, hc, rfl⟩ := u8C_inv hv
  exact .own hm (u8C_get (bytes_get ht hc))
theorem dict_hash (w0 : World) (G : Hp) (p : List Nat) (pb pf pc : Nat) (hrd : Rds w0 G pb pf (u8C p)) (hp : ∀ c ∈ p, c < 256) (hm : p.length ≤ 1048576) : GC Tryz.prog w0 80 #[.slice (some ⟨pb, pf, none⟩) p.length pc] (fun v G' => v = .int .u32 (hashL p) ∧ G = G') G := by
 refine GC.body (args := [.slice (some ⟨pb, pf, none⟩) p.length pc]) Tryz.func80 rfl (by kernel_rfl) rfl ?_
 refine GW.seq ?_
 refine GW.region ?_
 refine R.assign ⟨Z,Z,Z,Z⟩ Z ?_
 refine GOps.nil ?_
 refine GW.seq ?_
 refine GW.region ?_
 refine R.assign ⟨Z,Z,Z,Z⟩ Z ?_
 refine GOps.nil ?_
 refine GW.seq ?_
 refine GW.seq ?_
 refine GW.region ?_
 refine R.move ⟨Z,Z,Z,Z⟩ Z ?_
 refine R.lenS ⟨Z,Z,Z,Z⟩ Z Z Tryz.underlying101 ?_
 refine R.move ⟨Z,Z,Z,Z⟩ Z ?_
 refine GOps.nil ?_
 refine GW.block ?_
 refine GW.loopI (fun i : Nat => [(3, .int .u32 (hashL (p.take i))), (6, .slice (some ⟨pb, pf, none⟩) p.length pc), (7, .int .i64 p.length), (8, .int .i64 i)]) (fun i => G) (fun i => p.length - i) (fun i => i ≤ p.length) 0
  (keepG) (Hs.refl _) (by omega) ?_
 rintro i hi
 refine GW.seq ?_
 refine GW.region ?_
 refine R.lss ⟨Z,Z,Z,Z⟩ Z Z ?_
 refine GOps.nil ?_
 refine GW.seq ?_
 refine GW.ite Z (fun hc1 => ?_) (fun hc1 => ?_)
 ·try simp only [dcQ] at hc1
  obtain ⟨c, hx⟩ : ∃ c, p[i]? = some c := ⟨_, List.getElem?_eq_getElem (by omega)⟩
  have hc := hp c (List.mem_of_getElem? hx)
  refine GW.skip ?_
  refine GW.seq ?_
  refine GW.block ?_
  refine GW.seq ?_
  refine GW.region ?_
  refine R.indexAddrS ⟨Z,Z,Z,Z⟩ Z Z Tryz.underlying101 Tryz.sizeOf5 (by omega) (by omega) ?_
  refine R.load1 ⟨Z,Z,Z,Z⟩ Z Tryz.underlying5 Z (byte_load hrd hx) ?_
  refine R.assign ⟨Z,Z,Z,Z⟩ Z ?_
  refine GOps.nil ?_
  refine GW.region ?_
  refine R.move ⟨Z,Z,Z,Z⟩ Z ?_
  refine R.move ⟨Z,Z,Z,Z⟩ Z ?_
  refine R.conv (r := ((c : Nat) : Int)) ⟨Z,Z,Z,Z⟩ Z Tryz.underlying5 Tryz.underlying35 (u32_id _ (by omega)) ?_
  refine R.xor ⟨Z,Z,Z,Z⟩ Z Z (Z) ?_
  refine R.mul (r := hashL (p.take (i + 1))) ⟨Z,Z,Z,Z⟩ Z Z (hash_succ hx) ?_
  refine R.assign ⟨Z,Z,Z,Z⟩ Z ?_
  refine GOps.nil ?_
  refine GW.region ?_
  refine R.add (r := (((i + 1) : Nat) : Int)) ⟨Z,Z,Z,Z⟩ Z Z (by rw [wrap64_id (by omega) (by omega)]; omega) ?_
  refine R.move ⟨Z,Z,Z,Z⟩ Z ?_
  refine GOps.nil ?_
  exact ⟨i + 1, by omega, by omega, rfl, keepG, by first | exact Hs.refl _ | exact Hs.tl _ | exact Hs.tl2 _ _⟩
 ·try simp only [dcQ] at hc1
  refine GW.exit ?_
  refine GW.seq ?_
  refine GW.region ?_
  refine R.move ⟨Z,Z,Z,Z⟩ Z ?_
  refine R.assign ⟨Z,Z,Z,Z⟩ Z ?_
  refine GOps.nil ?_
  refine GW.ret (Out.of (Res.one Z Z) (by first | exact Hs.refl _ | exact Hs.tl _ | exact Hs.tl2 _ _ | exact Hs.tl3 _ _ _ | exact (Hs.app _).trans (Hs.tl _) | exact (Hs.app _).trans ((Hs.app _).trans (Hs.tl _)) | exact Hs.sub (by repeat (first | exact List.Sublist.refl _ | apply List.Sublist.cons))) ⟨?_, Z⟩)
  rw [List.take_of_length_le (by omega)]
theorem dict_at (w0 : World) (G : Hp) (ts : List Tm) (va ve : Value) (Ha He : Hp) (b bt lim sz : Nat) (tab : List Nat) (n : Nat) (t : Tm) (hr : Raw ts va ve Ha He) (ht : ts[n]? = some t) : GC Tryz.prog w0 71 #[.pointer (some ⟨b, 0, none⟩), .int .u32 ((n + 1 : Nat) : Int)] (fun v G' => ∃ a f, (v = .slice (some ⟨a, f, none⟩) (packL t).length (packL t).length ∧ Rds w0 ((b, dictC lim va ve bt sz) :: (bt, tabC tab) :: (Ha ++ (He ++ G))) a f (u8C (packL t))) ∧ ((b, dictC lim va ve bt sz) :: (bt, tabC tab) :: (Ha ++ (He ++ G))) = G') ((b, dictC lim va ve bt sz) :: (bt, tabC tab) :: (Ha ++ (He ++ G))) := by
 have hn : n < ts.length := (List.getElem?_eq_some_iff.1 ht).1
 have hm := hr.most
 have h3 := packL_len t
 have h2 : (bytesL (ts.take (n + 1))).length = (bytesL (ts.take n)).length + (packL t).length := by rw [bytes_succ ht, List.length_append]
 have hle := take_le ts (n + 1)
 obtain ⟨ba, capa, rfl, rfl, hca⟩ := hr.ha.row_of (by omega)
 obtain ⟨be, cape, rfl, rfl, hce⟩ := hr.he.row_of (by omega)
 refine GC.body (args := [.pointer (some ⟨b, 0, none⟩), .int .u32 ((n + 1 : Nat) : Int)]) Tryz.func71 rfl (by kernel_rfl) rfl ?_
 refine GW.seq ?_
 refine GW.region ?_
 refine R.assign ⟨Z,Z,Z,Z⟩ Z ?_
 refine GOps.nil ?_
 refine GW.seq ?_
 refine GW.drawS 10 Z (by kernel_rfl) ?_
 refine GA.w 0 Z (V.move ⟨Z,Z,Z,Z⟩ Z) Z ?_
 refine GA.w 1 Z (V.nilCheck ⟨Z,Z,Z,Z⟩ Z) Z ?_
 refine GA.w 2 Z (V.fieldAddr ⟨Z,Z,Z,Z⟩ Z Tryz.underlying103 Z Tryz.sizeOf32) Z ?_
 refine GA.val 3 Z (V.load1 ⟨Z,Z,Z,Z⟩ Z Tryz.underlying32 Z (.own' memG (by rfl))) Z (by kernel_rfl) (by kernel_rfl) (by kernel_rfl) ?_
 refine GA.w 4 Z (V.move ⟨Z,Z,Z,Z⟩ Z) Z ?_
 refine GA.val 5 Z (V.sub (r := ((n : Nat) : Int)) ⟨Z,Z,Z,Z⟩ Z Z (by have := u32_sub (n + 1) 1 (by omega) (by omega); simpa using this)) Z (by kernel_rfl) (by kernel_rfl) (by kernel_rfl) ?_
 refine GA.val 6 Z (V.indexAddrS ⟨Z,Z,Z,Z⟩ Z Z Tryz.underlying32 Tryz.sizeOf3 (by omega) (by omega)) Z (by kernel_rfl) (by kernel_rfl) (by kernel_rfl) ?_
 refine GA.val 7 Z (V.load1 ⟨Z,Z,Z,Z⟩ Z Tryz.underlying3 Z (row_load (i := n) memH (intC_get (endsL_get hn)))) Z (by kernel_rfl) (by kernel_rfl) (by kernel_rfl) ?_
 refine GA.w 8 Z (V.assign ⟨Z,Z,Z,Z⟩ Z) Z ?_
 refine GA.w 9 Z (V.assign ⟨Z,Z,Z,Z⟩ Z) Z ?_
 refine GA.done hsC (by kernel_rfl) ?_
 refine GW.seq ?_
 refine GW.seq ?_
 refine GW.region ?_
 refine R.move ⟨Z,Z,Z,Z⟩ Z ?_
 refine R.gtr ⟨Z,Z,Z,Z⟩ Z Z ?_
 refine GOps.nil ?_
 refine GW.ite Z (fun hc1 => ?_) (fun hc1 => ?_)
 ·try simp only [dcQ] at hc1
  refine GW.region ?_
  refine R.move ⟨Z,Z,Z,Z⟩ Z ?_
  refine R.nilCheck ⟨Z,Z,Z,Z⟩ Z ?_
  refine R.fieldAddr ⟨Z,Z,Z,Z⟩ Z Tryz.underlying103 Z Tryz.sizeOf32 ?_
  refine R.load1 ⟨Z,Z,Z,Z⟩ Z Tryz.underlying32 Z (.own' memG (by rfl)) ?_
  refine R.move ⟨Z,Z,Z,Z⟩ Z ?_
  refine R.sub (r := ((n - 1 : Nat) : Int)) ⟨Z,Z,Z,Z⟩ Z Z (by have := u32_sub (n + 1) 2 (by omega) (by omega); simpa using this) ?_
  refine R.indexAddrS ⟨Z,Z,Z,Z⟩ Z Z Tryz.underlying32 Tryz.sizeOf3 (by omega) (by omega) ?_
  refine R.load1 ⟨Z,Z,Z,Z⟩ Z Tryz.underlying3 Z (row_load (i := n - 1) memH (intC_get (ends_pred (by omega) (by omega)))) ?_
  refine R.assign ⟨Z,Z,Z,Z⟩ Z ?_
  refine GOps.nil ?_
  refine GW.seq ?_
  refine GW.region ?_
  refine R.move ⟨Z,Z,Z,Z⟩ Z ?_
  refine R.nilCheck ⟨Z,Z,Z,Z⟩ Z ?_
  refine R.fieldAddr ⟨Z,Z,Z,Z⟩ Z Tryz.underlying103 Z Tryz.sizeOf101 ?_
  refine R.load1 ⟨Z,Z,Z,Z⟩ Z Tryz.underlying101 Z (.own' memG (by rfl)) ?_
  refine R.move ⟨Z,Z,Z,Z⟩ Z ?_
  refine R.move ⟨Z,Z,Z,Z⟩ Z ?_
  refine R.move ⟨Z,Z,Z,Z⟩ Z ?_
  refine R.slice3 ⟨Z,Z,Z,Z⟩ Z Z Z Z Tryz.underlying101 Tryz.sizeOf5 (by omega) (by omega) (by omega) (by omega) ?_
  refine R.assign ⟨Z,Z,Z,Z⟩ Z ?_
  refine GOps.nil ?_
  obtain ⟨a, f, hv, hrd⟩ := at_leaf (w0 := w0) (G := ((b, dictC lim (.slice (some ⟨ba, 0, none⟩) (bytesL ts).length capa) (.slice (some ⟨be, 0, none⟩) ts.length cape) bt sz) :: (bt, tabC tab) :: ([(ba, .row (u8C (bytesL ts)) 5 (capa * 1))] ++ ([(be, .row (intC (endsL ts)) 3 (cape * 1))] ++ G)))) ht (m := capa * 1) memH
  exact GW.ret (Out.of (Res.one rfl rfl) (Hs.refl _) ⟨a, f, ⟨hv, hrd⟩, rfl⟩)
 ·try simp only [dcQ] at hc1
  obtain rfl : n = 0 := by omega
  refine GW.skip ?_
  refine GW.seq ?_
  refine GW.region ?_
  refine R.move ⟨Z,Z,Z,Z⟩ Z ?_
  refine R.nilCheck ⟨Z,Z,Z,Z⟩ Z ?_
  refine R.fieldAddr ⟨Z,Z,Z,Z⟩ Z Tryz.underlying103 Z Tryz.sizeOf101 ?_
  refine R.load1 ⟨Z,Z,Z,Z⟩ Z Tryz.underlying101 Z (.own' memG (by rfl)) ?_
  refine R.move ⟨Z,Z,Z,Z⟩ Z ?_
  refine R.move ⟨Z,Z,Z,Z⟩ Z ?_
  refine R.move ⟨Z,Z,Z,Z⟩ Z ?_
  refine R.slice3 ⟨Z,Z,Z,Z⟩ Z Z Z Z Tryz.underlying101 Tryz.sizeOf5 (by omega) (by omega) (by omega) (by omega) ?_
  refine R.assign ⟨Z,Z,Z,Z⟩ Z ?_
  refine GOps.nil ?_
  obtain ⟨a, f, hv, hrd⟩ := at_leaf (w0 := w0) (G := ((b, dictC lim (.slice (some ⟨ba, 0, none⟩) (bytesL ts).length capa) (.slice (some ⟨be, 0, none⟩) ts.length cape) bt sz) :: (bt, tabC tab) :: ([(ba, .row (u8C (bytesL ts)) 5 (capa * 1))] ++ ([(be, .row (intC (endsL ts)) 3 (cape * 1))] ++ G)))) ht (m := capa * 1) memH
  exact GW.ret (Out.of (Res.one rfl rfl) (Hs.refl _) ⟨a, f, ⟨hv, hrd⟩, rfl⟩)
end Go.Proofs.YtfddkcmooommeaaGreatDoor.Gl
end
section
namespace Go.Proofs.YtfddkcmooommeaaGreatDoor.Gl
open Go.RowKit Go.Shelf
set_option linter.unusedVariables false
set_option linter.unnecessarySimpa false
set_option linter.unusedSimpArgs false
attribute [-simp] List.getD_eq_getElem?_getD
theorem slot_to {ps : List (List Nat)} {k j m : Nat} {tab p : List Nat} (h0 : SlotTo ps k tab p j) (he : tab[(home k p + j) % 2 ^ k]? = some (m + 1)) (hne : ps[m]? ≠ some p) : SlotTo ps k tab p (j + 1) := by
 intro i hi
 rcases Nat.lt_or_ge i j with h | h
 ·exact h0 i h
 ·obtain rfl : i = j := by omega
  exact ⟨m, he, hne⟩
theorem ps_get {ts : List Tm} {mm m : Nat} {x : Tm} (h : m < mm) (hx : ts[m]? = some x) : ((ts.take mm).map packL)[m]? = some (packL x) := by
 rw [List.getElem?_map, List.getElem?_take_of_lt h, hx]
 rfl
theorem dict_slot (w0 : World) (G : Hp) (ts : List Tm) (va ve : Value) (Ha He : Hp) (b bt lim sz : Nat) (tab : List Nat) (k mm : Nat) (p : List Nat) (pb pf pc : Nat) (hr : Raw ts va ve Ha He) (hsz : tab.length = sz) (ht : TabOk ((ts.take mm).map packL) k tab) (hk : k ≤ 20) (hmm : mm ≤ ts.length) (hl : mm < 2 ^ k) (hrd : Rds w0 ((b, dictC lim va ve bt sz) :: (bt, tabC tab) :: (Ha ++ (He ++ G))) pb pf (u8C p)) (hp : ∀ c ∈ p, c < 256) (hpm : p.length ≤ 1048576) : GC Tryz.prog w0 50 #[.pointer (some ⟨b, 0, none⟩), .slice (some ⟨pb, pf, none⟩) p.length pc] (fun v G' => ∃ q : Nat, (v = .int .i64 (q : Nat) ∧ SlotIs ((ts.take mm).map packL) k tab p q) ∧ ((b, dictC lim va ve bt sz) :: (bt, tabC tab) :: (Ha ++ (He ++ G))) = G') ((b, dictC lim va ve bt sz) :: (bt, tabC tab) :: (Ha ++ (He ++ G))) := by
 have hpl : 2 ^ k ≤ 2 ^ 20 := Nat.pow_le_pow_right (by decide) hk
 have hpos : 0 < 2 ^ k := Nat.pow_pos (by decide)
 have htl0 := ht.len
 have htl : sz = 2 ^ k := hsz.symm.trans htl0
 have hm := hr.most
 have hlm : ((ts.take mm).map packL).length = mm := by rw [List.length_map, List.length_take]; omega
 obtain ⟨d0, hd0, hz⟩ := ht.ahead (by rw [hlm]; exact hl) (home k p)
 have hhr := hash_range p
 have hhl : home k p < 2 ^ k := Nat.mod_lt _ hpos
 refine GC.body (args := [.pointer (some ⟨b, 0, none⟩), .slice (some ⟨pb, pf, none⟩) p.length pc]) Tryz.func50 rfl (by kernel_rfl) rfl ?_
 refine GW.seq ?_
 refine GW.region ?_
 refine R.assign ⟨Z,Z,Z,Z⟩ Z ?_
 refine GOps.nil ?_
 refine GW.scope 0 (fun _ _ _ => False) (by rfl) ?_ (fun _ _ _ h => h.elim)
 refine GW.seq ?_
 refine GW.region ?_
 refine R.move ⟨Z,Z,Z,Z⟩ Z ?_
 refine R.nilCheck ⟨Z,Z,Z,Z⟩ Z ?_
 refine R.fieldAddr ⟨Z,Z,Z,Z⟩ Z Tryz.underlying103 Z Tryz.sizeOf100 ?_
 refine R.load1 ⟨Z,Z,Z,Z⟩ Z Tryz.underlying100 Z (.own' memG (by rfl)) ?_
 refine R.lenS ⟨Z,Z,Z,Z⟩ Z Z Tryz.underlying100 ?_
 refine R.sub (r := ((2 ^ k - 1 : Nat) : Int)) ⟨Z,Z,Z,Z⟩ Z Z (len_mask htl hk) ?_
 refine R.assign ⟨Z,Z,Z,Z⟩ Z ?_
 refine GOps.nil ?_
 refine GW.seq ?_
 refine GW.region ?_
 refine R.move ⟨Z,Z,Z,Z⟩ Z ?_
 refine R.call ⟨Z,Z,Z,Z⟩ Z (vs := [_]) Z ((dict_hash _ _ p pb pf pc hrd hp hpm).mono ?_)
 rintro _ _ ⟨rfl, rfl⟩
 refine R.conv (r := hashL p) ⟨Z,Z,Z,Z⟩ Z Tryz.underlying35 Tryz.underlying3 (wrap64_id (by omega) (by omega)) ?_
 refine R.move ⟨Z,Z,Z,Z⟩ Z ?_
 refine R.and (r := (((home k p + 0) % 2 ^ k : Nat) : Int)) ⟨Z,Z,Z,Z⟩ Z Z (by rw [hash_mask p k (by omega), Nat.add_zero, Nat.mod_eq_of_lt hhl]) ?_
 refine R.assign ⟨Z,Z,Z,Z⟩ Z ?_
 refine GOps.nil ?_
 refine GW.seq ?_
 refine GW.label ?_
 refine GW.seq ?_
 refine GW.block ?_
 refine GW.loopI (fun j : Nat => [(0, .pointer (some ⟨b, 0, none⟩)), (1, .slice (some ⟨pb, pf, none⟩) p.length pc), (5, .int .i64 ((2 ^ k - 1 : Nat) : Int)), (6, .int .i64 ((((home k p + j) % 2 ^ k) : Nat) : Int))]) (fun j => ((b, dictC lim va ve bt sz) :: (bt, tabC tab) :: (Ha ++ (He ++ G)))) (fun j => d0 - j) (fun j => j ≤ d0 ∧ SlotTo ((ts.take mm).map packL) k tab p j) 0
  (keepG) (Hs.refl _) (⟨Nat.zero_le _, fun i hi => absurd hi (Nat.not_lt_zero i)⟩) ?_
 rintro j ⟨hj, h0⟩
 have hq : ((home k p + j) % 2 ^ k) < 2 ^ k := Nat.mod_lt _ hpos
 obtain ⟨e, he⟩ : ∃ e, tab[((home k p + j) % 2 ^ k)]? = some e := ⟨_, List.getElem?_eq_getElem (by rw [htl0]; exact hq)⟩
 have hel : e ≤ 1000 := by have := ht.lim _ _ he; rw [hlm] at this; omega
 refine GW.seq ?_
 refine GW.block ?_
 refine GW.seq ?_
 refine GW.region ?_
 refine R.move ⟨Z,Z,Z,Z⟩ Z ?_
 refine R.nilCheck ⟨Z,Z,Z,Z⟩ Z ?_
 refine R.fieldAddr ⟨Z,Z,Z,Z⟩ Z Tryz.underlying103 Z Tryz.sizeOf100 ?_
 refine R.load1 ⟨Z,Z,Z,Z⟩ Z Tryz.underlying100 Z (.own' memG (by rfl)) ?_
 refine R.move ⟨Z,Z,Z,Z⟩ Z ?_
 refine R.indexAddrS ⟨Z,Z,Z,Z⟩ Z Z Tryz.underlying100 Tryz.sizeOf35 (by omega) (by omega) ?_
 refine R.load1 ⟨Z,Z,Z,Z⟩ Z Tryz.underlying35 Z (tab_load (p := ((home k p + j) % 2 ^ k)) memH he) ?_
 refine R.assign ⟨Z,Z,Z,Z⟩ Z ?_
 refine GOps.nil ?_
 refine GW.seq ?_
 refine GW.drawS 11 Z (by kernel_rfl) ?_
 refine GA.w 0 Z (V.move ⟨Z,Z,Z,Z⟩ Z) Z ?_
 refine GA.val 1 Z (V.eqI ⟨Z,Z,Z,Z⟩ Z Z) Z (by kernel_rfl) (by kernel_rfl) (by kernel_rfl) ?_
 refine GA.w 2 Z (V.move ⟨Z,Z,Z,Z⟩ Z) Z ?_
 refine GA.caseB 32 Z (fun hg1 => ?_) (fun hg1 => ?_)
 ·try simp only [dcQ] at hg1
  refine GA.sk 3 Z Z Z Z Z ?_
  refine GA.sk 4 Z Z Z Z Z ?_
  refine GA.sk 5 Z Z Z Z Z ?_
  refine GA.sk 6 Z Z Z Z Z ?_
  refine GA.sk 7 Z Z Z Z Z ?_
  refine GA.sk 8 Z Z Z Z Z ?_
  refine GA.sk 9 Z Z Z Z Z ?_
  refine GA.w 10 Z (V.pick_t ⟨Z,Z,Z,Z⟩ Z Z) Z ?_
  refine GA.done hsC (by kernel_rfl) ?_
  refine GW.cond_t Z ?_
  refine GW.exit ?_
  refine GW.seq ?_
  refine GW.region ?_
  refine R.move ⟨Z,Z,Z,Z⟩ Z ?_
  refine R.assign ⟨Z,Z,Z,Z⟩ Z ?_
  refine GOps.nil ?_
  first | exact GW.ret (Out.of (Res.one rfl rfl) (Hs.refl _) ⟨_, ⟨rfl, j, by omega, rfl, h0, .inr ⟨m, he, by rw [hps, hc2]⟩⟩, rfl⟩) | exact GW.ret (Out.of (Res.one rfl rfl) (Hs.refl _) ⟨_, ⟨rfl, j, by omega, rfl, h0, .inl (by rw [he]; congr 1; omega)⟩, rfl⟩)
 ·try simp only [dcQ] at hg1
  refine GA.w 3 Z (V.move ⟨Z,Z,Z,Z⟩ Z) Z ?_
  refine GA.w 4 Z (V.move ⟨Z,Z,Z,Z⟩ Z) Z ?_
  refine GA.w 7 Z (V.move ⟨Z,Z,Z,Z⟩ Z) Z ?_
  refine GA.w 8 Z (V.convBytes (l := p) ⟨Z,Z,Z,Z⟩ Z Tryz.underlying101 Tryz.underlying5 Tryz.underlying9 (Z) (hrd)) Z ?_
  refine GA.one 5 hsC (by kernel_rfl) Z ?_
  obtain ⟨m, rfl⟩ : ∃ m, e = m + 1 := ⟨e - 1, by omega⟩
  have hml := ht.lim _ _ he
  rw [hlm] at hml
  obtain ⟨x, hx⟩ : ∃ x, ts[m]? = some x := ⟨_, List.getElem?_eq_getElem (by omega)⟩
  have hxm := hr.may x (List.mem_of_getElem? hx)
  have hps := ps_get (mm := mm) (by omega) hx
  refine R.call ⟨Z,Z,Z,Z⟩ Z (vs := [_, _]) Z ((dict_at _ _ ts va ve Ha He b bt lim sz tab m x hr hx).mono ?_)
  rintro _ _ ⟨xa, xf, ⟨rfl, hxr⟩, rfl⟩
  refine GOps.nil ?_
  refine GA.w 6 Z (V.convBytes (l := packL x) ⟨Z,Z,Z,Z⟩ Z Tryz.underlying101 Tryz.underlying5 Tryz.underlying9 (Z) (hxr)) Z ?_
  refine GA.val 9 Z (V.eqS ⟨Z,Z,Z,Z⟩ Z Z) Z (by kernel_rfl) (by kernel_rfl) (by kernel_rfl) ?_
  refine GA.w 10 Z (V.pick_f ⟨Z,Z,Z,Z⟩ Z Z) Z ?_
  refine GA.done hsC (by kernel_rfl) ?_
  refine GW.ite Z (fun hc2 => ?_) (fun hc2 => ?_)
  ·try simp only [dcQ] at hc2
   rw [strOf_beq (packL_lt hxm) hp, beq_iff_eq] at hc2
   refine GW.exit ?_
   refine GW.seq ?_
   refine GW.region ?_
   refine R.move ⟨Z,Z,Z,Z⟩ Z ?_
   refine R.assign ⟨Z,Z,Z,Z⟩ Z ?_
   refine GOps.nil ?_
   first | exact GW.ret (Out.of (Res.one rfl rfl) (Hs.refl _) ⟨_, ⟨rfl, j, by omega, rfl, h0, .inr ⟨m, he, by rw [hps, hc2]⟩⟩, rfl⟩) | exact GW.ret (Out.of (Res.one rfl rfl) (Hs.refl _) ⟨_, ⟨rfl, j, by omega, rfl, h0, .inl (by rw [he]; congr 1; omega)⟩, rfl⟩)
  ·try simp only [dcQ] at hc2
   rw [strOf_beq (packL_lt hxm) hp, beq_eq_false_iff_ne] at hc2
   have hjd : j < d0 := Nat.lt_of_le_of_ne hj (fun ej => by subst ej; rw [hz] at he; cases he)
   refine GW.skip ?_
   refine GW.region ?_
   refine R.move ⟨Z,Z,Z,Z⟩ Z ?_
   refine R.add (r := (((((home k p + j) % 2 ^ k) + 1) : Nat) : Int)) ⟨Z,Z,Z,Z⟩ Z Z (by rw [wrap64_id (by omega) (by omega)]; omega) ?_
   refine R.move ⟨Z,Z,Z,Z⟩ Z ?_
   refine R.and (r := (((home k p + (j + 1)) % 2 ^ k : Nat) : Int)) ⟨Z,Z,Z,Z⟩ Z Z (step_mask k (home k p) j hk) ?_
   refine R.assign ⟨Z,Z,Z,Z⟩ Z ?_
   refine GOps.nil ?_
   exact ⟨j + 1, by omega, ⟨Nat.lt_of_le_of_ne hj (fun ej => by subst ej; rw [hz] at he; cases he), slot_to h0 he (fun e0 => by rw [hps] at e0; exact hc2 (Option.some.inj e0))⟩, rfl, keepG, by first | exact Hs.refl _ | exact Hs.tl _ | exact Hs.tl2 _ _⟩
theorem dict_there (w0 : World) (G : Hp) (va ve : Value) (b bt lim n : Nat) (hm : (b, dictC lim va ve bt n) ∈ G) : GC Tryz.prog w0 36 #[.pointer (some ⟨b, 0, none⟩)] (fun v G' => v = .bool true ∧ G = G') G := by
 refine GC.body (args := [.pointer (some ⟨b, 0, none⟩)]) Tryz.func36 rfl (by kernel_rfl) rfl ?_
 refine GW.seq ?_
 refine GW.region ?_
 refine R.assign ⟨Z,Z,Z,Z⟩ Z ?_
 refine GOps.nil ?_
 refine GW.seq ?_
 refine GW.region ?_
 refine R.move ⟨Z,Z,Z,Z⟩ Z ?_
 refine R.neP ⟨Z,Z,Z,Z⟩ Z Z Tryz.underlying45 ?_
 refine R.move ⟨Z,Z,Z,Z⟩ Z ?_
 refine R.move ⟨Z,Z,Z,Z⟩ Z ?_
 refine R.nilCheck ⟨Z,Z,Z,Z⟩ Z ?_
 refine R.fieldAddr ⟨Z,Z,Z,Z⟩ Z Tryz.underlying103 Z Tryz.sizeOf100 ?_
 refine R.load1 ⟨Z,Z,Z,Z⟩ Z Tryz.underlying100 Z (.own hm Z) ?_
 refine R.neSl ⟨Z,Z,Z,Z⟩ Z Z Tryz.underlying100 ?_
 refine R.pick_t ⟨Z,Z,Z,Z⟩ Z Z ?_
 refine R.assign ⟨Z,Z,Z,Z⟩ Z ?_
 refine GOps.nil ?_
 refine GW.ret (Out.of (Res.one Z Z) (by first | exact Hs.refl _ | exact Hs.tl _ | exact Hs.tl2 _ _ | exact Hs.tl3 _ _ _ | exact (Hs.app _).trans (Hs.tl _) | exact (Hs.app _).trans ((Hs.app _).trans (Hs.tl _)) | exact Hs.sub (by repeat (first | exact List.Sublist.refl _ | apply List.Sublist.cons))) ⟨?_, Z⟩)
 rfl
end Go.Proofs.YtfddkcmooommeaaGreatDoor.Gl
end
section
namespace Go.Proofs.YtfddkcmooommeaaGreatDoor.Gl
open Go.RowKit Go.Shelf
set_option linter.unusedVariables false
set_option linter.unnecessarySimpa false
set_option linter.unusedSimpArgs false
attribute [-simp] List.getD_eq_getElem?_getD
theorem Hs.app1 (H : Hp) (x : Nat × Know) (G : Hp) : Hs (H ++ x :: G) (H ++ G) := Hs.sub (List.Sublist.append (List.Sublist.refl _) (List.sublist_cons_self x G))
section
variable {X : Cx} {Q : Post} {fr : Fr} {ds : List Deferred} {G : Hp} {ops : Array Oper} {o : Oper} {rest : List Oper} {d : Nat}
theorem V.shr {t u : TypeId} {x y : Operand} {k k' : IntKind} {m n r : Int} (h : At X ops fr o (.binOp .shr t x y u) d) (hx : evO fr x = some (.int k m)) (hy : evO fr y = some (.int k' n)) (h0 : 0 ≤ n) (hr : m.fdiv (2 ^ (min n.toNat k.bits)) = r)
  : GV X ops fr G o d (.int k r) :=
 V.bin h hx hy (fun w _ => by rw [Sem.run_bind, run_guard_int]; subst hr; simp [binOp, Op.shift, show ¬ n < 0 by omega])
end
theorem shr8 (n : Nat) : (n : Int).fdiv (2 ^ (min (8 : Int).toNat IntKind.i64.bits)) = ((n / 256 : Nat) : Int) := by
 rw [Int.fdiv_eq_ediv_of_nonneg _ (by decide)]
 rfl
theorem pack_row {t : Tm} {n : Nat} {v : Value} {H : Hp} (h : SlAt 1 5 (u8C [t.kind.toNat, t.text.size / 256, t.text.size % 256] ++ strC t.text ++ strC t.ext) n v H) : SlAt 1 5 (u8C (packL t)) n v H := by
 rw [strC_u8, strC_u8, ← u8C_app, ← u8C_app, List.append_assoc] at h
 exact h
theorem dict_pack (w0 : World) (G : Hp) (t : Tm) (hmay : mayT t = true) : GC Tryz.prog w0 49 #[.agg #[.int .i64 t.kind, .string t.text, .string t.ext]] (fun v G' => ∃ a c, (v = .slice (some ⟨a, 0, none⟩) (packL t).length c ∧ (packL t).length ≤ c) ∧ (a, .row (u8C (packL t)) 5 (c * 1)) :: G = G') G := by
 obtain ⟨h1, h2, h3, h4⟩ := mayT_facts hmay
 have hpl := packL_len t
 refine GC.body (args := [.agg #[.int .i64 t.kind, .string t.text, .string t.ext]]) Tryz.func49 rfl (by kernel_rfl) rfl ?_
 refine GW.seq ?_
 refine GW.region ?_
 refine R.box ⟨Z,Z,Z,Z⟩ Z fun b1 => ?_
 refine R.assign ⟨Z,Z,Z,Z⟩ Z ?_
 refine GOps.nil ?_
 refine GW.seq ?_
 refine GW.region ?_
 refine R.fieldAddr ⟨Z,Z,Z,Z⟩ Z Tryz.underlying24 Z Tryz.sizeOf9 ?_
 refine R.load1 ⟨Z,Z,Z,Z⟩ Z Tryz.underlying9 Z (.own' memG (by rfl)) ?_
 refine R.lenStr ⟨Z,Z,Z,Z⟩ Z Z Tryz.underlying9 ?_
 refine R.assign ⟨Z,Z,Z,Z⟩ Z ?_
 refine GOps.nil ?_
 refine GW.seq ?_
 refine GW.drawS 16 Z (by kernel_rfl) ?_
 refine GA.w 0 Z (V.fieldAddr ⟨Z,Z,Z,Z⟩ Z Tryz.underlying24 Z Tryz.sizeOf22) Z ?_
 refine GA.val 1 Z (V.load1 ⟨Z,Z,Z,Z⟩ Z Tryz.underlying22 Z (.own' memG (by rfl))) Z (by kernel_rfl) (by kernel_rfl) (by kernel_rfl) ?_
 refine GA.w 2 Z (V.conv (r := ((t.kind.toNat : Nat) : Int)) ⟨Z,Z,Z,Z⟩ Z Tryz.underlying22 Tryz.underlying5 (by rw [IntKind.wrap_u8]; omega)) Z ?_
 refine GA.w 3 Z (V.move ⟨Z,Z,Z,Z⟩ Z) Z ?_
 refine GA.val 4 Z (V.shr (r := ((t.text.size / 256 : Nat) : Int)) ⟨Z,Z,Z,Z⟩ Z Z (by omega) (shr8 _)) Z (by kernel_rfl) (by kernel_rfl) (by kernel_rfl) ?_
 refine GA.w 5 Z (V.conv (r := ((t.text.size / 256 : Nat) : Int)) ⟨Z,Z,Z,Z⟩ Z Tryz.underlying3 Tryz.underlying5 (by rw [IntKind.wrap_u8]; omega)) Z ?_
 refine GA.w 6 Z (V.move ⟨Z,Z,Z,Z⟩ Z) Z ?_
 refine GA.w 7 Z (V.conv (r := ((t.text.size % 256 : Nat) : Int)) ⟨Z,Z,Z,Z⟩ Z Tryz.underlying3 Tryz.underlying5 (by rw [IntKind.wrap_u8]; omega)) Z ?_
 refine GA.w 9 Z (V.fieldAddr ⟨Z,Z,Z,Z⟩ Z Tryz.underlying24 Z Tryz.sizeOf9) Z ?_
 refine GA.val 10 Z (V.load1 ⟨Z,Z,Z,Z⟩ Z Tryz.underlying9 Z (.own' memG (by rfl))) Z (by kernel_rfl) (by kernel_rfl) (by kernel_rfl) ?_
 refine GA.w 12 Z (V.fieldAddr ⟨Z,Z,Z,Z⟩ Z Tryz.underlying24 Z Tryz.sizeOf9) Z ?_
 refine GA.val 13 Z (V.load1 ⟨Z,Z,Z,Z⟩ Z Tryz.underlying9 Z (.own' memG (by rfl))) Z (by kernel_rfl) (by kernel_rfl) (by kernel_rfl) ?_
 refine GA.one 8 hsC (by kernel_rfl) Z ?_
 refine R.buildSliceF (sz := 1) (bytes := 1) (vs := [_, _, _]) (cs := u8C [t.kind.toNat, t.text.size / 256, t.text.size % 256]) ⟨Z,Z,Z,Z⟩ Z Tryz.underlying101 (InfoE.mk (by kernel_rfl)) Z Z Z Z Z fun b15 => ?_
 refine GOps.nil ?_
 refine GA.one 11 hsC (by kernel_rfl) Z ?_
 refine GOps.weak (Keeps.refl _) (toRow _ Z) ?_
 refine R.appendStr (bytes := 1) (G1 := []) (H := [(b15, .row (u8C [t.kind.toNat, t.text.size / 256, t.text.size % 256]) 5 (3 * 1))]) ⟨Z,Z,Z,Z⟩ Z Z Z Tryz.underlying101 Tryz.underlying9 (InfoE.mk (by kernel_rfl)) (SlAt.row b15 3 Z (Nat.le_refl 3)) (by omega) (Z) (by omega) (by omega) fun v18 H18 hv18 => ?_
 refine GOps.nil ?_
 refine GA.one 14 hsC (by kernel_rfl) Z ?_
 refine R.appendStr (bytes := 1) (G1 := []) (H := H18) ⟨Z,Z,Z,Z⟩ Z Z Z Tryz.underlying101 Tryz.underlying9 (InfoE.mk (by kernel_rfl)) (hv18) (by omega) (Z) (by omega) (by omega) fun v21 H21 hv21 => ?_
 refine GOps.nil ?_
 refine GA.w 15 Z (V.assign ⟨Z,Z,Z,Z⟩ Z) Z ?_
 refine GA.done hsC (by kernel_rfl) ?_
 obtain ⟨a, c, rfl, rfl, hac⟩ := (pack_row hv21).row_of (by omega)
 rw [show 3 + t.text.size + t.ext.size = (packL t).length by omega]
 exact GW.ret (Out.of (Res.one rfl rfl) (Hs.app1 [(a, .row (u8C (packL t)) 5 (c * 1))] _ _) ⟨a, c, ⟨rfl, by omega⟩, rfl⟩)
end Go.Proofs.YtfddkcmooommeaaGreatDoor.Gl
end
section
namespace Go.Proofs.YtfddkcmooommeaaGreatDoor.Gl
open Go.RowKit Go.Shelf
set_option linter.unusedVariables false
set_option linter.unnecessarySimpa false
set_option linter.unusedSimpArgs false
attribute [-simp] List.getD_eq_getElem?_getD
theorem Hs.eq {G G' : Hp} (h : G = G') : Hs G G' := h ▸ Hs.refl _
theorem tab_zero (n : Nat) : tabC (List.replicate n 0) = .exact (.cells (List.replicate n (Value.int .u32 0)).toArray 35 (0, 0)) := by
 unfold tabC
 rw [show u32C (List.replicate n 0) = List.replicate n (Value.int .u32 0) by simp [u32C]]
theorem tab_put {tab : List Nat} {q n : Nat} (h : q < tab.length) : Know.exact (.cells (splice (u32C tab).toArray (0 + (q : Int).toNat * 1) (Value.int .u32 (n : Nat)).cells.toList) 35 (0, 0)) = tabC (tab.set q n) := by
 unfold tabC
 have : splice (u32C tab).toArray (0 + (q : Int).toNat * 1) (Value.int .u32 (n : Nat)).cells.toList = (u32C (tab.set q n)).toArray := by
  rw [show 0 + (q : Int).toNat * 1 = q by simp, show (Value.int .u32 (n : Nat)).cells.toList = [Value.int .u32 (n : Nat)] from rfl, splice_one (by rw [u32C_len]; exact h)]
  simp [u32C, List.map_set]
 rw [this]
theorem build_hs {c b bt : Nat} {x y z : Know} (R : Hp) : Hs ([(c, x)] ++ (b, y) :: (bt, z) :: R) ((b, y) :: (c, x) :: R) :=
 (Hs.sub (G' := (c, x) :: (b, y) :: R) (((List.Sublist.refl R).cons (bt, z) |>.cons_cons (b, y)).cons_cons (c, x))).trans (Hs.perm (List.Perm.swap _ _ _))
theorem pow_step (e : Nat) (h : 2 ^ (4 + e) ≤ 4096) : IntKind.i64.wrap (((2 ^ (4 + e) : Nat) : Int) * 2) = ((2 ^ (4 + (e + 1)) : Nat) : Int) := by
 have e1 : 2 ^ (4 + (e + 1)) = 2 ^ (4 + e) * 2 := by rw [← Nat.add_assoc, Nat.pow_succ]
 rw [e1, wrap64_id (by omega) (by omega)]
 rfl
theorem map_take_succ {ts : List Tm} {i : Nat} {t : Tm} (h : ts[i]? = some t) : (ts.take (i + 1)).map packL = (ts.take i).map packL ++ [packL t] := by
 rw [List.take_add_one, h, List.map_append]
 rfl
theorem not_before {ts : List Tm} {i : Nat} {t : Tm} (hd : (ts.map packL).Nodup) (h : ts[i]? = some t) : packL t ∉ (ts.take i).map packL := by
 intro hm
 obtain ⟨j, hj⟩ := List.getElem?_of_mem hm
 have hlt := (List.getElem?_eq_some_iff.1 hj).1
 rw [List.length_map, List.length_take] at hlt
 rw [List.getElem?_map, List.getElem?_take_of_lt (by omega), ← List.getElem?_map] at hj
 have := nodup_get hd hj (n := i) (by rw [List.getElem?_map, h]; rfl)
 omega
theorem dict_build (w0 : World) (G : Hp) (ts : List Tm) (va ve : Value) (Ha He : Hp) (b bt lim sz : Nat) (tab : List Nat) (m : Nat) (hr : Raw ts va ve Ha He) (hm : m = 2 * ts.length) (hd : (ts.map packL).Nodup) : GC Tryz.prog w0 51 #[.pointer (some ⟨b, 0, none⟩), .int .i64 (m : Nat)] (fun v G' => ∃ c k tab2, (v = .tuple #[] ∧ 4 ≤ k ∧ k ≤ 12 ∧ TabOk (ts.map packL) k tab2 ∧ 2 * m + 2 ≤ 2 ^ k) ∧ (b, dictC lim va ve c (2 ^ k)) :: (c, tabC tab2) :: (Ha ++ (He ++ G)) = G') ((b, dictC lim va ve bt sz) :: (bt, tabC tab) :: (Ha ++ (He ++ G))) := by
 have hmost := hr.most
 obtain ⟨Ae, ce, rfl, hce⟩ := hr.he.split
 refine GC.body (args := [.pointer (some ⟨b, 0, none⟩), .int .i64 (m : Nat)]) Tryz.func51 rfl (by kernel_rfl) rfl ?_
 refine GW.seq ?_
 refine GW.region ?_
 refine R.assign ⟨Z,Z,Z,Z⟩ Z ?_
 refine GOps.nil ?_
 refine GW.seq ?_
 refine GW.block ?_
 refine GW.loopI (fun e : Nat => [(0, .pointer (some ⟨b, 0, none⟩)), (1, .int .i64 (m : Nat)), (4, .int .i64 (((2 ^ (4 + e)) : Nat) : Int))]) (fun e => ((b, dictC lim va (.slice Ae ts.length ce) bt sz) :: (bt, tabC tab) :: (Ha ++ (He ++ G)))) (fun e => 8 - e) (fun e => e ≤ 8) 0
  (keepG) (Hs.refl _) (Nat.zero_le _) ?_
 rintro e he
 refine GW.seq ?_
 refine GW.seq ?_
 refine GW.region ?_
 refine R.move ⟨Z,Z,Z,Z⟩ Z ?_
 refine R.move ⟨Z,Z,Z,Z⟩ Z ?_
 refine R.mul (r := (((2 * m) : Nat) : Int)) ⟨Z,Z,Z,Z⟩ Z Z (by rw [wrap64_id (by omega) (by omega)]; omega) ?_
 refine R.add (r := ((((2 * m) + 2) : Nat) : Int)) ⟨Z,Z,Z,Z⟩ Z Z (by rw [wrap64_id (by omega) (by omega)]; omega) ?_
 refine R.lss ⟨Z,Z,Z,Z⟩ Z Z ?_
 refine GOps.nil ?_
 refine GW.ite Z (fun hc1 => ?_) (fun hc1 => ?_)
 ·try simp only [dcQ] at hc1
  have he8 : e ≠ 8 := by rintro rfl; simp at hc1; omega
  have hp4 : 2 ^ (4 + e) ≤ 2 ^ 12 := Nat.pow_le_pow_right (by decide) (by omega)
  refine GW.skip ?_
  refine GW.block ?_
  refine GW.region ?_
  refine R.move ⟨Z,Z,Z,Z⟩ Z ?_
  refine R.mul (r := ((2 ^ (4 + (e + 1)) : Nat) : Int)) ⟨Z,Z,Z,Z⟩ Z Z (pow_step e (by omega)) ?_
  refine R.assign ⟨Z,Z,Z,Z⟩ Z ?_
  refine GOps.nil ?_
  exact ⟨e + 1, by omega, by omega, rfl, keepG, by first | exact Hs.refl _ | exact Hs.tl _ | exact Hs.tl2 _ _⟩
 ·try simp only [dcQ] at hc1
  have hp4 : 2 ^ (4 + e) ≤ 2 ^ 12 := Nat.pow_le_pow_right (by decide) (by omega)
  have hp0 : 0 < 2 ^ (4 + e) := Nat.pow_pos (by decide)
  refine GW.exit ?_
  refine GW.cutE (fun b15 u15 => [(0, .pointer (some ⟨b, 0, none⟩))]) (fun b15 u15 => (b, dictC lim va (.slice Ae ts.length ce) b15 (2 ^ (4 + e))) :: (b15, tabC (List.replicate (2 ^ (4 + e)) 0)) :: (Ha ++ (He ++ G))) ?_ ?_
  ·refine GW.region ?_
   refine R.move ⟨Z,Z,Z,Z⟩ Z ?_
   refine R.move ⟨Z,Z,Z,Z⟩ Z ?_
   refine R.makeZero (n := (2 ^ (4 + e))) (bytes := 4) (z0 := .int .u32 0) ⟨Z,Z,Z,Z⟩ (by rfl) (by rfl) Tryz.underlying100 (InfoE.mk (by kernel_rfl)) (InfoZ.mk (by kernel_rfl)) (by omega) (by omega) fun b15 => ?_
   refine R.nilCheck ⟨Z,Z,Z,Z⟩ Z ?_
   refine R.fieldAddr ⟨Z,Z,Z,Z⟩ Z Tryz.underlying103 Z Tryz.sizeOf100 ?_
   refine R.store (G1 := [_]) Z Z Z Z Z Tryz.sizeOf100 Z Z (Z) (Nat.le_of_ble_eq_true Z) ?_
   refine GOps.nil ?_
   exact ⟨rfl, rfl, b15, 0, keepG, by rw [tab_zero]; exact build_hs _⟩
  ·intro b15 u15
   refine GW.seq ?_
   refine GW.region ?_
   refine R.move ⟨Z,Z,Z,Z⟩ Z ?_
   refine R.nilCheck ⟨Z,Z,Z,Z⟩ Z ?_
   refine R.fieldAddr ⟨Z,Z,Z,Z⟩ Z Tryz.underlying103 Z Tryz.sizeOf32 ?_
   refine R.load1 ⟨Z,Z,Z,Z⟩ Z Tryz.underlying32 Z (.own' memG (by rfl)) ?_
   refine R.lenS ⟨Z,Z,Z,Z⟩ Z Z Tryz.underlying32 ?_
   refine R.move ⟨Z,Z,Z,Z⟩ Z ?_
   refine GOps.nil ?_
   refine GW.block ?_
   refine GW.loop4 (fun (i : Nat) (tab2 : List Nat) (u1 : Unit) (u2 : Unit) => [(0, .pointer (some ⟨b, 0, none⟩)), (22, .int .i64 ts.length), (23, .int .i64 i)]) (fun (i : Nat) (tab2 : List Nat) (u1 : Unit) (u2 : Unit) => (b, dictC lim va (.slice Ae ts.length ce) b15 (2 ^ (4 + e))) :: (b15, tabC tab2) :: (Ha ++ (He ++ G))) (fun i : Nat => ts.length - i) (fun (i : Nat) (tab2 : List Nat) (u1 : Unit) (u2 : Unit) => i ≤ ts.length ∧ TabOk ((ts.take i).map packL) (4 + e) tab2) 0 (List.replicate (2 ^ (4 + e)) 0) (()) (())
    (keepG) (Hs.refl _) (⟨Nat.zero_le _, TabOk.empty _⟩) ?_
   rintro i tab2 u1 u2 ⟨hi, ht⟩
   refine GW.seq ?_
   refine GW.region ?_
   refine R.lss ⟨Z,Z,Z,Z⟩ Z Z ?_
   refine GOps.nil ?_
   refine GW.seq ?_
   refine GW.ite Z (fun hc2 => ?_) (fun hc2 => ?_)
   ·try simp only [dcQ] at hc2
    obtain ⟨x, hx⟩ : ∃ x, ts[i]? = some x := ⟨_, List.getElem?_eq_getElem (by omega)⟩
    have hxm := hr.may x (List.mem_of_getElem? hx)
    have hxl := packL_len x
    have hxf := mayT_facts hxm
    refine GW.skip ?_
    refine GW.seq ?_
    refine GW.block ?_
    refine GW.seq ?_
    refine GW.region ?_
    refine R.move ⟨Z,Z,Z,Z⟩ Z ?_
    refine R.assign ⟨Z,Z,Z,Z⟩ Z ?_
    refine GOps.nil ?_
    refine GW.draw ((b, dictC lim va (.slice Ae ts.length ce) b15 (2 ^ (4 + e))) :: (Ha ++ (He ++ G))) 16 Z (by kernel_rfl) ?_
    refine GA.w 0 Z (V.move ⟨Z,Z,Z,Z⟩ Z) Z ?_
    refine GA.w 1 Z (V.nilCheck ⟨Z,Z,Z,Z⟩ Z) Z ?_
    refine GA.w 2 Z (V.fieldAddr ⟨Z,Z,Z,Z⟩ Z Tryz.underlying103 Z Tryz.sizeOf100) Z ?_
    refine GA.val 3 Z (V.load1 ⟨Z,Z,Z,Z⟩ Z Tryz.underlying100 Z (.own' memG (by rfl))) Z (by kernel_rfl) (by kernel_rfl) (by kernel_rfl) ?_
    refine GA.w 4 Z (V.move ⟨Z,Z,Z,Z⟩ Z) Z ?_
    refine GA.w 5 Z (V.move ⟨Z,Z,Z,Z⟩ Z) Z ?_
    refine GA.w 6 Z (V.move ⟨Z,Z,Z,Z⟩ Z) Z ?_
    refine GA.val 7 Z (V.add (r := (((i + 1) : Nat) : Int)) ⟨Z,Z,Z,Z⟩ Z Z (by rw [wrap64_id (by omega) (by omega)]; omega)) Z (by kernel_rfl) (by kernel_rfl) (by kernel_rfl) ?_
    refine GA.w 8 Z (V.conv (r := ((i + 1 : Nat) : Int)) ⟨Z,Z,Z,Z⟩ Z Tryz.underlying3 Tryz.underlying35 (u32_id _ (by omega))) Z ?_
    refine GA.w 11 Z (V.move ⟨Z,Z,Z,Z⟩ Z) Z ?_
    refine GA.val 12 Z (V.add (r := (((i + 1) : Nat) : Int)) ⟨Z,Z,Z,Z⟩ Z Z (by rw [wrap64_id (by omega) (by omega)]; omega)) Z (by kernel_rfl) (by kernel_rfl) (by kernel_rfl) ?_
    refine GA.w 13 Z (V.conv (r := ((i + 1 : Nat) : Int)) ⟨Z,Z,Z,Z⟩ Z Tryz.underlying3 Tryz.underlying35 (u32_id _ (by omega))) Z ?_
    refine GA.one 9 (by first | exact Hs.drop2 _ _ _ | exact Hs.refl _ | exact Hs.tl _ | exact Hs.tl2 _ _ | exact Hs.tl3 _ _ _ | exact Hs.app _ | exact Hs.sub (by simp)) (by kernel_rfl) Z ?_
    refine R.call ⟨Z,Z,Z,Z⟩ Z (vs := [_, _]) Z ((dict_at _ _ ts va (.slice Ae ts.length ce) Ha He b b15 lim (2 ^ (4 + e)) tab2 i x hr hx).mono ?_)
    rintro _ _ ⟨xa, xf, ⟨rfl, hxr⟩, rfl⟩
    refine GOps.nil ?_
    refine GA.one 10 (by first | exact Hs.drop2 _ _ _ | exact Hs.refl _ | exact Hs.tl _ | exact Hs.tl2 _ _ | exact Hs.tl3 _ _ _ | exact Hs.app _ | exact Hs.sub (by simp)) (by kernel_rfl) Z ?_
    refine R.call ⟨Z,Z,Z,Z⟩ Z (vs := [_, _]) Z ((dict_slot _ _ ts va (.slice Ae ts.length ce) Ha He b b15 lim (2 ^ (4 + e)) tab2 (4 + e) i (packL x) xa xf _ hr ht.len ht (by omega) hi (by omega) hxr (packL_lt hxm) (by omega)).mono ?_)
    rintro _ _ ⟨q, ⟨rfl, hq⟩, rfl⟩
    have hql := hq.lt ht
    have hql2 : q < 2 ^ (4 + e) := by rw [← ht.len]; exact hql
    refine GOps.nil ?_
    refine GA.val 14 Z (V.indexAddrS ⟨Z,Z,Z,Z⟩ Z Z Tryz.underlying100 Tryz.sizeOf35 (by omega) (by omega)) Z (by kernel_rfl) (by kernel_rfl) (by kernel_rfl) ?_
    refine GA.one 15 (by first | exact Hs.drop2 _ _ _ | exact Hs.refl _ | exact Hs.tl _ | exact Hs.tl2 _ _ | exact Hs.tl3 _ _ _ | exact Hs.app _ | exact Hs.sub (by simp)) (by kernel_rfl) Z ?_
    refine R.store (G1 := [_]) Z Z Z Z Z Tryz.sizeOf35 Z Z (Z) (by simp [u32C_len]; omega) ?_
    refine GOps.nil ?_
    refine GA.done (by first | exact Hs.drop2 _ _ _ | exact Hs.refl _ | exact Hs.tl _ | exact Hs.tl2 _ _ | exact Hs.tl3 _ _ _ | exact Hs.app _ | exact Hs.sub (by simp)) (by kernel_rfl) ?_
    refine GW.region ?_
    refine R.add (r := (((i + 1) : Nat) : Int)) ⟨Z,Z,Z,Z⟩ Z Z (by rw [wrap64_id (by omega) (by omega)]; omega) ?_
    refine R.move ⟨Z,Z,Z,Z⟩ Z ?_
    refine GOps.nil ?_
    exact ⟨i + 1, tab2.set q (i + 1), (), (), by omega, ⟨by omega, by have := ht.put hq (not_before hd hx); rw [map_take_succ hx]; rw [List.length_map, List.length_take, Nat.min_eq_left (by omega)] at this; exact this⟩, rfl, keepG, by first | exact Hs.refl _ | exact Hs.tl _ | exact Hs.tl2 _ _ | exact Hs.eq (by rw [tab_put hql]; rfl)⟩
   ·try simp only [dcQ] at hc2
    refine GW.exit ?_
    rw [List.take_of_length_le (by omega)] at ht
    exact Out.end_ (Res.none rfl) (Hs.refl _) ⟨b15, 4 + e, tab2, ⟨rfl, by omega, by omega, ht, by omega⟩, rfl⟩
end Go.Proofs.YtfddkcmooommeaaGreatDoor.Gl
end
section
namespace Go.Proofs.YtfddkcmooommeaaGreatDoor.Gl
open Go.RowKit Go.Shelf
set_option linter.unusedVariables false
set_option linter.unnecessarySimpa false
set_option linter.unusedSimpArgs false
attribute [-simp] List.getD_eq_getElem?_getD
theorem row_rds {w0 : World} {G : Hp} {b m : Nat} {cs : List Value} {e : TypeId} (hm : (b, Know.row cs e m) ∈ G) : Rds w0 G b 0 cs := fun j v hv => .own hm (by show cs[0 + j]? = _; rw [Nat.zero_add]; exact hv)
theorem int_hs (x y p q : Nat × Know) (H H2 G : Hp) : Hs (x :: y :: p :: q :: (H ++ (H2 ++ G))) (p :: q :: (H ++ (H2 ++ (x :: y :: G)))) := Hs.perm (by
 have h1 : (H ++ (H2 ++ (x :: y :: G))).Perm (x :: y :: (H ++ (H2 ++ G))) := by
  rw [← List.append_assoc, ← List.append_assoc]
  exact (List.perm_middle.trans ((List.perm_middle).cons x))
 exact ((h1.cons q).cons p).trans (((List.Perm.swap x q _).cons p).trans ((List.Perm.swap x p _).trans ((((List.Perm.swap y q _).cons p).trans (List.Perm.swap y p _)).cons x))))
theorem int_out (x y p q : Nat × Know) (H H2 G : Hp) : Hs (p :: q :: (H ++ (H2 ++ (x :: y :: G)))) (p :: q :: (H ++ (H2 ++ G))) :=
 Hs.sub ((((((List.Sublist.refl G).cons y).cons x).append_left H2).append_left H).cons_cons q |>.cons_cons p)
theorem new_hs (c y r s p q u : Nat × Know) (G : Hp) : Hs ([c, y] ++ u :: ([p] ++ ([q] ++ (r :: s :: G)))) (y :: u :: ([p] ++ ([q] ++ G))) :=
 Hs.sub ((((((List.Sublist.refl G).cons s).cons r).cons_cons q).cons_cons p |>.cons_cons u).cons_cons y |>.cons c)
theorem u8C_one (l : List Nat) : (u8C l).all (·.oneCell') = true := by
 rw [List.all_eq_true]
 intro v hv
 obtain ⟨c, _, rfl⟩ := List.mem_map.1 hv
 rfl
theorem int_found (w0 : World) (G : Hp) (ts : List Tm) (va ve : Value) (Ha He : Hp) (b bt lim k : Nat) (tab : List Nat) (t : Tm) (hr : Raw ts va ve Ha He) (ht : TabOk (ts.map packL) k tab) (hk : k ≤ 12) (h2 : 2 * ts.length ≤ 2 ^ k) (h4 : 4 ≤ k) (hmay : mayT t = true) (n : Nat) (hn : ts[n]? = some t) (hd : (ts.map packL).Nodup) : GC Tryz.prog w0 29 #[.pointer (some ⟨b, 0, none⟩), .agg #[.int .i64 t.kind, .string t.text, .string t.ext]] (fun v G' => v = .tuple #[.int .u32 ((n + 1 : Nat) : Int), .int .i64 0] ∧ ((b, dictC lim va ve bt (2 ^ k)) :: (bt, tabC tab) :: (Ha ++ (He ++ G))) = G') ((b, dictC lim va ve bt (2 ^ k)) :: (bt, tabC tab) :: (Ha ++ (He ++ G))) := by
 have hmost := hr.most
 obtain ⟨m1, m2, m3, m4⟩ := mayT_facts hmay
 have hpl := packL_len t
 have hp4 : 2 ^ k ≤ 2 ^ 12 := Nat.pow_le_pow_right (by decide) hk
 have hp0 : 2 ^ 4 ≤ 2 ^ k := Nat.pow_le_pow_right (by decide) h4
 have htl := ht.len
 obtain ⟨Ae, ce, rfl, hce⟩ := hr.he.split
 have htk : TabOk ((ts.take ts.length).map packL) k tab := by rw [List.take_length]; exact ht
 have hnl : n < ts.length := (List.getElem?_eq_some_iff.1 hn).1
 refine GC.body (args := [.pointer (some ⟨b, 0, none⟩), .agg #[.int .i64 t.kind, .string t.text, .string t.ext]]) Tryz.func29 rfl (by kernel_rfl) rfl ?_
 refine GW.seq ?_
 refine GW.region ?_
 refine R.box ⟨Z,Z,Z,Z⟩ Z fun b3 => ?_
 refine R.assign ⟨Z,Z,Z,Z⟩ Z ?_
 refine R.assign ⟨Z,Z,Z,Z⟩ Z ?_
 refine GOps.nil ?_
 refine GW.seq ?_
 refine GW.block ?_
 refine GW.seq ?_
 refine GW.region ?_
 refine R.move ⟨Z,Z,Z,Z⟩ Z ?_
 refine R.call ⟨Z,Z,Z,Z⟩ Z (vs := [_]) Z ((dict_there _ _ va (.slice Ae ts.length ce) b bt lim (2 ^ k) memH).mono ?_)
 rintro _ _ ⟨rfl, rfl⟩
 refine R.not ⟨Z,Z,Z,Z⟩ Z ?_
 refine R.assign ⟨Z,Z,Z,Z⟩ Z ?_
 refine GOps.nil ?_
 refine GW.ite Z (fun hc1 => ?_) (fun hc1 => ?_)
 ·try simp only [dcQ] at hc1
  exfalso; simp at hc1
 ·try simp only [dcQ] at hc1
  refine GW.seq ?_
  refine GW.region ?_
  refine R.load_own (cs := _) ⟨Z,Z,Z,Z⟩ Z Tryz.underlying24 Z Tryz.sizeOf24 memG (by rfl) (by rfl) ?_
  refine R.call ⟨Z,Z,Z,Z⟩ Z (vs := [_]) Z ((term_May _ _ t (by omega) (by omega)).mono ?_)
  rintro _ _ ⟨rfl, rfl⟩
  refine R.not ⟨Z,Z,Z,Z⟩ Z ?_
  refine R.assign ⟨Z,Z,Z,Z⟩ Z ?_
  refine GOps.nil ?_
  refine GW.ite Z (fun hc2 => ?_) (fun hc2 => ?_)
  ·try simp only [dcQ] at hc2
   exfalso; simp [hmay] at hc2
  ·try simp only [dcQ] at hc2
   refine GW.skip ?_
   refine GW.seq ?_
   refine GW.region ?_
   refine R.load_own ⟨Z,Z,Z,Z⟩ Z Tryz.underlying24 Z Tryz.sizeOf24 memG (by rfl) (by rfl) ?_
   refine R.call ⟨Z,Z,Z,Z⟩ Z (vs := [_]) Z ((dict_pack _ _ t hmay).mono ?_)
   rintro _ _ ⟨pa, pc, ⟨rfl, hpc⟩, rfl⟩
   refine R.assign ⟨Z,Z,Z,Z⟩ Z ?_
   refine GOps.nil ?_
   refine GW.seq ?_
   refine GW.region ?_
   refine R.move ⟨Z,Z,Z,Z⟩ Z ?_
   refine R.move ⟨Z,Z,Z,Z⟩ Z ?_
   refine GOps.weak (Keeps.refl _) (int_hs _ _ _ _ _ _ _) ?_
   refine R.call ⟨Z,Z,Z,Z⟩ Z (vs := [_, _]) Z ((dict_slot _ ((pa, .row (u8C (packL t)) 5 (pc * 1)) :: (b3, .exact (.cells (Value.agg #[.int .i64 t.kind, .string t.text, .string t.ext]).cells 24 (0, 0))) :: G) ts va (.slice Ae ts.length ce) Ha He b bt lim (2 ^ k) tab k ts.length (packL t) pa 0 pc hr htl htk (by omega) (Nat.le_refl _) (by omega) (row_rds memH) (packL_lt hmay) (by omega)).mono ?_)
   rintro _ _ ⟨q, ⟨rfl, hq⟩, rfl⟩
   rw [List.take_length] at hq
   have hql := hq.lt ht
   have hql2 : q < 2 ^ k := by rw [← htl]; exact hql
   have hqe := hq.found ht hd (n := n) (by rw [List.getElem?_map, hn]; rfl)
   refine R.assign ⟨Z,Z,Z,Z⟩ Z ?_
   refine GOps.nil ?_
   refine GW.seq ?_
   refine GW.block ?_
   refine GW.seq ?_
   refine GW.region ?_
   refine R.move ⟨Z,Z,Z,Z⟩ Z ?_
   refine R.nilCheck ⟨Z,Z,Z,Z⟩ Z ?_
   refine R.fieldAddr ⟨Z,Z,Z,Z⟩ Z Tryz.underlying103 Z Tryz.sizeOf100 ?_
   refine R.load1 ⟨Z,Z,Z,Z⟩ Z Tryz.underlying100 Z (.own' memG (by rfl)) ?_
   refine R.move ⟨Z,Z,Z,Z⟩ Z ?_
   refine R.indexAddrS ⟨Z,Z,Z,Z⟩ Z Z Tryz.underlying100 Tryz.sizeOf35 (by omega) (by omega) ?_
   refine R.load1 ⟨Z,Z,Z,Z⟩ Z Tryz.underlying35 Z (tab_load (p := q) memH hqe) ?_
   refine R.gtr ⟨Z,Z,Z,Z⟩ Z Z ?_
   refine R.assign ⟨Z,Z,Z,Z⟩ Z ?_
   refine GOps.nil ?_
   refine GW.ite Z (fun hc3 => ?_) (fun hc3 => ?_)
   ·try simp only [dcQ] at hc3
    refine GW.seq ?_
    refine GW.region ?_
    refine R.move ⟨Z,Z,Z,Z⟩ Z ?_
    refine R.nilCheck ⟨Z,Z,Z,Z⟩ Z ?_
    refine R.fieldAddr ⟨Z,Z,Z,Z⟩ Z Tryz.underlying103 Z Tryz.sizeOf100 ?_
    refine R.load1 ⟨Z,Z,Z,Z⟩ Z Tryz.underlying100 Z (.own' memG (by rfl)) ?_
    refine R.move ⟨Z,Z,Z,Z⟩ Z ?_
    refine R.indexAddrS ⟨Z,Z,Z,Z⟩ Z Z Tryz.underlying100 Tryz.sizeOf35 (by omega) (by omega) ?_
    refine R.load1 ⟨Z,Z,Z,Z⟩ Z Tryz.underlying35 Z (tab_load (p := q) memH hqe) ?_
    refine R.assign ⟨Z,Z,Z,Z⟩ Z ?_
    refine R.assign ⟨Z,Z,Z,Z⟩ Z ?_
    refine GOps.nil ?_
    exact GW.ret (Out.of (Res.two rfl rfl rfl) (int_out _ _ _ _ _ _ _) ⟨rfl, rfl⟩)
   ·try simp only [dcQ] at hc3
    exfalso; omega
theorem int_full (w0 : World) (G : Hp) (ts : List Tm) (va ve : Value) (Ha He : Hp) (b bt lim k : Nat) (tab : List Nat) (t : Tm) (hr : Raw ts va ve Ha He) (ht : TabOk (ts.map packL) k tab) (hk : k ≤ 12) (h2 : 2 * ts.length ≤ 2 ^ k) (h4 : 4 ≤ k) (hmay : mayT t = true) (hn : packL t ∉ ts.map packL) (hl : lim ≤ ts.length) : GC Tryz.prog w0 29 #[.pointer (some ⟨b, 0, none⟩), .agg #[.int .i64 t.kind, .string t.text, .string t.ext]] (fun v G' => v = .tuple #[.int .u32 0, .int .i64 9] ∧ ((b, dictC lim va ve bt (2 ^ k)) :: (bt, tabC tab) :: (Ha ++ (He ++ G))) = G') ((b, dictC lim va ve bt (2 ^ k)) :: (bt, tabC tab) :: (Ha ++ (He ++ G))) := by
 have hmost := hr.most
 obtain ⟨m1, m2, m3, m4⟩ := mayT_facts hmay
 have hpl := packL_len t
 have hp4 : 2 ^ k ≤ 2 ^ 12 := Nat.pow_le_pow_right (by decide) hk
 have hp0 : 2 ^ 4 ≤ 2 ^ k := Nat.pow_le_pow_right (by decide) h4
 have htl := ht.len
 obtain ⟨Ae, ce, rfl, hce⟩ := hr.he.split
 have htk : TabOk ((ts.take ts.length).map packL) k tab := by rw [List.take_length]; exact ht
 refine GC.body (args := [.pointer (some ⟨b, 0, none⟩), .agg #[.int .i64 t.kind, .string t.text, .string t.ext]]) Tryz.func29 rfl (by kernel_rfl) rfl ?_
 refine GW.seq ?_
 refine GW.region ?_
 refine R.box ⟨Z,Z,Z,Z⟩ Z fun b3 => ?_
 refine R.assign ⟨Z,Z,Z,Z⟩ Z ?_
 refine R.assign ⟨Z,Z,Z,Z⟩ Z ?_
 refine GOps.nil ?_
 refine GW.seq ?_
 refine GW.block ?_
 refine GW.seq ?_
 refine GW.region ?_
 refine R.move ⟨Z,Z,Z,Z⟩ Z ?_
 refine R.call ⟨Z,Z,Z,Z⟩ Z (vs := [_]) Z ((dict_there _ _ va (.slice Ae ts.length ce) b bt lim (2 ^ k) memH).mono ?_)
 rintro _ _ ⟨rfl, rfl⟩
 refine R.not ⟨Z,Z,Z,Z⟩ Z ?_
 refine R.assign ⟨Z,Z,Z,Z⟩ Z ?_
 refine GOps.nil ?_
 refine GW.ite Z (fun hc1 => ?_) (fun hc1 => ?_)
 ·try simp only [dcQ] at hc1
  exfalso; simp at hc1
 ·try simp only [dcQ] at hc1
  refine GW.seq ?_
  refine GW.region ?_
  refine R.load_own (cs := _) ⟨Z,Z,Z,Z⟩ Z Tryz.underlying24 Z Tryz.sizeOf24 memG (by rfl) (by rfl) ?_
  refine R.call ⟨Z,Z,Z,Z⟩ Z (vs := [_]) Z ((term_May _ _ t (by omega) (by omega)).mono ?_)
  rintro _ _ ⟨rfl, rfl⟩
  refine R.not ⟨Z,Z,Z,Z⟩ Z ?_
  refine R.assign ⟨Z,Z,Z,Z⟩ Z ?_
  refine GOps.nil ?_
  refine GW.ite Z (fun hc2 => ?_) (fun hc2 => ?_)
  ·try simp only [dcQ] at hc2
   exfalso; simp [hmay] at hc2
  ·try simp only [dcQ] at hc2
   refine GW.skip ?_
   refine GW.seq ?_
   refine GW.region ?_
   refine R.load_own ⟨Z,Z,Z,Z⟩ Z Tryz.underlying24 Z Tryz.sizeOf24 memG (by rfl) (by rfl) ?_
   refine R.call ⟨Z,Z,Z,Z⟩ Z (vs := [_]) Z ((dict_pack _ _ t hmay).mono ?_)
   rintro _ _ ⟨pa, pc, ⟨rfl, hpc⟩, rfl⟩
   refine R.assign ⟨Z,Z,Z,Z⟩ Z ?_
   refine GOps.nil ?_
   refine GW.seq ?_
   refine GW.region ?_
   refine R.move ⟨Z,Z,Z,Z⟩ Z ?_
   refine R.move ⟨Z,Z,Z,Z⟩ Z ?_
   refine GOps.weak (Keeps.refl _) (int_hs _ _ _ _ _ _ _) ?_
   refine R.call ⟨Z,Z,Z,Z⟩ Z (vs := [_, _]) Z ((dict_slot _ ((pa, .row (u8C (packL t)) 5 (pc * 1)) :: (b3, .exact (.cells (Value.agg #[.int .i64 t.kind, .string t.text, .string t.ext]).cells 24 (0, 0))) :: G) ts va (.slice Ae ts.length ce) Ha He b bt lim (2 ^ k) tab k ts.length (packL t) pa 0 pc hr htl htk (by omega) (Nat.le_refl _) (by omega) (row_rds memH) (packL_lt hmay) (by omega)).mono ?_)
   rintro _ _ ⟨q, ⟨rfl, hq⟩, rfl⟩
   rw [List.take_length] at hq
   have hql := hq.lt ht
   have hql2 : q < 2 ^ k := by rw [← htl]; exact hql
   have hqe : tab[q]? = some 0 := hq.free hn
   refine R.assign ⟨Z,Z,Z,Z⟩ Z ?_
   refine GOps.nil ?_
   refine GW.seq ?_
   refine GW.block ?_
   refine GW.seq ?_
   refine GW.region ?_
   refine R.move ⟨Z,Z,Z,Z⟩ Z ?_
   refine R.nilCheck ⟨Z,Z,Z,Z⟩ Z ?_
   refine R.fieldAddr ⟨Z,Z,Z,Z⟩ Z Tryz.underlying103 Z Tryz.sizeOf100 ?_
   refine R.load1 ⟨Z,Z,Z,Z⟩ Z Tryz.underlying100 Z (.own' memG (by rfl)) ?_
   refine R.move ⟨Z,Z,Z,Z⟩ Z ?_
   refine R.indexAddrS ⟨Z,Z,Z,Z⟩ Z Z Tryz.underlying100 Tryz.sizeOf35 (by omega) (by omega) ?_
   refine R.load1 ⟨Z,Z,Z,Z⟩ Z Tryz.underlying35 Z (tab_load (p := q) memH hqe) ?_
   refine R.gtr ⟨Z,Z,Z,Z⟩ Z Z ?_
   refine R.assign ⟨Z,Z,Z,Z⟩ Z ?_
   refine GOps.nil ?_
   refine GW.ite Z (fun hc3 => ?_) (fun hc3 => ?_)
   ·try simp only [dcQ] at hc3
    exfalso; omega
   ·try simp only [dcQ] at hc3
    refine GW.seq ?_
    refine GW.drawS 11 Z (by kernel_rfl) ?_
    refine GA.w 0 Z (V.move ⟨Z,Z,Z,Z⟩ Z) Z ?_
    refine GA.w 1 Z (V.nilCheck ⟨Z,Z,Z,Z⟩ Z) Z ?_
    refine GA.w 2 Z (V.fieldAddr ⟨Z,Z,Z,Z⟩ Z Tryz.underlying103 Z Tryz.sizeOf32) Z ?_
    refine GA.val 3 Z (V.load1 ⟨Z,Z,Z,Z⟩ Z Tryz.underlying32 Z (.own' memG (by rfl))) Z (by kernel_rfl) (by kernel_rfl) (by kernel_rfl) ?_
    refine GA.w 4 Z (V.lenS ⟨Z,Z,Z,Z⟩ Z Z Tryz.underlying32) Z ?_
    refine GA.w 5 Z (V.move ⟨Z,Z,Z,Z⟩ Z) Z ?_
    refine GA.w 6 Z (V.nilCheck ⟨Z,Z,Z,Z⟩ Z) Z ?_
    refine GA.w 7 Z (V.fieldAddr ⟨Z,Z,Z,Z⟩ Z Tryz.underlying103 Z Tryz.sizeOf3) Z ?_
    refine GA.val 8 Z (V.load1 ⟨Z,Z,Z,Z⟩ Z Tryz.underlying3 Z (.own' memG (by rfl))) Z (by kernel_rfl) (by kernel_rfl) (by kernel_rfl) ?_
    refine GA.val 9 Z (V.geq ⟨Z,Z,Z,Z⟩ Z Z) Z (by kernel_rfl) (by kernel_rfl) (by kernel_rfl) ?_
    refine GA.w 10 Z (V.assign ⟨Z,Z,Z,Z⟩ Z) Z ?_
    refine GA.done hsC (by kernel_rfl) ?_
    refine GW.ite Z (fun hc4 => ?_) (fun hc4 => ?_)
    ·try simp only [dcQ] at hc4
     refine GW.seq ?_
     refine GW.region ?_
     refine R.assign ⟨Z,Z,Z,Z⟩ Z ?_
     refine R.assign ⟨Z,Z,Z,Z⟩ Z ?_
     refine GOps.nil ?_
     exact GW.ret (Out.of (Res.two rfl rfl rfl) (int_out _ _ _ _ _ _ _) ⟨rfl, rfl⟩)
    ·try simp only [dcQ] at hc4
     exfalso; omega
theorem int_new (w0 : World) (G : Hp) (ts : List Tm) (va ve : Value) (Ha He : Hp) (b bt lim k : Nat) (tab : List Nat) (t : Tm) (hr : Raw ts va ve Ha He) (ht : TabOk (ts.map packL) k tab) (hk : k ≤ 12) (h2 : 2 * ts.length ≤ 2 ^ k) (h4 : 4 ≤ k) (hmay : mayT t = true) (hn : packL t ∉ ts.map packL) (hl : ts.length < lim) (hlim : lim ≤ 1000) (hd : (ts.map packL).Nodup) : GC Tryz.prog w0 29 #[.pointer (some ⟨b, 0, none⟩), .agg #[.int .i64 t.kind, .string t.text, .string t.ext]] (fun v G' => ∃ va2 ve2 Ha2 He2 bt2 k2 tab2, (v = .tuple #[.int .u32 ((ts.length + 1 : Nat) : Int), .int .i64 0] ∧ Raw (ts ++ [t]) va2 ve2 Ha2 He2 ∧ TabOk ((ts ++ [t]).map packL) k2 tab2 ∧ k2 ≤ 12 ∧ 2 * (ts ++ [t]).length ≤ 2 ^ k2 ∧ 4 ≤ k2) ∧ (b, dictC lim va2 ve2 bt2 (2 ^ k2)) :: (bt2, tabC tab2) :: (Ha2 ++ (He2 ++ G)) = G') ((b, dictC lim va ve bt (2 ^ k)) :: (bt, tabC tab) :: (Ha ++ (He ++ G))) := by
 have hmost := hr.most
 obtain ⟨m1, m2, m3, m4⟩ := mayT_facts hmay
 have hpl := packL_len t
 have hp4 : 2 ^ k ≤ 2 ^ 12 := Nat.pow_le_pow_right (by decide) hk
 have hp0 : 2 ^ 4 ≤ 2 ^ k := Nat.pow_le_pow_right (by decide) h4
 have htl := ht.len
 obtain ⟨Ae, ce, rfl, hce⟩ := hr.he.split
 have htk : TabOk ((ts.take ts.length).map packL) k tab := by rw [List.take_length]; exact ht
 have hbl := bytes_le hr.may
 have hl2 : (ts ++ [t]).length = ts.length + 1 := by simp
 have may2 : ∀ u ∈ (ts ++ [t]), mayT u = true := fun u hu => by rcases List.mem_append.1 hu with h | h; exact hr.may u h; rw [List.mem_singleton.1 h]; exact hmay
 have hd2 : ((ts ++ [t]).map packL).Nodup := by rw [List.map_append]; exact List.nodup_append.2 ⟨hd, by simp, fun a ha b hb e => by simp at hb; subst hb; subst e; exact hn ha⟩
 refine GC.body (args := [.pointer (some ⟨b, 0, none⟩), .agg #[.int .i64 t.kind, .string t.text, .string t.ext]]) Tryz.func29 rfl (by kernel_rfl) rfl ?_
 refine GW.seq ?_
 refine GW.region ?_
 refine R.box ⟨Z,Z,Z,Z⟩ Z fun b3 => ?_
 refine R.assign ⟨Z,Z,Z,Z⟩ Z ?_
 refine R.assign ⟨Z,Z,Z,Z⟩ Z ?_
 refine GOps.nil ?_
 refine GW.seq ?_
 refine GW.block ?_
 refine GW.seq ?_
 refine GW.region ?_
 refine R.move ⟨Z,Z,Z,Z⟩ Z ?_
 refine R.call ⟨Z,Z,Z,Z⟩ Z (vs := [_]) Z ((dict_there _ _ va (.slice Ae ts.length ce) b bt lim (2 ^ k) memH).mono ?_)
 rintro _ _ ⟨rfl, rfl⟩
 refine R.not ⟨Z,Z,Z,Z⟩ Z ?_
 refine R.assign ⟨Z,Z,Z,Z⟩ Z ?_
 refine GOps.nil ?_
 refine GW.ite Z (fun hc1 => ?_) (fun hc1 => ?_)
 ·try simp only [dcQ] at hc1
  exfalso; simp at hc1
 ·try simp only [dcQ] at hc1
  refine GW.seq ?_
  refine GW.region ?_
  refine R.load_own (cs := _) ⟨Z,Z,Z,Z⟩ Z Tryz.underlying24 Z Tryz.sizeOf24 memG (by rfl) (by rfl) ?_
  refine R.call ⟨Z,Z,Z,Z⟩ Z (vs := [_]) Z ((term_May _ _ t (by omega) (by omega)).mono ?_)
  rintro _ _ ⟨rfl, rfl⟩
  refine R.not ⟨Z,Z,Z,Z⟩ Z ?_
  refine R.assign ⟨Z,Z,Z,Z⟩ Z ?_
  refine GOps.nil ?_
  refine GW.ite Z (fun hc2 => ?_) (fun hc2 => ?_)
  ·try simp only [dcQ] at hc2
   exfalso; simp [hmay] at hc2
  ·try simp only [dcQ] at hc2
   refine GW.skip ?_
   refine GW.seq ?_
   refine GW.region ?_
   refine R.load_own ⟨Z,Z,Z,Z⟩ Z Tryz.underlying24 Z Tryz.sizeOf24 memG (by rfl) (by rfl) ?_
   refine R.call ⟨Z,Z,Z,Z⟩ Z (vs := [_]) Z ((dict_pack _ _ t hmay).mono ?_)
   rintro _ _ ⟨pa, pc, ⟨rfl, hpc⟩, rfl⟩
   refine R.assign ⟨Z,Z,Z,Z⟩ Z ?_
   refine GOps.nil ?_
   refine GW.seq ?_
   refine GW.region ?_
   refine R.move ⟨Z,Z,Z,Z⟩ Z ?_
   refine R.move ⟨Z,Z,Z,Z⟩ Z ?_
   refine GOps.weak (Keeps.refl _) (int_hs _ _ _ _ _ _ _) ?_
   refine R.call ⟨Z,Z,Z,Z⟩ Z (vs := [_, _]) Z ((dict_slot _ ((pa, .row (u8C (packL t)) 5 (pc * 1)) :: (b3, .exact (.cells (Value.agg #[.int .i64 t.kind, .string t.text, .string t.ext]).cells 24 (0, 0))) :: G) ts va (.slice Ae ts.length ce) Ha He b bt lim (2 ^ k) tab k ts.length (packL t) pa 0 pc hr htl htk (by omega) (Nat.le_refl _) (by omega) (row_rds memH) (packL_lt hmay) (by omega)).mono ?_)
   rintro _ _ ⟨q, ⟨rfl, hq⟩, rfl⟩
   rw [List.take_length] at hq
   have hql := hq.lt ht
   have hql2 : q < 2 ^ k := by rw [← htl]; exact hql
   have hqe : tab[q]? = some 0 := hq.free hn
   refine R.assign ⟨Z,Z,Z,Z⟩ Z ?_
   refine GOps.nil ?_
   refine GW.seq ?_
   refine GW.block ?_
   refine GW.seq ?_
   refine GW.region ?_
   refine R.move ⟨Z,Z,Z,Z⟩ Z ?_
   refine R.nilCheck ⟨Z,Z,Z,Z⟩ Z ?_
   refine R.fieldAddr ⟨Z,Z,Z,Z⟩ Z Tryz.underlying103 Z Tryz.sizeOf100 ?_
   refine R.load1 ⟨Z,Z,Z,Z⟩ Z Tryz.underlying100 Z (.own' memG (by rfl)) ?_
   refine R.move ⟨Z,Z,Z,Z⟩ Z ?_
   refine R.indexAddrS ⟨Z,Z,Z,Z⟩ Z Z Tryz.underlying100 Tryz.sizeOf35 (by omega) (by omega) ?_
   refine R.load1 ⟨Z,Z,Z,Z⟩ Z Tryz.underlying35 Z (tab_load (p := q) memH hqe) ?_
   refine R.gtr ⟨Z,Z,Z,Z⟩ Z Z ?_
   refine R.assign ⟨Z,Z,Z,Z⟩ Z ?_
   refine GOps.nil ?_
   refine GW.ite Z (fun hc3 => ?_) (fun hc3 => ?_)
   ·try simp only [dcQ] at hc3
    exfalso; omega
   ·try simp only [dcQ] at hc3
    refine GW.seq ?_
    refine GW.drawS 11 Z (by kernel_rfl) ?_
    refine GA.w 0 Z (V.move ⟨Z,Z,Z,Z⟩ Z) Z ?_
    refine GA.w 1 Z (V.nilCheck ⟨Z,Z,Z,Z⟩ Z) Z ?_
    refine GA.w 2 Z (V.fieldAddr ⟨Z,Z,Z,Z⟩ Z Tryz.underlying103 Z Tryz.sizeOf32) Z ?_
    refine GA.val 3 Z (V.load1 ⟨Z,Z,Z,Z⟩ Z Tryz.underlying32 Z (.own' memG (by rfl))) Z (by kernel_rfl) (by kernel_rfl) (by kernel_rfl) ?_
    refine GA.w 4 Z (V.lenS ⟨Z,Z,Z,Z⟩ Z Z Tryz.underlying32) Z ?_
    refine GA.w 5 Z (V.move ⟨Z,Z,Z,Z⟩ Z) Z ?_
    refine GA.w 6 Z (V.nilCheck ⟨Z,Z,Z,Z⟩ Z) Z ?_
    refine GA.w 7 Z (V.fieldAddr ⟨Z,Z,Z,Z⟩ Z Tryz.underlying103 Z Tryz.sizeOf3) Z ?_
    refine GA.val 8 Z (V.load1 ⟨Z,Z,Z,Z⟩ Z Tryz.underlying3 Z (.own' memG (by rfl))) Z (by kernel_rfl) (by kernel_rfl) (by kernel_rfl) ?_
    refine GA.val 9 Z (V.geq ⟨Z,Z,Z,Z⟩ Z Z) Z (by kernel_rfl) (by kernel_rfl) (by kernel_rfl) ?_
    refine GA.w 10 Z (V.assign ⟨Z,Z,Z,Z⟩ Z) Z ?_
    refine GA.done hsC (by kernel_rfl) ?_
    refine GW.ite Z (fun hc4 => ?_) (fun hc4 => ?_)
    ·try simp only [dcQ] at hc4
     exfalso; omega
    ·try simp only [dcQ] at hc4
     refine GW.skip ?_
     refine GW.seq ?_
     refine GW.region ?_
     refine R.move ⟨Z,Z,Z,Z⟩ Z ?_
     refine R.move ⟨Z,Z,Z,Z⟩ Z ?_
     refine R.nilCheck ⟨Z,Z,Z,Z⟩ Z ?_
     refine R.fieldAddr ⟨Z,Z,Z,Z⟩ Z Tryz.underlying103 Z Tryz.sizeOf101 ?_
     refine R.load1 ⟨Z,Z,Z,Z⟩ Z Tryz.underlying101 Z (.own' memG (by rfl)) ?_
     refine R.move ⟨Z,Z,Z,Z⟩ Z ?_
     refine R.append (sz := 1) (bytes := 1) (G1 := [_, _]) (H := Ha) (news := u8C (packL t)) ⟨Z,Z,Z,Z⟩ Z Z Z Tryz.underlying101 (InfoE.mk (by kernel_rfl)) (hr.ha) (Z) (by rw [u8C_len, Nat.mul_one]) (row_rds memH) (by omega) (u8C_one _) (by omega) (by omega) fun v55 H55 hv55 => ?_
     have hv55' : SlAt 1 5 (u8C (bytesL (ts ++ [t]))) (bytesL (ts ++ [t])).length v55 H55 := by rw [bytes_app, bytes_one, u8C_app, List.length_append]; exact hv55
     have hbl2 : (bytesL (ts ++ [t])).length = (bytesL ts).length + (packL t).length := by rw [bytes_app, bytes_one, List.length_append]
     obtain ⟨ba, ca, rfl, rfl, hca⟩ := hv55'.row_of (by omega)
     refine R.nilCheck ⟨Z,Z,Z,Z⟩ Z ?_
     refine R.fieldAddr ⟨Z,Z,Z,Z⟩ Z Tryz.underlying103 Z Tryz.sizeOf101 ?_
     refine R.store (G1 := []) Z Z Z Z Z Tryz.sizeOf101 Z Z (Z) (Nat.le_of_ble_eq_true Z) ?_
     refine GOps.nil ?_
     refine GW.seq ?_
     refine GW.draw (G) 15 Z (by kernel_rfl) ?_
     refine GA.w 0 Z (V.move ⟨Z,Z,Z,Z⟩ Z) Z ?_
     refine GA.w 1 Z (V.move ⟨Z,Z,Z,Z⟩ Z) Z ?_
     refine GA.w 2 Z (V.nilCheck ⟨Z,Z,Z,Z⟩ Z) Z ?_
     refine GA.w 3 Z (V.fieldAddr ⟨Z,Z,Z,Z⟩ Z Tryz.underlying103 Z Tryz.sizeOf32) Z ?_
     refine GA.w 5 Z (V.move ⟨Z,Z,Z,Z⟩ Z) Z ?_
     refine GA.w 6 Z (V.nilCheck ⟨Z,Z,Z,Z⟩ Z) Z ?_
     refine GA.w 7 Z (V.fieldAddr ⟨Z,Z,Z,Z⟩ Z Tryz.underlying103 Z Tryz.sizeOf101) Z ?_
     refine GA.two 4 8 hsD (by kernel_rfl) Z Z ?_ ?_
     ·refine R.load1 ⟨Z,Z,Z,Z⟩ Z Tryz.underlying32 Z (.own' memG (by rfl)) ?_
      refine GOps.nil ?_
      refine GA.one 8 hsD (by kernel_rfl) Z ?_
      refine R.load1 ⟨Z,Z,Z,Z⟩ Z Tryz.underlying101 Z (.own' memG (by rfl)) ?_
      refine GOps.nil ?_
      refine GA.w 9 Z (V.lenS ⟨Z,Z,Z,Z⟩ Z Z Tryz.underlying101) Z ?_
      refine GA.one 10 hsD (by kernel_rfl) Z ?_
      refine R.buildSliceF (sz := 1) (bytes := 8) (vs := [_]) (cs := [_]) ⟨Z,Z,Z,Z⟩ Z Tryz.underlying32 (InfoE.mk (by kernel_rfl)) Z Z Z Z Z fun b68 => ?_
      refine GOps.nil ?_
      refine GA.one 11 hsD (by kernel_rfl) Z ?_
      refine R.append (sz := 1) (bytes := 8) (G1 := [_, _, _, _]) (H := He) (news := [.int .i64 (((bytesL (ts ++ [t])).length : Nat) : Int)]) ⟨Z,Z,Z,Z⟩ Z Z Z Tryz.underlying32 (InfoE.mk (by kernel_rfl)) (hr.he) (Z) (Z) (.own memH 0 _ (fun j v hv => by simpa using hv)) (by omega) (by rfl) (by omega) (by omega) fun v69 H69 hv69 => ?_
      have hv69' : SlAt 1 3 (intC (endsL (ts ++ [t]))) (ts ++ [t]).length v69 H69 := by rw [ends_app, intC_app, hl2]; exact hv69
      obtain ⟨be, cc, rfl, rfl, hcc⟩ := hv69'.row_of (by omega)
      have hr2 : Raw (ts ++ [t]) (.slice (some ⟨ba, 0, none⟩) (bytesL (ts ++ [t])).length ca) (.slice (some ⟨be, 0, none⟩) (ts ++ [t]).length cc) [(ba, .row (u8C (bytesL (ts ++ [t]))) 5 (ca * 1))] [(be, .row (intC (endsL (ts ++ [t]))) 3 (cc * 1))] := ⟨hv55', hv69', may2, by omega⟩
      have ht2 : TabOk ((ts ++ [t]).map packL) k (tab.set q (ts.length + 1)) := by have := ht.put hq hn; rw [List.length_map] at this; rw [List.map_append]; exact this
      refine GOps.nil ?_
      refine GA.w 12 Z (V.nilCheck ⟨Z,Z,Z,Z⟩ Z) Z ?_
      refine GA.w 13 Z (V.fieldAddr ⟨Z,Z,Z,Z⟩ Z Tryz.underlying103 Z Tryz.sizeOf32) Z ?_
      refine GA.one 14 hsD (by kernel_rfl) Z ?_
      refine R.store (G1 := [_]) Z Z Z Z Z Tryz.sizeOf32 Z Z (Z) (Nat.le_of_ble_eq_true Z) ?_
      refine GOps.nil ?_
      refine GA.done hsD (by kernel_rfl) ?_
      refine GW.seq ?_
      refine GW.region ?_
      refine R.move ⟨Z,Z,Z,Z⟩ Z ?_
      refine R.nilCheck ⟨Z,Z,Z,Z⟩ Z ?_
      refine R.fieldAddr ⟨Z,Z,Z,Z⟩ Z Tryz.underlying103 Z Tryz.sizeOf32 ?_
      refine R.load1 ⟨Z,Z,Z,Z⟩ Z Tryz.underlying32 Z (.own' memG (by rfl)) ?_
      refine R.lenS ⟨Z,Z,Z,Z⟩ Z Z Tryz.underlying32 ?_
      refine R.conv (r := ((ts.length + 1 : Nat) : Int)) ⟨Z,Z,Z,Z⟩ Z Tryz.underlying3 Tryz.underlying35 (by rw [hl2]; exact u32_id _ (by omega)) ?_
      refine R.assign ⟨Z,Z,Z,Z⟩ Z ?_
      refine GOps.nil ?_
      refine GW.seq ?_
      refine GW.cutE (fun u v => [(0, .pointer (some ⟨b, 0, none⟩)), (8, .int .u32 ((ts.length + 1 : Nat) : Int))]) (fun u v => (b, dictC lim (.slice (some ⟨ba, 0, none⟩) (bytesL (ts ++ [t])).length ca) (.slice (some ⟨be, 0, none⟩) (ts ++ [t]).length cc) bt (2 ^ k)) :: (bt, tabC (tab.set q (ts.length + 1))) :: ([(ba, .row (u8C (bytesL (ts ++ [t]))) 5 (ca * 1))] ++ ([(be, .row (intC (endsL (ts ++ [t]))) 3 (cc * 1))] ++ G))) ?_ ?_
      ·refine GW.region ?_
       refine R.move ⟨Z,Z,Z,Z⟩ Z ?_
       refine R.nilCheck ⟨Z,Z,Z,Z⟩ Z ?_
       refine R.fieldAddr ⟨Z,Z,Z,Z⟩ Z Tryz.underlying103 Z Tryz.sizeOf100 ?_
       refine R.load1 ⟨Z,Z,Z,Z⟩ Z Tryz.underlying100 Z (.own' memG (by rfl)) ?_
       refine R.move ⟨Z,Z,Z,Z⟩ Z ?_
       refine R.move ⟨Z,Z,Z,Z⟩ Z ?_
       refine R.indexAddrS ⟨Z,Z,Z,Z⟩ Z Z Tryz.underlying100 Tryz.sizeOf35 (by omega) (by omega) ?_
       refine R.store (G1 := [_, _]) Z Z Z Z Z Tryz.sizeOf35 Z Z (Z) (by simp [u32C_len]; omega) ?_
       refine GOps.nil ?_
       exact ⟨rfl, rfl, 0, 0, keepG, by rw [tab_put hql]; exact new_hs _ _ _ _ _ _ _ _⟩
      ·intro u v
       refine GW.seq ?_
       refine GW.drawS 12 Z (by kernel_rfl) ?_
       refine GA.w 0 Z (V.move ⟨Z,Z,Z,Z⟩ Z) Z ?_
       refine GA.w 1 Z (V.nilCheck ⟨Z,Z,Z,Z⟩ Z) Z ?_
       refine GA.w 2 Z (V.fieldAddr ⟨Z,Z,Z,Z⟩ Z Tryz.underlying103 Z Tryz.sizeOf32) Z ?_
       refine GA.val 3 Z (V.load1 ⟨Z,Z,Z,Z⟩ Z Tryz.underlying32 Z (.own' memG (by rfl))) Z (by kernel_rfl) (by kernel_rfl) (by kernel_rfl) ?_
       refine GA.w 4 Z (V.lenS ⟨Z,Z,Z,Z⟩ Z Z Tryz.underlying32) Z ?_
       refine GA.val 5 Z (V.mul (r := ((2 * (ts ++ [t]).length : Nat) : Int)) ⟨Z,Z,Z,Z⟩ Z Z (by rw [wrap64_id (by omega) (by omega)]; omega)) Z (by kernel_rfl) (by kernel_rfl) (by kernel_rfl) ?_
       refine GA.w 6 Z (V.move ⟨Z,Z,Z,Z⟩ Z) Z ?_
       refine GA.w 7 Z (V.nilCheck ⟨Z,Z,Z,Z⟩ Z) Z ?_
       refine GA.w 8 Z (V.fieldAddr ⟨Z,Z,Z,Z⟩ Z Tryz.underlying103 Z Tryz.sizeOf100) Z ?_
       refine GA.val 9 Z (V.load1 ⟨Z,Z,Z,Z⟩ Z Tryz.underlying100 Z (.own' memG (by rfl))) Z (by kernel_rfl) (by kernel_rfl) (by kernel_rfl) ?_
       refine GA.w 10 Z (V.lenS ⟨Z,Z,Z,Z⟩ Z Z Tryz.underlying100) Z ?_
       refine GA.val 11 Z (V.gtr ⟨Z,Z,Z,Z⟩ Z Z) Z (by kernel_rfl) (by kernel_rfl) (by kernel_rfl) ?_
       refine GA.done hsC (by kernel_rfl) ?_
       refine GW.ite Z (fun hc5 => ?_) (fun hc5 => ?_)
       ·try simp only [dcQ] at hc5
        refine GW.region ?_
        refine R.move ⟨Z,Z,Z,Z⟩ Z ?_
        refine R.move ⟨Z,Z,Z,Z⟩ Z ?_
        refine R.nilCheck ⟨Z,Z,Z,Z⟩ Z ?_
        refine R.fieldAddr ⟨Z,Z,Z,Z⟩ Z Tryz.underlying103 Z Tryz.sizeOf32 ?_
        refine R.load1 ⟨Z,Z,Z,Z⟩ Z Tryz.underlying32 Z (.own' memG (by rfl)) ?_
        refine R.lenS ⟨Z,Z,Z,Z⟩ Z Z Tryz.underlying32 ?_
        refine R.mul (r := ((2 * (ts ++ [t]).length : Nat) : Int)) ⟨Z,Z,Z,Z⟩ Z Z (by rw [wrap64_id (by omega) (by omega)]; omega) ?_
        refine R.call ⟨Z,Z,Z,Z⟩ Z (vs := [_, _]) Z ((dict_build _ G (ts ++ [t]) (.slice (some ⟨ba, 0, none⟩) (bytesL (ts ++ [t])).length ca) (.slice (some ⟨be, 0, none⟩) (ts ++ [t]).length cc) [(ba, .row (u8C (bytesL (ts ++ [t]))) 5 (ca * 1))] [(be, .row (intC (endsL (ts ++ [t]))) 3 (cc * 1))] b bt lim (2 ^ k) (tab.set q (ts.length + 1)) (2 * (ts ++ [t]).length) hr2 Z hd2).mono ?_)
        rintro _ _ ⟨c, k2, tab2, ⟨rfl, hk4, hk12, htt, hroom⟩, rfl⟩
        refine GOps.nil ?_
        refine GW.seq ?_
        refine GW.region ?_
        refine R.move ⟨Z,Z,Z,Z⟩ Z ?_
        refine R.assign ⟨Z,Z,Z,Z⟩ Z ?_
        refine R.assign ⟨Z,Z,Z,Z⟩ Z ?_
        refine GOps.nil ?_
        first | exact GW.ret (Out.of (Res.two rfl rfl rfl) (Hs.refl _) ⟨_, _, _, _, c, k2, tab2, ⟨rfl, hr2, htt, hk12, by omega, hk4⟩, rfl⟩) | exact GW.ret (Out.of (Res.two rfl rfl rfl) (Hs.refl _) ⟨_, _, _, _, bt, k, _, ⟨rfl, hr2, ht2, hk, by omega, h4⟩, rfl⟩)
       ·try simp only [dcQ] at hc5
        refine GW.skip ?_
        refine GW.seq ?_
        refine GW.region ?_
        refine R.move ⟨Z,Z,Z,Z⟩ Z ?_
        refine R.assign ⟨Z,Z,Z,Z⟩ Z ?_
        refine R.assign ⟨Z,Z,Z,Z⟩ Z ?_
        refine GOps.nil ?_
        first | exact GW.ret (Out.of (Res.two rfl rfl rfl) (Hs.refl _) ⟨_, _, _, _, c, k2, tab2, ⟨rfl, hr2, htt, hk12, by omega, hk4⟩, rfl⟩) | exact GW.ret (Out.of (Res.two rfl rfl rfl) (Hs.refl _) ⟨_, _, _, _, bt, k, _, ⟨rfl, hr2, ht2, hk, by omega, h4⟩, rfl⟩)
     ·refine R.load1 ⟨Z,Z,Z,Z⟩ Z Tryz.underlying101 Z (.own' memG (by rfl)) ?_
      refine GOps.nil ?_
      refine GA.w 9 Z (V.lenS ⟨Z,Z,Z,Z⟩ Z Z Tryz.underlying101) Z ?_
      refine GA.two 4 10 hsD (by kernel_rfl) Z Z ?_ ?_
      ·refine R.load1 ⟨Z,Z,Z,Z⟩ Z Tryz.underlying32 Z (.own' memG (by rfl)) ?_
       refine GOps.nil ?_
       refine GA.one 10 hsD (by kernel_rfl) Z ?_
       refine R.buildSliceF (sz := 1) (bytes := 8) (vs := [_]) (cs := [_]) ⟨Z,Z,Z,Z⟩ Z Tryz.underlying32 (InfoE.mk (by kernel_rfl)) Z Z Z Z Z fun b68 => ?_
       refine GOps.nil ?_
       refine GA.one 11 hsD (by kernel_rfl) Z ?_
       refine R.append (sz := 1) (bytes := 8) (G1 := [_, _, _, _]) (H := He) (news := [.int .i64 (((bytesL (ts ++ [t])).length : Nat) : Int)]) ⟨Z,Z,Z,Z⟩ Z Z Z Tryz.underlying32 (InfoE.mk (by kernel_rfl)) (hr.he) (Z) (Z) (.own memH 0 _ (fun j v hv => by simpa using hv)) (by omega) (by rfl) (by omega) (by omega) fun v69 H69 hv69 => ?_
       have hv69' : SlAt 1 3 (intC (endsL (ts ++ [t]))) (ts ++ [t]).length v69 H69 := by rw [ends_app, intC_app, hl2]; exact hv69
       obtain ⟨be, cc, rfl, rfl, hcc⟩ := hv69'.row_of (by omega)
       have hr2 : Raw (ts ++ [t]) (.slice (some ⟨ba, 0, none⟩) (bytesL (ts ++ [t])).length ca) (.slice (some ⟨be, 0, none⟩) (ts ++ [t]).length cc) [(ba, .row (u8C (bytesL (ts ++ [t]))) 5 (ca * 1))] [(be, .row (intC (endsL (ts ++ [t]))) 3 (cc * 1))] := ⟨hv55', hv69', may2, by omega⟩
       have ht2 : TabOk ((ts ++ [t]).map packL) k (tab.set q (ts.length + 1)) := by have := ht.put hq hn; rw [List.length_map] at this; rw [List.map_append]; exact this
       refine GOps.nil ?_
       refine GA.w 12 Z (V.nilCheck ⟨Z,Z,Z,Z⟩ Z) Z ?_
       refine GA.w 13 Z (V.fieldAddr ⟨Z,Z,Z,Z⟩ Z Tryz.underlying103 Z Tryz.sizeOf32) Z ?_
       refine GA.one 14 hsD (by kernel_rfl) Z ?_
       refine R.store (G1 := [_]) Z Z Z Z Z Tryz.sizeOf32 Z Z (Z) (Nat.le_of_ble_eq_true Z) ?_
       refine GOps.nil ?_
       refine GA.done hsD (by kernel_rfl) ?_
       refine GW.seq ?_
       refine GW.region ?_
       refine R.move ⟨Z,Z,Z,Z⟩ Z ?_
       refine R.nilCheck ⟨Z,Z,Z,Z⟩ Z ?_
       refine R.fieldAddr ⟨Z,Z,Z,Z⟩ Z Tryz.underlying103 Z Tryz.sizeOf32 ?_
       refine R.load1 ⟨Z,Z,Z,Z⟩ Z Tryz.underlying32 Z (.own' memG (by rfl)) ?_
       refine R.lenS ⟨Z,Z,Z,Z⟩ Z Z Tryz.underlying32 ?_
       refine R.conv (r := ((ts.length + 1 : Nat) : Int)) ⟨Z,Z,Z,Z⟩ Z Tryz.underlying3 Tryz.underlying35 (by rw [hl2]; exact u32_id _ (by omega)) ?_
       refine R.assign ⟨Z,Z,Z,Z⟩ Z ?_
       refine GOps.nil ?_
       refine GW.seq ?_
       refine GW.cutE (fun u v => [(0, .pointer (some ⟨b, 0, none⟩)), (8, .int .u32 ((ts.length + 1 : Nat) : Int))]) (fun u v => (b, dictC lim (.slice (some ⟨ba, 0, none⟩) (bytesL (ts ++ [t])).length ca) (.slice (some ⟨be, 0, none⟩) (ts ++ [t]).length cc) bt (2 ^ k)) :: (bt, tabC (tab.set q (ts.length + 1))) :: ([(ba, .row (u8C (bytesL (ts ++ [t]))) 5 (ca * 1))] ++ ([(be, .row (intC (endsL (ts ++ [t]))) 3 (cc * 1))] ++ G))) ?_ ?_
       ·refine GW.region ?_
        refine R.move ⟨Z,Z,Z,Z⟩ Z ?_
        refine R.nilCheck ⟨Z,Z,Z,Z⟩ Z ?_
        refine R.fieldAddr ⟨Z,Z,Z,Z⟩ Z Tryz.underlying103 Z Tryz.sizeOf100 ?_
        refine R.load1 ⟨Z,Z,Z,Z⟩ Z Tryz.underlying100 Z (.own' memG (by rfl)) ?_
        refine R.move ⟨Z,Z,Z,Z⟩ Z ?_
        refine R.move ⟨Z,Z,Z,Z⟩ Z ?_
        refine R.indexAddrS ⟨Z,Z,Z,Z⟩ Z Z Tryz.underlying100 Tryz.sizeOf35 (by omega) (by omega) ?_
        refine R.store (G1 := [_, _]) Z Z Z Z Z Tryz.sizeOf35 Z Z (Z) (by simp [u32C_len]; omega) ?_
        refine GOps.nil ?_
        exact ⟨rfl, rfl, 0, 0, keepG, by rw [tab_put hql]; exact new_hs _ _ _ _ _ _ _ _⟩
       ·intro u v
        refine GW.seq ?_
        refine GW.drawS 12 Z (by kernel_rfl) ?_
        refine GA.w 0 Z (V.move ⟨Z,Z,Z,Z⟩ Z) Z ?_
        refine GA.w 1 Z (V.nilCheck ⟨Z,Z,Z,Z⟩ Z) Z ?_
        refine GA.w 2 Z (V.fieldAddr ⟨Z,Z,Z,Z⟩ Z Tryz.underlying103 Z Tryz.sizeOf32) Z ?_
        refine GA.val 3 Z (V.load1 ⟨Z,Z,Z,Z⟩ Z Tryz.underlying32 Z (.own' memG (by rfl))) Z (by kernel_rfl) (by kernel_rfl) (by kernel_rfl) ?_
        refine GA.w 4 Z (V.lenS ⟨Z,Z,Z,Z⟩ Z Z Tryz.underlying32) Z ?_
        refine GA.val 5 Z (V.mul (r := ((2 * (ts ++ [t]).length : Nat) : Int)) ⟨Z,Z,Z,Z⟩ Z Z (by rw [wrap64_id (by omega) (by omega)]; omega)) Z (by kernel_rfl) (by kernel_rfl) (by kernel_rfl) ?_
        refine GA.w 6 Z (V.move ⟨Z,Z,Z,Z⟩ Z) Z ?_
        refine GA.w 7 Z (V.nilCheck ⟨Z,Z,Z,Z⟩ Z) Z ?_
        refine GA.w 8 Z (V.fieldAddr ⟨Z,Z,Z,Z⟩ Z Tryz.underlying103 Z Tryz.sizeOf100) Z ?_
        refine GA.val 9 Z (V.load1 ⟨Z,Z,Z,Z⟩ Z Tryz.underlying100 Z (.own' memG (by rfl))) Z (by kernel_rfl) (by kernel_rfl) (by kernel_rfl) ?_
        refine GA.w 10 Z (V.lenS ⟨Z,Z,Z,Z⟩ Z Z Tryz.underlying100) Z ?_
        refine GA.val 11 Z (V.gtr ⟨Z,Z,Z,Z⟩ Z Z) Z (by kernel_rfl) (by kernel_rfl) (by kernel_rfl) ?_
        refine GA.done hsC (by kernel_rfl) ?_
        refine GW.ite Z (fun hc6 => ?_) (fun hc6 => ?_)
        ·try simp only [dcQ] at hc6
         refine GW.region ?_
         refine R.move ⟨Z,Z,Z,Z⟩ Z ?_
         refine R.move ⟨Z,Z,Z,Z⟩ Z ?_
         refine R.nilCheck ⟨Z,Z,Z,Z⟩ Z ?_
         refine R.fieldAddr ⟨Z,Z,Z,Z⟩ Z Tryz.underlying103 Z Tryz.sizeOf32 ?_
         refine R.load1 ⟨Z,Z,Z,Z⟩ Z Tryz.underlying32 Z (.own' memG (by rfl)) ?_
         refine R.lenS ⟨Z,Z,Z,Z⟩ Z Z Tryz.underlying32 ?_
         refine R.mul (r := ((2 * (ts ++ [t]).length : Nat) : Int)) ⟨Z,Z,Z,Z⟩ Z Z (by rw [wrap64_id (by omega) (by omega)]; omega) ?_
         refine R.call ⟨Z,Z,Z,Z⟩ Z (vs := [_, _]) Z ((dict_build _ G (ts ++ [t]) (.slice (some ⟨ba, 0, none⟩) (bytesL (ts ++ [t])).length ca) (.slice (some ⟨be, 0, none⟩) (ts ++ [t]).length cc) [(ba, .row (u8C (bytesL (ts ++ [t]))) 5 (ca * 1))] [(be, .row (intC (endsL (ts ++ [t]))) 3 (cc * 1))] b bt lim (2 ^ k) (tab.set q (ts.length + 1)) (2 * (ts ++ [t]).length) hr2 Z hd2).mono ?_)
         rintro _ _ ⟨c, k2, tab2, ⟨rfl, hk4, hk12, htt, hroom⟩, rfl⟩
         refine GOps.nil ?_
         refine GW.seq ?_
         refine GW.region ?_
         refine R.move ⟨Z,Z,Z,Z⟩ Z ?_
         refine R.assign ⟨Z,Z,Z,Z⟩ Z ?_
         refine R.assign ⟨Z,Z,Z,Z⟩ Z ?_
         refine GOps.nil ?_
         first | exact GW.ret (Out.of (Res.two rfl rfl rfl) (Hs.refl _) ⟨_, _, _, _, c, k2, tab2, ⟨rfl, hr2, htt, hk12, by omega, hk4⟩, rfl⟩) | exact GW.ret (Out.of (Res.two rfl rfl rfl) (Hs.refl _) ⟨_, _, _, _, bt, k, _, ⟨rfl, hr2, ht2, hk, by omega, h4⟩, rfl⟩)
        ·try simp only [dcQ] at hc6
         refine GW.skip ?_
         refine GW.seq ?_
         refine GW.region ?_
         refine R.move ⟨Z,Z,Z,Z⟩ Z ?_
         refine R.assign ⟨Z,Z,Z,Z⟩ Z ?_
         refine R.assign ⟨Z,Z,Z,Z⟩ Z ?_
         refine GOps.nil ?_
         first | exact GW.ret (Out.of (Res.two rfl rfl rfl) (Hs.refl _) ⟨_, _, _, _, c, k2, tab2, ⟨rfl, hr2, htt, hk12, by omega, hk4⟩, rfl⟩) | exact GW.ret (Out.of (Res.two rfl rfl rfl) (Hs.refl _) ⟨_, _, _, _, bt, k, _, ⟨rfl, hr2, ht2, hk, by omega, h4⟩, rfl⟩)
      ·refine R.buildSliceF (sz := 1) (bytes := 8) (vs := [_]) (cs := [_]) ⟨Z,Z,Z,Z⟩ Z Tryz.underlying32 (InfoE.mk (by kernel_rfl)) Z Z Z Z Z fun b68 => ?_
       refine GOps.nil ?_
       refine GA.one 4 hsD (by kernel_rfl) Z ?_
       refine R.load1 ⟨Z,Z,Z,Z⟩ Z Tryz.underlying32 Z (.own' memG (by rfl)) ?_
       refine GOps.nil ?_
       refine GA.one 11 hsD (by kernel_rfl) Z ?_
       refine R.append (sz := 1) (bytes := 8) (G1 := [_, _, _, _]) (H := He) (news := [.int .i64 (((bytesL (ts ++ [t])).length : Nat) : Int)]) ⟨Z,Z,Z,Z⟩ Z Z Z Tryz.underlying32 (InfoE.mk (by kernel_rfl)) (hr.he) (Z) (Z) (.own memH 0 _ (fun j v hv => by simpa using hv)) (by omega) (by rfl) (by omega) (by omega) fun v69 H69 hv69 => ?_
       have hv69' : SlAt 1 3 (intC (endsL (ts ++ [t]))) (ts ++ [t]).length v69 H69 := by rw [ends_app, intC_app, hl2]; exact hv69
       obtain ⟨be, cc, rfl, rfl, hcc⟩ := hv69'.row_of (by omega)
       have hr2 : Raw (ts ++ [t]) (.slice (some ⟨ba, 0, none⟩) (bytesL (ts ++ [t])).length ca) (.slice (some ⟨be, 0, none⟩) (ts ++ [t]).length cc) [(ba, .row (u8C (bytesL (ts ++ [t]))) 5 (ca * 1))] [(be, .row (intC (endsL (ts ++ [t]))) 3 (cc * 1))] := ⟨hv55', hv69', may2, by omega⟩
       have ht2 : TabOk ((ts ++ [t]).map packL) k (tab.set q (ts.length + 1)) := by have := ht.put hq hn; rw [List.length_map] at this; rw [List.map_append]; exact this
       refine GOps.nil ?_
       refine GA.w 12 Z (V.nilCheck ⟨Z,Z,Z,Z⟩ Z) Z ?_
       refine GA.w 13 Z (V.fieldAddr ⟨Z,Z,Z,Z⟩ Z Tryz.underlying103 Z Tryz.sizeOf32) Z ?_
       refine GA.one 14 hsD (by kernel_rfl) Z ?_
       refine R.store (G1 := [_]) Z Z Z Z Z Tryz.sizeOf32 Z Z (Z) (Nat.le_of_ble_eq_true Z) ?_
       refine GOps.nil ?_
       refine GA.done hsD (by kernel_rfl) ?_
       refine GW.seq ?_
       refine GW.region ?_
       refine R.move ⟨Z,Z,Z,Z⟩ Z ?_
       refine R.nilCheck ⟨Z,Z,Z,Z⟩ Z ?_
       refine R.fieldAddr ⟨Z,Z,Z,Z⟩ Z Tryz.underlying103 Z Tryz.sizeOf32 ?_
       refine R.load1 ⟨Z,Z,Z,Z⟩ Z Tryz.underlying32 Z (.own' memG (by rfl)) ?_
       refine R.lenS ⟨Z,Z,Z,Z⟩ Z Z Tryz.underlying32 ?_
       refine R.conv (r := ((ts.length + 1 : Nat) : Int)) ⟨Z,Z,Z,Z⟩ Z Tryz.underlying3 Tryz.underlying35 (by rw [hl2]; exact u32_id _ (by omega)) ?_
       refine R.assign ⟨Z,Z,Z,Z⟩ Z ?_
       refine GOps.nil ?_
       refine GW.seq ?_
       refine GW.cutE (fun u v => [(0, .pointer (some ⟨b, 0, none⟩)), (8, .int .u32 ((ts.length + 1 : Nat) : Int))]) (fun u v => (b, dictC lim (.slice (some ⟨ba, 0, none⟩) (bytesL (ts ++ [t])).length ca) (.slice (some ⟨be, 0, none⟩) (ts ++ [t]).length cc) bt (2 ^ k)) :: (bt, tabC (tab.set q (ts.length + 1))) :: ([(ba, .row (u8C (bytesL (ts ++ [t]))) 5 (ca * 1))] ++ ([(be, .row (intC (endsL (ts ++ [t]))) 3 (cc * 1))] ++ G))) ?_ ?_
       ·refine GW.region ?_
        refine R.move ⟨Z,Z,Z,Z⟩ Z ?_
        refine R.nilCheck ⟨Z,Z,Z,Z⟩ Z ?_
        refine R.fieldAddr ⟨Z,Z,Z,Z⟩ Z Tryz.underlying103 Z Tryz.sizeOf100 ?_
        refine R.load1 ⟨Z,Z,Z,Z⟩ Z Tryz.underlying100 Z (.own' memG (by rfl)) ?_
        refine R.move ⟨Z,Z,Z,Z⟩ Z ?_
        refine R.move ⟨Z,Z,Z,Z⟩ Z ?_
        refine R.indexAddrS ⟨Z,Z,Z,Z⟩ Z Z Tryz.underlying100 Tryz.sizeOf35 (by omega) (by omega) ?_
        refine R.store (G1 := [_, _]) Z Z Z Z Z Tryz.sizeOf35 Z Z (Z) (by simp [u32C_len]; omega) ?_
        refine GOps.nil ?_
        exact ⟨rfl, rfl, 0, 0, keepG, by rw [tab_put hql]; exact new_hs _ _ _ _ _ _ _ _⟩
       ·intro u v
        refine GW.seq ?_
        refine GW.drawS 12 Z (by kernel_rfl) ?_
        refine GA.w 0 Z (V.move ⟨Z,Z,Z,Z⟩ Z) Z ?_
        refine GA.w 1 Z (V.nilCheck ⟨Z,Z,Z,Z⟩ Z) Z ?_
        refine GA.w 2 Z (V.fieldAddr ⟨Z,Z,Z,Z⟩ Z Tryz.underlying103 Z Tryz.sizeOf32) Z ?_
        refine GA.val 3 Z (V.load1 ⟨Z,Z,Z,Z⟩ Z Tryz.underlying32 Z (.own' memG (by rfl))) Z (by kernel_rfl) (by kernel_rfl) (by kernel_rfl) ?_
        refine GA.w 4 Z (V.lenS ⟨Z,Z,Z,Z⟩ Z Z Tryz.underlying32) Z ?_
        refine GA.val 5 Z (V.mul (r := ((2 * (ts ++ [t]).length : Nat) : Int)) ⟨Z,Z,Z,Z⟩ Z Z (by rw [wrap64_id (by omega) (by omega)]; omega)) Z (by kernel_rfl) (by kernel_rfl) (by kernel_rfl) ?_
        refine GA.w 6 Z (V.move ⟨Z,Z,Z,Z⟩ Z) Z ?_
        refine GA.w 7 Z (V.nilCheck ⟨Z,Z,Z,Z⟩ Z) Z ?_
        refine GA.w 8 Z (V.fieldAddr ⟨Z,Z,Z,Z⟩ Z Tryz.underlying103 Z Tryz.sizeOf100) Z ?_
        refine GA.val 9 Z (V.load1 ⟨Z,Z,Z,Z⟩ Z Tryz.underlying100 Z (.own' memG (by rfl))) Z (by kernel_rfl) (by kernel_rfl) (by kernel_rfl) ?_
        refine GA.w 10 Z (V.lenS ⟨Z,Z,Z,Z⟩ Z Z Tryz.underlying100) Z ?_
        refine GA.val 11 Z (V.gtr ⟨Z,Z,Z,Z⟩ Z Z) Z (by kernel_rfl) (by kernel_rfl) (by kernel_rfl) ?_
        refine GA.done hsC (by kernel_rfl) ?_
        refine GW.ite Z (fun hc7 => ?_) (fun hc7 => ?_)
        ·try simp only [dcQ] at hc7
         refine GW.region ?_
         refine R.move ⟨Z,Z,Z,Z⟩ Z ?_
         refine R.move ⟨Z,Z,Z,Z⟩ Z ?_
         refine R.nilCheck ⟨Z,Z,Z,Z⟩ Z ?_
         refine R.fieldAddr ⟨Z,Z,Z,Z⟩ Z Tryz.underlying103 Z Tryz.sizeOf32 ?_
         refine R.load1 ⟨Z,Z,Z,Z⟩ Z Tryz.underlying32 Z (.own' memG (by rfl)) ?_
         refine R.lenS ⟨Z,Z,Z,Z⟩ Z Z Tryz.underlying32 ?_
         refine R.mul (r := ((2 * (ts ++ [t]).length : Nat) : Int)) ⟨Z,Z,Z,Z⟩ Z Z (by rw [wrap64_id (by omega) (by omega)]; omega) ?_
         refine R.call ⟨Z,Z,Z,Z⟩ Z (vs := [_, _]) Z ((dict_build _ G (ts ++ [t]) (.slice (some ⟨ba, 0, none⟩) (bytesL (ts ++ [t])).length ca) (.slice (some ⟨be, 0, none⟩) (ts ++ [t]).length cc) [(ba, .row (u8C (bytesL (ts ++ [t]))) 5 (ca * 1))] [(be, .row (intC (endsL (ts ++ [t]))) 3 (cc * 1))] b bt lim (2 ^ k) (tab.set q (ts.length + 1)) (2 * (ts ++ [t]).length) hr2 Z hd2).mono ?_)
         rintro _ _ ⟨c, k2, tab2, ⟨rfl, hk4, hk12, htt, hroom⟩, rfl⟩
         refine GOps.nil ?_
         refine GW.seq ?_
         refine GW.region ?_
         refine R.move ⟨Z,Z,Z,Z⟩ Z ?_
         refine R.assign ⟨Z,Z,Z,Z⟩ Z ?_
         refine R.assign ⟨Z,Z,Z,Z⟩ Z ?_
         refine GOps.nil ?_
         first | exact GW.ret (Out.of (Res.two rfl rfl rfl) (Hs.refl _) ⟨_, _, _, _, c, k2, tab2, ⟨rfl, hr2, htt, hk12, by omega, hk4⟩, rfl⟩) | exact GW.ret (Out.of (Res.two rfl rfl rfl) (Hs.refl _) ⟨_, _, _, _, bt, k, _, ⟨rfl, hr2, ht2, hk, by omega, h4⟩, rfl⟩)
        ·try simp only [dcQ] at hc7
         refine GW.skip ?_
         refine GW.seq ?_
         refine GW.region ?_
         refine R.move ⟨Z,Z,Z,Z⟩ Z ?_
         refine R.assign ⟨Z,Z,Z,Z⟩ Z ?_
         refine R.assign ⟨Z,Z,Z,Z⟩ Z ?_
         refine GOps.nil ?_
         first | exact GW.ret (Out.of (Res.two rfl rfl rfl) (Hs.refl _) ⟨_, _, _, _, c, k2, tab2, ⟨rfl, hr2, htt, hk12, by omega, hk4⟩, rfl⟩) | exact GW.ret (Out.of (Res.two rfl rfl rfl) (Hs.refl _) ⟨_, _, _, _, bt, k, _, ⟨rfl, hr2, ht2, hk, by omega, h4⟩, rfl⟩)
end Go.Proofs.YtfddkcmooommeaaGreatDoor.Gl
end
section
namespace Go.Proofs.YtfddkcmooommeaaGreatDoor.Gl
open Go.RowKit Go.Shelf
set_option linter.unusedVariables false
set_option linter.unnecessarySimpa false
set_option linter.unusedSimpArgs false
attribute [-simp] List.getD_eq_getElem?_getD
def Dic (ts : List Tm) (lim b : Nat) (H : Hp) : Prop := ∃ va ve Ha He bt k tab, H = (b, dictC lim va ve bt (2 ^ k)) :: (bt, tabC tab) :: (Ha ++ He) ∧ Raw ts va ve Ha He ∧ TabOk (ts.map packL) k tab ∧ k ≤ 12 ∧ 4 ≤ k ∧ 2 * ts.length ≤ 2 ^ k ∧ ts.Nodup ∧ ts.length ≤ lim ∧ lim ≤ 1000
theorem gg_eq (x y : Nat × Know) (Ha He G : Hp) : (x :: y :: (Ha ++ He)) ++ G = x :: y :: (Ha ++ (He ++ G)) := by simp
def idxT (ts : List Tm) (t : Tm) : Option Nat := ts.findIdx? (fun u => tmEq u t)
theorem idxT_some {ts : List Tm} {t : Tm} {n : Nat} (h : idxT ts t = some n) : ts[n]? = some t := by
 unfold idxT at h
 obtain ⟨hn, h1, _⟩ := List.findIdx?_eq_some_iff_getElem.1 h
 rw [List.getElem?_eq_getElem hn, tmEq_iff.1 h1]
theorem idxT_none {ts : List Tm} {t : Tm} (h : idxT ts t = none) : t ∉ ts := by
 unfold idxT at h
 rw [List.findIdx?_eq_none_iff] at h
 intro hm
 have := h t hm
 rw [tmEq_iff.2 rfl] at this
 cases this
theorem map_nodup {ts : List Tm} (hd : ts.Nodup) (hm : ∀ t ∈ ts, mayT t = true) : (ts.map packL).Nodup := by
 unfold List.Nodup
 rw [List.pairwise_map]
 exact hd.imp_of_mem (fun ha hb hne e => hne (packL_inj (hm _ ha) (hm _ hb) e))
theorem map_not {ts : List Tm} {t : Tm} (hm : ∀ t ∈ ts, mayT t = true) (ht : mayT t = true) (hn : t ∉ ts) : packL t ∉ ts.map packL := by
 intro h
 obtain ⟨u, hu, e⟩ := List.mem_map.1 h
 exact hn (packL_inj (hm u hu) ht e ▸ hu)
def internF (lim : Nat) (ts : List Tm) (t : Tm) : Nat × Int × List Tm :=
 match idxT ts t with
 | some n => (n + 1, 0, ts)
 | none => if lim ≤ ts.length then (0, 9, ts) else (ts.length + 1, 0, ts ++ [t])
theorem dict_Intern (w0 : World) (G H : Hp) (ts : List Tm) (lim b : Nat) (t : Tm) (hD : Dic ts lim b H) (hmay : mayT t = true) : GC Tryz.prog w0 29 #[.pointer (some ⟨b, 0, none⟩), .agg #[.int .i64 t.kind, .string t.text, .string t.ext]] (fun v G' => ∃ H', (v = .tuple #[.int .u32 ((internF lim ts t).1 : Nat), .int .i64 (internF lim ts t).2.1] ∧ Dic (internF lim ts t).2.2 lim b H') ∧ H' ++ G = G') (H ++ G) := by
 obtain ⟨va, ve, Ha, He, bt, k, tab, rfl, hr, ht, hk, h4, h2, hd, hl, hlim⟩ := hD
 rw [gg_eq]
 have hd2 := map_nodup hd hr.may
 unfold internF
 cases e : idxT ts t with
 | some n =>
  refine (int_found w0 G ts va ve Ha He b bt lim k tab t hr ht hk h2 h4 hmay n (idxT_some e) hd2).mono ?_
  rintro v G' ⟨rfl, rfl⟩
  exact ⟨_, ⟨rfl, va, ve, Ha, He, bt, k, tab, rfl, hr, ht, hk, h4, h2, hd, hl, hlim⟩, gg_eq _ _ _ _ _⟩
 | none =>
  have hn := idxT_none e
  have hn2 := map_not hr.may hmay hn
  by_cases hf : lim ≤ ts.length
  ·simp only [if_pos hf]
   refine (int_full w0 G ts va ve Ha He b bt lim k tab t hr ht hk h2 h4 hmay hn2 hf).mono ?_
   rintro v G' ⟨rfl, rfl⟩
   exact ⟨_, ⟨rfl, va, ve, Ha, He, bt, k, tab, rfl, hr, ht, hk, h4, h2, hd, hl, hlim⟩, gg_eq _ _ _ _ _⟩
  ·simp only [if_neg hf]
   refine (int_new w0 G ts va ve Ha He b bt lim k tab t hr ht hk h2 h4 hmay hn2 (by omega) hlim hd2).mono ?_
   rintro v G' ⟨va2, ve2, Ha2, He2, bt2, k2, tab2, ⟨rfl, hr2, ht2, hk2, h22, h42⟩, rfl⟩
   refine ⟨_, ⟨rfl, va2, ve2, Ha2, He2, bt2, k2, tab2, rfl, hr2, ht2, hk2, h42, h22, ?_, by rw [List.length_append, List.length_singleton]; omega, hlim⟩, gg_eq _ _ _ _ _⟩
   exact List.nodup_append.2 ⟨hd, by simp, fun a ha u hu e2 => by simp at hu; subst hu; subst e2; exact hn ha⟩
theorem Dic.new (lim b bt : Nat) (h : lim ≤ 1000) : Dic [] lim b [(b, dictC lim (.slice none 0 0) (.slice none 0 0) bt (2 ^ 4)), (bt, tabC (List.replicate (2 ^ 4) 0))] :=
 ⟨_, _, [], [], bt, 4, _, rfl, ⟨.nil rfl rfl, .nil rfl rfl, by simp, by simp⟩, TabOk.empty 4, by decide, by decide, by simp, by simp, by simp, h⟩
theorem dict_New (w0 : World) (G : Hp) (lim : Nat) (hl : lim ≤ 1000) : GC Tryz.prog w0 11 #[.int .i64 (lim : Nat)] (fun v G' => ∃ b H, (v = .pointer (some ⟨b, 0, none⟩) ∧ Dic [] lim b H) ∧ H ++ G = G') G := by
 refine GC.body (args := [.int .i64 (lim : Nat)]) Tryz.func11 rfl (by kernel_rfl) rfl ?_
 refine GW.seq ?_
 refine GW.region ?_
 refine R.assign ⟨Z,Z,Z,Z⟩ Z ?_
 refine GOps.nil ?_
 refine GW.seq ?_
 refine GW.seq ?_
 refine GW.region ?_
 refine R.move ⟨Z,Z,Z,Z⟩ Z ?_
 refine R.lss ⟨Z,Z,Z,Z⟩ Z Z ?_
 refine R.move ⟨Z,Z,Z,Z⟩ Z ?_
 refine GOps.caseB 5 Z (fun hg1 => ?_) (fun hg1 => ?_)
 ·try simp only [dcQ] at hg1
  refine GOps.skip Z Z Z ?_
  refine GOps.skip Z Z Z ?_
  refine R.pick_t ⟨Z,Z,Z,Z⟩ Z Z ?_
  refine GOps.nil ?_
  refine GW.cond_t Z ?_
  refine GW.seq ?_
  refine GW.region ?_
  refine R.assign ⟨Z,Z,Z,Z⟩ Z ?_
  refine GOps.nil ?_
  first | (exfalso; omega) | exact GW.ret (Out.of (Res.one rfl rfl) (Hs.refl _) ⟨b12, _, ⟨rfl, Dic.new lim b12 b10 hl⟩, rfl⟩)
 ·try simp only [dcQ] at hg1
  refine R.move ⟨Z,Z,Z,Z⟩ Z ?_
  refine R.gtr ⟨Z,Z,Z,Z⟩ Z Z ?_
  refine R.pick_f ⟨Z,Z,Z,Z⟩ Z Z ?_
  refine GOps.nil ?_
  refine GW.ite Z (fun hc2 => ?_) (fun hc2 => ?_)
  ·try simp only [dcQ] at hc2
   refine GW.seq ?_
   refine GW.region ?_
   refine R.assign ⟨Z,Z,Z,Z⟩ Z ?_
   refine GOps.nil ?_
   first | (exfalso; omega) | exact GW.ret (Out.of (Res.one rfl rfl) (Hs.refl _) ⟨b12, _, ⟨rfl, Dic.new lim b12 b10 hl⟩, rfl⟩)
  ·try simp only [dcQ] at hc2
   refine GW.skip ?_
   refine GW.seq ?_
   refine GW.region ?_
   refine R.move ⟨Z,Z,Z,Z⟩ Z ?_
   refine R.makeZero (n := 16) (bytes := 4) (z0 := .int .u32 0) ⟨Z,Z,Z,Z⟩ (by rfl) (by rfl) Tryz.underlying100 (InfoE.mk (by kernel_rfl)) (InfoZ.mk (by kernel_rfl)) (by omega) (by omega) fun b10 => ?_
   refine R.build (vs := [(0, _), (3, _)]) (cells := #[.int .i64 (lim : Nat), .slice none 0 0, .slice none 0 0, .slice (some ⟨b10, 0, none⟩) 16 16]) ⟨Z,Z,Z,Z⟩ Z (fun w => run_build w 103 _ _ (by kernel_rfl)) ?_
   refine R.box ⟨Z,Z,Z,Z⟩ Z fun b12 => ?_
   refine R.assign ⟨Z,Z,Z,Z⟩ Z ?_
   refine GOps.nil ?_
   first | (exfalso; omega) | exact GW.ret (Out.of (Res.one rfl rfl) (Hs.refl _) ⟨b12, _, ⟨rfl, Dic.new lim b12 b10 hl⟩, rfl⟩)
theorem int_zero (w0 : World) (G : Hp) (va ve : Value) (b bt lim n : Nat) (hm : (b, dictC lim va ve bt n) ∈ G) : GC Tryz.prog w0 29 #[.pointer (some ⟨b, 0, none⟩), .agg #[.int .i64 0, .string (ByteArray.mk #[]), .string (ByteArray.mk #[])]] (fun v G' => v = .tuple #[.int .u32 0, .int .i64 2] ∧ G = G') G := by
 refine GC.body (args := [.pointer (some ⟨b, 0, none⟩), .agg #[.int .i64 0, .string (ByteArray.mk #[]), .string (ByteArray.mk #[])]]) Tryz.func29 rfl (by kernel_rfl) rfl ?_
 refine GW.seq ?_
 refine GW.region ?_
 refine R.box ⟨Z,Z,Z,Z⟩ Z fun b3 => ?_
 refine R.assign ⟨Z,Z,Z,Z⟩ Z ?_
 refine R.assign ⟨Z,Z,Z,Z⟩ Z ?_
 refine GOps.nil ?_
 refine GW.seq ?_
 refine GW.block ?_
 refine GW.seq ?_
 refine GW.region ?_
 refine R.move ⟨Z,Z,Z,Z⟩ Z ?_
 refine R.call ⟨Z,Z,Z,Z⟩ Z (vs := [_]) Z ((dict_there _ _ va ve b bt lim n (List.mem_cons_of_mem _ hm)).mono ?_)
 rintro _ _ ⟨rfl, rfl⟩
 refine R.not ⟨Z,Z,Z,Z⟩ Z ?_
 refine R.assign ⟨Z,Z,Z,Z⟩ Z ?_
 refine GOps.nil ?_
 refine GW.ite Z (fun hc1 => ?_) (fun hc1 => ?_)
 ·try simp only [dcQ] at hc1
  exfalso; simp at hc1
 ·try simp only [dcQ] at hc1
  refine GW.seq ?_
  refine GW.region ?_
  refine R.load_own (cs := _) ⟨Z,Z,Z,Z⟩ Z Tryz.underlying24 Z Tryz.sizeOf24 memG (by rfl) (by rfl) ?_
  refine R.call ⟨Z,Z,Z,Z⟩ Z (vs := [_]) Z ((term_May _ _ ⟨0, ByteArray.mk #[], ByteArray.mk #[]⟩ (by decide) (by decide)).mono ?_)
  rintro _ _ ⟨rfl, rfl⟩
  refine R.not ⟨Z,Z,Z,Z⟩ Z ?_
  refine R.assign ⟨Z,Z,Z,Z⟩ Z ?_
  refine GOps.nil ?_
  refine GW.ite Z (fun hc2 => ?_) (fun hc2 => ?_)
  ·try simp only [dcQ] at hc2
   refine GW.seq ?_
   refine GW.region ?_
   refine R.assign ⟨Z,Z,Z,Z⟩ Z ?_
   refine R.assign ⟨Z,Z,Z,Z⟩ Z ?_
   refine GOps.nil ?_
   exact GW.ret (Out.of (Res.two rfl rfl rfl) (Hs.tl _) ⟨rfl, rfl⟩)
  ·try simp only [dcQ] at hc2
   exfalso; revert hc2; decide
theorem dict_Len (w0 : World) (G : Hp) (A : Option Addr) (m c : Nat) (va : Value) (b bt lim n : Nat) (hm : (b, dictC lim va (.slice A m c) bt n) ∈ G) : GC Tryz.prog w0 14 #[.pointer (some ⟨b, 0, none⟩)] (fun v G' => v = .int .i64 (m : Nat) ∧ G = G') G := by
 refine GC.body (args := [.pointer (some ⟨b, 0, none⟩)]) Tryz.func14 rfl (by kernel_rfl) rfl ?_
 refine GW.seq ?_
 refine GW.region ?_
 refine R.assign ⟨Z,Z,Z,Z⟩ Z ?_
 refine GOps.nil ?_
 refine GW.seq ?_
 refine GW.seq ?_
 refine GW.region ?_
 refine R.move ⟨Z,Z,Z,Z⟩ Z ?_
 refine R.call ⟨Z,Z,Z,Z⟩ Z (vs := [_]) Z ((dict_there _ _ va (.slice A m c) b bt lim n hm).mono ?_)
 rintro _ _ ⟨rfl, rfl⟩
 refine R.not ⟨Z,Z,Z,Z⟩ Z ?_
 refine GOps.nil ?_
 refine GW.ite Z (fun hc1 => ?_) (fun hc1 => ?_)
 ·try simp only [dcQ] at hc1
  exfalso; simp at hc1
 ·try simp only [dcQ] at hc1
  refine GW.skip ?_
  refine GW.seq ?_
  refine GW.region ?_
  refine R.move ⟨Z,Z,Z,Z⟩ Z ?_
  refine R.nilCheck ⟨Z,Z,Z,Z⟩ Z ?_
  refine R.fieldAddr ⟨Z,Z,Z,Z⟩ Z Tryz.underlying103 Z Tryz.sizeOf32 ?_
  refine R.load1 ⟨Z,Z,Z,Z⟩ Z Tryz.underlying32 Z (.own hm Z) ?_
  refine R.lenS ⟨Z,Z,Z,Z⟩ Z Z Tryz.underlying32 ?_
  refine R.assign ⟨Z,Z,Z,Z⟩ Z ?_
  refine GOps.nil ?_
  refine GW.ret (Out.of (Res.one Z Z) (by first | exact Hs.refl _ | exact Hs.tl _ | exact Hs.tl2 _ _ | exact Hs.tl3 _ _ _ | exact (Hs.app _).trans (Hs.tl _) | exact (Hs.app _).trans ((Hs.app _).trans (Hs.tl _)) | exact Hs.sub (by repeat (first | exact List.Sublist.refl _ | apply List.Sublist.cons))) ⟨?_, Z⟩)
  rfl
end Go.Proofs.YtfddkcmooommeaaGreatDoor.Gl
end
section
namespace Go.Proofs.YtfddkcmooommeaaGreatDoor.Gl
open Go.RowKit Go.Shelf
set_option linter.unusedVariables false
set_option linter.unnecessarySimpa false
set_option linter.unusedSimpArgs false
attribute [-simp] List.getD_eq_getElem?_getD
def idxN (xs : List ByteArray) (s : ByteArray) : Option Nat := xs.findIdx? (fun x => s.toList == x.toList)
def idxB (xs : List ByteArray) (s : ByteArray) : Int := match idxN xs s with
 | some n => (n : Nat)
 | none => -1
theorem idxB_of {xs : List ByteArray} {s x : ByteArray} {i : Nat} (h0 : (xs.take i).any (fun x => s.toList == x.toList) = false) (hx : xs[i]? = some x) (he : (s.toList == x.toList) = true) : idxB xs s = (i : Nat) := by
 have hi := (List.getElem?_eq_some_iff.1 hx).1
 have : idxN xs s = some i := by
  unfold idxN
  rw [List.findIdx?_eq_some_iff_getElem]
  refine ⟨hi, ?_, fun j hj => ?_⟩
  ·rw [List.getElem?_eq_getElem hi] at hx
   rw [Option.some.inj hx]; exact he
  ·rw [List.any_eq_false] at h0
   exact h0 _ (List.mem_of_getElem? (i := j) (by rw [List.getElem?_take_of_lt hj, List.getElem?_eq_getElem (by omega)]))
 unfold idxB
 rw [this]
theorem idxB_no {xs : List ByteArray} {s : ByteArray} (h0 : xs.any (fun x => s.toList == x.toList) = false) : idxB xs s = -1 := by
 have : idxN xs s = none := by
  unfold idxN
  rw [List.findIdx?_eq_none_iff]
  intro x hx
  rw [List.any_eq_false] at h0
  have := h0 x hx
  simpa using this
 unfold idxB
 rw [this]
theorem idxB_in (xs : List ByteArray) (s : ByteArray) : decide (idxB xs s ≥ 0) = inB xs s := by
 unfold idxB inB
 cases e : idxN xs s with
 | some n =>
  unfold idxN at e
  obtain ⟨hn, h1, _⟩ := List.findIdx?_eq_some_iff_getElem.1 e
  have : xs.any (eqB s) = true := List.any_eq_true.2 ⟨_, List.getElem_mem hn, by unfold eqB; rw [toList_beq] at h1 ⊢; rw [beq_iff_eq] at h1 ⊢; exact h1.symm⟩
  rw [this]
  simp
 | none =>
  unfold idxN at e
  rw [List.findIdx?_eq_none_iff] at e
  have : xs.any (eqB s) = false := by
   rw [List.any_eq_false]
   intro x hx
   have h1 := e x hx
   unfold eqB
   rw [toList_beq] at h1 ⊢
   simp only [beq_eq_false_iff_ne, ne_eq, beq_iff_eq] at h1 ⊢
   exact fun e => h1 e.symm
  rw [this]
  simp
theorem str_load {w0 : World} {G : Hp} {A : Option Addr} {xs : List ByteArray} {i : Nat} {x : ByteArray} (h : StAt w0 G A xs) (hx : xs[i]? = some x) : ∃ b o, A = some ⟨b, o, none⟩ ∧ Rd w0 G b (o + i * 1) (.string x) := by
 obtain ⟨b, o, cs, hA, rfl, h3⟩ := h i x hx
 exact ⟨b, o, hA, h3 0 _ rfl⟩
def slotsR (r : Rl) : List Sl := (placesL r).map (·.2)
theorem slots_from : ∀ (n : Nat) (ls : List Lt), (plFrom n ls).map (·.2) = ls.flatMap slotsOf
 | n, [] => rfl
 | n, l :: ls => by
  simp only [plFrom, List.map_append, List.map_map, List.flatMap_cons, slots_from (n + 1) ls]
  congr 1
  have : ((fun p : Int × Sl => p.2) ∘ fun s => ((n : Int), s)) = id := rfl
  rw [this, List.map_id]
theorem slotsR_eq (r : Rl) : slotsR r = allSlots r := by
 unfold slotsR placesL allSlots allTake
 rw [List.map_append, slots_from, List.take_length]
 rfl
theorem placesL_le (r : Rl) : (placesL r).length ≤ 3 + r.body.length * 3 := by
 have h : (placesL r).length = (allSlots r).length := by rw [← slotsR_eq]; unfold slotsR; rw [List.length_map]
 have := allTake_len r r.body.length
 unfold allSlots at h
 omega
theorem StAt.mono {w0 : World} {G G' : Hp} {A : Option Addr} {xs : List ByteArray} (h : StAt w0 G A xs) (hs : ∀ y ∈ G, y ∈ G') : StAt w0 G' A xs := fun i x hx => by obtain ⟨b, o, cs, h1, h2, h3⟩ := h i x hx; exact ⟨b, o, cs, h1, h2, h3.mono hs⟩
def varsTo (r : Rl) (j : Nat) : List ByteArray := dd ((slotsR r).take j)
theorem varsTo_succ {r : Rl} {j : Nat} {i : Int} {s : Sl} (h : (placesL r)[j]? = some (i, s)) : varsTo r (j + 1) = ddStep (varsTo r j) s := dd_succ (by unfold slotsR; rw [List.getElem?_map, h]; rfl)
theorem varsTo_yes {r : Rl} {j : Nat} {i : Int} {s : Sl} {v : Value} {H : Hp} (h : (placesL r)[j]? = some (i, s)) (h1 : emp s.v = false) (h2 : inB (varsTo r j) s.v = false) (hS : SlAt 1 9 ((varsTo r j).map Value.string ++ [.string s.v]) ((varsTo r j).length + 1) v H) :
  SlAt 1 9 ((varsTo r (j + 1)).map Value.string) (varsTo r (j + 1)).length v H := by rw [varsTo_succ h, ddStep_yes h1 h2]; exact hS.snoc
theorem varsTo_no1 {r : Rl} {j : Nat} {i : Int} {s : Sl} {v : Value} {H : Hp} (h : (placesL r)[j]? = some (i, s)) (h1 : emp s.v = true) (hS : SlAt 1 9 ((varsTo r j).map Value.string) (varsTo r j).length v H) :
  SlAt 1 9 ((varsTo r (j + 1)).map Value.string) (varsTo r (j + 1)).length v H := by rw [varsTo_succ h, ddStep_no1 h1]; exact hS
theorem varsTo_no2 {r : Rl} {j : Nat} {i : Int} {s : Sl} {v : Value} {H : Hp} (h : (placesL r)[j]? = some (i, s)) (h2 : inB (varsTo r j) s.v = true) (hS : SlAt 1 9 ((varsTo r j).map Value.string) (varsTo r j).length v H) :
  SlAt 1 9 ((varsTo r (j + 1)).map Value.string) (varsTo r (j + 1)).length v H := by rw [varsTo_succ h, ddStep_no2 h2]; exact hS
theorem dd_take_le (q : List Sl) (j : Nat) : (dd (q.take j)).length ≤ j := by
 have := dd_len (q.take j)
 rw [List.length_take] at this
 omega
theorem sl_Index (w0 : World) (G : Hp) (A : Option Addr) (xs : List ByteArray) (c : Nat) (s : ByteArray) (hx : StAt w0 G A xs) (hm : xs.length ≤ 100000000) : GC Tryz.prog w0 86 #[.slice A xs.length c, .string s] (fun v G' => v = .int .i64 (idxB xs s) ∧ G = G') G := by
 refine GC.body (args := [.slice A xs.length c, .string s]) Tryz.func86 rfl (by kernel_rfl) rfl ?_
 refine GW.seq ?_
 refine GW.region ?_
 refine R.assign ⟨Z,Z,Z,Z⟩ Z ?_
 refine GOps.nil ?_
 refine GW.seq ?_
 refine GW.seq ?_
 refine GW.region ?_
 refine R.move ⟨Z,Z,Z,Z⟩ Z ?_
 refine R.lenS ⟨Z,Z,Z,Z⟩ Z Z Tryz.underlying61 ?_
 refine R.move ⟨Z,Z,Z,Z⟩ Z ?_
 refine GOps.nil ?_
 refine GW.block ?_
 refine GW.loopI (fun i : Nat => [(0, .slice A xs.length c), (1, .string s), (7, .int .i64 xs.length), (8, .int .i64 i)]) (fun i => G) (fun i => xs.length - i) (fun i => i ≤ xs.length ∧ (xs.take i).any (fun x => s.toList == x.toList) = false) 0
  (keepG) (Hs.refl _) (⟨by omega, by simp⟩) ?_
 rintro i ⟨hi, h0⟩
 refine GW.seq ?_
 refine GW.region ?_
 refine R.lss ⟨Z,Z,Z,Z⟩ Z Z ?_
 refine GOps.nil ?_
 refine GW.seq ?_
 refine GW.ite Z (fun hc1 => ?_) (fun hc1 => ?_)
 ·try simp only [dcQ] at hc1
  obtain ⟨x, hxi⟩ : ∃ x, xs[i]? = some x := ⟨_, List.getElem?_eq_getElem (by omega)⟩
  obtain ⟨xb, xo, rfl, hrd⟩ := str_load hx hxi
  refine GW.skip ?_
  refine GW.seq ?_
  refine GW.block ?_
  refine GW.seq ?_
  refine GW.region ?_
  refine R.move ⟨Z,Z,Z,Z⟩ Z ?_
  refine R.assign ⟨Z,Z,Z,Z⟩ Z ?_
  refine GOps.nil ?_
  refine GW.seq ?_
  refine GW.region ?_
  refine R.move ⟨Z,Z,Z,Z⟩ Z ?_
  refine R.move ⟨Z,Z,Z,Z⟩ Z ?_
  refine R.move ⟨Z,Z,Z,Z⟩ Z ?_
  refine R.indexAddrS ⟨Z,Z,Z,Z⟩ Z Z Tryz.underlying61 Tryz.sizeOf9 (by omega) (by omega) ?_
  refine R.load1 ⟨Z,Z,Z,Z⟩ Z Tryz.underlying9 Z (hrd) ?_
  refine R.eqS ⟨Z,Z,Z,Z⟩ Z Z ?_
  refine GOps.nil ?_
  refine GW.ite Z (fun hc2 => ?_) (fun hc2 => ?_)
  ·try simp only [dcQ] at hc2
   refine GW.seq ?_
   refine GW.region ?_
   refine R.move ⟨Z,Z,Z,Z⟩ Z ?_
   refine R.assign ⟨Z,Z,Z,Z⟩ Z ?_
   refine GOps.nil ?_
   refine GW.ret (Out.of (Res.one Z Z) (by first | exact Hs.refl _ | exact Hs.tl _ | exact Hs.tl2 _ _ | exact Hs.tl3 _ _ _ | exact (Hs.app _).trans (Hs.tl _) | exact (Hs.app _).trans ((Hs.app _).trans (Hs.tl _)) | exact Hs.sub (by repeat (first | exact List.Sublist.refl _ | apply List.Sublist.cons))) ⟨?_, Z⟩)
   first | rw [idxB_of h0 hxi (by assumption)] | rw [idxB_no (by rwa [List.take_of_length_le (by omega)] at h0)]
  ·try simp only [dcQ] at hc2
   refine GW.skip ?_
   refine GW.region ?_
   refine R.add (r := (((i + 1) : Nat) : Int)) ⟨Z,Z,Z,Z⟩ Z Z (by rw [wrap64_id (by omega) (by omega)]; omega) ?_
   refine R.move ⟨Z,Z,Z,Z⟩ Z ?_
   refine GOps.nil ?_
   exact ⟨i + 1, by omega, ⟨by omega, any_take_succ _ xs i x hxi h0 (by assumption)⟩, rfl, keepG, by first | exact Hs.refl _ | exact Hs.tl _ | exact Hs.tl2 _ _⟩
 ·try simp only [dcQ] at hc1
  refine GW.exit ?_
  refine GW.seq ?_
  refine GW.region ?_
  refine R.assign ⟨Z,Z,Z,Z⟩ Z ?_
  refine GOps.nil ?_
  refine GW.ret (Out.of (Res.one Z Z) (by first | exact Hs.refl _ | exact Hs.tl _ | exact Hs.tl2 _ _ | exact Hs.tl3 _ _ _ | exact (Hs.app _).trans (Hs.tl _) | exact (Hs.app _).trans ((Hs.app _).trans (Hs.tl _)) | exact Hs.sub (by repeat (first | exact List.Sublist.refl _ | apply List.Sublist.cons))) ⟨?_, Z⟩)
  first | rw [idxB_of h0 hxi (by assumption)] | rw [idxB_no (by rwa [List.take_of_length_le (by omega)] at h0)]
theorem sl_Contains (w0 : World) (G : Hp) (A : Option Addr) (xs : List ByteArray) (c : Nat) (s : ByteArray) (hx : StAt w0 G A xs) (hm : xs.length ≤ 100000000) : GC Tryz.prog w0 76 #[.slice A xs.length c, .string s] (fun v G' => v = .bool (inB xs s) ∧ G = G') G := by
 refine GC.body (args := [.slice A xs.length c, .string s]) Tryz.func76 rfl (by kernel_rfl) rfl ?_
 refine GW.seq ?_
 refine GW.region ?_
 refine R.assign ⟨Z,Z,Z,Z⟩ Z ?_
 refine GOps.nil ?_
 refine GW.seq ?_
 refine GW.region ?_
 refine R.move ⟨Z,Z,Z,Z⟩ Z ?_
 refine R.move ⟨Z,Z,Z,Z⟩ Z ?_
 refine R.call ⟨Z,Z,Z,Z⟩ Z (vs := [_, _]) Z ((sl_Index _ _ A xs c s hx hm).mono ?_)
 rintro _ _ ⟨rfl, rfl⟩
 refine R.geq ⟨Z,Z,Z,Z⟩ Z Z ?_
 refine R.assign ⟨Z,Z,Z,Z⟩ Z ?_
 refine GOps.nil ?_
 refine GW.ret (Out.of (Res.one Z Z) (by first | exact Hs.refl _ | exact Hs.tl _ | exact Hs.tl2 _ _ | exact Hs.tl3 _ _ _ | exact (Hs.app _).trans (Hs.tl _) | exact (Hs.app _).trans ((Hs.app _).trans (Hs.tl _)) | exact Hs.sub (by repeat (first | exact List.Sublist.refl _ | apply List.Sublist.cons))) ⟨?_, Z⟩)
 rw [idxB_in]
theorem check_Vars (w0 : World) (G : Hp) (r : Rl) (A : Option Addr) (c : Nat) (hl : LtsAt w0 G A r.body) (hm : r.body.length ≤ 100000) : GC Tryz.prog w0 54 #[.agg (RlC r.head (.slice A r.body.length c)).toArray] (fun v G' => ∃ H, SlAt 1 9 ((dd (allSlots r)).map Value.string) (dd (allSlots r)).length v H ∧ H ++ G = G') G := by
 refine GC.body (args := [.agg (RlC r.head (.slice A r.body.length c)).toArray]) Tryz.func54 rfl (by kernel_rfl) rfl ?_
 refine GW.seq ?_
 refine GW.region ?_
 refine R.box ⟨Z,Z,Z,Z⟩ Z fun b1 => ?_
 refine R.assign ⟨Z,Z,Z,Z⟩ Z ?_
 refine GOps.nil ?_
 refine GW.seq ?_
 refine GW.region ?_
 refine R.alloc ⟨Z,Z,Z,Z⟩ Tryz.zeroValue61 fun b3 => ?_
 refine GOps.nil ?_
 refine GW.seq ?_
 refine GW.seq ?_
 refine GW.region ?_
 refine R.load_own (cs := RlC r.head (.slice A r.body.length c)) ⟨Z,Z,Z,Z⟩ Z Tryz.underlying31 Z Tryz.sizeOf31 memG (by rfl) (by rfl) ?_
 refine R.call ⟨Z,Z,Z,Z⟩ Z (vs := [_]) Z ((check_places _ _ r A c).mono ?_)
 rintro _ _ ⟨bP, rfl, rfl⟩
 refine GOps.nil ?_
 refine GW.block ?_
 refine GW.rangeFunc Z fun D0 l0 r0 hp0 ha0 hb0 hfr0 => ?_
 refine GC.mono (places1 w0 l0 bP r A c (fun x : Value × Hp => (l0, lrec r0 .ready none) :: (D0, .exact (.deferred (some []))) :: (bP, .exact (.cells (RlC r.head (.slice A r.body.length c)).toArray 31 (0, 0))) :: (b3, .exact (.cells #[x.1] 61 (0, 0))) :: (b1, .exact (.cells (RlC r.head (.slice A r.body.length c)).toArray 31 (0, 0))) :: x.2) (fun j x => SlAt 1 9 ((varsTo r j).map Value.string) (varsTo r j).length x.1 x.2) (fun _ => False) G (.slice none 0 0, []) (by omega) (fun x => .own memH 0 _ (fun j v hv => by simpa using hv)) hl (.nil rfl rfl) ?_) ?_
 ·intro F' j x i s hF hI hn; obtain ⟨va, Ho⟩ := x; simp only at hI; have hjl : (varsTo r j).length ≤ j := dd_take_le (slotsR r) j; have hjn := (List.getElem?_eq_some_iff.1 hn).1; have hpl := placesL_le r; show GY _ _ _ _ _ ((l0, lrec r0 .ready none) :: (D0, .exact (.deferred (some []))) :: (bP, .exact (.cells (RlC r.head (.slice A r.body.length c)).toArray 31 (0, 0))) :: (b3, .exact (.cells #[va] 61 (0, 0))) :: (b1, .exact (.cells (RlC r.head (.slice A r.body.length c)).toArray 31 (0, 0))) :: (Ho ++ F'))
  refine GY.intro hfr0 (by rw [hp0]; rfl) (by rw [hp0]; rfl) ?_
  rw [hp0, ha0, hb0]
  refine GW.region ?_
  refine R.alloc ⟨Z,Z,Z,Z⟩ Tryz.zeroValue26 fun b5 => ?_
  refine R.storeAll (G1 := []) Z Z Z Z Z Tryz.sizeOf26 Z Z Z Z ?_
  refine GOps.nil ?_
  refine ⟨_, Hs.perm (List.Perm.swap _ _ _), ?_⟩
  refine GW.block ?_
  refine GW.seq ?_
  refine GW.region ?_
  refine R.fieldAddr ⟨Z,Z,Z,Z⟩ Z Tryz.underlying26 Z Tryz.sizeOf9 ?_
  refine R.load1 ⟨Z,Z,Z,Z⟩ Z Tryz.underlying9 Z (.own' memG (by rfl)) ?_
  refine R.neS ⟨Z,Z,Z,Z⟩ Z Z ?_
  refine R.move ⟨Z,Z,Z,Z⟩ Z ?_
  refine GOps.caseB 13 Z (fun hg1 => ?_) (fun hg1 => ?_)
  ·try simp only [dcQ] at hg1
   refine R.load1 ⟨Z,Z,Z,Z⟩ Z Tryz.underlying61 Z (.own' memG (by rfl)) ?_
   refine R.fieldAddr ⟨Z,Z,Z,Z⟩ Z Tryz.underlying26 Z Tryz.sizeOf9 ?_
   refine R.load1 ⟨Z,Z,Z,Z⟩ Z Tryz.underlying9 Z (.own' memG (by rfl)) ?_
   obtain ⟨Ao, co, rfl, hSt⟩ := hI.strs w0 F'
   refine R.call ⟨Z,Z,Z,Z⟩ Z (vs := [_, _]) Z ((sl_Contains _ _ Ao (varsTo r j) co s.v (StAt.mono hSt (fun y hy => by repeat (first | exact hy | apply List.mem_cons_of_mem))) (by omega)).mono ?_)
   rintro _ _ ⟨rfl, rfl⟩
   refine R.not ⟨Z,Z,Z,Z⟩ Z ?_
   refine R.pick_t ⟨Z,Z,Z,Z⟩ Z Z ?_
   refine GOps.nil ?_
   refine GW.ite Z (fun hc2 => ?_) (fun hc2 => ?_)
   ·try simp only [dcQ] at hc2
    refine GW.region ?_
    refine R.load1 ⟨Z,Z,Z,Z⟩ Z Tryz.underlying61 Z (.own' memG (by rfl)) ?_
    refine R.fieldAddr ⟨Z,Z,Z,Z⟩ Z Tryz.underlying26 Z Tryz.sizeOf9 ?_
    refine R.load1 ⟨Z,Z,Z,Z⟩ Z Tryz.underlying9 Z (.own' memG (by rfl)) ?_
    refine R.buildSliceF (sz := 1) (bytes := 16) (vs := [_]) (cs := [.string s.v]) ⟨Z,Z,Z,Z⟩ Z Tryz.underlying61 (InfoE.mk (by kernel_rfl)) Z Z Z Z Z fun b23 => ?_
    refine R.append (sz := 1) (bytes := 16) (G1 := [_, _, _, _, _, _, _]) (H := Ho) (news := [.string s.v]) ⟨Z,Z,Z,Z⟩ Z Z Z Tryz.underlying61 (InfoE.mk (by kernel_rfl)) (hI) (Z) (Z) (.own memH 0 _ (fun j v hv => by simpa using hv)) (by omega) (by rfl) (by omega) (by omega) fun v24 H24 hv24 => ?_
    obtain ⟨A24, c24, rfl, hc24⟩ := hv24.split
    refine R.storeAll (G1 := [_, _, _, _, _]) Z Z Z Z Z Tryz.sizeOf61 Z Z Z Z ?_
    refine GOps.nil ?_
    first | exact ⟨_, Hs.sub (by repeat (first | exact List.Sublist.refl _ | apply List.Sublist.cons_cons | apply List.Sublist.cons)), .inl ⟨rfl, (.slice A24 _ c24, H24), varsTo_yes hn (by assumption) (by assumption) hv24, rfl⟩⟩ | exact ⟨_, Hs.sub (by repeat (first | exact List.Sublist.refl _ | apply List.Sublist.cons_cons | apply List.Sublist.cons)), .inl ⟨rfl, (_, Ho), varsTo_no1 hn (by assumption) hI, rfl⟩⟩ | exact ⟨_, Hs.sub (by repeat (first | exact List.Sublist.refl _ | apply List.Sublist.cons_cons | apply List.Sublist.cons)), .inl ⟨rfl, (_, Ho), varsTo_no2 hn (by assumption) hI, rfl⟩⟩
   ·try simp only [dcQ] at hc2
    refine GW.skip ?_
    first | exact ⟨_, Hs.sub (by repeat (first | exact List.Sublist.refl _ | apply List.Sublist.cons_cons | apply List.Sublist.cons)), .inl ⟨rfl, (.slice A24 _ c24, H24), varsTo_yes hn (by assumption) (by assumption) hv24, rfl⟩⟩ | exact ⟨_, Hs.sub (by repeat (first | exact List.Sublist.refl _ | apply List.Sublist.cons_cons | apply List.Sublist.cons)), .inl ⟨rfl, (_, Ho), varsTo_no1 hn (by assumption) hI, rfl⟩⟩ | exact ⟨_, Hs.sub (by repeat (first | exact List.Sublist.refl _ | apply List.Sublist.cons_cons | apply List.Sublist.cons)), .inl ⟨rfl, (_, Ho), varsTo_no2 hn (by assumption) hI, rfl⟩⟩
  ·try simp only [dcQ] at hg1
   refine GOps.skip Z Z Z ?_
   refine GOps.skip Z Z Z ?_
   refine GOps.skip Z Z Z ?_
   refine GOps.skip Z Z Z ?_
   refine GOps.skip Z Z Z ?_
   refine R.pick_f ⟨Z,Z,Z,Z⟩ Z Z ?_
   refine GOps.nil ?_
   refine GW.cond_f Z ?_
   refine GW.skip ?_
   first | exact ⟨_, Hs.sub (by repeat (first | exact List.Sublist.refl _ | apply List.Sublist.cons_cons | apply List.Sublist.cons)), .inl ⟨rfl, (.slice A24 _ c24, H24), varsTo_yes hn (by assumption) (by assumption) hv24, rfl⟩⟩ | exact ⟨_, Hs.sub (by repeat (first | exact List.Sublist.refl _ | apply List.Sublist.cons_cons | apply List.Sublist.cons)), .inl ⟨rfl, (_, Ho), varsTo_no1 hn (by assumption) hI, rfl⟩⟩ | exact ⟨_, Hs.sub (by repeat (first | exact List.Sublist.refl _ | apply List.Sublist.cons_cons | apply List.Sublist.cons)), .inl ⟨rfl, (_, Ho), varsTo_no2 hn (by assumption) hI, rfl⟩⟩
 ·rintro _ _ (⟨x, F', hI, hF, rfl⟩ | hF)
  ·obtain ⟨va, Ho⟩ := x
   refine ⟨.ready, none, _, by simp, Hs.refl _, ?_⟩
   show GW _ _ _ _ _ ((D0, .exact (.deferred (some []))) :: (bP, .exact (.cells (RlC r.head (.slice A r.body.length c)).toArray 31 (0, 0))) :: (b3, .exact (.cells #[va] 61 (0, 0))) :: (b1, .exact (.cells (RlC r.head (.slice A r.body.length c)).toArray 31 (0, 0))) :: (Ho ++ F'))
   refine GW.seq ?_
   refine GW.region ?_
   refine R.load1 ⟨Z,Z,Z,Z⟩ Z Tryz.underlying61 Z (.own' memG (by rfl)) ?_
   refine R.assign ⟨Z,Z,Z,Z⟩ Z ?_
   refine GOps.nil ?_
   rw [show varsTo r (placesL r).length = dd (allSlots r) by unfold varsTo; rw [List.take_of_length_le (by unfold slotsR; rw [List.length_map]; exact Nat.le_refl _), slotsR_eq]] at hI
   exact GW.ret (Out.of1 (Res.one rfl rfl) ((Hs.tl3 _ _ _).trans (hF.2 Ho)) ⟨Ho, hI, rfl⟩)
  ·exact hF.elim
end Go.Proofs.YtfddkcmooommeaaGreatDoor.Gl
end
section
namespace Go.Proofs.YtfddkcmooommeaaGreatDoor.Gl
open Go.RowKit Go.Shelf
set_option linter.unusedVariables false
set_option linter.unnecessarySimpa false
set_option linter.unusedSimpArgs false
attribute [-simp] List.getD_eq_getElem?_getD
structure Pl where
 var : Int
 id : Nat
structure Rw where
 p0 : Pl
 p1 : Pl
 p2 : Pl
structure St where
 kind : Int
 row : Rw
 a : Pl
 b : Pl
def PlC (p : Pl) : List Value := [.int .i64 p.var, .int .u32 (p.id : Nat)]
def RwC (r : Rw) : List Value := [.int .i64 r.p0.var, .int .u32 (r.p0.id : Nat), .int .i64 r.p1.var, .int .u32 (r.p1.id : Nat), .int .i64 r.p2.var, .int .u32 (r.p2.id : Nat)]
def StC (s : St) : List Value := [.int .i64 s.kind, .int .i64 s.row.p0.var, .int .u32 (s.row.p0.id : Nat), .int .i64 s.row.p1.var, .int .u32 (s.row.p1.id : Nat), .int .i64 s.row.p2.var, .int .u32 (s.row.p2.id : Nat), .int .i64 s.a.var, .int .u32 (s.a.id : Nat), .int .i64 s.b.var, .int .u32 (s.b.id : Nat)]
def zPl : Pl := ⟨0, 0⟩
def zRw : Rw := ⟨zPl, zPl, zPl⟩
abbrev mkC (bD : Nat) (A : Option Addr) (n c : Nat) (bad : Int) : Know := .exact (.cells #[.pointer (some ⟨bD, 0, none⟩), .slice A n c, .int .i64 bad] 97 (0, 0))
def placeF (lim : Nat) (vars : List ByteArray) (q : List Tm × Int) (s : Sl) : Pl × (List Tm × Int) :=
 bif emp s.v then (⟨-1, (internF lim q.1 s.t).1⟩, ((internF lim q.1 s.t).2.2, if q.2 = 0 then (internF lim q.1 s.t).2.1 else q.2)) else (⟨idxB vars s.v, 0⟩, q)
theorem placeF_var {lim : Nat} {vars : List ByteArray} {q : List Tm × Int} {s : Sl} (h : emp s.v = false) : placeF lim vars q s = (⟨idxB vars s.v, 0⟩, q) := by unfold placeF; rw [h]; rfl
theorem placeF_t0 {lim : Nat} {vars : List ByteArray} {q : List Tm × Int} {s : Sl} (h : emp s.v = true) (hb : q.2 = 0) : placeF lim vars q s = (⟨-1, (internF lim q.1 s.t).1⟩, ((internF lim q.1 s.t).2.2, (internF lim q.1 s.t).2.1)) := by unfold placeF; rw [h, if_pos hb]; rfl
theorem placeF_t1 {lim : Nat} {vars : List ByteArray} {q : List Tm × Int} {s : Sl} (h : emp s.v = true) (hb : ¬ q.2 = 0) : placeF lim vars q s = (⟨-1, (internF lim q.1 s.t).1⟩, ((internF lim q.1 s.t).2.2, q.2)) := by unfold placeF; rw [h, if_neg hb]; rfl
def rowStep (lim : Nat) (vars : List ByteArray) (a : List Pl × (List Tm × Int)) (s : Sl) : List Pl × (List Tm × Int) := (a.1 ++ [(placeF lim vars a.2 s).1], (placeF lim vars a.2 s).2)
def sl3 (p : Pt) : List Sl := [p.s0, p.s1, p.s2]
def rowTo (lim : Nat) (vars : List ByteArray) (q : List Tm × Int) (p : Pt) (k : Nat) : List Pl × (List Tm × Int) := ((sl3 p).take k).foldl (rowStep lim vars) ([], q)
theorem rowTo_succ {lim : Nat} {vars : List ByteArray} {q : List Tm × Int} {p : Pt} {k : Nat} {s : Sl} (h : (sl3 p)[k]? = some s) : rowTo lim vars q p (k + 1) = rowStep lim vars (rowTo lim vars q p k) s := by
 unfold rowTo
 rw [List.take_add_one, h, List.foldl_append]
 rfl
def rowF (lim : Nat) (vars : List ByteArray) (q : List Tm × Int) (p : Pt) : Rw × (List Tm × Int) :=
 (⟨(placeF lim vars q p.s0).1, (placeF lim vars (placeF lim vars q p.s0).2 p.s1).1, (placeF lim vars (placeF lim vars (placeF lim vars q p.s0).2 p.s1).2 p.s2).1⟩, (placeF lim vars (placeF lim vars (placeF lim vars q p.s0).2 p.s1).2 p.s2).2)
theorem rowTo_3 (lim : Nat) (vars : List ByteArray) (q : List Tm × Int) (p : Pt) : rowTo lim vars q p 3 = ([(rowF lim vars q p).1.p0, (rowF lim vars q p).1.p1, (rowF lim vars q p).1.p2], (rowF lim vars q p).2) := rfl
def stepF (lim : Nat) (vars : List ByteArray) (q : List Tm × Int) (l : Lt) : St × (List Tm × Int) :=
 if l.kind = 1 then (⟨1, (rowF lim vars q l.pat).1, zPl, zPl⟩, (rowF lim vars q l.pat).2)
 else if l.kind = 2 then (⟨2, (rowF lim vars q l.pat).1, zPl, zPl⟩, (rowF lim vars q l.pat).2)
 else (⟨if l.kind = 3 then 3 else 4, zRw, (placeF lim vars q l.a).1, (placeF lim vars (placeF lim vars q l.a).2 l.b).1⟩, (placeF lim vars (placeF lim vars q l.a).2 l.b).2)
def padC : List Pl → Array Value
 | [] => #[.int .i64 0, .int .u32 0, .int .i64 0, .int .u32 0, .int .i64 0, .int .u32 0]
 | [x] => #[.int .i64 x.var, .int .u32 (x.id : Nat), .int .i64 0, .int .u32 0, .int .i64 0, .int .u32 0]
 | [x, y] => #[.int .i64 x.var, .int .u32 (x.id : Nat), .int .i64 y.var, .int .u32 (y.id : Nat), .int .i64 0, .int .u32 0]
 | x :: y :: z :: _ => #[.int .i64 x.var, .int .u32 (x.id : Nat), .int .i64 y.var, .int .u32 (y.id : Nat), .int .i64 z.var, .int .u32 (z.id : Nat)]
theorem pad_put {out : List Pl} {k : Nat} (p : Pl) (h : out.length = k) (h3 : k < 3) : splice (padC out) (0 + (k : Int).toNat * 2) (Value.agg (PlC p).toArray).cells.toList = padC (out ++ [p]) := by
 subst h
 rcases out with _ | ⟨x, _ | ⟨y, _ | ⟨z, l⟩⟩⟩
 ·rfl
 ·rfl
 ·rfl
 ·simp at h3; omega
theorem pad_size (out : List Pl) : (padC out).size = 6 := by
 rcases out with _ | ⟨x, _ | ⟨y, _ | ⟨z, l⟩⟩⟩ <;> rfl
theorem pt_index {p : Pt} {k : Nat} (h : k < 3) : ∃ s, (sl3 p)[k]? = some s ∧ s ∈ sl3 p ∧ ((PtC p).toArray.extract (k * 4) (k * 4 + 4)) = (SlC s).toArray := by
 rcases k with _ | _ | _ | k
 ·exact ⟨p.s0, rfl, by simp [sl3], rfl⟩
 ·exact ⟨p.s1, rfl, by simp [sl3], rfl⟩
 ·exact ⟨p.s2, rfl, by simp [sl3], rfl⟩
 ·omega
theorem Hs.mid3 (x y z : Nat × Know) (H G : Hp) : Hs (x :: y :: z :: (H ++ G)) (x :: y :: z :: G) := Hs.sub (((((List.sublist_append_right H G).cons_cons z).cons_cons y).cons_cons x))
theorem pm1 (x : Nat × Know) (H G : Hp) : (H ++ x :: G).Perm (x :: (H ++ G)) := List.perm_middle
theorem pm2 (x y : Nat × Know) (H G : Hp) : (H ++ x :: y :: G).Perm (x :: y :: (H ++ G)) := (pm1 x H _).trans ((pm1 y H G).cons x)
theorem pm3 (x y z : Nat × Know) (H G : Hp) : (H ++ x :: y :: z :: G).Perm (x :: y :: z :: (H ++ G)) := (pm1 x H _).trans ((pm2 y z H G).cons x)
theorem Hs.toD3 (x y z : Nat × Know) (H G : Hp) : Hs (x :: y :: z :: (H ++ G)) (H ++ (x :: y :: z :: G)) := Hs.perm (pm3 x y z H G)
theorem Hs.fromD3 (x y z : Nat × Know) (H G : Hp) : Hs (H ++ (x :: y :: z :: G)) (x :: y :: z :: (H ++ G)) := Hs.perm (pm3 x y z H G).symm
theorem Hs.toM2 (x y m : Nat × Know) (H G : Hp) : Hs (x :: y :: m :: (H ++ G)) (m :: (H ++ (x :: y :: G))) := Hs.perm (((pm2 x y H G).cons m).trans ((List.Perm.swap x m _).trans ((List.Perm.swap y m _).cons x)))
theorem Hs.fromM2 (x y m : Nat × Know) (H G : Hp) : Hs (m :: (H ++ (x :: y :: G))) (x :: y :: m :: (H ++ G)) := Hs.perm (((pm2 x y H G).cons m).trans ((List.Perm.swap x m _).trans ((List.Perm.swap y m _).cons x))).symm
theorem Hs.toM3 (x y z m : Nat × Know) (H G : Hp) : Hs (x :: y :: z :: m :: (H ++ G)) (m :: (H ++ (x :: y :: z :: G))) := Hs.perm (((pm3 x y z H G).cons m).trans ((List.Perm.swap x m _).trans (((List.Perm.swap y m _).trans ((List.Perm.swap z m _).cons y)).cons x)))
theorem Hs.fromM3 (x y z m : Nat × Know) (H G : Hp) : Hs (m :: (H ++ (x :: y :: z :: G))) (x :: y :: z :: m :: (H ++ G)) := Hs.perm (((pm3 x y z H G).cons m).trans ((List.Perm.swap x m _).trans (((List.Perm.swap y m _).trans ((List.Perm.swap z m _).cons y)).cons x))).symm
theorem plan_place (w0 : World) (G : Hp) (HD : Hp) (ts : List Tm) (lim bD bM c : Nat) (A : Option Addr) (vars : List ByteArray) (bad : Int) (hD : Dic ts lim bD HD) (hv : StAt w0 G A vars) (hm : vars.length ≤ 100000000) (s : Sl) (hs : emp s.v = true → mayT s.t = true) : GC Tryz.prog w0 55 #[.pointer (some ⟨bM, 0, none⟩), .agg (SlC s).toArray] (fun v G' => ∃ HD', (v = .agg (PlC (placeF lim vars (ts, bad) s).1).toArray ∧ Dic (placeF lim vars (ts, bad) s).2.1 lim bD HD') ∧ (bM, mkC bD A vars.length c (placeF lim vars (ts, bad) s).2.2) :: (HD' ++ G) = G') ((bM, mkC bD A vars.length c bad) :: (HD ++ G)) := by
 refine GC.body (args := [.pointer (some ⟨bM, 0, none⟩), .agg (SlC s).toArray]) Tryz.func55 rfl (by kernel_rfl) rfl ?_
 refine GW.seq ?_
 refine GW.region ?_
 refine R.box ⟨Z,Z,Z,Z⟩ Z fun b3 => ?_
 refine R.alloc ⟨Z,Z,Z,Z⟩ Tryz.zeroValue37 fun b4 => ?_
 refine GOps.nil ?_
 refine GW.seq ?_
 refine GW.seq ?_
 refine GW.region ?_
 refine R.fieldAddr ⟨Z,Z,Z,Z⟩ Z Tryz.underlying26 Z Tryz.sizeOf9 ?_
 refine R.load1 ⟨Z,Z,Z,Z⟩ Z Tryz.underlying9 Z (.own' memG (by rfl)) ?_
 refine R.neS ⟨Z,Z,Z,Z⟩ Z Z ?_
 refine GOps.nil ?_
 refine GW.ite Z (fun hc1 => ?_) (fun hc1 => ?_)
 ·try simp only [dcQ] at hc1
  replace hc1 : emp s.v = false := hc1
  refine GW.seq ?_
  refine GW.draw ((b3, .exact (.cells (Value.agg (SlC s).toArray).cells 26 (0, 0))) :: (bM, mkC bD A vars.length c bad) :: (HD ++ G)) 9 Z (by kernel_rfl) ?_
  refine GA.w 0 Z (V.move ⟨Z,Z,Z,Z⟩ Z) Z ?_
  refine GA.w 1 Z (V.nilCheck ⟨Z,Z,Z,Z⟩ Z) Z ?_
  refine GA.w 2 Z (V.fieldAddr ⟨Z,Z,Z,Z⟩ Z Tryz.underlying97 Z Tryz.sizeOf61) Z ?_
  refine GA.val 3 Z (V.load1 ⟨Z,Z,Z,Z⟩ Z Tryz.underlying61 Z (.own' memG (by rfl))) Z (by kernel_rfl) (by kernel_rfl) (by kernel_rfl) ?_
  refine GA.w 4 Z (V.fieldAddr ⟨Z,Z,Z,Z⟩ Z Tryz.underlying26 Z Tryz.sizeOf9) Z ?_
  refine GA.val 5 Z (V.load1 ⟨Z,Z,Z,Z⟩ Z Tryz.underlying9 Z (.own' memG (by rfl))) Z (by kernel_rfl) (by kernel_rfl) (by kernel_rfl) ?_
  refine GA.one 6 (by first | exact Hs.mid3 _ _ _ _ _ | exact Hs.refl _ | exact Hs.tl _ | exact Hs.tl2 _ _ | exact Hs.tl3 _ _ _ | exact Hs.app _ | exact Hs.sub (by simp)) (by kernel_rfl) Z ?_
  refine R.call ⟨Z,Z,Z,Z⟩ Z (vs := [_, _]) Z ((sl_Index _ _ A vars c s.v (hv.mono (fun y hy => by repeat (first | exact hy | apply List.mem_cons_of_mem | apply List.mem_append_right))) hm).mono ?_)
  rintro _ _ ⟨rfl, rfl⟩
  refine GOps.nil ?_
  refine GA.val 7 Z (V.build (vs := [(0, _)]) (cells := (PlC ⟨idxB vars s.v, 0⟩).toArray) ⟨Z,Z,Z,Z⟩ Z (fun w => run_build w 37 _ _ (by kernel_rfl))) Z (by kernel_rfl) (by kernel_rfl) (by kernel_rfl) ?_
  refine GA.one 8 (by first | exact Hs.mid3 _ _ _ _ _ | exact Hs.refl _ | exact Hs.tl _ | exact Hs.tl2 _ _ | exact Hs.tl3 _ _ _ | exact Hs.app _ | exact Hs.sub (by simp)) (by kernel_rfl) Z ?_
  refine R.storeAll (G1 := []) Z Z Z Z Z Tryz.sizeOf37 Z Z Z Z ?_
  refine GOps.nil ?_
  refine GA.done (by first | exact Hs.mid3 _ _ _ _ _ | exact Hs.refl _ | exact Hs.tl _ | exact Hs.tl2 _ _ | exact Hs.tl3 _ _ _ | exact Hs.app _ | exact Hs.sub (by simp)) (by kernel_rfl) ?_
  first | (rw [placeF_var hc1]; exact GW.ret (Out.of (resCellA rfl rfl Tryz.underlying37 rfl Tryz.sizeOf37 (Rds.own (C := (PlC ⟨idxB vars s.v, 0⟩).toArray) memH 0 (PlC ⟨idxB vars s.v, 0⟩) (fun j v hv => by simpa using hv)) rfl) (Hs.tl2 _ _) ⟨HD, ⟨rfl, hD⟩, rfl⟩)) | (rw [placeF_t0 hc1 (by assumption)]; exact GW.ret (Out.of (resCellA rfl rfl Tryz.underlying37 rfl Tryz.sizeOf37 (Rds.own (C := (PlC ⟨-1, (internF lim ts s.t).1⟩).toArray) memH 0 (PlC ⟨-1, (internF lim ts s.t).1⟩) (fun j v hv => by simpa using hv)) rfl) (Hs.tl2 _ _) ⟨HD2, ⟨rfl, hD2⟩, rfl⟩)) | (rw [placeF_t1 hc1 (by assumption)]; exact GW.ret (Out.of (resCellA rfl rfl Tryz.underlying37 rfl Tryz.sizeOf37 (Rds.own (C := (PlC ⟨-1, (internF lim ts s.t).1⟩).toArray) memH 0 (PlC ⟨-1, (internF lim ts s.t).1⟩) (fun j v hv => by simpa using hv)) rfl) (Hs.tl2 _ _) ⟨HD2, ⟨rfl, hD2⟩, rfl⟩))
 ·try simp only [dcQ] at hc1
  replace hc1 : emp s.v = true := hc1
  refine GW.skip ?_
  refine GW.seq ?_
  refine GW.draw ((b4, .exact (.cells #[.int .i64 0, .int .u32 0] 37 (0, 0))) :: (b3, .exact (.cells (Value.agg (SlC s).toArray).cells 26 (0, 0))) :: (bM, mkC bD A vars.length c bad) :: G) 12 Z (by kernel_rfl) ?_
  refine GA.w 0 Z (V.move ⟨Z,Z,Z,Z⟩ Z) Z ?_
  refine GA.w 1 Z (V.nilCheck ⟨Z,Z,Z,Z⟩ Z) Z ?_
  refine GA.w 2 Z (V.fieldAddr ⟨Z,Z,Z,Z⟩ Z Tryz.underlying97 Z Tryz.sizeOf45) Z ?_
  refine GA.val 3 Z (V.load1 ⟨Z,Z,Z,Z⟩ Z Tryz.underlying45 Z (.own' memG (by rfl))) Z (by kernel_rfl) (by kernel_rfl) (by kernel_rfl) ?_
  refine GA.w 4 Z (V.fieldAddr ⟨Z,Z,Z,Z⟩ Z Tryz.underlying26 Z Tryz.sizeOf24) Z ?_
  refine GA.val 5 Z (V.load_own (cs := TmC s.t) ⟨Z,Z,Z,Z⟩ Z Tryz.underlying24 Z Tryz.sizeOf24 memG (by rfl) (by rfl)) Z (by kernel_rfl) (by kernel_rfl) (by kernel_rfl) ?_
  refine GA.one 6 (by first | exact Hs.mid3 _ _ _ _ _ | exact Hs.refl _ | exact Hs.tl _ | exact Hs.tl2 _ _ | exact Hs.tl3 _ _ _ | exact Hs.app _ | exact Hs.sub (by simp)) (by kernel_rfl) Z ?_
  refine GOps.weak (Keeps.refl _) (Hs.toD3 _ _ _ _ _) ?_
  refine R.call ⟨Z,Z,Z,Z⟩ Z (vs := [_, _]) Z ((dict_Intern _ _ HD ts lim bD s.t hD (hs hc1)).mono ?_)
  rintro _ _ ⟨HD2, ⟨rfl, hD2⟩, rfl⟩
  refine GOps.weak (Keeps.refl _) (Hs.fromD3 _ _ _ _ _) ?_
  refine GOps.nil ?_
  refine GA.w 7 Z (V.move ⟨Z,Z,Z,Z⟩ Z) Z ?_
  refine GA.w 8 Z (V.extract ⟨Z,Z,Z,Z⟩ Z Z) Z ?_
  refine GA.w 9 Z (V.extract ⟨Z,Z,Z,Z⟩ Z Z) Z ?_
  refine GA.w 10 Z (V.assign ⟨Z,Z,Z,Z⟩ Z) Z ?_
  refine GA.w 11 Z (V.assign ⟨Z,Z,Z,Z⟩ Z) Z ?_
  refine GA.done (by first | exact Hs.mid3 _ _ _ _ _ | exact Hs.refl _ | exact Hs.tl _ | exact Hs.tl2 _ _ | exact Hs.tl3 _ _ _ | exact Hs.app _ | exact Hs.sub (by simp)) (by kernel_rfl) ?_
  refine GW.seq ?_
  refine GW.seq ?_
  refine GW.region ?_
  refine R.move ⟨Z,Z,Z,Z⟩ Z ?_
  refine R.nilCheck ⟨Z,Z,Z,Z⟩ Z ?_
  refine R.fieldAddr ⟨Z,Z,Z,Z⟩ Z Tryz.underlying97 Z Tryz.sizeOf42 ?_
  refine R.load1 ⟨Z,Z,Z,Z⟩ Z Tryz.underlying42 Z (.own' memG (by rfl)) ?_
  refine R.eqI ⟨Z,Z,Z,Z⟩ Z Z ?_
  refine GOps.nil ?_
  refine GW.ite Z (fun hc2 => ?_) (fun hc2 => ?_)
  ·try simp only [dcQ] at hc2
   refine GW.region ?_
   refine R.move ⟨Z,Z,Z,Z⟩ Z ?_
   refine R.move ⟨Z,Z,Z,Z⟩ Z ?_
   refine R.nilCheck ⟨Z,Z,Z,Z⟩ Z ?_
   refine R.fieldAddr ⟨Z,Z,Z,Z⟩ Z Tryz.underlying97 Z Tryz.sizeOf42 ?_
   refine R.store (G1 := [_, _]) Z Z Z Z Z Tryz.sizeOf42 Z Z (Z) (Nat.le_of_ble_eq_true Z) ?_
   refine GOps.nil ?_
   refine GW.seq ?_
   refine GW.region ?_
   refine R.move ⟨Z,Z,Z,Z⟩ Z ?_
   refine R.build (vs := [(0, _), (1, _)]) (cells := (PlC ⟨-1, (internF lim ts s.t).1⟩).toArray) ⟨Z,Z,Z,Z⟩ Z (fun w => run_build w 37 _ _ (by kernel_rfl)) ?_
   refine R.storeAll (G1 := []) Z Z Z Z Z Tryz.sizeOf37 Z Z Z Z ?_
   refine GOps.nil ?_
   first | (rw [placeF_var hc1]; exact GW.ret (Out.of (resCellA rfl rfl Tryz.underlying37 rfl Tryz.sizeOf37 (Rds.own (C := (PlC ⟨idxB vars s.v, 0⟩).toArray) memH 0 (PlC ⟨idxB vars s.v, 0⟩) (fun j v hv => by simpa using hv)) rfl) (Hs.tl2 _ _) ⟨HD, ⟨rfl, hD⟩, rfl⟩)) | (rw [placeF_t0 hc1 (by assumption)]; exact GW.ret (Out.of (resCellA rfl rfl Tryz.underlying37 rfl Tryz.sizeOf37 (Rds.own (C := (PlC ⟨-1, (internF lim ts s.t).1⟩).toArray) memH 0 (PlC ⟨-1, (internF lim ts s.t).1⟩) (fun j v hv => by simpa using hv)) rfl) (Hs.tl2 _ _) ⟨HD2, ⟨rfl, hD2⟩, rfl⟩)) | (rw [placeF_t1 hc1 (by assumption)]; exact GW.ret (Out.of (resCellA rfl rfl Tryz.underlying37 rfl Tryz.sizeOf37 (Rds.own (C := (PlC ⟨-1, (internF lim ts s.t).1⟩).toArray) memH 0 (PlC ⟨-1, (internF lim ts s.t).1⟩) (fun j v hv => by simpa using hv)) rfl) (Hs.tl2 _ _) ⟨HD2, ⟨rfl, hD2⟩, rfl⟩))
  ·try simp only [dcQ] at hc2
   refine GW.skip ?_
   refine GW.seq ?_
   refine GW.region ?_
   refine R.move ⟨Z,Z,Z,Z⟩ Z ?_
   refine R.build (vs := [(0, _), (1, _)]) (cells := (PlC ⟨-1, (internF lim ts s.t).1⟩).toArray) ⟨Z,Z,Z,Z⟩ Z (fun w => run_build w 37 _ _ (by kernel_rfl)) ?_
   refine R.storeAll (G1 := []) Z Z Z Z Z Tryz.sizeOf37 Z Z Z Z ?_
   refine GOps.nil ?_
   first | (rw [placeF_var hc1]; exact GW.ret (Out.of (resCellA rfl rfl Tryz.underlying37 rfl Tryz.sizeOf37 (Rds.own (C := (PlC ⟨idxB vars s.v, 0⟩).toArray) memH 0 (PlC ⟨idxB vars s.v, 0⟩) (fun j v hv => by simpa using hv)) rfl) (Hs.tl2 _ _) ⟨HD, ⟨rfl, hD⟩, rfl⟩)) | (rw [placeF_t0 hc1 (by assumption)]; exact GW.ret (Out.of (resCellA rfl rfl Tryz.underlying37 rfl Tryz.sizeOf37 (Rds.own (C := (PlC ⟨-1, (internF lim ts s.t).1⟩).toArray) memH 0 (PlC ⟨-1, (internF lim ts s.t).1⟩) (fun j v hv => by simpa using hv)) rfl) (Hs.tl2 _ _) ⟨HD2, ⟨rfl, hD2⟩, rfl⟩)) | (rw [placeF_t1 hc1 (by assumption)]; exact GW.ret (Out.of (resCellA rfl rfl Tryz.underlying37 rfl Tryz.sizeOf37 (Rds.own (C := (PlC ⟨-1, (internF lim ts s.t).1⟩).toArray) memH 0 (PlC ⟨-1, (internF lim ts s.t).1⟩) (fun j v hv => by simpa using hv)) rfl) (Hs.tl2 _ _) ⟨HD2, ⟨rfl, hD2⟩, rfl⟩))
end Go.Proofs.YtfddkcmooommeaaGreatDoor.Gl
end
section
namespace Go.Proofs.YtfddkcmooommeaaGreatDoor.Gl
open Go.RowKit Go.Shelf
set_option linter.unusedVariables false
set_option linter.unnecessarySimpa false
set_option linter.unusedSimpArgs false
attribute [-simp] List.getD_eq_getElem?_getD
def stepSl (l : Lt) : List Sl := if l.kind = 1 ∨ l.kind = 2 then sl3 l.pat else [l.a, l.b]
theorem stepF_1 {lim : Nat} {vars : List ByteArray} {q : List Tm × Int} {l : Lt} (h : l.kind = 1) : stepF lim vars q l = (⟨1, (rowF lim vars q l.pat).1, zPl, zPl⟩, (rowF lim vars q l.pat).2) := by unfold stepF; rw [if_pos h]
theorem stepF_2 {lim : Nat} {vars : List ByteArray} {q : List Tm × Int} {l : Lt} (h1 : ¬ l.kind = 1) (h : l.kind = 2) : stepF lim vars q l = (⟨2, (rowF lim vars q l.pat).1, zPl, zPl⟩, (rowF lim vars q l.pat).2) := by unfold stepF; rw [if_neg h1, if_pos h]
theorem stepF_3 {lim : Nat} {vars : List ByteArray} {q : List Tm × Int} {l : Lt} (h1 : ¬ l.kind = 1) (h2 : ¬ l.kind = 2) (h : l.kind = 3) : stepF lim vars q l = (⟨3, zRw, (placeF lim vars q l.a).1, (placeF lim vars (placeF lim vars q l.a).2 l.b).1⟩, (placeF lim vars (placeF lim vars q l.a).2 l.b).2) := by unfold stepF; rw [if_neg h1, if_neg h2, if_pos h]
theorem stepF_4 {lim : Nat} {vars : List ByteArray} {q : List Tm × Int} {l : Lt} (h1 : ¬ l.kind = 1) (h2 : ¬ l.kind = 2) (h : ¬ l.kind = 3) : stepF lim vars q l = (⟨4, zRw, (placeF lim vars q l.a).1, (placeF lim vars (placeF lim vars q l.a).2 l.b).1⟩, (placeF lim vars (placeF lim vars q l.a).2 l.b).2) := by unfold stepF; rw [if_neg h1, if_neg h2, if_neg h]
theorem Hs.padTl {b4 : Nat} {C D : Array Value} (h : C = D) (x : Nat × Know) (R : Hp) : Hs ([x] ++ (b4, .exact (.cells C 38 (0, 0))) :: R) ((b4, .exact (.cells D 38 (0, 0))) :: R) := h ▸ Hs.tl x
theorem Hs.gj2 (x y m : Nat × Know) (H G : Hp) : Hs (x :: y :: m :: (H ++ G)) (y :: G) := Hs.sub ((((List.sublist_append_right H G).cons m).cons_cons y).cons x)
theorem plan_row (w0 : World) (G : Hp) (HD : Hp) (ts : List Tm) (lim bD bM c : Nat) (A : Option Addr) (vars : List ByteArray) (bad : Int) (hD : Dic ts lim bD HD) (hv : StAt w0 G A vars) (hm : vars.length ≤ 100000000) (p : Pt) (hp : ∀ s ∈ sl3 p, emp s.v = true → mayT s.t = true) : GC Tryz.prog w0 32 #[.pointer (some ⟨bM, 0, none⟩), .agg (PtC p).toArray] (fun v G' => ∃ HD', (v = .agg (RwC (rowF lim vars (ts, bad) p).1).toArray ∧ Dic (rowF lim vars (ts, bad) p).2.1 lim bD HD') ∧ (bM, mkC bD A vars.length c (rowF lim vars (ts, bad) p).2.2) :: (HD' ++ G) = G') ((bM, mkC bD A vars.length c bad) :: (HD ++ G)) := by
 refine GC.body (args := [.pointer (some ⟨bM, 0, none⟩), .agg (PtC p).toArray]) Tryz.func32 rfl (by kernel_rfl) rfl ?_
 refine GW.seq ?_
 refine GW.region ?_
 refine R.box ⟨Z,Z,Z,Z⟩ Z fun b3 => ?_
 refine R.alloc ⟨Z,Z,Z,Z⟩ Tryz.zeroValue38 fun b4 => ?_
 refine GOps.nil ?_
 refine GW.seq ?_
 refine GW.seq ?_
 refine GW.region ?_
 refine R.load_own (cs := PtC p) ⟨Z,Z,Z,Z⟩ Z Tryz.underlying28 Z Tryz.sizeOf28 memG (by rfl) (by rfl) ?_
 refine R.move ⟨Z,Z,Z,Z⟩ Z ?_
 refine GOps.nil ?_
 refine GW.block ?_
 refine GW.loop4 (fun (k : Nat) (a : List Pl × (List Tm × Int)) (HD2 : Hp) (u1 : Unit) => [(0, .pointer (some ⟨bM, 0, none⟩)), (4, .pointer (some ⟨b4, 0, none⟩)), (7, .agg (PtC p).toArray), (8, .int .i64 k)]) (fun (k : Nat) (a : List Pl × (List Tm × Int)) (HD2 : Hp) (u1 : Unit) => (b4, .exact (.cells (padC a.1) 38 (0, 0))) :: (b3, .exact (.cells (Value.agg (PtC p).toArray).cells 28 (0, 0))) :: (bM, mkC bD A vars.length c a.2.2) :: (HD2 ++ G)) (fun k : Nat => 3 - k) (fun (k : Nat) (a : List Pl × (List Tm × Int)) (HD2 : Hp) (u1 : Unit) => k ≤ 3 ∧ a = rowTo lim vars (ts, bad) p k ∧ a.1.length = k ∧ Dic a.2.1 lim bD HD2) 0 (([], (ts, bad))) (HD) (())
  (keepG) (Hs.refl _) (⟨by omega, rfl, rfl, hD⟩) ?_
 rintro k a HD2 u1 ⟨hk, ha, hal, hD2⟩
 refine GW.seq ?_
 refine GW.region ?_
 refine R.lss ⟨Z,Z,Z,Z⟩ Z Z ?_
 refine GOps.nil ?_
 refine GW.seq ?_
 refine GW.ite Z (fun hc1 => ?_) (fun hc1 => ?_)
 ·try simp only [dcQ] at hc1
  obtain ⟨s, hs, hsm, hse⟩ := pt_index (p := p) (k := k) (by omega)
  refine GW.skip ?_
  refine GW.seq ?_
  refine GW.block ?_
  refine GW.seq ?_
  refine GW.region ?_
  refine R.move ⟨Z,Z,Z,Z⟩ Z ?_
  refine R.indexArr (es := (SlC s).toArray) ⟨Z,Z,Z,Z⟩ Z Z Tryz.underlying28 Tryz.underlying26 Z Tryz.sizeOf26 (by omega) (by omega) (hse) ?_
  refine R.alloc ⟨Z,Z,Z,Z⟩ Tryz.zeroValue26 fun b6 => ?_
  refine R.assign ⟨Z,Z,Z,Z⟩ Z ?_
  refine R.storeAll (G1 := []) Z Z Z Z Z Tryz.sizeOf26 Z Z Z Z ?_
  refine GOps.nil ?_
  refine GW.region ?_
  refine R.move ⟨Z,Z,Z,Z⟩ Z ?_
  refine R.move ⟨Z,Z,Z,Z⟩ Z ?_
  refine R.load_own (cs := SlC s) ⟨Z,Z,Z,Z⟩ Z Tryz.underlying26 Z Tryz.sizeOf26 memG (by rfl) (by rfl) ?_
  refine GOps.weak (Keeps.refl _) (Hs.toM3 _ _ _ _ _ _) ?_
  refine R.call ⟨Z,Z,Z,Z⟩ Z (vs := [_, _]) Z ((plan_place _ _ HD2 a.2.1 lim bD bM c A vars a.2.2 hD2 (hv.mono (fun y hy => by repeat (first | exact hy | apply List.mem_cons_of_mem | apply List.mem_append_right))) hm s (hp s hsm)).mono ?_)
  rintro _ _ ⟨HD3, ⟨rfl, hD3⟩, rfl⟩
  refine GOps.weak (Keeps.refl _) (Hs.fromM3 _ _ _ _ _ _) ?_
  refine R.indexAddrA ⟨Z,Z,Z,Z⟩ Z Z Tryz.underlying38 Tryz.sizeOf37 (by omega) (by omega) ?_
  refine R.store (G1 := [_]) Z Z Z Z Z Tryz.sizeOf37 Z Z (Z) (by rw [pad_size]; omega) ?_
  refine GOps.nil ?_
  refine GW.region ?_
  refine R.add (r := (((k + 1) : Nat) : Int)) ⟨Z,Z,Z,Z⟩ Z Z (by rw [wrap64_id (by omega) (by omega)]; omega) ?_
  refine R.move ⟨Z,Z,Z,Z⟩ Z ?_
  refine GOps.nil ?_
  exact ⟨k + 1, rowStep lim vars a s, HD3, (), by omega, ⟨by omega, by rw [rowTo_succ hs, ← ha], by show (a.1 ++ [_]).length = k + 1; rw [List.length_append, hal]; rfl, hD3⟩, rfl, keepG, by first | exact Hs.refl _ | exact Hs.tl _ | exact Hs.tl2 _ _ | exact Hs.padTl (pad_put _ hal (by omega)) _ _⟩
 ·try simp only [dcQ] at hc1
  obtain rfl : k = 3 := by omega
  rw [rowTo_3] at ha
  subst ha
  refine GW.exit ?_
  refine GW.seq ?_
  refine GW.region ?_
  refine R.load_own (cs := RwC (rowF lim vars (ts, bad) p).1) ⟨Z,Z,Z,Z⟩ Z Tryz.underlying38 Z Tryz.sizeOf38 memG (by rfl) (by rfl) ?_
  refine R.storeAll (G1 := []) Z Z Z Z Z Tryz.sizeOf38 Z Z Z Z ?_
  refine GOps.nil ?_
  exact GW.ret (Out.of (resCellA rfl rfl Tryz.underlying38 rfl Tryz.sizeOf38 (Rds.own (C := (RwC (rowF lim vars (ts, bad) p).1).toArray) memH 0 (RwC (rowF lim vars (ts, bad) p).1) (fun j v hv => by simpa using hv)) rfl) (Hs.tl2 _ _) ⟨HD2, ⟨rfl, hD2⟩, rfl⟩)
theorem plan_step (w0 : World) (G : Hp) (HD : Hp) (ts : List Tm) (lim bD bM c : Nat) (A : Option Addr) (vars : List ByteArray) (bad : Int) (hD : Dic ts lim bD HD) (hv : StAt w0 G A vars) (hm : vars.length ≤ 100000000) (l : Lt) (hp : ∀ s ∈ stepSl l, emp s.v = true → mayT s.t = true) : GC Tryz.prog w0 56 #[.pointer (some ⟨bM, 0, none⟩), .agg (LtC l).toArray] (fun v G' => ∃ HD', (v = .agg (StC (stepF lim vars (ts, bad) l).1).toArray ∧ Dic (stepF lim vars (ts, bad) l).2.1 lim bD HD') ∧ (bM, mkC bD A vars.length c (stepF lim vars (ts, bad) l).2.2) :: (HD' ++ G) = G') ((bM, mkC bD A vars.length c bad) :: (HD ++ G)) := by
 refine GC.body (args := [.pointer (some ⟨bM, 0, none⟩), .agg (LtC l).toArray]) Tryz.func56 rfl (by kernel_rfl) rfl ?_
 refine GW.seq ?_
 refine GW.region ?_
 refine R.box ⟨Z,Z,Z,Z⟩ Z fun b3 => ?_
 refine R.alloc ⟨Z,Z,Z,Z⟩ Tryz.zeroValue50 fun b4 => ?_
 refine GOps.nil ?_
 refine GW.seq ?_
 refine GW.seq ?_
 refine GW.region ?_
 refine R.fieldAddr ⟨Z,Z,Z,Z⟩ Z Tryz.underlying89 Z Tryz.sizeOf87 ?_
 refine R.load1 ⟨Z,Z,Z,Z⟩ Z Tryz.underlying87 Z (.own' memG (by rfl)) ?_
 refine GOps.nil ?_
 refine GW.block ?_
 refine GW.seq ?_
 refine GW.region ?_
 refine R.eqI ⟨Z,Z,Z,Z⟩ Z Z ?_
 refine R.assign ⟨Z,Z,Z,Z⟩ Z ?_
 refine GOps.nil ?_
 refine GW.ite Z (fun hc1 => ?_) (fun hc1 => ?_)
 ·try simp only [dcQ] at hc1
  refine GW.seq ?_
  refine GW.region ?_
  refine R.move ⟨Z,Z,Z,Z⟩ Z ?_
  refine R.fieldAddr ⟨Z,Z,Z,Z⟩ Z Tryz.underlying89 Z Tryz.sizeOf28 ?_
  refine R.load_own (cs := PtC l.pat) ⟨Z,Z,Z,Z⟩ Z Tryz.underlying28 Z Tryz.sizeOf28 memG (by rfl) (by rfl) ?_
  refine GOps.weak (Keeps.refl _) (Hs.toM2 _ _ _ _ _) ?_
  refine R.call ⟨Z,Z,Z,Z⟩ Z (vs := [_, _]) Z ((plan_row _ _ HD ts lim bD bM c A vars bad hD (hv.mono (fun y hy => by repeat (first | exact hy | apply List.mem_cons_of_mem | apply List.mem_append_right))) hm l.pat (fun s hs => hp s (by unfold stepSl; rw [if_pos (by omega)]; exact hs))).mono ?_)
  rintro _ _ ⟨HD2, ⟨rfl, hD2⟩, rfl⟩
  refine GOps.weak (Keeps.refl _) (Hs.fromM2 _ _ _ _ _) ?_
  refine R.build (vs := [(0, _), (1, _)]) (cells := (StC ⟨1, (rowF lim vars (ts, bad) l.pat).1, zPl, zPl⟩).toArray) ⟨Z,Z,Z,Z⟩ Z (fun w => run_build w 50 _ _ (by kernel_rfl)) ?_
  refine R.storeAll (G1 := []) Z Z Z Z Z Tryz.sizeOf50 Z Z Z Z ?_
  refine GOps.nil ?_
  first | (rw [stepF_1 (by assumption)]; exact GW.ret (Out.of (resCellA rfl rfl Tryz.underlying50 rfl Tryz.sizeOf50 (Rds.own (C := (StC ⟨1, (rowF lim vars (ts, bad) l.pat).1, zPl, zPl⟩).toArray) memH 0 (StC ⟨1, (rowF lim vars (ts, bad) l.pat).1, zPl, zPl⟩) (fun j v hv => by simpa using hv)) rfl) (Hs.tl2 _ _) ⟨HD2, ⟨rfl, hD2⟩, rfl⟩)) | (rw [stepF_2 (by assumption) (by assumption)]; exact GW.ret (Out.of (resCellA rfl rfl Tryz.underlying50 rfl Tryz.sizeOf50 (Rds.own (C := (StC ⟨2, (rowF lim vars (ts, bad) l.pat).1, zPl, zPl⟩).toArray) memH 0 (StC ⟨2, (rowF lim vars (ts, bad) l.pat).1, zPl, zPl⟩) (fun j v hv => by simpa using hv)) rfl) (Hs.tl2 _ _) ⟨HD2, ⟨rfl, hD2⟩, rfl⟩)) | (rw [stepF_3 (by assumption) (by assumption) (by assumption)]; exact GW.ret (Out.of (resCellA rfl rfl Tryz.underlying50 rfl Tryz.sizeOf50 (Rds.own (C := (StC ⟨3, zRw, (placeF lim vars (ts, bad) l.a).1, (placeF lim vars (placeF lim vars (ts, bad) l.a).2 l.b).1⟩).toArray) memH 0 (StC ⟨3, zRw, (placeF lim vars (ts, bad) l.a).1, (placeF lim vars (placeF lim vars (ts, bad) l.a).2 l.b).1⟩) (fun j v hv => by simpa using hv)) rfl) (Hs.tl2 _ _) ⟨HD3, ⟨rfl, hD3⟩, rfl⟩)) | (rw [stepF_4 (by assumption) (by assumption) (by assumption)]; exact GW.ret (Out.of (resCellA rfl rfl Tryz.underlying50 rfl Tryz.sizeOf50 (Rds.own (C := (StC ⟨4, zRw, (placeF lim vars (ts, bad) l.a).1, (placeF lim vars (placeF lim vars (ts, bad) l.a).2 l.b).1⟩).toArray) memH 0 (StC ⟨4, zRw, (placeF lim vars (ts, bad) l.a).1, (placeF lim vars (placeF lim vars (ts, bad) l.a).2 l.b).1⟩) (fun j v hv => by simpa using hv)) rfl) (Hs.tl2 _ _) ⟨HD3, ⟨rfl, hD3⟩, rfl⟩))
 ·try simp only [dcQ] at hc1
  refine GW.seq ?_
  refine GW.region ?_
  refine R.eqI ⟨Z,Z,Z,Z⟩ Z Z ?_
  refine R.assign ⟨Z,Z,Z,Z⟩ Z ?_
  refine GOps.nil ?_
  refine GW.ite Z (fun hc2 => ?_) (fun hc2 => ?_)
  ·try simp only [dcQ] at hc2
   refine GW.seq ?_
   refine GW.region ?_
   refine R.move ⟨Z,Z,Z,Z⟩ Z ?_
   refine R.fieldAddr ⟨Z,Z,Z,Z⟩ Z Tryz.underlying89 Z Tryz.sizeOf28 ?_
   refine R.load_own (cs := PtC l.pat) ⟨Z,Z,Z,Z⟩ Z Tryz.underlying28 Z Tryz.sizeOf28 memG (by rfl) (by rfl) ?_
   refine GOps.weak (Keeps.refl _) (Hs.toM2 _ _ _ _ _) ?_
   refine R.call ⟨Z,Z,Z,Z⟩ Z (vs := [_, _]) Z ((plan_row _ _ HD ts lim bD bM c A vars bad hD (hv.mono (fun y hy => by repeat (first | exact hy | apply List.mem_cons_of_mem | apply List.mem_append_right))) hm l.pat (fun s hs => hp s (by unfold stepSl; rw [if_pos (by omega)]; exact hs))).mono ?_)
   rintro _ _ ⟨HD2, ⟨rfl, hD2⟩, rfl⟩
   refine GOps.weak (Keeps.refl _) (Hs.fromM2 _ _ _ _ _) ?_
   refine R.build (vs := [(0, _), (1, _)]) (cells := (StC ⟨2, (rowF lim vars (ts, bad) l.pat).1, zPl, zPl⟩).toArray) ⟨Z,Z,Z,Z⟩ Z (fun w => run_build w 50 _ _ (by kernel_rfl)) ?_
   refine R.storeAll (G1 := []) Z Z Z Z Z Tryz.sizeOf50 Z Z Z Z ?_
   refine GOps.nil ?_
   first | (rw [stepF_1 (by assumption)]; exact GW.ret (Out.of (resCellA rfl rfl Tryz.underlying50 rfl Tryz.sizeOf50 (Rds.own (C := (StC ⟨1, (rowF lim vars (ts, bad) l.pat).1, zPl, zPl⟩).toArray) memH 0 (StC ⟨1, (rowF lim vars (ts, bad) l.pat).1, zPl, zPl⟩) (fun j v hv => by simpa using hv)) rfl) (Hs.tl2 _ _) ⟨HD2, ⟨rfl, hD2⟩, rfl⟩)) | (rw [stepF_2 (by assumption) (by assumption)]; exact GW.ret (Out.of (resCellA rfl rfl Tryz.underlying50 rfl Tryz.sizeOf50 (Rds.own (C := (StC ⟨2, (rowF lim vars (ts, bad) l.pat).1, zPl, zPl⟩).toArray) memH 0 (StC ⟨2, (rowF lim vars (ts, bad) l.pat).1, zPl, zPl⟩) (fun j v hv => by simpa using hv)) rfl) (Hs.tl2 _ _) ⟨HD2, ⟨rfl, hD2⟩, rfl⟩)) | (rw [stepF_3 (by assumption) (by assumption) (by assumption)]; exact GW.ret (Out.of (resCellA rfl rfl Tryz.underlying50 rfl Tryz.sizeOf50 (Rds.own (C := (StC ⟨3, zRw, (placeF lim vars (ts, bad) l.a).1, (placeF lim vars (placeF lim vars (ts, bad) l.a).2 l.b).1⟩).toArray) memH 0 (StC ⟨3, zRw, (placeF lim vars (ts, bad) l.a).1, (placeF lim vars (placeF lim vars (ts, bad) l.a).2 l.b).1⟩) (fun j v hv => by simpa using hv)) rfl) (Hs.tl2 _ _) ⟨HD3, ⟨rfl, hD3⟩, rfl⟩)) | (rw [stepF_4 (by assumption) (by assumption) (by assumption)]; exact GW.ret (Out.of (resCellA rfl rfl Tryz.underlying50 rfl Tryz.sizeOf50 (Rds.own (C := (StC ⟨4, zRw, (placeF lim vars (ts, bad) l.a).1, (placeF lim vars (placeF lim vars (ts, bad) l.a).2 l.b).1⟩).toArray) memH 0 (StC ⟨4, zRw, (placeF lim vars (ts, bad) l.a).1, (placeF lim vars (placeF lim vars (ts, bad) l.a).2 l.b).1⟩) (fun j v hv => by simpa using hv)) rfl) (Hs.tl2 _ _) ⟨HD3, ⟨rfl, hD3⟩, rfl⟩))
  ·try simp only [dcQ] at hc2
   refine GW.seq ?_
   refine GW.region ?_
   refine R.eqI ⟨Z,Z,Z,Z⟩ Z Z ?_
   refine R.assign ⟨Z,Z,Z,Z⟩ Z ?_
   refine GOps.nil ?_
   refine GW.ite Z (fun hc3 => ?_) (fun hc3 => ?_)
   ·try simp only [dcQ] at hc3
    refine GW.seq ?_
    refine GW.draw ((b3, .exact (.cells (Value.agg (LtC l).toArray).cells 89 (0, 0))) :: G) 10 Z (by kernel_rfl) ?_
    refine GA.w 0 Z (V.move ⟨Z,Z,Z,Z⟩ Z) Z ?_
    refine GA.w 1 Z (V.fieldAddr ⟨Z,Z,Z,Z⟩ Z Tryz.underlying89 Z Tryz.sizeOf26) Z ?_
    refine GA.val 2 Z (V.load_own (cs := SlC l.a) ⟨Z,Z,Z,Z⟩ Z Tryz.underlying26 Z Tryz.sizeOf26 memG (by rfl) (by rfl)) Z (by kernel_rfl) (by kernel_rfl) (by kernel_rfl) ?_
    refine GA.w 4 Z (V.move ⟨Z,Z,Z,Z⟩ Z) Z ?_
    refine GA.w 5 Z (V.fieldAddr ⟨Z,Z,Z,Z⟩ Z Tryz.underlying89 Z Tryz.sizeOf26) Z ?_
    refine GA.val 6 Z (V.load_own (cs := SlC l.b) ⟨Z,Z,Z,Z⟩ Z Tryz.underlying26 Z Tryz.sizeOf26 memG (by rfl) (by rfl)) Z (by kernel_rfl) (by kernel_rfl) (by kernel_rfl) ?_
    refine GA.one 3 (by first | exact Hs.gj2 _ _ _ _ _ | exact Hs.refl _ | exact Hs.tl _ | exact Hs.tl2 _ _ | exact Hs.tl3 _ _ _ | exact Hs.app _ | exact Hs.sub (by simp)) (by kernel_rfl) Z ?_
    refine GOps.weak (Keeps.refl _) (Hs.toM2 _ _ _ _ _) ?_
    refine R.call ⟨Z,Z,Z,Z⟩ Z (vs := [_, _]) Z ((plan_place _ _ HD ts lim bD bM c A vars bad hD (hv.mono (fun y hy => by repeat (first | exact hy | apply List.mem_cons_of_mem | apply List.mem_append_right))) hm l.a (hp l.a (by unfold stepSl; rw [if_neg (by omega)]; simp))).mono ?_)
    rintro _ _ ⟨HD2, ⟨rfl, hD2⟩, rfl⟩
    refine GOps.weak (Keeps.refl _) (Hs.fromM2 _ _ _ _ _) ?_
    refine GOps.nil ?_
    refine GA.one 7 (by first | exact Hs.gj2 _ _ _ _ _ | exact Hs.refl _ | exact Hs.tl _ | exact Hs.tl2 _ _ | exact Hs.tl3 _ _ _ | exact Hs.app _ | exact Hs.sub (by simp)) (by kernel_rfl) Z ?_
    refine GOps.weak (Keeps.refl _) (Hs.toM2 _ _ _ _ _) ?_
    refine R.call ⟨Z,Z,Z,Z⟩ Z (vs := [_, _]) Z ((plan_place _ _ HD2 (placeF lim vars (ts, bad) l.a).2.1 lim bD bM c A vars (placeF lim vars (ts, bad) l.a).2.2 hD2 (hv.mono (fun y hy => by repeat (first | exact hy | apply List.mem_cons_of_mem | apply List.mem_append_right))) hm l.b (hp l.b (by unfold stepSl; rw [if_neg (by omega)]; simp))).mono ?_)
    rintro _ _ ⟨HD3, ⟨rfl, hD3⟩, rfl⟩
    refine GOps.weak (Keeps.refl _) (Hs.fromM2 _ _ _ _ _) ?_
    refine GOps.nil ?_
    refine GA.val 8 Z (V.build (vs := [(0, _), (2, _), (3, _)]) (cells := (StC ⟨3, zRw, (placeF lim vars (ts, bad) l.a).1, (placeF lim vars (placeF lim vars (ts, bad) l.a).2 l.b).1⟩).toArray) ⟨Z,Z,Z,Z⟩ Z (fun w => run_build w 50 _ _ (by kernel_rfl))) Z (by kernel_rfl) (by kernel_rfl) (by kernel_rfl) ?_
    refine GA.one 9 (by first | exact Hs.gj2 _ _ _ _ _ | exact Hs.refl _ | exact Hs.tl _ | exact Hs.tl2 _ _ | exact Hs.tl3 _ _ _ | exact Hs.app _ | exact Hs.sub (by simp)) (by kernel_rfl) Z ?_
    refine R.storeAll (G1 := []) Z Z Z Z Z Tryz.sizeOf50 Z Z Z Z ?_
    refine GOps.nil ?_
    refine GA.done (by first | exact Hs.gj2 _ _ _ _ _ | exact Hs.refl _ | exact Hs.tl _ | exact Hs.tl2 _ _ | exact Hs.tl3 _ _ _ | exact Hs.app _ | exact Hs.sub (by simp)) (by kernel_rfl) ?_
    first | (rw [stepF_1 (by assumption)]; exact GW.ret (Out.of (resCellA rfl rfl Tryz.underlying50 rfl Tryz.sizeOf50 (Rds.own (C := (StC ⟨1, (rowF lim vars (ts, bad) l.pat).1, zPl, zPl⟩).toArray) memH 0 (StC ⟨1, (rowF lim vars (ts, bad) l.pat).1, zPl, zPl⟩) (fun j v hv => by simpa using hv)) rfl) (Hs.tl2 _ _) ⟨HD2, ⟨rfl, hD2⟩, rfl⟩)) | (rw [stepF_2 (by assumption) (by assumption)]; exact GW.ret (Out.of (resCellA rfl rfl Tryz.underlying50 rfl Tryz.sizeOf50 (Rds.own (C := (StC ⟨2, (rowF lim vars (ts, bad) l.pat).1, zPl, zPl⟩).toArray) memH 0 (StC ⟨2, (rowF lim vars (ts, bad) l.pat).1, zPl, zPl⟩) (fun j v hv => by simpa using hv)) rfl) (Hs.tl2 _ _) ⟨HD2, ⟨rfl, hD2⟩, rfl⟩)) | (rw [stepF_3 (by assumption) (by assumption) (by assumption)]; exact GW.ret (Out.of (resCellA rfl rfl Tryz.underlying50 rfl Tryz.sizeOf50 (Rds.own (C := (StC ⟨3, zRw, (placeF lim vars (ts, bad) l.a).1, (placeF lim vars (placeF lim vars (ts, bad) l.a).2 l.b).1⟩).toArray) memH 0 (StC ⟨3, zRw, (placeF lim vars (ts, bad) l.a).1, (placeF lim vars (placeF lim vars (ts, bad) l.a).2 l.b).1⟩) (fun j v hv => by simpa using hv)) rfl) (Hs.tl2 _ _) ⟨HD3, ⟨rfl, hD3⟩, rfl⟩)) | (rw [stepF_4 (by assumption) (by assumption) (by assumption)]; exact GW.ret (Out.of (resCellA rfl rfl Tryz.underlying50 rfl Tryz.sizeOf50 (Rds.own (C := (StC ⟨4, zRw, (placeF lim vars (ts, bad) l.a).1, (placeF lim vars (placeF lim vars (ts, bad) l.a).2 l.b).1⟩).toArray) memH 0 (StC ⟨4, zRw, (placeF lim vars (ts, bad) l.a).1, (placeF lim vars (placeF lim vars (ts, bad) l.a).2 l.b).1⟩) (fun j v hv => by simpa using hv)) rfl) (Hs.tl2 _ _) ⟨HD3, ⟨rfl, hD3⟩, rfl⟩))
   ·try simp only [dcQ] at hc3
    refine GW.skip ?_
    refine GW.seq ?_
    refine GW.draw ((b3, .exact (.cells (Value.agg (LtC l).toArray).cells 89 (0, 0))) :: G) 10 Z (by kernel_rfl) ?_
    refine GA.w 0 Z (V.move ⟨Z,Z,Z,Z⟩ Z) Z ?_
    refine GA.w 1 Z (V.fieldAddr ⟨Z,Z,Z,Z⟩ Z Tryz.underlying89 Z Tryz.sizeOf26) Z ?_
    refine GA.val 2 Z (V.load_own (cs := SlC l.a) ⟨Z,Z,Z,Z⟩ Z Tryz.underlying26 Z Tryz.sizeOf26 memG (by rfl) (by rfl)) Z (by kernel_rfl) (by kernel_rfl) (by kernel_rfl) ?_
    refine GA.w 4 Z (V.move ⟨Z,Z,Z,Z⟩ Z) Z ?_
    refine GA.w 5 Z (V.fieldAddr ⟨Z,Z,Z,Z⟩ Z Tryz.underlying89 Z Tryz.sizeOf26) Z ?_
    refine GA.val 6 Z (V.load_own (cs := SlC l.b) ⟨Z,Z,Z,Z⟩ Z Tryz.underlying26 Z Tryz.sizeOf26 memG (by rfl) (by rfl)) Z (by kernel_rfl) (by kernel_rfl) (by kernel_rfl) ?_
    refine GA.one 3 (by first | exact Hs.gj2 _ _ _ _ _ | exact Hs.refl _ | exact Hs.tl _ | exact Hs.tl2 _ _ | exact Hs.tl3 _ _ _ | exact Hs.app _ | exact Hs.sub (by simp)) (by kernel_rfl) Z ?_
    refine GOps.weak (Keeps.refl _) (Hs.toM2 _ _ _ _ _) ?_
    refine R.call ⟨Z,Z,Z,Z⟩ Z (vs := [_, _]) Z ((plan_place _ _ HD ts lim bD bM c A vars bad hD (hv.mono (fun y hy => by repeat (first | exact hy | apply List.mem_cons_of_mem | apply List.mem_append_right))) hm l.a (hp l.a (by unfold stepSl; rw [if_neg (by omega)]; simp))).mono ?_)
    rintro _ _ ⟨HD2, ⟨rfl, hD2⟩, rfl⟩
    refine GOps.weak (Keeps.refl _) (Hs.fromM2 _ _ _ _ _) ?_
    refine GOps.nil ?_
    refine GA.one 7 (by first | exact Hs.gj2 _ _ _ _ _ | exact Hs.refl _ | exact Hs.tl _ | exact Hs.tl2 _ _ | exact Hs.tl3 _ _ _ | exact Hs.app _ | exact Hs.sub (by simp)) (by kernel_rfl) Z ?_
    refine GOps.weak (Keeps.refl _) (Hs.toM2 _ _ _ _ _) ?_
    refine R.call ⟨Z,Z,Z,Z⟩ Z (vs := [_, _]) Z ((plan_place _ _ HD2 (placeF lim vars (ts, bad) l.a).2.1 lim bD bM c A vars (placeF lim vars (ts, bad) l.a).2.2 hD2 (hv.mono (fun y hy => by repeat (first | exact hy | apply List.mem_cons_of_mem | apply List.mem_append_right))) hm l.b (hp l.b (by unfold stepSl; rw [if_neg (by omega)]; simp))).mono ?_)
    rintro _ _ ⟨HD3, ⟨rfl, hD3⟩, rfl⟩
    refine GOps.weak (Keeps.refl _) (Hs.fromM2 _ _ _ _ _) ?_
    refine GOps.nil ?_
    refine GA.val 8 Z (V.build (vs := [(0, _), (2, _), (3, _)]) (cells := (StC ⟨4, zRw, (placeF lim vars (ts, bad) l.a).1, (placeF lim vars (placeF lim vars (ts, bad) l.a).2 l.b).1⟩).toArray) ⟨Z,Z,Z,Z⟩ Z (fun w => run_build w 50 _ _ (by kernel_rfl))) Z (by kernel_rfl) (by kernel_rfl) (by kernel_rfl) ?_
    refine GA.one 9 (by first | exact Hs.gj2 _ _ _ _ _ | exact Hs.refl _ | exact Hs.tl _ | exact Hs.tl2 _ _ | exact Hs.tl3 _ _ _ | exact Hs.app _ | exact Hs.sub (by simp)) (by kernel_rfl) Z ?_
    refine R.storeAll (G1 := []) Z Z Z Z Z Tryz.sizeOf50 Z Z Z Z ?_
    refine GOps.nil ?_
    refine GA.done (by first | exact Hs.gj2 _ _ _ _ _ | exact Hs.refl _ | exact Hs.tl _ | exact Hs.tl2 _ _ | exact Hs.tl3 _ _ _ | exact Hs.app _ | exact Hs.sub (by simp)) (by kernel_rfl) ?_
    first | (rw [stepF_1 (by assumption)]; exact GW.ret (Out.of (resCellA rfl rfl Tryz.underlying50 rfl Tryz.sizeOf50 (Rds.own (C := (StC ⟨1, (rowF lim vars (ts, bad) l.pat).1, zPl, zPl⟩).toArray) memH 0 (StC ⟨1, (rowF lim vars (ts, bad) l.pat).1, zPl, zPl⟩) (fun j v hv => by simpa using hv)) rfl) (Hs.tl2 _ _) ⟨HD2, ⟨rfl, hD2⟩, rfl⟩)) | (rw [stepF_2 (by assumption) (by assumption)]; exact GW.ret (Out.of (resCellA rfl rfl Tryz.underlying50 rfl Tryz.sizeOf50 (Rds.own (C := (StC ⟨2, (rowF lim vars (ts, bad) l.pat).1, zPl, zPl⟩).toArray) memH 0 (StC ⟨2, (rowF lim vars (ts, bad) l.pat).1, zPl, zPl⟩) (fun j v hv => by simpa using hv)) rfl) (Hs.tl2 _ _) ⟨HD2, ⟨rfl, hD2⟩, rfl⟩)) | (rw [stepF_3 (by assumption) (by assumption) (by assumption)]; exact GW.ret (Out.of (resCellA rfl rfl Tryz.underlying50 rfl Tryz.sizeOf50 (Rds.own (C := (StC ⟨3, zRw, (placeF lim vars (ts, bad) l.a).1, (placeF lim vars (placeF lim vars (ts, bad) l.a).2 l.b).1⟩).toArray) memH 0 (StC ⟨3, zRw, (placeF lim vars (ts, bad) l.a).1, (placeF lim vars (placeF lim vars (ts, bad) l.a).2 l.b).1⟩) (fun j v hv => by simpa using hv)) rfl) (Hs.tl2 _ _) ⟨HD3, ⟨rfl, hD3⟩, rfl⟩)) | (rw [stepF_4 (by assumption) (by assumption) (by assumption)]; exact GW.ret (Out.of (resCellA rfl rfl Tryz.underlying50 rfl Tryz.sizeOf50 (Rds.own (C := (StC ⟨4, zRw, (placeF lim vars (ts, bad) l.a).1, (placeF lim vars (placeF lim vars (ts, bad) l.a).2 l.b).1⟩).toArray) memH 0 (StC ⟨4, zRw, (placeF lim vars (ts, bad) l.a).1, (placeF lim vars (placeF lim vars (ts, bad) l.a).2 l.b).1⟩) (fun j v hv => by simpa using hv)) rfl) (Hs.tl2 _ _) ⟨HD3, ⟨rfl, hD3⟩, rfl⟩))
end Go.Proofs.YtfddkcmooommeaaGreatDoor.Gl
end
section
namespace Go.Proofs.YtfddkcmooommeaaGreatDoor.Gl
open Go.RowKit Go.Shelf
set_option linter.unusedVariables false
set_option linter.unnecessarySimpa false
set_option linter.unusedSimpArgs false
def spliceL (cs : List Value) (f : Nat) (vs : List Value) : List Value := cs.take f ++ vs ++ cs.drop (f + vs.length)
theorem spliceL_get {cs vs : List Value} {f j : Nat} (h : f + vs.length ≤ cs.length) : (spliceL cs f vs)[j]? = if j < f then cs[j]? else if j < f + vs.length then vs[j - f]? else cs[j]? := by
 unfold spliceL
 split
 ·rename_i hj
  rw [List.append_assoc, List.getElem?_append_left (by rw [List.length_take]; omega), List.getElem?_take_of_lt hj]
 ·rename_i hj
  split
  ·rename_i hj2
   rw [List.append_assoc, List.getElem?_append_right (by rw [List.length_take]; omega), List.getElem?_append_left (by rw [List.length_take]; omega), List.length_take, Nat.min_eq_left (by omega)]
  ·rename_i hj2
   rw [List.getElem?_append_right (by rw [List.length_append, List.length_take]; omega), List.length_append, List.length_take, Nat.min_eq_left (by omega), List.getElem?_drop]
   congr 1
   omega
theorem splice_get {C : Array Value} {vs : List Value} {f j : Nat} (h : f + vs.length ≤ C.size) : (splice C f vs)[j]? = if j < f then C[j]? else if j < f + vs.length then vs[j - f]? else C[j]? := by
 have := spliceL_get (cs := C.toList) (vs := vs) (f := f) (j := j) (by simpa using h)
 unfold splice
 rw [List.getElem?_toArray]
 simpa [spliceL] using this
section
variable {X : Cx} {Q : Post} {fr : Fr} {ds : List Deferred} {G : Hp} {ops : Array Oper} {o : Oper} {rest : List Oper} {d : Nat}
theorem R.storeRow {t : TypeId} {x y : Operand} {b f n m : Nat} {v : Value} {G1 G2 : Hp} {cs : List Value} {e : TypeId} (ho : o.op = .store t x y) (hd : o.dst = none) (hon : wantedO ops fr o = some true)
  (hx : evO fr x = some (.pointer (some ⟨b, f, none⟩))) (hy : evO fr y = some v) (hz : ∀ w, (sizeOf t).run X.P w = .ok n w) (hn : v.cells.size = n) (h1 : v.cells.toList.all (·.oneCell') = true)
  (hG : G = G1 ++ (b, .row cs e m) :: G2) (hl : f + n ≤ cs.length) (K : GOps X ops Q rest fr ds (G1 ++ (b, .row (spliceL cs f v.cells.toList) e m) :: G2)) : GOps X ops Q (o :: rest) fr ds G := by
 subst hG
 have hvl : v.cells.toList.length = n := by simpa using hn
 exact GOps.unit hon hd (fun c => by rw [ho]; simp) (fun ρ w hρ hw => by
  have hb := (hw.own b _ (List.mem_append_right _ List.mem_cons_self)).2
  obtain ⟨C, hC, hsz, hh⟩ := hb
  have hcl : cs.length ≤ C.size := by
   rcases Nat.lt_or_ge C.size cs.length with h | h
   ·have := hh C.size cs[C.size] (List.getElem?_eq_getElem h)
    rw [Array.getElem?_eq_none (Nat.le_refl _)] at this
    cases this
   ·exact h
  have hst := run_storeVar_at (P := X.P) hz hn hC (show f + n ≤ C.size by omega) h1
  refine ⟨w.setRow b (splice C f v.cells.toList), by simp [execOp, ho, hρ _ _ hx, hρ _ _ hy, Instr.storeAt, run_sureAddr, hst], ?_⟩
  refine Sat.turn hw rfl rfl rfl (by simp [World.setRow]) (fun j hj => ?_) ?_
  ·simp only [World.setRow, Array.getElem?_modify]
   rw [if_neg (fun e => hj e.symm)]
  ·rw [setRow_heap w b C _ e (0, 0) hC]
   refine ⟨_, rfl, ?_, fun j u hu => ?_⟩
   ·rw [← hsz]
    simp only [splice, List.size_toArray, List.length_append, List.length_take, List.length_drop, Array.length_toList]
    rw [Array.length_toList] at hvl
    omega
   ·rw [spliceL_get (by rw [hvl]; exact hl)] at hu
    rw [splice_get (by rw [hvl]; omega)]
    split at hu
    ·rename_i hj; rw [if_pos hj]; exact hh j u hu
    ·rename_i hj
     rw [if_neg hj]
     split at hu
     ·rename_i hj2; rw [if_pos hj2]; exact hu
     ·rename_i hj2; rw [if_neg hj2]; exact hh j u hu) K
theorem GOps.valU {G' : Hp} {v : Value} (hw : wantedO ops fr o = some true) (hd : o.dst = none) (hnd : ∀ c, o.op ≠ .defer c)
  (hrun : ∀ (ρ : Operand → Value) w, (∀ x v, evO fr x = some v → ρ x = v) → Sat X.w0 G w → ∃ w', (execOp ρ o).run X.P w = .ok (.value v) w' ∧ Sat X.w0 G' w')
  (h : GOps X ops Q rest fr ds G') : GOps X ops Q (o :: rest) fr ds G := fun n a w hf hs => by
 simp only [wpListIn, wanted_of hf hw, if_true]
 obtain ⟨w', hr, hs'⟩ := hrun a.eval w (fun x v hx => hf.eval hx) hs
 refine ⟨fun _ _ => trivial, ?_⟩
 rw [Oper.semAt_eq _ _ _ hnd, hr, Oper.uponIn_value, hd]
 exact h n _ w' hf hs'
theorem R.clearRow {t e : TypeId} {x : Operand} {sz b f n c m : Nat} {A : Option Addr} {G1 G2 : Hp} {cs : List Value} {ats : Array TypeId} {z : Value} (ho : o.op = .call { callee := .builtin .clear, args := #[x], argTypes := ats }) (hats : ats = #[t]) (hd : o.dst = none) (hon : wantedO ops fr o = some true)
  (hx : evO fr x = some (.slice A n c)) (hu : X.P.underlying t = some (.slice e)) (hz : ∀ w, (zeroValue e).run X.P w = .ok z w) (hzc : z.cells.size = sz) (hz1 : z.cells.toList.all (·.oneCell') = true)
  (hG : G = G1 ++ (b, .row cs e m) :: G2) (hA : n = 0 ∨ (A = some ⟨b, f, none⟩ ∧ f + n * sz ≤ cs.length)) (hf : f ≤ cs.length) (K : GOps X ops Q rest fr ds (G1 ++ (b, .row (cs.take f) e m) :: G2)) : GOps X ops Q (o :: rest) fr ds G := by
 subst hG hats
 have keep : ∀ {w : World}, Sat X.w0 (G1 ++ (b, .row cs e m) :: G2) w → Sat X.w0 (G1 ++ (b, .row (cs.take f) e m) :: G2) w := fun hw => Sat.weakKnow hw (fun y hy => by
  obtain ⟨C, hC, hsz, hh⟩ := hy
  refine ⟨C, hC, hsz, fun j v hv => hh j v ?_⟩
  rw [List.getElem?_take] at hv
  split at hv
  ·exact hv
  ·cases hv)
 rcases Nat.eq_zero_or_pos n with h0 | h0
 ·subst h0
  refine GOps.valU (v := .tuple #[]) hon hd (fun c => by rw [ho]; simp) (fun ρ w hρ hw => ⟨w, ?_, keep hw⟩) K
  simp only [execOp, ho, resolve, invoke, builtin, List.map_toArray, List.map_cons, List.map_nil, hρ _ _ hx, Sem.run_bind, Sem.run_pure, Result.andThen_ok]
  cases A <;> simp [Builtin.clear_, run_underlying hu]
 ·rcases hA with rfl | ⟨rfl, hfit⟩
  ·omega
  ·refine GOps.valU (v := .tuple #[]) hon hd (fun c => by rw [ho]; simp) (fun ρ w hρ hw => ?_) K
   have hb := (hw.own b _ (List.mem_append_right _ List.mem_cons_self)).2
   obtain ⟨C, hC, hsz, hh⟩ := hb
   have hcl : cs.length ≤ C.size := by
    rcases Nat.lt_or_ge C.size cs.length with h | h
    ·have := hh C.size cs[C.size] (List.getElem?_eq_getElem h)
     rw [Array.getElem?_eq_none (Nat.le_refl _)] at this
     cases this
    ·exact h
   have hzl : (Builtin.zeroCells z.cells n).toList.length = n * sz := by rw [Array.length_toList, size_zeroCells, hzc]
   have hst := run_storeCells_at (P := X.P) b f e (Builtin.zeroCells z.cells n).toList 0 C w hC (by rw [hzl]; omega) (fun v hv => by
    have hm : v ∈ z.cells.toList := by
     simp only [Builtin.zeroCells, Array.toList_map, List.mem_map] at hv
     obtain ⟨i, hi, rfl⟩ := hv
     have hpos : 0 < z.cells.size := by
      rcases Nat.eq_zero_or_pos z.cells.size with h | h
      ·simp [h] at hi
      ·exact h
     rw [getElem!_pos z.cells _ (Nat.mod_lt _ hpos)]
     exact Array.mem_toList_iff.2 (Array.getElem_mem _)
    exact (List.all_eq_true.1 hz1) v hm)
   simp only [Nat.add_zero, hzl] at hst
   refine ⟨_, by
    simp only [execOp, ho, resolve, invoke, builtin, List.map_toArray, List.map_cons, List.map_nil, hρ _ _ hx, Sem.run_bind, Sem.run_pure, Result.andThen_ok]
    have : (Builtin.clear_ #[t] o.type #[.slice (some ⟨b, f, none⟩) n c]).run X.P w = .ok (.tuple #[]) (w.setRow b (C.toList.take f ++ (Builtin.zeroCells z.cells n).toList ++ C.toList.drop (f + n * sz)).toArray) := by
     obtain ⟨k, rfl⟩ : ∃ k, n = k + 1 := ⟨n - 1, by omega⟩
     simp [Builtin.clear_, run_underlying hu, hz, hst]
    rw [this]; rfl, ?_⟩
   refine Sat.turn hw rfl rfl rfl (by simp [World.setRow]) (fun j hj => ?_) ?_
   ·simp only [World.setRow, Array.getElem?_modify]
    rw [if_neg (fun e => hj e.symm)]
   ·rw [setRow_heap w b C _ e (0, 0) hC]
    refine ⟨_, rfl, ?_, fun j u hu2 => ?_⟩
    ·rw [← hsz]
     simp only [List.size_toArray, List.length_append, List.length_take, List.length_drop, Array.length_toList, hzl]
     rw [Array.length_toList] at hzl
     omega
    ·rw [List.getElem?_take] at hu2
     split at hu2
     ·rename_i hj
      rw [List.getElem?_toArray, List.append_assoc, List.getElem?_append_left (by rw [List.length_take, Array.length_toList]; omega), List.getElem?_take_of_lt hj, Array.getElem?_toList]
      exact hh j u hu2
     ·cases hu2
theorem R.appendNil {t e : TypeId} {x y : Operand} {ats : Array TypeId} {A : Option Addr} {n c : Nat} {sz bytes : Nat} (h : At X ops fr o (.call { callee := .builtin .append, args := #[x, y], argTypes := ats }) d) (hats : ats = #[t, t])
  (hx : evO fr x = some (.slice A n c)) (hy : evO fr y = some (.slice none 0 0)) (hu : X.P.underlying t = some (.slice e)) (hi : InfoE X.P e sz bytes) (hc : n ≤ c)
  (K : GOps X ops Q rest ((d, .slice A n c) :: fr) ds G) : GOps X ops Q (o :: rest) fr ds G := by
 obtain ⟨i, z, hi1, hz, hzs, hs1, hb1⟩ := hi.ex
 subst hats
 exact R.val h (by simp) (fun ρ w hρ hw => by
  simp only [execOp, h.op, resolve, invoke, builtin, List.map_toArray, List.map_cons, List.map_nil, hρ _ _ hx, hρ _ _ hy, Sem.run_bind, Sem.run_pure, Result.andThen_ok]
  have : (Builtin.append_ #[t, t] o.type #[.slice A n c, .slice none 0 0]).run X.P w = .ok (.slice A n c) w := by
   cases A <;> simp [Builtin.append_, run_underlying hu, sizeOf, typeInfo, hi1, Builtin.lenOf, Builtin.firstCells, hc, storeCells, loadCells]
  rw [this]; rfl) K
theorem R.sliceSL {t e : TypeId} {x y : Operand} {k : IntKind} {A : Option Addr} {n c z : Nat} {i : Int} (h : At X ops fr o (.slice t x (some y) none none) d) (hx : evO fr x = some (.slice A n c)) (hy : evO fr y = some (.int k i)) (hu : X.P.underlying t = some (.slice e)) (hz : ∀ w, (sizeOf e).run X.P w = .ok z w)
  (h0 : 0 ≤ i) (h1 : i ≤ n) (h2 : n ≤ c) (K : GOps X ops Q rest ((d, .slice (cutA A i.toNat z c) (n - i.toNat) (c - i.toNat)) :: fr) ds G) : GOps X ops Q (o :: rest) fr ds G :=
 R.val h (by simp) (fun ρ w hρ hw => by
  simp only [execOp, h.op, Option.map_some, Option.map_none, hρ _ _ hx, hρ _ _ hy, Instr.sliceAt, Sem.run_bind, run_und hu, Result.andThen_ok, Instr.slice, Instr.sliceBounds, Sem.run_pure, Go.run_sliceBound w k i n _ h0 h1, hz]
  rfl) K
end
end Go.Proofs.YtfddkcmooommeaaGreatDoor.Gl
end
section
namespace Go.Proofs.YtfddkcmooommeaaGreatDoor.Gl
open Go.RowKit Go.Shelf
set_option linter.unusedVariables false
set_option linter.unnecessarySimpa false
set_option linter.unusedSimpArgs false
attribute [-simp] List.getD_eq_getElem?_getD
def stsC (ss : List St) : List Value := ss.flatMap StC
theorem stC_len (s : St) : (StC s).length = 11 := rfl
theorem stsC_len (ss : List St) : (stsC ss).length = ss.length * 11 := by
 induction ss with
 | nil => rfl
 | cons s ss ih =>
  have : stsC (s :: ss) = StC s ++ stsC ss := rfl
  rw [this, List.length_append, ih, stC_len, List.length_cons]
  omega
theorem sts_get : ∀ (ss : List St) (i : Nat) (s : St), ss[i]? = some s → ∀ (j : Nat) v, (StC s)[j]? = some v → (stsC ss)[i * 11 + j]? = some v
 | [], i, s, h, _, _, _ => by simp at h
 | t :: ss, 0, s, h, j, v, hv => by
  simp at h
  subst h
  have hj := (List.getElem?_eq_some_iff.1 hv).1
  show (StC t ++ stsC ss)[0 * 11 + j]? = some v
  rw [Nat.zero_mul, Nat.zero_add, List.getElem?_append_left hj]
  exact hv
 | t :: ss, i + 1, s, h, j, v, hv => by
  have ih := sts_get ss i s (by simpa using h) j v hv
  show (StC t ++ stsC ss)[(i + 1) * 11 + j]? = some v
  rw [List.getElem?_append_right (by rw [stC_len]; omega), stC_len, show (i + 1) * 11 + j - 11 = i * 11 + j by omega]
  exact ih
theorem sts_app (a b : List St) : stsC (a ++ b) = stsC a ++ stsC b := List.flatMap_append
theorem sts_one (s : St) : stsC [s] = StC s := by simp [stsC]
theorem sts_take : ∀ (ss : List St) (i : Nat), (stsC ss).take (i * 11) = stsC (ss.take i)
 | [], i => by simp [stsC]
 | s :: ss, 0 => by simp [stsC]
 | s :: ss, i + 1 => by
  show (StC s ++ stsC ss).take ((i + 1) * 11) = StC s ++ stsC (ss.take i)
  rw [List.take_append, stC_len, show (i + 1) * 11 - 11 = i * 11 by omega, sts_take ss i, List.take_of_length_le (by rw [stC_len]; omega)]
theorem sts_drop : ∀ (ss : List St) (i : Nat), (stsC ss).drop (i * 11) = stsC (ss.drop i)
 | [], i => by simp [stsC]
 | s :: ss, 0 => by simp [stsC]
 | s :: ss, i + 1 => by
  show (StC s ++ stsC ss).drop ((i + 1) * 11) = stsC (ss.drop i)
  rw [List.drop_append, stC_len, show (i + 1) * 11 - 11 = i * 11 by omega, sts_drop ss i, List.drop_eq_nil_of_le (by rw [stC_len]; omega)]
  rfl
theorem sts_put {ss : List St} {i : Nat} (x : St) (h : i < ss.length) : spliceL (stsC ss) (0 + (i : Int).toNat * 11) (Value.agg (StC x).toArray).cells.toList = stsC (ss.set i x) := by
 rw [show 0 + (i : Int).toNat * 11 = i * 11 by simp]
 unfold spliceL
 have e : (Value.agg (StC x).toArray).cells.toList = StC x := rfl
 rw [e, stC_len, sts_take, show i * 11 + 11 = (i + 1) * 11 by omega, sts_drop, List.set_eq_take_append_cons_drop, if_pos h, sts_app]
 show stsC (ss.take i) ++ StC x ++ stsC (ss.drop (i + 1)) = stsC (ss.take i) ++ (StC x ++ stsC (ss.drop (i + 1)))
 rw [List.append_assoc]
def StsAt (w0 : World) (G : Hp) (A : Option Addr) (ss : List St) : Prop := RowAt w0 G 11 (fun s cs => cs = StC s) A ss
theorem st_load {w0 : World} {G : Hp} {b m i : Nat} {ss : List St} {x : St} (hm : (b, Know.row (stsC ss) 50 m) ∈ G) (hx : ss[i]? = some x) : Rds w0 G b (0 + i * 11) (StC x) := fun j v hv => .own hm (by show (stsC ss)[0 + i * 11 + j]? = _; rw [Nat.zero_add]; exact sts_get ss i x hx j v hv)
theorem sts_at {w0 : World} {G : Hp} {b m : Nat} {ss : List St} (hm : (b, Know.row (stsC ss) 50 m) ∈ G) : StsAt w0 G (some ⟨b, 0, none⟩) ss := fun i x hx => ⟨b, 0, _, rfl, rfl, st_load hm hx⟩
theorem del_start {p : St → Bool} {ss : List St} {i : Nat} {x : St} (hx : ss[i]? = some x) (h0 : (ss.take i).any p = false) (hp : p x = true) : ss.take i = (ss.take (i + 1)).filter (fun x => !p x) := by
 rw [List.take_add_one, hx, List.filter_append]
 rw [List.any_eq_false] at h0
 have h1 : (ss.take i).filter (fun x => !p x) = ss.take i := List.filter_eq_self.2 (fun a ha => by have := h0 a ha; simpa using this)
 simp [h1, hp]
theorem del_yes {p : St → Bool} {ss cur : List St} {i j : Nat} {x : St} (hx : ss[j]? = some x) (hp : p x = false) (hij : i < j) (hl : cur.length = ss.length) (h1 : cur.take i = (ss.take j).filter (fun x => !p x)) : (cur.set i x).take (i + 1) = (ss.take (j + 1)).filter (fun x => !p x) := by
 have hj := (List.getElem?_eq_some_iff.1 hx).1
 rw [List.take_add_one (l := ss), hx, List.filter_append, ← h1, List.take_add_one, List.take_set_of_le (Nat.le_refl i), List.getElem?_set_self (by omega)]
 simp [hp]
theorem del_no {p : St → Bool} {ss cur : List St} {i j : Nat} {x : St} (hx : ss[j]? = some x) (hp : p x = true) (h1 : cur.take i = (ss.take j).filter (fun x => !p x)) : cur.take i = (ss.take (j + 1)).filter (fun x => !p x) := by
 rw [List.take_add_one, hx, List.filter_append, ← h1]
 simp [hp]
theorem drop_next {ss cur : List St} {j : Nat} (h : cur.drop j = ss.drop j) : cur.drop (j + 1) = ss.drop (j + 1) := by
 rw [← List.drop_drop, ← List.drop_drop, h]
theorem drop_set {ss cur : List St} {i j : Nat} {x : St} (h : cur.drop j = ss.drop j) (hij : i < j) : (cur.set i x).drop (j + 1) = ss.drop (j + 1) := by
 rw [List.drop_set_of_lt (by omega)]
 exact drop_next h
theorem drop_get {ss cur : List St} {j : Nat} {x : St} (h : cur.drop j = ss.drop j) (hx : ss[j]? = some x) : cur[j]? = some x := by
 have h1 : (cur.drop j)[0]? = (ss.drop j)[0]? := by rw [h]
 rw [List.getElem?_drop, List.getElem?_drop, Nat.add_zero] at h1
 rw [h1]; exact hx
theorem filter_none {p : St → Bool} {ss : List St} (h : ss.any p = false) : ss.filter (fun x => !p x) = ss := by
 rw [List.any_eq_false] at h
 exact List.filter_eq_self.2 (fun a ha => by have := h a ha; simpa using this)
theorem del_clear (b i cp : Nat) (cur : List St) {n : Nat} (hi : i ≤ n) (hl : cur.length = n) (hn : n ≤ cp) : n - (i : Int).toNat = 0 ∨ (cutA (some ⟨b, 0, none⟩) (i : Int).toNat 11 cp = some ⟨b, i * 11, none⟩ ∧ i * 11 + (n - (i : Int).toNat) * 11 ≤ (stsC cur).length) := by
 rw [stsC_len, hl]
 by_cases h : cp = i
 ·left; simp; omega
 ·right
  unfold cutA
  simp only [Int.toNat_natCast]
  rw [if_neg h]
  refine ⟨by simp [add_none], by omega⟩
theorem Hs.rowEq {b m : Nat} {cs ds : List Value} (h : cs = ds) (x : Nat × Know) (R : Hp) : Hs ([x] ++ (b, .row cs 50 m) :: R) ((b, .row ds 50 m) :: R) := h ▸ Hs.tl x
theorem idx_St (w0 : World) (G : Hp) (A : Option Addr) (ss : List St) (cp k : Nat) (cap : Array Value) (p : St → Bool) (hs : StsAt w0 G A ss) (hlen : ss.length ≤ 100000) (hf : ∀ o ∈ ss, ∀ G1 : Hp, (∀ y ∈ G, y ∈ G1) → GC Tryz.prog w0 k (#[] ++ #[Value.agg (StC o).toArray] ++ cap) (fun v G' => v = .bool (p o) ∧ G1 = G') G1) : GC Tryz.prog w0 90 #[.slice A ss.length cp, .func (.func k) #[] cap] (fun v G' => ((∃ (i : Nat) (x : St), v = .int .i64 (i : Nat) ∧ ss[i]? = some x ∧ (ss.take i).any p = false ∧ p x = true) ∨ (v = .int .i64 (-1) ∧ ss.any p = false)) ∧ G = G') G := by
 refine GC.body (args := [.slice A ss.length cp, .func (.func k) #[] cap]) Tryz.func90 rfl (by kernel_rfl) rfl ?_
 refine GW.seq ?_
 refine GW.region ?_
 refine R.assign ⟨Z,Z,Z,Z⟩ Z ?_
 refine GOps.nil ?_
 refine GW.seq ?_
 refine GW.seq ?_
 refine GW.region ?_
 refine R.move ⟨Z,Z,Z,Z⟩ Z ?_
 refine R.lenS ⟨Z,Z,Z,Z⟩ Z Z Tryz.underlying39 ?_
 refine R.move ⟨Z,Z,Z,Z⟩ Z ?_
 refine GOps.nil ?_
 refine GW.block ?_
 refine GW.loopI (fun i : Nat => [(0, .slice A ss.length cp), (1, .func (.func k) #[] cap), (7, .int .i64 ss.length), (8, .int .i64 i)]) (fun i => G) (fun i => ss.length - i) (fun i => i ≤ ss.length ∧ (ss.take i).any p = false) 0
  (keepG) (Hs.refl _) (⟨by omega, by simp⟩) ?_
 rintro i ⟨hi, h0⟩
 refine GW.seq ?_
 refine GW.region ?_
 refine R.lss ⟨Z,Z,Z,Z⟩ Z Z ?_
 refine GOps.nil ?_
 refine GW.seq ?_
 refine GW.ite Z (fun hc1 => ?_) (fun hc1 => ?_)
 ·try simp only [dcQ] at hc1
  obtain ⟨x, hx⟩ : ∃ x, ss[i]? = some x := ⟨_, List.getElem?_eq_getElem (by omega)⟩
  obtain ⟨xb, xo, cs, rfl, rfl, hrd⟩ := hs i x hx
  refine GW.skip ?_
  refine GW.seq ?_
  refine GW.block ?_
  refine GW.seq ?_
  refine GW.region ?_
  refine R.move ⟨Z,Z,Z,Z⟩ Z ?_
  refine R.assign ⟨Z,Z,Z,Z⟩ Z ?_
  refine GOps.nil ?_
  refine GW.seq ?_
  refine GW.region ?_
  refine R.move ⟨Z,Z,Z,Z⟩ Z ?_
  refine R.move ⟨Z,Z,Z,Z⟩ Z ?_
  refine R.move ⟨Z,Z,Z,Z⟩ Z ?_
  refine R.indexAddrS ⟨Z,Z,Z,Z⟩ Z Z Tryz.underlying39 Tryz.sizeOf50 (by omega) (by omega) ?_
  refine R.loadA ⟨Z,Z,Z,Z⟩ Z Tryz.underlying50 Z Tryz.sizeOf50 (hrd) (by rfl) ?_
  refine R.call ⟨Z,Z,Z,Z⟩ Z (vs := [_]) Z ((hf x (List.mem_of_getElem? hx) _ (fun y hy => hy)).mono ?_)
  rintro _ _ ⟨rfl, rfl⟩
  refine GOps.nil ?_
  refine GW.ite Z (fun hc2 => ?_) (fun hc2 => ?_)
  ·try simp only [dcQ] at hc2
   refine GW.seq ?_
   refine GW.region ?_
   refine R.move ⟨Z,Z,Z,Z⟩ Z ?_
   refine R.assign ⟨Z,Z,Z,Z⟩ Z ?_
   refine GOps.nil ?_
   first | exact GW.ret (Out.of (Res.one rfl rfl) (Hs.refl _) ⟨.inl ⟨i, x, rfl, hx, h0, by assumption⟩, rfl⟩) | exact GW.ret (Out.of (Res.one rfl rfl) (Hs.refl _) ⟨.inr ⟨rfl, any_of_take p ss i (by omega) h0⟩, rfl⟩)
  ·try simp only [dcQ] at hc2
   refine GW.skip ?_
   refine GW.region ?_
   refine R.add (r := (((i + 1) : Nat) : Int)) ⟨Z,Z,Z,Z⟩ Z Z (by rw [wrap64_id (by omega) (by omega)]; omega) ?_
   refine R.move ⟨Z,Z,Z,Z⟩ Z ?_
   refine GOps.nil ?_
   exact ⟨i + 1, by omega, ⟨by omega, any_take_succ p ss i x hx h0 (by assumption)⟩, rfl, keepG, by first | exact Hs.refl _ | exact Hs.tl _ | exact Hs.tl2 _ _⟩
 ·try simp only [dcQ] at hc1
  refine GW.exit ?_
  refine GW.seq ?_
  refine GW.region ?_
  refine R.assign ⟨Z,Z,Z,Z⟩ Z ?_
  refine GOps.nil ?_
  first | exact GW.ret (Out.of (Res.one rfl rfl) (Hs.refl _) ⟨.inl ⟨i, x, rfl, hx, h0, by assumption⟩, rfl⟩) | exact GW.ret (Out.of (Res.one rfl rfl) (Hs.refl _) ⟨.inr ⟨rfl, any_of_take p ss i (by omega) h0⟩, rfl⟩)
theorem del_row (w0 : World) (G : Hp) (b m : Nat) (ss : List St) (cp k : Nat) (cap : Array Value) (p : St → Bool) (hcp : ss.length ≤ cp) (hlen : ss.length ≤ 100000) (hf : ∀ o ∈ ss, ∀ G1 : Hp, (∀ y ∈ G, y ∈ G1) → GC Tryz.prog w0 k (#[] ++ #[Value.agg (StC o).toArray] ++ cap) (fun v G' => v = .bool (p o) ∧ G1 = G') G1) : GC Tryz.prog w0 64 #[.slice (some ⟨b, 0, none⟩) ss.length cp, .func (.func k) #[] cap] (fun v G' => v = .slice (some ⟨b, 0, none⟩) (ss.filter (fun x => !p x)).length cp ∧ (b, .row (stsC (ss.filter (fun x => !p x))) 50 m) :: G = G') ((b, .row (stsC ss) 50 m) :: G) := by
 refine GC.body (args := [.slice (some ⟨b, 0, none⟩) ss.length cp, .func (.func k) #[] cap]) Tryz.func64 rfl (by kernel_rfl) rfl ?_
 refine GW.seq ?_
 refine GW.region ?_
 refine R.assign ⟨Z,Z,Z,Z⟩ Z ?_
 refine GOps.nil ?_
 refine GW.seq ?_
 refine GW.region ?_
 refine R.move ⟨Z,Z,Z,Z⟩ Z ?_
 refine R.move ⟨Z,Z,Z,Z⟩ Z ?_
 refine R.call ⟨Z,Z,Z,Z⟩ Z (vs := [_, _]) Z ((idx_St _ _ _ ss cp k cap p (sts_at List.mem_cons_self) hlen (fun o ho G1 h1 => hf o ho G1 (fun y hy => h1 y (List.mem_cons_of_mem _ hy)))).mono ?_)
 rintro _ _ ⟨⟨i0, x0, rfl, hx0, h00, hp0⟩ | ⟨rfl, hnone⟩, rfl⟩
 ·have hi0 := (List.getElem?_eq_some_iff.1 hx0).1
  refine R.assign ⟨Z,Z,Z,Z⟩ Z ?_
  refine GOps.nil ?_
  refine GW.seq ?_
  refine GW.seq ?_
  refine GW.region ?_
  refine R.move ⟨Z,Z,Z,Z⟩ Z ?_
  refine R.eqI ⟨Z,Z,Z,Z⟩ Z Z ?_
  refine GOps.nil ?_
  refine GW.ite Z (fun hc1 => ?_) (fun hc1 => ?_)
  ·try simp only [dcQ] at hc1
   exfalso; omega
  ·try simp only [dcQ] at hc1
   refine GW.skip ?_
   refine GW.seq ?_
   refine GW.seq ?_
   refine GW.region ?_
   refine R.move ⟨Z,Z,Z,Z⟩ Z ?_
   refine R.add (r := ((i0 + 1 : Nat) : Int)) ⟨Z,Z,Z,Z⟩ Z Z (by rw [wrap64_id (by omega) (by omega)]; omega) ?_
   refine R.assign ⟨Z,Z,Z,Z⟩ Z ?_
   refine GOps.nil ?_
   refine GW.block ?_
   refine GW.loop4 (fun (j : Nat) (cur : List St) (i : Nat) (u1 : Unit) => [(0, .slice (some ⟨b, 0, none⟩) ss.length cp), (1, .func (.func k) #[] cap), (5, .int .i64 (i : Nat)), (6, .int .i64 j)]) (fun (j : Nat) (cur : List St) (i : Nat) (u1 : Unit) => (b, .row (stsC cur) 50 m) :: G) (fun j : Nat => ss.length - j) (fun (j : Nat) (cur : List St) (i : Nat) (u1 : Unit) => i < j ∧ j ≤ ss.length ∧ cur.length = ss.length ∧ cur.take i = (ss.take j).filter (fun x => !p x) ∧ cur.drop j = ss.drop j) (i0 + 1) (ss) (i0) (())
    (keepG) (Hs.refl _) (⟨by omega, by omega, rfl, del_start hx0 h00 hp0, rfl⟩) ?_
   rintro j cur i u1 ⟨hij, hjl, hcl, hct, hcd⟩
   refine GW.seq ?_
   refine GW.seq ?_
   refine GW.region ?_
   refine R.move ⟨Z,Z,Z,Z⟩ Z ?_
   refine R.move ⟨Z,Z,Z,Z⟩ Z ?_
   refine R.lenS ⟨Z,Z,Z,Z⟩ Z Z Tryz.underlying39 ?_
   refine R.lss ⟨Z,Z,Z,Z⟩ Z Z ?_
   refine GOps.nil ?_
   refine GW.ite Z (fun hc2 => ?_) (fun hc2 => ?_)
   ·try simp only [dcQ] at hc2
    obtain ⟨x, hx⟩ : ∃ x, ss[j]? = some x := ⟨_, List.getElem?_eq_getElem (by omega)⟩
    refine GW.skip ?_
    refine GW.seq ?_
    refine GW.block ?_
    refine GW.seq ?_
    refine GW.region ?_
    refine R.move ⟨Z,Z,Z,Z⟩ Z ?_
    refine R.move ⟨Z,Z,Z,Z⟩ Z ?_
    refine R.indexAddrS ⟨Z,Z,Z,Z⟩ Z Z Tryz.underlying39 Tryz.sizeOf50 (by omega) (by omega) ?_
    refine R.loadA ⟨Z,Z,Z,Z⟩ Z Tryz.underlying50 Z Tryz.sizeOf50 (st_load (i := j) List.mem_cons_self (drop_get hcd hx)) (by rfl) ?_
    refine R.alloc ⟨Z,Z,Z,Z⟩ Tryz.zeroValue50 fun b7 => ?_
    refine R.storeAll (G1 := []) Z Z Z Z Z Tryz.sizeOf50 Z Z Z Z ?_
    refine GOps.nil ?_
    refine GW.seq ?_
    refine GW.region ?_
    refine R.move ⟨Z,Z,Z,Z⟩ Z ?_
    refine R.load_own (cs := StC x) ⟨Z,Z,Z,Z⟩ Z Tryz.underlying50 Z Tryz.sizeOf50 memG (by rfl) (by rfl) ?_
    refine R.call ⟨Z,Z,Z,Z⟩ Z (vs := [_]) Z ((hf x (List.mem_of_getElem? hx) _ (fun y hy => by repeat (first | exact hy | apply List.mem_cons_of_mem))).mono ?_)
    rintro _ _ ⟨rfl, rfl⟩
    refine R.not ⟨Z,Z,Z,Z⟩ Z ?_
    refine GOps.nil ?_
    refine GW.ite Z (fun hc3 => ?_) (fun hc3 => ?_)
    ·try simp only [dcQ] at hc3
     refine GW.seq ?_
     refine GW.region ?_
     refine R.move ⟨Z,Z,Z,Z⟩ Z ?_
     refine R.move ⟨Z,Z,Z,Z⟩ Z ?_
     refine R.load_own (cs := StC x) ⟨Z,Z,Z,Z⟩ Z Tryz.underlying50 Z Tryz.sizeOf50 memG (by rfl) (by rfl) ?_
     refine R.indexAddrS ⟨Z,Z,Z,Z⟩ Z Z Tryz.underlying39 Tryz.sizeOf50 (by omega) (by omega) ?_
     refine R.storeRow (G1 := [_]) Z Z Z Z Z Tryz.sizeOf50 Z Z (Z) (by rw [stsC_len]; omega) ?_
     refine GOps.nil ?_
     refine GW.region ?_
     refine R.move ⟨Z,Z,Z,Z⟩ Z ?_
     refine R.add (r := ((i + 1 : Nat) : Int)) ⟨Z,Z,Z,Z⟩ Z Z (by rw [wrap64_id (by omega) (by omega)]; omega) ?_
     refine R.assign ⟨Z,Z,Z,Z⟩ Z ?_
     refine GOps.nil ?_
     refine GW.region ?_
     refine R.move ⟨Z,Z,Z,Z⟩ Z ?_
     refine R.add (r := (((j + 1) : Nat) : Int)) ⟨Z,Z,Z,Z⟩ Z Z (by rw [wrap64_id (by omega) (by omega)]; omega) ?_
     refine R.assign ⟨Z,Z,Z,Z⟩ Z ?_
     refine GOps.nil ?_
     first | exact ⟨j + 1, cur.set i x, i + 1, (), by omega, ⟨by omega, by omega, by rw [List.length_set]; exact hcl, del_yes hx (by assumption) hij hcl hct, drop_set hcd hij⟩, rfl, keepG, Hs.rowEq (sts_put x (by omega)) _ _⟩ | exact ⟨j + 1, cur, i, (), by omega, ⟨by omega, by omega, hcl, del_no hx (by assumption) hct, drop_next hcd⟩, rfl, keepG, Hs.tl _⟩
    ·try simp only [dcQ] at hc3
     refine GW.skip ?_
     refine GW.region ?_
     refine R.move ⟨Z,Z,Z,Z⟩ Z ?_
     refine R.add (r := (((j + 1) : Nat) : Int)) ⟨Z,Z,Z,Z⟩ Z Z (by rw [wrap64_id (by omega) (by omega)]; omega) ?_
     refine R.assign ⟨Z,Z,Z,Z⟩ Z ?_
     refine GOps.nil ?_
     first | exact ⟨j + 1, cur.set i x, i + 1, (), by omega, ⟨by omega, by omega, by rw [List.length_set]; exact hcl, del_yes hx (by assumption) hij hcl hct, drop_set hcd hij⟩, rfl, keepG, Hs.rowEq (sts_put x (by omega)) _ _⟩ | exact ⟨j + 1, cur, i, (), by omega, ⟨by omega, by omega, hcl, del_no hx (by assumption) hct, drop_next hcd⟩, rfl, keepG, Hs.tl _⟩
   ·try simp only [dcQ] at hc2
    obtain rfl : j = ss.length := by omega
    rw [List.take_length] at hct
    have hil : (ss.filter (fun x => !p x)).length = i := by rw [← hct, List.length_take]; omega
    refine GW.exit ?_
    refine GW.seq ?_
    refine GW.region ?_
    refine R.move ⟨Z,Z,Z,Z⟩ Z ?_
    refine R.move ⟨Z,Z,Z,Z⟩ Z ?_
    refine R.sliceSL ⟨Z,Z,Z,Z⟩ Z Z Tryz.underlying39 Tryz.sizeOf50 (by omega) (by omega) (by omega) ?_
    refine R.clearRow (sz := 11) (G1 := []) Z Z Z Z Z Tryz.underlying39 Tryz.zeroValue50 Z Z Z (del_clear _ _ _ _ (by omega) hcl hcp) (by rw [stsC_len]; omega) ?_
    refine GOps.nil ?_
    refine GW.seq ?_
    refine GW.region ?_
    refine R.move ⟨Z,Z,Z,Z⟩ Z ?_
    refine R.move ⟨Z,Z,Z,Z⟩ Z ?_
    refine R.sliceSH (m := i) ⟨Z,Z,Z,Z⟩ Z Z Tryz.underlying39 Tryz.sizeOf50 (fun a h => by cases h; rfl) (by omega) (by omega) (Z) ?_
    refine R.assign ⟨Z,Z,Z,Z⟩ Z ?_
    refine GOps.nil ?_
    first | exact GW.ret (Out.of (Res.one rfl rfl) (Hs.refl _) ⟨by rw [filter_none hnone], by rw [filter_none hnone]⟩) | exact GW.ret (Out.of (Res.one rfl rfl) (Hs.refl _) ⟨by rw [hil], by rw [← hct, ← sts_take]; rfl⟩)
 ·refine R.assign ⟨Z,Z,Z,Z⟩ Z ?_
  refine GOps.nil ?_
  refine GW.seq ?_
  refine GW.seq ?_
  refine GW.region ?_
  refine R.move ⟨Z,Z,Z,Z⟩ Z ?_
  refine R.eqI ⟨Z,Z,Z,Z⟩ Z Z ?_
  refine GOps.nil ?_
  refine GW.cond_t Z ?_
  refine GW.seq ?_
  refine GW.region ?_
  refine R.move ⟨Z,Z,Z,Z⟩ Z ?_
  refine R.assign ⟨Z,Z,Z,Z⟩ Z ?_
  refine GOps.nil ?_
  first | exact GW.ret (Out.of (Res.one rfl rfl) (Hs.refl _) ⟨by rw [filter_none hnone], by rw [filter_none hnone]⟩) | exact GW.ret (Out.of (Res.one rfl rfl) (Hs.refl _) ⟨by rw [hil], by rw [← hct, ← sts_take]; rfl⟩)
end Go.Proofs.YtfddkcmooommeaaGreatDoor.Gl
end
section
namespace Go.Proofs.YtfddkcmooommeaaGreatDoor.Gl
open Go.RowKit Go.Shelf
set_option linter.unusedVariables false
set_option linter.unnecessarySimpa false
set_option linter.unusedSimpArgs false
attribute [-simp] List.getD_eq_getElem?_getD
theorem SlAt.sts {ss : List St} {v : Value} {H : Hp} (w0 : World) (G : Hp) (h : SlAt 11 50 (stsC ss) ss.length v H) : ∃ A c, v = .slice A ss.length c ∧ StsAt w0 (H ++ G) A ss ∧ ss.length ≤ c := by
 generalize hn : ss.length = n at h
 cases h with
 | nil h0 hc =>
  subst h0
  rw [List.length_eq_zero_iff] at hn
  subst hn
  exact ⟨none, 0, rfl, fun i x hx => by simp at hx, Nat.le_refl _⟩
 | row b cap hl hc => exact ⟨some ⟨b, 0, none⟩, cap, rfl, sts_at (List.mem_append_left _ List.mem_cons_self), hc⟩
def boolC (l : List Bool) : List Value := l.map Value.bool
theorem bool_load {w0 : World} {G : Hp} {b i : Nat} {l : List Bool} {x : Bool} (hm : (b, Know.exact (.cells (boolC l).toArray 4 (0, 0))) ∈ G) (h : l[i]? = some x) : Rd w0 G b (0 + i * 1) (.bool x) := by
 refine .own hm ?_
 show (boolC l).toArray[0 + i * 1]? = _
 rw [Nat.zero_add, Nat.mul_one, List.getElem?_toArray]
 simp [boolC, h]
def placesSt (s : St) : List Pl := if s.kind = 1 ∨ s.kind = 2 then [s.row.p0, s.row.p1, s.row.p2] else [s.a, s.b]
def plsC (l : List Pl) : List Value := l.flatMap PlC
theorem pls_get : ∀ (l : List Pl) (i : Nat) (p : Pl), l[i]? = some p → ∀ (j : Nat) v, (PlC p)[j]? = some v → (plsC l)[i * 2 + j]? = some v
 | [], i, s, h, _, _, _ => by simp at h
 | t :: l, 0, s, h, j, v, hv => by
  simp at h
  subst h
  have hj := (List.getElem?_eq_some_iff.1 hv).1
  show (PlC t ++ plsC l)[0 * 2 + j]? = some v
  rw [Nat.zero_mul, Nat.zero_add, List.getElem?_append_left hj]
  exact hv
 | t :: l, i + 1, s, h, j, v, hv => by
  have ih := pls_get l i s (by simpa using h) j v hv
  show (PlC t ++ plsC l)[(i + 1) * 2 + j]? = some v
  rw [List.getElem?_append_right (by show 2 ≤ _; omega), show (i + 1) * 2 + j - (PlC t).length = i * 2 + j by show (i + 1) * 2 + j - 2 = _; omega]
  exact ih
theorem pl_load {w0 : World} {G : Hp} {b o i : Nat} {l : List Pl} {x : Pl} (h : Rds w0 G b o (plsC l)) (hx : l[i]? = some x) : Rds w0 G b (o + i * 2) (PlC x) := fun j v hv => by
 have := h (i * 2 + j) v (pls_get l i x hx j v hv)
 rwa [← Nat.add_assoc] at this
theorem places_row {w0 : World} {G : Hp} {b : Nat} {s : St} (hm : (b, Know.exact (.cells (Value.agg (StC s).toArray).cells 50 (0, 0))) ∈ G) : Rds w0 G b (0 + 1) (plsC [s.row.p0, s.row.p1, s.row.p2]) := fun j v hv => by
 refine .own hm ?_
 show (StC s).toArray[0 + 1 + j]? = some v
 rw [Nat.zero_add, Nat.add_comm, List.getElem?_toArray]
 show (Value.int .i64 s.kind :: (plsC [s.row.p0, s.row.p1, s.row.p2] ++ (PlC s.a ++ PlC s.b)))[j + 1]? = some v
 rw [List.getElem?_cons_succ, List.getElem?_append_left (List.getElem?_eq_some_iff.1 hv).1]
 exact hv
theorem placesSt_r {s : St} (h : s.kind = 1 ∨ s.kind = 2) : placesSt s = [s.row.p0, s.row.p1, s.row.p2] := by unfold placesSt; rw [if_pos h]
theorem placesSt_ab {s : St} (h1 : ¬ s.kind = 1) (h2 : ¬ s.kind = 2) : placesSt s = [s.a, s.b] := by unfold placesSt; rw [if_neg (by omega)]
theorem placesSt_len (s : St) : (placesSt s).length ≤ 3 := by unfold placesSt; split <;> simp
def okPl (kn : List Bool) (p : Pl) : Bool := !(decide (p.var ≥ 0) && !(kn.getD p.var.toNat false))
def readyF (kn : List Bool) (s : St) : Bool := (placesSt s).all (okPl kn)
theorem okPl_neg {kn : List Bool} {p : Pl} (h : ¬ p.var ≥ 0) : okPl kn p = true := by unfold okPl; rw [decide_eq_false h]; rfl
theorem okPl_pos {kn : List Bool} {p : Pl} {x : Bool} (h : p.var ≥ 0) (hx : kn[p.var.toNat]? = some x) : okPl kn p = x := by unfold okPl; rw [decide_eq_true h, List.getD, hx]; cases x <;> rfl
theorem del_nil (w0 : World) (G : Hp) (k : Nat) (cap : Array Value) : GC Tryz.prog w0 64 #[.slice none 0 0, .func (.func k) #[] cap] (fun v G' => v = .slice none 0 0 ∧ G = G') G := by
 refine GC.body (args := [.slice none 0 0, .func (.func k) #[] cap]) Tryz.func64 rfl (by kernel_rfl) rfl ?_
 refine GW.seq ?_
 refine GW.region ?_
 refine R.assign ⟨Z,Z,Z,Z⟩ Z ?_
 refine GOps.nil ?_
 refine GW.seq ?_
 refine GW.region ?_
 refine R.move ⟨Z,Z,Z,Z⟩ Z ?_
 refine R.move ⟨Z,Z,Z,Z⟩ Z ?_
 refine R.call ⟨Z,Z,Z,Z⟩ Z (vs := [_, _]) Z ((idx_St _ _ none [] 0 k cap (fun _ => true) (fun i x h => by simp at h) (by simp) (fun o ho => by simp at ho)).mono ?_)
 rintro _ _ ⟨⟨i0, x0, rfl, hx0, h00, hp0⟩ | ⟨rfl, hnone⟩, rfl⟩
 ·exfalso; simp at hx0
 ·refine R.assign ⟨Z,Z,Z,Z⟩ Z ?_
  refine GOps.nil ?_
  refine GW.seq ?_
  refine GW.seq ?_
  refine GW.region ?_
  refine R.move ⟨Z,Z,Z,Z⟩ Z ?_
  refine R.eqI ⟨Z,Z,Z,Z⟩ Z Z ?_
  refine GOps.nil ?_
  refine GW.cond_t Z ?_
  refine GW.seq ?_
  refine GW.region ?_
  refine R.move ⟨Z,Z,Z,Z⟩ Z ?_
  refine R.assign ⟨Z,Z,Z,Z⟩ Z ?_
  refine GOps.nil ?_
  exact GW.ret (Out.of (Res.one rfl rfl) (Hs.refl _) ⟨rfl, rfl⟩)
theorem del_St (w0 : World) (G : Hp) (v : Value) (H : Hp) (ss : List St) (k : Nat) (cap : Array Value) (p : St → Bool) (h : SlAt 11 50 (stsC ss) ss.length v H) (hlen : ss.length ≤ 100000)
  (hf : ∀ o ∈ ss, ∀ G1 : Hp, (∀ y ∈ G, y ∈ G1) → GC Tryz.prog w0 k (#[] ++ #[Value.agg (StC o).toArray] ++ cap) (fun v G' => v = .bool (p o) ∧ G1 = G') G1) :
  GC Tryz.prog w0 64 #[v, .func (.func k) #[] cap] (fun v' G' => ∃ H', SlAt 11 50 (stsC (ss.filter fun x => !p x)) (ss.filter fun x => !p x).length v' H' ∧ H' ++ G = G') (H ++ G) := by
 generalize hn : ss.length = n at h
 cases h with
 | nil h0 hc =>
  subst h0
  rw [List.length_eq_zero_iff] at hn
  subst hn
  refine (del_nil w0 G k cap).mono ?_
  rintro v' G' ⟨rfl, rfl⟩
  exact ⟨[], .nil rfl rfl, rfl⟩
 | row b cp hl hc =>
  subst hn
  refine (del_row w0 G b (cp * 11) ss cp k cap p hc hlen hf).mono ?_
  rintro v' G' ⟨rfl, rfl⟩
  exact ⟨_, .row b cp (stsC_len _) (Nat.le_trans (List.length_filter_le _ _) hc), rfl⟩
theorem plan_places (w0 : World) (G : Hp) (s : St) : GC Tryz.prog w0 62 #[.agg (StC s).toArray] (fun v G' => ∃ b o H, (v = .slice (some ⟨b, o, none⟩) (placesSt s).length (placesSt s).length ∧ Rds w0 (H ++ G) b o (plsC (placesSt s))) ∧ H ++ G = G') G := by
 refine GC.body (args := [.agg (StC s).toArray]) Tryz.func62 rfl (by kernel_rfl) rfl ?_
 refine GW.seq ?_
 refine GW.region ?_
 refine R.box ⟨Z,Z,Z,Z⟩ Z fun b1 => ?_
 refine R.assign ⟨Z,Z,Z,Z⟩ Z ?_
 refine GOps.nil ?_
 refine GW.seq ?_
 refine GW.seq ?_
 refine GW.region ?_
 refine R.fieldAddr ⟨Z,Z,Z,Z⟩ Z Tryz.underlying50 Z Tryz.sizeOf48 ?_
 refine R.load1 ⟨Z,Z,Z,Z⟩ Z Tryz.underlying48 Z (.own' memG (by rfl)) ?_
 refine R.eqI ⟨Z,Z,Z,Z⟩ Z Z ?_
 refine R.move ⟨Z,Z,Z,Z⟩ Z ?_
 refine GOps.caseB 6 Z (fun hg1 => ?_) (fun hg1 => ?_)
 ·try simp only [dcQ] at hg1
  refine GOps.skip Z Z Z ?_
  refine GOps.skip Z Z Z ?_
  refine GOps.skip Z Z Z ?_
  refine R.pick_t ⟨Z,Z,Z,Z⟩ Z Z ?_
  refine GOps.nil ?_
  refine GW.cond_t Z ?_
  refine GW.seq ?_
  refine GW.region ?_
  refine R.fieldAddr ⟨Z,Z,Z,Z⟩ Z Tryz.underlying50 Z Tryz.sizeOf38 ?_
  refine R.sliceArr ⟨Z,Z,Z,Z⟩ Z Tryz.underlying38 Tryz.sizeOf37 ?_
  refine R.assign ⟨Z,Z,Z,Z⟩ Z ?_
  refine GOps.nil ?_
  first | (rw [placesSt_r (by omega)]; exact GW.ret (Out.of (Res.one rfl rfl) (Hs.refl _) ⟨b1, _, [(b1, _)], ⟨rfl, places_row List.mem_cons_self⟩, rfl⟩)) | (rw [placesSt_ab (by omega) (by omega)]; exact GW.ret (Out.of (Res.one rfl rfl) (Hs.refl _) ⟨b17, 0, [(b17, _), (b1, _)], ⟨rfl, Rds.own List.mem_cons_self 0 _ (fun j v hv => by simpa using hv)⟩, rfl⟩))
 ·try simp only [dcQ] at hg1
  refine R.fieldAddr ⟨Z,Z,Z,Z⟩ Z Tryz.underlying50 Z Tryz.sizeOf48 ?_
  refine R.load1 ⟨Z,Z,Z,Z⟩ Z Tryz.underlying48 Z (.own' memG (by rfl)) ?_
  refine R.eqI ⟨Z,Z,Z,Z⟩ Z Z ?_
  refine R.pick_f ⟨Z,Z,Z,Z⟩ Z Z ?_
  refine GOps.nil ?_
  refine GW.ite Z (fun hc2 => ?_) (fun hc2 => ?_)
  ·try simp only [dcQ] at hc2
   refine GW.seq ?_
   refine GW.region ?_
   refine R.fieldAddr ⟨Z,Z,Z,Z⟩ Z Tryz.underlying50 Z Tryz.sizeOf38 ?_
   refine R.sliceArr ⟨Z,Z,Z,Z⟩ Z Tryz.underlying38 Tryz.sizeOf37 ?_
   refine R.assign ⟨Z,Z,Z,Z⟩ Z ?_
   refine GOps.nil ?_
   first | (rw [placesSt_r (by omega)]; exact GW.ret (Out.of (Res.one rfl rfl) (Hs.refl _) ⟨b1, _, [(b1, _)], ⟨rfl, places_row List.mem_cons_self⟩, rfl⟩)) | (rw [placesSt_ab (by omega) (by omega)]; exact GW.ret (Out.of (Res.one rfl rfl) (Hs.refl _) ⟨b17, 0, [(b17, _), (b1, _)], ⟨rfl, Rds.own List.mem_cons_self 0 _ (fun j v hv => by simpa using hv)⟩, rfl⟩))
  ·try simp only [dcQ] at hc2
   refine GW.skip ?_
   refine GW.seq ?_
   refine GW.region ?_
   refine R.fieldAddr ⟨Z,Z,Z,Z⟩ Z Tryz.underlying50 Z Tryz.sizeOf37 ?_
   refine R.load_own (cs := PlC s.a) ⟨Z,Z,Z,Z⟩ Z Tryz.underlying37 Z Tryz.sizeOf37 memG (by rfl) (by rfl) ?_
   refine R.fieldAddr ⟨Z,Z,Z,Z⟩ Z Tryz.underlying50 Z Tryz.sizeOf37 ?_
   refine R.load_own (cs := PlC s.b) ⟨Z,Z,Z,Z⟩ Z Tryz.underlying37 Z Tryz.sizeOf37 memG (by rfl) (by rfl) ?_
   refine R.buildSliceF (sz := 2) (bytes := 16) (vs := [_, _]) (cs := plsC [s.a, s.b]) ⟨Z,Z,Z,Z⟩ Z Tryz.underlying51 (InfoE.mk (by kernel_rfl)) Z Z Z Z Z fun b17 => ?_
   refine R.assign ⟨Z,Z,Z,Z⟩ Z ?_
   refine GOps.nil ?_
   first | (rw [placesSt_r (by omega)]; exact GW.ret (Out.of (Res.one rfl rfl) (Hs.refl _) ⟨b1, _, [(b1, _)], ⟨rfl, places_row List.mem_cons_self⟩, rfl⟩)) | (rw [placesSt_ab (by omega) (by omega)]; exact GW.ret (Out.of (Res.one rfl rfl) (Hs.refl _) ⟨b17, 0, [(b17, _), (b1, _)], ⟨rfl, Rds.own List.mem_cons_self 0 _ (fun j v hv => by simpa using hv)⟩, rfl⟩))
theorem steps_ready (w0 : World) (G : Hp) (s : St) (kn : List Bool) (bK bk : Nat) (hK : (bK, Know.exact (.cells #[.slice (some ⟨bk, 0, none⟩) kn.length kn.length] 47 (0, 0))) ∈ G) (hk : (bk, Know.exact (.cells (boolC kn).toArray 4 (0, 0))) ∈ G) (hb : ∀ p ∈ placesSt s, p.var < kn.length) : GC Tryz.prog w0 61 (#[] ++ #[Value.agg (StC s).toArray] ++ #[.pointer (some ⟨bK, 0, none⟩)]) (fun v G' => v = .bool (readyF kn s) ∧ G = G') G := by
 refine GC.body (args := [.agg (StC s).toArray, .pointer (some ⟨bK, 0, none⟩)]) Tryz.func61 rfl (by kernel_rfl) rfl ?_
 refine GW.seq ?_
 refine GW.region ?_
 refine R.box ⟨Z,Z,Z,Z⟩ Z fun b2 => ?_
 refine R.assign ⟨Z,Z,Z,Z⟩ Z ?_
 refine GOps.nil ?_
 refine GW.seq ?_
 refine GW.seq ?_
 refine GW.region ?_
 refine R.load_own (cs := StC s) ⟨Z,Z,Z,Z⟩ Z Tryz.underlying50 Z Tryz.sizeOf50 memG (by rfl) (by rfl) ?_
 refine R.call ⟨Z,Z,Z,Z⟩ Z (vs := [_]) Z ((plan_places _ _ s).mono ?_)
 rintro _ _ ⟨pb, po, H, ⟨rfl, hpr⟩, rfl⟩
 have hpl := placesSt_len s
 refine R.lenS ⟨Z,Z,Z,Z⟩ Z Z Tryz.underlying51 ?_
 refine R.move ⟨Z,Z,Z,Z⟩ Z ?_
 refine GOps.nil ?_
 refine GW.block ?_
 refine GW.loopI (fun i : Nat => [(1, .pointer (some ⟨bK, 0, none⟩)), (7, .slice (some ⟨pb, po, none⟩) (placesSt s).length (placesSt s).length), (8, .int .i64 (placesSt s).length), (9, .int .i64 i)]) (fun i => H ++ (b2, .exact (.cells (Value.agg (StC s).toArray).cells 50 (0, 0))) :: G) (fun i => (placesSt s).length - i) (fun i => i ≤ (placesSt s).length ∧ ((placesSt s).take i).all (okPl kn) = true) 0
  (keepG) (Hs.refl _) (⟨by omega, by simp⟩) ?_
 rintro i ⟨hi, h0⟩
 refine GW.seq ?_
 refine GW.region ?_
 refine R.lss ⟨Z,Z,Z,Z⟩ Z Z ?_
 refine GOps.nil ?_
 refine GW.seq ?_
 refine GW.ite Z (fun hc1 => ?_) (fun hc1 => ?_)
 ·try simp only [dcQ] at hc1
  obtain ⟨x, hx⟩ : ∃ x, (placesSt s)[i]? = some x := ⟨_, List.getElem?_eq_getElem (by omega)⟩
  have hxb := hb x (List.mem_of_getElem? hx)
  refine GW.skip ?_
  refine GW.seq ?_
  refine GW.block ?_
  refine GW.seq ?_
  refine GW.region ?_
  refine R.indexAddrS ⟨Z,Z,Z,Z⟩ Z Z Tryz.underlying51 Tryz.sizeOf37 (by omega) (by omega) ?_
  refine R.loadA ⟨Z,Z,Z,Z⟩ Z Tryz.underlying37 Z Tryz.sizeOf37 (pl_load (i := i) hpr hx) (by rfl) ?_
  refine R.alloc ⟨Z,Z,Z,Z⟩ Tryz.zeroValue37 fun b5 => ?_
  refine R.storeAll (G1 := []) Z Z Z Z Z Tryz.sizeOf37 Z Z Z Z ?_
  refine GOps.nil ?_
  refine GW.seq ?_
  refine GW.region ?_
  refine R.fieldAddr ⟨Z,Z,Z,Z⟩ Z Tryz.underlying37 Z Tryz.sizeOf3 ?_
  refine R.load1 ⟨Z,Z,Z,Z⟩ Z Tryz.underlying3 Z (.own' memG (by rfl)) ?_
  refine R.geq ⟨Z,Z,Z,Z⟩ Z Z ?_
  refine R.move ⟨Z,Z,Z,Z⟩ Z ?_
  refine GOps.caseB 16 Z (fun hg2 => ?_) (fun hg2 => ?_)
  ·try simp only [dcQ] at hg2
   ·obtain ⟨y, hkx⟩ : ∃ y, kn[x.var.toNat]? = some y := ⟨_, List.getElem?_eq_getElem (by omega)⟩
    refine R.load1 ⟨Z,Z,Z,Z⟩ Z Tryz.underlying47 Z (.own' (List.mem_cons_of_mem _ (List.mem_append_right _ (List.mem_cons_of_mem _ hK))) Z) ?_
    refine R.fieldAddr ⟨Z,Z,Z,Z⟩ Z Tryz.underlying37 Z Tryz.sizeOf3 ?_
    refine R.load1 ⟨Z,Z,Z,Z⟩ Z Tryz.underlying3 Z (.own' memG (by rfl)) ?_
    refine R.indexAddrS ⟨Z,Z,Z,Z⟩ Z Z Tryz.underlying47 Tryz.sizeOf4 (by omega) (by omega) ?_
    refine R.load1 ⟨Z,Z,Z,Z⟩ Z Tryz.underlying4 Z (bool_load (i := x.var.toNat) (List.mem_cons_of_mem _ (List.mem_append_right _ (List.mem_cons_of_mem _ hk))) hkx) ?_
    refine R.not ⟨Z,Z,Z,Z⟩ Z ?_
    refine R.pick_t ⟨Z,Z,Z,Z⟩ Z Z ?_
    refine GOps.nil ?_
    refine GW.ite Z (fun hc3 => ?_) (fun hc3 => ?_)
    ·try simp only [dcQ] at hc3
     refine GW.seq ?_
     refine GW.region ?_
     refine R.assign ⟨Z,Z,Z,Z⟩ Z ?_
     refine GOps.nil ?_
     first | exact GW.ret (Out.of (Res.one rfl rfl) ((Hs.tl _).trans ((Hs.app _).trans (Hs.tl _))) ⟨by unfold readyF; rw [all_of_get (okPl kn) (placesSt s) i x hx (by rw [okPl_pos (by omega) hkx]; assumption)], rfl⟩) | exact GW.ret (Out.of (Res.one rfl rfl) ((Hs.app _).trans (Hs.tl _)) ⟨by unfold readyF; rw [all_of_take (okPl kn) (placesSt s) i (by omega) h0], rfl⟩)
    ·try simp only [dcQ] at hc3
     refine GW.skip ?_
     refine GW.region ?_
     refine R.add (r := (((i + 1) : Nat) : Int)) ⟨Z,Z,Z,Z⟩ Z Z (by rw [wrap64_id (by omega) (by omega)]; omega) ?_
     refine R.move ⟨Z,Z,Z,Z⟩ Z ?_
     refine GOps.nil ?_
     exact ⟨i + 1, by omega, ⟨by omega, all_take_succ (okPl kn) (placesSt s) i x hx h0 (by first | exact okPl_neg (by omega) | (rw [okPl_pos (by omega) hkx]; assumption))⟩, rfl, keepG, by first | exact Hs.refl _ | exact Hs.tl _ | exact Hs.tl2 _ _⟩
  ·try simp only [dcQ] at hg2
   refine GOps.skip Z Z Z ?_
   refine GOps.skip Z Z Z ?_
   refine GOps.skip Z Z Z ?_
   refine GOps.skip Z Z Z ?_
   refine GOps.skip Z Z Z ?_
   refine GOps.skip Z Z Z ?_
   refine R.pick_f ⟨Z,Z,Z,Z⟩ Z Z ?_
   refine GOps.nil ?_
   refine GW.cond_f Z ?_
   refine GW.skip ?_
   refine GW.region ?_
   refine R.add (r := (((i + 1) : Nat) : Int)) ⟨Z,Z,Z,Z⟩ Z Z (by rw [wrap64_id (by omega) (by omega)]; omega) ?_
   refine R.move ⟨Z,Z,Z,Z⟩ Z ?_
   refine GOps.nil ?_
   exact ⟨i + 1, by omega, ⟨by omega, all_take_succ (okPl kn) (placesSt s) i x hx h0 (by first | exact okPl_neg (by omega) | (rw [okPl_pos (by omega) hkx]; assumption))⟩, rfl, keepG, by first | exact Hs.refl _ | exact Hs.tl _ | exact Hs.tl2 _ _⟩
 ·try simp only [dcQ] at hc1
  refine GW.exit ?_
  refine GW.seq ?_
  refine GW.region ?_
  refine R.assign ⟨Z,Z,Z,Z⟩ Z ?_
  refine GOps.nil ?_
  first | exact GW.ret (Out.of (Res.one rfl rfl) ((Hs.tl _).trans ((Hs.app _).trans (Hs.tl _))) ⟨by unfold readyF; rw [all_of_get (okPl kn) (placesSt s) i x hx (by rw [okPl_pos (by omega) hkx]; assumption)], rfl⟩) | exact GW.ret (Out.of (Res.one rfl rfl) ((Hs.app _).trans (Hs.tl _)) ⟨by unfold readyF; rw [all_of_take (okPl kn) (placesSt s) i (by omega) h0], rfl⟩)
end Go.Proofs.YtfddkcmooommeaaGreatDoor.Gl
end
section
namespace Go.Proofs.YtfddkcmooommeaaGreatDoor.Gl
open Go.RowKit Go.Shelf
set_option linter.unusedVariables false
set_option linter.unnecessarySimpa false
set_option linter.unusedSimpArgs false
attribute [-simp] List.getD_eq_getElem?_getD
theorem flush_yes {kn : List Bool} {out wait : List St} {i : Nat} {x : St} {v : Value} {H : Hp} (hx : wait[i]? = some x) (hr : readyF kn x = true) (h : SlAt 11 50 (stsC (out ++ (wait.take i).filter (readyF kn)) ++ StC x) ((out ++ (wait.take i).filter (readyF kn)).length + 1) v H) : SlAt 11 50 (stsC (out ++ (wait.take (i + 1)).filter (readyF kn))) (out ++ (wait.take (i + 1)).filter (readyF kn)).length v H := by
 have e : (out ++ (wait.take (i + 1)).filter (readyF kn)) = (out ++ (wait.take i).filter (readyF kn)) ++ [x] := by rw [List.take_add_one, hx, List.filter_append, ← List.append_assoc]; simp [hr]
 rw [e, sts_app, sts_one, List.length_append]
 exact h
theorem flush_no {kn : List Bool} {out wait : List St} {i : Nat} {x : St} {v : Value} {H : Hp} (hx : wait[i]? = some x) (hr : readyF kn x = false) (h : SlAt 11 50 (stsC (out ++ (wait.take i).filter (readyF kn))) (out ++ (wait.take i).filter (readyF kn)).length v H) : SlAt 11 50 (stsC (out ++ (wait.take (i + 1)).filter (readyF kn))) (out ++ (wait.take (i + 1)).filter (readyF kn)).length v H := by
 have e : (out ++ (wait.take (i + 1)).filter (readyF kn)) = (out ++ (wait.take i).filter (readyF kn)) := by rw [List.take_add_one, hx, List.filter_append]; simp [hr]
 rw [e]
 exact h
theorem out_len {kn : List Bool} {out wait : List St} {i : Nat} (hi : i ≤ wait.length) : (out ++ (wait.take i).filter (readyF kn)).length ≤ out.length + wait.length := by
 have := List.length_filter_le (readyF kn) (wait.take i)
 rw [List.length_take] at this
 rw [List.length_append]
 omega
theorem steps_flush (w0 : World) (G : Hp) (vw vo : Value) (Hw Ho : Hp) (wait out : List St) (bW bR bO : Nat) (kn : List Bool) (bK bk : Nat) (hK : (bK, Know.exact (.cells #[.slice (some ⟨bk, 0, none⟩) kn.length kn.length] 47 (0, 0))) ∈ G) (hk : (bk, Know.exact (.cells (boolC kn).toArray 4 (0, 0))) ∈ G) (hR : (bR, Know.exact (.cells #[.func (.func 61) #[] #[.pointer (some ⟨bK, 0, none⟩)]] 133 (0, 0))) ∈ G) (hw : SlAt 11 50 (stsC wait) wait.length vw Hw) (ho : SlAt 11 50 (stsC out) out.length vo Ho) (hwl : wait.length ≤ 10000) (hol : out.length ≤ 10000)
  (hb : ∀ s ∈ wait, ∀ p ∈ placesSt s, p.var < kn.length) : GC Tryz.prog w0 63 (#[] ++ #[] ++ #[.pointer (some ⟨bW, 0, none⟩), .pointer (some ⟨bR, 0, none⟩), .pointer (some ⟨bO, 0, none⟩)]) (fun v G' => ∃ vw' Hw' vo' Ho', (v = .tuple #[] ∧ SlAt 11 50 (stsC (wait.filter fun s => !readyF kn s)) (wait.filter fun s => !readyF kn s).length vw' Hw' ∧ SlAt 11 50 (stsC (out ++ wait.filter (readyF kn))) (out ++ wait.filter (readyF kn)).length vo' Ho') ∧ (bW, .exact (.cells #[vw'] 39 (0, 0))) :: (bO, .exact (.cells #[vo'] 39 (0, 0))) :: (Hw' ++ (Ho' ++ G)) = G') ((bW, .exact (.cells #[vw] 39 (0, 0))) :: (bO, .exact (.cells #[vo] 39 (0, 0))) :: (Hw ++ (Ho ++ G))) := by
 obtain ⟨Aw, cw, rfl, hws, hcw⟩ := hw.sts w0 []
 rw [List.append_nil] at hws
 refine GC.body (args := [.pointer (some ⟨bW, 0, none⟩), .pointer (some ⟨bR, 0, none⟩), .pointer (some ⟨bO, 0, none⟩)]) Tryz.func63 rfl (by kernel_rfl) rfl ?_
 refine GW.seq ?_
 refine GW.seq ?_
 refine GW.region ?_
 refine R.load1 ⟨Z,Z,Z,Z⟩ Z Tryz.underlying39 Z (.own' memG (by rfl)) ?_
 refine R.lenS ⟨Z,Z,Z,Z⟩ Z Z Tryz.underlying39 ?_
 refine R.move ⟨Z,Z,Z,Z⟩ Z ?_
 refine GOps.nil ?_
 refine GW.block ?_
 refine GW.loop4 (fun (i : Nat) (vo' : Value) (Ho' : Hp) (u1 : Unit) => [(0, .pointer (some ⟨bW, 0, none⟩)), (1, .pointer (some ⟨bR, 0, none⟩)), (2, .pointer (some ⟨bO, 0, none⟩)), (5, .slice Aw wait.length cw), (6, .int .i64 wait.length), (7, .int .i64 i)]) (fun (i : Nat) (vo' : Value) (Ho' : Hp) (u1 : Unit) => (bW, .exact (.cells #[.slice Aw wait.length cw] 39 (0, 0))) :: (bO, .exact (.cells #[vo'] 39 (0, 0))) :: (Hw ++ (Ho' ++ G))) (fun i : Nat => wait.length - i) (fun (i : Nat) (vo' : Value) (Ho' : Hp) (u1 : Unit) => i ≤ wait.length ∧ SlAt 11 50 (stsC (out ++ (wait.take i).filter (readyF kn))) (out ++ (wait.take i).filter (readyF kn)).length vo' Ho') 0 (vo) (Ho) (())
  (keepG) (Hs.refl _) (⟨by omega, by simpa using ho⟩) ?_
 rintro i vo' Ho' u1 ⟨hi, ho'⟩
 refine GW.seq ?_
 refine GW.region ?_
 refine R.lss ⟨Z,Z,Z,Z⟩ Z Z ?_
 refine GOps.nil ?_
 refine GW.seq ?_
 refine GW.ite Z (fun hc1 => ?_) (fun hc1 => ?_)
 ·try simp only [dcQ] at hc1
  obtain ⟨x, hx⟩ : ∃ x, wait[i]? = some x := ⟨_, List.getElem?_eq_getElem (by omega)⟩
  obtain ⟨xb, xo, cs, rfl, rfl, hrd⟩ := hws i x hx
  have hol2 := out_len (kn := kn) (out := out) (wait := wait) (i := i) (by omega)
  refine GW.skip ?_
  refine GW.seq ?_
  refine GW.block ?_
  refine GW.seq ?_
  refine GW.region ?_
  refine R.indexAddrS ⟨Z,Z,Z,Z⟩ Z Z Tryz.underlying39 Tryz.sizeOf50 (by omega) (by omega) ?_
  refine R.loadA ⟨Z,Z,Z,Z⟩ Z Tryz.underlying50 Z Tryz.sizeOf50 (hrd.mono (fun y hy => List.mem_cons_of_mem _ (List.mem_cons_of_mem _ (List.mem_append_left _ hy)))) (by rfl) ?_
  refine R.alloc ⟨Z,Z,Z,Z⟩ Tryz.zeroValue50 fun b4 => ?_
  refine R.storeAll (G1 := []) Z Z Z Z Z Tryz.sizeOf50 Z Z Z Z ?_
  refine GOps.nil ?_
  refine GW.seq ?_
  refine GW.region ?_
  refine R.load1 ⟨Z,Z,Z,Z⟩ Z Tryz.underlying133 Z (.own' (List.mem_cons_of_mem _ (List.mem_cons_of_mem _ (List.mem_cons_of_mem _ (List.mem_append_right _ (List.mem_append_right _ hR))))) Z) ?_
  refine R.load_own (cs := StC x) ⟨Z,Z,Z,Z⟩ Z Tryz.underlying50 Z Tryz.sizeOf50 memG (by rfl) (by rfl) ?_
  refine R.call ⟨Z,Z,Z,Z⟩ Z (vs := [_]) Z ((steps_ready _ _ x kn bK bk (List.mem_cons_of_mem _ (List.mem_cons_of_mem _ (List.mem_cons_of_mem _ (List.mem_append_right _ (List.mem_append_right _ hK))))) (List.mem_cons_of_mem _ (List.mem_cons_of_mem _ (List.mem_cons_of_mem _ (List.mem_append_right _ (List.mem_append_right _ hk))))) (hb x (List.mem_of_getElem? hx))).mono ?_)
  rintro _ _ ⟨rfl, rfl⟩
  refine GOps.nil ?_
  refine GW.ite Z (fun hc2 => ?_) (fun hc2 => ?_)
  ·try simp only [dcQ] at hc2
   refine GW.region ?_
   refine R.load1 ⟨Z,Z,Z,Z⟩ Z Tryz.underlying39 Z (.own' memG (by rfl)) ?_
   refine R.load_own (cs := StC x) ⟨Z,Z,Z,Z⟩ Z Tryz.underlying50 Z Tryz.sizeOf50 memG (by rfl) (by rfl) ?_
   refine R.buildSliceF (sz := 11) (bytes := 88) (vs := [_]) (cs := StC x) ⟨Z,Z,Z,Z⟩ Z Tryz.underlying39 (InfoE.mk (by kernel_rfl)) Z Z Z Z Z fun b16 => ?_
   refine R.append (sz := 11) (bytes := 88) (G1 := [_, _, _, _] ++ Hw) (H := Ho') (news := StC x) ⟨Z,Z,Z,Z⟩ Z Z Z Tryz.underlying39 (InfoE.mk (by kernel_rfl)) (ho') (Z) (Z) (.own memH 0 _ (fun j v hv => by simpa using hv)) (by omega) (by rfl) (by omega) (by omega) fun v17 H17 hv17 => ?_
   obtain ⟨A17, c17, rfl, hc17⟩ := hv17.split
   refine R.storeAll (G1 := [_, _, _]) Z Z Z Z Z Tryz.sizeOf39 Z Z Z Z ?_
   refine GOps.nil ?_
   refine GW.region ?_
   refine R.add (r := (((i + 1) : Nat) : Int)) ⟨Z,Z,Z,Z⟩ Z Z (by rw [wrap64_id (by omega) (by omega)]; omega) ?_
   refine R.move ⟨Z,Z,Z,Z⟩ Z ?_
   refine GOps.nil ?_
   first | exact ⟨i + 1, .slice A17 _ c17, H17, (), by omega, ⟨by omega, flush_yes hx (by assumption) hv17⟩, rfl, keepG, Hs.tl2 _ _⟩ | exact ⟨i + 1, vo', Ho', (), by omega, ⟨by omega, flush_no hx (by assumption) ho'⟩, rfl, keepG, Hs.tl _⟩
  ·try simp only [dcQ] at hc2
   refine GW.skip ?_
   refine GW.region ?_
   refine R.add (r := (((i + 1) : Nat) : Int)) ⟨Z,Z,Z,Z⟩ Z Z (by rw [wrap64_id (by omega) (by omega)]; omega) ?_
   refine R.move ⟨Z,Z,Z,Z⟩ Z ?_
   refine GOps.nil ?_
   first | exact ⟨i + 1, .slice A17 _ c17, H17, (), by omega, ⟨by omega, flush_yes hx (by assumption) hv17⟩, rfl, keepG, Hs.tl2 _ _⟩ | exact ⟨i + 1, vo', Ho', (), by omega, ⟨by omega, flush_no hx (by assumption) ho'⟩, rfl, keepG, Hs.tl _⟩
 ·try simp only [dcQ] at hc1
  rw [List.take_of_length_le (by omega)] at ho'
  refine GW.exit ?_
  refine GW.region ?_
  refine R.load1 ⟨Z,Z,Z,Z⟩ Z Tryz.underlying39 Z (.own' memG (by rfl)) ?_
  refine R.load1 ⟨Z,Z,Z,Z⟩ Z Tryz.underlying133 Z (.own' (List.mem_cons_of_mem _ (List.mem_cons_of_mem _ (List.mem_append_right _ (List.mem_append_right _ hR)))) Z) ?_
  refine GOps.weak (Keeps.refl _) (Hs.perm (pm2 _ _ _ _)) ?_
  refine R.call ⟨Z,Z,Z,Z⟩ Z (vs := [_, _]) Z ((del_St _ _ (.slice Aw wait.length cw) Hw wait 61 #[.pointer (some ⟨bK, 0, none⟩)] (readyF kn) hw (by omega) (fun o ho G1 h1 => steps_ready _ _ o kn bK bk (h1 _ (List.mem_cons_of_mem _ (List.mem_cons_of_mem _ (List.mem_append_right _ hK)))) (h1 _ (List.mem_cons_of_mem _ (List.mem_cons_of_mem _ (List.mem_append_right _ hk)))) (hb o ho))).mono ?_)
  rintro v21 _ ⟨Hw2, hw2, rfl⟩
  refine GOps.weak (Keeps.refl _) (Hs.perm (pm2 _ _ _ _).symm) ?_
  obtain ⟨A21, c21, rfl, hc21⟩ := hw2.split
  refine R.storeAll (G1 := []) Z Z Z Z Z Tryz.sizeOf39 Z Z Z Z ?_
  refine GOps.nil ?_
  exact Out.end_ (Res.none rfl) (Hs.refl _) ⟨.slice A21 _ c21, Hw2, vo', Ho', ⟨rfl, hw2, ho'⟩, rfl⟩
end Go.Proofs.YtfddkcmooommeaaGreatDoor.Gl
end
