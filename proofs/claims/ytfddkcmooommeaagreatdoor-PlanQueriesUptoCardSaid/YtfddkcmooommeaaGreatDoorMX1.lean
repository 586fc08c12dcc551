/- Part 1 of the proof: Gl Gm Gn Gp Gq Gv Gd Gr Gs Gt Gu Da Gw V1 Gx Gy Eq S1 S2. -/
import Derived.RangeFuncLeaves
import Derived.OrdersIn
import Derived.TacticsIn
import Derived.WalkKit
import Derived.WalkSpells
import Derived.Shelf.Abstract
import Derived.Great.BuildSlice
import Derived.Laws.BytesArg
import Derived.Laws.AppendOwn
import Derived.Lib.MinMax
import Derived.OwnWalk
import Derived.Lib.Bytealg
import Derived.Laws.Append
import Derived.Laws.Pointers
import Derived.Laws.Cover3
import Derived.Test.YtfddkcmooommeaaGreatDoorProg
import Derived.Laws.BitsLemmas
section
namespace Go.Proofs.YtfddkcmooommeaaGreatDoor.Gl
open Go.RowKit
theorem dcQ : (∀ (p : Prop) [Decidable p], (decide p = true) = p) ∧ (∀ (p : Prop) [Decidable p], (decide p = false) = ¬p) ∧ (∀ b : Bool, ((!b) = true) = (b = false)) ∧ (∀ b : Bool, ((!b) = false) = (b = true)) :=
  ⟨fun p _ => decide_eq_true_eq, fun p _ => by simp, fun b => by simp, fun b => by simp⟩
theorem memG {α : Type} {a : α} {l : List α} (h : a ∈ l := by repeat (first | exact List.mem_cons_self | apply List.mem_cons_of_mem | apply List.mem_append_right)) : a ∈ l := h
theorem Z {α : Sort _} {a : α} : a = a := rfl
theorem subG {α : Type} {a b : List α} (h : a.Sublist b := by repeat (first | exact List.Sublist.refl _ | apply List.Sublist.cons | refine List.Sublist.trans ?_ (List.sublist_append_right _ _))) : a.Sublist b := h
theorem memH {α : Type} {a : α} {l : List α} (h : a ∈ l := by repeat (first | exact List.mem_cons_self | apply List.mem_cons_of_mem | apply List.mem_append_right | exact List.mem_append_left _ List.mem_cons_self)) : a ∈ l := h
inductive Know
 | exact (o : Obj)
 | row (cs : List Value) (e : TypeId) (room : Nat)
def Know.holds : Know → Option Obj → Prop
 | .exact o, x => x = some o
 | .row cs e room, x => ∃ C : Array Value, x = some (.cells C e (0, 0)) ∧ C.size = room ∧ ∀ (j : Nat) v, cs[j]? = some v → C[j]? = some v
abbrev Hp := List (Nat × Know)
def coolO : Obj → Prop := fun _ => True
def coolK : Know → Prop := fun _ => True
theorem cool_of {k : Know} {o : Obj} (_ : coolK k) (_ : k.holds (some o)) : coolO o := trivial
structure Sat (w0 : World) (G : Hp) (w : World) : Prop where
 below : Below w0.heap.size w0 w
 own : ∀ b k, (b, k) ∈ G → w0.heap.size ≤ b ∧ k.holds w.heap[b]?
 nodup : (G.map (·.1)).Nodup
 cool : ∀ b o, w0.heap.size ≤ b → w.heap[b]? = some o → coolO o
def lk : List (Nat × Value) → Nat → Option Value
 | [], _ => none
 | (j, v) :: r, i => bif Nat.beq i j then some v else lk r i
structure FRep (nt : Nat) (fr : List (Nat × Value)) (ds : List Deferred) (a : Act) : Prop where
 size : a.tmps.size = nt
 look : ∀ i v, lk fr i = some v → a.tmps[i]? = some v
 defers : a.defers = ds
def evO (fr : List (Nat × Value)) : Operand → Option Value
 | .tmp t => lk fr t
 | .const v => some v
 | .global g => some (.pointer (some ⟨g, 0, none⟩))
 | .func f => some (.func (.func f) #[] #[])
theorem FRep.eval {nt : Nat} {fr : List (Nat × Value)} {ds : List Deferred} {a : Act} (h : FRep nt fr ds a) {x : Operand} {v : Value} (hx : evO fr x = some v) : a.eval x = v := by
 cases x with
 | tmp t => have := h.look t v hx; simp [Act.eval, Array.getD_eq_getD_getElem?, this]
 | const c => simpa [evO, Act.eval] using hx
 | global g => simpa [evO, Act.eval] using hx
 | func f => simpa [evO, Act.eval] using hx
theorem lk_cons (j : Nat) (v : Value) (r : List (Nat × Value)) (i : Nat) : lk ((j, v) :: r) i = if i = j then some v else lk r i := by
 simp only [lk]
 by_cases h : i = j
 ·subst h; simp
 ·have : Nat.beq i j = false := by rw [Bool.eq_false_iff]; intro e; exact h (Nat.eq_of_beq_eq_true e)
  simp [this, h]
theorem FRep.put {nt : Nat} {fr : List (Nat × Value)} {ds : List Deferred} {a : Act} (h : FRep nt fr ds a) {d : Nat} (hd : d < nt) (v : Value) : FRep nt ((d, v) :: fr) ds (a.put (some d) v) := by
 refine ⟨by simp [Act.put, h.size], fun i u hu => ?_, h.defers⟩
 rw [lk_cons] at hu
 simp only [Act.put, Array.getElem?_setIfInBounds, h.size]
 by_cases e : i = d
 ·subst e; simp_all
 ·rw [if_neg (by omega)]; simp only [if_neg e] at hu; exact h.look i u hu
def Keeps (fr fr' : List (Nat × Value)) : Prop := ∀ i v, lk fr' i = some v → lk fr i = some v
theorem FRep.weak {nt : Nat} {fr fr' : List (Nat × Value)} {ds : List Deferred} {a : Act} (h : FRep nt fr ds a) (hk : Keeps fr fr') : FRep nt fr' ds a := ⟨h.size, fun i v hv => h.look i v (hk i v hv), h.defers⟩
theorem Keeps.refl (fr : List (Nat × Value)) : Keeps fr fr := fun _ _ h => h
theorem Keeps.nil (fr : List (Nat × Value)) : Keeps fr [] := fun _ _ h => by simp [lk] at h
theorem Keeps.cons {fr fr' : List (Nat × Value)} {j : Nat} {v : Value} (h : lk fr j = some v) (hk : Keeps fr fr') : Keeps fr ((j, v) :: fr') := by
 intro i u hu
 rw [lk_cons] at hu
 split at hu
 ·rename_i e; subst e; exact h.trans hu
 ·exact hk i u hu
theorem keepG {fr fr' : List (Nat × Value)} (h : Keeps fr fr' := by repeat (first | exact Keeps.nil _ | refine Keeps.cons rfl ?_)) : Keeps fr fr' := h
section sat
variable {w0 : World} {G : Hp} {w : World}
theorem Know.some_of {k : Know} {x : Option Obj} (h : k.holds x) : ∃ o, x = some o := by
 cases k with
 | exact o => exact ⟨o, h⟩
 | row cs e room => obtain ⟨C, h, _⟩ := h; exact ⟨_, h⟩
theorem Sat.lt (h : Sat w0 G w) {b : Nat} {k : Know} (hm : (b, k) ∈ G) : b < w.heap.size := by
 obtain ⟨o, ho⟩ := Know.some_of (h.own b k hm).2
 exact (Array.getElem?_eq_some_iff.1 ho).1
theorem Sat.fresh (h : Sat w0 G w) : ∀ k, (w.heap.size, k) ∉ G := fun _ hm => Nat.lt_irrefl _ (h.lt hm)
theorem Sat.sub {G' : Hp} (h : Sat w0 G w) (hs : G'.Sublist G) : Sat w0 G' w :=
 ⟨h.below, fun b k hm => h.own b k (hs.subset hm), (hs.map _).nodup h.nodup, h.cool⟩
theorem Sat.perm {G' : Hp} (h : Sat w0 G w) (hs : G'.Perm G) : Sat w0 G' w :=
 ⟨h.below, fun b k hm => h.own b k (hs.subset hm), (hs.map _).nodup_iff.2 h.nodup, h.cool⟩
theorem Sat.drew (h : Sat w0 G w) : Sat w0 G w.drew := ⟨h.below.drew, h.own, h.nodup, h.cool⟩
theorem Sat.alloc (h : Sat w0 G w) (o : Obj) (ho : coolO o := by first | exact rfl | exact trivial) : Sat w0 ((w.heap.size, .exact o) :: G) (w.alloc o) := by
 refine ⟨h.below.alloc h.below.size o, fun b k hm => ?_, ?_, fun b o' hb hg => ?_⟩
 ·rcases List.mem_cons.1 hm with e | hm
  ·cases e
   exact ⟨h.below.size, by show (w.heap.push o)[w.heap.size]? = some o; simp⟩
  ·have hlt := h.lt hm
   obtain ⟨h1, h2⟩ := h.own b k hm
   refine ⟨h1, ?_⟩
   rw [Below.heap_alloc w o b hlt]
   exact h2
 ·simp only [List.map_cons, List.nodup_cons]
  refine ⟨fun hm => ?_, h.nodup⟩
  obtain ⟨⟨b, k⟩, hm, e⟩ := List.mem_map.1 hm
  simp only at e
  subst e
  exact h.fresh k hm
 ·have hg' : (w.heap.push o)[b]? = some o' := hg
  rw [Array.getElem?_push] at hg'
  split at hg'
  ·simp only [Option.some.injEq] at hg'; subst hg'; exact ho
  ·exact h.cool b o' hb hg'
theorem Sat.weakKnow {G1 G2 : Hp} {b : Nat} {k k' : Know} (h : Sat w0 (G1 ++ (b, k) :: G2) w) (hk : ∀ x, k.holds x → k'.holds x) : Sat w0 (G1 ++ (b, k') :: G2) w := by
 refine ⟨h.below, fun b' k'' hm => ?_, by simpa using h.nodup, h.cool⟩
 rcases List.mem_append.1 hm with hm | hm
 ·exact h.own _ _ (List.mem_append_left _ hm)
 ·rcases List.mem_cons.1 hm with e | hm
  ·cases e
   obtain ⟨h1, h2⟩ := h.own b k (List.mem_append_right _ List.mem_cons_self)
   exact ⟨h1, hk _ h2⟩
  ·exact h.own _ _ (List.mem_append_right _ (List.mem_cons_of_mem _ hm))
theorem Sat.turn {w' : World} {G1 G2 : Hp} {b : Nat} {k k' : Know} (h : Sat w0 (G1 ++ (b, k) :: G2) w) (hos : w'.os = w.os) (htape : w'.tape = w.tape) (hout : w'.output = w.output)
  (hsize : w'.heap.size = w.heap.size) (hother : ∀ i, i ≠ b → w'.heap[i]? = w.heap[i]?) (hk : k'.holds w'.heap[b]?) (hcool : coolK k' := by first | exact rfl | exact trivial) : Sat w0 (G1 ++ (b, k') :: G2) w' := by
 obtain ⟨hb, _⟩ := h.own b k (List.mem_append_right _ List.mem_cons_self)
 have hnd := h.nodup
 simp only [List.map_append, List.map_cons, List.nodup_append, List.nodup_cons] at hnd
 refine ⟨h.below.trans ⟨hos, htape, hout, by omega, fun i hi => hother i (by omega)⟩, fun b' k'' hm => ?_, by simpa using h.nodup, fun b' o hb' hg => ?_⟩
 rotate_left
 ·by_cases e : b' = b
  ·subst e
   rw [hg] at hk
   exact cool_of hcool hk
  ·rw [hother b' e] at hg
   exact h.cool b' o hb' hg
 rcases List.mem_append.1 hm with hm1 | hm1
 ·obtain ⟨h1, h2⟩ := h.own _ _ (List.mem_append_left _ hm1)
  have hne : b' ≠ b := fun e => hnd.2.2 b' (List.mem_map.2 ⟨_, hm1, rfl⟩) b (by simp) e
  exact ⟨h1, by rw [hother b' hne]; exact h2⟩
 ·rcases List.mem_cons.1 hm1 with e | hm2
  ·cases e
   exact ⟨hb, hk⟩
  ·obtain ⟨h1, h2⟩ := h.own _ _ (List.mem_append_right _ (List.mem_cons_of_mem _ hm2))
   have hne : b' ≠ b := fun e => hnd.2.1.1 (e ▸ List.mem_map.2 ⟨_, hm2, rfl⟩)
   exact ⟨h1, by rw [hother b' hne]; exact h2⟩
end sat
def Know.cell : Know → Nat → Option Value
 | .exact (.cells C _ _), o => C[o]?
 | .row cs _ _, o => cs[o]?
 | _, _ => none
inductive Rd (w0 : World) (G : Hp) : Nat → Nat → Value → Prop
 | old {b o : Nat} {v : Value} (h : w0.cell? ⟨b, o, none⟩ = some v) : Rd w0 G b o v
 | own {b o : Nat} {v : Value} {k : Know} (hm : (b, k) ∈ G) (h : k.cell o = some v) : Rd w0 G b o v
theorem Rd.cell {w0 w : World} {G : Hp} (hs : Sat w0 G w) {b o : Nat} {v : Value} (h : Rd w0 G b o v) : w.cell? ⟨b, o, none⟩ = some v := by
 cases h with
 | old h => exact (hs.below.cell (World.block_lt_of_cell? _ _ h)).trans h
 | own hm h =>
  rename_i k
  have hk := (hs.own b k hm).2
  cases k with
  | exact ob =>
   cases ob <;> simp only [Know.cell, reduceCtorEq] at h
   simp only [Know.holds] at hk
   simp [World.cell?, hk, h]
  | row cs e room =>
   obtain ⟨C, hC, _, hh⟩ := hk
   simp only [Know.cell] at h
   simp [World.cell?, hC, hh o v h]
def Rds (w0 : World) (G : Hp) (b o : Nat) (cs : List Value) : Prop := ∀ (j : Nat) v, cs[j]? = some v → Rd w0 G b (o + j) v
theorem add_none (b o j : Nat) : (⟨b, o, none⟩ : Addr).add j = ⟨b, o + j, none⟩ := by
 unfold Addr.add
 split
 ·subst_vars; rfl
 ·rfl
theorem Rds.load {w0 w : World} {G : Hp} {P : Program} (hs : Sat w0 G w) {b o : Nat} {cs : List Value} (h : Rds w0 G b o cs) : (loadCells ⟨b, o, none⟩ cs.length).run P w = .ok cs.toArray w :=
 run_loadCells_list w ⟨b, o, none⟩ cs (fun j v hv => by rw [add_none]; exact (h j v hv).cell hs)
def Fw (r : Option Nat) : Fence := { fn := fun _ => True, depth := none, alive := false, round := r }
abbrev Fr := List (Nat × Value)
abbrev Post := Exit → Fr → List Deferred → Hp → Prop
structure Cx where
 P : Program
 w0 : World
 r : Option Nat
 nt : Nat
def Lands (X : Cx) (Q : Post) : Exit → Act → World → Prop := fun e a w => ∃ fr ds G, FRep X.nt fr ds a ∧ Sat X.w0 G w ∧ Q e fr ds G
def GW (X : Cx) (c : Code) (Q : Post) (fr : Fr) (ds : List Deferred) (G : Hp) : Prop :=
 ∀ n a w, FRep X.nt fr ds a → Sat X.w0 G w → c.wpIn (Fw X.r) n X.P (Lands X Q) a w
def GOps (X : Cx) (ops : Array Oper) (Q : Post) (l : List Oper) (fr : Fr) (ds : List Deferred) (G : Hp) : Prop :=
 ∀ n a w, FRep X.nt fr ds a → Sat X.w0 G w → wpListIn (Fw X.r) n X.P ops (Lands X Q) l a w
def Hs (G G' : Hp) : Prop := ∀ w0 w, Sat w0 G w → Sat w0 G' w
theorem Hs.refl (G : Hp) : Hs G G := fun _ _ h => h
theorem Hs.sub {G G' : Hp} (h : G'.Sublist G) : Hs G G' := fun _ _ hs => hs.sub h
theorem Hs.perm {G G' : Hp} (h : G'.Perm G) : Hs G G' := fun _ _ hs => hs.perm h
theorem Hs.trans {G G' G'' : Hp} (h : Hs G G') (h' : Hs G' G'') : Hs G G'' := fun _ _ hs => h' _ _ (h _ _ hs)
def Post.then (K : Fr → List Deferred → Hp → Prop) (Q : Post) : Post
 | .normal, fr, ds, G => K fr ds G
 | e, fr, ds, G => Q e fr ds G
def Post.inBlock (id : Nat) (Q : Post) : Post
 | .exit id', fr, ds, G => if id' = id then Q .normal fr ds G else Q (.exit id') fr ds G
 | e, fr, ds, G => Q e fr ds G
theorem wpListIn_mono' {F : Fence} {n : Nat} {P : Program} {ops : Array Oper} {Q Q' : Exit → Act → World → Prop} {l : List Oper} {a : Act} {w : World} (h : wpListIn F n P ops Q l a w) (hq : ∀ e a w, Q e a w → Q' e a w) : wpListIn F n P ops Q' l a w := by
 induction l generalizing a w with
 | nil => exact hq _ _ _ h
 | cons o l ih =>
  simp only [wpListIn] at h ⊢
  split
  ·rename_i hw
   rw [if_pos hw] at h
   unfold Oper.wpIn at *
   refine ⟨h.1, ?_⟩
   have h := h.2
   generalize (o.semAt F.round a.eval).run P w = r at *
   cases r with
   | ok x w' =>
    cases x <;> simp only [Oper.uponIn] at h ⊢ <;>
     first
      | exact ih h
      | exact ⟨h.1, CallsIn.mono h.2 (fun e w'' he => by
        cases e with
        | returned v => exact ih he
        | panicked c => exact hq _ _ _ he
        | outgrown => exact ⟨he.choose, he.choose_spec.choose, hq _ _ _ he.choose_spec.choose_spec⟩)⟩
      | exact ⟨h.1, RowsIn.mono h.2 (fun _ _ he => ih he)⟩
      | exact ⟨h.1, RoundIn.mono h.2 (fun e w'' he => by
        cases e with
        | returned v => exact ih he
        | panicked c => exact hq _ _ _ he
        | outgrown => exact ⟨he.choose, he.choose_spec.choose, hq _ _ _ he.choose_spec.choose_spec⟩)⟩
   | halt x w' => cases x <;> simp only [Oper.uponIn] at h ⊢ <;> first | exact h.elim | exact hq _ _ _ h
  ·rename_i hw
   rw [if_neg hw] at h
   exact ⟨h.1, ih h.2⟩
section rules
variable {X : Cx} {Q : Post} {fr fr' : Fr} {ds : List Deferred} {G G' : Hp} {x y c : Code}
theorem GW.weak (hk : Keeps fr fr') (hs : Hs G G') (h : GW X c Q fr' ds G') : GW X c Q fr ds G := fun n a w hf hw => h n a w (hf.weak hk) (hs _ _ hw)
theorem GW.mono {Q' : Post} (h : GW X c Q fr ds G) (hq : ∀ e fr ds G, Q e fr ds G → Q' e fr ds G) : GW X c Q' fr ds G :=
 fun n a w hf hw => wpIn_mono (h n a w hf hw) fun _ _ _ ⟨fr, ds, G, h1, h2, h3⟩ => ⟨fr, ds, G, h1, h2, hq _ _ _ _ h3⟩
theorem GW.skip (h : Q .normal fr ds G) : GW X .skip Q fr ds G := fun _ _ _ hf hw => wpIn_skip ⟨_, _, _, hf, hw, h⟩
theorem GW.label {l : Nat} (h : Q .normal fr ds G) : GW X (.label l) Q fr ds G := fun _ _ _ hf hw => wpIn_label ⟨_, _, _, hf, hw, h⟩
theorem GW.exit {id : Nat} (h : Q (.exit id) fr ds G) : GW X (.exit id) Q fr ds G := fun _ _ _ hf hw => wpIn_exit ⟨_, _, _, hf, hw, h⟩
theorem GW.goto {l : Nat} (h : Q (.goto l) fr ds G) : GW X (.goto l) Q fr ds G := fun _ _ _ hf hw => wpIn_goto ⟨_, _, _, hf, hw, h⟩
theorem GW.ret (h : Q .ret fr ds G) : GW X .ret Q fr ds G := fun _ _ _ hf hw => wpIn_ret ⟨_, _, _, hf, hw, h⟩
theorem GW.seq (h : GW X x (Post.then (GW X y Q) Q) fr ds G) : GW X (.seq x y) Q fr ds G := fun n a w hf hw =>
 wpIn_seq (wpIn_mono (h n a w hf hw) fun e a w ⟨fr, ds, G, h1, h2, h3⟩ => by
  cases e with
  | normal => exact h3 n a w h1 h2
  | _ => exact ⟨fr, ds, G, h1, h2, h3⟩)
theorem GW.cond {o : Operand} {t : Bool} (hc : evO fr o = some (.bool t)) (h : GW X (if t then x else y) Q fr ds G) : GW X (.cond o x y) Q fr ds G := fun n a w hf hw =>
 wpIn_cond (hf.eval hc) (h n a w hf hw)
theorem GW.cond_t {o : Operand} (hc : evO fr o = some (.bool true)) (h : GW X x Q fr ds G) : GW X (.cond o x y) Q fr ds G := GW.cond hc h
theorem GW.cond_f {o : Operand} (hc : evO fr o = some (.bool false)) (h : GW X y Q fr ds G) : GW X (.cond o x y) Q fr ds G := GW.cond hc h
theorem GW.ite {o : Operand} {t : Bool} (hc : evO fr o = some (.bool t)) (h1 : t = true → GW X x Q fr ds G) (h2 : t = false → GW X y Q fr ds G) : GW X (.cond o x y) Q fr ds G := by
 cases t with
 | true => exact GW.cond_t hc (h1 rfl)
 | false => exact GW.cond_f hc (h2 rfl)
theorem GW.block {id : Nat} (h : GW X c (Post.inBlock id Q) fr ds G) : GW X (.block id c) Q fr ds G := fun n a w hf hw =>
 wpIn_block (wpIn_mono (h n a w hf hw) fun e a w ⟨fr, ds, G, h1, h2, h3⟩ => by
  cases e with
  | exit id' =>
   simp only [Post.inBlock] at h3
   simp only [Exit.inBlock]
   split
   ·rename_i e; subst e; rw [if_pos rfl] at h3; exact ⟨fr, ds, G, h1, h2, h3⟩
   ·rename_i e; rw [if_neg e] at h3; exact ⟨fr, ds, G, h1, h2, h3⟩
  | _ => exact ⟨fr, ds, G, h1, h2, h3⟩)
theorem least_of {p : Nat → Prop} : ∀ n, p n → ∃ k, p k ∧ ∀ j, p j → k ≤ j := by
 intro n
 induction n using Nat.strongRecOn with
 | _ n ih =>
  intro hn
  by_cases h : ∃ j, j < n ∧ p j
  ·obtain ⟨j, hj, hp⟩ := h
   exact ih j hj hp
  ·exact ⟨n, hn, fun j hj => Nat.le_of_not_lt fun hlt => h ⟨j, hlt, hj⟩⟩
open Classical in
noncomputable def least (p : Nat → Prop) : Nat := if h : ∃ k, p k ∧ ∀ j, p j → k ≤ j then h.choose else 0
theorem least_spec {p : Nat → Prop} {n : Nat} (h : p n) : p (least p) ∧ ∀ j, p j → least p ≤ j := by
 unfold least
 rw [dif_pos (least_of n h)]
 exact (least_of n h).choose_spec
theorem GW.loop (Inv : Nat → Fr → List Deferred → Hp → Prop) {k : Nat} (h0 : Inv k fr ds G)
  (hb : ∀ k fr ds G, Inv k fr ds G → GW X c (Post.then (fun fr ds G => ∃ j, j < k ∧ Inv j fr ds G) Q) fr ds G) : GW X (.loop c) Q fr ds G := fun n a w hf hw => by
 let S : Act → World → Nat → Prop := fun a w k => ∃ fr ds G, FRep X.nt fr ds a ∧ Sat X.w0 G w ∧ Inv k fr ds G
 refine wpIn_loop (fun a w => ∃ k, S a w k) (fun a w => least (S a w)) ⟨k, fr, ds, G, hf, hw, h0⟩ ?_
 rintro a w ⟨k1, hS⟩
 obtain ⟨fr1, ds1, G1, h1, h2, h3⟩ := (least_spec hS).1
 refine wpIn_mono (hb _ fr1 ds1 G1 h3 n a w h1 h2) ?_
 rintro e a' w' ⟨fr2, ds2, G2, g1, g2, g3⟩
 cases e with
 | normal =>
  obtain ⟨j, hj, hI⟩ := g3
  have hS' : S a' w' j := ⟨fr2, ds2, G2, g1, g2, hI⟩
  exact ⟨⟨j, hS'⟩, Nat.lt_of_le_of_lt ((least_spec hS').2 j hS') hj⟩
 | _ => exact ⟨fr2, ds2, G2, g1, g2, g3⟩
theorem GW.loopI {ι : Type} (FR : ι → Fr) (GG : ι → Hp) (μ : ι → Nat) (I : ι → Prop) (i0 : ι) (hk : Keeps fr (FR i0)) (hs : Hs G (GG i0)) (h0 : I i0)
  (hb : ∀ i, I i → GW X c (Post.then (fun fr' ds' G' => ∃ j, μ j < μ i ∧ I j ∧ ds' = ds ∧ Keeps fr' (FR j) ∧ Hs G' (GG j)) Q) (FR i) ds (GG i)) : GW X (.loop c) Q fr ds G := by
 refine GW.weak hk hs (GW.loop (fun k fr' ds' G' => ∃ i, μ i = k ∧ I i ∧ ds' = ds ∧ Keeps fr' (FR i) ∧ Hs G' (GG i)) ⟨i0, Z, h0, Z, Keeps.refl _, Hs.refl _⟩ ?_)
 rintro k fr' ds' G' ⟨i, rfl, hi, rfl, hk', hs'⟩
 refine GW.weak hk' hs' ((hb i hi).mono ?_)
 intro e fr2 ds2 G2 h
 cases e with
 | normal =>
  obtain ⟨j, h1, h2, h3, h4, h5⟩ := h
  exact ⟨μ j, h1, j, rfl, h2, h3, h4, h5⟩
 | _ => exact h
theorem GW.region {id : Nat} {l : List Oper} (h : GOps X l.toArray Q l fr ds G) : GW X (.region id l.toArray false) Q fr ds G := fun n a w hf hw => wpIn_region_lit (h n a w hf hw)
variable {ops : Array Oper} {o : Oper} {rest : List Oper}
def wantedO (ops : Array Oper) (fr : Fr) (o : Oper) : Option Bool :=
 match o.guard with
 | none => some true
 | some (j, want) =>
  match (ops[j]?).bind (·.dst) with
  | none => none
  | some d =>
   match lk fr d with
   | some (.bool c) => some (c == want)
   | some _ => some false
   | none => none
theorem wanted_of {a : Act} {b : Bool} (hf : FRep X.nt fr ds a) (h : wantedO ops fr o = some b) : Region.wanted o (yielded ops a.tmps) = b := by
 unfold wantedO at h
 unfold Region.wanted
 cases hg : o.guard with
 | none => simp only [hg, Option.some.injEq] at h; exact h
 | some g =>
  obtain ⟨j, want⟩ := g
  simp only [hg] at h ⊢
  cases hd : (ops[j]?).bind (·.dst) with
  | none => simp [hd] at h
  | some d =>
   simp only [hd] at h
   unfold yielded
   rw [hd]
   cases hl : lk fr d with
   | none => simp [hl] at h
   | some v =>
    have := hf.look d v hl
    cases v with
    | bool c =>
     simp only [hl, Option.some.injEq] at h
     simp only [Option.bind_some, this]
     rw [← h]
     cases c <;> cases want <;> rfl
    | _ =>
     simp only [hl, Option.some.injEq] at h
     simp only [Option.bind_some, this]
     rw [← h]
     cases want <;> rfl
theorem GOps.nil (h : Q .normal fr ds G) : GOps X ops Q [] fr ds G := fun _ _ _ hf hw => wpListIn_nil ⟨_, _, _, hf, hw, h⟩
theorem GOps.weak (hk : Keeps fr fr') (hs : Hs G G') {l : List Oper} (h : GOps X ops Q l fr' ds G') : GOps X ops Q l fr ds G := fun n a w hf hw => h n a w (hf.weak hk) (hs _ _ hw)
theorem GOps.skip {d : Nat} (hw : wantedO ops fr o = some false) (hd : o.dst = some d) (hlt : Nat.blt d X.nt = true) (h : GOps X ops Q rest ((d, undef) :: fr) ds G) : GOps X ops Q (o :: rest) fr ds G := fun n a w hf hs => by
 simp only [wpListIn, wanted_of hf hw, Bool.false_eq_true, if_false]
 refine ⟨fun _ _ => trivial, ?_⟩
 rw [hd]
 exact h n _ w (hf.put (Nat.le_of_ble_eq_true hlt) undef) hs
theorem GOps.step {d : Nat} {v : Value} {G' : Hp} (hw : wantedO ops fr o = some true) (hd : o.dst = some d) (hlt : d < X.nt) (hnd : ∀ c, o.op ≠ .defer c)
  (hrun : ∀ (ρ : Operand → Value) w, (∀ x v, evO fr x = some v → ρ x = v) → Sat X.w0 G w → ∃ w', (execOp ρ o).run X.P w = .ok (.value v) w' ∧ Sat X.w0 G' w')
  (h : GOps X ops Q rest ((d, v) :: fr) ds G') : GOps X ops Q (o :: rest) fr ds G := fun n a w hf hs => by
 simp only [wpListIn, wanted_of hf hw, if_true]
 obtain ⟨w', hr, hs'⟩ := hrun a.eval w (fun x v hx => hf.eval hx) hs
 refine ⟨fun _ _ => trivial, ?_⟩
 rw [Oper.semAt_eq _ _ _ hnd, hr, Oper.uponIn_value, hd]
 exact h n _ w' (hf.put hlt v) hs'
theorem GOps.unit {G' : Hp} (hw : wantedO ops fr o = some true) (hd : o.dst = none) (hnd : ∀ c, o.op ≠ .defer c)
  (hrun : ∀ (ρ : Operand → Value) w, (∀ x v, evO fr x = some v → ρ x = v) → Sat X.w0 G w → ∃ w', (execOp ρ o).run X.P w = .ok .skip w' ∧ Sat X.w0 G' w')
  (h : GOps X ops Q rest fr ds G') : GOps X ops Q (o :: rest) fr ds G := fun n a w hf hs => by
 simp only [wpListIn, wanted_of hf hw, if_true]
 obtain ⟨w', hr, hs'⟩ := hrun a.eval w (fun x v hx => hf.eval hx) hs
 refine ⟨fun _ _ => trivial, ?_⟩
 rw [Oper.semAt_eq _ _ _ hnd, hr, Oper.uponIn_skip, hd]
 exact h n _ w' hf hs'
theorem GW.cutB (d : Nat) (t : Bool) (fr' : Fr) {id : Nat} {l : List Oper} (h1 : GOps X l.toArray (fun e fr1 ds1 G1 => e = .normal ∧ ds1 = ds ∧ Keeps fr1 fr' ∧ Hs G1 G' ∧ lk fr1 d = some (.bool t)) l fr ds G)
  (h2 : GW X y Q ((d, .bool t) :: fr') ds G') : GW X (.seq (.region id l.toArray false) y) Q fr ds G := by
 refine GW.seq (GW.region (fun n a w hf hs => ?_))
 refine wpListIn_mono' (h1 n a w hf hs) ?_
 rintro e a' w' ⟨fr1, ds1, G1, hf1, hs1, rfl, rfl, hk, hh, hd⟩
 exact ⟨(d, .bool t) :: fr', _, G', hf1.weak (Keeps.cons hd hk), hh _ _ hs1, h2⟩
end rules
end Go.Proofs.YtfddkcmooommeaaGreatDoor.Gl
end
section
namespace Go.Proofs.YtfddkcmooommeaaGreatDoor.Gl
open Go.RowKit
theorem run_und {P : Program} {t : TypeId} {dsc : TypeDesc} (hu : P.underlying t = some dsc) (w : World) : (Go.underlying t).run P w = .ok dsc w := by
 simp only [Go.underlying, program, Sem.run_bind, Sem.run, Result.andThen_ok, hu]
 rfl
structure At (X : Cx) (ops : Array Oper) (fr : Fr) (o : Oper) (op : Op) (d : Nat) : Prop where
 op : o.op = op
 dst : o.dst = some d
 lt : Nat.blt d X.nt = true
 on : wantedO ops fr o = some true
section rules
variable {X : Cx} {Q : Post} {fr : Fr} {ds : List Deferred} {G : Hp} {ops : Array Oper} {o : Oper} {rest : List Oper} {d : Nat}
theorem R.val {op : Op} {v : Value} (h : At X ops fr o op d) (hnd : ∀ c, op ≠ .defer c)
  (hrun : ∀ (ρ : Operand → Value) w, (∀ x v, evO fr x = some v → ρ x = v) → Sat X.w0 G w → (execOp ρ o).run X.P w = .ok (.value v) w)
  (K : GOps X ops Q rest ((d, v) :: fr) ds G) : GOps X ops Q (o :: rest) fr ds G :=
 GOps.step h.on h.dst (Nat.le_of_ble_eq_true h.lt) (fun c => by rw [h.op]; exact hnd c) (fun ρ w hρ hw => ⟨w, hrun ρ w hρ hw, hw⟩) K
theorem R.move {x : Operand} {v : Value} (h : At X ops fr o (.move x) d) (hx : evO fr x = some v) (K : GOps X ops Q rest ((d, v) :: fr) ds G) : GOps X ops Q (o :: rest) fr ds G :=
 R.val h (by simp) (fun ρ w hρ hw => by simp [execOp, h.op, hρ _ _ hx]) K
theorem R.assign {x : Operand} {v : Value} (h : At X ops fr o (.assign x) d) (hx : evO fr x = some v) (K : GOps X ops Q rest ((d, v) :: fr) ds G) : GOps X ops Q (o :: rest) fr ds G :=
 R.val h (by simp) (fun ρ w hρ hw => by simp [execOp, h.op, hρ _ _ hx]) K
theorem R.pick_t {c x y : Operand} {v : Value} (h : At X ops fr o (.pick c x y) d) (hc : evO fr c = some (.bool true)) (hx : evO fr x = some v) (K : GOps X ops Q rest ((d, v) :: fr) ds G) : GOps X ops Q (o :: rest) fr ds G :=
 R.val h (by simp) (fun ρ w hρ hw => by simp [execOp, h.op, hρ _ _ hx, hρ _ _ hc, asBool]) K
theorem R.pick_f {c x y : Operand} {v : Value} (h : At X ops fr o (.pick c x y) d) (hc : evO fr c = some (.bool false)) (hy : evO fr y = some v) (K : GOps X ops Q rest ((d, v) :: fr) ds G) : GOps X ops Q (o :: rest) fr ds G :=
 R.val h (by simp) (fun ρ w hρ hw => by simp [execOp, h.op, hρ _ _ hy, hρ _ _ hc, asBool]) K
theorem R.bin {b : BinOp} {t u : TypeId} {x y : Operand} {p q v : Value} (h : At X ops fr o (.binOp b t x y u) d) (hx : evO fr x = some p) (hy : evO fr y = some q)
  (hrun : ∀ w, Sat X.w0 G w → (do eqGuard b t x y p q; binOp b t p q : Sem Value).run X.P w = .ok v w) (K : GOps X ops Q rest ((d, v) :: fr) ds G) : GOps X ops Q (o :: rest) fr ds G :=
 R.val h (by simp) (fun ρ w hρ hw => by
  have := hrun w hw
  simp only [execOp, h.op, hρ _ _ hx, hρ _ _ hy]
  rw [Sem.run_bind, this]
  rfl) K
theorem run_guard_int (b : BinOp) (t : TypeId) (x y : Operand) (k k' : IntKind) (m n : Int) (P : Program) (w : World) : (eqGuard b t x y (.int k m) (.int k' n)).run P w = .ok () w := by
 unfold eqGuard; cases b <;> simp
theorem run_guard_string (b : BinOp) (t : TypeId) (x y : Operand) (m n : ByteArray) (P : Program) (w : World) : (eqGuard b t x y (.string m) (.string n)).run P w = .ok () w := by
 unfold eqGuard; cases b <;> simp
theorem run_guard_bool (b : BinOp) (t : TypeId) (x y : Operand) (m n : Bool) (P : Program) (w : World) : (eqGuard b t x y (.bool m) (.bool n)).run P w = .ok () w := by
 unfold eqGuard; cases b <;> simp
theorem R.binI {b : BinOp} {t u : TypeId} {x y : Operand} {k : IntKind} {m n : Int} {v : Value} (h : At X ops fr o (.binOp b t x y u) d) (hx : evO fr x = some (.int k m)) (hy : evO fr y = some (.int k n))
  (hrun : ∀ w, (binOp b t (.int k m) (.int k n)).run X.P w = .ok v w) (K : GOps X ops Q rest ((d, v) :: fr) ds G) : GOps X ops Q (o :: rest) fr ds G :=
 R.bin h hx hy (fun w _ => by rw [Sem.run_bind, run_guard_int]; exact hrun w) K
theorem R.add {t u : TypeId} {x y : Operand} {k : IntKind} {m n r : Int} (h : At X ops fr o (.binOp .add t x y u) d) (hx : evO fr x = some (.int k m)) (hy : evO fr y = some (.int k n)) (hr : k.wrap (m + n) = r)
  (K : GOps X ops Q rest ((d, .int k r) :: fr) ds G) : GOps X ops Q (o :: rest) fr ds G := R.binI h hx hy (fun w => by simp [binOp, Op.intArith, hr]) K
theorem R.sub {t u : TypeId} {x y : Operand} {k : IntKind} {m n r : Int} (h : At X ops fr o (.binOp .sub t x y u) d) (hx : evO fr x = some (.int k m)) (hy : evO fr y = some (.int k n)) (hr : k.wrap (m - n) = r)
  (K : GOps X ops Q rest ((d, .int k r) :: fr) ds G) : GOps X ops Q (o :: rest) fr ds G := R.binI h hx hy (fun w => by simp [binOp, Op.intArith, hr]) K
theorem R.mul {t u : TypeId} {x y : Operand} {k : IntKind} {m n r : Int} (h : At X ops fr o (.binOp .mul t x y u) d) (hx : evO fr x = some (.int k m)) (hy : evO fr y = some (.int k n)) (hr : k.wrap (m * n) = r)
  (K : GOps X ops Q rest ((d, .int k r) :: fr) ds G) : GOps X ops Q (o :: rest) fr ds G := R.binI h hx hy (fun w => by simp [binOp, Op.intArith, hr]) K
theorem R.lss {t u : TypeId} {x y : Operand} {k : IntKind} {m n : Int} (h : At X ops fr o (.binOp .lss t x y u) d) (hx : evO fr x = some (.int k m)) (hy : evO fr y = some (.int k n))
  (K : GOps X ops Q rest ((d, .bool (decide (m < n))) :: fr) ds G) : GOps X ops Q (o :: rest) fr ds G := R.binI h hx hy (fun w => by cases k <;> simp [binOp, Op.intCmp]) K
theorem R.leq {t u : TypeId} {x y : Operand} {k : IntKind} {m n : Int} (h : At X ops fr o (.binOp .leq t x y u) d) (hx : evO fr x = some (.int k m)) (hy : evO fr y = some (.int k n))
  (K : GOps X ops Q rest ((d, .bool (decide (m ≤ n))) :: fr) ds G) : GOps X ops Q (o :: rest) fr ds G := R.binI h hx hy (fun w => by cases k <;> simp [binOp, Op.intCmp]) K
theorem R.gtr {t u : TypeId} {x y : Operand} {k : IntKind} {m n : Int} (h : At X ops fr o (.binOp .gtr t x y u) d) (hx : evO fr x = some (.int k m)) (hy : evO fr y = some (.int k n))
  (K : GOps X ops Q rest ((d, .bool (decide (m > n))) :: fr) ds G) : GOps X ops Q (o :: rest) fr ds G := R.binI h hx hy (fun w => by cases k <;> simp [binOp, Op.intCmp]) K
theorem R.geq {t u : TypeId} {x y : Operand} {k : IntKind} {m n : Int} (h : At X ops fr o (.binOp .geq t x y u) d) (hx : evO fr x = some (.int k m)) (hy : evO fr y = some (.int k n))
  (K : GOps X ops Q rest ((d, .bool (decide (m ≥ n))) :: fr) ds G) : GOps X ops Q (o :: rest) fr ds G := R.binI h hx hy (fun w => by cases k <;> simp [binOp, Op.intCmp]) K
theorem R.eqI {t u : TypeId} {x y : Operand} {k : IntKind} {m n : Int} (h : At X ops fr o (.binOp .eql t x y u) d) (hx : evO fr x = some (.int k m)) (hy : evO fr y = some (.int k n))
  (K : GOps X ops Q rest ((d, .bool (decide (m = n))) :: fr) ds G) : GOps X ops Q (o :: rest) fr ds G := R.binI h hx hy (fun w => by cases k <;> (simp [binOp, Op.intCmp]; rfl)) K
theorem R.neI {t u : TypeId} {x y : Operand} {k : IntKind} {m n : Int} (h : At X ops fr o (.binOp .neq t x y u) d) (hx : evO fr x = some (.int k m)) (hy : evO fr y = some (.int k n))
  (K : GOps X ops Q rest ((d, .bool (decide (m ≠ n))) :: fr) ds G) : GOps X ops Q (o :: rest) fr ds G := R.binI h hx hy (fun w => by cases k <;> (simp [binOp, Op.intCmp, bne]; rfl)) K
theorem R.bits {b : BinOp} {t u : TypeId} {x y : Operand} {k : IntKind} {m n r : Int} (hb : b = .and ∨ b = .or ∨ b = .xor ∨ b = .andNot) (h : At X ops fr o (.binOp b t x y u) d) (hx : evO fr x = some (.int k m)) (hy : evO fr y = some (.int k n)) (hr : Go.bits b k m n = r)
  (K : GOps X ops Q rest ((d, .int k r) :: fr) ds G) : GOps X ops Q (o :: rest) fr ds G := R.binI h hx hy (fun w => by subst hr; rcases hb with rfl | rfl | rfl | rfl <;> cases k <;> simp [binOp, Op.intBits, Go.bits]) K
theorem R.and {t u : TypeId} {x y : Operand} {k : IntKind} {m n r : Int} (h : At X ops fr o (.binOp .and t x y u) d) (hx : evO fr x = some (.int k m)) (hy : evO fr y = some (.int k n)) (hr : Go.bits .and k m n = r)
  (K : GOps X ops Q rest ((d, .int k r) :: fr) ds G) : GOps X ops Q (o :: rest) fr ds G := R.bits (.inl rfl) h hx hy hr K
theorem R.or {t u : TypeId} {x y : Operand} {k : IntKind} {m n r : Int} (h : At X ops fr o (.binOp .or t x y u) d) (hx : evO fr x = some (.int k m)) (hy : evO fr y = some (.int k n)) (hr : Go.bits .or k m n = r)
  (K : GOps X ops Q rest ((d, .int k r) :: fr) ds G) : GOps X ops Q (o :: rest) fr ds G := R.bits (.inr (.inl rfl)) h hx hy hr K
theorem R.shl {t u : TypeId} {x y : Operand} {k k' : IntKind} {m n r : Int} (h : At X ops fr o (.binOp .shl t x y u) d) (hx : evO fr x = some (.int k m)) (hy : evO fr y = some (.int k' n)) (h0 : 0 ≤ n) (hr : k.wrap (m * 2 ^ (min n.toNat k.bits)) = r)
  (K : GOps X ops Q rest ((d, .int k r) :: fr) ds G) : GOps X ops Q (o :: rest) fr ds G :=
 R.bin h hx hy (fun w _ => by rw [Sem.run_bind, run_guard_int]; subst hr; simp [binOp, Op.shift, show ¬ n < 0 by omega]) K
theorem R.quo {t u : TypeId} {x y : Operand} {k : IntKind} {m n r : Int} (h : At X ops fr o (.binOp .quo t x y u) d) (hx : evO fr x = some (.int k m)) (hy : evO fr y = some (.int k n)) (h0 : n ≠ 0) (hr : k.wrap (m.tdiv n) = r)
  (K : GOps X ops Q rest ((d, .int k r) :: fr) ds G) : GOps X ops Q (o :: rest) fr ds G := R.binI h hx hy (fun w => by simp [binOp, Op.intDiv, hr, h0]) K
theorem R.rem {t u : TypeId} {x y : Operand} {k : IntKind} {m n r : Int} (h : At X ops fr o (.binOp .rem t x y u) d) (hx : evO fr x = some (.int k m)) (hy : evO fr y = some (.int k n)) (h0 : n ≠ 0) (hr : m.tmod n = r)
  (K : GOps X ops Q rest ((d, .int k r) :: fr) ds G) : GOps X ops Q (o :: rest) fr ds G := R.binI h hx hy (fun w => by simp [binOp, Op.intDiv, hr, h0]) K
theorem R.conv {s t : TypeId} {x : Operand} {k k' : IntKind} {ts : TypeDesc} {m r : Int} (h : At X ops fr o (.convert s t x) d) (hx : evO fr x = some (.int k m)) (hs : X.P.underlying s = some ts) (ht : X.P.underlying t = some (.int k')) (hr : k'.wrap m = r)
  (K : GOps X ops Q rest ((d, .int k' r) :: fr) ds G) : GOps X ops Q (o :: rest) fr ds G :=
 R.val h (by simp) (fun ρ w hρ hw => by subst hr; simp [execOp, h.op, hρ _ _ hx, convert, run_und hs, run_und ht, Conv.intToInt]) K
theorem R.not {t : TypeId} {x : Operand} {b : Bool} (h : At X ops fr o (.unOp .not t x) d) (hx : evO fr x = some (.bool b)) (K : GOps X ops Q rest ((d, .bool (!b)) :: fr) ds G) : GOps X ops Q (o :: rest) fr ds G :=
 R.val h (by simp) (fun ρ w hρ hw => by simp [execOp, h.op, hρ _ _ hx, Op.unary]) K
theorem R.eqS {t u : TypeId} {x y : Operand} {m n : ByteArray} (h : At X ops fr o (.binOp .eql t x y u) d) (hx : evO fr x = some (.string m)) (hy : evO fr y = some (.string n))
  (K : GOps X ops Q rest ((d, .bool (m.toList == n.toList)) :: fr) ds G) : GOps X ops Q (o :: rest) fr ds G :=
 R.bin h hx hy (fun w _ => by rw [Sem.run_bind, run_guard_string]; simp [binOp, Op.stringOp]) K
theorem R.neS {t u : TypeId} {x y : Operand} {m n : ByteArray} (h : At X ops fr o (.binOp .neq t x y u) d) (hx : evO fr x = some (.string m)) (hy : evO fr y = some (.string n))
  (K : GOps X ops Q rest ((d, .bool (!(m.toList == n.toList))) :: fr) ds G) : GOps X ops Q (o :: rest) fr ds G :=
 R.bin h hx hy (fun w _ => by rw [Sem.run_bind, run_guard_string]; simp [binOp, Op.stringOp]) K
end rules
def isA : TypeDesc → Bool
 | .struct _ | .array _ _ => true
 | _ => false
section mem
variable {P : Program} {w0 w : World} {G : Hp}
theorem run_isAgg {t : TypeId} {dsc : TypeDesc} (hu : P.underlying t = some dsc) : (isAgg t).run P w = .ok (isA dsc) w := by
 simp only [isAgg, Go.underlying, program, Sem.run_bind, Sem.run, Result.andThen_ok, hu]
 cases dsc <;> simp [isA]
theorem run_loadVar_one {t : TypeId} {dsc : TypeDesc} (hu : P.underlying t = some dsc) (ha : isA dsc = false) {b o : Nat} {v : Value} (hs : Sat w0 G w) (h : Rd w0 G b o v) : (loadVar t ⟨b, o, none⟩).run P w = .ok v w := by
 have hc := h.cell hs
 simp only [loadVar, Sem.run_bind, run_isAgg hu, ha, Result.andThen_ok]
 simp [hc]
theorem run_loadVar_agg {t : TypeId} {dsc : TypeDesc} (hu : P.underlying t = some dsc) (ha : isA dsc = true) {b o : Nat} {cs : List Value} (hz : ∀ w, (sizeOf t).run P w = .ok cs.length w) (hs : Sat w0 G w) (h : Rds w0 G b o cs) : (loadVar t ⟨b, o, none⟩).run P w = .ok (.agg cs.toArray) w := by
 have hl := h.load (P := P) hs
 simp only [loadVar, Sem.run_bind, run_isAgg hu, ha, Result.andThen_ok, if_true, hz, hl]
 simp
theorem run_sureAddr (a : Addr) : (Instr.sureAddr (.pointer (some a))).run P w = .ok a w := rfl
def splice (C : Array Value) (o : Nat) (cs : List Value) : Array Value := (C.toList.take o ++ cs ++ C.toList.drop (o + cs.length)).toArray
theorem run_storeVar_at {t : TypeId} {b o : Nat} {C : Array Value} {e : TypeId} {v : Value} {n : Nat} (hz : ∀ w, (sizeOf t).run P w = .ok n w) (hn : v.cells.size = n) (hg : w.heap[b]? = some (.cells C e (0, 0))) (hl : o + n ≤ C.size) (h1 : v.cells.toList.all (·.oneCell') = true) :
  (storeVar t ⟨b, o, none⟩ v).run P w = .ok () (w.setRow b (splice C o v.cells.toList)) := by
 have := run_storeCells_at (P := P) b o e v.cells.toList 0 C w hg (by simpa [hn] using hl) (fun x hx => (List.all_eq_true.1 h1) x hx)
 simp only [storeVar, Sem.run_bind, hz, Result.andThen_ok, hn, ne_eq, not_true_eq_false, if_false]
 simp only [Nat.add_zero] at this
 exact this
theorem Sat.setRow {G1 G2 : Hp} {b : Nat} {C C' : Array Value} {e : TypeId} (h : Sat w0 (G1 ++ (b, .exact (.cells C e (0, 0))) :: G2) w) : Sat w0 (G1 ++ (b, .exact (.cells C' e (0, 0))) :: G2) (w.setRow b C') := by
 have hb := (h.own b _ (List.mem_append_right _ List.mem_cons_self)).2
 simp only [Know.holds] at hb
 refine h.turn rfl rfl rfl ?_ (fun i hi => ?_) (setRow_heap w b C C' e (0, 0) hb)
 ·simp [World.setRow]
 ·simp only [World.setRow, Array.getElem?_modify]
  rw [if_neg (fun e => hi e.symm)]
end mem
section memrules
variable {X : Cx} {Q : Post} {fr : Fr} {ds : List Deferred} {G : Hp} {ops : Array Oper} {o : Oper} {rest : List Oper} {d : Nat}
theorem R.load1 {t : TypeId} {x : Operand} {b f : Nat} {v : Value} {dsc : TypeDesc} (h : At X ops fr o (.load t x) d) (hx : evO fr x = some (.pointer (some ⟨b, f, none⟩))) (hu : X.P.underlying t = some dsc) (ha : isA dsc = false) (hr : Rd X.w0 G b f v)
  (K : GOps X ops Q rest ((d, v) :: fr) ds G) : GOps X ops Q (o :: rest) fr ds G :=
 R.val h (by simp) (fun ρ w hρ hw => by simp [execOp, h.op, hρ _ _ hx, Instr.loadAt, run_sureAddr, run_loadVar_one hu ha hw hr]) K
theorem R.loadA {t : TypeId} {x : Operand} {b f n : Nat} {cs : List Value} {dsc : TypeDesc} (h : At X ops fr o (.load t x) d) (hx : evO fr x = some (.pointer (some ⟨b, f, none⟩))) (hu : X.P.underlying t = some dsc) (ha : isA dsc = true) (hz : ∀ w, (sizeOf t).run X.P w = .ok n w) (hr : Rds X.w0 G b f cs) (hn : cs.length = n)
  (K : GOps X ops Q rest ((d, .agg cs.toArray) :: fr) ds G) : GOps X ops Q (o :: rest) fr ds G := by
 subst hn
 exact R.val h (by simp) (fun ρ w hρ hw => by simp [execOp, h.op, hρ _ _ hx, Instr.loadAt, run_sureAddr, run_loadVar_agg hu ha hz hw hr]) K
theorem run_newVar {P : Program} {w : World} (t : TypeId) (v : Value) : (newVar t v).run P w = .ok ⟨w.heap.size, 0, none⟩ (w.alloc (.cells v.cells t)) := by
 simp [newVar, newRow, newObj, Sem.run]
theorem R.stepW {op : Op} (h : At X ops fr o op d) (hnd : ∀ c, op ≠ .defer c)
  (hrun : ∀ (ρ : Operand → Value) w, (∀ x v, evO fr x = some v → ρ x = v) → Sat X.w0 G w → ∃ v G' w', (execOp ρ o).run X.P w = .ok (.value v) w' ∧ Sat X.w0 G' w' ∧ GOps X ops Q rest ((d, v) :: fr) ds G') : GOps X ops Q (o :: rest) fr ds G := fun n a w hf hs => by
 obtain ⟨v, G', w', hr, hs', K⟩ := hrun a.eval w (fun x v hx => hf.eval hx) hs
 simp only [wpListIn, wanted_of hf h.on, if_true]
 refine ⟨fun _ _ => trivial, ?_⟩
 rw [Oper.semAt_eq _ _ _ (fun c => by rw [h.op]; exact hnd c), hr, Oper.uponIn_value, h.dst]
 exact K n _ w' (hf.put (Nat.le_of_ble_eq_true h.lt) v) hs'
theorem R.alloc {t : TypeId} {z : Value} (h : At X ops fr o (.alloc t) d) (hz : ∀ w, (zeroValue t).run X.P w = .ok z w)
  (K : ∀ b, GOps X ops Q rest ((d, .pointer (some ⟨b, 0, none⟩)) :: fr) ds ((b, .exact (.cells z.cells t)) :: G)) : GOps X ops Q (o :: rest) fr ds G :=
 R.stepW h (by simp) fun ρ w hρ hw => ⟨_, _, _, by simp [execOp, h.op, Instr.alloc, hz, run_newVar], hw.alloc _, K w.heap.size⟩
theorem R.box {t : TypeId} {x : Operand} {v : Value} (h : At X ops fr o (.box t x) d) (hx : evO fr x = some v)
  (K : ∀ b, GOps X ops Q rest ((d, .pointer (some ⟨b, 0, none⟩)) :: fr) ds ((b, .exact (.cells v.cells t)) :: G)) : GOps X ops Q (o :: rest) fr ds G :=
 R.stepW h (by simp) fun ρ w hρ hw => ⟨_, _, _, by simp [execOp, h.op, Instr.box, hρ _ _ hx, run_newVar], hw.alloc _, K w.heap.size⟩
theorem R.store {t : TypeId} {x y : Operand} {b f n : Nat} {v : Value} {G1 G2 : Hp} {C : Array Value} {e : TypeId} (ho : o.op = .store t x y) (hd : o.dst = none) (hon : wantedO ops fr o = some true)
  (hx : evO fr x = some (.pointer (some ⟨b, f, none⟩))) (hy : evO fr y = some v) (hz : ∀ w, (sizeOf t).run X.P w = .ok n w) (hn : v.cells.size = n) (h1 : v.cells.toList.all (·.oneCell') = true)
  (hG : G = G1 ++ (b, .exact (.cells C e (0, 0))) :: G2) (hl : f + n ≤ C.size) (K : GOps X ops Q rest fr ds (G1 ++ (b, .exact (.cells (splice C f v.cells.toList) e (0, 0))) :: G2)) : GOps X ops Q (o :: rest) fr ds G := by
 subst hG
 exact GOps.unit hon hd (fun c => by rw [ho]; simp) (fun ρ w hρ hw => by
  have hb := (hw.own b _ (List.mem_append_right _ List.mem_cons_self)).2
  exact ⟨_, by simp [execOp, ho, hρ _ _ hx, hρ _ _ hy, Instr.storeAt, run_sureAddr, run_storeVar_at hz hn hb hl h1], hw.setRow⟩) K
theorem R.storeAll {t : TypeId} {x y : Operand} {b n : Nat} {v : Value} {G1 G2 : Hp} {C : Array Value} {e : TypeId} (ho : o.op = .store t x y) (hd : o.dst = none) (hon : wantedO ops fr o = some true)
  (hx : evO fr x = some (.pointer (some ⟨b, 0, none⟩))) (hy : evO fr y = some v) (hz : ∀ w, (sizeOf t).run X.P w = .ok n w) (hn : v.cells.size = n) (h1 : v.cells.toList.all (·.oneCell') = true)
  (hG : G = G1 ++ (b, .exact (.cells C e (0, 0))) :: G2) (hl : C.size = n) (K : GOps X ops Q rest fr ds (G1 ++ (b, .exact (.cells v.cells e (0, 0))) :: G2)) : GOps X ops Q (o :: rest) fr ds G := by
 refine R.store ho hd hon hx hy hz hn h1 hG (by omega) ?_
 have : splice C 0 v.cells.toList = v.cells := by
  simp only [splice, List.take_zero, List.nil_append, Nat.zero_add]
  rw [List.drop_eq_nil_of_le (by simp; omega)]
  simp
 rw [this]
 exact K
theorem R.fieldAddr {s : TypeId} {x : Operand} {i b f n : Nat} {fs : Array Field} {fld : Field} (h : At X ops fr o (.fieldAddr s x i) d) (hx : evO fr x = some (.pointer (some ⟨b, f, none⟩))) (hu : X.P.underlying s = some (.struct fs)) (hf : fs[i]? = some fld)
  (hz : ∀ w, (sizeOf fld.type).run X.P w = .ok (n + 1) w) (K : GOps X ops Q rest ((d, .pointer (some ⟨b, f + fld.offset, none⟩)) :: fr) ds G) : GOps X ops Q (o :: rest) fr ds G :=
 R.val h (by simp) (fun ρ w hρ hw => by
  simp [execOp, h.op, hρ _ _ hx, Instr.fieldAt, run_und hu, hf, run_sureAddr, fieldPlace, hz, add_none]) K
theorem R.indexAddrS {t e : TypeId} {x y : Operand} {k : IntKind} {b f n c z : Nat} {i : Int} (h : At X ops fr o (.indexAddr t x y) d) (hx : evO fr x = some (.slice (some ⟨b, f, none⟩) n c)) (hy : evO fr y = some (.int k i)) (hu : X.P.underlying t = some (.slice e))
  (hz : ∀ w, (sizeOf e).run X.P w = .ok z w) (h0 : 0 ≤ i) (h1 : i < n) (K : GOps X ops Q rest ((d, .pointer (some ⟨b, f + i.toNat * z, none⟩)) :: fr) ds G) : GOps X ops Q (o :: rest) fr ds G :=
 R.val h (by simp) (fun ρ w hρ hw => by
  simp [execOp, h.op, hρ _ _ hx, hρ _ _ hy, Instr.indexAt, asIntOf, run_und hu, hz, h0, h1, add_none]) K
theorem R.indexAddrA {t e : TypeId} {x y : Operand} {k : IntKind} {b f n z : Nat} {i : Int} (h : At X ops fr o (.indexAddr t x y) d) (hx : evO fr x = some (.pointer (some ⟨b, f, none⟩))) (hy : evO fr y = some (.int k i)) (hu : X.P.underlying t = some (.array n e))
  (hz : ∀ w, (sizeOf e).run X.P w = .ok z w) (h0 : 0 ≤ i) (h1 : i < n) (K : GOps X ops Q rest ((d, .pointer (some ⟨b, f + i.toNat * z, none⟩)) :: fr) ds G) : GOps X ops Q (o :: rest) fr ds G :=
 R.val h (by simp) (fun ρ w hρ hw => by
  simp [execOp, h.op, hρ _ _ hx, hρ _ _ hy, Instr.indexAt, asIntOf, run_und hu, hz, h0, h1, run_sureAddr, add_none]) K
theorem GOps.caseB (d : Nat) {t : Bool} {l : List Oper} (hd : lk fr d = some (.bool t)) (h1 : t = true → GOps X ops Q l ((d, .bool true) :: fr) ds G) (h2 : t = false → GOps X ops Q l ((d, .bool false) :: fr) ds G) : GOps X ops Q l fr ds G := by
 have hk : Keeps fr ((d, .bool t) :: fr) := Keeps.cons hd (Keeps.refl _)
 cases t with
 | true => exact GOps.weak hk (Hs.refl _) (h1 rfl)
 | false => exact GOps.weak hk (Hs.refl _) (h2 rfl)
theorem GOps.to (fr' : Fr) {l : List Oper} (h : GOps X ops Q l fr' ds G) (hk : Keeps fr fr' := by repeat (first | exact Keeps.nil _ | refine Keeps.cons rfl ?_)) : GOps X ops Q l fr ds G := GOps.weak hk (Hs.refl _) h
theorem R.build {t : TypeId} {parts : Array (Nat × Operand)} {vs : List (Nat × Value)} {cells : Array Value} (h : At X ops fr o (.build t parts) d) (hp : parts.toList.map (fun p => (evO fr p.2).map fun v => (p.1, v)) = vs.map some)
  (hb : ∀ w, (Instr.build t vs.toArray).run X.P w = .ok (.agg cells) w) (K : GOps X ops Q rest ((d, .agg cells) :: fr) ds G) : GOps X ops Q (o :: rest) fr ds G :=
 R.val h (by simp) (fun ρ w hρ hw => by
  have e : parts.map (fun p => (p.1, ρ p.2)) = vs.toArray := by
   obtain ⟨l⟩ := parts
   simp only [List.map_toArray]
   congr 1
   simp only at hp
   clear K hb h
   induction l generalizing vs with
   | nil => cases vs with
    | nil => rfl
    | cons v vs => simp at hp
   | cons x l ih => cases vs with
    | nil => simp at hp
    | cons v vs =>
     simp only [List.map_cons, List.cons.injEq, Option.map_eq_some_iff] at hp
     obtain ⟨⟨u, hu, rfl⟩, h2⟩ := hp
     rw [List.map_cons, hρ _ _ hu, ih h2]
  have e' : (parts.map fun (i, x) => (i, ρ x)) = vs.toArray := e
  simp only [execOp, h.op, e', Sem.run_bind, hb w, Result.andThen_ok]
  rfl) K
theorem R.eqA {t u : TypeId} {x y : Operand} {p q : Array Value} {r : Bool} (h : At X ops fr o (.binOp .eql t x y u) d) (hx : evO fr x = some (.agg p)) (hy : evO fr y = some (.agg q))
  (hg : ∀ w, (eqGuard .eql t x y (.agg p) (.agg q)).run X.P w = .ok () w) (he : ∀ w, (Op.equal t (.agg p) (.agg q)).run X.P w = .ok r w)
  (K : GOps X ops Q rest ((d, .bool r) :: fr) ds G) : GOps X ops Q (o :: rest) fr ds G :=
 R.bin h hx hy (fun w _ => by rw [Sem.run_bind, hg w]; simp [binOp, he w]) K
theorem R.neA {t u : TypeId} {x y : Operand} {p q : Array Value} {r : Bool} (h : At X ops fr o (.binOp .neq t x y u) d) (hx : evO fr x = some (.agg p)) (hy : evO fr y = some (.agg q))
  (hg : ∀ w, (eqGuard .neq t x y (.agg p) (.agg q)).run X.P w = .ok () w) (he : ∀ w, (Op.equal t (.agg p) (.agg q)).run X.P w = .ok r w)
  (K : GOps X ops Q rest ((d, .bool (!r)) :: fr) ds G) : GOps X ops Q (o :: rest) fr ds G :=
 R.bin h hx hy (fun w _ => by rw [Sem.run_bind, hg w]; simp [binOp, he w]) K
theorem run_equalIn_bool {P : Program} {w : World} {t : TypeId} (hu : P.underlying t = some .bool) (n : Nat) (p q : Bool) : (Op.equalIn (n + 1) t (.bool p) (.bool q)).run P w = .ok (p == q) w := by
 rw [Op.equalIn, Sem.run_bind, run_und hu]
 rfl
theorem run_equalIn_int {P : Program} {w : World} {t : TypeId} {k : IntKind} (hu : P.underlying t = some (.int k)) (n : Nat) (k' : IntKind) (p q : Int) : (Op.equalIn (n + 1) t (.int k' p) (.int k' q)).run P w = .ok (p == q) w := by
 rw [Op.equalIn, Sem.run_bind, run_und hu]
 simp
theorem run_equalIn_string {P : Program} {w : World} {t : TypeId} (hu : P.underlying t = some .string) (n : Nat) (p q : ByteArray) : (Op.equalIn (n + 1) t (.string p) (.string q)).run P w = .ok (p == q) w := by
 rw [Op.equalIn, Sem.run_bind, run_und hu]
 rfl
theorem R.eqB {t u : TypeId} {x y : Operand} {p q : Bool} (h : At X ops fr o (.binOp .eql t x y u) d) (hx : evO fr x = some (.bool p)) (hy : evO fr y = some (.bool q)) (hu : X.P.underlying t = some .bool)
  (K : GOps X ops Q rest ((d, .bool (p == q)) :: fr) ds G) : GOps X ops Q (o :: rest) fr ds G :=
 R.bin h hx hy (fun w _ => by rw [Sem.run_bind, run_guard_bool]; rw [show (binOp .eql t (.bool p) (.bool q)) = (Op.equalIn (9999 + 1) t (.bool p) (.bool q)) >>= (fun b => pure (.bool b)) from rfl, Result.andThen_ok, Sem.run_bind, run_equalIn_bool hu]; rfl) K
theorem R.extract {x : Operand} {i : Nat} {vs : Array Value} {v : Value} (h : At X ops fr o (.extract x i) d) (hx : evO fr x = some (.tuple vs)) (hv : vs[i]? = some v) (K : GOps X ops Q rest ((d, v) :: fr) ds G) : GOps X ops Q (o :: rest) fr ds G :=
 R.val h (by simp) (fun ρ w hρ hw => by simp [execOp, h.op, hρ _ _ hx, Instr.extract, hv]) K
theorem R.makeFunc {fn : Fn} {first cap : Array Operand} {vs us : List Value} (h : At X ops fr o (.makeFunc fn first cap) d) (h1 : first.toList.map (evO fr) = vs.map some) (h2 : cap.toList.map (evO fr) = us.map some)
  (K : GOps X ops Q rest ((d, .func fn vs.toArray us.toArray) :: fr) ds G) : GOps X ops Q (o :: rest) fr ds G :=
 R.val h (by simp) (fun ρ w hρ hw => by
  have e1 : ∀ {xs : Array Operand} {vs : List Value}, xs.toList.map (evO fr) = vs.map some → xs.map ρ = vs.toArray := by
   rintro ⟨l⟩ vs hl
   simp only [List.map_toArray]
   congr 1
   simp only at hl
   induction l generalizing vs with
   | nil => cases vs with
    | nil => rfl
    | cons v vs => simp at hl
   | cons x l ih => cases vs with
    | nil => simp at hl
    | cons v vs =>
     simp only [List.map_cons, List.cons.injEq] at hl
     rw [List.map_cons, hρ x v hl.1, ih hl.2]
  simp [execOp, h.op, e1 h1, e1 h2, Instr.makeFunc]) K
def bs (s : ByteArray) : List Nat := s.data.toList.map (·.toNat)
theorem bs_length (s : ByteArray) : (bs s).length = s.size := by unfold bs; rw [List.length_map, Array.length_toList]; rfl
theorem bs_lt (s : ByteArray) (i c : Nat) (h : (bs s)[i]? = some c) : c < 256 := by
 unfold bs at h
 rw [List.getElem?_map] at h
 cases hx : s.data.toList[i]? with
 | none => simp [hx] at h
 | some x => simp only [hx, Option.map_some, Option.some.injEq] at h; subst h; exact x.toNat_lt
theorem bs_some (s : ByteArray) (i : Nat) (h : i < s.size) : ∃ c, (bs s)[i]? = some c ∧ c < 256 := by
 have hl : i < (bs s).length := by rw [bs_length]; exact h
 exact ⟨_, List.getElem?_eq_getElem hl, bs_lt s i _ (List.getElem?_eq_getElem hl)⟩
theorem R.indexStr {t : TypeId} {x y : Operand} {k : IntKind} {s : ByteArray} {i : Int} {c : Nat} (h : At X ops fr o (.index t x y) d) (hx : evO fr x = some (.string s)) (hy : evO fr y = some (.int k i)) (hu : X.P.underlying t = some .string)
  (h0 : 0 ≤ i) (hc : (bs s)[i.toNat]? = some c) (K : GOps X ops Q rest ((d, .int .u8 (c : Int)) :: fr) ds G) : GOps X ops Q (o :: rest) fr ds G :=
 R.val h (by simp) (fun ρ w hρ hw => by
  have hc' : ∃ u : UInt8, s[i.toNat]? = some u ∧ u.toNat = c := by
   obtain ⟨⟨l⟩⟩ := s
   simp only [bs, List.getElem?_map, Option.map_eq_some_iff] at hc
   obtain ⟨u, hu, rfl⟩ := hc
   have hlt : i.toNat < l.length := (List.getElem?_eq_some_iff.1 hu).1
   refine ⟨u, ?_, rfl⟩
   have := (List.getElem?_eq_some_iff.1 hu).2
   simp only [getElem?_def, ByteArray.size, Array.size, hlt, dif_pos]
   congr 1
  obtain ⟨u, hu', rfl⟩ := hc'
  simp [execOp, h.op, hρ _ _ hx, hρ _ _ hy, Instr.index, asIntOf, run_und hu, h0, hu']) K
theorem R.indexStrA {t : TypeId} {x y : Operand} {k : IntKind} {s : ByteArray} {i : Int} (h : At X ops fr o (.index t x y) d) (hx : evO fr x = some (.string s)) (hy : evO fr y = some (.int k i)) (hu : X.P.underlying t = some .string)
  (h0 : 0 ≤ i) (h1 : i < s.size) (K : ∀ c : Nat, (bs s)[i.toNat]? = some c → c < 256 → GOps X ops Q rest ((d, .int .u8 (c : Int)) :: fr) ds G) : GOps X ops Q (o :: rest) fr ds G := by
 obtain ⟨c, hc, hb⟩ := bs_some s i.toNat (by omega)
 exact R.indexStr h hx hy hu h0 hc (K c hc hb)
theorem R.load_own {t : TypeId} {x : Operand} {b f n : Nat} {C : Array Value} {e : TypeId} {z : Nat × Nat} {dsc : TypeDesc} {cs : List Value} (h : At X ops fr o (.load t x) d) (hx : evO fr x = some (.pointer (some ⟨b, f, none⟩))) (hu : X.P.underlying t = some dsc) (ha : isA dsc = true) (hz : ∀ w, (sizeOf t).run X.P w = .ok n w)
  (hm : (b, Know.exact (.cells C e z)) ∈ G) (hc : (C.toList.drop f).take n = cs) (hn : cs.length = n)
  (K : GOps X ops Q rest ((d, .agg cs.toArray) :: fr) ds G) : GOps X ops Q (o :: rest) fr ds G := by
 refine R.loadA h hx hu ha hz (fun j v hv => .own hm ?_) hn K
 subst hc
 have hj : j < n := by
  rcases Nat.lt_or_ge j n with hj | hj
  ·exact hj
  ·rw [List.getElem?_eq_none (by omega)] at hv; cases hv
 rw [List.getElem?_take_of_lt hj, List.getElem?_drop] at hv
 simpa [Know.cell] using hv
theorem R.lenS {t : TypeId} {x : Operand} {A : Option Addr} {n c : Nat} {e : TypeId} {ats : Array TypeId} (h : At X ops fr o (.call { callee := .builtin .len, args := #[x], argTypes := ats }) d) (hat : ats[0]? = some t) (hx : evO fr x = some (.slice A n c)) (hu : X.P.underlying t = some (.slice e))
  (K : GOps X ops Q rest ((d, .int .i64 n) :: fr) ds G) : GOps X ops Q (o :: rest) fr ds G :=
 R.val h (by simp) (fun ρ w hρ hw => by
  simp [execOp, h.op, resolve, invoke, builtin, Builtin.len_, hρ _ _ hx, hat, run_und hu, goInt]) K
theorem R.lenStr {t : TypeId} {x : Operand} {s : ByteArray} {ats : Array TypeId} (h : At X ops fr o (.call { callee := .builtin .len, args := #[x], argTypes := ats }) d) (hat : ats[0]? = some t) (hx : evO fr x = some (.string s)) (hu : X.P.underlying t = some .string)
  (K : GOps X ops Q rest ((d, .int .i64 s.size) :: fr) ds G) : GOps X ops Q (o :: rest) fr ds G :=
 R.val h (by simp) (fun ρ w hρ hw => by
  simp [execOp, h.op, resolve, invoke, builtin, Builtin.len_, hρ _ _ hx, hat, run_und hu, goInt]) K
end memrules
end Go.Proofs.YtfddkcmooommeaaGreatDoor.Gl
end
section
namespace Go.Proofs.YtfddkcmooommeaaGreatDoor.Gl
open Go.RowKit Go.Shelf
set_option linter.unusedVariables false
set_option linter.unnecessarySimpa false
set_option linter.unusedSimpArgs false
def GC (P : Program) (w0 : World) (f : FuncId) (args : Array Value) (R : Value → Hp → Prop) (G : Hp) : Prop :=
 Enters P f ∧ ∀ n w, Sat w0 G w → CallsIn (Fw none) n P f args w fun e w' => ∃ v G', e = .returned v ∧ Sat w0 G' w' ∧ R v G'
theorem GC.mono {P : Program} {w0 : World} {f : FuncId} {args : Array Value} {R R' : Value → Hp → Prop} {G : Hp} (h : GC P w0 f args R G) (hr : ∀ v G, R v G → R' v G) : GC P w0 f args R' G :=
 ⟨h.1, fun n w hw => (h.2 n w hw).mono fun _ _ ⟨v, G', e, hs, hR⟩ => ⟨v, G', e, hs, hr _ _ hR⟩⟩
theorem GC.weak {P : Program} {w0 : World} {f : FuncId} {args : Array Value} {R : Value → Hp → Prop} {G G' : Hp} (hs : Hs G G') (h : GC P w0 f args R G') : GC P w0 f args R G :=
 ⟨h.1, fun n w hw => h.2 n w (hs _ _ hw)⟩
section
variable {X : Cx} {Q : Post} {fr : Fr} {ds : List Deferred} {G : Hp} {ops : Array Oper} {o : Oper} {rest : List Oper} {d : Nat}
theorem args_of {ρ : Operand → Value} {xs : Array Operand} {vs : List Value} (hρ : ∀ x v, evO fr x = some v → ρ x = v) (hxs : xs.toList.map (evO fr) = vs.map some) : xs.map ρ = vs.toArray := by
 obtain ⟨l⟩ := xs
 simp only [List.map_toArray]
 congr 1
 simp only at hxs
 induction l generalizing vs with
 | nil => cases vs with
  | nil => rfl
  | cons v vs => simp at hxs
 | cons x l ih => cases vs with
  | nil => simp at hxs
  | cons v vs =>
   simp only [List.map_cons, List.cons.injEq] at hxs
   rw [List.map_cons, hρ x v hxs.1, ih hxs.2]
theorem R.call {cf : Operand} {xs : Array Operand} {ats : Array TypeId} {f : FuncId} {first cap : Array Value} {vs : List Value} (h : At X ops fr o (.call { callee := .value cf, args := xs, argTypes := ats }) d)
  (hcf : evO fr cf = some (.func (.func f) first cap)) (hxs : xs.toList.map (evO fr) = vs.map some) (hc : GC X.P X.w0 f (first ++ vs.toArray ++ cap) (fun v G' => GOps X ops Q rest ((d, v) :: fr) ds G') G) : GOps X ops Q (o :: rest) fr ds G := fun n a w hf hs => by
 have hρ : ∀ x v, evO fr x = some v → a.eval x = v := fun x v hx => hf.eval hx
 simp only [wpListIn, wanted_of hf h.on, if_true]
 refine ⟨fun _ _ => trivial, ?_⟩
 have hrun : (execOp a.eval o).run X.P w = .ok (.enter f (first ++ vs.toArray ++ cap)) w := by
  have he := hc.1 (first ++ vs.toArray ++ cap) w
  simp only [execOp, h.op, resolve, hρ _ _ hcf, args_of hρ hxs, Deferred.ofValue, Sem.run_bind, Sem.run_pure, Result.andThen_ok, invoke]
  exact he
 rw [Oper.semAt_eq _ _ _ (fun c => by rw [h.op]; simp), hrun, Oper.uponIn_enter]
 refine ⟨fun hd => by simp [Fw] at hd, ?_⟩
 have hcall : CallsIn (Fw X.r) (n - 1) X.P f (first ++ vs.toArray ++ cap) w _ := hc.2 (n - 1) w hs
 refine hcall.mono ?_
 rintro e w' ⟨v, G', rfl, hs', hK⟩
 rw [h.dst]
 exact hK n _ w' (hf.put (Nat.le_of_ble_eq_true h.lt) v) hs'
end
def Res (X : Cx) (fn : Func) (fr : Fr) (G : Hp) (v : Value) : Prop := ∀ a w ds, FRep X.nt fr ds a → Sat X.w0 G w → (results fn a.tmps).run X.P w = .ok v w
def Marks (K : Hp → Prop) : List Deferred → Hp → Prop
 | [], G => K G
 | d :: ds, G => ∃ D G1 G2, d.target = .collected D ∧ G = G1 ++ (D, .exact (.deferred (some []))) :: G2 ∧ Marks K ds (G1 ++ G2)
def Out (X : Cx) (fn : Func) (R : Value → Hp → Prop) : Post := fun e fr ds G => (e = .normal ∨ e = .ret) ∧ Marks (fun G' => ∃ v G'', Hs G' G'' ∧ Res X fn fr G' v ∧ R v G'') ds G
def frOf : Nat → List Value → Fr
 | _, [] => []
 | i, v :: vs => (i, v) :: frOf (i + 1) vs
theorem lk_frOf : ∀ (vs : List Value) (i j : Nat) (v : Value), lk (frOf i vs) j = some v → i ≤ j ∧ vs[j - i]? = some v
 | [], i, j, v, h => by simp [frOf, lk] at h
 | u :: vs, i, j, v, h => by
  rw [frOf, lk_cons] at h
  split at h
  ·rename_i e; subst e; simpa using h
  ·rename_i e
   obtain ⟨h1, h2⟩ := lk_frOf vs (i + 1) j v h
   refine ⟨by omega, ?_⟩
   rw [show j - i = (j - (i + 1)) + 1 by omega]
   simpa using h2
theorem Sat.drop {w0 w : World} {G1 G2 : Hp} {b : Nat} {k : Know} (h : Sat w0 (G1 ++ (b, k) :: G2) w) : Sat w0 (G1 ++ G2) w :=
 h.sub (List.Sublist.append (List.Sublist.refl _) (List.sublist_cons_self _ _))
theorem leaves_of_marks {X : Cx} {fn : Func} {R : Value → Hp → Prop} {n : Nat} {fr : Fr} {dd : List Deferred} {a : Act} (hf : FRep X.nt fr dd a) : ∀ (ds : List Deferred) (G : Hp) (w : World),
  Marks (fun G' => ∃ v G'', Hs G' G'' ∧ Res X fn fr G' v ∧ R v G'') ds G → Sat X.w0 G w → LeavesInM (Fw none) n X.P fn a.tmps (fun e w' => ∃ v G', e = .returned v ∧ Sat X.w0 G' w' ∧ R v G') ds .returning w
 | [], G, w, ⟨v, G'', hh, hr, hR⟩, hs => ⟨v, hr a w dd hf hs, v, G'', rfl, hh _ _ hs, hR⟩
 | d :: ds, G, w, ⟨D, G1, G2, ht, hG, hm⟩, hs => by
  subst hG
  refine ⟨by simp, .inl ⟨D, { w with heap := w.heap.setIfInBounds D (.deferred none) }, ht, ?_, leaves_of_marks hf ds (G1 ++ G2) _ hm ?_⟩⟩
  ·have hD := (hs.own D _ (List.mem_append_right _ List.mem_cons_self)).2
   simp only [Know.holds] at hD
   simp [Instr.takeDeferred, getObj, setObj, Sem.run, hD]
  ·have hD := (hs.own D _ (List.mem_append_right _ List.mem_cons_self)).2
   simp only [Know.holds] at hD
   have hlt : D < w.heap.size := (Array.getElem?_eq_some_iff.1 hD).1
   refine (Sat.turn (w' := { w with heap := w.heap.setIfInBounds D (.deferred none) }) (k' := .exact (.deferred none)) hs rfl rfl rfl (by simp) (fun i hi => ?_) ?_).drop
   ·rw [Array.getElem?_setIfInBounds, if_neg (fun e => hi e.symm)]
   ·simp [Know.holds, hlt]
theorem GC.body {P : Program} {w0 : World} {f : FuncId} {fn : Func} {c : Code} {args : List Value} {R : Value → Hp → Prop} {G : Hp} (hf : P.funcs[f]? = some fn) (hb : fn.body = some c) (hname : (fn.name == "runtime.NumGoroutine") = false)
  (hn : Nat.ble args.length fn.ntmps = true) (h : GW ⟨P, w0, none, fn.ntmps⟩ c (Out ⟨P, w0, none, fn.ntmps⟩ fn R) (frOf 0 args) [] G) : GC P w0 f args.toArray R G := by
 refine ⟨enters_of hf hname hb, fun n w hw => ?_⟩
 have hle := Nat.le_of_ble_eq_true hn
 refine callsIn_of_wp_marks hf hb trivial ?_
 refine wpIn_mono (h n _ w ⟨?_, ?_, rfl⟩ hw) ?_
 ·simp; omega
 ·intro i v hv
  obtain ⟨_, h2⟩ := lk_frOf args 0 i v hv
  have hi : i < args.length := by
   rcases Nat.lt_or_ge i args.length with hi | hi
   ·exact hi
   ·rw [List.getElem?_eq_none (by omega)] at h2; cases h2
  simp only [Nat.sub_zero] at h2
  rw [Array.getElem?_append_left (by simpa using hi)]
  simpa using h2
 ·rintro e a' w' ⟨fr, ds, G', h1, h2, he, hm⟩
  have := leaves_of_marks (n := n) h1 ds G' w' hm h2
  rw [← h1.defers] at this
  rcases he with rfl | rfl
  ·exact this
  ·exact this
theorem Res.one {X : Cx} {fn : Func} {t : Tmp} {fr : Fr} {G : Hp} {v : Value} (hr : fn.results = #[.tmp t]) (hv : lk fr t = some v) : Res X fn fr G v := fun a w ds hf hs => by
 rw [results_tmp hr]
 simp [Array.getD_eq_getD_getElem?, hf.look t v hv]
theorem Res.two {X : Cx} {fn : Func} {t u : Tmp} {fr : Fr} {G : Hp} {v v' : Value} (hr : fn.results = #[.tmp t, .tmp u]) (hv : lk fr t = some v) (hv' : lk fr u = some v') : Res X fn fr G (.tuple #[v, v']) := fun a w ds hf hs => by
 rw [results_tmp2 hr]
 simp [Array.getD_eq_getD_getElem?, hf.look t v hv, hf.look u v' hv']
theorem Res.none {X : Cx} {fn : Func} {fr : Fr} {G : Hp} (hr : fn.results = #[]) : Res X fn fr G (.tuple #[]) := fun a w ds hf hs => results_none hr _ _ _
theorem Out.of {X : Cx} {fn : Func} {R : Value → Hp → Prop} {fr : Fr} {G G' : Hp} {v : Value} (hr : Res X fn fr G v) (hs : Hs G G') (h : R v G') : Out X fn R .ret fr [] G := ⟨.inr rfl, v, G', hs, hr, h⟩
theorem Out.end_ {X : Cx} {fn : Func} {R : Value → Hp → Prop} {fr : Fr} {G G' : Hp} {v : Value} (hr : Res X fn fr G v) (hs : Hs G G') (h : R v G') : Out X fn R .normal fr [] G := ⟨.inl rfl, v, G', hs, hr, h⟩
theorem Hs.tl {G : Hp} (x : Nat × Know) : Hs (x :: G) G := Hs.sub (List.sublist_cons_self _ _)
theorem Hs.tl2 {G : Hp} (x y : Nat × Know) : Hs (x :: y :: G) G := (Hs.tl x).trans (Hs.tl y)
theorem Hs.tl3 {G : Hp} (x y z : Nat × Know) : Hs (x :: y :: z :: G) G := (Hs.tl x).trans (Hs.tl2 y z)
theorem hsB {G G' : Hp} (h : Hs G G' := by first | exact Hs.refl _ | exact Hs.tl _ | exact Hs.tl2 _ _ | exact Hs.tl3 _ _ _) : Hs G G' := h
theorem Hs.app {G : Hp} (l : Hp) : Hs (l ++ G) G := Hs.sub (List.sublist_append_right _ _)
theorem hsD {G G' : Hp} (h : Hs G G' := by first | exact Hs.sub subG | exact Hs.refl _ | exact Hs.tl _ | exact Hs.tl2 _ _ | exact Hs.tl3 _ _ _ | exact Hs.app _ | exact Hs.sub (by simp)) : Hs G G' := h
theorem hsC {G G' : Hp} (h : Hs G G' := by first | exact Hs.refl _ | exact Hs.tl _ | exact Hs.tl2 _ _ | exact Hs.tl3 _ _ _ | exact Hs.app _ | exact Hs.sub (by simp)) : Hs G G' := h
theorem hsA {G G' : Hp} (h : Hs G G' := by first | exact Hs.refl _ | exact Hs.tl _ | exact Hs.tl2 _ _ | exact Hs.tl3 _ _ _ | exact (Hs.app _).trans (Hs.tl _) | exact (Hs.app _).trans ((Hs.app _).trans (Hs.tl _))) : Hs G G' := h
end Go.Proofs.YtfddkcmooommeaaGreatDoor.Gl
end
section
namespace Go.Proofs.YtfddkcmooommeaaGreatDoor.Gl
open Go.RowKit Go.Shelf
set_option linter.unusedVariables false
set_option linter.unnecessarySimpa false
set_option linter.unusedSimpArgs false
section
variable {P : Program} {b : Frame} {a : Act} {k : List Item} {cs : List Frame} {w : World}
theorem stepR_scope {c : Code} : step P (lone (b.atR a (.code (.scope c) :: k)) cs w) = .next (lone (b.atR a (.code c :: .inScope c :: k)) cs w) :=
 step_lone_go (by simp [stepG, stepG.exec, Frame.atR])
theorem stepR_inScope {c : Code} : step P (lone (b.atR a (.inScope c :: k)) cs w) = .next (lone (b.atR a k) cs w) :=
 step_lone_go (by simp [stepG, stepG.exec, Frame.atR])
end
def Post.jump (l : Nat) (J : Fr → List Deferred → Hp → Prop) (Q : Post) : Post
 | .goto l', fr, ds, G => l' = l ∧ J fr ds G
 | e, fr, ds, G => Q e fr ds G
def Post.noGoto (Q : Post) : Post
 | .goto _, _, _, _ => False
 | e, fr, ds, G => Q e fr ds G
theorem gotoIn_scope_none {c : Code} {l : Nat} {rest : Code} {k : List Item} (h : findLabel c l = some rest) : gotoIn l (.inScope c :: k) = some (.code rest :: .inScope c :: k) := by simp [gotoIn, h]
theorem GW.scope {X : Cx} {c rest : Code} {Q : Post} {fr : Fr} {ds : List Deferred} {G : Hp} (l : Nat) (J : Fr → List Deferred → Hp → Prop) (hf : findLabel c l = some rest)
  (first : GW X c (Post.jump l J Q) fr ds G) (pass : ∀ fr ds G, J fr ds G → GW X rest (Post.noGoto Q) fr ds G) : GW X (.scope c) Q fr ds G := by
 intro n a w hfr hw b k cs hro hb hr
 have hg : gotoIn l (.inScope c :: k) = some (.code rest :: .inScope c :: k) := gotoIn_scope_none hf
 have h0 : (lone (b.atR a (.code (.scope c) :: k)) cs w).fenced X.P (Fw X.r) := fenced_calm hb hr rfl
 have hend : ∀ a w, (lone (b.atR a (.inScope c :: k)) cs w).fenced X.P (Fw X.r) := fun a w => fenced_calm hb hr rfl
 have second : ∀ a w, (∃ fr ds G, FRep X.nt fr ds a ∧ Sat X.w0 G w ∧ J fr ds G) → ∃ e a' w', Lands X Q e a' w' ∧ ArrivesIn (Machine.fenced X.P (Fw X.r)) X.P (lone (b.atR a (.code rest :: .inScope c :: k)) cs w) b k cs e a' w' := by
  rintro a w ⟨fr, ds, G, h1, h2, h3⟩
  obtain ⟨e, a₁, w₁, ⟨fr1, ds1, G1, g1, g2, g3⟩, harr⟩ := pass fr ds G h3 n a w h1 h2 b (.inScope c :: k) cs hro hb hr
  cases e with
  | normal => exact ⟨.normal, a₁, w₁, ⟨fr1, ds1, G1, g1, g2, g3⟩, StepsIn.trans harr (.one (hend _ _) stepR_inScope)⟩
  | exit id => exact ⟨.exit id, a₁, w₁, ⟨fr1, ds1, G1, g1, g2, g3⟩, fun k' hk => harr.1 k' (by simp [exitTo, hk]), fun hr' hk => harr.2 hr' (by simp [exitTo, hk])⟩
  | goto l' => exact g3.elim
  | ret => exact ⟨_, a₁, w₁, ⟨fr1, ds1, G1, g1, g2, g3⟩, harr⟩
  | panic ch => exact ⟨_, a₁, w₁, ⟨fr1, ds1, G1, g1, g2, g3⟩, harr⟩
  | outgrown => exact ⟨_, a₁, w₁, ⟨fr1, ds1, G1, g1, g2, g3⟩, harr⟩
 obtain ⟨e, a₁, w₁, ⟨fr1, ds1, G1, g1, g2, g3⟩, harr⟩ := first n a w hfr hw b (.inScope c :: k) cs hro hb hr
 cases e with
 | normal => exact ⟨.normal, a₁, w₁, ⟨fr1, ds1, G1, g1, g2, g3⟩, .head h0 stepR_scope (StepsIn.trans harr (.one (hend _ _) stepR_inScope))⟩
 | exit id => exact ⟨.exit id, a₁, w₁, ⟨fr1, ds1, G1, g1, g2, g3⟩, fun k' hk => .head h0 stepR_scope (harr.1 k' (by simp [exitTo, hk])), fun hr' hk => let ⟨k₁, e1, e2⟩ := harr.2 hr' (by simp [exitTo, hk]); ⟨k₁, e1, .head h0 stepR_scope e2⟩⟩
 | goto l' =>
  obtain ⟨rfl, hJ⟩ := g3
  obtain ⟨e₂, a₂, w₂, hq₂, harr₂⟩ := second a₁ w₁ ⟨fr1, ds1, G1, g1, g2, hJ⟩
  exact ⟨e₂, a₂, w₂, hq₂, .of_steps (.head h0 stepR_scope (harr.1 _ hg)) harr₂⟩
 | ret => exact ⟨_, a₁, w₁, ⟨fr1, ds1, G1, g1, g2, g3⟩, .of_steps (.one h0 stepR_scope) harr⟩
 | panic ch => exact ⟨_, a₁, w₁, ⟨fr1, ds1, G1, g1, g2, g3⟩, .of_steps (.one h0 stepR_scope) harr⟩
 | outgrown => exact ⟨_, a₁, w₁, ⟨fr1, ds1, G1, g1, g2, g3⟩, .of_steps (.one h0 stepR_scope) harr⟩
section
variable {X : Cx} {Q : Post} {fr : Fr} {ds : List Deferred} {G : Hp} {ops : Array Oper} {o : Oper} {rest : List Oper} {d : Nat}
theorem R.sliceStrL {t : TypeId} {x y : Operand} {k : IntKind} {s : ByteArray} {i : Int} (h : At X ops fr o (.slice t x (some y) none none) d) (hx : evO fr x = some (.string s)) (hy : evO fr y = some (.int k i)) (hu : X.P.underlying t = some .string)
  (h0 : 0 ≤ i) (h1 : i ≤ s.size) (K : GOps X ops Q rest ((d, .string (s.extract i.toNat s.size)) :: fr) ds G) : GOps X ops Q (o :: rest) fr ds G :=
 R.val h (by simp) (fun ρ w hρ hw => by
  have e := run_slice_string_l w t s hu k i h0 h1
  simp only [execOp, h.op, Option.map_some, Option.map_none, hρ _ _ hx, hρ _ _ hy, Instr.sliceAt, Sem.run_bind, run_und hu, Result.andThen_ok, e]
  rfl) K
theorem R.sliceStrH {t : TypeId} {x y : Operand} {k : IntKind} {s : ByteArray} {i : Int} (h : At X ops fr o (.slice t x none (some y) none) d) (hx : evO fr x = some (.string s)) (hy : evO fr y = some (.int k i)) (hu : X.P.underlying t = some .string)
  (h0 : 0 ≤ i) (h1 : i ≤ s.size) (K : GOps X ops Q rest ((d, .string (s.extract 0 i.toNat)) :: fr) ds G) : GOps X ops Q (o :: rest) fr ds G :=
 R.val h (by simp) (fun ρ w hρ hw => by
  have e := run_slice_string_h w t s hu k i h0 h1
  simp only [execOp, h.op, Option.map_some, Option.map_none, hρ _ _ hx, hρ _ _ hy, Instr.sliceAt, Sem.run_bind, run_und hu, Result.andThen_ok, e]
  rfl) K
theorem R.sliceStrLH {t : TypeId} {x y z : Operand} {k k' : IntKind} {s : ByteArray} {i j : Int} (h : At X ops fr o (.slice t x (some y) (some z) none) d) (hx : evO fr x = some (.string s)) (hy : evO fr y = some (.int k i)) (hz : evO fr z = some (.int k' j)) (hu : X.P.underlying t = some .string)
  (h0 : 0 ≤ i) (h1 : i ≤ j) (h2 : j ≤ s.size) (K : GOps X ops Q rest ((d, .string (s.extract i.toNat j.toNat)) :: fr) ds G) : GOps X ops Q (o :: rest) fr ds G :=
 R.val h (by simp) (fun ρ w hρ hw => by
  simp only [execOp, h.op, Option.map_some, Option.map_none, hρ _ _ hx, hρ _ _ hy, hρ _ _ hz, Instr.sliceAt, Sem.run_bind, run_und hu, Result.andThen_ok, Instr.slice, Instr.sliceBounds, Option.isSome_none, Bool.false_eq_true, if_false, Sem.run_pure, Go.run_sliceBound w k' j s.size _ (by omega) h2, Go.run_sliceBound w k i j.toNat _ h0 (by omega)]) K
theorem bs_extract (s : ByteArray) (i j : Nat) : bs (s.extract i j) = ((bs s).drop i).take (j - i) := by
 unfold bs
 rw [← List.map_drop, ← List.map_take]
 congr 1
 rw [ByteArray.data_extract, Array.toList_extract]
end
end Go.Proofs.YtfddkcmooommeaaGreatDoor.Gl
end
section
namespace Go.Proofs.YtfddkcmooommeaaGreatDoor.Gl
open Go.RowKit Go.Shelf
set_option linter.unusedVariables false
set_option linter.unnecessarySimpa false
set_option linter.unusedSimpArgs false
theorem Res.three {X : Cx} {fn : Func} {t u s : Tmp} {fr : Fr} {G : Hp} {v v' v'' : Value} (hr : fn.results = #[.tmp t, .tmp u, .tmp s]) (hv : lk fr t = some v) (hv' : lk fr u = some v') (hv'' : lk fr s = some v'') : Res X fn fr G (.tuple #[v, v', v'']) := fun a w ds hf hs => by
 have h1 := hf.look t v hv
 have h2 := hf.look u v' hv'
 have h3 := hf.look s v'' hv''
 rw [results_tmp3 hr]
 simp [Array.getD_eq_getD_getElem?, h1, h2, h3]
abbrev InfoE (P : Program) (e : TypeId) (sz bytes : Nat) : Prop := (P.info? e).map (fun i => (i.zero.map (·.cells.size), i.size, i.bytes)) = some (some sz, sz, bytes)
theorem InfoE.mk {P : Program} {e : TypeId} {sz bytes : Nat} (h : (P.info? e).map (fun i => (i.zero.map (·.cells.size), i.size, i.bytes)) = some (some sz, sz, bytes)) : InfoE P e sz bytes := h
theorem InfoE.ex {P : Program} {e : TypeId} {sz bytes : Nat} (h : InfoE P e sz bytes) : ∃ i z, P.info? e = some i ∧ i.zero = some z ∧ z.cells.size = sz ∧ i.size = sz ∧ i.bytes = bytes := by
 unfold InfoE at h
 cases hi : P.info? e with
 | none => simp [hi] at h
 | some i =>
  simp only [hi, Option.map_some, Option.some.injEq, Prod.mk.injEq, Option.map_eq_some_iff] at h
  obtain ⟨⟨z, hz, h1⟩, h2, h3⟩ := h
  exact ⟨i, z, rfl, hz, h1, h2, h3⟩
inductive SlAt (sz : Nat) (e : TypeId) (cs : List Value) (n : Nat) : Value → Hp → Prop
 | nil (hn : n = 0) (hc : cs = []) : SlAt sz e cs n (.slice none 0 0) []
 | row (b cap : Nat) (hl : cs.length = n * sz) (hc : n ≤ cap) : SlAt sz e cs n (.slice (some ⟨b, 0, none⟩) n cap) [(b, .row cs e (cap * sz))]
theorem SlAt.len {sz : Nat} {e : TypeId} {cs : List Value} {n : Nat} {v : Value} {H : Hp} (h : SlAt sz e cs n v H) : cs.length = n * sz := by
 cases h with
 | nil hn hc => subst hn hc; simp
 | row b cap hl hc => exact hl
section
variable {X : Cx} {Q : Post} {fr : Fr} {ds : List Deferred} {G : Hp} {ops : Array Oper} {o : Oper} {rest : List Oper} {d : Nat}
theorem parts_of {ρ : Operand → Value} {parts : Array (Nat × Operand)} {vs : List (Nat × Value)} (hρ : ∀ x v, evO fr x = some v → ρ x = v) (hp : parts.toList.map (fun p => (evO fr p.2).map fun v => (p.1, v)) = vs.map some) : (parts.map fun (i, x) => (i, ρ x)) = vs.toArray := by
 have e : parts.map (fun p => (p.1, ρ p.2)) = vs.toArray := by
  obtain ⟨l⟩ := parts
  simp only [List.map_toArray]
  congr 1
  simp only at hp
  induction l generalizing vs with
  | nil => cases vs with
   | nil => rfl
   | cons v vs => simp at hp
  | cons x l ih => cases vs with
   | nil => simp at hp
   | cons v vs =>
    simp only [List.map_cons, List.cons.injEq, Option.map_eq_some_iff] at hp
    obtain ⟨⟨u, hu, rfl⟩, h2⟩ := hp
    rw [List.map_cons, hρ _ _ hu, ih h2]
 exact e
theorem R.buildSlice {t e : TypeId} {len : Nat} {parts : Array (Nat × Operand)} {vs : List (Nat × Value)} {cells : Array Value} (h : At X ops fr o (.buildSlice t len parts) d) (hp : parts.toList.map (fun p => (evO fr p.2).map fun v => (p.1, v)) = vs.map some)
  (hb : ∀ w, (Instr.buildSlice t len vs.toArray).run X.P w = .ok (.slice (some ⟨w.heap.size, 0, none⟩) len len) (w.alloc (.cells cells e)))
  (K : ∀ b, GOps X ops Q rest ((d, .slice (some ⟨b, 0, none⟩) len len) :: fr) ds ((b, .exact (.cells cells e)) :: G)) : GOps X ops Q (o :: rest) fr ds G :=
 R.stepW h (by simp) fun ρ w hρ hw => ⟨_, _, _, by
  simp only [execOp, h.op, parts_of hρ hp, Sem.run_bind, hb w, Result.andThen_ok]
  rfl, hw.alloc _, K w.heap.size⟩
theorem R.buildSliceF {t e : TypeId} {len sz bytes : Nat} {parts : Array (Nat × Operand)} {vs : List Value} {cs : List Value} (h : At X ops fr o (.buildSlice t len parts) d) (hp : parts.toList.map (fun p => (evO fr p.2).map fun v => (p.1, v)) = (vs.zipIdx 0).map fun x => some (x.2, x.1))
  (hu : X.P.underlying t = some (.slice e)) (hi : InfoE X.P e sz bytes) (hl : vs.length = len) (hpos : Nat.ble 1 (len * sz) = true) (hle : Nat.ble (len * sz) 16777216 = true) (h1 : vs.all (fun v => Nat.beq v.cells.size sz) = true) (hcs : (vs.flatMap fun v => v.cells.toList) = cs)
  (K : ∀ b, GOps X ops Q rest ((d, .slice (some ⟨b, 0, none⟩) len len) :: fr) ds ((b, .exact (.cells cs.toArray e (0, 0))) :: G)) : GOps X ops Q (o :: rest) fr ds G := by
 obtain ⟨i, z, hi1, hz, hzs, hs1, hb1⟩ := hi.ex
 have hpos := Nat.le_of_ble_eq_true hpos
 have hle := Nat.le_of_ble_eq_true hle
 have hsz : 0 < sz := by
  rcases Nat.eq_zero_or_pos sz with h0 | h0
  ·subst h0; simp at hpos
  ·exact h0
 subst hl hcs
 refine R.buildSlice (vs := (vs.zipIdx 0).map fun x => (x.2, x.1)) h (by rw [hp, List.map_map]; rfl) (fun w => ?_) K
 refine run_buildSlice w t e _ _ _ i z hu hi1 hz (by rw [hs1]; omega) (by rw [hs1]; omega) ?_
 rw [hs1]
 refine Great.fill_whole hsz vs _ (fun v hv => ?_) (by simp)
 exact Nat.eq_of_beq_eq_true ((List.all_eq_true.1 h1) v hv)
theorem R.minI {x y : Operand} {k k' : IntKind} {m n r : Int} {ats : Array TypeId} (h : At X ops fr o (.call { callee := .builtin .min, args := #[x, y], argTypes := ats }) d) (hx : evO fr x = some (.int k m)) (hy : evO fr y = some (.int k' n)) (hr : min m n = r)
  (K : GOps X ops Q rest ((d, .int k r) :: fr) ds G) : GOps X ops Q (o :: rest) fr ds G :=
 R.val h (by simp) (fun ρ w hρ hw => by
  have := Lib.run_min_ints (P := X.P) w ats o.type k k' m n
  subst hr
  simp [execOp, h.op, resolve, invoke, builtin, hρ _ _ hx, hρ _ _ hy, this]) K
def strOf (l : List Nat) : ByteArray := ⟨(l.map UInt8.ofNat).toArray⟩
theorem bs_strOf {l : List Nat} (h : ∀ c ∈ l, c < 256) : bs (strOf l) = l := by
 simp only [bs, strOf, List.map_map]
 conv => rhs; rw [← List.map_id l]
 refine List.map_congr_left fun c hc => ?_
 simp [Nat.mod_eq_of_lt (h c hc)]
theorem strOf_bs (s : ByteArray) : strOf (bs s) = s := by
 obtain ⟨⟨l⟩⟩ := s
 simp [strOf, bs, List.map_map, Function.comp_def]
theorem bs_inj {s t : ByteArray} (h : bs s = bs t) : s = t := by rw [← strOf_bs s, h, strOf_bs]
theorem toList_beq (s t : ByteArray) : (s.toList == t.toList) = (bs s == bs t) := by
 rw [ByteArray.toList_eq, ByteArray.toList_eq, Bool.eq_iff_iff]
 simp only [beq_iff_eq]
 constructor
 ·intro h; simp [bs, h]
 ·intro h; rw [bs_inj h]
theorem size_zero {s : ByteArray} : s.size = 0 ↔ bs s = [] := by rw [← bs_length, List.length_eq_zero_iff]
theorem R.convBytes {s t e : TypeId} {x : Operand} {b f n c : Nat} {l : List Nat} (h : At X ops fr o (.convert s t x) d) (hx : evO fr x = some (.slice (some ⟨b, f, none⟩) n c)) (hs : X.P.underlying s = some (.slice e)) (he : X.P.underlying e = some (.int .u8)) (ht : X.P.underlying t = some .string)
  (hl : l.length = n) (hr : Rds X.w0 G b f (l.map fun c => Value.int .u8 (c : Nat))) (K : GOps X ops Q rest ((d, .string (strOf l)) :: fr) ds G) : GOps X ops Q (o :: rest) fr ds G :=
 R.val h (by simp) (fun ρ w hρ hw => by
  have hc := run_convert_bytes_arg (P := X.P) w s e hs he b f n c (l.map fun (c : Nat) => (c : Int)) (by simpa using hl) (fun i hi => by
   have := (hr i (.int .u8 ((l.getD i 0 : Nat) : Int)) (by simp [List.getElem?_map, List.getElem?_eq_getElem (show i < l.length by omega)])).cell hw
   rw [this]
   simp [List.getD, List.getElem?_map, List.getElem?_eq_getElem (show i < l.length by omega)]) t ht
  have e2 : strOfNums (l.map fun (c : Nat) => (c : Int)) = strOf l := by simp [strOfNums, strOf, List.map_map, Function.comp_def]
  rw [e2] at hc
  simp only [execOp, h.op, hρ _ _ hx, Sem.run_bind, hc, Result.andThen_ok]
  rfl) K
theorem Sat.alloc_row {w0 w : World} {G : Hp} {cs : List Value} {rest : Array Value} {e : TypeId} (h : Sat w0 G w) (n : Nat) (hn : cs.length + rest.size = n) : Sat w0 ((w.heap.size, .row cs e n) :: G) (w.alloc (.cells (cs.toArray ++ rest) e)) := by
 refine Sat.weakKnow (G1 := []) (h.alloc (.cells (cs.toArray ++ rest) e)) (fun x hx => ?_)
 simp only [Know.holds] at hx ⊢
 refine ⟨_, hx, by simp [hn], fun j v hv => ?_⟩
 have hj : j < cs.length := (List.getElem?_eq_some_iff.1 hv).1
 rw [Array.getElem?_append_left (by simpa using hj)]
 simpa using hv
theorem R.append {t e : TypeId} {x y : Operand} {sz bytes n : Nat} {cs : List Value} {v : Value} {G1 G2 H : Hp} {ats : Array TypeId} {ab af m c : Nat} {news : List Value} (h : At X ops fr o (.call { callee := .builtin .append, args := #[x, y], argTypes := ats }) d) (hats : ats = #[t, t])
  (hx : evO fr x = some v) (hy : evO fr y = some (.slice (some ⟨ab, af, none⟩) m c)) (hu : X.P.underlying t = some (.slice e)) (hi : InfoE X.P e sz bytes) (hv : SlAt sz e cs n v H) (hG : G = G1 ++ (H ++ G2))
  (hl : news.length = m * sz) (hr : Rds X.w0 G ab af news) (hm : 0 < m) (h1 : news.all (·.oneCell') = true) (hfit : (n + m) * bytes ≤ 140737488355328) (h63 : n + m ≤ 9223372036854775807)
  (K : ∀ v' H', SlAt sz e (cs ++ news) (n + m) v' H' → GOps X ops Q rest ((d, v') :: fr) ds (G1 ++ (H' ++ G2))) : GOps X ops Q (o :: rest) fr ds G := by
 obtain ⟨i, z, hi1, hz, hzs, hs1, hb1⟩ := hi.ex
 subst hG hats
 have hrl : ∀ {w}, Sat X.w0 (G1 ++ (H ++ G2)) w → ∀ j u, news[j]? = some u → w.cell? ((⟨ab, af, none⟩ : Addr).add j) = some u := fun hw j u hj => by rw [add_none]; exact (hr j u hj).cell hw
 have hgb : ∀ (w : World) need old, need ≤ grownCap w need old e := fun w need old => by
  simp only [grownCap, Question.cut]; omega
 have hlen := hv.len
 cases hv with
 | nil hn hc =>
  subst hn hc
  refine R.stepW h (by simp) fun ρ w hρ hw => ?_
  have hrun := run_append_nil (P := X.P) w t o.type e i z hu hi1 hz ⟨ab, af, none⟩ m c news (by rw [hs1]; exact hl) (hrl hw) hm (by omega) (by rw [hb1]; simp only [Nat.zero_add] at hfit; omega)
  refine ⟨_, (w.heap.size, .row news e (grownCap w m 0 e * sz)) :: (G1 ++ G2), _, by
   simp only [execOp, h.op, resolve, invoke, builtin, List.map_toArray, List.map_cons, List.map_nil, hρ _ _ hx, hρ _ _ hy, Sem.run_bind, Sem.run_pure, Result.andThen_ok, hrun]
   rfl, Sat.alloc_row (w := w.drew) (by simpa using hw.drew) _ (by rw [hl, size_zeroCells, hzs, ← Nat.add_mul]; congr 1; have := hgb w m 0; omega), ?_⟩
  have := K (.slice (some ⟨w.heap.size, 0, none⟩) m (grownCap w m 0 e)) [(w.heap.size, .row news e (grownCap w m 0 e * sz))] (by
   have := SlAt.row (sz := sz) (e := e) (cs := news) (n := m) w.heap.size (grownCap w m 0 e) hl (hgb w m 0)
   simpa using this)
  exact GOps.weak (Keeps.refl _) (Hs.perm (by simpa using List.perm_middle)) this
 | row b cap hl0 hcap =>
  rcases Nat.lt_or_ge cap (n + m) with hroom | hroom
  ·refine R.stepW h (by simp) fun ρ w hρ hw => ?_
   have hold : ∀ j u, cs[j]? = some u → w.cell? ((⟨b, 0, none⟩ : Addr).add j) = some u := fun j u hj => by
    rw [add_none]
    exact (Rd.own (w0 := X.w0) (k := .row cs e (cap * sz)) (List.mem_append_right _ List.mem_cons_self) (by simpa [Know.cell] using hj)).cell hw
   have hrun := run_append_grow (P := X.P) w t o.type e i z hu hi1 hz ⟨b, 0, none⟩ n cap cs (by rw [hs1]; exact hl0) hold ⟨ab, af, none⟩ m c news (by rw [hs1]; exact hl) (hrl hw) hroom (by omega) (by rw [hb1]; exact growslice_fits hroom hfit)
   refine ⟨_, (w.heap.size, .row (cs ++ news) e (grownCap w (n + m) cap e * sz)) :: (G1 ++ G2), _, by
    simp only [execOp, h.op, resolve, invoke, builtin, List.map_toArray, List.map_cons, List.map_nil, hρ _ _ hx, hρ _ _ hy, Sem.run_bind, Sem.run_pure, Result.andThen_ok, hrun]
    rfl, ?_, ?_⟩
   ·have e1 : cs.toArray ++ news.toArray = (cs ++ news).toArray := by simp
    rw [e1]
    exact Sat.alloc_row (w := w.drew) (Sat.drop (by simpa using hw.drew)) _ (by rw [List.length_append, hl, hl0, size_zeroCells, hzs, ← Nat.add_mul, ← Nat.add_mul]; congr 1; have := hgb w (n + m) cap; omega)
   ·have := K (.slice (some ⟨w.heap.size, 0, none⟩) (n + m) (grownCap w (n + m) cap e)) [(w.heap.size, .row (cs ++ news) e (grownCap w (n + m) cap e * sz))] (SlAt.row _ _ (by rw [List.length_append, hl, hl0, Nat.add_mul]) (hgb w (n + m) cap))
    exact GOps.weak (Keeps.refl _) (Hs.perm (by simpa using List.perm_middle)) this
  ·refine R.stepW h (by simp) fun ρ w hρ hw => ?_
   have hb := (hw.own b (.row cs e (cap * sz)) (List.mem_append_right _ List.mem_cons_self)).2
   obtain ⟨C, hC, hsz, hh⟩ := hb
   have hfit' : n * sz + news.length ≤ C.size := by rw [hl, hsz, ← Nat.add_mul]; exact Nat.mul_le_mul_right _ hroom
   have hrun := run_append_room (P := X.P) w t o.type e i hu hi1 b n cap C hC ⟨ab, af, none⟩ m c news (by rw [hs1]; exact hl) (hrl hw) (fun u hu => (List.all_eq_true.1 h1) u hu) hroom (by rw [hs1]; exact hfit')
   refine ⟨_, G1 ++ ((b, .row (cs ++ news) e (cap * sz)) :: G2), _, by
    simp only [execOp, h.op, resolve, invoke, builtin, List.map_toArray, List.map_cons, List.map_nil, hρ _ _ hx, hρ _ _ hy, Sem.run_bind, Sem.run_pure, Result.andThen_ok, hrun]
    rfl, ?_, ?_⟩
   ·refine Sat.turn (w := w) (k := .row cs e (cap * sz)) (by simpa using hw) rfl rfl rfl (by simp [World.setRow]) (fun j hj => ?_) ?_
    ·simp only [World.setRow, Array.getElem?_modify]
     rw [if_neg (fun e => hj e.symm)]
    ·rw [setRow_heap w b C _ e (0, 0) hC]
     have hlen1 : C.size = C.toList.length := by simp
     have htk : C.toList.take (n * sz) = cs := by
      apply List.ext_getElem?
      intro j
      rcases Nat.lt_or_ge j (n * sz) with hj | hj
      ·rw [List.getElem?_take_of_lt hj]
       have := hh j cs[j] (List.getElem?_eq_getElem (by omega))
       rw [Array.getElem?_toList, this, List.getElem?_eq_getElem (by omega)]
      ·rw [List.getElem?_eq_none (by simp; omega), List.getElem?_eq_none (by omega)]
     refine ⟨_, rfl, ?_, fun j u hu => ?_⟩
     ·simp only [hs1, List.size_toArray, List.length_append, List.length_take, List.length_drop]
      omega
     ·have hj : j < (cs ++ news).length := (List.getElem?_eq_some_iff.1 hu).1
      rw [hs1, htk, List.getElem?_toArray, List.getElem?_append_left hj]
      exact hu
   ·exact K _ [(b, .row (cs ++ news) e (cap * sz))] (SlAt.row _ _ (by rw [List.length_append, hl, hl0, Nat.add_mul]) hroom)
end
end Go.Proofs.YtfddkcmooommeaaGreatDoor.Gl
end
section
namespace Go.Proofs.YtfddkcmooommeaaGreatDoor.Gl
open Go.RowKit Go.Shelf
set_option linter.unusedVariables false
set_option linter.unnecessarySimpa false
set_option linter.unusedSimpArgs false
structure GV (X : Cx) (ops : Array Oper) (fr : Fr) (G : Hp) (o : Oper) (d : Nat) (v : Value) : Prop where
 dst : o.dst = some d
 lt : Nat.blt d X.nt = true
 on : wantedO ops fr o = some true
 run : ∀ (ρ : Operand → Value) w, (∀ x v, evO fr x = some v → ρ x = v) → Sat X.w0 G w → (execOp ρ o).run X.P w = .ok (.value v) w
section
variable {X : Cx} {fr : Fr} {G : Hp} {ops : Array Oper} {o : Oper} {d : Nat}
theorem GV.of {op : Op} {v : Value} (h : At X ops fr o op d) (hnd : ∀ c, op ≠ .defer c)
  (hrun : ∀ (ρ : Operand → Value) w, (∀ x v, evO fr x = some v → ρ x = v) → Sat X.w0 G w → (execOp ρ o).run X.P w = .ok (.value v) w) : GV X ops fr G o d v := ⟨h.dst, h.lt, h.on, hrun⟩
theorem V.move {x : Operand} {v : Value} (h : At X ops fr o (.move x) d) (hx : evO fr x = some v) : GV X ops fr G o d (v) :=
 GV.of h (by simp) (fun ρ w hρ hw => by simp [execOp, h.op, hρ _ _ hx])
theorem V.assign {x : Operand} {v : Value} (h : At X ops fr o (.assign x) d) (hx : evO fr x = some v) : GV X ops fr G o d (v) :=
 GV.of h (by simp) (fun ρ w hρ hw => by simp [execOp, h.op, hρ _ _ hx])
theorem V.pick_t {c x y : Operand} {v : Value} (h : At X ops fr o (.pick c x y) d) (hc : evO fr c = some (.bool true)) (hx : evO fr x = some v) : GV X ops fr G o d (v) :=
 GV.of h (by simp) (fun ρ w hρ hw => by simp [execOp, h.op, hρ _ _ hx, hρ _ _ hc, asBool])
theorem V.pick_f {c x y : Operand} {v : Value} (h : At X ops fr o (.pick c x y) d) (hc : evO fr c = some (.bool false)) (hy : evO fr y = some v) : GV X ops fr G o d (v) :=
 GV.of h (by simp) (fun ρ w hρ hw => by simp [execOp, h.op, hρ _ _ hy, hρ _ _ hc, asBool])
theorem V.bin {b : BinOp} {t u : TypeId} {x y : Operand} {p q v : Value} (h : At X ops fr o (.binOp b t x y u) d) (hx : evO fr x = some p) (hy : evO fr y = some q)
  (hrun : ∀ w, Sat X.w0 G w → (do eqGuard b t x y p q; binOp b t p q : Sem Value).run X.P w = .ok v w) : GV X ops fr G o d (v) :=
 GV.of h (by simp) (fun ρ w hρ hw => by
  have := hrun w hw
  simp only [execOp, h.op, hρ _ _ hx, hρ _ _ hy]
  rw [Sem.run_bind, this]
  rfl)
theorem V.binI {b : BinOp} {t u : TypeId} {x y : Operand} {k : IntKind} {m n : Int} {v : Value} (h : At X ops fr o (.binOp b t x y u) d) (hx : evO fr x = some (.int k m)) (hy : evO fr y = some (.int k n))
  (hrun : ∀ w, (binOp b t (.int k m) (.int k n)).run X.P w = .ok v w) : GV X ops fr G o d (v) :=
 V.bin h hx hy (fun w _ => by rw [Sem.run_bind, run_guard_int]; exact hrun w)
theorem V.add {t u : TypeId} {x y : Operand} {k : IntKind} {m n r : Int} (h : At X ops fr o (.binOp .add t x y u) d) (hx : evO fr x = some (.int k m)) (hy : evO fr y = some (.int k n)) (hr : k.wrap (m + n) = r)
  : GV X ops fr G o d (.int k r) := V.binI h hx hy (fun w => by simp [binOp, Op.intArith, hr])
theorem V.sub {t u : TypeId} {x y : Operand} {k : IntKind} {m n r : Int} (h : At X ops fr o (.binOp .sub t x y u) d) (hx : evO fr x = some (.int k m)) (hy : evO fr y = some (.int k n)) (hr : k.wrap (m - n) = r)
  : GV X ops fr G o d (.int k r) := V.binI h hx hy (fun w => by simp [binOp, Op.intArith, hr])
theorem V.mul {t u : TypeId} {x y : Operand} {k : IntKind} {m n r : Int} (h : At X ops fr o (.binOp .mul t x y u) d) (hx : evO fr x = some (.int k m)) (hy : evO fr y = some (.int k n)) (hr : k.wrap (m * n) = r)
  : GV X ops fr G o d (.int k r) := V.binI h hx hy (fun w => by simp [binOp, Op.intArith, hr])
theorem V.lss {t u : TypeId} {x y : Operand} {k : IntKind} {m n : Int} (h : At X ops fr o (.binOp .lss t x y u) d) (hx : evO fr x = some (.int k m)) (hy : evO fr y = some (.int k n))
  : GV X ops fr G o d (.bool (decide (m < n))) := V.binI h hx hy (fun w => by cases k <;> simp [binOp, Op.intCmp])
theorem V.leq {t u : TypeId} {x y : Operand} {k : IntKind} {m n : Int} (h : At X ops fr o (.binOp .leq t x y u) d) (hx : evO fr x = some (.int k m)) (hy : evO fr y = some (.int k n))
  : GV X ops fr G o d (.bool (decide (m ≤ n))) := V.binI h hx hy (fun w => by cases k <;> simp [binOp, Op.intCmp])
theorem V.gtr {t u : TypeId} {x y : Operand} {k : IntKind} {m n : Int} (h : At X ops fr o (.binOp .gtr t x y u) d) (hx : evO fr x = some (.int k m)) (hy : evO fr y = some (.int k n))
  : GV X ops fr G o d (.bool (decide (m > n))) := V.binI h hx hy (fun w => by cases k <;> simp [binOp, Op.intCmp])
theorem V.geq {t u : TypeId} {x y : Operand} {k : IntKind} {m n : Int} (h : At X ops fr o (.binOp .geq t x y u) d) (hx : evO fr x = some (.int k m)) (hy : evO fr y = some (.int k n))
  : GV X ops fr G o d (.bool (decide (m ≥ n))) := V.binI h hx hy (fun w => by cases k <;> simp [binOp, Op.intCmp])
theorem V.eqI {t u : TypeId} {x y : Operand} {k : IntKind} {m n : Int} (h : At X ops fr o (.binOp .eql t x y u) d) (hx : evO fr x = some (.int k m)) (hy : evO fr y = some (.int k n))
  : GV X ops fr G o d (.bool (decide (m = n))) := V.binI h hx hy (fun w => by cases k <;> (simp [binOp, Op.intCmp]; rfl))
theorem V.neI {t u : TypeId} {x y : Operand} {k : IntKind} {m n : Int} (h : At X ops fr o (.binOp .neq t x y u) d) (hx : evO fr x = some (.int k m)) (hy : evO fr y = some (.int k n))
  : GV X ops fr G o d (.bool (decide (m ≠ n))) := V.binI h hx hy (fun w => by cases k <;> (simp [binOp, Op.intCmp, bne]; rfl))
theorem V.bits {b : BinOp} {t u : TypeId} {x y : Operand} {k : IntKind} {m n r : Int} (hb : b = .and ∨ b = .or ∨ b = .xor ∨ b = .andNot) (h : At X ops fr o (.binOp b t x y u) d) (hx : evO fr x = some (.int k m)) (hy : evO fr y = some (.int k n)) (hr : Go.bits b k m n = r)
  : GV X ops fr G o d (.int k r) := V.binI h hx hy (fun w => by subst hr; rcases hb with rfl | rfl | rfl | rfl <;> cases k <;> simp [binOp, Op.intBits, Go.bits])
theorem V.and {t u : TypeId} {x y : Operand} {k : IntKind} {m n r : Int} (h : At X ops fr o (.binOp .and t x y u) d) (hx : evO fr x = some (.int k m)) (hy : evO fr y = some (.int k n)) (hr : Go.bits .and k m n = r)
  : GV X ops fr G o d (.int k r) := V.bits (.inl rfl) h hx hy hr
theorem V.or {t u : TypeId} {x y : Operand} {k : IntKind} {m n r : Int} (h : At X ops fr o (.binOp .or t x y u) d) (hx : evO fr x = some (.int k m)) (hy : evO fr y = some (.int k n)) (hr : Go.bits .or k m n = r)
  : GV X ops fr G o d (.int k r) := V.bits (.inr (.inl rfl)) h hx hy hr
theorem V.shl {t u : TypeId} {x y : Operand} {k k' : IntKind} {m n r : Int} (h : At X ops fr o (.binOp .shl t x y u) d) (hx : evO fr x = some (.int k m)) (hy : evO fr y = some (.int k' n)) (h0 : 0 ≤ n) (hr : k.wrap (m * 2 ^ (min n.toNat k.bits)) = r)
  : GV X ops fr G o d (.int k r) :=
 V.bin h hx hy (fun w _ => by rw [Sem.run_bind, run_guard_int]; subst hr; simp [binOp, Op.shift, show ¬ n < 0 by omega])
theorem V.quo {t u : TypeId} {x y : Operand} {k : IntKind} {m n r : Int} (h : At X ops fr o (.binOp .quo t x y u) d) (hx : evO fr x = some (.int k m)) (hy : evO fr y = some (.int k n)) (h0 : n ≠ 0) (hr : k.wrap (m.tdiv n) = r)
  : GV X ops fr G o d (.int k r) := V.binI h hx hy (fun w => by simp [binOp, Op.intDiv, hr, h0])
theorem V.rem {t u : TypeId} {x y : Operand} {k : IntKind} {m n r : Int} (h : At X ops fr o (.binOp .rem t x y u) d) (hx : evO fr x = some (.int k m)) (hy : evO fr y = some (.int k n)) (h0 : n ≠ 0) (hr : m.tmod n = r)
  : GV X ops fr G o d (.int k r) := V.binI h hx hy (fun w => by simp [binOp, Op.intDiv, hr, h0])
theorem V.conv {s t : TypeId} {x : Operand} {k k' : IntKind} {ts : TypeDesc} {m r : Int} (h : At X ops fr o (.convert s t x) d) (hx : evO fr x = some (.int k m)) (hs : X.P.underlying s = some ts) (ht : X.P.underlying t = some (.int k')) (hr : k'.wrap m = r)
  : GV X ops fr G o d (.int k' r) :=
 GV.of h (by simp) (fun ρ w hρ hw => by subst hr; simp [execOp, h.op, hρ _ _ hx, convert, run_und hs, run_und ht, Conv.intToInt])
theorem V.not {t : TypeId} {x : Operand} {b : Bool} (h : At X ops fr o (.unOp .not t x) d) (hx : evO fr x = some (.bool b)) : GV X ops fr G o d (.bool (!b)) :=
 GV.of h (by simp) (fun ρ w hρ hw => by simp [execOp, h.op, hρ _ _ hx, Op.unary])
theorem V.eqS {t u : TypeId} {x y : Operand} {m n : ByteArray} (h : At X ops fr o (.binOp .eql t x y u) d) (hx : evO fr x = some (.string m)) (hy : evO fr y = some (.string n))
  : GV X ops fr G o d (.bool (m.toList == n.toList)) :=
 V.bin h hx hy (fun w _ => by rw [Sem.run_bind, run_guard_string]; simp [binOp, Op.stringOp])
theorem V.neS {t u : TypeId} {x y : Operand} {m n : ByteArray} (h : At X ops fr o (.binOp .neq t x y u) d) (hx : evO fr x = some (.string m)) (hy : evO fr y = some (.string n))
  : GV X ops fr G o d (.bool (!(m.toList == n.toList))) :=
 V.bin h hx hy (fun w _ => by rw [Sem.run_bind, run_guard_string]; simp [binOp, Op.stringOp])
theorem V.load1 {t : TypeId} {x : Operand} {b f : Nat} {v : Value} {dsc : TypeDesc} (h : At X ops fr o (.load t x) d) (hx : evO fr x = some (.pointer (some ⟨b, f, none⟩))) (hu : X.P.underlying t = some dsc) (ha : isA dsc = false) (hr : Rd X.w0 G b f v)
  : GV X ops fr G o d (v) :=
 GV.of h (by simp) (fun ρ w hρ hw => by simp [execOp, h.op, hρ _ _ hx, Instr.loadAt, run_sureAddr, run_loadVar_one hu ha hw hr])
theorem V.loadA {t : TypeId} {x : Operand} {b f n : Nat} {cs : List Value} {dsc : TypeDesc} (h : At X ops fr o (.load t x) d) (hx : evO fr x = some (.pointer (some ⟨b, f, none⟩))) (hu : X.P.underlying t = some dsc) (ha : isA dsc = true) (hz : ∀ w, (sizeOf t).run X.P w = .ok n w) (hr : Rds X.w0 G b f cs) (hn : cs.length = n)
  : GV X ops fr G o d (.agg cs.toArray) := by
 subst hn
 exact GV.of h (by simp) (fun ρ w hρ hw => by simp [execOp, h.op, hρ _ _ hx, Instr.loadAt, run_sureAddr, run_loadVar_agg hu ha hz hw hr])
theorem V.fieldAddr {s : TypeId} {x : Operand} {i b f n : Nat} {fs : Array Field} {fld : Field} (h : At X ops fr o (.fieldAddr s x i) d) (hx : evO fr x = some (.pointer (some ⟨b, f, none⟩))) (hu : X.P.underlying s = some (.struct fs)) (hf : fs[i]? = some fld)
  (hz : ∀ w, (sizeOf fld.type).run X.P w = .ok (n + 1) w) : GV X ops fr G o d (.pointer (some ⟨b, f + fld.offset, none⟩)) :=
 GV.of h (by simp) (fun ρ w hρ hw => by
  simp [execOp, h.op, hρ _ _ hx, Instr.fieldAt, run_und hu, hf, run_sureAddr, fieldPlace, hz, add_none])
theorem V.indexAddrS {t e : TypeId} {x y : Operand} {k : IntKind} {b f n c z : Nat} {i : Int} (h : At X ops fr o (.indexAddr t x y) d) (hx : evO fr x = some (.slice (some ⟨b, f, none⟩) n c)) (hy : evO fr y = some (.int k i)) (hu : X.P.underlying t = some (.slice e))
  (hz : ∀ w, (sizeOf e).run X.P w = .ok z w) (h0 : 0 ≤ i) (h1 : i < n) : GV X ops fr G o d (.pointer (some ⟨b, f + i.toNat * z, none⟩)) :=
 GV.of h (by simp) (fun ρ w hρ hw => by
  simp [execOp, h.op, hρ _ _ hx, hρ _ _ hy, Instr.indexAt, asIntOf, run_und hu, hz, h0, h1, add_none])
theorem V.indexAddrA {t e : TypeId} {x y : Operand} {k : IntKind} {b f n z : Nat} {i : Int} (h : At X ops fr o (.indexAddr t x y) d) (hx : evO fr x = some (.pointer (some ⟨b, f, none⟩))) (hy : evO fr y = some (.int k i)) (hu : X.P.underlying t = some (.array n e))
  (hz : ∀ w, (sizeOf e).run X.P w = .ok z w) (h0 : 0 ≤ i) (h1 : i < n) : GV X ops fr G o d (.pointer (some ⟨b, f + i.toNat * z, none⟩)) :=
 GV.of h (by simp) (fun ρ w hρ hw => by
  simp [execOp, h.op, hρ _ _ hx, hρ _ _ hy, Instr.indexAt, asIntOf, run_und hu, hz, h0, h1, run_sureAddr, add_none])
theorem V.build {t : TypeId} {parts : Array (Nat × Operand)} {vs : List (Nat × Value)} {cells : Array Value} (h : At X ops fr o (.build t parts) d) (hp : parts.toList.map (fun p => (evO fr p.2).map fun v => (p.1, v)) = vs.map some)
  (hb : ∀ w, (Instr.build t vs.toArray).run X.P w = .ok (.agg cells) w) : GV X ops fr G o d (.agg cells) :=
 GV.of h (by simp) (fun ρ w hρ hw => by
  have e : parts.map (fun p => (p.1, ρ p.2)) = vs.toArray := by
   obtain ⟨l⟩ := parts
   simp only [List.map_toArray]
   congr 1
   simp only at hp
   clear hb h
   induction l generalizing vs with
   | nil => cases vs with
    | nil => rfl
    | cons v vs => simp at hp
   | cons x l ih => cases vs with
    | nil => simp at hp
    | cons v vs =>
     simp only [List.map_cons, List.cons.injEq, Option.map_eq_some_iff] at hp
     obtain ⟨⟨u, hu, rfl⟩, h2⟩ := hp
     rw [List.map_cons, hρ _ _ hu, ih h2]
  have e' : (parts.map fun (i, x) => (i, ρ x)) = vs.toArray := e
  simp only [execOp, h.op, e', Sem.run_bind, hb w, Result.andThen_ok]
  rfl)
theorem V.eqA {t u : TypeId} {x y : Operand} {p q : Array Value} {r : Bool} (h : At X ops fr o (.binOp .eql t x y u) d) (hx : evO fr x = some (.agg p)) (hy : evO fr y = some (.agg q))
  (hg : ∀ w, (eqGuard .eql t x y (.agg p) (.agg q)).run X.P w = .ok () w) (he : ∀ w, (Op.equal t (.agg p) (.agg q)).run X.P w = .ok r w)
  : GV X ops fr G o d (.bool r) :=
 V.bin h hx hy (fun w _ => by rw [Sem.run_bind, hg w]; simp [binOp, he w])
theorem V.neA {t u : TypeId} {x y : Operand} {p q : Array Value} {r : Bool} (h : At X ops fr o (.binOp .neq t x y u) d) (hx : evO fr x = some (.agg p)) (hy : evO fr y = some (.agg q))
  (hg : ∀ w, (eqGuard .neq t x y (.agg p) (.agg q)).run X.P w = .ok () w) (he : ∀ w, (Op.equal t (.agg p) (.agg q)).run X.P w = .ok r w)
  : GV X ops fr G o d (.bool (!r)) :=
 V.bin h hx hy (fun w _ => by rw [Sem.run_bind, hg w]; simp [binOp, he w])
theorem V.eqB {t u : TypeId} {x y : Operand} {p q : Bool} (h : At X ops fr o (.binOp .eql t x y u) d) (hx : evO fr x = some (.bool p)) (hy : evO fr y = some (.bool q)) (hu : X.P.underlying t = some .bool)
  : GV X ops fr G o d (.bool (p == q)) :=
 V.bin h hx hy (fun w _ => by rw [Sem.run_bind, run_guard_bool]; rw [show (binOp .eql t (.bool p) (.bool q)) = (Op.equalIn (9999 + 1) t (.bool p) (.bool q)) >>= (fun b => pure (.bool b)) from rfl, Result.andThen_ok, Sem.run_bind, run_equalIn_bool hu]; rfl)
theorem V.extract {x : Operand} {i : Nat} {vs : Array Value} {v : Value} (h : At X ops fr o (.extract x i) d) (hx : evO fr x = some (.tuple vs)) (hv : vs[i]? = some v) : GV X ops fr G o d (v) :=
 GV.of h (by simp) (fun ρ w hρ hw => by simp [execOp, h.op, hρ _ _ hx, Instr.extract, hv])
theorem V.makeFunc {fn : Fn} {first cap : Array Operand} {vs us : List Value} (h : At X ops fr o (.makeFunc fn first cap) d) (h1 : first.toList.map (evO fr) = vs.map some) (h2 : cap.toList.map (evO fr) = us.map some)
  : GV X ops fr G o d (.func fn vs.toArray us.toArray) :=
 GV.of h (by simp) (fun ρ w hρ hw => by
  have e1 : ∀ {xs : Array Operand} {vs : List Value}, xs.toList.map (evO fr) = vs.map some → xs.map ρ = vs.toArray := by
   rintro ⟨l⟩ vs hl
   simp only [List.map_toArray]
   congr 1
   simp only at hl
   induction l generalizing vs with
   | nil => cases vs with
    | nil => rfl
    | cons v vs => simp at hl
   | cons x l ih => cases vs with
    | nil => simp at hl
    | cons v vs =>
     simp only [List.map_cons, List.cons.injEq] at hl
     rw [List.map_cons, hρ x v hl.1, ih hl.2]
  simp [execOp, h.op, e1 h1, e1 h2, Instr.makeFunc])
theorem V.indexStr {t : TypeId} {x y : Operand} {k : IntKind} {s : ByteArray} {i : Int} {c : Nat} (h : At X ops fr o (.index t x y) d) (hx : evO fr x = some (.string s)) (hy : evO fr y = some (.int k i)) (hu : X.P.underlying t = some .string)
  (h0 : 0 ≤ i) (hc : (bs s)[i.toNat]? = some c) : GV X ops fr G o d (.int .u8 (c : Int)) :=
 GV.of h (by simp) (fun ρ w hρ hw => by
  have hc' : ∃ u : UInt8, s[i.toNat]? = some u ∧ u.toNat = c := by
   obtain ⟨⟨l⟩⟩ := s
   simp only [bs, List.getElem?_map, Option.map_eq_some_iff] at hc
   obtain ⟨u, hu, rfl⟩ := hc
   have hlt : i.toNat < l.length := (List.getElem?_eq_some_iff.1 hu).1
   refine ⟨u, ?_, rfl⟩
   have := (List.getElem?_eq_some_iff.1 hu).2
   simp only [getElem?_def, ByteArray.size, Array.size, hlt, dif_pos]
   congr 1
  obtain ⟨u, hu', rfl⟩ := hc'
  simp [execOp, h.op, hρ _ _ hx, hρ _ _ hy, Instr.index, asIntOf, run_und hu, h0, hu'])
theorem V.load_own {t : TypeId} {x : Operand} {b f n : Nat} {C : Array Value} {e : TypeId} {z : Nat × Nat} {dsc : TypeDesc} {cs : List Value} (h : At X ops fr o (.load t x) d) (hx : evO fr x = some (.pointer (some ⟨b, f, none⟩))) (hu : X.P.underlying t = some dsc) (ha : isA dsc = true) (hz : ∀ w, (sizeOf t).run X.P w = .ok n w)
  (hm : (b, Know.exact (.cells C e z)) ∈ G) (hc : (C.toList.drop f).take n = cs) (hn : cs.length = n)
  : GV X ops fr G o d (.agg cs.toArray) := by
 refine V.loadA h hx hu ha hz (fun j v hv => .own hm ?_) hn
 subst hc
 have hj : j < n := by
  rcases Nat.lt_or_ge j n with hj | hj
  ·exact hj
  ·rw [List.getElem?_eq_none (by omega)] at hv; cases hv
 rw [List.getElem?_take_of_lt hj, List.getElem?_drop] at hv
 simpa [Know.cell] using hv
theorem V.lenS {t : TypeId} {x : Operand} {A : Option Addr} {n c : Nat} {e : TypeId} {ats : Array TypeId} (h : At X ops fr o (.call { callee := .builtin .len, args := #[x], argTypes := ats }) d) (hat : ats[0]? = some t) (hx : evO fr x = some (.slice A n c)) (hu : X.P.underlying t = some (.slice e))
  : GV X ops fr G o d (.int .i64 n) :=
 GV.of h (by simp) (fun ρ w hρ hw => by
  simp [execOp, h.op, resolve, invoke, builtin, Builtin.len_, hρ _ _ hx, hat, run_und hu, goInt])
theorem V.lenStr {t : TypeId} {x : Operand} {s : ByteArray} {ats : Array TypeId} (h : At X ops fr o (.call { callee := .builtin .len, args := #[x], argTypes := ats }) d) (hat : ats[0]? = some t) (hx : evO fr x = some (.string s)) (hu : X.P.underlying t = some .string)
  : GV X ops fr G o d (.int .i64 s.size) :=
 GV.of h (by simp) (fun ρ w hρ hw => by
  simp [execOp, h.op, resolve, invoke, builtin, Builtin.len_, hρ _ _ hx, hat, run_und hu, goInt])
theorem V.sliceStrL {t : TypeId} {x y : Operand} {k : IntKind} {s : ByteArray} {i : Int} (h : At X ops fr o (.slice t x (some y) none none) d) (hx : evO fr x = some (.string s)) (hy : evO fr y = some (.int k i)) (hu : X.P.underlying t = some .string)
  (h0 : 0 ≤ i) (h1 : i ≤ s.size) : GV X ops fr G o d (.string (s.extract i.toNat s.size)) :=
 GV.of h (by simp) (fun ρ w hρ hw => by
  have e := run_slice_string_l w t s hu k i h0 h1
  simp only [execOp, h.op, Option.map_some, Option.map_none, hρ _ _ hx, hρ _ _ hy, Instr.sliceAt, Sem.run_bind, run_und hu, Result.andThen_ok, e]
  rfl)
theorem V.sliceStrH {t : TypeId} {x y : Operand} {k : IntKind} {s : ByteArray} {i : Int} (h : At X ops fr o (.slice t x none (some y) none) d) (hx : evO fr x = some (.string s)) (hy : evO fr y = some (.int k i)) (hu : X.P.underlying t = some .string)
  (h0 : 0 ≤ i) (h1 : i ≤ s.size) : GV X ops fr G o d (.string (s.extract 0 i.toNat)) :=
 GV.of h (by simp) (fun ρ w hρ hw => by
  have e := run_slice_string_h w t s hu k i h0 h1
  simp only [execOp, h.op, Option.map_some, Option.map_none, hρ _ _ hx, hρ _ _ hy, Instr.sliceAt, Sem.run_bind, run_und hu, Result.andThen_ok, e]
  rfl)
theorem V.sliceStrLH {t : TypeId} {x y z : Operand} {k k' : IntKind} {s : ByteArray} {i j : Int} (h : At X ops fr o (.slice t x (some y) (some z) none) d) (hx : evO fr x = some (.string s)) (hy : evO fr y = some (.int k i)) (hz : evO fr z = some (.int k' j)) (hu : X.P.underlying t = some .string)
  (h0 : 0 ≤ i) (h1 : i ≤ j) (h2 : j ≤ s.size) : GV X ops fr G o d (.string (s.extract i.toNat j.toNat)) :=
 GV.of h (by simp) (fun ρ w hρ hw => by
  simp only [execOp, h.op, Option.map_some, Option.map_none, hρ _ _ hx, hρ _ _ hy, hρ _ _ hz, Instr.sliceAt, Sem.run_bind, run_und hu, Result.andThen_ok, Instr.slice, Instr.sliceBounds, Option.isSome_none, Bool.false_eq_true, if_false, Sem.run_pure, Go.run_sliceBound w k' j s.size _ (by omega) h2, Go.run_sliceBound w k i j.toNat _ h0 (by omega)])
theorem V.minI {x y : Operand} {k k' : IntKind} {m n r : Int} {ats : Array TypeId} (h : At X ops fr o (.call { callee := .builtin .min, args := #[x, y], argTypes := ats }) d) (hx : evO fr x = some (.int k m)) (hy : evO fr y = some (.int k' n)) (hr : min m n = r)
  : GV X ops fr G o d (.int k r) :=
 GV.of h (by simp) (fun ρ w hρ hw => by
  have := Lib.run_min_ints (P := X.P) w ats o.type k k' m n
  subst hr
  simp [execOp, h.op, resolve, invoke, builtin, hρ _ _ hx, hρ _ _ hy, this])
theorem V.convBytes {s t e : TypeId} {x : Operand} {b f n c : Nat} {l : List Nat} (h : At X ops fr o (.convert s t x) d) (hx : evO fr x = some (.slice (some ⟨b, f, none⟩) n c)) (hs : X.P.underlying s = some (.slice e)) (he : X.P.underlying e = some (.int .u8)) (ht : X.P.underlying t = some .string)
  (hl : l.length = n) (hr : Rds X.w0 G b f (l.map fun c => Value.int .u8 (c : Nat))) : GV X ops fr G o d (.string (strOf l)) :=
 GV.of h (by simp) (fun ρ w hρ hw => by
  have hc := run_convert_bytes_arg (P := X.P) w s e hs he b f n c (l.map fun (c : Nat) => (c : Int)) (by simpa using hl) (fun i hi => by
   have := (hr i (.int .u8 ((l.getD i 0 : Nat) : Int)) (by simp [List.getElem?_map, List.getElem?_eq_getElem (show i < l.length by omega)])).cell hw
   rw [this]
   simp [List.getD, List.getElem?_map, List.getElem?_eq_getElem (show i < l.length by omega)]) t ht
  have e2 : strOfNums (l.map fun (c : Nat) => (c : Int)) = strOf l := by simp [strOfNums, strOf, List.map_map, Function.comp_def]
  rw [e2] at hc
  simp only [execOp, h.op, hρ _ _ hx, Sem.run_bind, hc, Result.andThen_ok]
  rfl)
end
end Go.Proofs.YtfddkcmooommeaaGreatDoor.Gl
end
section
namespace Go.Proofs.YtfddkcmooommeaaGreatDoor.Gl
open Go.RowKit Go.Shelf
set_option linter.unusedVariables false
set_option linter.unnecessarySimpa false
set_option linter.unusedSimpArgs false
def wpAnyJ (J : World → Prop) (F : Fence) (n : Nat) (P : Program) (md : Region.Mode) (ops : Array Oper) (Q : Exit → Act → World → Prop) : Nat → Array Bool → Act → World → Prop
 | 0, listed, a, w => J w ∧ Region.ready md ops listed = [] ∧ Q .normal a w
 | fuel + 1, listed, a, w => J w ∧
  (Region.ready md ops listed = [] → Q .normal a w) ∧
  ∀ i ∈ Region.ready md ops listed, wpOpIn F n P ops Q i (wpAnyJ J F n P md ops Q fuel (listed.setIfInBounds i true)) a w
section
variable {J : World → Prop} {F : Fence} {n : Nat} {P : Program} {ops : Array Oper} {Q : Exit → Act → World → Prop} {md : Region.Mode}
theorem wpAnyJ.plain : ∀ {fuel : Nat} {listed : Array Bool} {a : Act} {w : World}, wpAnyJ J F n P md ops Q fuel listed a w → wpAnyIn F n P md ops Q fuel listed a w
 | 0, _, _, _, h => ⟨h.2.1, h.2.2⟩
 | fuel + 1, listed, a, w, h => ⟨h.2.1, fun i hi => wpOpIn_mono (fun a w h => wpAnyJ.plain h) (h.2.2 i hi)⟩
def YieldsJ (J : World → Prop) (P : Program) (ops : Array Oper) (o : Oper) (v : Value) (a : Act) : Prop :=
 (Region.wanted o (yielded ops a.tmps) = true ∧ ∀ w, J w → (execOp a.eval o).run P w = .ok (.value v) w) ∨ (Region.wanted o (yielded ops a.tmps) = false ∧ v = undef)
theorem YieldsJ.wpOpIn {i : Nat} {o : Oper} {v : Value} {a : Act} (hro : F.round = none) (hfn : ∀ f, F.fn f) (hi : ops[i]? = some o) (hy : YieldsJ J P ops o v a)
  {K : Act → World → Prop} {w : World} (hJ : J w) (h : K (a.put o.dst v) w) : wpOpIn F n P ops Q i K a w := by
 unfold Go.wpOpIn
 simp only [hi]
 have hab : ∀ f, o.about P w a.eval = some f → F.fn f := fun f _ => hfn f
 rcases hy with ⟨hw, hv⟩ | ⟨hw, rfl⟩
 ·simp only [hw, if_true, Oper.wpIn, hro, Oper.semAt_none, hv w hJ, Oper.uponIn]; exact ⟨hab, h⟩
 ·simp only [hw, Bool.false_eq_true, if_false]; exact ⟨hab, h⟩
theorem YieldsJ.of_same {o : Oper} {v : Value} {a a' : Act} (hy : YieldsJ J P ops o v a) (he : execOp a'.eval o = execOp a.eval o)
  (hw : Region.wanted o (yielded ops a'.tmps) = Region.wanted o (yielded ops a.tmps)) : YieldsJ J P ops o v a' := by
 unfold YieldsJ
 rw [he, hw]
 exact hy
theorem wpOpIn_putJ {j : Nat} {oi oj : Oper} {v : Value} (hro : F.round = none) (hj : ops[j]? = some oj) (hap : oi.apart ops oj = true)
  (hsi : ∀ cs b, oi.op ≠ .select cs b) (hsj : ∀ cs b, oj.op ≠ .select cs b)
  (hQ : ∀ c a w, Q (.panic c) (a.put oi.dst v) w → Q (.panic c) a w) {K : Act → World → Prop} {a : Act} {w : World}
  (hy : YieldsJ J P ops oi v a) (h : wpOpIn F n P ops Q j K (a.put oi.dst v) w) :
  wpOpIn F n P ops Q j (fun a' w' => YieldsJ J P ops oi v a' ∧ K (a'.put oi.dst v) w') a w := by
 obtain ⟨h1, h2, h3⟩ := Oper.apart_spec hap
 have keep : ∀ (a : Act), YieldsJ J P ops oi v a → ∀ u, YieldsJ J P ops oi v (a.put oj.dst u) := fun a hy u =>
  hy.of_same (execOp_put oi hsi a oj.dst u h3) (wanted_put oi a oj.dst u h3)
 have keepD : ∀ d, YieldsJ J P ops oi v { a with defers := d :: a.defers } := fun d => hy.of_same rfl rfl
 unfold wpOpIn at *
 simp only [hj] at *
 rw [wanted_put oj a oi.dst v h1, about_put oj w a oi.dst v h1] at h
 split
 ·rename_i hw
  simp only [hw, if_true] at h
  unfold Oper.wpIn at *
  rw [about_put oj w a oi.dst v h1] at h
  refine ⟨h.1, ?_⟩
  have h := h.2
  rw [hro, Oper.semAt_none, execOp_put oj hsj a oi.dst v h1] at h
  rw [hro, Oper.semAt_none]
  generalize (execOp a.eval oj).run P w = r at *
  cases r with
  | ok x w' =>
   cases x <;> simp only [Oper.uponIn] at h ⊢
   case value u => exact ⟨keep a hy u, by rw [← Act.put_comm a v u h2]; exact h⟩
   case skip => exact ⟨keep a hy _, by rw [← Act.put_comm a v undef h2]; exact h⟩
   case defer d =>
    refine ⟨keep _ (keepD d) _, ?_⟩
    rw [← Act.put_comm _ v undef h2, ← Act.put_defers]
    exact h
   case enter f args =>
    refine ⟨h.1, CallsIn.mono h.2 fun e w'' he => ?_⟩
    cases e with
    | returned u => exact ⟨keep a hy u, by rw [← Act.put_comm a v u h2]; exact he⟩
    | panicked c => exact hQ _ _ _ he
    | outgrown => exact he
   case row row args => exact ⟨h.1, RowsIn.mono h.2 fun u w'' he => ⟨keep a hy u, by rw [← Act.put_comm a v u h2]; exact he⟩⟩
   case round l f tmps assign body =>
    refine ⟨h.1, RoundIn.mono h.2 fun e w'' he => ?_⟩
    cases e with
    | returned u => exact ⟨keep a hy u, by rw [← Act.put_comm a v u h2]; exact he⟩
    | panicked c => exact hQ _ _ _ he
    | outgrown => exact he
  | halt x w' =>
   cases x <;> simp only [Oper.uponIn] at h ⊢
   case panic u => exact hQ _ _ _ h
 ·rename_i hw
  simp only [hw] at h
  exact ⟨h.1, keep a hy _, by rw [← Act.put_comm a v undef h2]; exact h.2⟩
theorem wpAnyJ_first {i : Nat} {oi : Oper} {v : Value} (hro : F.round = none) (hfn : ∀ f, F.fn f) (hi : ops[i]? = some oi) (hsel : ∀ (j : Nat) (o : Oper) cs b, ops[j]? = some o → o.op ≠ .select cs b)
  (hQ : ∀ c a w, Q (.panic c) (a.put oi.dst v) w → Q (.panic c) a w) :
  ∀ (fuel : Nat) (listed : Array Bool) (a : Act) (w : World),
   (∀ j oj, ops[j]? = some oj → j ≠ i → listed.getD j true = false → (∀ e ∈ oj.after, Region.binds md e = true → e.on ≠ i) → oi.apart ops oj = true) →
   i ∈ Region.ready md ops listed → YieldsJ J P ops oi v a →
   wpAnyJ J F n P md ops Q fuel (listed.setIfInBounds i true) (a.put oi.dst v) w → wpAnyJ J F n P md ops Q (fuel + 1) listed a w := by
 intro fuel
 induction fuel with
 | zero =>
  intro listed a w _ hr hy H
  refine ⟨H.1, fun h => (by rw [h] at hr; cases hr), fun j hj => ?_⟩
  by_cases hji : j = i
  ·subst hji; exact hy.wpOpIn hro hfn hi H.1 H
  ·have := ready_mono hj hji
   rw [H.2.1] at this
   cases this
 | succ fuel ih =>
  intro listed a w hfree hr hy H
  refine ⟨H.1, fun h => (by rw [h] at hr; cases hr), fun j hj => ?_⟩
  by_cases hji : j = i
  ·subst hji; exact hy.wpOpIn hro hfn hi H.1 H
  ·have h1 := H.2.2 j (ready_mono hj hji)
   obtain ⟨hjun, oj, hoj, hall⟩ := mem_ready.1 hj
   have hnot : ∀ e ∈ oj.after, Region.binds md e = true → e.on ≠ i := fun e he hb heq => by
    have h1 := hall e he hb
    have h0 := (mem_ready.1 hr).1
    rw [heq] at h1
    rcases Nat.lt_or_ge i listed.size with h' | h'
    ·simp [h'] at h0 h1; rw [h0] at h1; cases h1
    ·simp [Array.getElem?_eq_none h'] at h1
   have h2 := wpOpIn_putJ hro hoj (hfree j oj hoj hji hjun hnot) (fun cs b => hsel i oi cs b hi) (fun cs b => hsel j oj cs b hoj) hQ hy h1
   have hfree' : ∀ k ok, ops[k]? = some ok → k ≠ i → (listed.setIfInBounds j true).getD k true = false →
     (∀ e ∈ ok.after, Region.binds md e = true → e.on ≠ i) → oi.apart ops ok = true := fun k ok hk hki hun hno => by
    refine hfree k ok hk hki ?_ hno
    by_cases hjk : j = k
    ·subst hjk; exact hjun
    ·rw [getD_set_ne true hjk] at hun; exact hun
   refine wpOpIn_mono (fun a' w' h3 => ih (listed.setIfInBounds j true) a' w' hfree' (ready_mono hr (Ne.symm hji)) h3.1 ?_) h2
   rw [Array.setIfInBounds_comm _ _ hji]
   exact h3.2
end
def Post.calm (Q : Post) : Post
 | .panic _, _, _, _ => False
 | e, fr, ds, G => Q e fr ds G
theorem Post.calm_le {Q : Post} {e : Exit} {fr : Fr} {ds : List Deferred} {G : Hp} (h : Post.calm Q e fr ds G) : Q e fr ds G := by
 cases e <;> first | exact h | exact h.elim
def GA (X : Cx) (ops : Array Oper) (Q : Post) (GJ : Hp) (fuel : Nat) (listed : List Bool) (fr : Fr) (ds : List Deferred) (G : Hp) : Prop :=
 ∀ n a w, FRep X.nt fr ds a → Sat X.w0 G w → wpAnyJ (fun w => Sat X.w0 GJ w) (Fw X.r) n X.P .any ops (Lands X (Post.calm Q)) fuel listed.toArray a w
section
variable {X : Cx} {Q : Post} {GJ : Hp} {fr fr' : Fr} {ds : List Deferred} {G G' : Hp} {ops : Array Oper} {o : Oper} {d fuel : Nat} {L : List Bool}
theorem GA.weak (hk : Keeps fr fr') (hs : Hs G G') (h : GA X ops Q GJ fuel L fr' ds G') : GA X ops Q GJ fuel L fr ds G := fun n a w hf hw => h n a w (hf.weak hk) (hs _ _ hw)
theorem GW.draw {id : Nat} {l : List Oper} (GJ : Hp) (m : Nat) (hn : l.length = m) (hm : X.P.follows .mixedOrders = true) (h : GA X l.toArray Q GJ m (List.replicate m false) fr ds G) : GW X (.region id l.toArray true) Q fr ds G := fun n a w hf hs => by
 subst hn
 refine wpIn_region_any hm ?_
 have := (h n a w.drew hf hs.drew).plain
 have e : (List.replicate l.length false).toArray = Array.replicate l.toArray.size false := by simp
 rw [e] at this
 have hmono : ∀ (fuel : Nat) (listed : Array Bool) (a : Act) (w : World), wpAnyIn (Fw X.r) n X.P .any l.toArray (Lands X (Post.calm Q)) fuel listed a w → wpAnyIn (Fw X.r) n X.P .any l.toArray (Lands X Q) fuel listed a w := by
  intro fuel
  have hq : ∀ e a w, Lands X (Post.calm Q) e a w → Lands X Q e a w := fun e a w ⟨fr, ds, G, h1, h2, h3⟩ => ⟨fr, ds, G, h1, h2, Post.calm_le h3⟩
  induction fuel with
  | zero => exact fun listed a w h => ⟨h.1, hq _ _ _ h.2⟩
  | succ fuel ih =>
   intro listed a w h
   refine ⟨fun hr => hq _ _ _ (h.1 hr), fun i hi => ?_⟩
   have h2 := wpOpIn_mono (fun a w h => ih _ a w h) (h.2 i hi)
   unfold wpOpIn at h2 ⊢
   split
   ·rename_i hn; simp only [hn] at h2; exact h2
   ·rename_i o ho
    simp only [ho] at h2
    split
    ·rename_i hw
     simp only [hw, if_true] at h2
     unfold Oper.wpIn at *
     refine ⟨h2.1, ?_⟩
     have h2 := h2.2
     generalize (o.semAt (Fw X.r).round a.eval).run X.P w = r at *
     cases r with
     | ok x w' =>
      cases x <;> simp only [Oper.uponIn] at h2 ⊢ <;>
       first
        | exact h2
        | exact ⟨h2.1, CallsIn.mono h2.2 (fun e w'' he => by
          cases e with
          | returned v => exact he
          | panicked c => exact hq _ _ _ he
          | outgrown => exact ⟨he.choose, he.choose_spec.choose, hq _ _ _ he.choose_spec.choose_spec⟩)⟩
        | exact ⟨h2.1, RowsIn.mono h2.2 (fun _ _ he => he)⟩
        | exact ⟨h2.1, RoundIn.mono h2.2 (fun e w'' he => by
          cases e with
          | returned v => exact he
          | panicked c => exact hq _ _ _ he
          | outgrown => exact ⟨he.choose, he.choose_spec.choose, hq _ _ _ he.choose_spec.choose_spec⟩)⟩
     | halt x w' => cases x <;> simp only [Oper.uponIn] at h2 ⊢ <;> first | exact h2.elim | exact hq _ _ _ h2
    ·rename_i hw; simp only [hw] at h2; exact h2
 exact hmono _ _ _ _ this
theorem GW.drawS {id : Nat} {l : List Oper} (m : Nat) (hn : l.length = m) (hm : X.P.follows .mixedOrders = true) (h : GA X l.toArray Q G m (List.replicate m false) fr ds G) : GW X (.region id l.toArray true) Q fr ds G := GW.draw G m hn hm h
theorem GA.val (i : Nat) {v : Value} (hi : ops[i]? = some o) (hg : GV X ops fr GJ o d v) (hro : X.r = none) (hs : Region.noSelect ops = true) (hf : Region.free .any ops L.toArray i = true) (hr : (Region.ready .any ops L.toArray).contains i = true)
  (h : GA X ops Q GJ fuel (L.set i true) ((d, v) :: fr) ds G) : GA X ops Q GJ (fuel + 1) L fr ds G := fun n a w hfr hw => by
 refine wpAnyJ_first (i := i) (oi := o) (v := v) (by simp [Fw, hro]) (fun _ => trivial) hi (Region.noSelect_spec hs) (fun c a w ⟨_, _, _, _, _, h3⟩ => h3.elim) fuel _ a w (Region.free_spec hi hf) (by simpa using hr) (.inl ⟨wanted_of hfr hg.on, fun w' hw' => hg.run _ w' (fun x v hx => hfr.eval hx) hw'⟩) ?_
 rw [hg.dst]
 have := h n _ w (hfr.put (Nat.le_of_ble_eq_true hg.lt) v) hw
 simpa using this
theorem GA.w (i : Nat) {v : Value} (hi : ops[i]? = some o) (hg : GV X ops fr GJ o d v) (hro : X.r = none) (h : GA X ops Q GJ fuel (L.set i true) ((d, v) :: fr) ds G) (hs : Region.noSelect ops = true := by kernel_rfl) (hf : Region.free .any ops L.toArray i = true := by kernel_rfl) (hr : (Region.ready .any ops L.toArray).contains i = true := by kernel_rfl) : GA X ops Q GJ (fuel + 1) L fr ds G := GA.val i hi hg hro hs hf hr h
theorem GA.skip (i : Nat) (hi : ops[i]? = some o) (hw0 : wantedO ops fr o = some false) (hd : o.dst = some d) (hlt : Nat.blt d X.nt = true) (hro : X.r = none) (hs : Region.noSelect ops = true) (hf : Region.free .any ops L.toArray i = true) (hr : (Region.ready .any ops L.toArray).contains i = true)
  (h : GA X ops Q GJ fuel (L.set i true) ((d, undef) :: fr) ds G) : GA X ops Q GJ (fuel + 1) L fr ds G := fun n a w hfr hw => by
 refine wpAnyJ_first (i := i) (oi := o) (v := undef) (by simp [Fw, hro]) (fun _ => trivial) hi (Region.noSelect_spec hs) (fun c a w ⟨_, _, _, _, _, h3⟩ => h3.elim) fuel _ a w (Region.free_spec hi hf) (by simpa using hr) (.inr ⟨wanted_of hfr hw0, rfl⟩) ?_
 rw [hd]
 have := h n _ w (hfr.put (Nat.le_of_ble_eq_true hlt) undef) hw
 simpa using this
theorem GA.sk (i : Nat) (hi : ops[i]? = some o) (hw0 : wantedO ops fr o = some false) (hd : o.dst = some d) (hlt : Nat.blt d X.nt = true) (hro : X.r = none) (h : GA X ops Q GJ fuel (L.set i true) ((d, undef) :: fr) ds G) (hs : Region.noSelect ops = true := by kernel_rfl) (hf : Region.free .any ops L.toArray i = true := by kernel_rfl) (hr : (Region.ready .any ops L.toArray).contains i = true := by kernel_rfl) : GA X ops Q GJ (fuel + 1) L fr ds G := GA.skip i hi hw0 hd hlt hro hs hf hr h
theorem wpOpIn_of {n : Nat} {i : Nat} {a : Act} {w : World} {K : Act → World → Prop} (hi : ops[i]? = some o) (hK : ∀ a w, Lands X (Post.then (fun fr ds G => ∀ a w, FRep X.nt fr ds a → Sat X.w0 G w → K a w) (Post.calm Q)) .normal a w → K a w)
  (h : wpListIn (Fw X.r) n X.P ops (Lands X (Post.then (fun fr ds G => ∀ a w, FRep X.nt fr ds a → Sat X.w0 G w → K a w) (Post.calm Q))) [o] a w) : wpOpIn (Fw X.r) n X.P ops (Lands X (Post.calm Q)) i K a w := by
 unfold wpOpIn
 simp only [hi, wpListIn] at h ⊢
 have hq : ∀ c a w, Lands X (Post.then (fun fr ds G => ∀ a w, FRep X.nt fr ds a → Sat X.w0 G w → K a w) (Post.calm Q)) (.panic c) a w → Lands X (Post.calm Q) (.panic c) a w := fun c a w h => h
 split
 ·rename_i hw
  rw [if_pos hw] at h
  unfold Oper.wpIn at *
  refine ⟨h.1, ?_⟩
  have h := h.2
  generalize (o.semAt (Fw X.r).round a.eval).run X.P w = r at *
  cases r with
  | ok x w' =>
   cases x <;> simp only [Oper.uponIn] at h ⊢ <;>
    first
     | exact hK _ _ h
     | exact ⟨h.1, CallsIn.mono h.2 (fun e w'' he => by
       cases e with
       | returned v => exact hK _ _ he
       | panicked c => exact hq _ _ _ he
       | outgrown => exact ⟨he.choose, he.choose_spec.choose, he.choose_spec.choose_spec⟩)⟩
     | exact ⟨h.1, RowsIn.mono h.2 (fun _ _ he => hK _ _ he)⟩
     | exact ⟨h.1, RoundIn.mono h.2 (fun e w'' he => by
       cases e with
       | returned v => exact hK _ _ he
       | panicked c => exact hq _ _ _ he
       | outgrown => exact ⟨he.choose, he.choose_spec.choose, he.choose_spec.choose_spec⟩)⟩
  | halt x w' => cases x <;> simp only [Oper.uponIn] at h ⊢ <;> first | exact h.elim | exact hq _ _ _ h
 ·rename_i hw
  rw [if_neg hw] at h
  exact ⟨h.1, hK _ _ h.2⟩
theorem GA.all (rs : List Nat) (hJ : Hs G GJ) (hr : Region.ready .any ops L.toArray = rs) (hne : rs ≠ [])
  (h : ∀ i ∈ rs, ∃ o, ops[i]? = some o ∧ GOps X ops (Post.then (GA X ops Q GJ fuel (L.set i true)) (Post.calm Q)) [o] fr ds G) : GA X ops Q GJ (fuel + 1) L fr ds G := fun n a w hf hw => by
 refine ⟨hJ _ _ hw, fun h0 => absurd (hr ▸ h0) hne, fun i hi => ?_⟩
 rw [hr] at hi
 obtain ⟨o, ho, hk⟩ := h i hi
 refine wpOpIn_of (Q := Q) ho (fun a w ⟨fr, ds, G, h1, h2, h3⟩ => h3 a w h1 h2) ?_
 refine wpListIn_mono' (hk n a w hf hw) ?_
 rintro e a' w' ⟨fr1, ds1, G1, h1, h2, h3⟩
 refine ⟨fr1, ds1, G1, h1, h2, ?_⟩
 cases e with
 | normal =>
  intro a2 w2 g1 g2
  have := h3 n a2 w2 g1 g2
  simpa using this
 | _ => exact h3
theorem GA.one (i : Nat) (hJ : Hs G GJ) (hr : Region.ready .any ops L.toArray = [i]) (hi : ops[i]? = some o) (h : GOps X ops (Post.then (GA X ops Q GJ fuel (L.set i true)) (Post.calm Q)) [o] fr ds G) : GA X ops Q GJ (fuel + 1) L fr ds G :=
 GA.all [i] hJ hr (by simp) (fun j hj => by rw [List.mem_singleton] at hj; subst hj; exact ⟨o, hi, h⟩)
theorem GA.two (i j : Nat) {o' : Oper} (hJ : Hs G GJ) (hr : Region.ready .any ops L.toArray = [i, j]) (hi : ops[i]? = some o) (hj : ops[j]? = some o') (h : GOps X ops (Post.then (GA X ops Q GJ fuel (L.set i true)) (Post.calm Q)) [o] fr ds G)
  (h' : GOps X ops (Post.then (GA X ops Q GJ fuel (L.set j true)) (Post.calm Q)) [o'] fr ds G) : GA X ops Q GJ (fuel + 1) L fr ds G :=
 GA.all [i, j] hJ hr (by simp) (fun k hk => by
  simp only [List.mem_cons, List.not_mem_nil, or_false] at hk
  rcases hk with rfl | rfl
  ·exact ⟨o, hi, h⟩
  ·exact ⟨o', hj, h'⟩)
theorem GA.done (hJ : Hs G GJ) (hr : Region.ready .any ops L.toArray = []) (h : Q .normal fr ds G) : GA X ops Q GJ fuel L fr ds G := fun n a w hf hw => by
 cases fuel with
 | zero => exact ⟨hJ _ _ hw, hr, _, _, _, hf, hw, h⟩
 | succ k => exact ⟨hJ _ _ hw, fun _ => ⟨_, _, _, hf, hw, h⟩, by rw [hr]; simp⟩
theorem GA.caseB (d : Nat) {t : Bool} (hd : lk fr d = some (.bool t)) (h1 : t = true → GA X ops Q GJ fuel L ((d, .bool true) :: fr) ds G) (h2 : t = false → GA X ops Q GJ fuel L ((d, .bool false) :: fr) ds G) : GA X ops Q GJ fuel L fr ds G := by
 have hk : Keeps fr ((d, .bool t) :: fr) := Keeps.cons hd (Keeps.refl _)
 cases t with
 | true => exact GA.weak hk (Hs.refl _) (h1 rfl)
 | false => exact GA.weak hk (Hs.refl _) (h2 rfl)
end
end Go.Proofs.YtfddkcmooommeaaGreatDoor.Gl
end
section
namespace Go.Proofs.YtfddkcmooommeaaGreatDoor.Gl
open Go.RowKit Go.Shelf
set_option linter.unusedVariables false
set_option linter.unnecessarySimpa false
set_option linter.unusedSimpArgs false
def lrec (r : Loop) (s : LoopState) (p : Option Code) : Know := .exact (.loop { r with state := s, pending := p })
def GY (P : Program) (w0 : World) (l : Nat) (args : List Value) (R : Value → Hp → Prop) (G : Hp) : Prop :=
 ∀ n w, Sat w0 G w → ∃ fn tmps assign body, (Instr.yield l args.toArray).run P w = .ok (.round l fn tmps assign body) w ∧
  RoundIn (Fw none) n P l fn tmps assign body w (fun e w' => ∃ v G', e = .returned v ∧ Sat w0 G' w' ∧ R v G')
theorem GY.mono {P : Program} {w0 : World} {l : Nat} {args : List Value} {R R' : Value → Hp → Prop} {G : Hp} (h : GY P w0 l args R G) (hr : ∀ v G, R v G → R' v G) : GY P w0 l args R' G := fun n w hw => by
 obtain ⟨fn, tmps, assign, body, h1, h2⟩ := h n w hw
 exact ⟨fn, tmps, assign, body, h1, h2.mono fun _ _ ⟨v, G', e, hs, hR⟩ => ⟨v, G', e, hs, hr _ _ hR⟩⟩
theorem GY.weak {P : Program} {w0 : World} {l : Nat} {args : List Value} {R : Value → Hp → Prop} {G G' : Hp} (hs : Hs G G') (h : GY P w0 l args R G') : GY P w0 l args R G := fun n w hw => h n w (hs _ _ hw)
section
variable {X : Cx} {Q : Post} {fr : Fr} {ds : List Deferred} {G : Hp} {ops : Array Oper} {o : Oper} {rest : List Oper} {d : Nat}
theorem R.yield {cf : Operand} {xs : Array Operand} {ats : Array TypeId} {l : Nat} {vs : List Value} (h : At X ops fr o (.call { callee := .value cf, args := xs, argTypes := ats }) d)
  (hcf : evO fr cf = some (.func (.yield l) #[] #[])) (hxs : xs.toList.map (evO fr) = vs.map some) (hc : GY X.P X.w0 l vs (fun v G' => GOps X ops Q rest ((d, v) :: fr) ds G') G) : GOps X ops Q (o :: rest) fr ds G := fun n a w hf hs => by
 have hρ : ∀ x v, evO fr x = some v → a.eval x = v := fun x v hx => hf.eval hx
 simp only [wpListIn, wanted_of hf h.on, if_true]
 refine ⟨fun _ _ => trivial, ?_⟩
 obtain ⟨fn, tmps, assign, body, hy, hR⟩ := hc (n - 1) w hs
 have hrun : (execOp a.eval o).run X.P w = .ok (.round l fn tmps assign body) w := by
  simp only [execOp, h.op, resolve, hρ _ _ hcf, args_of hρ hxs, Deferred.ofValue, Sem.run_bind, Sem.run_pure, Result.andThen_ok, invoke]
  simpa using hy
 rw [Oper.semAt_eq _ _ _ (fun c => by rw [h.op]; simp), hrun, Oper.uponIn_round]
 refine ⟨fun hd => by simp [Fw] at hd, ?_⟩
 have hcall : RoundIn (Fw X.r) (n - 1) X.P l fn tmps assign body w _ := hR
 refine hcall.mono ?_
 rintro e w' ⟨v, G', rfl, hs', hK⟩
 rw [h.dst]
 exact hK n _ w' (hf.put (Nat.le_of_ble_eq_true h.lt) v) hs'
end
def putAll (fr : Fr) : List (Nat × Value) → Fr
 | [] => fr
 | (p, v) :: r => putAll ((p, v) :: fr) r
theorem FRep.putAll {nt : Nat} {ds : List Deferred} : ∀ (l : List (Nat × Value)) (fr : Fr) (tm : Array Value), (∀ x ∈ l, x.1 < nt) → FRep nt fr ds { tmps := tm, defers := ds } →
  FRep nt (putAll fr l) ds { tmps := l.foldl (fun t x => t.setIfInBounds x.1 x.2) tm, defers := ds }
 | [], fr, tm, _, h => h
 | (p, v) :: r, fr, tm, hl, h => by
  have h1 := h.put (hl (p, v) (by simp)) v
  exact FRep.putAll r ((p, v) :: fr) (tm.setIfInBounds p v) (fun x hx => hl x (by simp [hx])) h1
def RPost (l : Nat) (r : Loop) (R : Value → Hp → Prop) : Post
 | .normal, _, _, G => ∃ G2, Hs G ((l, lrec r .busy none) :: G2) ∧ R (.bool true) ((l, lrec r .ready none) :: G2)
 | .ret, _, _, G => ∃ G2, Hs G ((l, lrec r .busy none) :: G2) ∧ R (.bool false) ((l, lrec r .done (some .ret)) :: G2)
 | .exit id, _, _, G => ∃ G2, Hs G ((l, lrec r .busy none) :: G2) ∧ R (.bool false) ((l, lrec r .done (some (.exit id))) :: G2)
 | .goto t, _, _, G => ∃ G2, Hs G ((l, lrec r .busy none) :: G2) ∧ R (.bool false) ((l, lrec r .done (some (.goto t))) :: G2)
 | _, _, _, _ => False
theorem run_setLoop {P : Program} {w : World} {l : Nat} {o : Obj} {x : Loop} (h : w.heap[l]? = some (.loop x)) : (setObj l o).run P w = .ok () { w with heap := w.heap.setIfInBounds l o } := by
 simp [setObj, Sem.run, h]
theorem run_getLoop {P : Program} {w : World} {l : Nat} {x : Loop} (h : w.heap[l]? = some (.loop x)) : (Instr.getLoop l).run P w = .ok x w := by
 simp [Instr.getLoop, getObj, Sem.run, h]
theorem Sat.setObj {w0 w : World} {G : Hp} {l : Nat} {o o' : Obj} (h : Sat w0 ((l, .exact o) :: G) w) (ho : coolO o' := by first | exact rfl | exact trivial) : Sat w0 ((l, .exact o') :: G) { w with heap := w.heap.setIfInBounds l o' } := by
 have hl : l < w.heap.size := h.lt List.mem_cons_self
 exact Sat.turn (G1 := []) h rfl rfl rfl (by simp) (fun i hi => by
  show (w.heap.setIfInBounds l o')[i]? = _
  rw [Array.getElem?_setIfInBounds, if_neg (fun e => hi e.symm)]) (by simp [Know.holds, hl]) ho
theorem GY.intro {P : Program} {w0 : World} {nt : Nat} {l : Nat} {r : Loop} {fr : Fr} {vs : List Value} {R : Value → Hp → Prop} {G : Hp} (hf : FRep nt fr [] { tmps := r.tmps, defers := [] }) (hn : vs.length = r.params.size) (hp : r.params.toList.all (fun p => Nat.blt p nt) = true)
  (h : GW ⟨P, w0, some l, nt⟩ r.assign (Post.then (fun fr1 ds1 G1 => ∃ G2, Hs G1 ((l, lrec r .ready none) :: G2) ∧ GW ⟨P, w0, some l, nt⟩ r.body (RPost l r R) fr1 ds1 ((l, lrec r .busy none) :: G2)) (fun _ _ _ _ => False))
   (putAll fr (r.params.toList.zip vs)) [] ((l, lrec r .ready none) :: G)) : GY P w0 l vs R ((l, lrec r .ready none) :: G) := by
 intro n w hw
 have hl := (hw.own l _ List.mem_cons_self).2
 simp only [Know.holds, lrec] at hl
 refine ⟨r.fn, (r.params.zip vs.toArray).foldl (fun tmps x => tmps.setIfInBounds x.1 x.2) r.tmps, r.assign, r.body, ?_, ?_⟩
 ·simp [Instr.yield, run_getLoop hl, hn]
 ·refine roundIn_of_wpIn trivial ?_
  have hfold : (r.params.zip vs.toArray).foldl (fun tmps x => tmps.setIfInBounds x.1 x.2) r.tmps = (r.params.toList.zip vs).foldl (fun t x => t.setIfInBounds x.1 x.2) r.tmps := by
   rw [← Array.foldl_toList]
   simp
  rw [hfold]
  have hfr := FRep.putAll (ds := []) (r.params.toList.zip vs) fr r.tmps (fun x hx => by
   have := List.all_eq_true.1 hp x.1 (List.of_mem_zip hx).1
   exact Nat.le_of_ble_eq_true this) hf
  refine wpIn_mono (h n _ w hfr hw) ?_
  rintro e a1 w1 ⟨fr1, ds1, G1, h1, h2, h3⟩
  cases e with
  | normal =>
   obtain ⟨G2, hh, hb⟩ := h3
   have hs := hh _ _ h2
   have hl1 := (hs.own l _ List.mem_cons_self).2
   simp only [Know.holds, lrec] at hl1
   refine ⟨{ w1 with heap := w1.heap.setIfInBounds l (.loop { r with state := .busy, pending := none }) }, ?_, ?_⟩
   ·simp [Instr.beginRound, run_getLoop hl1, run_setLoop hl1]
   ·refine wpIn_mono (hb n a1 _ h1 (Sat.setObj hs)) ?_
    rintro e a2 w2 ⟨fr2, ds2, G3, g1, g2, g3⟩
    cases e with
    | normal =>
     obtain ⟨G4, hh4, hR⟩ := g3
     have hs4 := hh4 _ _ g2
     have hl2 := (hs4.own l _ List.mem_cons_self).2
     simp only [Know.holds, lrec] at hl2
     exact ⟨.bool true, { w2 with heap := w2.heap.setIfInBounds l (.loop { r with state := .ready, pending := none }) }, by simp [Instr.endRound, run_getLoop hl2, run_setLoop hl2], _, _, rfl, Sat.setObj hs4, hR⟩
    | ret =>
     obtain ⟨G4, hh4, hR⟩ := g3
     have hs4 := hh4 _ _ g2
     have hl2 := (hs4.own l _ List.mem_cons_self).2
     simp only [Know.holds, lrec] at hl2
     exact ⟨.bool false, { w2 with heap := w2.heap.setIfInBounds l (.loop { r with state := .done, pending := some .ret }) }, by simp [Instr.endRound, run_getLoop hl2, run_setLoop hl2], _, _, rfl, Sat.setObj hs4, hR⟩
    | exit id =>
     obtain ⟨G4, hh4, hR⟩ := g3
     have hs4 := hh4 _ _ g2
     have hl2 := (hs4.own l _ List.mem_cons_self).2
     simp only [Know.holds, lrec] at hl2
     exact ⟨.bool false, { w2 with heap := w2.heap.setIfInBounds l (.loop { r with state := .done, pending := some (.exit id) }) }, by simp [Instr.endRound, run_getLoop hl2, run_setLoop hl2], _, _, rfl, Sat.setObj hs4, hR⟩
    | goto t =>
     obtain ⟨G4, hh4, hR⟩ := g3
     have hs4 := hh4 _ _ g2
     have hl2 := (hs4.own l _ List.mem_cons_self).2
     simp only [Know.holds, lrec] at hl2
     exact ⟨.bool false, { w2 with heap := w2.heap.setIfInBounds l (.loop { r with state := .done, pending := some (.goto t) }) }, by simp [Instr.endRound, run_getLoop hl2, run_setLoop hl2], _, _, rfl, Sat.setObj hs4, hR⟩
    | panic c => exact g3.elim
    | outgrown => exact g3.elim
  | _ => exact h3.elim
theorem GW.rangeFunc {P : Program} {w0 : World} {nt : Nat} {g : Operand} {ps : Array Tmp} {assign body : Code} {Q : Post} {fr : Fr} {ds : List Deferred} {G : Hp} {f : FuncId} {first cap : Array Value} (hg : evO fr g = some (.func (.func f) first cap))
    (h : ∀ (D l : Nat) (r : Loop), r.params = ps → r.assign = assign → r.body = body → FRep nt fr [] { tmps := r.tmps, defers := [] } →
      GC P w0 f (first ++ #[.func (.yield l) #[] #[]] ++ cap) (fun _ G' => ∃ s p G1, s ≠ LoopState.busy ∧ Hs G' ((l, lrec r s p) :: (D, .exact (.deferred (some []))) :: G1) ∧
        (match p with
         | none => Q .normal fr ({ target := .collected D, args := #[] } :: ds) ((D, .exact (.deferred (some []))) :: G1)
         | some c => GW ⟨P, w0, none, nt⟩ c Q fr ({ target := .collected D, args := #[] } :: ds) ((D, .exact (.deferred (some []))) :: G1)))
        ((l, lrec r .ready none) :: (D, .exact (.deferred (some []))) :: G)) : GW ⟨P, w0, none, nt⟩ (.rangeFunc g ps assign body) Q fr ds G := by
  intro n a w hf hw
  refine wpIn_rangeFunc fun fn _ => ?_
  let r : Loop := { state := .ready, pending := none, fn := fn, tmps := a.tmps, params := ps, assign := assign, body := body, defers := w.heap.size }
  have hfr : FRep nt fr [] { tmps := r.tmps, defers := [] } := ⟨hf.size, hf.look, rfl⟩
  have H := h w.heap.size (w.heap.size + 1) r rfl rfl rfl hfr
  refine ⟨w.heap.size + 1, [{ target := .collected w.heap.size, args := #[] }], (w.alloc (.deferred (some []))).alloc (.loop r), { target := .fn (.func f) cap, args := first ++ #[.func (.yield (w.heap.size + 1)) #[] #[]] }, (w.alloc (.deferred (some []))).alloc (.loop r), f, first ++ #[.func (.yield (w.heap.size + 1)) #[] #[]] ++ cap, (w.alloc (.deferred (some []))).alloc (.loop r), ?_, ?_, fun _ _ => trivial, ?_, fun hd => by simp [Fw] at hd, ?_⟩
  · simp [Instr.enterLoop, newObj, Sem.run, Fw, r]
  · have hgv := hf.eval hg
    simp only [resolve, rangeCall]
    rw [hgv]
    simp [Deferred.ofValue, Act.eval]
  · exact H.1 _ _
  · have hs1 := hw.alloc (.deferred (some []))
    have hs2 := hs1.alloc (.loop r)
    rw [World.size_alloc] at hs2
    refine (H.2 (n - 1) _ hs2).mono ?_
    rintro e w3 ⟨v, G', rfl, hs3, s, p, G1, hsb, hh, hQ⟩
    have hs4 := hh _ _ hs3
    have hl := (hs4.own _ _ List.mem_cons_self).2
    simp only [Know.holds, lrec] at hl
    refine ⟨p, { w3 with heap := w3.heap.setIfInBounds (w.heap.size + 1) (.loop { r with state := .exhausted, pending := p }) }, ?_, ?_⟩
    · simp [Instr.endLoop, run_getLoop hl, run_setLoop hl, hsb]
    · have hs5 : Sat w0 ((w.heap.size, .exact (.deferred (some []))) :: G1) { w3 with heap := w3.heap.setIfInBounds (w.heap.size + 1) (.loop { r with state := .exhausted, pending := p }) } :=
        (Sat.setObj hs4).sub (List.sublist_cons_self _ _)
      have hf' : FRep nt fr ({ target := .collected w.heap.size, args := #[] } :: ds) { a with defers := [{ target := .collected w.heap.size, args := #[] }] ++ a.defers } := ⟨hf.size, hf.look, by simp [hf.defers]⟩
      cases p with
      | none => exact ⟨_, _, _, hf', hs5, hQ⟩
      | some c => exact hQ n _ _ hf' hs5
end Go.Proofs.YtfddkcmooommeaaGreatDoor.Gl
end
section
namespace Go.Proofs.YtfddkcmooommeaaGreatDoor.Gl
open Go.RowKit Go.Shelf
set_option linter.unusedVariables false
set_option linter.unnecessarySimpa false
set_option linter.unusedSimpArgs false
section
variable {X : Cx} {Q : Post} {fr : Fr} {ds : List Deferred} {G : Hp} {ops : Array Oper} {o : Oper} {rest : List Oper} {d : Nat}
theorem V.ext {f : FuncId} {xs : Array Operand} {ats : Array TypeId} {fn : Func} {e : Array Value → Sem Value} {vs : List Value} {v : Value} (h : At X ops fr o (.call { callee := .value (.func f), args := xs, argTypes := ats }) d)
  (hf : X.P.funcs[f]? = some fn) (hname : (fn.name == "runtime.NumGoroutine") = false) (hb : fn.body.isNone = true) (hn : Extern.findNext fn = none) (he : Extern.find fn = some e)
  (hxs : xs.toList.map (evO fr) = vs.map some) (hv : ∀ w, (e vs.toArray).run X.P w = .ok v w) : GV X ops fr G o d v :=
 GV.of h (by simp) (fun ρ w hρ hw => by
  have hg : ρ (.func f) = .func (.func f) #[] #[] := hρ _ _ rfl
  have hname' : ¬ fn.name = "runtime.NumGoroutine" := by simpa using hname
  have hb' : fn.body = none := by simpa using hb
  simp [execOp, h.op, resolve, hg, args_of hρ hxs, Deferred.ofValue, invoke, callFunc, hf, hname', hb', hn, he, mark]
  simp [Sem.run, hv w])
theorem R.ext {f : FuncId} {xs : Array Operand} {ats : Array TypeId} {fn : Func} {e : Array Value → Sem Value} {vs : List Value} {v : Value} (h : At X ops fr o (.call { callee := .value (.func f), args := xs, argTypes := ats }) d)
  (hf : X.P.funcs[f]? = some fn) (hname : (fn.name == "runtime.NumGoroutine") = false) (hb : fn.body.isNone = true) (hn : Extern.findNext fn = none) (he : Extern.find fn = some e)
  (hxs : xs.toList.map (evO fr) = vs.map some) (hv : ∀ w, (e vs.toArray).run X.P w = .ok v w) (K : GOps X ops Q rest ((d, v) :: fr) ds G) : GOps X ops Q (o :: rest) fr ds G :=
 R.val h (by simp) (V.ext (G := G) h hf hname hb hn he hxs hv).run K
end
def mk1 (D : Nat) : Deferred := { target := .collected D, args := #[] }
theorem Out.of1 {X : Cx} {fn : Func} {R : Value → Hp → Prop} {fr : Fr} {G G' : Hp} {v : Value} {D : Nat} (hr : Res X fn fr G v) (hs : Hs G G') (h : R v G') : Out X fn R .ret fr [mk1 D] ((D, .exact (.deferred (some []))) :: G) :=
 ⟨.inr rfl, D, [], G, rfl, rfl, v, G', hs, hr, h⟩
theorem Out.of2 {X : Cx} {fn : Func} {R : Value → Hp → Prop} {fr : Fr} {G G' : Hp} {v : Value} {D D' : Nat} (hr : Res X fn fr G v) (hs : Hs G G') (h : R v G') : Out X fn R .ret fr [mk1 D, mk1 D'] ((D, .exact (.deferred (some []))) :: (D', .exact (.deferred (some []))) :: G) :=
 ⟨.inr rfl, D, [], _, rfl, rfl, D', [], G, rfl, rfl, v, G', hs, hr, h⟩
theorem Out.weak {X : Cx} {fn : Func} {R : Value → Hp → Prop} {fr : Fr} {ds : List Deferred} {c : Code} {G G' : Hp} (hs : Hs G G') (h : GW X c (Out X fn R) fr ds G') : GW X c (Out X fn R) fr ds G := GW.weak (Keeps.refl _) hs h
theorem resCell {X : Cx} {fn : Func} {t : Tmp} {ty : TypeId} {dsc : TypeDesc} {fr : Fr} {G : Hp} {b : Nat} {v : Value} (hr : fn.results = #[.cell t ty]) (hv : lk fr t = some (.pointer (some ⟨b, 0, none⟩))) (hu : X.P.underlying ty = some dsc) (ha : isA dsc = false) (hrd : Rd X.w0 G b 0 v) : Res X fn fr G v := fun a w ds hf hs => by
 have h1 := hf.look t _ hv
 have h2 := run_loadVar_one (P := X.P) hu ha hs hrd
 have h3 : a.tmps.getD t undef = .pointer (some ⟨b, 0, none⟩) := by simp [Array.getD_eq_getD_getElem?, h1]
 have h4 : (asAddr (.pointer (some ⟨b, 0, none⟩))).run X.P w = .ok ⟨b, 0, none⟩ w := rfl
 have h3' : (a.tmps[t]?.getD undef) = .pointer (some ⟨b, 0, none⟩) := by rw [h1]; rfl
 simp [results, hr, h3', h4, h2]
theorem GW.cutS {X : Cx} {y : Code} {Q : Post} {fr : Fr} {ds : List Deferred} {G : Hp} (d : Nat) (t : Bool) (fr' : Fr) {id : Nat} {l : List Oper} (h1 : GOps X l.toArray (fun e fr1 ds1 G1 => e = .normal ∧ ds1 = ds ∧ Keeps fr1 fr' ∧ Hs G1 G ∧ lk fr1 d = some (.bool t)) l fr ds G)
  (h2 : GW X y Q ((d, .bool t) :: fr') ds G) : GW X (.seq (.region id l.toArray false) y) Q fr ds G := GW.cutB d t fr' h1 h2
theorem GW.loop4 {X : Cx} {c : Code} {Q : Post} {fr : Fr} {ds : List Deferred} {G : Hp} {ι α β γ : Type} (FR : ι → α → β → γ → Fr) (GG : ι → α → β → γ → Hp) (μ : ι → Nat) (I : ι → α → β → γ → Prop) (i0 : ι) (a0 : α) (b0 : β) (c0 : γ)
  (hk : Keeps fr (FR i0 a0 b0 c0)) (hs : Hs G (GG i0 a0 b0 c0)) (h0 : I i0 a0 b0 c0)
  (hb : ∀ i x y z, I i x y z → GW X c (Post.then (fun fr' ds' G' => ∃ j x' y' z', μ j < μ i ∧ I j x' y' z' ∧ ds' = ds ∧ Keeps fr' (FR j x' y' z') ∧ Hs G' (GG j x' y' z')) Q) (FR i x y z) ds (GG i x y z)) : GW X (.loop c) Q fr ds G := by
 refine GW.loopI (ι := ι × α × β × γ) (fun p => FR p.1 p.2.1 p.2.2.1 p.2.2.2) (fun p => GG p.1 p.2.1 p.2.2.1 p.2.2.2) (fun p => μ p.1) (fun p => I p.1 p.2.1 p.2.2.1 p.2.2.2) (i0, a0, b0, c0) hk hs h0 ?_
 rintro ⟨i, x, y, z⟩ hi
 refine (hb i x y z hi).mono ?_
 intro e fr1 ds1 G1 h
 cases e with
 | normal =>
  obtain ⟨j, x', y', z', h1, h2⟩ := h
  exact ⟨(j, x', y', z'), h1, h2⟩
 | _ => exact h
theorem bs_from (s : ByteArray) (k : Nat) : bs (s.extract k s.size) = (bs s).drop k := by
 rw [bs_extract, List.take_of_length_le]
 rw [List.length_drop, bs_length]
 exact Nat.le_refl _
theorem size_from (s : ByteArray) (k : Nat) : (s.extract k s.size).size = s.size - k := by simp
end Go.Proofs.YtfddkcmooommeaaGreatDoor.Gl
end
section
namespace Go.Proofs.YtfddkcmooommeaaGreatDoor.Gl
open Go.RowKit Go.Shelf
set_option linter.unusedVariables false
set_option linter.unnecessarySimpa false
set_option linter.unusedSimpArgs false
section
variable {X : Cx} {Q : Post} {fr : Fr} {ds : List Deferred} {G : Hp} {ops : Array Oper} {o : Oper} {rest : List Oper} {d : Nat}
theorem R.makeSlice {t e : TypeId} {x y : Operand} {n sz bytes : Nat} (h : At X ops fr o (.makeSlice t x y) d) (hx : evO fr x = some (.int .i64 (n : Int))) (hy : evO fr y = some (.int .i64 (n : Int))) (hu : X.P.underlying t = some (.slice e)) (hi : InfoE X.P e sz bytes)
  (hb : bytes * n ≤ 281474976710656) (h63 : n ≤ 9223372036854775807)
  (K : ∀ b (C : Array Value), C.size = n * sz → GOps X ops Q rest ((d, .slice (some ⟨b, 0, none⟩) n n) :: fr) ds ((b, .exact (.cells C e (0, 0))) :: G)) : GOps X ops Q (o :: rest) fr ds G := by
 obtain ⟨i, z, hi1, hz, hzs, hs1, hb1⟩ := hi.ex
 refine R.stepW h (by simp) fun ρ w hρ hw => ?_
 have hb' : (i.bytes : Int) * (n : Int) ≤ 281474976710656 := by
  rw [hb1]
  have h : ((bytes * n : Nat) : Int) ≤ 281474976710656 := by omega
  rwa [Int.natCast_mul] at h
 have hr := run_make (P := X.P) w t e i z hu hi1 hz .i64 .i64 n n (by omega) (by omega) hb' (by omega)
 simp only [Int.toNat_natCast] at hr
 exact ⟨_, _, _, by
  simp only [execOp, h.op, hρ _ _ hx, hρ _ _ hy, Sem.run_bind, hr, Result.andThen_ok]
  rfl, hw.alloc _, K w.heap.size _ (by simp [madeCells, hs1])⟩
theorem R.sliceSH {t e : TypeId} {x y : Operand} {k : IntKind} {A : Option Addr} {n c z m : Nat} {j : Int} (h : At X ops fr o (.slice t x none (some y) none) d) (hx : evO fr x = some (.slice A n c)) (hy : evO fr y = some (.int k j)) (hu : X.P.underlying t = some (.slice e)) (hz : ∀ w, (sizeOf e).run X.P w = .ok z w)
  (hA : ∀ a, A = some a → a.spot = none) (h0 : 0 ≤ j) (h1 : j ≤ c) (hjm : j.toNat = m) (K : GOps X ops Q rest ((d, .slice A m c) :: fr) ds G) : GOps X ops Q (o :: rest) fr ds G := by
 subst hjm
 exact R.val h (by simp) (fun ρ w hρ hw => by
  have e : (if c = 0 then A else A.map (·.add (0 * z))) = A := by
   split
   ·rfl
   ·cases A with
    | none => rfl
    | some a =>
     obtain ⟨b, f, s⟩ := a
     have := hA _ rfl
     simp only at this
     subst this
     simp [add_none]
  simp only [execOp, h.op, Option.map_some, Option.map_none, hρ _ _ hx, hρ _ _ hy, Instr.sliceAt, Sem.run_bind, run_und hu, Result.andThen_ok, Instr.slice, Instr.sliceBounds, Sem.run_pure, Go.run_sliceBound w k j c _ h0 h1, hz]
  simp only [Nat.sub_zero, e]) K
end
end Go.Proofs.YtfddkcmooommeaaGreatDoor.Gl
end
section
namespace Go.Proofs.YtfddkcmooommeaaGreatDoor.Gl
open Go.RowKit Go.Shelf
set_option linter.unusedVariables false
set_option linter.unnecessarySimpa false
set_option linter.unusedSimpArgs false
def easyKey : TypeDesc → Bool
 | .int _ | .string | .bool => true
 | _ => false
section
variable {P : Program} {w : World}
theorem run_checkKey_easy {kt : TypeId} {kd : TypeDesc} (hk : P.underlying kt = some kd) (he : easyKey kd = true) (e : Bool) (n : Nat) (v : Value) : (Instr.checkKey e (n + 1) kt v).run P w = .ok () w := by
 rw [Instr.checkKey, Sem.run_bind, run_und hk]
 cases kd <;> first | (cases he; done) | (cases v <;> rfl)
theorem run_findKey {kt : TypeId} {kd : TypeDesc} {k : Value} {es : List MapEntry} {r : Option (Nat × Value)} (hk : P.underlying kt = some kd) (hf : Instr.findNow kd k es 0 = some r) : (Instr.findKey kt k es).run P w = .ok r w := by
 rw [Instr.findKey, Sem.run_bind, run_und hk]
 simp [hf]
theorem run_getMap {b : Nat} {es : Array MapEntry} {clock : Nat} (h : w.heap[b]? = some (.map es clock)) : (getObj b).run P w = .ok (.map es clock) w := by simp [getObj, Sem.run, h]
theorem run_setMap {b : Nat} {es : Array MapEntry} {clock : Nat} {o : Obj} (h : w.heap[b]? = some (.map es clock)) : (setObj b o).run P w = .ok () { w with heap := w.heap.setIfInBounds b o } := by simp [setObj, Sem.run, h]
theorem run_mapNew {t kt et : TypeId} {kd : TypeDesc} {b : Nat} {es : Array MapEntry} {clock : Nat} {k v : Value} (hu : P.underlying t = some (.map kt et)) (hk : P.underlying kt = some kd) (he : easyKey kd = true) (hg : w.heap[b]? = some (.map es clock)) (hf : Instr.findNow kd k es.toList 0 = some none) :
  (Instr.mapUpdate t (.map (some b)) k v).run P w = .ok () { w with heap := w.heap.setIfInBounds b (.map (es.push { key := k, val := v, born := clock }) (clock + 1)) } := by
 simp only [Instr.mapUpdate, Sem.run_bind, run_und hu, Result.andThen_ok, run_getMap hg, run_checkKey_easy hk he, run_findKey hk hf, run_setMap hg]
theorem run_mapOld {t kt et : TypeId} {kd : TypeDesc} {b i : Nat} {es : Array MapEntry} {clock : Nat} {k v u : Value} (hu : P.underlying t = some (.map kt et)) (hk : P.underlying kt = some kd) (he : easyKey kd = true) (hg : w.heap[b]? = some (.map es clock)) (hf : Instr.findNow kd k es.toList 0 = some (some (i, u)))
  (hs : Instr.sameBits 10000 (((es[i]?).map (·.key)).getD k) k = true) :
  (Instr.mapUpdate t (.map (some b)) k v).run P w = .ok () { w with heap := w.heap.setIfInBounds b (.map (es.modify i fun e => { e with key := k, val := v }) clock) } := by
 simp only [Instr.mapUpdate, Sem.run_bind, run_und hu, Result.andThen_ok, run_getMap hg, run_checkKey_easy hk he, run_findKey hk hf, Instr.keyThatStays, hs, if_true, Sem.run_pure, run_setMap hg]
theorem run_lookup_some {t kt et : TypeId} {kd : TypeDesc} {b i : Nat} {es : Array MapEntry} {clock : Nat} {k u : Value} (hu : P.underlying t = some (.map kt et)) (hk : P.underlying kt = some kd) (he : easyKey kd = true) (hg : w.heap[b]? = some (.map es clock)) (hf : Instr.findNow kd k es.toList 0 = some (some (i, u))) :
  (Instr.lookup t (.map (some b)) k false).run P w = .ok u w := by
 simp only [Instr.lookup, Sem.run_bind, run_und hu, Result.andThen_ok, run_getMap hg, run_checkKey_easy hk he, run_findKey hk hf, Sem.run_pure]
 rfl
theorem run_lookup_none {t kt et : TypeId} {kd : TypeDesc} {b : Nat} {es : Array MapEntry} {clock : Nat} {k z : Value} (hu : P.underlying t = some (.map kt et)) (hk : P.underlying kt = some kd) (he : easyKey kd = true) (hg : w.heap[b]? = some (.map es clock)) (hf : Instr.findNow kd k es.toList 0 = some none)
  (hz : (zeroValue et).run P w = .ok z w) : (Instr.lookup t (.map (some b)) k false).run P w = .ok z w := by
 simp only [Instr.lookup, Sem.run_bind, run_und hu, Result.andThen_ok, run_getMap hg, run_checkKey_easy hk he, run_findKey hk hf, Sem.run_pure, hz]
 rfl
end
section
variable {X : Cx} {Q : Post} {fr : Fr} {ds : List Deferred} {G : Hp} {ops : Array Oper} {o : Oper} {rest : List Oper} {d : Nat}
theorem R.makeMap {t : TypeId} (h : At X ops fr o (.makeMap t none) d) (K : ∀ b, GOps X ops Q rest ((d, .map (some b)) :: fr) ds ((b, .exact (.map #[] 0)) :: G)) : GOps X ops Q (o :: rest) fr ds G :=
 R.stepW h (by simp) fun ρ w hρ hw => ⟨_, _, _, by
  simp only [execOp, h.op, Option.map_none, Sem.run_bind, run_makeMap, Result.andThen_ok]
  rfl, hw.alloc _, K w.heap.size⟩
theorem Sat.setMap {w0 w : World} {G1 G2 : Hp} {b : Nat} {o o' : Obj} (h : Sat w0 (G1 ++ (b, .exact o) :: G2) w) (ho : coolO o' := by first | exact rfl | exact trivial) : Sat w0 (G1 ++ (b, .exact o') :: G2) { w with heap := w.heap.setIfInBounds b o' } := by
 have hl : b < w.heap.size := h.lt (List.mem_append_right _ List.mem_cons_self)
 exact Sat.turn h rfl rfl rfl (by simp) (fun i hi => by
  show (w.heap.setIfInBounds b o')[i]? = _
  rw [Array.getElem?_setIfInBounds, if_neg (fun e => hi e.symm)]) (by simp [Know.holds, hl]) ho
def hit (z : Value) : Option (Nat × Value) → Value
 | some (_, u) => u
 | none => z
def putOp (t : TypeId) (m k x : Operand) : Op → Prop := fun op => op = .mapUpdate t m k x ∨ op = .insert t m k x
theorem R.putNew {t kt et : TypeId} {kd : TypeDesc} {m k x : Operand} {b : Nat} {key v : Value} {es : Array MapEntry} {clock : Nat} {G1 G2 : Hp} (ho : putOp t m k x o.op) (hd : o.dst = none) (hon : wantedO ops fr o = some true) (hm : evO fr m = some (.map (some b))) (hk : evO fr k = some key) (hx : evO fr x = some v)
  (hu : X.P.underlying t = some (.map kt et)) (hkt : X.P.underlying kt = some kd) (he : easyKey kd = true) (hG : G = G1 ++ (b, .exact (.map es clock)) :: G2) (hf : Instr.findNow kd key es.toList 0 = some none)
  (K : GOps X ops Q rest fr ds (G1 ++ (b, .exact (.map (es.push { key := key, val := v, born := clock }) (clock + 1))) :: G2)) : GOps X ops Q (o :: rest) fr ds G := by
 subst hG
 exact GOps.unit hon hd (fun c => by rcases ho with ho | ho <;> rw [ho] <;> simp) (fun ρ w hρ hw => by
  have hg := (hw.own b _ (List.mem_append_right _ List.mem_cons_self)).2
  refine ⟨_, ?_, hw.setMap⟩
  rcases ho with ho | ho <;>
  ·simp only [execOp, ho, hρ _ _ hm, hρ _ _ hk, hρ _ _ hx, Sem.run_bind, run_mapNew hu hkt he hg hf, Result.andThen_ok]
   rfl) K
theorem R.putOld {t kt et : TypeId} {kd : TypeDesc} {m k x : Operand} {b i : Nat} {key v u : Value} {es : Array MapEntry} {clock : Nat} {G1 G2 : Hp} (ho : putOp t m k x o.op) (hd : o.dst = none) (hon : wantedO ops fr o = some true) (hm : evO fr m = some (.map (some b))) (hk : evO fr k = some key) (hx : evO fr x = some v)
  (hu : X.P.underlying t = some (.map kt et)) (hkt : X.P.underlying kt = some kd) (he : easyKey kd = true) (hG : G = G1 ++ (b, .exact (.map es clock)) :: G2) (hf : Instr.findNow kd key es.toList 0 = some (some (i, u))) (hs : Instr.sameBits 10000 (((es[i]?).map (·.key)).getD key) key = true)
  (K : GOps X ops Q rest fr ds (G1 ++ (b, .exact (.map (es.modify i fun e => { e with key := key, val := v }) clock)) :: G2)) : GOps X ops Q (o :: rest) fr ds G := by
 subst hG
 exact GOps.unit hon hd (fun c => by rcases ho with ho | ho <;> rw [ho] <;> simp) (fun ρ w hρ hw => by
  have hg := (hw.own b _ (List.mem_append_right _ List.mem_cons_self)).2
  refine ⟨_, ?_, hw.setMap⟩
  rcases ho with ho | ho <;>
  ·simp only [execOp, ho, hρ _ _ hm, hρ _ _ hk, hρ _ _ hx, Sem.run_bind, run_mapOld hu hkt he hg hf hs, Result.andThen_ok]
   rfl) K
theorem R.lookup {t kt et : TypeId} {kd : TypeDesc} {m k : Operand} {b : Nat} {key z v : Value} {es : Array MapEntry} {clock : Nat} {r : Option (Nat × Value)} (h : At X ops fr o (.lookup t m k false) d) (hm : evO fr m = some (.map (some b))) (hk : evO fr k = some key)
  (hu : X.P.underlying t = some (.map kt et)) (hkt : X.P.underlying kt = some kd) (he : easyKey kd = true) (hz : ∀ w, (zeroValue et).run X.P w = .ok z w) (hG : (b, Know.exact (.map es clock)) ∈ G) (hf : Instr.findNow kd key es.toList 0 = some r) (hv : hit z r = v)
  (K : GOps X ops Q rest ((d, v) :: fr) ds G) : GOps X ops Q (o :: rest) fr ds G := by
 subst hv
 exact R.val h (by simp) (fun ρ w hρ hw => by
  have hg := (hw.own b _ hG).2
  cases r with
  | none => simp only [execOp, h.op, hρ _ _ hm, hρ _ _ hk, Sem.run_bind, run_lookup_none hu hkt he hg hf (hz w), Result.andThen_ok]; rfl
  | some p =>
   obtain ⟨i, u⟩ := p
   simp only [execOp, h.op, hρ _ _ hm, hρ _ _ hk, Sem.run_bind, run_lookup_some hu hkt he hg hf, Result.andThen_ok]; rfl) K
theorem Hs.swapDrop (x y : Nat × Know) (G : Hp) : Hs (x :: y :: G) (x :: G) := Hs.sub (List.Sublist.cons_cons x (List.sublist_cons_self _ _))
theorem run_guard_fn (b : BinOp) (t : TypeId) (x y : Operand) (f : Fn) (c c' : Array Value) (P : Program) (w : World) : (eqGuard b t x y (.func f c c') .nilFunc).run P w = .ok () w := by
 unfold eqGuard; cases b <;> simp
theorem run_guard_nn (b : BinOp) (t : TypeId) (x y : Operand) (P : Program) (w : World) : (eqGuard b t x y .nilFunc .nilFunc).run P w = .ok () w := by
 unfold eqGuard; cases b <;> simp
theorem R.neFn {t u : TypeId} {x y : Operand} {f : Fn} {c c' : Array Value} {pas rs : Array TypeId} {va : Bool} (h : At X ops fr o (.binOp .neq t x y u) d) (hx : evO fr x = some (.func f c c')) (hy : evO fr y = some .nilFunc) (hu : X.P.underlying t = some (.func pas rs va))
  (K : GOps X ops Q rest ((d, .bool true) :: fr) ds G) : GOps X ops Q (o :: rest) fr ds G :=
 R.bin h hx hy (fun w _ => by
  rw [Sem.run_bind, run_guard_fn, Result.andThen_ok]
  have : (Op.equal t (.func f c c') .nilFunc).run X.P w = .ok false w := by
   rw [Op.equal, Op.maxDepth, Op.equalIn, Sem.run_bind, run_und hu]; rfl
  simp [binOp, this]) K
theorem R.neNil {t u : TypeId} {x y : Operand} {pas rs : Array TypeId} {va : Bool} (h : At X ops fr o (.binOp .neq t x y u) d) (hx : evO fr x = some .nilFunc) (hy : evO fr y = some .nilFunc) (hu : X.P.underlying t = some (.func pas rs va))
  (K : GOps X ops Q rest ((d, .bool false) :: fr) ds G) : GOps X ops Q (o :: rest) fr ds G :=
 R.bin h hx hy (fun w _ => by
  rw [Sem.run_bind, run_guard_nn, Result.andThen_ok]
  have : (Op.equal t .nilFunc .nilFunc).run X.P w = .ok true w := by
   rw [Op.equal, Op.maxDepth, Op.equalIn, Sem.run_bind, run_und hu]; rfl
  simp [binOp, this]) K
end
end Go.Proofs.YtfddkcmooommeaaGreatDoor.Gl
end
section
namespace Go.Proofs.YtfddkcmooommeaaGreatDoor.Gl
open Go.RowKit Go.Shelf
set_option linter.unusedVariables false
set_option linter.unnecessarySimpa false
set_option linter.unusedSimpArgs false
structure Tm where
 kind : Int
 text : ByteArray
 ext : ByteArray
structure Sl where
 v : ByteArray
 t : Tm
structure Pt where
 s0 : Sl
 s1 : Sl
 s2 : Sl
structure Lt where
 kind : Int
 pat : Pt
 a : Sl
 b : Sl
structure Rl where
 head : Pt
 body : List Lt
def TmC (t : Tm) : List Value := [.int .i64 t.kind, .string t.text, .string t.ext]
def SlC (s : Sl) : List Value := [.string s.v, .int .i64 s.t.kind, .string s.t.text, .string s.t.ext]
def PtC (p : Pt) : List Value :=
 [.string p.s0.v, .int .i64 p.s0.t.kind, .string p.s0.t.text, .string p.s0.t.ext, .string p.s1.v, .int .i64 p.s1.t.kind, .string p.s1.t.text, .string p.s1.t.ext, .string p.s2.v, .int .i64 p.s2.t.kind, .string p.s2.t.text, .string p.s2.t.ext]
def LtC (l : Lt) : List Value :=
 [.int .i64 l.kind, .string l.pat.s0.v, .int .i64 l.pat.s0.t.kind, .string l.pat.s0.t.text, .string l.pat.s0.t.ext, .string l.pat.s1.v, .int .i64 l.pat.s1.t.kind, .string l.pat.s1.t.text, .string l.pat.s1.t.ext, .string l.pat.s2.v, .int .i64 l.pat.s2.t.kind, .string l.pat.s2.t.text, .string l.pat.s2.t.ext,
  .string l.a.v, .int .i64 l.a.t.kind, .string l.a.t.text, .string l.a.t.ext, .string l.b.v, .int .i64 l.b.t.kind, .string l.b.t.text, .string l.b.t.ext]
def RlC (p : Pt) (s : Value) : List Value :=
 [.string p.s0.v, .int .i64 p.s0.t.kind, .string p.s0.t.text, .string p.s0.t.ext, .string p.s1.v, .int .i64 p.s1.t.kind, .string p.s1.t.text, .string p.s1.t.ext, .string p.s2.v, .int .i64 p.s2.t.kind, .string p.s2.t.text, .string p.s2.t.ext, s]
def RowAt {α : Type} (w0 : World) (G : Hp) (sz : Nat) (C : α → List Value → Prop) (A : Option Addr) (xs : List α) : Prop :=
 ∀ (i : Nat) x, xs[i]? = some x → ∃ b o cs, A = some ⟨b, o, none⟩ ∧ C x cs ∧ Rds w0 G b (o + i * sz) cs
def LtsAt (w0 : World) (G : Hp) (A : Option Addr) (ls : List Lt) : Prop := RowAt w0 G 21 (fun l cs => cs = LtC l) A ls
def RlIs (w0 : World) (G : Hp) (r : Rl) (cs : List Value) : Prop := ∃ A c, cs = RlC r.head (.slice A r.body.length c) ∧ r.body.length ≤ c ∧ c ≤ 9223372036854775807 ∧ LtsAt w0 G A r.body
def RlsAt (w0 : World) (G : Hp) (A : Option Addr) (rs : List Rl) : Prop := RowAt w0 G 13 (RlIs w0 G) A rs
theorem Rd.mono {w0 : World} {G G' : Hp} (hs : ∀ x ∈ G, x ∈ G') {b o : Nat} {v : Value} (h : Rd w0 G b o v) : Rd w0 G' b o v := by
 cases h with
 | old h => exact .old h
 | own hm h => exact .own (hs _ hm) h
theorem Rds.mono {w0 : World} {G G' : Hp} (hs : ∀ x ∈ G, x ∈ G') {b o : Nat} {cs : List Value} (h : Rds w0 G b o cs) : Rds w0 G' b o cs := fun j v hv => (h j v hv).mono hs
theorem RowAt.mono {α : Type} {w0 : World} {G G' : Hp} {sz : Nat} {C C' : α → List Value → Prop} {A : Option Addr} {xs : List α} (hs : ∀ x ∈ G, x ∈ G') (hc : ∀ x cs, C x cs → C' x cs) (h : RowAt w0 G sz C A xs) : RowAt w0 G' sz C' A xs := fun i x hx => by
 obtain ⟨b, o, cs, h1, h2, h3⟩ := h i x hx
 exact ⟨b, o, cs, h1, hc _ _ h2, h3.mono hs⟩
theorem LtsAt.mono {w0 : World} {G G' : Hp} {A : Option Addr} {ls : List Lt} (hs : ∀ x ∈ G, x ∈ G') (h : LtsAt w0 G A ls) : LtsAt w0 G' A ls := RowAt.mono hs (fun _ _ h => h) h
theorem RlIs.mono {w0 : World} {G G' : Hp} {r : Rl} {cs : List Value} (hs : ∀ x ∈ G, x ∈ G') (h : RlIs w0 G r cs) : RlIs w0 G' r cs := by
 obtain ⟨A, c, h1, h2, h3, h4⟩ := h
 exact ⟨A, c, h1, h2, h3, h4.mono hs⟩
theorem RlsAt.mono {w0 : World} {G G' : Hp} {A : Option Addr} {rs : List Rl} (hs : ∀ x ∈ G, x ∈ G') (h : RlsAt w0 G A rs) : RlsAt w0 G' A rs := RowAt.mono hs (fun _ _ h => h.mono hs) h
theorem sub_cons {G : Hp} (x : Nat × Know) : ∀ y ∈ G, y ∈ x :: G := fun _ h => List.mem_cons_of_mem _ h
theorem Rds.own {w0 : World} {G : Hp} {b : Nat} {C : Array Value} {e : TypeId} {z : Nat × Nat} (hm : (b, Know.exact (.cells C e z)) ∈ G) (o : Nat) (cs : List Value) (h : ∀ j v, cs[j]? = some v → C[o + j]? = some v) : Rds w0 G b o cs :=
 fun j v hv => .own hm (h j v hv)
theorem Rd.own' {w0 : World} {G : Hp} {b : Nat} {C : Array Value} {e : TypeId} {z : Nat × Nat} {o : Nat} {v : Value} (hm : (b, Know.exact (.cells C e z)) ∈ G) (h : C[o]? = some v) : Rd w0 G b o v := .own hm h
theorem wrap64_id {n : Int} (h0 : -9223372036854775808 ≤ n) (h1 : n ≤ 9223372036854775807) : IntKind.i64.wrap n = n := IntWalk.i64_in _ (by omega)
end Go.Proofs.YtfddkcmooommeaaGreatDoor.Gl
end
section
namespace Go.Proofs.YtfddkcmooommeaaGreatDoor.Gl
open Go.RowKit Go.Shelf
set_option linter.unusedVariables false
set_option linter.unnecessarySimpa false
set_option linter.unusedSimpArgs false
def cutA (A : Option Addr) (l z c : Nat) : Option Addr := if c = l then A else A.map (·.add (l * z))
section
variable {X : Cx} {Q : Post} {fr : Fr} {ds : List Deferred} {G : Hp} {ops : Array Oper} {o : Oper} {rest : List Oper} {d : Nat}
theorem V.sliceSLH {t e : TypeId} {x y y' : Operand} {k k' : IntKind} {A : Option Addr} {n c z : Nat} {i j : Int} (h : At X ops fr o (.slice t x (some y) (some y') none) d) (hx : evO fr x = some (.slice A n c)) (hy : evO fr y = some (.int k i)) (hy' : evO fr y' = some (.int k' j)) (hu : X.P.underlying t = some (.slice e)) (hz : ∀ w, (sizeOf e).run X.P w = .ok z w)
  (h0 : 0 ≤ i) (h1 : i ≤ j) (h2 : j ≤ c) : GV X ops fr G o d (.slice (cutA A i.toNat z c) (j.toNat - i.toNat) (c - i.toNat)) :=
 GV.of h (by simp) (fun ρ w hρ hw => by
  simp only [execOp, h.op, Option.map_some, Option.map_none, hρ _ _ hx, hρ _ _ hy, hρ _ _ hy', Instr.sliceAt, Sem.run_bind, run_und hu, Result.andThen_ok, Instr.slice, Instr.sliceBounds, Sem.run_pure, Go.run_sliceBound w k' j c _ (by omega) h2, Go.run_sliceBound w k i j.toNat _ h0 (by omega), hz]
  rfl)
theorem R.sliceSLH {t e : TypeId} {x y y' : Operand} {k k' : IntKind} {A : Option Addr} {n c z : Nat} {i j : Int} (h : At X ops fr o (.slice t x (some y) (some y') none) d) (hx : evO fr x = some (.slice A n c)) (hy : evO fr y = some (.int k i)) (hy' : evO fr y' = some (.int k' j)) (hu : X.P.underlying t = some (.slice e)) (hz : ∀ w, (sizeOf e).run X.P w = .ok z w)
  (h0 : 0 ≤ i) (h1 : i ≤ j) (h2 : j ≤ c) (K : GOps X ops Q rest ((d, .slice (cutA A i.toNat z c) (j.toNat - i.toNat) (c - i.toNat)) :: fr) ds G) : GOps X ops Q (o :: rest) fr ds G :=
 R.val h (by simp) (V.sliceSLH (G := G) h hx hy hy' hu hz h0 h1 h2).run K
theorem R.sliceArr {t e : TypeId} {x : Operand} {b f n z : Nat} (h : At X ops fr o (.slice t x none none none) d) (hx : evO fr x = some (.pointer (some ⟨b, f, none⟩))) (hu : X.P.underlying t = some (.array n e)) (hz : ∀ w, (sizeOf e).run X.P w = .ok z w)
  (K : GOps X ops Q rest ((d, .slice (some ⟨b, f, none⟩) n n) :: fr) ds G) : GOps X ops Q (o :: rest) fr ds G :=
 R.val h (by simp) (fun ρ w hρ hw => by
  have e : (if n = 0 then (⟨b, f, none⟩ : Addr) else (⟨b, f, none⟩ : Addr).add (0 * z)) = ⟨b, f, none⟩ := by split <;> simp [add_none]
  simp only [execOp, h.op, Option.map_none, hρ _ _ hx, Instr.sliceAt, Sem.run_bind, run_und hu, Result.andThen_ok, run_sureAddr, Instr.sliceBounds, Sem.run_pure, hz, e]
  simp) K
theorem run_partAgg {P : Program} {w : World} {t : TypeId} {dsc : TypeDesc} {n : Nat} (hu : P.underlying t = some dsc) (ha : isA dsc = true) (hz : ∀ w, (sizeOf t).run P w = .ok n w) {cs : Array Value} {o : Nat} : (part t cs o).run P w = .ok (.agg (cs.extract o (o + n))) w := by
 simp only [part, Sem.run_bind, run_isAgg hu, ha, Result.andThen_ok, if_true, hz]
 rfl
theorem R.indexArr {t e : TypeId} {x y : Operand} {k : IntKind} {n z : Nat} {cs : Array Value} {i : Int} {dsc : TypeDesc} {es : Array Value} (h : At X ops fr o (.index t x y) d) (hx : evO fr x = some (.agg cs)) (hy : evO fr y = some (.int k i)) (hu : X.P.underlying t = some (.array n e)) (he : X.P.underlying e = some dsc) (ha : isA dsc = true) (hz : ∀ w, (sizeOf e).run X.P w = .ok z w)
  (h0 : 0 ≤ i) (h1 : i < n) (hes : cs.extract (i.toNat * z) (i.toNat * z + z) = es) (K : GOps X ops Q rest ((d, .agg es) :: fr) ds G) : GOps X ops Q (o :: rest) fr ds G := by
 subst hes
 exact R.val h (by simp) (fun ρ w hρ hw => by
  simp only [execOp, h.op, hρ _ _ hx, hρ _ _ hy, Instr.index, asIntOf, Sem.run_bind, Sem.run_pure, Result.andThen_ok, run_und hu, if_pos (show 0 ≤ i ∧ i < (n : Int) from ⟨h0, h1⟩), hz, run_partAgg he ha hz]) K
theorem R.field1 {s : TypeId} {x : Operand} {i : Nat} {fs : Array Field} {fld : Field} {cs : Array Value} {v : Value} {dsc : TypeDesc} (h : At X ops fr o (.field s x i) d) (hx : evO fr x = some (.agg cs)) (hu : X.P.underlying s = some (.struct fs)) (hf : fs[i]? = some fld) (he : X.P.underlying fld.type = some dsc) (ha : isA dsc = false) (hv : cs[fld.offset]? = some v)
  (K : GOps X ops Q rest ((d, v) :: fr) ds G) : GOps X ops Q (o :: rest) fr ds G :=
 R.val h (by simp) (fun ρ w hρ hw => by
  simp only [execOp, h.op, hρ _ _ hx, Instr.field, Sem.run_bind, run_und hu, Result.andThen_ok, hf, asAgg, Sem.run_pure, part, run_isAgg he, ha]
  simp [hv]) K
end
theorem resCellTmp {X : Cx} {fn : Func} {t u : Tmp} {ty : TypeId} {dsc : TypeDesc} {fr : Fr} {G : Hp} {b n : Nat} {cs : List Value} {v : Value} (hr : fn.results = #[.cell t ty, .tmp u]) (hv : lk fr t = some (.pointer (some ⟨b, 0, none⟩))) (hv2 : lk fr u = some v) (hu : X.P.underlying ty = some dsc) (ha : isA dsc = true) (hz : ∀ w, (sizeOf ty).run X.P w = .ok n w) (hrd : Rds X.w0 G b 0 cs) (hn : cs.length = n) : Res X fn fr G (.tuple #[.agg cs.toArray, v]) := fun a w ds hf hs => by
 subst hn
 have h1 := hf.look t _ hv
 have h1' := hf.look u _ hv2
 have h2 := run_loadVar_agg (P := X.P) hu ha hz hs hrd
 have h4 : (asAddr (.pointer (some ⟨b, 0, none⟩))).run X.P w = .ok ⟨b, 0, none⟩ w := rfl
 have h3' : (a.tmps[t]?.getD undef) = .pointer (some ⟨b, 0, none⟩) := by rw [h1]; rfl
 have h5 : (a.tmps[u]?.getD undef) = v := by rw [h1']; rfl
 simp [results, hr, h3', h4, h2, h5]
theorem resCellA {X : Cx} {fn : Func} {t : Tmp} {ty : TypeId} {dsc : TypeDesc} {fr : Fr} {G : Hp} {b n : Nat} {cs : List Value} (hr : fn.results = #[.cell t ty]) (hv : lk fr t = some (.pointer (some ⟨b, 0, none⟩))) (hu : X.P.underlying ty = some dsc) (ha : isA dsc = true) (hz : ∀ w, (sizeOf ty).run X.P w = .ok n w) (hrd : Rds X.w0 G b 0 cs) (hn : cs.length = n) : Res X fn fr G (.agg cs.toArray) := fun a w ds hf hs => by
 subst hn
 have h1 := hf.look t _ hv
 have h2 := run_loadVar_agg (P := X.P) hu ha hz hs hrd
 have h4 : (asAddr (.pointer (some ⟨b, 0, none⟩))).run X.P w = .ok ⟨b, 0, none⟩ w := rfl
 have h3' : (a.tmps[t]?.getD undef) = .pointer (some ⟨b, 0, none⟩) := by rw [h1]; rfl
 simp [results, hr, h3', h4, h2]
theorem GW.cutE {X : Cx} {x y : Code} {Q : Post} {fr : Fr} {ds : List Deferred} {G : Hp} (FR : Nat → Nat → Fr) (GG : Nat → Nat → Hp) (h1 : GW X x (fun e fr1 ds1 G1 => e = .normal ∧ ds1 = ds ∧ ∃ i j, Keeps fr1 (FR i j) ∧ Hs G1 (GG i j)) fr ds G)
  (h2 : ∀ i j, GW X y Q (FR i j) ds (GG i j)) : GW X (.seq x y) Q fr ds G := by
 refine GW.seq (h1.mono ?_)
 rintro e fr1 ds1 G1 ⟨rfl, rfl, i, j, hk, hs⟩
 exact GW.weak hk hs (h2 i j)
theorem RowAt.cut {α : Type} {w0 : World} {G : Hp} {sz : Nat} {C : α → List Value → Prop} {A : Option Addr} {xs : List α} {c i j : Nat} (h : RowAt w0 G sz C A xs) (hc : xs.length ≤ c) : RowAt w0 G sz C (cutA A i sz c) ((xs.take j).drop i) := by
 intro k x hx
 rw [List.getElem?_drop] at hx
 have hlt : i + k < (xs.take j).length := (List.getElem?_eq_some_iff.1 hx).1
 rw [List.length_take] at hlt
 rw [List.getElem?_take_of_lt (by omega)] at hx
 obtain ⟨b, o, cs, hA, h2, h3⟩ := h (i + k) x hx
 refine ⟨b, o + i * sz, cs, ?_, h2, ?_⟩
 ·unfold cutA
  rw [if_neg (by omega), hA]
  simp [add_none]
 ·rw [Nat.add_mul, ← Nat.add_assoc] at h3
  exact h3
end Go.Proofs.YtfddkcmooommeaaGreatDoor.Gl
end
section
namespace Go.Proofs.YtfddkcmooommeaaGreatDoor.Gl
open Go.RowKit Go.Shelf
set_option linter.unusedVariables false
set_option linter.unnecessarySimpa false
set_option linter.unusedSimpArgs false
def hstep (h : Int) (c : Nat) : Int := IntKind.u32.wrap (Go.bits .xor .u32 h c * 16777619)
def hashL (l : List Nat) : Int := l.foldl hstep 2166136261
def home (k : Nat) (l : List Nat) : Nat := (hashL l).toNat % 2 ^ k
structure TabOk (ps : List (List Nat)) (k : Nat) (tab : List Nat) : Prop where
 len : tab.length = 2 ^ k
 cnt : tab.countP (fun x => x != 0) = ps.length
 lim : ∀ (p n : Nat), tab[p]? = some n → n ≤ ps.length
 at_ : ∀ (n : Nat) (b : List Nat), ps[n]? = some b → ∃ j, j < 2 ^ k ∧ tab[(home k b + j) % 2 ^ k]? = some (n + 1) ∧ ∀ i, i < j → ∃ m, tab[(home k b + i) % 2 ^ k]? = some (m + 1)
def SlotTo (ps : List (List Nat)) (k : Nat) (tab : List Nat) (b : List Nat) (j : Nat) : Prop :=
 ∀ i : Nat, i < j → ∃ m, tab[(home k b + i) % 2 ^ k]? = some (m + 1) ∧ ps[m]? ≠ some b
def SlotIs (ps : List (List Nat)) (k : Nat) (tab : List Nat) (b : List Nat) (p : Nat) : Prop :=
 ∃ j, j < 2 ^ k ∧ p = (home k b + j) % 2 ^ k ∧ SlotTo ps k tab b j ∧ (tab[p]? = some 0 ∨ ∃ m, tab[p]? = some (m + 1) ∧ ps[m]? = some b)
theorem nodup_get {ps : List (List Nat)} (hd : ps.Nodup) {m n : Nat} {b : List Nat} (h1 : ps[m]? = some b) (h2 : ps[n]? = some b) : m = n := by
 obtain ⟨hm, e1⟩ := List.getElem?_eq_some_iff.1 h1
 exact (List.getElem?_inj hm hd).1 (h1.trans h2.symm)
theorem SlotIs.found {ps : List (List Nat)} {k : Nat} {tab : List Nat} {b : List Nat} {p n : Nat} (ht : TabOk ps k tab) (hd : ps.Nodup) (h : SlotIs ps k tab b p) (hn : ps[n]? = some b) : tab[p]? = some (n + 1) := by
 obtain ⟨j, hj, rfl, hto, hend⟩ := h
 obtain ⟨j0, hj0, h1, h2⟩ := ht.at_ n b hn
 rcases Nat.lt_trichotomy j j0 with hlt | rfl | hgt
 ·obtain ⟨m, hm⟩ := h2 j hlt
  rcases hend with h0 | ⟨m', h3, h4⟩
  ·rw [hm] at h0; cases h0
  ·rw [h3, nodup_get hd h4 hn]
 ·exact h1
 ·obtain ⟨m, hm, hne⟩ := hto j0 hgt
  rw [h1] at hm
  have : n = m := by simpa using hm
  subst this
  exact absurd hn hne
theorem SlotIs.free {ps : List (List Nat)} {k : Nat} {tab : List Nat} {b : List Nat} {p : Nat} (h : SlotIs ps k tab b p) (hn : b ∉ ps) : tab[p]? = some 0 := by
 obtain ⟨j, hj, rfl, hto, h0 | ⟨m, h3, h4⟩⟩ := h
 ·exact h0
 ·exact absurd (List.mem_of_getElem? h4) hn
theorem SlotIs.lt {ps : List (List Nat)} {k : Nat} {tab : List Nat} {b : List Nat} {p : Nat} (ht : TabOk ps k tab) (h : SlotIs ps k tab b p) : p < tab.length := by
 obtain ⟨j, hj, rfl, hto, h0 | ⟨m, h3, h4⟩⟩ := h
 ·exact (List.getElem?_eq_some_iff.1 h0).1
 ·exact (List.getElem?_eq_some_iff.1 h3).1
theorem countP_set' (l : List Nat) (f : Nat → Bool) : ∀ (i x : Nat), l[i]? = some x → f x = false → ∀ y, f y = true → (l.set i y).countP f = l.countP f + 1 := by
 induction l with
 | nil => intro i x h; simp at h
 | cons a l ih =>
  intro i x h hx y hy
  cases i with
  | zero =>
   simp at h
   subst h
   simp [List.countP_cons, hx, hy]
  | succ i =>
   simp only [List.getElem?_cons_succ] at h
   simp only [List.set_cons_succ, List.countP_cons, ih i x h hx y hy]
   omega
theorem get_set' {l : List Nat} {p q : Nat} {y m : Nat} (h : (l.set p y)[q]? = some m) : (p = q ∧ m = y) ∨ (p ≠ q ∧ l[q]? = some m) := by
 by_cases e : p = q
 ·subst e
  have hl : p < l.length := by
   have := (List.getElem?_eq_some_iff.1 h).1
   simpa using this
  rw [List.getElem?_set_self hl] at h
  exact .inl ⟨rfl, (Option.some.inj h).symm⟩
 ·rw [List.getElem?_set_ne e] at h
  exact .inr ⟨e, h⟩
theorem TabOk.put {ps : List (List Nat)} {k : Nat} {tab : List Nat} {b : List Nat} {p : Nat} (ht : TabOk ps k tab) (h : SlotIs ps k tab b p) (hn : b ∉ ps) : TabOk (ps ++ [b]) k (tab.set p (ps.length + 1)) := by
 have h0 := h.free hn
 have hl := h.lt ht
 have keep : ∀ q m, tab[q]? = some (m + 1) → (tab.set p (ps.length + 1))[q]? = some (m + 1) := fun q m hq => by
  have : p ≠ q := fun e => by subst e; rw [h0] at hq; cases hq
  rw [List.getElem?_set_ne this]
  exact hq
 refine ⟨by rw [List.length_set]; exact ht.len, ?_, fun q n hq => ?_, fun n c hc => ?_⟩
 ·rw [countP_set' tab _ p 0 h0 (by simp) _ (by simp), ht.cnt, List.length_append]
  rfl
 ·rw [List.length_append]
  rcases get_set' hq with ⟨_, rfl⟩ | ⟨_, h1⟩
  ·exact Nat.le_refl _
  ·have := ht.lim q n h1
   simp
   omega
 ·rcases Nat.lt_or_ge n ps.length with hlt | hge
  ·rw [List.getElem?_append_left hlt] at hc
   obtain ⟨j, hj, h1, h2⟩ := ht.at_ n c hc
   exact ⟨j, hj, keep _ _ h1, fun i hi => by obtain ⟨m, hm⟩ := h2 i hi; exact ⟨m, keep _ _ hm⟩⟩
  ·rw [List.getElem?_append_right hge] at hc
   have hn0 : n - ps.length = 0 := by
    have := (List.getElem?_eq_some_iff.1 hc).1
    simp at this
    omega
   rw [hn0] at hc
   simp at hc
   subst hc
   obtain rfl : n = ps.length := by omega
   obtain ⟨j, hj, rfl, hto, _⟩ := h
   exact ⟨j, hj, by rw [List.getElem?_set_self hl], fun i hi => by obtain ⟨m, hm, _⟩ := hto i hi; exact ⟨m, keep _ _ hm⟩⟩
theorem exists_zero : ∀ (l : List Nat), l.countP (fun x => x != 0) < l.length → ∃ p : Nat, l[p]? = some 0
 | [], h => by simp at h
 | 0 :: l, _ => ⟨0, rfl⟩
 | (a + 1) :: l, h => by
  obtain ⟨p, hp⟩ := exists_zero l (by simp [List.countP_cons] at h; omega)
  exact ⟨p + 1, by simpa using hp⟩
theorem TabOk.ahead {ps : List (List Nat)} {k : Nat} {tab : List Nat} (ht : TabOk ps k tab) (hl : ps.length < 2 ^ k) (h : Nat) : ∃ d, d < 2 ^ k ∧ tab[(h + d) % 2 ^ k]? = some 0 := by
 obtain ⟨p, hp⟩ := exists_zero tab (by rw [ht.cnt, ht.len]; exact hl)
 have hpl : p < 2 ^ k := by rw [← ht.len]; exact (List.getElem?_eq_some_iff.1 hp).1
 have hpos : 0 < 2 ^ k := by omega
 refine ⟨(p + (2 ^ k - h % 2 ^ k)) % 2 ^ k, Nat.mod_lt _ hpos, ?_⟩
 have hm := Nat.mod_lt h hpos
 have : (h + (p + (2 ^ k - h % 2 ^ k)) % 2 ^ k) % 2 ^ k = p := by
  rw [Nat.add_mod, Nat.mod_mod, ← Nat.add_mod]
  have e : h + (p + (2 ^ k - h % 2 ^ k)) = p + 2 ^ k * (h / 2 ^ k + 1) := by
   have := Nat.div_add_mod h (2 ^ k)
   rw [Nat.mul_add, Nat.mul_one]
   omega
  rw [e, Nat.add_mul_mod_self_left, Nat.mod_eq_of_lt hpl]
 rw [this]
 exact hp
theorem TabOk.empty (k : Nat) : TabOk [] k (List.replicate (2 ^ k) 0) :=
 ⟨by simp, by simp [List.countP_replicate], fun p n h => by
  have := List.mem_of_getElem? h
  simp at this
  omega, fun n b h => by simp at h⟩
end Go.Proofs.YtfddkcmooommeaaGreatDoor.Gl
end
section
namespace Go.Proofs.YtfddkcmooommeaaGreatDoor.Gl
open Go.RowKit Go.Shelf
set_option linter.unusedVariables false
set_option linter.unnecessarySimpa false
set_option linter.unusedSimpArgs false
def strC (s : ByteArray) : List Value := (bs s).map fun c => Value.int .u8 (c : Nat)
theorem strC_len (s : ByteArray) : (strC s).length = s.size := by simp [strC, bs]
theorem strC_data (s : ByteArray) : s.data.map (fun b => Value.int .u8 b.toNat) = (strC s).toArray := by
 apply Array.ext'
 simp [strC, bs, List.map_map]
section
variable {P : Program} (w : World)
theorem run_firstCells_string (s : ByteArray) : (Builtin.firstCells 1 s.size (.string s)).run P w = .ok (strC s).toArray w := by
 rw [← strC_data]
 have hx : (Array.map (fun b : UInt8 => Value.int IntKind.u8 (b.toNat : Int)) s.data).extract 0 s.size = Array.map (fun b : UInt8 => Value.int IntKind.u8 (b.toNat : Int)) s.data := by
  have hs : s.size = (Array.map (fun b : UInt8 => Value.int IntKind.u8 (b.toNat : Int)) s.data).size := by rw [Array.size_map]; rfl
  rw [hs, Array.extract_size]
 simp [Builtin.firstCells, hx]
theorem run_append_grow_string (t u ty e : TypeId) (i : TypeInfo) (z : Value) (ht : P.underlying t = some (.slice e)) (hu : P.underlying u = some .string) (hi : P.info? e = some i) (hz : i.zero = some z) (hi1 : i.size = 1)
  (b : Addr) (sLen sCap : Nat) (olds : List Value) (hlo : olds.length = sLen) (holds : ∀ j v, olds[j]? = some v → w.cell? (b.add j) = some v)
  (s : ByteArray) (hg : sCap < sLen + s.size) (h63 : ((sLen + s.size : Nat) : Int) ≤ 9223372036854775807) (hfit : Builtin.nextslicecap (sLen + s.size) sCap * i.bytes ≤ 281474976710656) :
  (Builtin.append_ #[t, u] ty #[.slice (some b) sLen sCap, .string s]).run P w =
   .ok (.slice (some ⟨w.heap.size, 0, none⟩) (sLen + s.size) (grownCap w (sLen + s.size) sCap e))
    (w.drew.alloc (.cells (olds.toArray ++ (strC s).toArray ++ Builtin.zeroCells z.cells (grownCap w (sLen + s.size) sCap e - (sLen + s.size))) e)) := by
 have hn : ¬ (sLen + s.size ≤ sCap) := by omega
 have h63' : ¬ (9223372036854775807 < ((sLen : Int) + (s.size : Int))) := by omega
 have h48' : ¬ (281474976710656 < Builtin.nextslicecap (sLen + s.size) sCap * i.bytes) := by omega
 have hf := run_firstCells_string (P := P) w.drew s
 have hfo := run_firstCells_some (P := P) w.drew 1 sLen b sLen sCap olds (by omega) (by simpa using holds)
 simp [Builtin.append_, run_underlying ht, run_underlying hu, sizeOf, typeInfo, zeroValue, hi, hz, hi1, Builtin.lenOf, hn, h63', h48', Question.forced, hf, hfo, newRow, grownCap]
 congr 2
 apply Array.ext'
 simp [List.append_assoc]
theorem run_append_room_string (t u ty e : TypeId) (i : TypeInfo) (ht : P.underlying t = some (.slice e)) (hu : P.underlying u = some .string) (hi : P.info? e = some i) (hi1 : i.size = 1)
  (g sLen sCap : Nat) (cur : Array Value) (hg : w.heap[g]? = some (.cells cur e (0, 0))) (s : ByteArray)
  (hroom : sLen + s.size ≤ sCap) (hfit : sLen + s.size ≤ cur.size) :
  (Builtin.append_ #[t, u] ty #[.slice (some ⟨g, 0, none⟩) sLen sCap, .string s]).run P w =
   .ok (.slice (some ⟨g, 0, none⟩) (sLen + s.size) sCap) (w.setRow g (cur.toList.take sLen ++ strC s ++ cur.toList.drop (sLen + s.size)).toArray) := by
 have hf := run_firstCells_string (P := P) w s
 have hst := run_storeCells_at P g sLen e (strC s) 0 cur w hg (by rw [strC_len]; simpa using hfit) (fun v hv => by
  obtain ⟨c, _, rfl⟩ := List.mem_map.1 hv; rfl)
 simp only [Nat.add_zero, strC_len] at hst
 simp [Builtin.append_, run_underlying ht, run_underlying hu, sizeOf, typeInfo, hi, hi1, Builtin.lenOf, hroom, hf, Addr.add_lit, hst]
end
section
variable {X : Cx} {Q : Post} {fr : Fr} {ds : List Deferred} {G : Hp} {ops : Array Oper} {o : Oper} {rest : List Oper} {d : Nat}
theorem R.appendStr {t u e : TypeId} {x y : Operand} {bytes n : Nat} {cs : List Value} {v : Value} {G1 G2 H : Hp} {ats : Array TypeId} {s : ByteArray} (h : At X ops fr o (.call { callee := .builtin .append, args := #[x, y], argTypes := ats }) d) (hats : ats = #[t, u])
  (hx : evO fr x = some v) (hy : evO fr y = some (.string s)) (hu : X.P.underlying t = some (.slice e)) (hu2 : X.P.underlying u = some .string) (hi : InfoE X.P e 1 bytes) (hv : SlAt 1 e cs n v H) (hn : 0 < n) (hG : G = G1 ++ (H ++ G2))
  (hfit : (n + s.size) * bytes ≤ 140737488355328) (h63 : n + s.size ≤ 9223372036854775807)
  (K : ∀ v' H', SlAt 1 e (cs ++ strC s) (n + s.size) v' H' → GOps X ops Q rest ((d, v') :: fr) ds (G1 ++ (H' ++ G2))) : GOps X ops Q (o :: rest) fr ds G := by
 obtain ⟨i, z, hi1, hz, hzs, hs1, hb1⟩ := hi.ex
 subst hG hats
 have hgb : ∀ (w : World) need old, need ≤ grownCap w need old e := fun w need old => by
  simp only [grownCap, Question.cut]; omega
 have hlen := hv.len
 cases hv with
 | nil hn hc => omega
 | row b cap hl0 hcap =>
  rw [Nat.mul_one] at hl0
  rcases Nat.lt_or_ge cap (n + s.size) with hroom | hroom
  ·refine R.stepW h (by simp) fun ρ w hρ hw => ?_
   have hold : ∀ j u, cs[j]? = some u → w.cell? ((⟨b, 0, none⟩ : Addr).add j) = some u := fun j u hj => by
    rw [add_none]
    exact (Rd.own (w0 := X.w0) (k := .row cs e (cap * 1)) (List.mem_append_right _ List.mem_cons_self) (by simpa [Know.cell] using hj)).cell hw
   have hrun := run_append_grow_string (P := X.P) w t u o.type e i z hu hu2 hi1 hz hs1 ⟨b, 0, none⟩ n cap cs hl0 hold s hroom (by omega) (by rw [hb1]; exact growslice_fits hroom hfit)
   refine ⟨_, (w.heap.size, .row (cs ++ strC s) e (grownCap w (n + s.size) cap e * 1)) :: (G1 ++ G2), _, by
    simp only [execOp, h.op, resolve, invoke, builtin, List.map_toArray, List.map_cons, List.map_nil, hρ _ _ hx, hρ _ _ hy, Sem.run_bind, Sem.run_pure, Result.andThen_ok, hrun]
    rfl, ?_, ?_⟩
   ·have e1 : cs.toArray ++ (strC s).toArray = (cs ++ strC s).toArray := by simp
    rw [e1]
    exact Sat.alloc_row (w := w.drew) (Sat.drop (by simpa using hw.drew)) _ (by rw [List.length_append, strC_len, hl0, size_zeroCells, hzs, Nat.mul_one, Nat.mul_one]; have := hgb w (n + s.size) cap; omega)
   ·have := K (.slice (some ⟨w.heap.size, 0, none⟩) (n + s.size) (grownCap w (n + s.size) cap e)) [(w.heap.size, .row (cs ++ strC s) e (grownCap w (n + s.size) cap e * 1))] (SlAt.row _ _ (by rw [List.length_append, strC_len, hl0, Nat.mul_one]) (hgb w (n + s.size) cap))
    exact GOps.weak (Keeps.refl _) (Hs.perm (by simpa using List.perm_middle)) this
  ·refine R.stepW h (by simp) fun ρ w hρ hw => ?_
   have hb := (hw.own b (.row cs e (cap * 1)) (List.mem_append_right _ List.mem_cons_self)).2
   obtain ⟨C, hC, hsz, hh⟩ := hb
   have hrun := run_append_room_string (P := X.P) w t u o.type e i hu hu2 hi1 hs1 b n cap C hC s hroom (by omega)
   refine ⟨_, G1 ++ ((b, .row (cs ++ strC s) e (cap * 1)) :: G2), _, by
    simp only [execOp, h.op, resolve, invoke, builtin, List.map_toArray, List.map_cons, List.map_nil, hρ _ _ hx, hρ _ _ hy, Sem.run_bind, Sem.run_pure, Result.andThen_ok, hrun]
    rfl, ?_, ?_⟩
   ·refine Sat.turn (w := w) (k := .row cs e (cap * 1)) (by simpa using hw) rfl rfl rfl (by simp [World.setRow]) (fun j hj => ?_) ?_
    ·simp only [World.setRow, Array.getElem?_modify]
     rw [if_neg (fun e => hj e.symm)]
    ·rw [setRow_heap w b C _ e (0, 0) hC]
     have hlen1 : C.size = C.toList.length := by simp
     have htk : C.toList.take n = cs := by
      apply List.ext_getElem?
      intro j
      rcases Nat.lt_or_ge j n with hj | hj
      ·rw [List.getElem?_take_of_lt hj]
       have := hh j cs[j] (List.getElem?_eq_getElem (by omega))
       rw [Array.getElem?_toList, this, List.getElem?_eq_getElem (by omega)]
      ·rw [List.getElem?_eq_none (by simp; omega), List.getElem?_eq_none (by omega)]
     refine ⟨_, rfl, ?_, fun j u hu => ?_⟩
     ·have := strC_len s
      simp only [List.size_toArray, List.length_append, List.length_take, List.length_drop]
      omega
     ·have hj : j < (cs ++ strC s).length := (List.getElem?_eq_some_iff.1 hu).1
      rw [htk, List.getElem?_toArray, List.getElem?_append_left hj]
      exact hu
   ·exact K _ [(b, .row (cs ++ strC s) e (cap * 1))] (SlAt.row _ _ (by rw [List.length_append, strC_len, hl0, Nat.mul_one]) hroom)
theorem V.slice3 {t e : TypeId} {x y y' y'' : Operand} {k k' k'' : IntKind} {A : Option Addr} {n c z : Nat} {i j m : Int} (h : At X ops fr o (.slice t x (some y) (some y') (some y'')) d) (hx : evO fr x = some (.slice A n c)) (hy : evO fr y = some (.int k i)) (hy' : evO fr y' = some (.int k' j)) (hy'' : evO fr y'' = some (.int k'' m)) (hu : X.P.underlying t = some (.slice e)) (hz : ∀ w, (sizeOf e).run X.P w = .ok z w)
  (h0 : 0 ≤ i) (h1 : i ≤ j) (h2 : j ≤ m) (h3 : m ≤ c) : GV X ops fr G o d (.slice (cutA A i.toNat z m.toNat) (j.toNat - i.toNat) (m.toNat - i.toNat)) :=
 GV.of h (by simp) (fun ρ w hρ hw => by
  simp only [execOp, h.op, Option.map_some, Option.map_none, hρ _ _ hx, hρ _ _ hy, hρ _ _ hy', hρ _ _ hy'', Instr.sliceAt, Sem.run_bind, run_und hu, Result.andThen_ok, Instr.slice, Instr.sliceBounds, Sem.run_pure, Go.run_sliceBound w k'' m c _ (by omega) h3, Go.run_sliceBound w k' j m.toNat _ (by omega) (by omega), Go.run_sliceBound w k i j.toNat _ h0 (by omega), hz]
  rfl)
theorem R.slice3 {t e : TypeId} {x y y' y'' : Operand} {k k' k'' : IntKind} {A : Option Addr} {n c z : Nat} {i j m : Int} (h : At X ops fr o (.slice t x (some y) (some y') (some y'')) d) (hx : evO fr x = some (.slice A n c)) (hy : evO fr y = some (.int k i)) (hy' : evO fr y' = some (.int k' j)) (hy'' : evO fr y'' = some (.int k'' m)) (hu : X.P.underlying t = some (.slice e)) (hz : ∀ w, (sizeOf e).run X.P w = .ok z w)
  (h0 : 0 ≤ i) (h1 : i ≤ j) (h2 : j ≤ m) (h3 : m ≤ c) (K : GOps X ops Q rest ((d, .slice (cutA A i.toNat z m.toNat) (j.toNat - i.toNat) (m.toNat - i.toNat)) :: fr) ds G) : GOps X ops Q (o :: rest) fr ds G :=
 R.val h (by simp) (V.slice3 (G := G) h hx hy hy' hy'' hu hz h0 h1 h2 h3).run K
end
end Go.Proofs.YtfddkcmooommeaaGreatDoor.Gl
end
section
namespace Go.Proofs.YtfddkcmooommeaaGreatDoor.Gl
open Go.RowKit Go.Shelf
set_option linter.unusedVariables false
set_option linter.unnecessarySimpa false
set_option linter.unusedSimpArgs false
section
variable {X : Cx} {Q : Post} {fr : Fr} {ds : List Deferred} {G : Hp} {ops : Array Oper} {o : Oper} {rest : List Oper} {d : Nat}
theorem V.nilCheck {x : Operand} {a : Addr} (h : At X ops fr o (.nilCheck x) d) (hx : evO fr x = some (.pointer (some a))) : GV X ops fr G o d (.pointer (some a)) :=
 GV.of h (by simp) (fun ρ w hρ hw => by simp only [execOp, h.op, hρ _ _ hx]; rfl)
theorem R.nilCheck {x : Operand} {a : Addr} (h : At X ops fr o (.nilCheck x) d) (hx : evO fr x = some (.pointer (some a))) (K : GOps X ops Q rest ((d, .pointer (some a)) :: fr) ds G) : GOps X ops Q (o :: rest) fr ds G :=
 R.val h (by simp) (V.nilCheck (G := G) h hx).run K
theorem run_guard_ptr (b : BinOp) (t : TypeId) (x y : Operand) (p q : Option Addr) (P : Program) (w : World) : (eqGuard b t x y (.pointer p) (.pointer q)).run P w = .ok () w := by
 unfold eqGuard; cases b <;> simp
theorem run_guard_sl (b : BinOp) (t : TypeId) (x y : Operand) (A B : Option Addr) (n c n' c' : Nat) (P : Program) (w : World) : (eqGuard b t x y (.slice A n c) (.slice B n' c')).run P w = .ok () w := by
 unfold eqGuard; cases b <;> simp
theorem V.neP {t u e : TypeId} {x y : Operand} {p : Option Addr} (h : At X ops fr o (.binOp .neq t x y u) d) (hx : evO fr x = some (.pointer p)) (hy : evO fr y = some (.pointer none)) (hu : X.P.underlying t = some (.pointer e)) : GV X ops fr G o d (.bool p.isSome) :=
 V.bin h hx hy (fun w _ => by
  rw [Sem.run_bind, run_guard_ptr, Result.andThen_ok]
  have : (Op.equal t (.pointer p) (.pointer none)).run X.P w = .ok p.isNone w := by
   rw [Op.equal, Op.maxDepth, Op.equalIn, Sem.run_bind, run_und hu]
   cases p <;> rfl
  cases p <;> simp [binOp, this])
theorem R.neP {t u e : TypeId} {x y : Operand} {p : Option Addr} (h : At X ops fr o (.binOp .neq t x y u) d) (hx : evO fr x = some (.pointer p)) (hy : evO fr y = some (.pointer none)) (hu : X.P.underlying t = some (.pointer e)) (K : GOps X ops Q rest ((d, .bool p.isSome) :: fr) ds G) : GOps X ops Q (o :: rest) fr ds G :=
 R.val h (by simp) (V.neP (G := G) h hx hy hu).run K
theorem V.neSl {t u e : TypeId} {x y : Operand} {A : Option Addr} {n c : Nat} (h : At X ops fr o (.binOp .neq t x y u) d) (hx : evO fr x = some (.slice A n c)) (hy : evO fr y = some (.slice none 0 0)) (hu : X.P.underlying t = some (.slice e)) : GV X ops fr G o d (.bool A.isSome) :=
 V.bin h hx hy (fun w _ => by
  rw [Sem.run_bind, run_guard_sl, Result.andThen_ok]
  have : (Op.equal t (.slice A n c) (.slice none 0 0)).run X.P w = .ok A.isNone w := by
   rw [Op.equal, Op.maxDepth, Op.equalIn, Sem.run_bind, run_und hu]
   cases A <;> rfl
  cases A <;> simp [binOp, this])
theorem R.neSl {t u e : TypeId} {x y : Operand} {A : Option Addr} {n c : Nat} (h : At X ops fr o (.binOp .neq t x y u) d) (hx : evO fr x = some (.slice A n c)) (hy : evO fr y = some (.slice none 0 0)) (hu : X.P.underlying t = some (.slice e)) (K : GOps X ops Q rest ((d, .bool A.isSome) :: fr) ds G) : GOps X ops Q (o :: rest) fr ds G :=
 R.val h (by simp) (V.neSl (G := G) h hx hy hu).run K
abbrev InfoZ (P : Program) (e : TypeId) (z : Value) : Prop := (P.info? e).map (fun i => i.zero.map (·.cells)) = some (some #[z])
theorem InfoZ.mk {P : Program} {e : TypeId} {z : Value} (h : (P.info? e).map (fun i => i.zero.map (·.cells)) = some (some #[z])) : InfoZ P e z := h
theorem Hs.drop2 (x y : Nat × Know) (R : Hp) : Hs (x :: y :: R) (x :: R) := Hs.sub ((List.sublist_cons_self y R).cons_cons x)
theorem madeCells_one (z : Value) (n : Nat) : madeCells #[z] n = (List.replicate n z).toArray := by
 apply Array.ext
 ·simp [madeCells]
 ·intro i h1 h2
  simp [madeCells, Nat.mod_one]
theorem R.makeZero {t e : TypeId} {x y : Operand} {n bytes : Nat} {z0 : Value} (h : At X ops fr o (.makeSlice t x y) d) (hx : evO fr x = some (.int .i64 (n : Int))) (hy : evO fr y = some (.int .i64 (n : Int))) (hu : X.P.underlying t = some (.slice e)) (hi : InfoE X.P e 1 bytes) (hz0 : InfoZ X.P e z0)
  (hb : bytes * n ≤ 281474976710656) (h63 : n ≤ 9223372036854775807)
  (K : ∀ b, GOps X ops Q rest ((d, .slice (some ⟨b, 0, none⟩) n n) :: fr) ds ((b, .exact (.cells (List.replicate n z0).toArray e (0, 0))) :: G)) : GOps X ops Q (o :: rest) fr ds G := by
 obtain ⟨i, z, hi1, hz, hzs, hs1, hb1⟩ := hi.ex
 have hzc : z.cells = #[z0] := by
  unfold InfoZ at hz0
  rw [hi1] at hz0
  simpa [hz] using hz0
 refine R.stepW h (by simp) fun ρ w hρ hw => ?_
 have hb' : (i.bytes : Int) * (n : Int) ≤ 281474976710656 := by
  rw [hb1]
  have h : ((bytes * n : Nat) : Int) ≤ 281474976710656 := by omega
  rwa [Int.natCast_mul] at h
 have hr := run_make (P := X.P) w t e i z hu hi1 hz .i64 .i64 n n (by omega) (by omega) hb' (by omega)
 simp only [Int.toNat_natCast, hzc, hs1, Nat.mul_one, madeCells_one] at hr
 exact ⟨_, _, _, by
  simp only [execOp, h.op, hρ _ _ hx, hρ _ _ hy, Sem.run_bind, hr, Result.andThen_ok]
  rfl, hw.alloc _, K w.heap.size⟩
end
theorem and_mask (a k : Nat) (ha : a < 2 ^ 62) (hk : k ≤ 62) : Go.bits .and .i64 (a : Int) ((2 ^ k - 1 : Nat) : Int) = ((a % 2 ^ k : Nat) : Int) := by
 have hp : 2 ^ k ≤ 2 ^ 62 := Nat.pow_le_pow_right (by decide) hk
 have hpos : 0 < 2 ^ k := Nat.pow_pos (by decide)
 rw [(bits_nat .i64 62 (by decide) (fun n h0 h1 => wrap64_id (by omega) (by omega)) a (2 ^ k - 1) ha (by omega)).1, Nat.and_two_pow_sub_one_eq_mod]
theorem splice_one {l : List Value} {p : Nat} {v : Value} (h : p < l.length) : splice l.toArray p [v] = (l.set p v).toArray := by
 unfold splice
 congr 1
 rw [List.set_eq_take_append_cons_drop, if_pos h]
 simp
end Go.Proofs.YtfddkcmooommeaaGreatDoor.Gl
end
section
namespace Go.Proofs.YtfddkcmooommeaaGreatDoor.Gl
open Go.RowKit Go.Shelf
set_option linter.unusedVariables false
set_option linter.unnecessarySimpa false
set_option linter.unusedSimpArgs false
section
variable {P : Program} {w : World} {d : Nat} {xs ys : Array Value} {f : Field} {fs : List Field} {a b : Value} {r s : Bool}
theorem eqF_nil : (Op.eqFields d xs ys []).run P w = .ok true w := by rw [Op.eqFields]; rfl
theorem eqF_cons (hn : (f.name == "_") = false) (ha : (part f.type xs f.offset).run P w = .ok a w) (hb : (part f.type ys f.offset).run P w = .ok b w) (he : (Op.equalIn d f.type a b).run P w = .ok r w)
  (hr : (Op.eqFields d xs ys fs).run P w = .ok s w) : (Op.eqFields d xs ys (f :: fs)).run P w = .ok (r && s) w := by
 have hn' : f.name ≠ "_" := by simpa using hn
 rw [Op.eqFields]
 simp only [if_pos hn', Sem.run_bind, ha, hb, he, Result.andThen_ok]
 cases r
 ·simp
 ·simpa using hr
theorem eqA_struct {t : TypeId} {fs : Array Field} (hu : P.underlying t = some (.struct fs)) (hp : P.stoodInHeld t = false) (h : (Op.eqFields d xs ys fs.toList).run P w = .ok r w) : (Op.equalIn (d + 1) t (.agg xs) (.agg ys)).run P w = .ok r w := by
 have hf : P.fieldsOf t = fs := by simp [Program.fieldsOf, hu]
 rw [run_equalIn_struct (P := P) w d t xs ys (by rw [hf]; exact hu) hp, hf]
 exact h
theorem run_part1 {t : TypeId} {dsc : TypeDesc} (hu : P.underlying t = some dsc) (ha : isA dsc = false) {cs : Array Value} {o : Nat} {v : Value} (h : cs[o]? = some v) : (part t cs o).run P w = .ok v w := by
 simp only [part, Sem.run_bind, run_isAgg hu, ha, Result.andThen_ok]
 simp [h]
theorem run_partA {t : TypeId} {dsc : TypeDesc} {n : Nat} (hu : P.underlying t = some dsc) (ha : isA dsc = true) (hz : ∀ w, (sizeOf t).run P w = .ok n w) {cs : Array Value} {o : Nat} : (part t cs o).run P w = .ok (.agg (cs.extract o (o + n))) w := by
 simp only [part, Sem.run_bind, run_isAgg hu, ha, Result.andThen_ok, if_true, hz]
 rfl
theorem eqA_array3 {t e : TypeId} {n : Nat} {a0 a1 a2 b0 b1 b2 : Value} {r0 r1 r2 : Bool} (hu : P.underlying t = some (.array 3 e)) (hz : ∀ w, (sizeOf e).run P w = .ok n w)
  (ha0 : (part e xs (0 * n)).run P w = .ok a0 w) (hb0 : (part e ys (0 * n)).run P w = .ok b0 w) (h0 : (Op.equalIn d e a0 b0).run P w = .ok r0 w)
  (ha1 : (part e xs (1 * n)).run P w = .ok a1 w) (hb1 : (part e ys (1 * n)).run P w = .ok b1 w) (h1 : (Op.equalIn d e a1 b1).run P w = .ok r1 w)
  (ha2 : (part e xs (2 * n)).run P w = .ok a2 w) (hb2 : (part e ys (2 * n)).run P w = .ok b2 w) (h2 : (Op.equalIn d e a2 b2).run P w = .ok r2 w) : (Op.equalIn (d + 1) t (.agg xs) (.agg ys)).run P w = .ok (r0 && (r1 && r2)) w := by
 rw [Op.equalIn, Sem.run_bind, run_und hu]
 simp only [Result.andThen_ok, Sem.run_bind, hz]
 simp only [Std.Legacy.Range.forIn_eq_forIn_range', Std.Legacy.Range.size, List.range', List.forIn_cons, List.forIn_nil, Sem.run_bind, Nat.sub_zero, Nat.zero_add, Nat.add_one_sub_one, Nat.div_one, ha0, hb0, h0, Result.andThen_ok]
 cases r0 <;> cases r1 <;> cases r2 <;> simp_all
end
def tmEq (a b : Tm) : Bool := a.kind == b.kind && (a.text.toList == b.text.toList && (a.ext.toList == b.ext.toList && true))
def slEq (a b : Sl) : Bool := a.v.toList == b.v.toList && (tmEq a.t b.t && true)
def ptEq (a b : Pt) : Bool := slEq a.s0 b.s0 && (slEq a.s1 b.s1 && slEq a.s2 b.s2)
theorem run_eqTm (d : Nat) (a b : Tm) (w : World) : (Op.equalIn (d + 2) 24 (.agg (TmC a).toArray) (.agg (TmC b).toArray)).run Tryz.prog w = .ok (tmEq a b) w := by
 refine eqA_struct Tryz.underlying24 (by kernel_rfl) ?_
 refine eqF_cons (by rfl) (run_part1 Tryz.underlying22 rfl rfl) (run_part1 Tryz.underlying22 rfl rfl) (run_equalIn_int Tryz.underlying22 _ _ _ _) ?_
 refine eqF_cons (by rfl) (run_part1 Tryz.underlying9 rfl rfl) (run_part1 Tryz.underlying9 rfl rfl) (Go.run_equalIn_string _ _ _ _ _ Tryz.underlying9) ?_
 refine eqF_cons (by rfl) (run_part1 Tryz.underlying9 rfl rfl) (run_part1 Tryz.underlying9 rfl rfl) (Go.run_equalIn_string _ _ _ _ _ Tryz.underlying9) ?_
 exact eqF_nil
theorem run_eqSl (d : Nat) (a b : Sl) (w : World) : (Op.equalIn (d + 3) 26 (.agg (SlC a).toArray) (.agg (SlC b).toArray)).run Tryz.prog w = .ok (slEq a b) w := by
 refine eqA_struct Tryz.underlying26 (by kernel_rfl) ?_
 refine eqF_cons (by rfl) (run_part1 Tryz.underlying9 rfl rfl) (run_part1 Tryz.underlying9 rfl rfl) (Go.run_equalIn_string _ _ _ _ _ Tryz.underlying9) ?_
 refine eqF_cons (by rfl) (run_partA Tryz.underlying24 rfl Tryz.sizeOf24) (run_partA Tryz.underlying24 rfl Tryz.sizeOf24) (run_eqTm d a.t b.t w) ?_
 exact eqF_nil
theorem run_eqPt (t : TypeId) (hu : Tryz.prog.underlying t = some (.array 3 26)) (d : Nat) (a b : Pt) (w : World) : (Op.equalIn (d + 4) t (.agg (PtC a).toArray) (.agg (PtC b).toArray)).run Tryz.prog w = .ok (ptEq a b) w :=
 eqA_array3 hu Tryz.sizeOf26 (run_partA Tryz.underlying26 rfl Tryz.sizeOf26) (run_partA Tryz.underlying26 rfl Tryz.sizeOf26) (run_eqSl d a.s0 b.s0 w)
  (run_partA Tryz.underlying26 rfl Tryz.sizeOf26) (run_partA Tryz.underlying26 rfl Tryz.sizeOf26) (run_eqSl d a.s1 b.s1 w)
  (run_partA Tryz.underlying26 rfl Tryz.sizeOf26) (run_partA Tryz.underlying26 rfl Tryz.sizeOf26) (run_eqSl d a.s2 b.s2 w)
theorem equal_of {P : Program} {t : TypeId} {x y : Value} {r : Bool} (d : Nat) (hd : d = 9990) (h : ∀ w, (Op.equalIn (d + 10) t x y).run P w = .ok r w) (w : World) : (Op.equal t x y).run P w = .ok r w := by
 subst hd
 exact h w
theorem guard_of {P : Program} {op : BinOp} {t : TypeId} {x y : Operand} {xs ys : Array Value} (hm : P.eqGuardType P.depth t = false) (w : World) : (eqGuard op t x y (.agg xs) (.agg ys)).run P w = .ok () w := run_eqGuard_agg w op t x y xs ys hm
theorem g24 : Tryz.prog.eqGuardType Tryz.prog.depth 24 = false := by kernel_rfl
theorem g26 : Tryz.prog.eqGuardType Tryz.prog.depth 26 = false := by kernel_rfl
theorem g28 : Tryz.prog.eqGuardType Tryz.prog.depth 28 = false := by kernel_rfl
end Go.Proofs.YtfddkcmooommeaaGreatDoor.Gl
end
section
namespace Go.Proofs.YtfddkcmooommeaaGreatDoor.Gl
open Go.RowKit Go.Shelf
set_option linter.unusedVariables false
set_option linter.unnecessarySimpa false
set_option linter.unusedSimpArgs false
def isLet (c : Nat) : Bool := (decide (65 ≤ c) && decide (c ≤ 90)) || (decide (97 ≤ c) && decide (c ≤ 122))
def isDig (c : Nat) : Bool := decide (48 ≤ c) && decide (c ≤ 57)
def allTo (f : Nat → Bool) (n : Nat) : Bool := (List.range n).all f
theorem allTo_zero (f : Nat → Bool) : allTo f 0 = true := rfl
theorem allTo_succ {f : Nat → Bool} {n : Nat} (h : allTo f n = true) (h1 : f n = true) : allTo f (n + 1) = true := by
 unfold allTo at *
 rw [List.range_succ, List.all_append, h]
 simp [h1]
theorem allTo_false {f : Nat → Bool} {n i : Nat} (h : i < n) (h1 : f i = false) : allTo f n = false := by
 unfold allTo
 rw [List.all_eq_false]
 exact ⟨i, List.mem_range.2 h, by simp [h1]⟩
def okW (s : List Nat) (i : Nat) : Bool := isLet (s.getD i 0) || (decide (i ≠ 0) && isDig (s.getD i 0))
def word (most : Nat) (s : List Nat) : Bool := allTo (okW s) s.length && decide (1 ≤ s.length) && decide (s.length ≤ most)
theorem getD_of {s : List Nat} {i c : Nat} (h : s[i]? = some c) : s.getD i 0 = c := by simp [List.getD, h]
theorem vb {a b : Bool} (h : a = b) : Value.bool a = Value.bool b := by rw [h]
theorem term_letter (w0 : World) (G : Hp) (c : Nat) : GC Tryz.prog w0 121 #[.int .u8 (c : Int)] (fun v G' => v = .bool (isLet c) ∧ G = G') G := by
 refine GC.body (args := [.int .u8 (c : Int)]) Tryz.func121 rfl (by kernel_rfl) rfl ?_
 refine GW.seq ?_
 refine GW.region ?_
 refine R.assign ⟨Z,Z,Z,Z⟩ Z ?_
 refine GOps.nil ?_
 refine GW.seq ?_
 refine GW.region ?_
 refine R.move ⟨Z,Z,Z,Z⟩ Z ?_
 refine R.geq ⟨Z,Z,Z,Z⟩ Z Z ?_
 refine R.move ⟨Z,Z,Z,Z⟩ Z ?_
 refine GOps.caseB 5 Z (fun hg1 => ?_) (fun hg1 => ?_)
 ·try simp only [dcQ] at hg1
  refine R.move ⟨Z,Z,Z,Z⟩ Z ?_
  refine R.leq ⟨Z,Z,Z,Z⟩ Z Z ?_
  refine R.pick_t ⟨Z,Z,Z,Z⟩ Z Z ?_
  refine R.move ⟨Z,Z,Z,Z⟩ Z ?_
  refine GOps.caseB 9 Z (fun hg2 => ?_) (fun hg2 => ?_)
  ·try simp only [dcQ] at hg2
   refine GOps.skip Z Z Z ?_
   refine GOps.skip Z Z Z ?_
   refine GOps.skip Z Z Z ?_
   refine GOps.skip Z Z Z ?_
   refine GOps.skip Z Z Z ?_
   refine GOps.skip Z Z Z ?_
   refine R.pick_t ⟨Z,Z,Z,Z⟩ Z Z ?_
   refine R.assign ⟨Z,Z,Z,Z⟩ Z ?_
   refine GOps.nil ?_
   refine GW.ret (Out.of (Res.one Z Z) hsB ⟨?_, Z⟩)
   refine vb ?_; rw [Bool.eq_iff_iff]; simp [isLet] at *; try omega
  ·try simp only [dcQ] at hg2
   refine R.move ⟨Z,Z,Z,Z⟩ Z ?_
   refine R.geq ⟨Z,Z,Z,Z⟩ Z Z ?_
   refine R.move ⟨Z,Z,Z,Z⟩ Z ?_
   refine GOps.caseB 12 Z (fun hg3 => ?_) (fun hg3 => ?_)
   ·try simp only [dcQ] at hg3
    refine R.move ⟨Z,Z,Z,Z⟩ Z ?_
    refine R.leq ⟨Z,Z,Z,Z⟩ Z Z ?_
    refine R.pick_t ⟨Z,Z,Z,Z⟩ Z Z ?_
    refine R.pick_f ⟨Z,Z,Z,Z⟩ Z Z ?_
    refine R.assign ⟨Z,Z,Z,Z⟩ Z ?_
    refine GOps.nil ?_
    refine GW.ret (Out.of (Res.one Z Z) hsB ⟨?_, Z⟩)
    refine vb ?_; rw [Bool.eq_iff_iff]; simp [isLet] at *; try omega
   ·try simp only [dcQ] at hg3
    refine GOps.skip Z Z Z ?_
    refine GOps.skip Z Z Z ?_
    refine R.pick_f ⟨Z,Z,Z,Z⟩ Z Z ?_
    refine R.pick_f ⟨Z,Z,Z,Z⟩ Z Z ?_
    refine R.assign ⟨Z,Z,Z,Z⟩ Z ?_
    refine GOps.nil ?_
    refine GW.ret (Out.of (Res.one Z Z) hsB ⟨?_, Z⟩)
    refine vb ?_; rw [Bool.eq_iff_iff]; simp [isLet] at *; try omega
 ·try simp only [dcQ] at hg1
  refine GOps.skip Z Z Z ?_
  refine GOps.skip Z Z Z ?_
  refine R.pick_f ⟨Z,Z,Z,Z⟩ Z Z ?_
  refine R.move ⟨Z,Z,Z,Z⟩ Z ?_
  refine R.move ⟨Z,Z,Z,Z⟩ Z ?_
  refine R.geq ⟨Z,Z,Z,Z⟩ Z Z ?_
  refine R.move ⟨Z,Z,Z,Z⟩ Z ?_
  refine GOps.caseB 12 Z (fun hg4 => ?_) (fun hg4 => ?_)
  ·try simp only [dcQ] at hg4
   refine R.move ⟨Z,Z,Z,Z⟩ Z ?_
   refine R.leq ⟨Z,Z,Z,Z⟩ Z Z ?_
   refine R.pick_t ⟨Z,Z,Z,Z⟩ Z Z ?_
   refine R.pick_f ⟨Z,Z,Z,Z⟩ Z Z ?_
   refine R.assign ⟨Z,Z,Z,Z⟩ Z ?_
   refine GOps.nil ?_
   refine GW.ret (Out.of (Res.one Z Z) hsB ⟨?_, Z⟩)
   refine vb ?_; rw [Bool.eq_iff_iff]; simp [isLet] at *; try omega
  ·try simp only [dcQ] at hg4
   refine GOps.skip Z Z Z ?_
   refine GOps.skip Z Z Z ?_
   refine R.pick_f ⟨Z,Z,Z,Z⟩ Z Z ?_
   refine R.pick_f ⟨Z,Z,Z,Z⟩ Z Z ?_
   refine R.assign ⟨Z,Z,Z,Z⟩ Z ?_
   refine GOps.nil ?_
   refine GW.ret (Out.of (Res.one Z Z) hsB ⟨?_, Z⟩)
   refine vb ?_; rw [Bool.eq_iff_iff]; simp [isLet] at *; try omega
theorem term_digit (w0 : World) (G : Hp) (c : Nat) : GC Tryz.prog w0 122 #[.int .u8 (c : Int)] (fun v G' => v = .bool (isDig c) ∧ G = G') G := by
 refine GC.body (args := [.int .u8 (c : Int)]) Tryz.func122 rfl (by kernel_rfl) rfl ?_
 refine GW.seq ?_
 refine GW.region ?_
 refine R.assign ⟨Z,Z,Z,Z⟩ Z ?_
 refine GOps.nil ?_
 refine GW.seq ?_
 refine GW.region ?_
 refine R.move ⟨Z,Z,Z,Z⟩ Z ?_
 refine R.geq ⟨Z,Z,Z,Z⟩ Z Z ?_
 refine R.move ⟨Z,Z,Z,Z⟩ Z ?_
 refine GOps.caseB 5 Z (fun hg1 => ?_) (fun hg1 => ?_)
 ·try simp only [dcQ] at hg1
  refine R.move ⟨Z,Z,Z,Z⟩ Z ?_
  refine R.leq ⟨Z,Z,Z,Z⟩ Z Z ?_
  refine R.pick_t ⟨Z,Z,Z,Z⟩ Z Z ?_
  refine R.assign ⟨Z,Z,Z,Z⟩ Z ?_
  refine GOps.nil ?_
  refine GW.ret (Out.of (Res.one Z Z) hsB ⟨?_, Z⟩)
  refine vb ?_; rw [Bool.eq_iff_iff]; simp [isDig] at *; try omega
 ·try simp only [dcQ] at hg1
  refine GOps.skip Z Z Z ?_
  refine GOps.skip Z Z Z ?_
  refine R.pick_f ⟨Z,Z,Z,Z⟩ Z Z ?_
  refine R.assign ⟨Z,Z,Z,Z⟩ Z ?_
  refine GOps.nil ?_
  refine GW.ret (Out.of (Res.one Z Z) hsB ⟨?_, Z⟩)
  refine vb ?_; rw [Bool.eq_iff_iff]; simp [isDig] at *; try omega
theorem vbs {a b : Bool} (h : a = b) : some (Value.bool a) = some (Value.bool b) := by rw [h]
theorem word_eq {s : ByteArray} {most : Nat} (h : allTo (okW (bs s)) s.size = true) : word most (bs s) = (decide (1 ≤ s.size) && decide (s.size ≤ most)) := by unfold word; rw [bs_length, h]; simp
theorem word_no {s : ByteArray} {most i : Nat} (hi : i < s.size) (h : okW (bs s) i = false) : word most (bs s) = false := by unfold word; rw [bs_length, allTo_false hi h]; simp
theorem rules_name (w0 : World) (G : Hp) (s : ByteArray) (hm : s.size ≤ 9223372036854775807) : GC Tryz.prog w0 124 #[.string s] (fun v G' => v = .bool (word 32 (bs s)) ∧ G = G') G := by
 refine GC.body (args := [.string s]) Tryz.func124 rfl (by kernel_rfl) rfl ?_
 refine GW.seq ?_
 refine GW.region ?_
 refine R.assign ⟨Z,Z,Z,Z⟩ Z ?_
 refine GOps.nil ?_
 refine GW.seq ?_
 refine GW.seq ?_
 refine GW.region ?_
 refine R.move ⟨Z,Z,Z,Z⟩ Z ?_
 refine R.lenStr ⟨Z,Z,Z,Z⟩ Z Z Tryz.underlying9 ?_
 refine R.move ⟨Z,Z,Z,Z⟩ Z ?_
 refine GOps.nil ?_
 refine GW.block ?_
 refine GW.loopI (fun i : Nat => [(0, .string s), (6, .int .i64 s.size), (7, .int .i64 i)]) (fun i => G) (fun i => s.size - i) (fun i => i ≤ s.size ∧ allTo (okW (bs s)) i = true) 0
  (keepG) (Hs.refl _) (⟨by omega, rfl⟩) ?_
 rintro i ⟨hi, h0⟩
 refine GW.seq ?_
 refine GW.region ?_
 refine R.lss ⟨Z,Z,Z,Z⟩ Z Z ?_
 refine GOps.nil ?_
 refine GW.seq ?_
 refine GW.ite Z (fun hc1 => ?_) (fun hc1 => ?_)
 ·try simp only [dcQ] at hc1
  refine GW.skip ?_
  refine GW.seq ?_
  refine GW.block ?_
  refine GW.seq ?_
  refine GW.region ?_
  refine R.move ⟨Z,Z,Z,Z⟩ Z ?_
  refine R.assign ⟨Z,Z,Z,Z⟩ Z ?_
  refine GOps.nil ?_
  refine GW.seq ?_
  refine GW.region ?_
  refine R.move ⟨Z,Z,Z,Z⟩ Z ?_
  refine R.move ⟨Z,Z,Z,Z⟩ Z ?_
  refine R.indexStrA ⟨Z,Z,Z,Z⟩ Z Z Tryz.underlying9 (by omega) (by omega) fun c1 hx1 hb1 => ?_   -- "rules.go:16" ['t10', 't11']
  refine R.assign ⟨Z,Z,Z,Z⟩ Z ?_
  refine GOps.nil ?_
  refine GW.cutB 38 (!(okW (bs s) i)) [(0, .string s), (6, .int .i64 s.size), (7, .int .i64 i)] (G' := G) ?_ ?_
  ·refine R.move ⟨Z,Z,Z,Z⟩ Z ?_
   refine R.lss ⟨Z,Z,Z,Z⟩ Z Z ?_
   refine R.move ⟨Z,Z,Z,Z⟩ Z ?_
   refine GOps.caseB 15 Z (fun hg2 => ?_) (fun hg2 => ?_)
   ·try simp only [dcQ] at hg2
    refine GOps.skip Z Z Z ?_
    refine GOps.skip Z Z Z ?_
    refine R.pick_t ⟨Z,Z,Z,Z⟩ Z Z ?_
    refine R.move ⟨Z,Z,Z,Z⟩ Z ?_
    refine R.move ⟨Z,Z,Z,Z⟩ Z ?_
    refine R.lss ⟨Z,Z,Z,Z⟩ Z Z ?_
    refine R.move ⟨Z,Z,Z,Z⟩ Z ?_
    refine GOps.caseB 22 Z (fun hg3 => ?_) (fun hg3 => ?_)
    ·try simp only [dcQ] at hg3
     refine GOps.skip Z Z Z ?_
     refine GOps.skip Z Z Z ?_
     refine R.pick_t ⟨Z,Z,Z,Z⟩ Z Z ?_
     refine R.pick_t ⟨Z,Z,Z,Z⟩ Z Z ?_
     refine R.move ⟨Z,Z,Z,Z⟩ Z ?_
     refine R.move ⟨Z,Z,Z,Z⟩ Z ?_
     refine R.eqI ⟨Z,Z,Z,Z⟩ Z Z ?_
     refine R.move ⟨Z,Z,Z,Z⟩ Z ?_
     refine GOps.caseB 30 Z (fun hg4 => ?_) (fun hg4 => ?_)
     ·try simp only [dcQ] at hg4
      refine GOps.skip Z Z Z ?_
      refine GOps.skip Z Z Z ?_
      refine R.pick_t ⟨Z,Z,Z,Z⟩ Z Z ?_
      refine R.move ⟨Z,Z,Z,Z⟩ Z ?_
      refine GOps.skip Z Z Z ?_
      refine GOps.skip Z Z Z ?_
      refine R.pick_t ⟨Z,Z,Z,Z⟩ Z Z ?_
      refine R.pick_t ⟨Z,Z,Z,Z⟩ Z Z ?_
      refine GOps.nil ?_
      exact ⟨rfl, rfl, keepG, by first | exact Hs.refl _ | exact Hs.tl _, vbs (by rw [okW, getD_of (i := i) hx1, Bool.eq_iff_iff]; simp [isLet, isDig] at *; try omega)⟩
     ·try simp only [dcQ] at hg4
      refine R.move ⟨Z,Z,Z,Z⟩ Z ?_
      refine R.lss ⟨Z,Z,Z,Z⟩ Z Z ?_
      refine R.pick_f ⟨Z,Z,Z,Z⟩ Z Z ?_
      refine R.move ⟨Z,Z,Z,Z⟩ Z ?_
      refine GOps.caseB 34 Z (fun hg5 => ?_) (fun hg5 => ?_)
      ·try simp only [dcQ] at hg5
       refine GOps.skip Z Z Z ?_
       refine GOps.skip Z Z Z ?_
       refine R.pick_t ⟨Z,Z,Z,Z⟩ Z Z ?_
       refine R.pick_t ⟨Z,Z,Z,Z⟩ Z Z ?_
       refine GOps.nil ?_
       exact ⟨rfl, rfl, keepG, by first | exact Hs.refl _ | exact Hs.tl _, vbs (by rw [okW, getD_of (i := i) hx1, Bool.eq_iff_iff]; simp [isLet, isDig] at *; try omega)⟩
      ·try simp only [dcQ] at hg5
       refine R.move ⟨Z,Z,Z,Z⟩ Z ?_
       refine R.gtr ⟨Z,Z,Z,Z⟩ Z Z ?_
       refine R.pick_f ⟨Z,Z,Z,Z⟩ Z Z ?_
       refine R.pick_t ⟨Z,Z,Z,Z⟩ Z Z ?_
       refine GOps.nil ?_
       exact ⟨rfl, rfl, keepG, by first | exact Hs.refl _ | exact Hs.tl _, vbs (by rw [okW, getD_of (i := i) hx1, Bool.eq_iff_iff]; simp [isLet, isDig] at *; try omega)⟩
    ·try simp only [dcQ] at hg3
     refine R.move ⟨Z,Z,Z,Z⟩ Z ?_
     refine R.gtr ⟨Z,Z,Z,Z⟩ Z Z ?_
     refine R.pick_f ⟨Z,Z,Z,Z⟩ Z Z ?_
     refine R.pick_t ⟨Z,Z,Z,Z⟩ Z Z ?_
     refine R.move ⟨Z,Z,Z,Z⟩ Z ?_
     refine GOps.caseB 27 Z (fun hg6 => ?_) (fun hg6 => ?_)
     ·try simp only [dcQ] at hg6
      refine R.move ⟨Z,Z,Z,Z⟩ Z ?_
      refine R.eqI ⟨Z,Z,Z,Z⟩ Z Z ?_
      refine R.move ⟨Z,Z,Z,Z⟩ Z ?_
      refine GOps.caseB 30 Z (fun hg7 => ?_) (fun hg7 => ?_)
      ·try simp only [dcQ] at hg7
       refine GOps.skip Z Z Z ?_
       refine GOps.skip Z Z Z ?_
       refine R.pick_t ⟨Z,Z,Z,Z⟩ Z Z ?_
       refine R.move ⟨Z,Z,Z,Z⟩ Z ?_
       refine GOps.skip Z Z Z ?_
       refine GOps.skip Z Z Z ?_
       refine R.pick_t ⟨Z,Z,Z,Z⟩ Z Z ?_
       refine R.pick_t ⟨Z,Z,Z,Z⟩ Z Z ?_
       refine GOps.nil ?_
       exact ⟨rfl, rfl, keepG, by first | exact Hs.refl _ | exact Hs.tl _, vbs (by rw [okW, getD_of (i := i) hx1, Bool.eq_iff_iff]; simp [isLet, isDig] at *; try omega)⟩
      ·try simp only [dcQ] at hg7
       refine R.move ⟨Z,Z,Z,Z⟩ Z ?_
       refine R.lss ⟨Z,Z,Z,Z⟩ Z Z ?_
       refine R.pick_f ⟨Z,Z,Z,Z⟩ Z Z ?_
       refine R.move ⟨Z,Z,Z,Z⟩ Z ?_
       refine GOps.caseB 34 Z (fun hg8 => ?_) (fun hg8 => ?_)
       ·try simp only [dcQ] at hg8
        refine GOps.skip Z Z Z ?_
        refine GOps.skip Z Z Z ?_
        refine R.pick_t ⟨Z,Z,Z,Z⟩ Z Z ?_
        refine R.pick_t ⟨Z,Z,Z,Z⟩ Z Z ?_
        refine GOps.nil ?_
        exact ⟨rfl, rfl, keepG, by first | exact Hs.refl _ | exact Hs.tl _, vbs (by rw [okW, getD_of (i := i) hx1, Bool.eq_iff_iff]; simp [isLet, isDig] at *; try omega)⟩
       ·try simp only [dcQ] at hg8
        refine R.move ⟨Z,Z,Z,Z⟩ Z ?_
        refine R.gtr ⟨Z,Z,Z,Z⟩ Z Z ?_
        refine R.pick_f ⟨Z,Z,Z,Z⟩ Z Z ?_
        refine R.pick_t ⟨Z,Z,Z,Z⟩ Z Z ?_
        refine GOps.nil ?_
        exact ⟨rfl, rfl, keepG, by first | exact Hs.refl _ | exact Hs.tl _, vbs (by rw [okW, getD_of (i := i) hx1, Bool.eq_iff_iff]; simp [isLet, isDig] at *; try omega)⟩
     ·try simp only [dcQ] at hg6
      refine GOps.skip Z Z Z ?_
      refine GOps.skip Z Z Z ?_
      refine GOps.skip Z Z Z ?_
      refine GOps.skip Z Z Z ?_
      refine GOps.skip Z Z Z ?_
      refine GOps.skip Z Z Z ?_
      refine GOps.skip Z Z Z ?_
      refine GOps.skip Z Z Z ?_
      refine GOps.skip Z Z Z ?_
      refine GOps.skip Z Z Z ?_
      refine R.pick_f ⟨Z,Z,Z,Z⟩ Z Z ?_
      refine GOps.nil ?_
      exact ⟨rfl, rfl, keepG, by first | exact Hs.refl _ | exact Hs.tl _, vbs (by rw [okW, getD_of (i := i) hx1, Bool.eq_iff_iff]; simp [isLet, isDig] at *; try omega)⟩
   ·try simp only [dcQ] at hg2
    refine R.move ⟨Z,Z,Z,Z⟩ Z ?_
    refine R.gtr ⟨Z,Z,Z,Z⟩ Z Z ?_
    refine R.pick_f ⟨Z,Z,Z,Z⟩ Z Z ?_
    refine R.move ⟨Z,Z,Z,Z⟩ Z ?_
    refine GOps.caseB 19 Z (fun hg9 => ?_) (fun hg9 => ?_)
    ·try simp only [dcQ] at hg9
     refine R.move ⟨Z,Z,Z,Z⟩ Z ?_
     refine R.lss ⟨Z,Z,Z,Z⟩ Z Z ?_
     refine R.move ⟨Z,Z,Z,Z⟩ Z ?_
     refine GOps.caseB 22 Z (fun hg10 => ?_) (fun hg10 => ?_)
     ·try simp only [dcQ] at hg10
      refine GOps.skip Z Z Z ?_
      refine GOps.skip Z Z Z ?_
      refine R.pick_t ⟨Z,Z,Z,Z⟩ Z Z ?_
      refine R.pick_t ⟨Z,Z,Z,Z⟩ Z Z ?_
      refine R.move ⟨Z,Z,Z,Z⟩ Z ?_
      refine R.move ⟨Z,Z,Z,Z⟩ Z ?_
      refine R.eqI ⟨Z,Z,Z,Z⟩ Z Z ?_
      refine R.move ⟨Z,Z,Z,Z⟩ Z ?_
      refine GOps.caseB 30 Z (fun hg11 => ?_) (fun hg11 => ?_)
      ·try simp only [dcQ] at hg11
       refine GOps.skip Z Z Z ?_
       refine GOps.skip Z Z Z ?_
       refine R.pick_t ⟨Z,Z,Z,Z⟩ Z Z ?_
       refine R.move ⟨Z,Z,Z,Z⟩ Z ?_
       refine GOps.skip Z Z Z ?_
       refine GOps.skip Z Z Z ?_
       refine R.pick_t ⟨Z,Z,Z,Z⟩ Z Z ?_
       refine R.pick_t ⟨Z,Z,Z,Z⟩ Z Z ?_
       refine GOps.nil ?_
       exact ⟨rfl, rfl, keepG, by first | exact Hs.refl _ | exact Hs.tl _, vbs (by rw [okW, getD_of (i := i) hx1, Bool.eq_iff_iff]; simp [isLet, isDig] at *; try omega)⟩
      ·try simp only [dcQ] at hg11
       refine R.move ⟨Z,Z,Z,Z⟩ Z ?_
       refine R.lss ⟨Z,Z,Z,Z⟩ Z Z ?_
       refine R.pick_f ⟨Z,Z,Z,Z⟩ Z Z ?_
       refine R.move ⟨Z,Z,Z,Z⟩ Z ?_
       refine GOps.caseB 34 Z (fun hg12 => ?_) (fun hg12 => ?_)
       ·try simp only [dcQ] at hg12
        refine GOps.skip Z Z Z ?_
        refine GOps.skip Z Z Z ?_
        refine R.pick_t ⟨Z,Z,Z,Z⟩ Z Z ?_
        refine R.pick_t ⟨Z,Z,Z,Z⟩ Z Z ?_
        refine GOps.nil ?_
        exact ⟨rfl, rfl, keepG, by first | exact Hs.refl _ | exact Hs.tl _, vbs (by rw [okW, getD_of (i := i) hx1, Bool.eq_iff_iff]; simp [isLet, isDig] at *; try omega)⟩
       ·try simp only [dcQ] at hg12
        refine R.move ⟨Z,Z,Z,Z⟩ Z ?_
        refine R.gtr ⟨Z,Z,Z,Z⟩ Z Z ?_
        refine R.pick_f ⟨Z,Z,Z,Z⟩ Z Z ?_
        refine R.pick_t ⟨Z,Z,Z,Z⟩ Z Z ?_
        refine GOps.nil ?_
        exact ⟨rfl, rfl, keepG, by first | exact Hs.refl _ | exact Hs.tl _, vbs (by rw [okW, getD_of (i := i) hx1, Bool.eq_iff_iff]; simp [isLet, isDig] at *; try omega)⟩
     ·try simp only [dcQ] at hg10
      refine R.move ⟨Z,Z,Z,Z⟩ Z ?_
      refine R.gtr ⟨Z,Z,Z,Z⟩ Z Z ?_
      refine R.pick_f ⟨Z,Z,Z,Z⟩ Z Z ?_
      refine R.pick_t ⟨Z,Z,Z,Z⟩ Z Z ?_
      refine R.move ⟨Z,Z,Z,Z⟩ Z ?_
      refine GOps.caseB 27 Z (fun hg13 => ?_) (fun hg13 => ?_)
      ·try simp only [dcQ] at hg13
       refine R.move ⟨Z,Z,Z,Z⟩ Z ?_
       refine R.eqI ⟨Z,Z,Z,Z⟩ Z Z ?_
       refine R.move ⟨Z,Z,Z,Z⟩ Z ?_
       refine GOps.caseB 30 Z (fun hg14 => ?_) (fun hg14 => ?_)
       ·try simp only [dcQ] at hg14
        refine GOps.skip Z Z Z ?_
        refine GOps.skip Z Z Z ?_
        refine R.pick_t ⟨Z,Z,Z,Z⟩ Z Z ?_
        refine R.move ⟨Z,Z,Z,Z⟩ Z ?_
        refine GOps.skip Z Z Z ?_
        refine GOps.skip Z Z Z ?_
        refine R.pick_t ⟨Z,Z,Z,Z⟩ Z Z ?_
        refine R.pick_t ⟨Z,Z,Z,Z⟩ Z Z ?_
        refine GOps.nil ?_
        exact ⟨rfl, rfl, keepG, by first | exact Hs.refl _ | exact Hs.tl _, vbs (by rw [okW, getD_of (i := i) hx1, Bool.eq_iff_iff]; simp [isLet, isDig] at *; try omega)⟩
       ·try simp only [dcQ] at hg14
        refine R.move ⟨Z,Z,Z,Z⟩ Z ?_
        refine R.lss ⟨Z,Z,Z,Z⟩ Z Z ?_
        refine R.pick_f ⟨Z,Z,Z,Z⟩ Z Z ?_
        refine R.move ⟨Z,Z,Z,Z⟩ Z ?_
        refine GOps.caseB 34 Z (fun hg15 => ?_) (fun hg15 => ?_)
        ·try simp only [dcQ] at hg15
         refine GOps.skip Z Z Z ?_
         refine GOps.skip Z Z Z ?_
         refine R.pick_t ⟨Z,Z,Z,Z⟩ Z Z ?_
         refine R.pick_t ⟨Z,Z,Z,Z⟩ Z Z ?_
         refine GOps.nil ?_
         exact ⟨rfl, rfl, keepG, by first | exact Hs.refl _ | exact Hs.tl _, vbs (by rw [okW, getD_of (i := i) hx1, Bool.eq_iff_iff]; simp [isLet, isDig] at *; try omega)⟩
        ·try simp only [dcQ] at hg15
         refine R.move ⟨Z,Z,Z,Z⟩ Z ?_
         refine R.gtr ⟨Z,Z,Z,Z⟩ Z Z ?_
         refine R.pick_f ⟨Z,Z,Z,Z⟩ Z Z ?_
         refine R.pick_t ⟨Z,Z,Z,Z⟩ Z Z ?_
         refine GOps.nil ?_
         exact ⟨rfl, rfl, keepG, by first | exact Hs.refl _ | exact Hs.tl _, vbs (by rw [okW, getD_of (i := i) hx1, Bool.eq_iff_iff]; simp [isLet, isDig] at *; try omega)⟩
      ·try simp only [dcQ] at hg13
       refine GOps.skip Z Z Z ?_
       refine GOps.skip Z Z Z ?_
       refine GOps.skip Z Z Z ?_
       refine GOps.skip Z Z Z ?_
       refine GOps.skip Z Z Z ?_
       refine GOps.skip Z Z Z ?_
       refine GOps.skip Z Z Z ?_
       refine GOps.skip Z Z Z ?_
       refine GOps.skip Z Z Z ?_
       refine GOps.skip Z Z Z ?_
       refine R.pick_f ⟨Z,Z,Z,Z⟩ Z Z ?_
       refine GOps.nil ?_
       exact ⟨rfl, rfl, keepG, by first | exact Hs.refl _ | exact Hs.tl _, vbs (by rw [okW, getD_of (i := i) hx1, Bool.eq_iff_iff]; simp [isLet, isDig] at *; try omega)⟩
    ·try simp only [dcQ] at hg9
     refine GOps.skip Z Z Z ?_
     refine GOps.skip Z Z Z ?_
     refine GOps.skip Z Z Z ?_
     refine GOps.skip Z Z Z ?_
     refine GOps.skip Z Z Z ?_
     refine GOps.skip Z Z Z ?_
     refine R.pick_f ⟨Z,Z,Z,Z⟩ Z Z ?_
     refine R.move ⟨Z,Z,Z,Z⟩ Z ?_
     refine GOps.skip Z Z Z ?_
     refine GOps.skip Z Z Z ?_
     refine GOps.skip Z Z Z ?_
     refine GOps.skip Z Z Z ?_
     refine GOps.skip Z Z Z ?_
     refine GOps.skip Z Z Z ?_
     refine GOps.skip Z Z Z ?_
     refine GOps.skip Z Z Z ?_
     refine GOps.skip Z Z Z ?_
     refine GOps.skip Z Z Z ?_
     refine R.pick_f ⟨Z,Z,Z,Z⟩ Z Z ?_
     refine GOps.nil ?_
     exact ⟨rfl, rfl, keepG, by first | exact Hs.refl _ | exact Hs.tl _, vbs (by rw [okW, getD_of (i := i) hx1, Bool.eq_iff_iff]; simp [isLet, isDig] at *; try omega)⟩
  ·refine GW.ite Z (fun hc16 => ?_) (fun hc16 => ?_)
   ·try simp only [dcQ] at hc16
    refine GW.seq ?_
    refine GW.region ?_
    refine R.assign ⟨Z,Z,Z,Z⟩ Z ?_
    refine GOps.nil ?_
    refine GW.ret (Out.of (Res.one Z Z) hsB ⟨?_, Z⟩)
    refine vb ?_; first | (rw [word_eq (by rw [show s.size = i from by omega]; exact h0), Bool.eq_iff_iff]; simp; omega) | (symm; exact word_no (i := i) (by omega) (by assumption))
   ·try simp only [dcQ] at hc16
    refine GW.skip ?_
    refine GW.region ?_
    refine R.add (r := ((i + 1 : Nat) : Int)) ⟨Z,Z,Z,Z⟩ Z Z (by rw [wrap64_id (by omega) (by omega)]; omega) ?_
    refine R.move ⟨Z,Z,Z,Z⟩ Z ?_
    refine GOps.nil ?_
    exact ⟨i + 1, by omega, ⟨by omega, allTo_succ h0 (by assumption)⟩, rfl, keepG, by first | exact Hs.refl _ | exact Hs.tl _ | exact Hs.tl2 _ _⟩
 ·try simp only [dcQ] at hc1
  refine GW.exit ?_
  refine GW.seq ?_
  refine GW.region ?_
  refine R.move ⟨Z,Z,Z,Z⟩ Z ?_
  refine R.lenStr ⟨Z,Z,Z,Z⟩ Z Z Tryz.underlying9 ?_
  refine R.geq ⟨Z,Z,Z,Z⟩ Z Z ?_
  refine R.move ⟨Z,Z,Z,Z⟩ Z ?_
  refine GOps.caseB 43 Z (fun hg17 => ?_) (fun hg17 => ?_)
  ·try simp only [dcQ] at hg17
   refine R.move ⟨Z,Z,Z,Z⟩ Z ?_
   refine R.lenStr ⟨Z,Z,Z,Z⟩ Z Z Tryz.underlying9 ?_
   refine R.leq ⟨Z,Z,Z,Z⟩ Z Z ?_
   refine R.pick_t ⟨Z,Z,Z,Z⟩ Z Z ?_
   refine R.assign ⟨Z,Z,Z,Z⟩ Z ?_
   refine GOps.nil ?_
   refine GW.ret (Out.of (Res.one Z Z) hsB ⟨?_, Z⟩)
   refine vb ?_; first | (rw [word_eq (by rw [show s.size = i from by omega]; exact h0), Bool.eq_iff_iff]; simp; omega) | (symm; exact word_no (i := i) (by omega) (by assumption))
  ·try simp only [dcQ] at hg17
   refine GOps.skip Z Z Z ?_
   refine GOps.skip Z Z Z ?_
   refine GOps.skip Z Z Z ?_
   refine R.pick_f ⟨Z,Z,Z,Z⟩ Z Z ?_
   refine R.assign ⟨Z,Z,Z,Z⟩ Z ?_
   refine GOps.nil ?_
   refine GW.ret (Out.of (Res.one Z Z) hsB ⟨?_, Z⟩)
   refine vb ?_; first | (rw [word_eq (by rw [show s.size = i from by omega]; exact h0), Bool.eq_iff_iff]; simp; omega) | (symm; exact word_no (i := i) (by omega) (by assumption))
theorem term_blank (w0 : World) (G : Hp) (s : ByteArray) (hm : s.size ≤ 9223372036854775807) : GC Tryz.prog w0 100 #[.string s] (fun v G' => v = .bool (word 64 (bs s)) ∧ G = G') G := by
 refine GC.body (args := [.string s]) Tryz.func100 rfl (by kernel_rfl) rfl ?_
 refine GW.seq ?_
 refine GW.region ?_
 refine R.assign ⟨Z,Z,Z,Z⟩ Z ?_
 refine GOps.nil ?_
 refine GW.seq ?_
 refine GW.seq ?_
 refine GW.region ?_
 refine R.move ⟨Z,Z,Z,Z⟩ Z ?_
 refine R.lenStr ⟨Z,Z,Z,Z⟩ Z Z Tryz.underlying9 ?_
 refine R.move ⟨Z,Z,Z,Z⟩ Z ?_
 refine GOps.nil ?_
 refine GW.block ?_
 refine GW.loopI (fun i : Nat => [(0, .string s), (5, .int .i64 s.size), (6, .int .i64 i)]) (fun i => G) (fun i => s.size - i) (fun i => i ≤ s.size ∧ allTo (okW (bs s)) i = true) 0
  (keepG) (Hs.refl _) (⟨by omega, rfl⟩) ?_
 rintro i ⟨hi, h0⟩
 refine GW.seq ?_
 refine GW.region ?_
 refine R.lss ⟨Z,Z,Z,Z⟩ Z Z ?_
 refine GOps.nil ?_
 refine GW.seq ?_
 refine GW.ite Z (fun hc1 => ?_) (fun hc1 => ?_)
 ·try simp only [dcQ] at hc1
  refine GW.skip ?_
  refine GW.seq ?_
  refine GW.block ?_
  refine GW.seq ?_
  refine GW.region ?_
  refine R.move ⟨Z,Z,Z,Z⟩ Z ?_
  refine R.assign ⟨Z,Z,Z,Z⟩ Z ?_
  refine GOps.nil ?_
  refine GW.cutB 24 (!(okW (bs s) i)) [(0, .string s), (5, .int .i64 s.size), (6, .int .i64 i)] (G' := G) ?_ ?_
  ·refine R.move ⟨Z,Z,Z,Z⟩ Z ?_
   refine R.move ⟨Z,Z,Z,Z⟩ Z ?_
   refine R.indexStrA ⟨Z,Z,Z,Z⟩ Z Z Tryz.underlying9 (by omega) (by omega) fun c1 hx1 hb1 => ?_   -- "term.go:34" ['t9', 't10']
   refine R.call ⟨Z,Z,Z,Z⟩ Z (vs := [_]) Z ((term_letter _ _ _).mono ?_)
   rintro _ _ ⟨rfl, rfl⟩
   refine R.not ⟨Z,Z,Z,Z⟩ Z ?_
   refine R.move ⟨Z,Z,Z,Z⟩ Z ?_
   refine GOps.caseB 14 Z (fun hg2 => ?_) (fun hg2 => ?_)
   ·try simp only [dcQ] at hg2
    refine R.move ⟨Z,Z,Z,Z⟩ Z ?_
    refine R.eqI ⟨Z,Z,Z,Z⟩ Z Z ?_
    refine R.move ⟨Z,Z,Z,Z⟩ Z ?_
    refine GOps.caseB 17 Z (fun hg3 => ?_) (fun hg3 => ?_)
    ·try simp only [dcQ] at hg3
     refine GOps.skip Z Z Z ?_
     refine GOps.skip Z Z Z ?_
     refine GOps.skip Z Z Z ?_
     refine GOps.skip Z Z Z ?_
     refine GOps.skip Z Z Z ?_
     refine R.pick_t ⟨Z,Z,Z,Z⟩ Z Z ?_
     refine R.pick_t ⟨Z,Z,Z,Z⟩ Z Z ?_
     refine GOps.nil ?_
     exact ⟨rfl, rfl, keepG, by first | exact Hs.refl _ | exact Hs.tl _, vbs (by rw [okW, getD_of (i := i) hx1]; simp_all; try omega)⟩
    ·try simp only [dcQ] at hg3
     refine R.move ⟨Z,Z,Z,Z⟩ Z ?_
     refine R.move ⟨Z,Z,Z,Z⟩ Z ?_
     refine R.indexStrA ⟨Z,Z,Z,Z⟩ Z Z Tryz.underlying9 (by omega) (by omega) fun c2 hx2 hb2 => ?_   -- "term.go:34" ['t18', 't19']
     refine R.call ⟨Z,Z,Z,Z⟩ Z (vs := [_]) Z ((term_digit _ _ _).mono ?_)
     rintro _ _ ⟨rfl, rfl⟩
     refine R.not ⟨Z,Z,Z,Z⟩ Z ?_
     refine R.pick_f ⟨Z,Z,Z,Z⟩ Z Z ?_
     refine R.pick_t ⟨Z,Z,Z,Z⟩ Z Z ?_
     refine GOps.nil ?_
     exact ⟨rfl, rfl, keepG, by first | exact Hs.refl _ | exact Hs.tl _, vbs (by rw [okW, getD_of (i := i) hx1]; simp_all; try omega)⟩
   ·try simp only [dcQ] at hg2
    refine GOps.skip Z Z Z ?_
    refine GOps.skip Z Z Z ?_
    refine GOps.skip Z Z Z ?_
    refine GOps.skip Z Z Z ?_
    refine GOps.skip Z Z Z ?_
    refine GOps.skip Z Z Z ?_
    refine GOps.skip Z Z Z ?_
    refine GOps.skip Z Z Z ?_
    refine GOps.skip Z Z Z ?_
    refine R.pick_f ⟨Z,Z,Z,Z⟩ Z Z ?_
    refine GOps.nil ?_
    exact ⟨rfl, rfl, keepG, by first | exact Hs.refl _ | exact Hs.tl _, vbs (by rw [okW, getD_of (i := i) hx1]; simp_all; try omega)⟩
  ·refine GW.ite Z (fun hc4 => ?_) (fun hc4 => ?_)
   ·try simp only [dcQ] at hc4
    refine GW.seq ?_
    refine GW.region ?_
    refine R.assign ⟨Z,Z,Z,Z⟩ Z ?_
    refine GOps.nil ?_
    refine GW.ret (Out.of (Res.one Z Z) hsB ⟨?_, Z⟩)
    refine vb ?_; first | (rw [word_eq (by rw [show s.size = i from by omega]; exact h0), Bool.eq_iff_iff]; simp; omega) | (symm; exact word_no (i := i) (by omega) (by assumption))
   ·try simp only [dcQ] at hc4
    refine GW.skip ?_
    refine GW.region ?_
    refine R.add (r := ((i + 1 : Nat) : Int)) ⟨Z,Z,Z,Z⟩ Z Z (by rw [wrap64_id (by omega) (by omega)]; omega) ?_
    refine R.move ⟨Z,Z,Z,Z⟩ Z ?_
    refine GOps.nil ?_
    exact ⟨i + 1, by omega, ⟨by omega, allTo_succ h0 (by assumption)⟩, rfl, keepG, by first | exact Hs.refl _ | exact Hs.tl _ | exact Hs.tl2 _ _⟩
 ·try simp only [dcQ] at hc1
  refine GW.exit ?_
  refine GW.seq ?_
  refine GW.region ?_
  refine R.move ⟨Z,Z,Z,Z⟩ Z ?_
  refine R.lenStr ⟨Z,Z,Z,Z⟩ Z Z Tryz.underlying9 ?_
  refine R.geq ⟨Z,Z,Z,Z⟩ Z Z ?_
  refine R.move ⟨Z,Z,Z,Z⟩ Z ?_
  refine GOps.caseB 29 Z (fun hg5 => ?_) (fun hg5 => ?_)
  ·try simp only [dcQ] at hg5
   refine R.move ⟨Z,Z,Z,Z⟩ Z ?_
   refine R.lenStr ⟨Z,Z,Z,Z⟩ Z Z Tryz.underlying9 ?_
   refine R.leq ⟨Z,Z,Z,Z⟩ Z Z ?_
   refine R.pick_t ⟨Z,Z,Z,Z⟩ Z Z ?_
   refine R.assign ⟨Z,Z,Z,Z⟩ Z ?_
   refine GOps.nil ?_
   refine GW.ret (Out.of (Res.one Z Z) hsB ⟨?_, Z⟩)
   refine vb ?_; first | (rw [word_eq (by rw [show s.size = i from by omega]; exact h0), Bool.eq_iff_iff]; simp; omega) | (symm; exact word_no (i := i) (by omega) (by assumption))
  ·try simp only [dcQ] at hg5
   refine GOps.skip Z Z Z ?_
   refine GOps.skip Z Z Z ?_
   refine GOps.skip Z Z Z ?_
   refine R.pick_f ⟨Z,Z,Z,Z⟩ Z Z ?_
   refine R.assign ⟨Z,Z,Z,Z⟩ Z ?_
   refine GOps.nil ?_
   refine GW.ret (Out.of (Res.one Z Z) hsB ⟨?_, Z⟩)
   refine vb ?_; first | (rw [word_eq (by rw [show s.size = i from by omega]; exact h0), Bool.eq_iff_iff]; simp; omega) | (symm; exact word_no (i := i) (by omega) (by assumption))
theorem ref_Letter (w0 : World) (G : Hp) (c : Nat) : GC Tryz.prog w0 93 #[.int .u8 (c : Int)] (fun v G' => v = .bool (isLet c) ∧ G = G') G := by
 refine GC.body (args := [.int .u8 (c : Int)]) Tryz.func93 rfl (by kernel_rfl) rfl ?_
 refine GW.seq ?_
 refine GW.region ?_
 refine R.assign ⟨Z,Z,Z,Z⟩ Z ?_
 refine GOps.nil ?_
 refine GW.seq ?_
 refine GW.region ?_
 refine R.move ⟨Z,Z,Z,Z⟩ Z ?_
 refine R.geq ⟨Z,Z,Z,Z⟩ Z Z ?_
 refine R.move ⟨Z,Z,Z,Z⟩ Z ?_
 refine GOps.caseB 5 Z (fun hg1 => ?_) (fun hg1 => ?_)
 ·try simp only [dcQ] at hg1
  refine R.move ⟨Z,Z,Z,Z⟩ Z ?_
  refine R.leq ⟨Z,Z,Z,Z⟩ Z Z ?_
  refine R.pick_t ⟨Z,Z,Z,Z⟩ Z Z ?_
  refine R.move ⟨Z,Z,Z,Z⟩ Z ?_
  refine GOps.caseB 9 Z (fun hg2 => ?_) (fun hg2 => ?_)
  ·try simp only [dcQ] at hg2
   refine GOps.skip Z Z Z ?_
   refine GOps.skip Z Z Z ?_
   refine GOps.skip Z Z Z ?_
   refine GOps.skip Z Z Z ?_
   refine GOps.skip Z Z Z ?_
   refine GOps.skip Z Z Z ?_
   refine R.pick_t ⟨Z,Z,Z,Z⟩ Z Z ?_
   refine R.assign ⟨Z,Z,Z,Z⟩ Z ?_
   refine GOps.nil ?_
   refine GW.ret (Out.of (Res.one Z Z) hsB ⟨?_, Z⟩)
   refine vb ?_; rw [Bool.eq_iff_iff]; simp [isLet] at *; try omega
  ·try simp only [dcQ] at hg2
   refine R.move ⟨Z,Z,Z,Z⟩ Z ?_
   refine R.geq ⟨Z,Z,Z,Z⟩ Z Z ?_
   refine R.move ⟨Z,Z,Z,Z⟩ Z ?_
   refine GOps.caseB 12 Z (fun hg3 => ?_) (fun hg3 => ?_)
   ·try simp only [dcQ] at hg3
    refine R.move ⟨Z,Z,Z,Z⟩ Z ?_
    refine R.leq ⟨Z,Z,Z,Z⟩ Z Z ?_
    refine R.pick_t ⟨Z,Z,Z,Z⟩ Z Z ?_
    refine R.pick_f ⟨Z,Z,Z,Z⟩ Z Z ?_
    refine R.assign ⟨Z,Z,Z,Z⟩ Z ?_
    refine GOps.nil ?_
    refine GW.ret (Out.of (Res.one Z Z) hsB ⟨?_, Z⟩)
    refine vb ?_; rw [Bool.eq_iff_iff]; simp [isLet] at *; try omega
   ·try simp only [dcQ] at hg3
    refine GOps.skip Z Z Z ?_
    refine GOps.skip Z Z Z ?_
    refine R.pick_f ⟨Z,Z,Z,Z⟩ Z Z ?_
    refine R.pick_f ⟨Z,Z,Z,Z⟩ Z Z ?_
    refine R.assign ⟨Z,Z,Z,Z⟩ Z ?_
    refine GOps.nil ?_
    refine GW.ret (Out.of (Res.one Z Z) hsB ⟨?_, Z⟩)
    refine vb ?_; rw [Bool.eq_iff_iff]; simp [isLet] at *; try omega
 ·try simp only [dcQ] at hg1
  refine GOps.skip Z Z Z ?_
  refine GOps.skip Z Z Z ?_
  refine R.pick_f ⟨Z,Z,Z,Z⟩ Z Z ?_
  refine R.move ⟨Z,Z,Z,Z⟩ Z ?_
  refine R.move ⟨Z,Z,Z,Z⟩ Z ?_
  refine R.geq ⟨Z,Z,Z,Z⟩ Z Z ?_
  refine R.move ⟨Z,Z,Z,Z⟩ Z ?_
  refine GOps.caseB 12 Z (fun hg4 => ?_) (fun hg4 => ?_)
  ·try simp only [dcQ] at hg4
   refine R.move ⟨Z,Z,Z,Z⟩ Z ?_
   refine R.leq ⟨Z,Z,Z,Z⟩ Z Z ?_
   refine R.pick_t ⟨Z,Z,Z,Z⟩ Z Z ?_
   refine R.pick_f ⟨Z,Z,Z,Z⟩ Z Z ?_
   refine R.assign ⟨Z,Z,Z,Z⟩ Z ?_
   refine GOps.nil ?_
   refine GW.ret (Out.of (Res.one Z Z) hsB ⟨?_, Z⟩)
   refine vb ?_; rw [Bool.eq_iff_iff]; simp [isLet] at *; try omega
  ·try simp only [dcQ] at hg4
   refine GOps.skip Z Z Z ?_
   refine GOps.skip Z Z Z ?_
   refine R.pick_f ⟨Z,Z,Z,Z⟩ Z Z ?_
   refine R.pick_f ⟨Z,Z,Z,Z⟩ Z Z ?_
   refine R.assign ⟨Z,Z,Z,Z⟩ Z ?_
   refine GOps.nil ?_
   refine GW.ret (Out.of (Res.one Z Z) hsB ⟨?_, Z⟩)
   refine vb ?_; rw [Bool.eq_iff_iff]; simp [isLet] at *; try omega
theorem ref_Digit (w0 : World) (G : Hp) (c : Nat) : GC Tryz.prog w0 94 #[.int .u8 (c : Int)] (fun v G' => v = .bool (isDig c) ∧ G = G') G := by
 refine GC.body (args := [.int .u8 (c : Int)]) Tryz.func94 rfl (by kernel_rfl) rfl ?_
 refine GW.seq ?_
 refine GW.region ?_
 refine R.assign ⟨Z,Z,Z,Z⟩ Z ?_
 refine GOps.nil ?_
 refine GW.seq ?_
 refine GW.region ?_
 refine R.move ⟨Z,Z,Z,Z⟩ Z ?_
 refine R.geq ⟨Z,Z,Z,Z⟩ Z Z ?_
 refine R.move ⟨Z,Z,Z,Z⟩ Z ?_
 refine GOps.caseB 5 Z (fun hg1 => ?_) (fun hg1 => ?_)
 ·try simp only [dcQ] at hg1
  refine R.move ⟨Z,Z,Z,Z⟩ Z ?_
  refine R.leq ⟨Z,Z,Z,Z⟩ Z Z ?_
  refine R.pick_t ⟨Z,Z,Z,Z⟩ Z Z ?_
  refine R.assign ⟨Z,Z,Z,Z⟩ Z ?_
  refine GOps.nil ?_
  refine GW.ret (Out.of (Res.one Z Z) hsB ⟨?_, Z⟩)
  refine vb ?_; rw [Bool.eq_iff_iff]; simp [isDig] at *; try omega
 ·try simp only [dcQ] at hg1
  refine GOps.skip Z Z Z ?_
  refine GOps.skip Z Z Z ?_
  refine R.pick_f ⟨Z,Z,Z,Z⟩ Z Z ?_
  refine R.assign ⟨Z,Z,Z,Z⟩ Z ?_
  refine GOps.nil ?_
  refine GW.ret (Out.of (Res.one Z Z) hsB ⟨?_, Z⟩)
  refine vb ?_; rw [Bool.eq_iff_iff]; simp [isDig] at *; try omega
theorem word_len0 {s : ByteArray} {most : Nat} (h : ¬ (1 ≤ s.size ∧ s.size ≤ most)) : word most (bs s) = false := by
 unfold word; rw [bs_length, Bool.and_assoc]
 have : (decide (1 ≤ s.size) && decide (s.size ≤ most)) = false := by simpa using h
 rw [this]; simp
theorem word_first {s : ByteArray} {most c : Nat} (h : (bs s)[0]? = some c) (hc : isLet c = false) : word most (bs s) = false := by
 have hl : 0 < s.size := by rw [← bs_length]; exact (List.getElem?_eq_some_iff.1 h).1
 exact word_no hl (by rw [okW, getD_of h, hc]; simp)
theorem ref_Word (w0 : World) (G : Hp) (s : ByteArray) (most : Nat) (hm : s.size ≤ 9223372036854775807) : GC Tryz.prog w0 67 #[.string s, .int .i64 (most : Int)] (fun v G' => v = .bool (word most (bs s)) ∧ G = G') G := by
 refine GC.body (args := [.string s, .int .i64 (most : Int)]) Tryz.func67 rfl (by kernel_rfl) rfl ?_
 refine GW.seq ?_
 refine GW.region ?_
 refine R.assign ⟨Z,Z,Z,Z⟩ Z ?_
 refine GOps.nil ?_
 refine GW.seq ?_
 refine GW.seq ?_
 refine GW.region ?_
 refine R.move ⟨Z,Z,Z,Z⟩ Z ?_
 refine R.lenStr ⟨Z,Z,Z,Z⟩ Z Z Tryz.underlying9 ?_
 refine R.lss ⟨Z,Z,Z,Z⟩ Z Z ?_
 refine R.move ⟨Z,Z,Z,Z⟩ Z ?_
 refine GOps.caseB 9 Z (fun hg1 => ?_) (fun hg1 => ?_)
 ·try simp only [dcQ] at hg1
  refine GOps.skip Z Z Z ?_
  refine GOps.skip Z Z Z ?_
  refine GOps.skip Z Z Z ?_
  refine GOps.skip Z Z Z ?_
  refine R.pick_t ⟨Z,Z,Z,Z⟩ Z Z ?_
  refine R.move ⟨Z,Z,Z,Z⟩ Z ?_
  refine GOps.skip Z Z Z ?_
  refine GOps.skip Z Z Z ?_
  refine GOps.skip Z Z Z ?_
  refine GOps.skip Z Z Z ?_
  refine R.pick_t ⟨Z,Z,Z,Z⟩ Z Z ?_
  refine GOps.nil ?_
  refine GW.cond_t Z ?_
  refine GW.seq ?_
  refine GW.region ?_
  refine R.assign ⟨Z,Z,Z,Z⟩ Z ?_
  refine GOps.nil ?_
  refine GW.ret (Out.of (Res.one Z Z) hsB ⟨?_, Z⟩)
  refine vb ?_; first | (symm; exact word_len0 (by omega)) | (symm; exact word_first (by assumption) (by assumption)) | (symm; exact word_no (i := i) (by omega) (by assumption)) | (rw [word_eq (by rw [show s.size = i from by omega]; exact h0), Bool.eq_iff_iff]; simp; omega)
 ·try simp only [dcQ] at hg1
  refine R.move ⟨Z,Z,Z,Z⟩ Z ?_
  refine R.lenStr ⟨Z,Z,Z,Z⟩ Z Z Tryz.underlying9 ?_
  refine R.move ⟨Z,Z,Z,Z⟩ Z ?_
  refine R.gtr ⟨Z,Z,Z,Z⟩ Z Z ?_
  refine R.pick_f ⟨Z,Z,Z,Z⟩ Z Z ?_
  refine R.move ⟨Z,Z,Z,Z⟩ Z ?_
  refine GOps.caseB 15 Z (fun hg2 => ?_) (fun hg2 => ?_)
  ·try simp only [dcQ] at hg2
   refine GOps.skip Z Z Z ?_
   refine GOps.skip Z Z Z ?_
   refine GOps.skip Z Z Z ?_
   refine GOps.skip Z Z Z ?_
   refine R.pick_t ⟨Z,Z,Z,Z⟩ Z Z ?_
   refine GOps.nil ?_
   refine GW.cond_t Z ?_
   refine GW.seq ?_
   refine GW.region ?_
   refine R.assign ⟨Z,Z,Z,Z⟩ Z ?_
   refine GOps.nil ?_
   refine GW.ret (Out.of (Res.one Z Z) hsB ⟨?_, Z⟩)
   refine vb ?_; first | (symm; exact word_len0 (by omega)) | (symm; exact word_first (by assumption) (by assumption)) | (symm; exact word_no (i := i) (by omega) (by assumption)) | (rw [word_eq (by rw [show s.size = i from by omega]; exact h0), Bool.eq_iff_iff]; simp; omega)
  ·try simp only [dcQ] at hg2
   refine R.move ⟨Z,Z,Z,Z⟩ Z ?_
   refine R.indexStrA ⟨Z,Z,Z,Z⟩ Z Z Tryz.underlying9 (by omega) (by omega) fun c1 hx1 hb1 => ?_   -- "ref.go:47" ['t16', '0']
   refine R.call ⟨Z,Z,Z,Z⟩ Z (vs := [_]) Z ((ref_Letter _ _ _).mono ?_)
   rintro _ _ ⟨rfl, rfl⟩
   refine R.not ⟨Z,Z,Z,Z⟩ Z ?_
   refine R.pick_f ⟨Z,Z,Z,Z⟩ Z Z ?_
   refine GOps.nil ?_
   refine GW.ite Z (fun hc3 => ?_) (fun hc3 => ?_)
   ·try simp only [dcQ] at hc3
    refine GW.seq ?_
    refine GW.region ?_
    refine R.assign ⟨Z,Z,Z,Z⟩ Z ?_
    refine GOps.nil ?_
    refine GW.ret (Out.of (Res.one Z Z) hsB ⟨?_, Z⟩)
    refine vb ?_; first | (symm; exact word_len0 (by omega)) | (symm; exact word_first (by assumption) (by assumption)) | (symm; exact word_no (i := i) (by omega) (by assumption)) | (rw [word_eq (by rw [show s.size = i from by omega]; exact h0), Bool.eq_iff_iff]; simp; omega)
   ·try simp only [dcQ] at hc3
    refine GW.skip ?_
    refine GW.seq ?_
    refine GW.seq ?_
    refine GW.region ?_
    refine R.assign ⟨Z,Z,Z,Z⟩ Z ?_
    refine GOps.nil ?_
    refine GW.block ?_
    refine GW.loopI (fun i : Nat => [(0, .string s), (5, .int .i64 i)]) (fun i => G) (fun i => s.size - i) (fun i => i ≤ s.size ∧ allTo (okW (bs s)) i = true) 0
     (keepG) (Hs.refl _) (⟨by omega, rfl⟩) ?_
    rintro i ⟨hi, h0⟩
    refine GW.seq ?_
    refine GW.seq ?_
    refine GW.region ?_
    refine R.move ⟨Z,Z,Z,Z⟩ Z ?_
    refine R.move ⟨Z,Z,Z,Z⟩ Z ?_
    refine R.lenStr ⟨Z,Z,Z,Z⟩ Z Z Tryz.underlying9 ?_
    refine R.lss ⟨Z,Z,Z,Z⟩ Z Z ?_
    refine GOps.nil ?_
    refine GW.ite Z (fun hc4 => ?_) (fun hc4 => ?_)
    ·try simp only [dcQ] at hc4
     refine GW.skip ?_
     refine GW.seq ?_
     refine GW.block ?_
     refine GW.cutB 38 (!(okW (bs s) i)) [(0, .string s), (5, .int .i64 i)] (G' := G) ?_ ?_
     ·refine R.move ⟨Z,Z,Z,Z⟩ Z ?_
      refine R.move ⟨Z,Z,Z,Z⟩ Z ?_
      refine R.indexStrA ⟨Z,Z,Z,Z⟩ Z Z Tryz.underlying9 (by omega) (by omega) fun c2 hx2 hb2 => ?_   -- "ref.go:51" ['t27', 't28']
      refine R.call ⟨Z,Z,Z,Z⟩ Z (vs := [_]) Z ((ref_Letter _ _ _).mono ?_)
      rintro _ _ ⟨rfl, rfl⟩
      refine R.not ⟨Z,Z,Z,Z⟩ Z ?_
      refine R.move ⟨Z,Z,Z,Z⟩ Z ?_
      refine GOps.caseB 32 Z (fun hg5 => ?_) (fun hg5 => ?_)
      ·try simp only [dcQ] at hg5
       refine R.move ⟨Z,Z,Z,Z⟩ Z ?_
       refine R.move ⟨Z,Z,Z,Z⟩ Z ?_
       refine R.indexStrA ⟨Z,Z,Z,Z⟩ Z Z Tryz.underlying9 (by omega) (by omega) fun c3 hx3 hb3 => ?_   -- "ref.go:51" ['t33', 't34']
       refine R.call ⟨Z,Z,Z,Z⟩ Z (vs := [_]) Z ((ref_Digit _ _ _).mono ?_)
       rintro _ _ ⟨rfl, rfl⟩
       refine R.not ⟨Z,Z,Z,Z⟩ Z ?_
       refine R.pick_t ⟨Z,Z,Z,Z⟩ Z Z ?_
       refine GOps.nil ?_
       exact ⟨rfl, rfl, keepG, by first | exact Hs.refl _ | exact Hs.tl _, vbs (by rw [okW, getD_of (i := i) (by assumption)]; by_cases hi0 : i = 0 <;> simp_all)⟩
      ·try simp only [dcQ] at hg5
       refine GOps.skip Z Z Z ?_
       refine GOps.skip Z Z Z ?_
       refine GOps.skip Z Z Z ?_
       refine GOps.skip Z Z Z ?_
       refine GOps.skip Z Z Z ?_
       refine R.pick_f ⟨Z,Z,Z,Z⟩ Z Z ?_
       refine GOps.nil ?_
       exact ⟨rfl, rfl, keepG, by first | exact Hs.refl _ | exact Hs.tl _, vbs (by rw [okW, getD_of (i := i) (by assumption)]; by_cases hi0 : i = 0 <;> simp_all)⟩
     ·refine GW.ite Z (fun hc6 => ?_) (fun hc6 => ?_)
      ·try simp only [dcQ] at hc6
       refine GW.seq ?_
       refine GW.region ?_
       refine R.assign ⟨Z,Z,Z,Z⟩ Z ?_
       refine GOps.nil ?_
       refine GW.ret (Out.of (Res.one Z Z) hsB ⟨?_, Z⟩)
       refine vb ?_; first | (symm; exact word_len0 (by omega)) | (symm; exact word_first (by assumption) (by assumption)) | (symm; exact word_no (i := i) (by omega) (by assumption)) | (rw [word_eq (by rw [show s.size = i from by omega]; exact h0), Bool.eq_iff_iff]; simp; omega)
      ·try simp only [dcQ] at hc6
       refine GW.skip ?_
       refine GW.region ?_
       refine R.move ⟨Z,Z,Z,Z⟩ Z ?_
       refine R.add (r := ((i + 1 : Nat) : Int)) ⟨Z,Z,Z,Z⟩ Z Z (by rw [wrap64_id (by omega) (by omega)]; omega) ?_
       refine R.assign ⟨Z,Z,Z,Z⟩ Z ?_
       refine GOps.nil ?_
       exact ⟨i + 1, by omega, ⟨by omega, allTo_succ h0 (by assumption)⟩, rfl, keepG, by first | exact Hs.refl _ | exact Hs.tl _ | exact Hs.tl2 _ _⟩
    ·try simp only [dcQ] at hc4
     refine GW.exit ?_
     refine GW.seq ?_
     refine GW.region ?_
     refine R.assign ⟨Z,Z,Z,Z⟩ Z ?_
     refine GOps.nil ?_
     refine GW.ret (Out.of (Res.one Z Z) hsB ⟨?_, Z⟩)
     refine vb ?_; first | (symm; exact word_len0 (by omega)) | (symm; exact word_first (by assumption) (by assumption)) | (symm; exact word_no (i := i) (by omega) (by assumption)) | (rw [word_eq (by rw [show s.size = i from by omega]; exact h0), Bool.eq_iff_iff]; simp; omega)
end Go.Proofs.YtfddkcmooommeaaGreatDoor.Gl
end
section
namespace Go.Proofs.YtfddkcmooommeaaGreatDoor.Gl
open Go.RowKit Go.Shelf
set_option linter.unusedVariables false
set_option linter.unnecessarySimpa false
set_option linter.unusedSimpArgs false
theorem str_pos {s : ByteArray} (h : (s.toList == (ByteArray.mk #[]).toList) = false) : 0 < s.size := by
 rcases Nat.eq_zero_or_pos s.size with h0 | h0
 ·rw [toList_beq, size_zero.1 h0] at h
  cases h
 ·exact h0
theorem str_nil {s : ByteArray} (h : (s.toList == (ByteArray.mk #[]).toList) = true) : bs s = [] := by
 rw [toList_beq, beq_iff_eq] at h
 exact h
def mayR (r : Nat) : Bool := decide (r ≤ 1114111) && (decide (r < 55296) || decide (57343 < r))
def sizeR (r : Nat) : Nat := if r < 128 then 1 else if r < 2048 then 2 else if r < 65536 then 3 else 4
def isCont (c : Nat) : Bool := decide (128 ≤ c) && decide (c < 192)
def hdM (c : Nat) : Int := if c < 128 then 0 else if 194 ≤ c ∧ c < 224 then 1 else if 224 ≤ c ∧ c < 240 then 2 else if 240 ≤ c ∧ c < 245 then 3 else -1
def hdR (c : Nat) : Nat := if c < 128 then c else if 194 ≤ c ∧ c < 224 then c % 32 else if 224 ≤ c ∧ c < 240 then c % 16 else if 240 ≤ c ∧ c < 245 then c % 8 else 0
def accR (l : List Nat) (r : Nat) : Nat → Nat
 | 0 => r
 | i + 1 => accR l r i * 64 + l.getD (i + 1) 0 % 64
def getS (l : List Nat) : Option (Nat × Nat) :=
 let c := l.getD 0 0
 let m := (hdM c).toNat
 let r := accR l (hdR c) m
 if 0 ≤ hdM c ∧ m < l.length ∧ allTo (fun i => isCont (l.getD (i + 1) 0)) m = true ∧ mayR r = true ∧ sizeR r = m + 1 then some (r, m + 1) else none
def getV : Option (Nat × Nat) → Value
 | some (r, n) => .tuple #[.int .i64 (r : Int), .int .i64 (n : Int), .int .i64 0]
 | none => .tuple #[.int .i64 0, .int .i64 0, .int .i64 4]
theorem hdM_le (c : Nat) : hdM c ≤ 3 := by unfold hdM; (repeat' split) <;> omega
theorem hdR_le (c : Nat) : hdR c ≤ 127 := by unfold hdR; (repeat' split) <;> omega
theorem accR_bound (l : List Nat) (r : Nat) (hr : r ≤ 127) : ∀ i, i ≤ 3 → accR l r i < 33554432 := by
 have h1 : ∀ x : Nat, x % 64 < 64 := fun x => Nat.mod_lt _ (by omega)
 intro i hi
 have a1 := h1 (l.getD 1 0)
 have a2 := h1 (l.getD 2 0)
 have a3 := h1 (l.getD 3 0)
 rcases (by omega : i = 0 ∨ i = 1 ∨ i = 2 ∨ i = 3) with rfl | rfl | rfl | rfl <;> simp only [accR] <;> omega
theorem cont_iff (c : Nat) (hc : c < 256) : (Go.bits .and .u8 (c : Int) 192 = 128) ↔ isCont c = true := by
 have h : ∀ c : Fin 256, (Go.bits .and .u8 (c.val : Int) 192 = 128) ↔ isCont c.val = true := by decide +kernel
 exact h ⟨c, hc⟩
theorem or64 (x y : Nat) (hx : x < 33554432) (hy : y < 64) : Go.bits .or .i64 ((x : Int) * 64) (y : Int) = ((x * 64 + y : Nat) : Int) := by
 rw [bits_join .i64 63 (by decide) (fun n h0 h1 => wrap64_id (by omega) (by omega)) 6 _ _ (by omega) (by omega) (by omega) (by omega) (by omega) (by omega)]
 omega
theorem getS_nil : getS [] = none := by simp [getS]
theorem getS_head {l : List Nat} {c : Nat} (hc : l[0]? = some c) (h : hdM c < 0 ∨ (l.length : Int) ≤ hdM c) : getS l = none := by
 unfold getS
 simp only [getD_of hc]
 rw [if_neg]
 omega
theorem getS_cont {l : List Nat} {c i : Nat} (hc : l[0]? = some c) (hi : (i : Int) < hdM c) (h : isCont (l.getD (i + 1) 0) = false) : getS l = none := by
 unfold getS
 simp only [getD_of hc]
 rw [if_neg]
 rintro ⟨_, _, h1, _⟩
 rw [allTo_false (f := fun i => isCont (l.getD (i + 1) 0)) (i := i) (by omega) h] at h1
 cases h1
theorem getS_end {l : List Nat} {c m : Nat} (hc : l[0]? = some c) (h0 : hdM c = m) (hl : m < l.length) (h : allTo (fun i => isCont (l.getD (i + 1) 0)) m = true) :
  getS l = if mayR (accR l (hdR c) m) = true ∧ sizeR (accR l (hdR c) m) = m + 1 then some (accR l (hdR c) m, m + 1) else none := by
 unfold getS
 simp only [getD_of hc, h0, Int.toNat_natCast]
 by_cases hm : mayR (accR l (hdR c) m) = true ∧ sizeR (accR l (hdR c) m) = m + 1
 ·rw [if_pos hm, if_pos ⟨by omega, hl, h, hm⟩]
 ·rw [if_neg hm, if_neg fun hh => hm hh.2.2.2]
theorem utf_may (w0 : World) (G : Hp) (r : Nat) : GC Tryz.prog w0 152 #[.int .i64 (r : Int)] (fun v G' => v = .bool (mayR r) ∧ G = G') G := by
 refine GC.body (args := [.int .i64 (r : Int)]) Tryz.func152 rfl (by kernel_rfl) rfl ?_
 refine GW.seq ?_
 refine GW.region ?_
 refine R.assign ⟨Z,Z,Z,Z⟩ Z ?_
 refine GOps.nil ?_
 refine GW.seq ?_
 refine GW.region ?_
 refine R.move ⟨Z,Z,Z,Z⟩ Z ?_
 refine R.geq ⟨Z,Z,Z,Z⟩ Z Z ?_
 refine R.move ⟨Z,Z,Z,Z⟩ Z ?_
 refine GOps.caseB 5 Z (fun hg1 => ?_) (fun hg1 => ?_)
 ·try simp only [dcQ] at hg1
  refine R.move ⟨Z,Z,Z,Z⟩ Z ?_
  refine R.leq ⟨Z,Z,Z,Z⟩ Z Z ?_
  refine R.pick_t ⟨Z,Z,Z,Z⟩ Z Z ?_
  refine R.move ⟨Z,Z,Z,Z⟩ Z ?_
  refine GOps.caseB 9 Z (fun hg2 => ?_) (fun hg2 => ?_)
  ·try simp only [dcQ] at hg2
   refine R.move ⟨Z,Z,Z,Z⟩ Z ?_
   refine R.lss ⟨Z,Z,Z,Z⟩ Z Z ?_
   refine R.move ⟨Z,Z,Z,Z⟩ Z ?_
   refine GOps.caseB 12 Z (fun hg3 => ?_) (fun hg3 => ?_)
   ·try simp only [dcQ] at hg3
    refine GOps.skip Z Z Z ?_
    refine GOps.skip Z Z Z ?_
    refine R.pick_t ⟨Z,Z,Z,Z⟩ Z Z ?_
    refine R.pick_t ⟨Z,Z,Z,Z⟩ Z Z ?_
    refine R.assign ⟨Z,Z,Z,Z⟩ Z ?_
    refine GOps.nil ?_
    refine GW.ret (Out.of (Res.one Z Z) hsB ⟨?_, Z⟩)
    refine vb ?_; rw [Bool.eq_iff_iff]; simp [mayR] at *; try omega
   ·try simp only [dcQ] at hg3
    refine R.move ⟨Z,Z,Z,Z⟩ Z ?_
    refine R.gtr ⟨Z,Z,Z,Z⟩ Z Z ?_
    refine R.pick_f ⟨Z,Z,Z,Z⟩ Z Z ?_
    refine R.pick_t ⟨Z,Z,Z,Z⟩ Z Z ?_
    refine R.assign ⟨Z,Z,Z,Z⟩ Z ?_
    refine GOps.nil ?_
    refine GW.ret (Out.of (Res.one Z Z) hsB ⟨?_, Z⟩)
    refine vb ?_; rw [Bool.eq_iff_iff]; simp [mayR] at *; try omega
  ·try simp only [dcQ] at hg2
   refine GOps.skip Z Z Z ?_
   refine GOps.skip Z Z Z ?_
   refine GOps.skip Z Z Z ?_
   refine GOps.skip Z Z Z ?_
   refine GOps.skip Z Z Z ?_
   refine GOps.skip Z Z Z ?_
   refine R.pick_f ⟨Z,Z,Z,Z⟩ Z Z ?_
   refine R.assign ⟨Z,Z,Z,Z⟩ Z ?_
   refine GOps.nil ?_
   refine GW.ret (Out.of (Res.one Z Z) hsB ⟨?_, Z⟩)
   refine vb ?_; rw [Bool.eq_iff_iff]; simp [mayR] at *; try omega
 ·try simp only [dcQ] at hg1
  refine GOps.skip Z Z Z ?_
  refine GOps.skip Z Z Z ?_
  refine R.pick_f ⟨Z,Z,Z,Z⟩ Z Z ?_
  refine R.move ⟨Z,Z,Z,Z⟩ Z ?_
  refine GOps.skip Z Z Z ?_
  refine GOps.skip Z Z Z ?_
  refine GOps.skip Z Z Z ?_
  refine GOps.skip Z Z Z ?_
  refine GOps.skip Z Z Z ?_
  refine GOps.skip Z Z Z ?_
  refine R.pick_f ⟨Z,Z,Z,Z⟩ Z Z ?_
  refine R.assign ⟨Z,Z,Z,Z⟩ Z ?_
  refine GOps.nil ?_
  refine GW.ret (Out.of (Res.one Z Z) hsB ⟨?_, Z⟩)
  refine vb ?_; rw [Bool.eq_iff_iff]; simp [mayR] at *; try omega
theorem ref_May (w0 : World) (G : Hp) (r : Nat) : GC Tryz.prog w0 136 #[.int .i64 (r : Int)] (fun v G' => v = .bool (mayR r) ∧ G = G') G := by
 refine GC.body (args := [.int .i64 (r : Int)]) Tryz.func136 rfl (by kernel_rfl) rfl ?_
 refine GW.seq ?_
 refine GW.region ?_
 refine R.assign ⟨Z,Z,Z,Z⟩ Z ?_
 refine GOps.nil ?_
 refine GW.seq ?_
 refine GW.region ?_
 refine R.move ⟨Z,Z,Z,Z⟩ Z ?_
 refine R.geq ⟨Z,Z,Z,Z⟩ Z Z ?_
 refine R.move ⟨Z,Z,Z,Z⟩ Z ?_
 refine GOps.caseB 5 Z (fun hg1 => ?_) (fun hg1 => ?_)
 ·try simp only [dcQ] at hg1
  refine R.move ⟨Z,Z,Z,Z⟩ Z ?_
  refine R.leq ⟨Z,Z,Z,Z⟩ Z Z ?_
  refine R.pick_t ⟨Z,Z,Z,Z⟩ Z Z ?_
  refine R.move ⟨Z,Z,Z,Z⟩ Z ?_
  refine GOps.caseB 9 Z (fun hg2 => ?_) (fun hg2 => ?_)
  ·try simp only [dcQ] at hg2
   refine R.move ⟨Z,Z,Z,Z⟩ Z ?_
   refine R.lss ⟨Z,Z,Z,Z⟩ Z Z ?_
   refine R.move ⟨Z,Z,Z,Z⟩ Z ?_
   refine GOps.caseB 12 Z (fun hg3 => ?_) (fun hg3 => ?_)
   ·try simp only [dcQ] at hg3
    refine GOps.skip Z Z Z ?_
    refine GOps.skip Z Z Z ?_
    refine R.pick_t ⟨Z,Z,Z,Z⟩ Z Z ?_
    refine R.pick_t ⟨Z,Z,Z,Z⟩ Z Z ?_
    refine R.assign ⟨Z,Z,Z,Z⟩ Z ?_
    refine GOps.nil ?_
    refine GW.ret (Out.of (Res.one Z Z) hsB ⟨?_, Z⟩)
    refine vb ?_; rw [Bool.eq_iff_iff]; simp [mayR] at *; try omega
   ·try simp only [dcQ] at hg3
    refine R.move ⟨Z,Z,Z,Z⟩ Z ?_
    refine R.gtr ⟨Z,Z,Z,Z⟩ Z Z ?_
    refine R.pick_f ⟨Z,Z,Z,Z⟩ Z Z ?_
    refine R.pick_t ⟨Z,Z,Z,Z⟩ Z Z ?_
    refine R.assign ⟨Z,Z,Z,Z⟩ Z ?_
    refine GOps.nil ?_
    refine GW.ret (Out.of (Res.one Z Z) hsB ⟨?_, Z⟩)
    refine vb ?_; rw [Bool.eq_iff_iff]; simp [mayR] at *; try omega
  ·try simp only [dcQ] at hg2
   refine GOps.skip Z Z Z ?_
   refine GOps.skip Z Z Z ?_
   refine GOps.skip Z Z Z ?_
   refine GOps.skip Z Z Z ?_
   refine GOps.skip Z Z Z ?_
   refine GOps.skip Z Z Z ?_
   refine R.pick_f ⟨Z,Z,Z,Z⟩ Z Z ?_
   refine R.assign ⟨Z,Z,Z,Z⟩ Z ?_
   refine GOps.nil ?_
   refine GW.ret (Out.of (Res.one Z Z) hsB ⟨?_, Z⟩)
   refine vb ?_; rw [Bool.eq_iff_iff]; simp [mayR] at *; try omega
 ·try simp only [dcQ] at hg1
  refine GOps.skip Z Z Z ?_
  refine GOps.skip Z Z Z ?_
  refine R.pick_f ⟨Z,Z,Z,Z⟩ Z Z ?_
  refine R.move ⟨Z,Z,Z,Z⟩ Z ?_
  refine GOps.skip Z Z Z ?_
  refine GOps.skip Z Z Z ?_
  refine GOps.skip Z Z Z ?_
  refine GOps.skip Z Z Z ?_
  refine GOps.skip Z Z Z ?_
  refine GOps.skip Z Z Z ?_
  refine R.pick_f ⟨Z,Z,Z,Z⟩ Z Z ?_
  refine R.assign ⟨Z,Z,Z,Z⟩ Z ?_
  refine GOps.nil ?_
  refine GW.ret (Out.of (Res.one Z Z) hsB ⟨?_, Z⟩)
  refine vb ?_; rw [Bool.eq_iff_iff]; simp [mayR] at *; try omega
theorem utf_size (w0 : World) (G : Hp) (r : Nat) : GC Tryz.prog w0 139 #[.int .i64 (r : Int)] (fun v G' => v = .int .i64 (sizeR r : Nat) ∧ G = G') G := by
 refine GC.body (args := [.int .i64 (r : Int)]) Tryz.func139 rfl (by kernel_rfl) rfl ?_
 refine GW.seq ?_
 refine GW.region ?_
 refine R.assign ⟨Z,Z,Z,Z⟩ Z ?_
 refine GOps.nil ?_
 refine GW.seq ?_
 refine GW.block ?_
 refine GW.seq ?_
 refine GW.region ?_
 refine R.move ⟨Z,Z,Z,Z⟩ Z ?_
 refine R.lss ⟨Z,Z,Z,Z⟩ Z Z ?_
 refine R.assign ⟨Z,Z,Z,Z⟩ Z ?_
 refine GOps.nil ?_
 refine GW.ite Z (fun hc1 => ?_) (fun hc1 => ?_)
 ·try simp only [dcQ] at hc1
  refine GW.seq ?_
  refine GW.region ?_
  refine R.assign ⟨Z,Z,Z,Z⟩ Z ?_
  refine GOps.nil ?_
  refine GW.ret (Out.of (Res.one Z Z) hsB ⟨?_, Z⟩)
  unfold sizeR; repeat (first | rw [if_pos (by omega)] | rw [if_neg (by omega)]); try rfl
 ·try simp only [dcQ] at hc1
  refine GW.seq ?_
  refine GW.region ?_
  refine R.move ⟨Z,Z,Z,Z⟩ Z ?_
  refine R.lss ⟨Z,Z,Z,Z⟩ Z Z ?_
  refine R.assign ⟨Z,Z,Z,Z⟩ Z ?_
  refine GOps.nil ?_
  refine GW.ite Z (fun hc2 => ?_) (fun hc2 => ?_)
  ·try simp only [dcQ] at hc2
   refine GW.seq ?_
   refine GW.region ?_
   refine R.assign ⟨Z,Z,Z,Z⟩ Z ?_
   refine GOps.nil ?_
   refine GW.ret (Out.of (Res.one Z Z) hsB ⟨?_, Z⟩)
   unfold sizeR; repeat (first | rw [if_pos (by omega)] | rw [if_neg (by omega)]); try rfl
  ·try simp only [dcQ] at hc2
   refine GW.seq ?_
   refine GW.region ?_
   refine R.move ⟨Z,Z,Z,Z⟩ Z ?_
   refine R.lss ⟨Z,Z,Z,Z⟩ Z Z ?_
   refine R.assign ⟨Z,Z,Z,Z⟩ Z ?_
   refine GOps.nil ?_
   refine GW.ite Z (fun hc3 => ?_) (fun hc3 => ?_)
   ·try simp only [dcQ] at hc3
    refine GW.seq ?_
    refine GW.region ?_
    refine R.assign ⟨Z,Z,Z,Z⟩ Z ?_
    refine GOps.nil ?_
    refine GW.ret (Out.of (Res.one Z Z) hsB ⟨?_, Z⟩)
    unfold sizeR; repeat (first | rw [if_pos (by omega)] | rw [if_neg (by omega)]); try rfl
   ·try simp only [dcQ] at hc3
    refine GW.skip ?_
    refine GW.seq ?_
    refine GW.region ?_
    refine R.assign ⟨Z,Z,Z,Z⟩ Z ?_
    refine GOps.nil ?_
    refine GW.ret (Out.of (Res.one Z Z) hsB ⟨?_, Z⟩)
    unfold sizeR; repeat (first | rw [if_pos (by omega)] | rw [if_neg (by omega)]); try rfl
theorem utf_head (w0 : World) (G : Hp) (c : Nat) (hc : c < 256) : GC Tryz.prog w0 151 #[.int .u8 (c : Int)] (fun v G' => v = .tuple #[.int .i64 (hdR c : Nat), .int .i64 (hdM c)] ∧ G = G') G := by
 refine GC.body (args := [.int .u8 (c : Int)]) Tryz.func151 rfl (by kernel_rfl) rfl ?_
 refine GW.seq ?_
 refine GW.region ?_
 refine R.assign ⟨Z,Z,Z,Z⟩ Z ?_
 refine R.assign ⟨Z,Z,Z,Z⟩ Z ?_
 refine GOps.nil ?_
 refine GW.seq ?_
 refine GW.block ?_
 refine GW.seq ?_
 refine GW.region ?_
 refine R.move ⟨Z,Z,Z,Z⟩ Z ?_
 refine R.lss ⟨Z,Z,Z,Z⟩ Z Z ?_
 refine R.assign ⟨Z,Z,Z,Z⟩ Z ?_
 refine GOps.nil ?_
 refine GW.ite Z (fun hc1 => ?_) (fun hc1 => ?_)
 ·try simp only [dcQ] at hc1
  refine GW.seq ?_
  refine GW.region ?_
  refine R.move ⟨Z,Z,Z,Z⟩ Z ?_
  refine R.conv ⟨Z,Z,Z,Z⟩ Z Tryz.underlying5 Tryz.underlying3 (wrap64_id (by omega) (by omega)) ?_
  refine R.assign ⟨Z,Z,Z,Z⟩ Z ?_
  refine R.assign ⟨Z,Z,Z,Z⟩ Z ?_
  refine GOps.nil ?_
  refine GW.ret (Out.of (Res.two Z Z Z) hsB ⟨?_, Z⟩)
  first | (exfalso; omega) | skip; unfold hdR hdM; repeat (first | rw [if_pos (by omega)] | rw [if_neg (by omega)]); try rfl
 ·try simp only [dcQ] at hc1
  refine GW.seq ?_
  refine GW.region ?_
  refine R.move ⟨Z,Z,Z,Z⟩ Z ?_
  refine R.geq ⟨Z,Z,Z,Z⟩ Z Z ?_
  refine R.move ⟨Z,Z,Z,Z⟩ Z ?_
  refine GOps.caseB 12 Z (fun hg2 => ?_) (fun hg2 => ?_)
  ·try simp only [dcQ] at hg2
   refine R.move ⟨Z,Z,Z,Z⟩ Z ?_
   refine R.lss ⟨Z,Z,Z,Z⟩ Z Z ?_
   refine R.pick_t ⟨Z,Z,Z,Z⟩ Z Z ?_
   refine R.assign ⟨Z,Z,Z,Z⟩ Z ?_
   refine GOps.nil ?_
   refine GW.ite Z (fun hc3 => ?_) (fun hc3 => ?_)
   ·try simp only [dcQ] at hc3
    refine GW.seq ?_
    refine GW.region ?_
    refine R.move ⟨Z,Z,Z,Z⟩ Z ?_
    refine R.and (r := (c : Int) % 32) ⟨Z,Z,Z,Z⟩ Z Z (u8_and31 _ (by omega) (by omega)) ?_
    refine R.conv ⟨Z,Z,Z,Z⟩ Z Tryz.underlying5 Tryz.underlying3 (wrap64_id (by omega) (by omega)) ?_
    refine R.assign ⟨Z,Z,Z,Z⟩ Z ?_
    refine R.assign ⟨Z,Z,Z,Z⟩ Z ?_
    refine GOps.nil ?_
    refine GW.ret (Out.of (Res.two Z Z Z) hsB ⟨?_, Z⟩)
    first | (exfalso; omega) | skip; unfold hdR hdM; repeat (first | rw [if_pos (by omega)] | rw [if_neg (by omega)]); try rfl
   ·try simp only [dcQ] at hc3
    refine GW.seq ?_
    refine GW.region ?_
    refine R.move ⟨Z,Z,Z,Z⟩ Z ?_
    refine R.geq ⟨Z,Z,Z,Z⟩ Z Z ?_
    refine R.move ⟨Z,Z,Z,Z⟩ Z ?_
    refine GOps.caseB 22 Z (fun hg4 => ?_) (fun hg4 => ?_)
    ·try simp only [dcQ] at hg4
     refine R.move ⟨Z,Z,Z,Z⟩ Z ?_
     refine R.lss ⟨Z,Z,Z,Z⟩ Z Z ?_
     refine R.pick_t ⟨Z,Z,Z,Z⟩ Z Z ?_
     refine R.assign ⟨Z,Z,Z,Z⟩ Z ?_
     refine GOps.nil ?_
     refine GW.ite Z (fun hc5 => ?_) (fun hc5 => ?_)
     ·try simp only [dcQ] at hc5
      refine GW.seq ?_
      refine GW.region ?_
      refine R.move ⟨Z,Z,Z,Z⟩ Z ?_
      refine R.and (r := (c : Int) % 16) ⟨Z,Z,Z,Z⟩ Z Z (u8_and15 _ (by omega) (by omega)) ?_
      refine R.conv ⟨Z,Z,Z,Z⟩ Z Tryz.underlying5 Tryz.underlying3 (wrap64_id (by omega) (by omega)) ?_
      refine R.assign ⟨Z,Z,Z,Z⟩ Z ?_
      refine R.assign ⟨Z,Z,Z,Z⟩ Z ?_
      refine GOps.nil ?_
      refine GW.ret (Out.of (Res.two Z Z Z) hsB ⟨?_, Z⟩)
      first | (exfalso; omega) | skip; unfold hdR hdM; repeat (first | rw [if_pos (by omega)] | rw [if_neg (by omega)]); try rfl
     ·try simp only [dcQ] at hc5
      refine GW.seq ?_
      refine GW.region ?_
      refine R.move ⟨Z,Z,Z,Z⟩ Z ?_
      refine R.geq ⟨Z,Z,Z,Z⟩ Z Z ?_
      refine R.move ⟨Z,Z,Z,Z⟩ Z ?_
      refine GOps.caseB 32 Z (fun hg6 => ?_) (fun hg6 => ?_)
      ·try simp only [dcQ] at hg6
       refine R.move ⟨Z,Z,Z,Z⟩ Z ?_
       refine R.lss ⟨Z,Z,Z,Z⟩ Z Z ?_
       refine R.pick_t ⟨Z,Z,Z,Z⟩ Z Z ?_
       refine R.assign ⟨Z,Z,Z,Z⟩ Z ?_
       refine GOps.nil ?_
       refine GW.ite Z (fun hc7 => ?_) (fun hc7 => ?_)
       ·try simp only [dcQ] at hc7
        refine GW.seq ?_
        refine GW.region ?_
        refine R.move ⟨Z,Z,Z,Z⟩ Z ?_
        refine R.and (r := (c : Int) % 8) ⟨Z,Z,Z,Z⟩ Z Z (u8_and7 _ (by omega) (by omega)) ?_
        refine R.conv ⟨Z,Z,Z,Z⟩ Z Tryz.underlying5 Tryz.underlying3 (wrap64_id (by omega) (by omega)) ?_
        refine R.assign ⟨Z,Z,Z,Z⟩ Z ?_
        refine R.assign ⟨Z,Z,Z,Z⟩ Z ?_
        refine GOps.nil ?_
        refine GW.ret (Out.of (Res.two Z Z Z) hsB ⟨?_, Z⟩)
        first | (exfalso; omega) | skip; unfold hdR hdM; repeat (first | rw [if_pos (by omega)] | rw [if_neg (by omega)]); try rfl
       ·try simp only [dcQ] at hc7
        refine GW.skip ?_
        refine GW.seq ?_
        refine GW.region ?_
        refine R.assign ⟨Z,Z,Z,Z⟩ Z ?_
        refine R.assign ⟨Z,Z,Z,Z⟩ Z ?_
        refine GOps.nil ?_
        refine GW.ret (Out.of (Res.two Z Z Z) hsB ⟨?_, Z⟩)
        first | (exfalso; omega) | skip; unfold hdR hdM; repeat (first | rw [if_pos (by omega)] | rw [if_neg (by omega)]); try rfl
      ·try simp only [dcQ] at hg6
       refine GOps.skip Z Z Z ?_
       refine GOps.skip Z Z Z ?_
       refine R.pick_f ⟨Z,Z,Z,Z⟩ Z Z ?_
       refine R.assign ⟨Z,Z,Z,Z⟩ Z ?_
       refine GOps.nil ?_
       refine GW.cond_f Z ?_
       refine GW.skip ?_
       refine GW.seq ?_
       refine GW.region ?_
       refine R.assign ⟨Z,Z,Z,Z⟩ Z ?_
       refine R.assign ⟨Z,Z,Z,Z⟩ Z ?_
       refine GOps.nil ?_
       refine GW.ret (Out.of (Res.two Z Z Z) hsB ⟨?_, Z⟩)
       first | (exfalso; omega) | skip; unfold hdR hdM; repeat (first | rw [if_pos (by omega)] | rw [if_neg (by omega)]); try rfl
    ·try simp only [dcQ] at hg4
     refine GOps.skip Z Z Z ?_
     refine GOps.skip Z Z Z ?_
     refine R.pick_f ⟨Z,Z,Z,Z⟩ Z Z ?_
     refine R.assign ⟨Z,Z,Z,Z⟩ Z ?_
     refine GOps.nil ?_
     refine GW.cond_f Z ?_
     refine GW.seq ?_
     refine GW.region ?_
     refine R.move ⟨Z,Z,Z,Z⟩ Z ?_
     refine R.geq ⟨Z,Z,Z,Z⟩ Z Z ?_
     refine R.move ⟨Z,Z,Z,Z⟩ Z ?_
     refine GOps.caseB 32 Z (fun hg8 => ?_) (fun hg8 => ?_)
     ·try simp only [dcQ] at hg8
      refine R.move ⟨Z,Z,Z,Z⟩ Z ?_
      refine R.lss ⟨Z,Z,Z,Z⟩ Z Z ?_
      refine R.pick_t ⟨Z,Z,Z,Z⟩ Z Z ?_
      refine R.assign ⟨Z,Z,Z,Z⟩ Z ?_
      refine GOps.nil ?_
      refine GW.ite Z (fun hc9 => ?_) (fun hc9 => ?_)
      ·try simp only [dcQ] at hc9
       refine GW.seq ?_
       refine GW.region ?_
       refine R.move ⟨Z,Z,Z,Z⟩ Z ?_
       refine R.and (r := (c : Int) % 8) ⟨Z,Z,Z,Z⟩ Z Z (u8_and7 _ (by omega) (by omega)) ?_
       refine R.conv ⟨Z,Z,Z,Z⟩ Z Tryz.underlying5 Tryz.underlying3 (wrap64_id (by omega) (by omega)) ?_
       refine R.assign ⟨Z,Z,Z,Z⟩ Z ?_
       refine R.assign ⟨Z,Z,Z,Z⟩ Z ?_
       refine GOps.nil ?_
       refine GW.ret (Out.of (Res.two Z Z Z) hsB ⟨?_, Z⟩)
       first | (exfalso; omega) | skip; unfold hdR hdM; repeat (first | rw [if_pos (by omega)] | rw [if_neg (by omega)]); try rfl
      ·try simp only [dcQ] at hc9
       refine GW.skip ?_
       refine GW.seq ?_
       refine GW.region ?_
       refine R.assign ⟨Z,Z,Z,Z⟩ Z ?_
       refine R.assign ⟨Z,Z,Z,Z⟩ Z ?_
       refine GOps.nil ?_
       refine GW.ret (Out.of (Res.two Z Z Z) hsB ⟨?_, Z⟩)
       first | (exfalso; omega) | skip; unfold hdR hdM; repeat (first | rw [if_pos (by omega)] | rw [if_neg (by omega)]); try rfl
     ·try simp only [dcQ] at hg8
      refine GOps.skip Z Z Z ?_
      refine GOps.skip Z Z Z ?_
      refine R.pick_f ⟨Z,Z,Z,Z⟩ Z Z ?_
      refine R.assign ⟨Z,Z,Z,Z⟩ Z ?_
      refine GOps.nil ?_
      refine GW.cond_f Z ?_
      refine GW.skip ?_
      refine GW.seq ?_
      refine GW.region ?_
      refine R.assign ⟨Z,Z,Z,Z⟩ Z ?_
      refine R.assign ⟨Z,Z,Z,Z⟩ Z ?_
      refine GOps.nil ?_
      refine GW.ret (Out.of (Res.two Z Z Z) hsB ⟨?_, Z⟩)
      first | (exfalso; omega) | skip; unfold hdR hdM; repeat (first | rw [if_pos (by omega)] | rw [if_neg (by omega)]); try rfl
  ·try simp only [dcQ] at hg2
   refine GOps.skip Z Z Z ?_
   refine GOps.skip Z Z Z ?_
   refine R.pick_f ⟨Z,Z,Z,Z⟩ Z Z ?_
   refine R.assign ⟨Z,Z,Z,Z⟩ Z ?_
   refine GOps.nil ?_
   refine GW.cond_f Z ?_
   refine GW.seq ?_
   refine GW.region ?_
   refine R.move ⟨Z,Z,Z,Z⟩ Z ?_
   refine R.geq ⟨Z,Z,Z,Z⟩ Z Z ?_
   refine R.move ⟨Z,Z,Z,Z⟩ Z ?_
   refine GOps.caseB 22 Z (fun hg10 => ?_) (fun hg10 => ?_)
   ·try simp only [dcQ] at hg10
    refine R.move ⟨Z,Z,Z,Z⟩ Z ?_
    refine R.lss ⟨Z,Z,Z,Z⟩ Z Z ?_
    refine R.pick_t ⟨Z,Z,Z,Z⟩ Z Z ?_
    refine R.assign ⟨Z,Z,Z,Z⟩ Z ?_
    refine GOps.nil ?_
    refine GW.ite Z (fun hc11 => ?_) (fun hc11 => ?_)
    ·try simp only [dcQ] at hc11
     refine GW.seq ?_
     refine GW.region ?_
     refine R.move ⟨Z,Z,Z,Z⟩ Z ?_
     refine R.and (r := (c : Int) % 16) ⟨Z,Z,Z,Z⟩ Z Z (u8_and15 _ (by omega) (by omega)) ?_
     refine R.conv ⟨Z,Z,Z,Z⟩ Z Tryz.underlying5 Tryz.underlying3 (wrap64_id (by omega) (by omega)) ?_
     refine R.assign ⟨Z,Z,Z,Z⟩ Z ?_
     refine R.assign ⟨Z,Z,Z,Z⟩ Z ?_
     refine GOps.nil ?_
     refine GW.ret (Out.of (Res.two Z Z Z) hsB ⟨?_, Z⟩)
     first | (exfalso; omega) | skip; unfold hdR hdM; repeat (first | rw [if_pos (by omega)] | rw [if_neg (by omega)]); try rfl
    ·try simp only [dcQ] at hc11
     refine GW.seq ?_
     refine GW.region ?_
     refine R.move ⟨Z,Z,Z,Z⟩ Z ?_
     refine R.geq ⟨Z,Z,Z,Z⟩ Z Z ?_
     refine R.move ⟨Z,Z,Z,Z⟩ Z ?_
     refine GOps.caseB 32 Z (fun hg12 => ?_) (fun hg12 => ?_)
     ·try simp only [dcQ] at hg12
      refine R.move ⟨Z,Z,Z,Z⟩ Z ?_
      refine R.lss ⟨Z,Z,Z,Z⟩ Z Z ?_
      refine R.pick_t ⟨Z,Z,Z,Z⟩ Z Z ?_
      refine R.assign ⟨Z,Z,Z,Z⟩ Z ?_
      refine GOps.nil ?_
      refine GW.ite Z (fun hc13 => ?_) (fun hc13 => ?_)
      ·try simp only [dcQ] at hc13
       refine GW.seq ?_
       refine GW.region ?_
       refine R.move ⟨Z,Z,Z,Z⟩ Z ?_
       refine R.and (r := (c : Int) % 8) ⟨Z,Z,Z,Z⟩ Z Z (u8_and7 _ (by omega) (by omega)) ?_
       refine R.conv ⟨Z,Z,Z,Z⟩ Z Tryz.underlying5 Tryz.underlying3 (wrap64_id (by omega) (by omega)) ?_
       refine R.assign ⟨Z,Z,Z,Z⟩ Z ?_
       refine R.assign ⟨Z,Z,Z,Z⟩ Z ?_
       refine GOps.nil ?_
       refine GW.ret (Out.of (Res.two Z Z Z) hsB ⟨?_, Z⟩)
       first | (exfalso; omega) | skip; unfold hdR hdM; repeat (first | rw [if_pos (by omega)] | rw [if_neg (by omega)]); try rfl
      ·try simp only [dcQ] at hc13
       refine GW.skip ?_
       refine GW.seq ?_
       refine GW.region ?_
       refine R.assign ⟨Z,Z,Z,Z⟩ Z ?_
       refine R.assign ⟨Z,Z,Z,Z⟩ Z ?_
       refine GOps.nil ?_
       refine GW.ret (Out.of (Res.two Z Z Z) hsB ⟨?_, Z⟩)
       first | (exfalso; omega) | skip; unfold hdR hdM; repeat (first | rw [if_pos (by omega)] | rw [if_neg (by omega)]); try rfl
     ·try simp only [dcQ] at hg12
      refine GOps.skip Z Z Z ?_
      refine GOps.skip Z Z Z ?_
      refine R.pick_f ⟨Z,Z,Z,Z⟩ Z Z ?_
      refine R.assign ⟨Z,Z,Z,Z⟩ Z ?_
      refine GOps.nil ?_
      refine GW.cond_f Z ?_
      refine GW.skip ?_
      refine GW.seq ?_
      refine GW.region ?_
      refine R.assign ⟨Z,Z,Z,Z⟩ Z ?_
      refine R.assign ⟨Z,Z,Z,Z⟩ Z ?_
      refine GOps.nil ?_
      refine GW.ret (Out.of (Res.two Z Z Z) hsB ⟨?_, Z⟩)
      first | (exfalso; omega) | skip; unfold hdR hdM; repeat (first | rw [if_pos (by omega)] | rw [if_neg (by omega)]); try rfl
   ·try simp only [dcQ] at hg10
    refine GOps.skip Z Z Z ?_
    refine GOps.skip Z Z Z ?_
    refine R.pick_f ⟨Z,Z,Z,Z⟩ Z Z ?_
    refine R.assign ⟨Z,Z,Z,Z⟩ Z ?_
    refine GOps.nil ?_
    refine GW.cond_f Z ?_
    refine GW.seq ?_
    refine GW.region ?_
    refine R.move ⟨Z,Z,Z,Z⟩ Z ?_
    refine R.geq ⟨Z,Z,Z,Z⟩ Z Z ?_
    refine R.move ⟨Z,Z,Z,Z⟩ Z ?_
    refine GOps.caseB 32 Z (fun hg14 => ?_) (fun hg14 => ?_)
    ·try simp only [dcQ] at hg14
     refine R.move ⟨Z,Z,Z,Z⟩ Z ?_
     refine R.lss ⟨Z,Z,Z,Z⟩ Z Z ?_
     refine R.pick_t ⟨Z,Z,Z,Z⟩ Z Z ?_
     refine R.assign ⟨Z,Z,Z,Z⟩ Z ?_
     refine GOps.nil ?_
     refine GW.ite Z (fun hc15 => ?_) (fun hc15 => ?_)
     ·try simp only [dcQ] at hc15
      refine GW.seq ?_
      refine GW.region ?_
      refine R.move ⟨Z,Z,Z,Z⟩ Z ?_
      refine R.and (r := (c : Int) % 8) ⟨Z,Z,Z,Z⟩ Z Z (u8_and7 _ (by omega) (by omega)) ?_
      refine R.conv ⟨Z,Z,Z,Z⟩ Z Tryz.underlying5 Tryz.underlying3 (wrap64_id (by omega) (by omega)) ?_
      refine R.assign ⟨Z,Z,Z,Z⟩ Z ?_
      refine R.assign ⟨Z,Z,Z,Z⟩ Z ?_
      refine GOps.nil ?_
      refine GW.ret (Out.of (Res.two Z Z Z) hsB ⟨?_, Z⟩)
      first | (exfalso; omega) | skip; unfold hdR hdM; repeat (first | rw [if_pos (by omega)] | rw [if_neg (by omega)]); try rfl
     ·try simp only [dcQ] at hc15
      refine GW.skip ?_
      refine GW.seq ?_
      refine GW.region ?_
      refine R.assign ⟨Z,Z,Z,Z⟩ Z ?_
      refine R.assign ⟨Z,Z,Z,Z⟩ Z ?_
      refine GOps.nil ?_
      refine GW.ret (Out.of (Res.two Z Z Z) hsB ⟨?_, Z⟩)
      first | (exfalso; omega) | skip; unfold hdR hdM; repeat (first | rw [if_pos (by omega)] | rw [if_neg (by omega)]); try rfl
    ·try simp only [dcQ] at hg14
     refine GOps.skip Z Z Z ?_
     refine GOps.skip Z Z Z ?_
     refine R.pick_f ⟨Z,Z,Z,Z⟩ Z Z ?_
     refine R.assign ⟨Z,Z,Z,Z⟩ Z ?_
     refine GOps.nil ?_
     refine GW.cond_f Z ?_
     refine GW.skip ?_
     refine GW.seq ?_
     refine GW.region ?_
     refine R.assign ⟨Z,Z,Z,Z⟩ Z ?_
     refine R.assign ⟨Z,Z,Z,Z⟩ Z ?_
     refine GOps.nil ?_
     refine GW.ret (Out.of (Res.two Z Z Z) hsB ⟨?_, Z⟩)
     first | (exfalso; omega) | skip; unfold hdR hdM; repeat (first | rw [if_pos (by omega)] | rw [if_neg (by omega)]); try rfl
theorem utf_Get (w0 : World) (G : Hp) (s : ByteArray) (hm : s.size ≤ 9223372036854775807) : GC Tryz.prog w0 141 #[.string s] (fun v G' => v = getV (getS (bs s)) ∧ G = G') G := by
 refine GC.body (args := [.string s]) Tryz.func141 rfl (by kernel_rfl) rfl ?_
 refine GW.seq ?_
 refine GW.region ?_
 refine R.assign ⟨Z,Z,Z,Z⟩ Z ?_
 refine R.assign ⟨Z,Z,Z,Z⟩ Z ?_
 refine R.assign ⟨Z,Z,Z,Z⟩ Z ?_
 refine GOps.nil ?_
 refine GW.scope 0 (fun fr ds G' => ds = [] ∧ (getS (bs s) = none ∧ Hs G' G)) (by rfl) ?_ ?_
 ·refine GW.seq ?_
  refine GW.region ?_
  refine R.assign ⟨Z,Z,Z,Z⟩ Z ?_
  refine R.assign ⟨Z,Z,Z,Z⟩ Z ?_
  refine GOps.nil ?_
  refine GW.seq ?_
  refine GW.seq ?_
  refine GW.region ?_
  refine R.move ⟨Z,Z,Z,Z⟩ Z ?_
  refine R.neS ⟨Z,Z,Z,Z⟩ Z Z ?_
  refine GOps.nil ?_
  refine GW.ite Z (fun hc1 => ?_) (fun hc1 => ?_)
  ·try simp only [dcQ] at hc1
   have hpos : 0 < s.size := str_pos hc1
   refine GW.region ?_
   refine R.move ⟨Z,Z,Z,Z⟩ Z ?_
   refine R.indexStrA ⟨Z,Z,Z,Z⟩ Z Z Tryz.underlying9 (by omega) (by omega) fun c1 hx1 hb1 => ?_   -- "utf.go:68" ['t11', '0']
   refine R.call ⟨Z,Z,Z,Z⟩ Z (vs := [_]) Z ((utf_head _ _ _ (by assumption)).mono ?_)
   rintro _ _ ⟨rfl, rfl⟩
   refine R.move ⟨Z,Z,Z,Z⟩ Z ?_
   refine R.extract ⟨Z,Z,Z,Z⟩ Z Z ?_
   refine R.extract ⟨Z,Z,Z,Z⟩ Z Z ?_
   refine R.assign ⟨Z,Z,Z,Z⟩ Z ?_
   refine R.assign ⟨Z,Z,Z,Z⟩ Z ?_
   refine GOps.nil ?_
   refine GW.seq ?_
   refine GW.seq ?_
   refine GW.region ?_
   refine R.move ⟨Z,Z,Z,Z⟩ Z ?_
   refine R.lss ⟨Z,Z,Z,Z⟩ Z Z ?_
   refine R.move ⟨Z,Z,Z,Z⟩ Z ?_
   refine GOps.caseB 18 Z (fun hg2 => ?_) (fun hg2 => ?_)
   ·try simp only [dcQ] at hg2
    refine GOps.skip Z Z Z ?_
    refine GOps.skip Z Z Z ?_
    refine GOps.skip Z Z Z ?_
    refine GOps.skip Z Z Z ?_
    refine R.pick_t ⟨Z,Z,Z,Z⟩ Z Z ?_
    refine GOps.nil ?_
    refine GW.cond_t Z ?_
    refine GW.goto ?_
    exact ⟨rfl, rfl, by first | exact getS_head hx1 (.inl (by omega)) | exact getS_head hx1 (.inr (by rw [bs_length]; omega)) | exact getS_cont hx1 (i := i) (by omega) (by rw [getD_of (i := i + 1) hx2, ← Bool.not_eq_true, ← cont_iff _ hb2]; assumption) | (rw [hs0]; exact getS_nil), Hs.refl _⟩
   ·try simp only [dcQ] at hg2
    refine R.move ⟨Z,Z,Z,Z⟩ Z ?_
    refine R.lenStr ⟨Z,Z,Z,Z⟩ Z Z Tryz.underlying9 ?_
    refine R.move ⟨Z,Z,Z,Z⟩ Z ?_
    refine R.leq ⟨Z,Z,Z,Z⟩ Z Z ?_
    refine R.pick_f ⟨Z,Z,Z,Z⟩ Z Z ?_
    refine GOps.nil ?_
    refine GW.ite Z (fun hc3 => ?_) (fun hc3 => ?_)
    ·try simp only [dcQ] at hc3
     refine GW.goto ?_
     exact ⟨rfl, rfl, by first | exact getS_head hx1 (.inl (by omega)) | exact getS_head hx1 (.inr (by rw [bs_length]; omega)) | exact getS_cont hx1 (i := i) (by omega) (by rw [getD_of (i := i + 1) hx2, ← Bool.not_eq_true, ← cont_iff _ hb2]; assumption) | (rw [hs0]; exact getS_nil), Hs.refl _⟩
    ·try simp only [dcQ] at hc3
     refine GW.skip ?_
     refine GW.seq ?_
     refine GW.seq ?_
     refine GW.region ?_
     refine R.move ⟨Z,Z,Z,Z⟩ Z ?_
     refine R.move ⟨Z,Z,Z,Z⟩ Z ?_
     refine GOps.nil ?_
     refine GW.block ?_
     refine GW.loopI (fun i : Nat => [(0, .string s), (5, .int .i64 (accR (bs s) (hdR c1) i : Nat)), (6, .int .i64 (hdM c1)), (24, .int .i64 (hdM c1)), (25, .int .i64 i)]) (fun i => G) (fun i => (hdM c1).toNat - i) (fun i => (i : Int) ≤ hdM c1 ∧ allTo (fun i => isCont ((bs s).getD (i + 1) 0)) i = true) 0
      (keepG) (Hs.refl _) (⟨by omega, rfl⟩) ?_
     rintro i ⟨hi, h0⟩
     refine GW.seq ?_
     refine GW.region ?_
     refine R.lss ⟨Z,Z,Z,Z⟩ Z Z ?_
     refine GOps.nil ?_
     refine GW.seq ?_
     refine GW.ite Z (fun hc4 => ?_) (fun hc4 => ?_)
     ·try simp only [dcQ] at hc4
      refine GW.skip ?_
      refine GW.seq ?_
      refine GW.block ?_
      refine GW.seq ?_
      refine GW.region ?_
      refine R.move ⟨Z,Z,Z,Z⟩ Z ?_
      refine R.assign ⟨Z,Z,Z,Z⟩ Z ?_
      refine GOps.nil ?_
      refine GW.seq ?_
      refine GW.seq ?_
      refine GW.region ?_
      refine R.move ⟨Z,Z,Z,Z⟩ Z ?_
      refine R.move ⟨Z,Z,Z,Z⟩ Z ?_
      refine R.add (r := ((i + 1 : Nat) : Int)) ⟨Z,Z,Z,Z⟩ Z Z (by rw [wrap64_id (by omega) (by omega)]; omega) ?_
      refine R.indexStrA ⟨Z,Z,Z,Z⟩ Z Z Tryz.underlying9 (by omega) (by omega) fun c2 hx2 hb2 => ?_   -- "utf.go:74" ['t28', 't30']
      refine R.and ⟨Z,Z,Z,Z⟩ Z Z (Z) ?_
      refine R.neI ⟨Z,Z,Z,Z⟩ Z Z ?_
      refine GOps.nil ?_
      refine GW.ite Z (fun hc5 => ?_) (fun hc5 => ?_)
      ·try simp only [dcQ] at hc5
       refine GW.goto ?_
       exact ⟨rfl, rfl, by first | exact getS_head hx1 (.inl (by omega)) | exact getS_head hx1 (.inr (by rw [bs_length]; omega)) | exact getS_cont hx1 (i := i) (by omega) (by rw [getD_of (i := i + 1) hx2, ← Bool.not_eq_true, ← cont_iff _ hb2]; assumption) | (rw [hs0]; exact getS_nil), Hs.refl _⟩
      ·try simp only [dcQ] at hc5
       refine GW.skip ?_
       refine GW.region ?_
       refine R.move ⟨Z,Z,Z,Z⟩ Z ?_
       refine R.shl (r := ((accR (bs s) (hdR c1) i : Nat) : Int) * 64) ⟨Z,Z,Z,Z⟩ Z Z (by omega) (by have := accR_bound (bs s) (hdR c1) (hdR_le c1) i (by have := hdM_le c1; omega); show IntKind.i64.wrap (_ * 64) = _; exact wrap64_id (by omega) (by omega)) ?_
       refine R.move ⟨Z,Z,Z,Z⟩ Z ?_
       refine R.move ⟨Z,Z,Z,Z⟩ Z ?_
       refine R.add (r := ((i + 1 : Nat) : Int)) ⟨Z,Z,Z,Z⟩ Z Z (by rw [wrap64_id (by omega) (by omega)]; omega) ?_
       refine R.indexStrA ⟨Z,Z,Z,Z⟩ Z Z Tryz.underlying9 (by omega) (by omega) fun c3 hx3 hb3 => ?_   -- "utf.go:77" ['t36', 't38']
       refine R.and ⟨Z,Z,Z,Z⟩ Z Z (u8_and63 _ (by omega) (by omega)) ?_
       refine R.conv (r := ((c3 % 64 : Nat) : Int)) ⟨Z,Z,Z,Z⟩ Z Tryz.underlying5 Tryz.underlying3 (by rw [wrap64_id (by omega) (by omega)]; omega) ?_
       refine R.or (r := ((accR (bs s) (hdR c1) (i + 1) : Nat) : Int)) ⟨Z,Z,Z,Z⟩ Z Z (by rw [or64 _ _ (accR_bound (bs s) (hdR c1) (hdR_le c1) i (by have := hdM_le c1; omega)) (Nat.mod_lt _ (by omega))]; simp only [accR]; rw [getD_of (i := i + 1) hx3]) ?_
       refine R.assign ⟨Z,Z,Z,Z⟩ Z ?_
       refine GOps.nil ?_
       refine GW.region ?_
       refine R.add (r := ((i + 1 : Nat) : Int)) ⟨Z,Z,Z,Z⟩ Z Z (by rw [wrap64_id (by omega) (by omega)]; omega) ?_
       refine R.move ⟨Z,Z,Z,Z⟩ Z ?_
       refine GOps.nil ?_
       exact ⟨i + 1, by omega, ⟨by omega, allTo_succ h0 (by show isCont ((bs s).getD (i + 1) 0) = true; rw [getD_of (i := i + 1) hx2]; exact (cont_iff _ hb2).1 (Classical.not_not.1 hc5))⟩, rfl, keepG, by first | exact Hs.refl _ | exact Hs.tl _ | exact Hs.tl2 _ _⟩
     ·try simp only [dcQ] at hc4
      refine GW.exit ?_
      refine GW.seq ?_
      refine GW.seq ?_
      refine GW.region ?_
      refine R.move ⟨Z,Z,Z,Z⟩ Z ?_
      refine R.call ⟨Z,Z,Z,Z⟩ Z (vs := [_]) Z ((utf_may _ _ _).mono ?_)
      rintro _ _ ⟨rfl, rfl⟩
      refine R.move ⟨Z,Z,Z,Z⟩ Z ?_
      refine GOps.caseB 46 Z (fun hg6 => ?_) (fun hg6 => ?_)
      ·try simp only [dcQ] at hg6
       refine R.move ⟨Z,Z,Z,Z⟩ Z ?_
       refine R.call ⟨Z,Z,Z,Z⟩ Z (vs := [_]) Z ((utf_size _ _ _).mono ?_)
       rintro _ _ ⟨rfl, rfl⟩
       refine R.move ⟨Z,Z,Z,Z⟩ Z ?_
       refine R.add (r := _) ⟨Z,Z,Z,Z⟩ Z Z (wrap64_id (by omega) (by omega)) ?_
       refine R.eqI ⟨Z,Z,Z,Z⟩ Z Z ?_
       refine R.pick_t ⟨Z,Z,Z,Z⟩ Z Z ?_
       refine GOps.nil ?_
       refine GW.ite Z (fun hc7 => ?_) (fun hc7 => ?_)
       ·try simp only [dcQ] at hc7
        refine GW.seq ?_
        refine GW.region ?_
        refine R.move ⟨Z,Z,Z,Z⟩ Z ?_
        refine R.move ⟨Z,Z,Z,Z⟩ Z ?_
        refine R.add (r := _) ⟨Z,Z,Z,Z⟩ Z Z (wrap64_id (by omega) (by omega)) ?_
        refine R.assign ⟨Z,Z,Z,Z⟩ Z ?_
        refine R.assign ⟨Z,Z,Z,Z⟩ Z ?_
        refine R.assign ⟨Z,Z,Z,Z⟩ Z ?_
        refine GOps.nil ?_
        refine GW.ret (Out.of (Res.three Z Z Z Z) hsB ⟨?_, Z⟩)
        first | (rw [hnone]; rfl) | (rw [getS_end hx1 (m := i) (by omega) (by rw [bs_length]; omega) h0, if_pos ⟨by assumption, by omega⟩]; rw [show hdM c1 = (i : Int) by omega]; rfl) | (rw [getS_end hx1 (m := i) (by omega) (by rw [bs_length]; omega) h0, if_neg (fun hh => by have h1 := hh.1; have h2 := hh.2; first | omega | simp_all)]; rfl)
       ·try simp only [dcQ] at hc7
        refine GW.skip ?_
        refine GW.seq ?_
        refine GW.label ?_
        refine GW.seq ?_
        refine GW.region ?_
        refine R.assign ⟨Z,Z,Z,Z⟩ Z ?_
        refine R.assign ⟨Z,Z,Z,Z⟩ Z ?_
        refine R.assign ⟨Z,Z,Z,Z⟩ Z ?_
        refine GOps.nil ?_
        refine GW.ret (Out.of (Res.three Z Z Z Z) hsB ⟨?_, Z⟩)
        first | (rw [hnone]; rfl) | (rw [getS_end hx1 (m := i) (by omega) (by rw [bs_length]; omega) h0, if_pos ⟨by assumption, by omega⟩]; rw [show hdM c1 = (i : Int) by omega]; rfl) | (rw [getS_end hx1 (m := i) (by omega) (by rw [bs_length]; omega) h0, if_neg (fun hh => by have h1 := hh.1; have h2 := hh.2; first | omega | simp_all)]; rfl)
      ·try simp only [dcQ] at hg6
       refine GOps.skip Z Z Z ?_
       refine GOps.skip Z Z Z ?_
       refine GOps.skip Z Z Z ?_
       refine GOps.skip Z Z Z ?_
       refine GOps.skip Z Z Z ?_
       refine R.pick_f ⟨Z,Z,Z,Z⟩ Z Z ?_
       refine GOps.nil ?_
       refine GW.cond_f Z ?_
       refine GW.skip ?_
       refine GW.seq ?_
       refine GW.label ?_
       refine GW.seq ?_
       refine GW.region ?_
       refine R.assign ⟨Z,Z,Z,Z⟩ Z ?_
       refine R.assign ⟨Z,Z,Z,Z⟩ Z ?_
       refine R.assign ⟨Z,Z,Z,Z⟩ Z ?_
       refine GOps.nil ?_
       refine GW.ret (Out.of (Res.three Z Z Z Z) hsB ⟨?_, Z⟩)
       first | (rw [hnone]; rfl) | (rw [getS_end hx1 (m := i) (by omega) (by rw [bs_length]; omega) h0, if_pos ⟨by assumption, by omega⟩]; rw [show hdM c1 = (i : Int) by omega]; rfl) | (rw [getS_end hx1 (m := i) (by omega) (by rw [bs_length]; omega) h0, if_neg (fun hh => by have h1 := hh.1; have h2 := hh.2; first | omega | simp_all)]; rfl)
  ·try simp only [dcQ] at hc1
   have hs0 : bs s = [] := str_nil hc1
   refine GW.skip ?_
   refine GW.seq ?_
   refine GW.seq ?_
   refine GW.region ?_
   refine R.move ⟨Z,Z,Z,Z⟩ Z ?_
   refine R.lss ⟨Z,Z,Z,Z⟩ Z Z ?_
   refine R.move ⟨Z,Z,Z,Z⟩ Z ?_
   refine GOps.skip Z Z Z ?_
   refine GOps.skip Z Z Z ?_
   refine GOps.skip Z Z Z ?_
   refine GOps.skip Z Z Z ?_
   refine R.pick_t ⟨Z,Z,Z,Z⟩ Z Z ?_
   refine GOps.nil ?_
   refine GW.cond_t Z ?_
   refine GW.goto ?_
   exact ⟨rfl, rfl, by first | exact getS_head hx1 (.inl (by omega)) | exact getS_head hx1 (.inr (by rw [bs_length]; omega)) | exact getS_cont hx1 (i := i) (by omega) (by rw [getD_of (i := i + 1) hx2, ← Bool.not_eq_true, ← cont_iff _ hb2]; assumption) | (rw [hs0]; exact getS_nil), Hs.refl _⟩
 ·rintro fr ds G1 ⟨rfl, hnone, hG⟩; refine GW.weak (Keeps.nil _) hG ?_
  refine GW.seq ?_
  refine GW.skip ?_
  refine GW.seq ?_
  refine GW.region ?_
  refine R.assign ⟨Z,Z,Z,Z⟩ Z ?_
  refine R.assign ⟨Z,Z,Z,Z⟩ Z ?_
  refine R.assign ⟨Z,Z,Z,Z⟩ Z ?_
  refine GOps.nil ?_
  refine GW.ret (Out.of (Res.three Z Z Z Z) hsB ⟨?_, Z⟩)
  first | (rw [hnone]; rfl) | (rw [getS_end hx1 (m := i) (by omega) (by rw [bs_length]; omega) h0, if_pos ⟨by assumption, by omega⟩]; rw [show hdM c1 = (i : Int) by omega]; rfl) | (rw [getS_end hx1 (m := i) (by omega) (by rw [bs_length]; omega) h0, if_neg (fun hh => by have h1 := hh.1; have h2 := hh.2; first | omega | simp_all)]; rfl)
end Go.Proofs.YtfddkcmooommeaaGreatDoor.Gl
end
