import Derived.RangeFuncLeaves
import Derived.OrdersIn
import Derived.TacticsIn
import Derived.WalkKit
import Derived.WalkSpells
namespace Go.Proofs.YtgjmandjhjfgkaaDoor.Gl
open Go.RowKit

/-! ### What is known of a block of the run's own -/
inductive Know
  | exact (o : Obj)
  | row (cs : List Value) (e : TypeId) (room : Nat)

def Know.holds : Know → Option Obj → Prop
  | .exact o, x => x = some o
  | .row cs e room, x => ∃ C : Array Value, x = some (.cells C e (0, 0)) ∧ C.size = room ∧ ∀ (j : Nat) v, cs[j]? = some v → C[j]? = some v

abbrev Hp := List (Nat × Know)

/-- No cell of it is frozen. -/
def coolO : Obj → Prop
  | .cells _ _ z => z = (0, 0)
  | _ => True
def coolK : Know → Prop
  | .exact o => coolO o
  | .row _ _ _ => True
theorem cool_of {k : Know} {o : Obj} (hk : coolK k) (h : k.holds (some o)) : coolO o := by
  cases k with
  | exact o' => simp only [Know.holds, Option.some.injEq] at h; subst h; exact hk
  | row cs e room => obtain ⟨C, hC, _⟩ := h; simp only [Option.some.injEq] at hC; subst hC; exact rfl

structure Sat (w0 : World) (G : Hp) (w : World) : Prop where
  below : Below w0.heap.size w0 w
  own : ∀ b k, (b, k) ∈ G → w0.heap.size ≤ b ∧ k.holds w.heap[b]?
  nodup : (G.map (·.1)).Nodup
  cool : ∀ b o, w0.heap.size ≤ b → w.heap[b]? = some o → coolO o

/-! ### The frame: what is known of the slots -/
def lk : List (Nat × Value) → Nat → Option Value
  | [], _ => none
  | (j, v) :: r, i => bif Nat.beq i j then some v else lk r i

structure FRep (nt : Nat) (fr : List (Nat × Value)) (ds : List Deferred) (a : Act) : Prop where
  size : a.tmps.size = nt
  look : ∀ i v, lk fr i = some v → a.tmps[i]? = some v
  defers : a.defers = ds

def evO (fr : List (Nat × Value)) : Operand → Option Value
  | .tmp t => lk fr t
  | .const v => some v
  | .global g => some (.pointer (some ⟨g, 0, none⟩))
  | .func f => some (.func (.func f) #[] #[])

theorem FRep.eval {nt : Nat} {fr : List (Nat × Value)} {ds : List Deferred} {a : Act} (h : FRep nt fr ds a) {x : Operand} {v : Value} (hx : evO fr x = some v) : a.eval x = v := by
  cases x with
  | tmp t => have := h.look t v hx; simp [Act.eval, Array.getD_eq_getD_getElem?, this]
  | const c => simpa [evO, Act.eval] using hx
  | global g => simpa [evO, Act.eval] using hx
  | func f => simpa [evO, Act.eval] using hx

theorem lk_cons (j : Nat) (v : Value) (r : List (Nat × Value)) (i : Nat) : lk ((j, v) :: r) i = if i = j then some v else lk r i := by
  simp only [lk]
  by_cases h : i = j
  · subst h; simp
  · have : Nat.beq i j = false := by rw [Bool.eq_false_iff]; intro e; exact h (Nat.eq_of_beq_eq_true e)
    simp [this, h]

theorem FRep.put {nt : Nat} {fr : List (Nat × Value)} {ds : List Deferred} {a : Act} (h : FRep nt fr ds a) {d : Nat} (hd : d < nt) (v : Value) : FRep nt ((d, v) :: fr) ds (a.put (some d) v) := by
  refine ⟨by simp [Act.put, h.size], fun i u hu => ?_, h.defers⟩
  rw [lk_cons] at hu
  simp only [Act.put, Array.getElem?_setIfInBounds, h.size]
  by_cases e : i = d
  · subst e; simp_all
  · rw [if_neg (by omega)]; simp only [if_neg e] at hu; exact h.look i u hu

/-- Only what is named is kept. -/
def Keeps (fr fr' : List (Nat × Value)) : Prop := ∀ i v, lk fr' i = some v → lk fr i = some v
theorem FRep.weak {nt : Nat} {fr fr' : List (Nat × Value)} {ds : List Deferred} {a : Act} (h : FRep nt fr ds a) (hk : Keeps fr fr') : FRep nt fr' ds a := ⟨h.size, fun i v hv => h.look i v (hk i v hv), h.defers⟩
theorem Keeps.refl (fr : List (Nat × Value)) : Keeps fr fr := fun _ _ h => h
theorem Keeps.nil (fr : List (Nat × Value)) : Keeps fr [] := fun _ _ h => by simp [lk] at h
theorem Keeps.cons {fr fr' : List (Nat × Value)} {j : Nat} {v : Value} (h : lk fr j = some v) (hk : Keeps fr fr') : Keeps fr ((j, v) :: fr') := by
  intro i u hu
  rw [lk_cons] at hu
  split at hu
  · rename_i e; subst e; exact h.trans hu
  · exact hk i u hu

/-! ### The world -/
section sat
variable {w0 : World} {G : Hp} {w : World}

theorem Know.some_of {k : Know} {x : Option Obj} (h : k.holds x) : ∃ o, x = some o := by
  cases k with
  | exact o => exact ⟨o, h⟩
  | row cs e room => obtain ⟨C, h, _⟩ := h; exact ⟨_, h⟩

theorem Sat.lt (h : Sat w0 G w) {b : Nat} {k : Know} (hm : (b, k) ∈ G) : b < w.heap.size := by
  obtain ⟨o, ho⟩ := Know.some_of (h.own b k hm).2
  exact (Array.getElem?_eq_some_iff.1 ho).1

theorem Sat.fresh (h : Sat w0 G w) : ∀ k, (w.heap.size, k) ∉ G := fun _ hm => Nat.lt_irrefl _ (h.lt hm)

theorem Sat.sub {G' : Hp} (h : Sat w0 G w) (hs : G'.Sublist G) : Sat w0 G' w :=
  ⟨h.below, fun b k hm => h.own b k (hs.subset hm), (hs.map _).nodup h.nodup, h.cool⟩

theorem Sat.perm {G' : Hp} (h : Sat w0 G w) (hs : G'.Perm G) : Sat w0 G' w :=
  ⟨h.below, fun b k hm => h.own b k (hs.subset hm), (hs.map _).nodup_iff.2 h.nodup, h.cool⟩

theorem Sat.drew (h : Sat w0 G w) : Sat w0 G w.drew := ⟨h.below.drew, h.own, h.nodup, h.cool⟩

theorem Sat.alloc (h : Sat w0 G w) (o : Obj) (ho : coolO o := by first | exact rfl | exact trivial) : Sat w0 ((w.heap.size, .exact o) :: G) (w.alloc o) := by
  refine ⟨h.below.alloc h.below.size o, fun b k hm => ?_, ?_, fun b o' hb hg => ?_⟩
  · rcases List.mem_cons.1 hm with e | hm
    · cases e
      exact ⟨h.below.size, by show (w.heap.push o)[w.heap.size]? = some o; simp⟩
    · have hlt := h.lt hm
      obtain ⟨h1, h2⟩ := h.own b k hm
      refine ⟨h1, ?_⟩
      rw [Below.heap_alloc w o b hlt]
      exact h2
  · simp only [List.map_cons, List.nodup_cons]
    refine ⟨fun hm => ?_, h.nodup⟩
    obtain ⟨⟨b, k⟩, hm, e⟩ := List.mem_map.1 hm
    simp only at e
    subst e
    exact h.fresh k hm
  · have hg' : (w.heap.push o)[b]? = some o' := hg
    rw [Array.getElem?_push] at hg'
    split at hg'
    · simp only [Option.some.injEq] at hg'; subst hg'; exact ho
    · exact h.cool b o' hb hg'

theorem Sat.weakKnow {G1 G2 : Hp} {b : Nat} {k k' : Know} (h : Sat w0 (G1 ++ (b, k) :: G2) w) (hk : ∀ x, k.holds x → k'.holds x) : Sat w0 (G1 ++ (b, k') :: G2) w := by
  refine ⟨h.below, fun b' k'' hm => ?_, by simpa using h.nodup, h.cool⟩
  rcases List.mem_append.1 hm with hm | hm
  · exact h.own _ _ (List.mem_append_left _ hm)
  · rcases List.mem_cons.1 hm with e | hm
    · cases e
      obtain ⟨h1, h2⟩ := h.own b k (List.mem_append_right _ List.mem_cons_self)
      exact ⟨h1, hk _ h2⟩
    · exact h.own _ _ (List.mem_append_right _ (List.mem_cons_of_mem _ hm))

/-- One block of the run's own has been turned. -/
theorem Sat.turn {w' : World} {G1 G2 : Hp} {b : Nat} {k k' : Know} (h : Sat w0 (G1 ++ (b, k) :: G2) w) (hos : w'.os = w.os) (htape : w'.tape = w.tape) (hout : w'.output = w.output)
    (hsize : w'.heap.size = w.heap.size) (hother : ∀ i, i ≠ b → w'.heap[i]? = w.heap[i]?) (hk : k'.holds w'.heap[b]?) (hcool : coolK k' := by first | exact rfl | exact trivial) : Sat w0 (G1 ++ (b, k') :: G2) w' := by
  obtain ⟨hb, _⟩ := h.own b k (List.mem_append_right _ List.mem_cons_self)
  have hnd := h.nodup
  simp only [List.map_append, List.map_cons, List.nodup_append, List.nodup_cons] at hnd
  refine ⟨h.below.trans ⟨hos, htape, hout, by omega, fun i hi => hother i (by omega)⟩, fun b' k'' hm => ?_, by simpa using h.nodup, fun b' o hb' hg => ?_⟩
  rotate_left
  · by_cases e : b' = b
    · subst e
      rw [hg] at hk
      exact cool_of hcool hk
    · rw [hother b' e] at hg
      exact h.cool b' o hb' hg
  rcases List.mem_append.1 hm with hm1 | hm1
  · obtain ⟨h1, h2⟩ := h.own _ _ (List.mem_append_left _ hm1)
    have hne : b' ≠ b := fun e => hnd.2.2 b' (List.mem_map.2 ⟨_, hm1, rfl⟩) b (by simp) e
    exact ⟨h1, by rw [hother b' hne]; exact h2⟩
  · rcases List.mem_cons.1 hm1 with e | hm2
    · cases e
      exact ⟨hb, hk⟩
    · obtain ⟨h1, h2⟩ := h.own _ _ (List.mem_append_right _ (List.mem_cons_of_mem _ hm2))
      have hne : b' ≠ b := fun e => hnd.2.1.1 (e ▸ List.mem_map.2 ⟨_, hm2, rfl⟩)
      exact ⟨h1, by rw [hother b' hne]; exact h2⟩
end sat

/-! ### Cells that are read -/
def Know.cell : Know → Nat → Option Value
  | .exact (.cells C _ _), o => C[o]?
  | .row cs _ _, o => cs[o]?
  | _, _ => none

/-- The cell at an address (of a block that lay when the run began, or of the run's own) is known. -/
inductive Rd (w0 : World) (G : Hp) : Nat → Nat → Value → Prop
  | old {b o : Nat} {v : Value} (h : w0.cell? ⟨b, o, none⟩ = some v) : Rd w0 G b o v
  | own {b o : Nat} {v : Value} {k : Know} (hm : (b, k) ∈ G) (h : k.cell o = some v) : Rd w0 G b o v

theorem Rd.cell {w0 w : World} {G : Hp} (hs : Sat w0 G w) {b o : Nat} {v : Value} (h : Rd w0 G b o v) : w.cell? ⟨b, o, none⟩ = some v := by
  cases h with
  | old h => exact (hs.below.cell (World.block_lt_of_cell? _ _ h)).trans h
  | own hm h =>
    rename_i k
    have hk := (hs.own b k hm).2
    cases k with
    | exact ob =>
      cases ob <;> simp only [Know.cell, reduceCtorEq] at h
      simp only [Know.holds] at hk
      simp [World.cell?, hk, h]
    | row cs e room =>
      obtain ⟨C, hC, _, hh⟩ := hk
      simp only [Know.cell] at h
      simp [World.cell?, hC, hh o v h]

def Rds (w0 : World) (G : Hp) (b o : Nat) (cs : List Value) : Prop := ∀ (j : Nat) v, cs[j]? = some v → Rd w0 G b (o + j) v

theorem add_none (b o j : Nat) : (⟨b, o, none⟩ : Addr).add j = ⟨b, o + j, none⟩ := by
  unfold Addr.add
  split
  · subst_vars; rfl
  · rfl

theorem Rds.load {w0 w : World} {G : Hp} {P : Program} (hs : Sat w0 G w) {b o : Nat} {cs : List Value} (h : Rds w0 G b o cs) : (loadCells ⟨b, o, none⟩ cs.length).run P w = .ok cs.toArray w :=
  run_loadCells_list w ⟨b, o, none⟩ cs (fun j v hv => by rw [add_none]; exact (h j v hv).cell hs)

/-! ### The logic -/
def Fw (r : Option Nat) : Fence := { fn := fun _ => True, depth := none, alive := false, round := r }

abbrev Fr := List (Nat × Value)
abbrev Post := Exit → Fr → List Deferred → Hp → Prop

structure Cx where
  P : Program
  w0 : World
  r : Option Nat
  nt : Nat

def Lands (X : Cx) (Q : Post) : Exit → Act → World → Prop := fun e a w => ∃ fr ds G, FRep X.nt fr ds a ∧ Sat X.w0 G w ∧ Q e fr ds G

def GW (X : Cx) (c : Code) (Q : Post) (fr : Fr) (ds : List Deferred) (G : Hp) : Prop :=
  ∀ n a w, FRep X.nt fr ds a → Sat X.w0 G w → c.wpIn (Fw X.r) n X.P (Lands X Q) a w

def GOps (X : Cx) (ops : Array Oper) (Q : Post) (l : List Oper) (fr : Fr) (ds : List Deferred) (G : Hp) : Prop :=
  ∀ n a w, FRep X.nt fr ds a → Sat X.w0 G w → wpListIn (Fw X.r) n X.P ops (Lands X Q) l a w

/-- One heap's knowledge gives another one's. -/
def Hs (G G' : Hp) : Prop := ∀ w0 w, Sat w0 G w → Sat w0 G' w
theorem Hs.refl (G : Hp) : Hs G G := fun _ _ h => h
theorem Hs.sub {G G' : Hp} (h : G'.Sublist G) : Hs G G' := fun _ _ hs => hs.sub h
theorem Hs.perm {G G' : Hp} (h : G'.Perm G) : Hs G G' := fun _ _ hs => hs.perm h
theorem Hs.trans {G G' G'' : Hp} (h : Hs G G') (h' : Hs G' G'') : Hs G G'' := fun _ _ hs => h' _ _ (h _ _ hs)

def Post.then (K : Fr → List Deferred → Hp → Prop) (Q : Post) : Post
  | .normal, fr, ds, G => K fr ds G
  | e, fr, ds, G => Q e fr ds G

def Post.inBlock (id : Nat) (Q : Post) : Post
  | .exit id', fr, ds, G => if id' = id then Q .normal fr ds G else Q (.exit id') fr ds G
  | e, fr, ds, G => Q e fr ds G

theorem wpListIn_mono' {F : Fence} {n : Nat} {P : Program} {ops : Array Oper} {Q Q' : Exit → Act → World → Prop} {l : List Oper} {a : Act} {w : World} (h : wpListIn F n P ops Q l a w) (hq : ∀ e a w, Q e a w → Q' e a w) : wpListIn F n P ops Q' l a w := by
  induction l generalizing a w with
  | nil => exact hq _ _ _ h
  | cons o l ih =>
    simp only [wpListIn] at h ⊢
    split
    · rename_i hw
      rw [if_pos hw] at h
      unfold Oper.wpIn at *
      refine ⟨h.1, ?_⟩
      have h := h.2
      generalize (o.semAt F.round a.eval).run P w = r at *
      cases r with
      | ok x w' =>
        cases x <;> simp only [Oper.uponIn] at h ⊢ <;>
          first
            | exact ih h
            | exact ⟨h.1, CallsIn.mono h.2 (fun e w'' he => by
                cases e with
                | returned v => exact ih he
                | panicked c => exact hq _ _ _ he
                | outgrown => exact ⟨he.choose, he.choose_spec.choose, hq _ _ _ he.choose_spec.choose_spec⟩)⟩
            | exact ⟨h.1, RowsIn.mono h.2 (fun _ _ he => ih he)⟩
            | exact ⟨h.1, RoundIn.mono h.2 (fun e w'' he => by
                cases e with
                | returned v => exact ih he
                | panicked c => exact hq _ _ _ he
                | outgrown => exact ⟨he.choose, he.choose_spec.choose, hq _ _ _ he.choose_spec.choose_spec⟩)⟩
      | halt x w' => cases x <;> simp only [Oper.uponIn] at h ⊢ <;> first | exact h.elim | exact hq _ _ _ h
    · rename_i hw
      rw [if_neg hw] at h
      exact ⟨h.1, ih h.2⟩

section rules
variable {X : Cx} {Q : Post} {fr fr' : Fr} {ds : List Deferred} {G G' : Hp} {x y c : Code}

theorem GW.weak (hk : Keeps fr fr') (hs : Hs G G') (h : GW X c Q fr' ds G') : GW X c Q fr ds G := fun n a w hf hw => h n a w (hf.weak hk) (hs _ _ hw)

theorem GW.mono {Q' : Post} (h : GW X c Q fr ds G) (hq : ∀ e fr ds G, Q e fr ds G → Q' e fr ds G) : GW X c Q' fr ds G :=
  fun n a w hf hw => wpIn_mono (h n a w hf hw) fun _ _ _ ⟨fr, ds, G, h1, h2, h3⟩ => ⟨fr, ds, G, h1, h2, hq _ _ _ _ h3⟩

theorem GW.skip (h : Q .normal fr ds G) : GW X .skip Q fr ds G := fun _ _ _ hf hw => wpIn_skip ⟨_, _, _, hf, hw, h⟩
theorem GW.label {l : Nat} (h : Q .normal fr ds G) : GW X (.label l) Q fr ds G := fun _ _ _ hf hw => wpIn_label ⟨_, _, _, hf, hw, h⟩
theorem GW.exit {id : Nat} (h : Q (.exit id) fr ds G) : GW X (.exit id) Q fr ds G := fun _ _ _ hf hw => wpIn_exit ⟨_, _, _, hf, hw, h⟩
theorem GW.goto {l : Nat} (h : Q (.goto l) fr ds G) : GW X (.goto l) Q fr ds G := fun _ _ _ hf hw => wpIn_goto ⟨_, _, _, hf, hw, h⟩
theorem GW.ret (h : Q .ret fr ds G) : GW X .ret Q fr ds G := fun _ _ _ hf hw => wpIn_ret ⟨_, _, _, hf, hw, h⟩

theorem GW.seq (h : GW X x (Post.then (GW X y Q) Q) fr ds G) : GW X (.seq x y) Q fr ds G := fun n a w hf hw =>
  wpIn_seq (wpIn_mono (h n a w hf hw) fun e a w ⟨fr, ds, G, h1, h2, h3⟩ => by
    cases e with
    | normal => exact h3 n a w h1 h2
    | _ => exact ⟨fr, ds, G, h1, h2, h3⟩)

theorem GW.cond {o : Operand} {t : Bool} (hc : evO fr o = some (.bool t)) (h : GW X (if t then x else y) Q fr ds G) : GW X (.cond o x y) Q fr ds G := fun n a w hf hw =>
  wpIn_cond (hf.eval hc) (h n a w hf hw)
theorem GW.cond_t {o : Operand} (hc : evO fr o = some (.bool true)) (h : GW X x Q fr ds G) : GW X (.cond o x y) Q fr ds G := GW.cond hc h
theorem GW.cond_f {o : Operand} (hc : evO fr o = some (.bool false)) (h : GW X y Q fr ds G) : GW X (.cond o x y) Q fr ds G := GW.cond hc h
theorem GW.ite {o : Operand} {t : Bool} (hc : evO fr o = some (.bool t)) (h1 : t = true → GW X x Q fr ds G) (h2 : t = false → GW X y Q fr ds G) : GW X (.cond o x y) Q fr ds G := by
  cases t with
  | true => exact GW.cond_t hc (h1 rfl)
  | false => exact GW.cond_f hc (h2 rfl)

theorem GW.block {id : Nat} (h : GW X c (Post.inBlock id Q) fr ds G) : GW X (.block id c) Q fr ds G := fun n a w hf hw =>
  wpIn_block (wpIn_mono (h n a w hf hw) fun e a w ⟨fr, ds, G, h1, h2, h3⟩ => by
    cases e with
    | exit id' =>
      simp only [Post.inBlock] at h3
      simp only [Exit.inBlock]
      split
      · rename_i e; subst e; rw [if_pos rfl] at h3; exact ⟨fr, ds, G, h1, h2, h3⟩
      · rename_i e; rw [if_neg e] at h3; exact ⟨fr, ds, G, h1, h2, h3⟩
    | _ => exact ⟨fr, ds, G, h1, h2, h3⟩)

theorem least_of {p : Nat → Prop} : ∀ n, p n → ∃ k, p k ∧ ∀ j, p j → k ≤ j := by
  intro n
  induction n using Nat.strongRecOn with
  | _ n ih =>
    intro hn
    by_cases h : ∃ j, j < n ∧ p j
    · obtain ⟨j, hj, hp⟩ := h
      exact ih j hj hp
    · exact ⟨n, hn, fun j hj => Nat.le_of_not_lt fun hlt => h ⟨j, hlt, hj⟩⟩

open Classical in
noncomputable def least (p : Nat → Prop) : Nat := if h : ∃ k, p k ∧ ∀ j, p j → k ≤ j then h.choose else 0
theorem least_spec {p : Nat → Prop} {n : Nat} (h : p n) : p (least p) ∧ ∀ j, p j → least p ≤ j := by
  unfold least
  rw [dif_pos (least_of n h)]
  exact (least_of n h).choose_spec

/-- A loop: what holds at the head of each round, with a number that goes down. -/
theorem GW.loop (Inv : Nat → Fr → List Deferred → Hp → Prop) {k : Nat} (h0 : Inv k fr ds G)
    (hb : ∀ k fr ds G, Inv k fr ds G → GW X c (Post.then (fun fr ds G => ∃ j, j < k ∧ Inv j fr ds G) Q) fr ds G) : GW X (.loop c) Q fr ds G := fun n a w hf hw => by
  let S : Act → World → Nat → Prop := fun a w k => ∃ fr ds G, FRep X.nt fr ds a ∧ Sat X.w0 G w ∧ Inv k fr ds G
  refine wpIn_loop (fun a w => ∃ k, S a w k) (fun a w => least (S a w)) ⟨k, fr, ds, G, hf, hw, h0⟩ ?_
  rintro a w ⟨k1, hS⟩
  obtain ⟨fr1, ds1, G1, h1, h2, h3⟩ := (least_spec hS).1
  refine wpIn_mono (hb _ fr1 ds1 G1 h3 n a w h1 h2) ?_
  rintro e a' w' ⟨fr2, ds2, G2, g1, g2, g3⟩
  cases e with
  | normal =>
    obtain ⟨j, hj, hI⟩ := g3
    have hS' : S a' w' j := ⟨fr2, ds2, G2, g1, g2, hI⟩
    exact ⟨⟨j, hS'⟩, Nat.lt_of_le_of_lt ((least_spec hS').2 j hS') hj⟩
  | _ => exact ⟨fr2, ds2, G2, g1, g2, g3⟩

/-- A loop, by what its slots and its heap are at each index. -/
theorem GW.loopI {ι : Type} (FR : ι → Fr) (GG : ι → Hp) (μ : ι → Nat) (I : ι → Prop) (i0 : ι) (hk : Keeps fr (FR i0)) (hs : Hs G (GG i0)) (h0 : I i0)
    (hb : ∀ i, I i → GW X c (Post.then (fun fr' ds' G' => ∃ j, μ j < μ i ∧ I j ∧ ds' = ds ∧ Keeps fr' (FR j) ∧ Hs G' (GG j)) Q) (FR i) ds (GG i)) : GW X (.loop c) Q fr ds G := by
  refine GW.weak hk hs (GW.loop (fun k fr' ds' G' => ∃ i, μ i = k ∧ I i ∧ ds' = ds ∧ Keeps fr' (FR i) ∧ Hs G' (GG i)) ⟨i0, rfl, h0, rfl, Keeps.refl _, Hs.refl _⟩ ?_)
  rintro k fr' ds' G' ⟨i, rfl, hi, rfl, hk', hs'⟩
  refine GW.weak hk' hs' ((hb i hi).mono ?_)
  intro e fr2 ds2 G2 h
  cases e with
  | normal =>
    obtain ⟨j, h1, h2, h3, h4, h5⟩ := h
    exact ⟨μ j, h1, j, rfl, h2, h3, h4, h5⟩
  | _ => exact h

theorem GW.region {id : Nat} {l : List Oper} (h : GOps X l.toArray Q l fr ds G) : GW X (.region id l.toArray false) Q fr ds G := fun n a w hf hw => wpIn_region_lit (h n a w hf hw)

/-! ### Operations -/
variable {ops : Array Oper} {o : Oper} {rest : List Oper}

def wantedO (ops : Array Oper) (fr : Fr) (o : Oper) : Option Bool :=
  match o.guard with
  | none => some true
  | some (j, want) =>
    match (ops[j]?).bind (·.dst) with
    | none => none
    | some d =>
      match lk fr d with
      | some (.bool c) => some (c == want)
      | some _ => some false
      | none => none

theorem wanted_of {a : Act} {b : Bool} (hf : FRep X.nt fr ds a) (h : wantedO ops fr o = some b) : Region.wanted o (yielded ops a.tmps) = b := by
  unfold wantedO at h
  unfold Region.wanted
  cases hg : o.guard with
  | none => simp only [hg, Option.some.injEq] at h; exact h
  | some g =>
    obtain ⟨j, want⟩ := g
    simp only [hg] at h ⊢
    cases hd : (ops[j]?).bind (·.dst) with
    | none => simp [hd] at h
    | some d =>
      simp only [hd] at h
      unfold yielded
      rw [hd]
      cases hl : lk fr d with
      | none => simp [hl] at h
      | some v =>
        have := hf.look d v hl
        cases v with
        | bool c =>
          simp only [hl, Option.some.injEq] at h
          simp only [Option.bind_some, this]
          rw [← h]
          cases c <;> cases want <;> rfl
        | _ =>
          simp only [hl, Option.some.injEq] at h
          simp only [Option.bind_some, this]
          rw [← h]
          cases want <;> rfl

theorem GOps.nil (h : Q .normal fr ds G) : GOps X ops Q [] fr ds G := fun _ _ _ hf hw => wpListIn_nil ⟨_, _, _, hf, hw, h⟩
theorem GOps.weak (hk : Keeps fr fr') (hs : Hs G G') {l : List Oper} (h : GOps X ops Q l fr' ds G') : GOps X ops Q l fr ds G := fun n a w hf hw => h n a w (hf.weak hk) (hs _ _ hw)

/-- An operation whose guard says no. -/
theorem GOps.skip {d : Nat} (hw : wantedO ops fr o = some false) (hd : o.dst = some d) (hlt : Nat.blt d X.nt = true) (h : GOps X ops Q rest ((d, undef) :: fr) ds G) : GOps X ops Q (o :: rest) fr ds G := fun n a w hf hs => by
  simp only [wpListIn, wanted_of hf hw, Bool.false_eq_true, if_false]
  refine ⟨fun _ _ => trivial, ?_⟩
  rw [hd]
  exact h n _ w (hf.put (Nat.le_of_ble_eq_true hlt) undef) hs
theorem GOps.skipU (hw : wantedO ops fr o = some false) (hd : o.dst = none) (h : GOps X ops Q rest fr ds G) : GOps X ops Q (o :: rest) fr ds G := fun n a w hf hs => by
  simp only [wpListIn, wanted_of hf hw, Bool.false_eq_true, if_false]
  refine ⟨fun _ _ => trivial, ?_⟩
  rw [hd]
  exact h n _ w hf hs

/-- An operation that yields a value and may turn the world: the basic step. -/
theorem GOps.step {d : Nat} {v : Value} {G' : Hp} (hw : wantedO ops fr o = some true) (hd : o.dst = some d) (hlt : d < X.nt) (hnd : ∀ c, o.op ≠ .defer c)
    (hrun : ∀ (ρ : Operand → Value) w, (∀ x v, evO fr x = some v → ρ x = v) → Sat X.w0 G w → ∃ w', (execOp ρ o).run X.P w = .ok (.value v) w' ∧ Sat X.w0 G' w')
    (h : GOps X ops Q rest ((d, v) :: fr) ds G') : GOps X ops Q (o :: rest) fr ds G := fun n a w hf hs => by
  simp only [wpListIn, wanted_of hf hw, if_true]
  obtain ⟨w', hr, hs'⟩ := hrun a.eval w (fun x v hx => hf.eval hx) hs
  refine ⟨fun _ _ => trivial, ?_⟩
  rw [Oper.semAt_eq _ _ _ hnd, hr, Oper.uponIn_value, hd]
  exact h n _ w' (hf.put hlt v) hs'

/-- An operation that yields nothing (a store). -/
theorem GOps.unit {G' : Hp} (hw : wantedO ops fr o = some true) (hd : o.dst = none) (hnd : ∀ c, o.op ≠ .defer c)
    (hrun : ∀ (ρ : Operand → Value) w, (∀ x v, evO fr x = some v → ρ x = v) → Sat X.w0 G w → ∃ w', (execOp ρ o).run X.P w = .ok .skip w' ∧ Sat X.w0 G' w')
    (h : GOps X ops Q rest fr ds G') : GOps X ops Q (o :: rest) fr ds G := fun n a w hf hs => by
  simp only [wpListIn, wanted_of hf hw, if_true]
  obtain ⟨w', hr, hs'⟩ := hrun a.eval w (fun x v hx => hf.eval hx) hs
  refine ⟨fun _ _ => trivial, ?_⟩
  rw [Oper.semAt_eq _ _ _ hnd, hr, Oper.uponIn_skip, hd]
  exact h n _ w' hf hs'
/-- The ways through a region whose outcome is a bool meet again. -/
theorem GW.cutB (d : Nat) (t : Bool) (fr' : Fr) {id : Nat} {l : List Oper} (h1 : GOps X l.toArray (fun e fr1 ds1 G1 => e = .normal ∧ ds1 = ds ∧ Keeps fr1 fr' ∧ Hs G1 G' ∧ lk fr1 d = some (.bool t)) l fr ds G)
    (h2 : GW X y Q ((d, .bool t) :: fr') ds G') : GW X (.seq (.region id l.toArray false) y) Q fr ds G := by
  refine GW.seq (GW.region (fun n a w hf hs => ?_))
  refine wpListIn_mono' (h1 n a w hf hs) ?_
  rintro e a' w' ⟨fr1, ds1, G1, hf1, hs1, rfl, rfl, hk, hh, hd⟩
  exact ⟨(d, .bool t) :: fr', _, G', hf1.weak (Keeps.cons hd hk), hh _ _ hs1, h2⟩
end rules

end Go.Proofs.YtgjmandjhjfgkaaDoor.Gl
