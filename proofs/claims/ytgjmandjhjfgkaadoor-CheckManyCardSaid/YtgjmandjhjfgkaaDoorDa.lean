import Derived.Test.YtgjmandjhjfgkaaDoorGn
namespace Go.Proofs.YtgjmandjhjfgkaaDoor.Gl
open Go.RowKit Go.Shelf
set_option linter.unusedVariables false
set_option linter.unnecessarySimpa false
set_option linter.unusedSimpArgs false

/-! ### The data -/
structure Tm where
  kind : Int
  text : ByteArray
  ext : ByteArray
structure Sl where
  v : ByteArray
  t : Tm
structure Pt where
  s0 : Sl
  s1 : Sl
  s2 : Sl
structure Lt where
  kind : Int
  pat : Pt
  a : Sl
  b : Sl
structure Rl where
  head : Pt
  body : List Lt

def TmC (t : Tm) : List Value := [.int .i64 t.kind, .string t.text, .string t.ext]
def SlC (s : Sl) : List Value := [.string s.v, .int .i64 s.t.kind, .string s.t.text, .string s.t.ext]
def PtC (p : Pt) : List Value :=
  [.string p.s0.v, .int .i64 p.s0.t.kind, .string p.s0.t.text, .string p.s0.t.ext, .string p.s1.v, .int .i64 p.s1.t.kind, .string p.s1.t.text, .string p.s1.t.ext, .string p.s2.v, .int .i64 p.s2.t.kind, .string p.s2.t.text, .string p.s2.t.ext]
def LtC (l : Lt) : List Value :=
  [.int .i64 l.kind, .string l.pat.s0.v, .int .i64 l.pat.s0.t.kind, .string l.pat.s0.t.text, .string l.pat.s0.t.ext, .string l.pat.s1.v, .int .i64 l.pat.s1.t.kind, .string l.pat.s1.t.text, .string l.pat.s1.t.ext, .string l.pat.s2.v, .int .i64 l.pat.s2.t.kind, .string l.pat.s2.t.text, .string l.pat.s2.t.ext,
    .string l.a.v, .int .i64 l.a.t.kind, .string l.a.t.text, .string l.a.t.ext, .string l.b.v, .int .i64 l.b.t.kind, .string l.b.t.text, .string l.b.t.ext]
def RlC (p : Pt) (s : Value) : List Value :=
  [.string p.s0.v, .int .i64 p.s0.t.kind, .string p.s0.t.text, .string p.s0.t.ext, .string p.s1.v, .int .i64 p.s1.t.kind, .string p.s1.t.text, .string p.s1.t.ext, .string p.s2.v, .int .i64 p.s2.t.kind, .string p.s2.t.text, .string p.s2.t.ext, s]

/-- A row of elements in memory, each of sz cells. -/
def RowAt {α : Type} (w0 : World) (G : Hp) (sz : Nat) (C : α → List Value → Prop) (A : Option Addr) (xs : List α) : Prop :=
  ∀ (i : Nat) x, xs[i]? = some x → ∃ b o cs, A = some ⟨b, o, none⟩ ∧ C x cs ∧ Rds w0 G b (o + i * sz) cs

def LtsAt (w0 : World) (G : Hp) (A : Option Addr) (ls : List Lt) : Prop := RowAt w0 G 21 (fun l cs => cs = LtC l) A ls
def RlIs (w0 : World) (G : Hp) (r : Rl) (cs : List Value) : Prop := ∃ A c, cs = RlC r.head (.slice A r.body.length c) ∧ r.body.length ≤ c ∧ c ≤ 9223372036854775807 ∧ LtsAt w0 G A r.body
def RlsAt (w0 : World) (G : Hp) (A : Option Addr) (rs : List Rl) : Prop := RowAt w0 G 13 (RlIs w0 G) A rs

theorem Rd.mono {w0 : World} {G G' : Hp} (hs : ∀ x ∈ G, x ∈ G') {b o : Nat} {v : Value} (h : Rd w0 G b o v) : Rd w0 G' b o v := by
  cases h with
  | old h => exact .old h
  | own hm h => exact .own (hs _ hm) h
theorem Rds.mono {w0 : World} {G G' : Hp} (hs : ∀ x ∈ G, x ∈ G') {b o : Nat} {cs : List Value} (h : Rds w0 G b o cs) : Rds w0 G' b o cs := fun j v hv => (h j v hv).mono hs
theorem RowAt.mono {α : Type} {w0 : World} {G G' : Hp} {sz : Nat} {C C' : α → List Value → Prop} {A : Option Addr} {xs : List α} (hs : ∀ x ∈ G, x ∈ G') (hc : ∀ x cs, C x cs → C' x cs) (h : RowAt w0 G sz C A xs) : RowAt w0 G' sz C' A xs := fun i x hx => by
  obtain ⟨b, o, cs, h1, h2, h3⟩ := h i x hx
  exact ⟨b, o, cs, h1, hc _ _ h2, h3.mono hs⟩
theorem LtsAt.mono {w0 : World} {G G' : Hp} {A : Option Addr} {ls : List Lt} (hs : ∀ x ∈ G, x ∈ G') (h : LtsAt w0 G A ls) : LtsAt w0 G' A ls := RowAt.mono hs (fun _ _ h => h) h
theorem RlIs.mono {w0 : World} {G G' : Hp} {r : Rl} {cs : List Value} (hs : ∀ x ∈ G, x ∈ G') (h : RlIs w0 G r cs) : RlIs w0 G' r cs := by
  obtain ⟨A, c, h1, h2, h3, h4⟩ := h
  exact ⟨A, c, h1, h2, h3, h4.mono hs⟩
theorem RlsAt.mono {w0 : World} {G G' : Hp} {A : Option Addr} {rs : List Rl} (hs : ∀ x ∈ G, x ∈ G') (h : RlsAt w0 G A rs) : RlsAt w0 G' A rs := RowAt.mono hs (fun _ _ h => h.mono hs) h
theorem sub_cons {G : Hp} (x : Nat × Know) : ∀ y ∈ G, y ∈ x :: G := fun _ h => List.mem_cons_of_mem _ h

theorem Rds.own {w0 : World} {G : Hp} {b : Nat} {C : Array Value} {e : TypeId} {z : Nat × Nat} (hm : (b, Know.exact (.cells C e z)) ∈ G) (o : Nat) (cs : List Value) (h : ∀ j v, cs[j]? = some v → C[o + j]? = some v) : Rds w0 G b o cs :=
  fun j v hv => .own hm (h j v hv)
theorem Rd.own' {w0 : World} {G : Hp} {b : Nat} {C : Array Value} {e : TypeId} {z : Nat × Nat} {o : Nat} {v : Value} (hm : (b, Know.exact (.cells C e z)) ∈ G) (h : C[o]? = some v) : Rd w0 G b o v := .own hm h

theorem wrap64_id {n : Int} (h0 : -9223372036854775808 ≤ n) (h1 : n ≤ 9223372036854775807) : IntKind.i64.wrap n = n := IntWalk.i64_in _ (by omega)
end Go.Proofs.YtgjmandjhjfgkaaDoor.Gl
