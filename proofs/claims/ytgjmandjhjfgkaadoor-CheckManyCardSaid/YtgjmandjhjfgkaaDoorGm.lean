import Derived.Test.YtgjmandjhjfgkaaDoorGl
namespace Go.Proofs.YtgjmandjhjfgkaaDoor.Gl
open Go.RowKit

theorem run_und {P : Program} {t : TypeId} {dsc : TypeDesc} (hu : P.underlying t = some dsc) (w : World) : (Go.underlying t).run P w = .ok dsc w := by
  simp only [Go.underlying, program, Sem.run_bind, Sem.run, Result.andThen_ok, hu]
  rfl

structure At (X : Cx) (ops : Array Oper) (fr : Fr) (o : Oper) (op : Op) (d : Nat) : Prop where
  op : o.op = op
  dst : o.dst = some d
  lt : Nat.blt d X.nt = true
  on : wantedO ops fr o = some true

section rules
variable {X : Cx} {Q : Post} {fr : Fr} {ds : List Deferred} {G : Hp} {ops : Array Oper} {o : Oper} {rest : List Oper} {d : Nat}

/-- A value, the world as it is. -/
theorem R.val {op : Op} {v : Value} (h : At X ops fr o op d) (hnd : ∀ c, op ≠ .defer c)
    (hrun : ∀ (ρ : Operand → Value) w, (∀ x v, evO fr x = some v → ρ x = v) → Sat X.w0 G w → (execOp ρ o).run X.P w = .ok (.value v) w)
    (K : GOps X ops Q rest ((d, v) :: fr) ds G) : GOps X ops Q (o :: rest) fr ds G :=
  GOps.step h.on h.dst (Nat.le_of_ble_eq_true h.lt) (fun c => by rw [h.op]; exact hnd c) (fun ρ w hρ hw => ⟨w, hrun ρ w hρ hw, hw⟩) K

theorem R.move {x : Operand} {v : Value} (h : At X ops fr o (.move x) d) (hx : evO fr x = some v) (K : GOps X ops Q rest ((d, v) :: fr) ds G) : GOps X ops Q (o :: rest) fr ds G :=
  R.val h (by simp) (fun ρ w hρ hw => by simp [execOp, h.op, hρ _ _ hx]) K
theorem R.assign {x : Operand} {v : Value} (h : At X ops fr o (.assign x) d) (hx : evO fr x = some v) (K : GOps X ops Q rest ((d, v) :: fr) ds G) : GOps X ops Q (o :: rest) fr ds G :=
  R.val h (by simp) (fun ρ w hρ hw => by simp [execOp, h.op, hρ _ _ hx]) K
theorem R.pick_t {c x y : Operand} {v : Value} (h : At X ops fr o (.pick c x y) d) (hc : evO fr c = some (.bool true)) (hx : evO fr x = some v) (K : GOps X ops Q rest ((d, v) :: fr) ds G) : GOps X ops Q (o :: rest) fr ds G :=
  R.val h (by simp) (fun ρ w hρ hw => by simp [execOp, h.op, hρ _ _ hx, hρ _ _ hc, asBool]) K
theorem R.pick_f {c x y : Operand} {v : Value} (h : At X ops fr o (.pick c x y) d) (hc : evO fr c = some (.bool false)) (hy : evO fr y = some v) (K : GOps X ops Q rest ((d, v) :: fr) ds G) : GOps X ops Q (o :: rest) fr ds G :=
  R.val h (by simp) (fun ρ w hρ hw => by simp [execOp, h.op, hρ _ _ hy, hρ _ _ hc, asBool]) K

/-! whole numbers -/
theorem R.bin {b : BinOp} {t u : TypeId} {x y : Operand} {p q v : Value} (h : At X ops fr o (.binOp b t x y u) d) (hx : evO fr x = some p) (hy : evO fr y = some q)
    (hrun : ∀ w, Sat X.w0 G w → (do eqGuard b t x y p q; binOp b t p q : Sem Value).run X.P w = .ok v w) (K : GOps X ops Q rest ((d, v) :: fr) ds G) : GOps X ops Q (o :: rest) fr ds G :=
  R.val h (by simp) (fun ρ w hρ hw => by
    have := hrun w hw
    simp only [execOp, h.op, hρ _ _ hx, hρ _ _ hy]
    rw [Sem.run_bind, this]
    rfl) K

theorem run_guard_int (b : BinOp) (t : TypeId) (x y : Operand) (k k' : IntKind) (m n : Int) (P : Program) (w : World) : (eqGuard b t x y (.int k m) (.int k' n)).run P w = .ok () w := by
  unfold eqGuard; cases b <;> simp
theorem run_guard_string (b : BinOp) (t : TypeId) (x y : Operand) (m n : ByteArray) (P : Program) (w : World) : (eqGuard b t x y (.string m) (.string n)).run P w = .ok () w := by
  unfold eqGuard; cases b <;> simp
theorem run_guard_bool (b : BinOp) (t : TypeId) (x y : Operand) (m n : Bool) (P : Program) (w : World) : (eqGuard b t x y (.bool m) (.bool n)).run P w = .ok () w := by
  unfold eqGuard; cases b <;> simp

theorem R.binI {b : BinOp} {t u : TypeId} {x y : Operand} {k : IntKind} {m n : Int} {v : Value} (h : At X ops fr o (.binOp b t x y u) d) (hx : evO fr x = some (.int k m)) (hy : evO fr y = some (.int k n))
    (hrun : ∀ w, (binOp b t (.int k m) (.int k n)).run X.P w = .ok v w) (K : GOps X ops Q rest ((d, v) :: fr) ds G) : GOps X ops Q (o :: rest) fr ds G :=
  R.bin h hx hy (fun w _ => by rw [Sem.run_bind, run_guard_int]; exact hrun w) K

theorem R.add {t u : TypeId} {x y : Operand} {k : IntKind} {m n r : Int} (h : At X ops fr o (.binOp .add t x y u) d) (hx : evO fr x = some (.int k m)) (hy : evO fr y = some (.int k n)) (hr : k.wrap (m + n) = r)
    (K : GOps X ops Q rest ((d, .int k r) :: fr) ds G) : GOps X ops Q (o :: rest) fr ds G := R.binI h hx hy (fun w => by simp [binOp, Op.intArith, hr]) K
theorem R.sub {t u : TypeId} {x y : Operand} {k : IntKind} {m n r : Int} (h : At X ops fr o (.binOp .sub t x y u) d) (hx : evO fr x = some (.int k m)) (hy : evO fr y = some (.int k n)) (hr : k.wrap (m - n) = r)
    (K : GOps X ops Q rest ((d, .int k r) :: fr) ds G) : GOps X ops Q (o :: rest) fr ds G := R.binI h hx hy (fun w => by simp [binOp, Op.intArith, hr]) K
theorem R.mul {t u : TypeId} {x y : Operand} {k : IntKind} {m n r : Int} (h : At X ops fr o (.binOp .mul t x y u) d) (hx : evO fr x = some (.int k m)) (hy : evO fr y = some (.int k n)) (hr : k.wrap (m * n) = r)
    (K : GOps X ops Q rest ((d, .int k r) :: fr) ds G) : GOps X ops Q (o :: rest) fr ds G := R.binI h hx hy (fun w => by simp [binOp, Op.intArith, hr]) K
theorem R.lss {t u : TypeId} {x y : Operand} {k : IntKind} {m n : Int} (h : At X ops fr o (.binOp .lss t x y u) d) (hx : evO fr x = some (.int k m)) (hy : evO fr y = some (.int k n))
    (K : GOps X ops Q rest ((d, .bool (decide (m < n))) :: fr) ds G) : GOps X ops Q (o :: rest) fr ds G := R.binI h hx hy (fun w => by cases k <;> simp [binOp, Op.intCmp]) K
theorem R.leq {t u : TypeId} {x y : Operand} {k : IntKind} {m n : Int} (h : At X ops fr o (.binOp .leq t x y u) d) (hx : evO fr x = some (.int k m)) (hy : evO fr y = some (.int k n))
    (K : GOps X ops Q rest ((d, .bool (decide (m ≤ n))) :: fr) ds G) : GOps X ops Q (o :: rest) fr ds G := R.binI h hx hy (fun w => by cases k <;> simp [binOp, Op.intCmp]) K
theorem R.gtr {t u : TypeId} {x y : Operand} {k : IntKind} {m n : Int} (h : At X ops fr o (.binOp .gtr t x y u) d) (hx : evO fr x = some (.int k m)) (hy : evO fr y = some (.int k n))
    (K : GOps X ops Q rest ((d, .bool (decide (m > n))) :: fr) ds G) : GOps X ops Q (o :: rest) fr ds G := R.binI h hx hy (fun w => by cases k <;> simp [binOp, Op.intCmp]) K
theorem R.geq {t u : TypeId} {x y : Operand} {k : IntKind} {m n : Int} (h : At X ops fr o (.binOp .geq t x y u) d) (hx : evO fr x = some (.int k m)) (hy : evO fr y = some (.int k n))
    (K : GOps X ops Q rest ((d, .bool (decide (m ≥ n))) :: fr) ds G) : GOps X ops Q (o :: rest) fr ds G := R.binI h hx hy (fun w => by cases k <;> simp [binOp, Op.intCmp]) K
theorem R.eqI {t u : TypeId} {x y : Operand} {k : IntKind} {m n : Int} (h : At X ops fr o (.binOp .eql t x y u) d) (hx : evO fr x = some (.int k m)) (hy : evO fr y = some (.int k n))
    (K : GOps X ops Q rest ((d, .bool (decide (m = n))) :: fr) ds G) : GOps X ops Q (o :: rest) fr ds G := R.binI h hx hy (fun w => by cases k <;> (simp [binOp, Op.intCmp]; rfl)) K
theorem R.neI {t u : TypeId} {x y : Operand} {k : IntKind} {m n : Int} (h : At X ops fr o (.binOp .neq t x y u) d) (hx : evO fr x = some (.int k m)) (hy : evO fr y = some (.int k n))
    (K : GOps X ops Q rest ((d, .bool (decide (m ≠ n))) :: fr) ds G) : GOps X ops Q (o :: rest) fr ds G := R.binI h hx hy (fun w => by cases k <;> (simp [binOp, Op.intCmp, bne]; rfl)) K
/-! bits, shifts, conversions -/
theorem R.bits {b : BinOp} {t u : TypeId} {x y : Operand} {k : IntKind} {m n r : Int} (hb : b = .and ∨ b = .or ∨ b = .xor ∨ b = .andNot) (h : At X ops fr o (.binOp b t x y u) d) (hx : evO fr x = some (.int k m)) (hy : evO fr y = some (.int k n)) (hr : Go.bits b k m n = r)
    (K : GOps X ops Q rest ((d, .int k r) :: fr) ds G) : GOps X ops Q (o :: rest) fr ds G := R.binI h hx hy (fun w => by subst hr; rcases hb with rfl | rfl | rfl | rfl <;> cases k <;> simp [binOp, Op.intBits, Go.bits]) K
theorem R.and {t u : TypeId} {x y : Operand} {k : IntKind} {m n r : Int} (h : At X ops fr o (.binOp .and t x y u) d) (hx : evO fr x = some (.int k m)) (hy : evO fr y = some (.int k n)) (hr : Go.bits .and k m n = r)
    (K : GOps X ops Q rest ((d, .int k r) :: fr) ds G) : GOps X ops Q (o :: rest) fr ds G := R.bits (.inl rfl) h hx hy hr K
theorem R.or {t u : TypeId} {x y : Operand} {k : IntKind} {m n r : Int} (h : At X ops fr o (.binOp .or t x y u) d) (hx : evO fr x = some (.int k m)) (hy : evO fr y = some (.int k n)) (hr : Go.bits .or k m n = r)
    (K : GOps X ops Q rest ((d, .int k r) :: fr) ds G) : GOps X ops Q (o :: rest) fr ds G := R.bits (.inr (.inl rfl)) h hx hy hr K
theorem R.shl {t u : TypeId} {x y : Operand} {k k' : IntKind} {m n r : Int} (h : At X ops fr o (.binOp .shl t x y u) d) (hx : evO fr x = some (.int k m)) (hy : evO fr y = some (.int k' n)) (h0 : 0 ≤ n) (hr : k.wrap (m * 2 ^ (min n.toNat k.bits)) = r)
    (K : GOps X ops Q rest ((d, .int k r) :: fr) ds G) : GOps X ops Q (o :: rest) fr ds G :=
  R.bin h hx hy (fun w _ => by rw [Sem.run_bind, run_guard_int]; subst hr; simp [binOp, Op.shift, show ¬ n < 0 by omega]) K
theorem R.quo {t u : TypeId} {x y : Operand} {k : IntKind} {m n r : Int} (h : At X ops fr o (.binOp .quo t x y u) d) (hx : evO fr x = some (.int k m)) (hy : evO fr y = some (.int k n)) (h0 : n ≠ 0) (hr : k.wrap (m.tdiv n) = r)
    (K : GOps X ops Q rest ((d, .int k r) :: fr) ds G) : GOps X ops Q (o :: rest) fr ds G := R.binI h hx hy (fun w => by simp [binOp, Op.intDiv, hr, h0]) K
theorem R.rem {t u : TypeId} {x y : Operand} {k : IntKind} {m n r : Int} (h : At X ops fr o (.binOp .rem t x y u) d) (hx : evO fr x = some (.int k m)) (hy : evO fr y = some (.int k n)) (h0 : n ≠ 0) (hr : m.tmod n = r)
    (K : GOps X ops Q rest ((d, .int k r) :: fr) ds G) : GOps X ops Q (o :: rest) fr ds G := R.binI h hx hy (fun w => by simp [binOp, Op.intDiv, hr, h0]) K
theorem R.conv {s t : TypeId} {x : Operand} {k k' : IntKind} {ts : TypeDesc} {m r : Int} (h : At X ops fr o (.convert s t x) d) (hx : evO fr x = some (.int k m)) (hs : X.P.underlying s = some ts) (ht : X.P.underlying t = some (.int k')) (hr : k'.wrap m = r)
    (K : GOps X ops Q rest ((d, .int k' r) :: fr) ds G) : GOps X ops Q (o :: rest) fr ds G :=
  R.val h (by simp) (fun ρ w hρ hw => by subst hr; simp [execOp, h.op, hρ _ _ hx, convert, run_und hs, run_und ht, Conv.intToInt]) K
theorem R.not {t : TypeId} {x : Operand} {b : Bool} (h : At X ops fr o (.unOp .not t x) d) (hx : evO fr x = some (.bool b)) (K : GOps X ops Q rest ((d, .bool (!b)) :: fr) ds G) : GOps X ops Q (o :: rest) fr ds G :=
  R.val h (by simp) (fun ρ w hρ hw => by simp [execOp, h.op, hρ _ _ hx, Op.unary]) K

/-! strings -/
theorem R.eqS {t u : TypeId} {x y : Operand} {m n : ByteArray} (h : At X ops fr o (.binOp .eql t x y u) d) (hx : evO fr x = some (.string m)) (hy : evO fr y = some (.string n))
    (K : GOps X ops Q rest ((d, .bool (m.toList == n.toList)) :: fr) ds G) : GOps X ops Q (o :: rest) fr ds G :=
  R.bin h hx hy (fun w _ => by rw [Sem.run_bind, run_guard_string]; simp [binOp, Op.stringOp]) K
theorem R.neS {t u : TypeId} {x y : Operand} {m n : ByteArray} (h : At X ops fr o (.binOp .neq t x y u) d) (hx : evO fr x = some (.string m)) (hy : evO fr y = some (.string n))
    (K : GOps X ops Q rest ((d, .bool (!(m.toList == n.toList))) :: fr) ds G) : GOps X ops Q (o :: rest) fr ds G :=
  R.bin h hx hy (fun w _ => by rw [Sem.run_bind, run_guard_string]; simp [binOp, Op.stringOp]) K
end rules

/-! ### Memory -/
def isA : TypeDesc → Bool
  | .struct _ | .array _ _ => true
  | _ => false

section mem
variable {P : Program} {w0 w : World} {G : Hp}

theorem run_isAgg {t : TypeId} {dsc : TypeDesc} (hu : P.underlying t = some dsc) : (isAgg t).run P w = .ok (isA dsc) w := by
  simp only [isAgg, Go.underlying, program, Sem.run_bind, Sem.run, Result.andThen_ok, hu]
  cases dsc <;> simp [isA]

theorem run_loadVar_one {t : TypeId} {dsc : TypeDesc} (hu : P.underlying t = some dsc) (ha : isA dsc = false) {b o : Nat} {v : Value} (hs : Sat w0 G w) (h : Rd w0 G b o v) : (loadVar t ⟨b, o, none⟩).run P w = .ok v w := by
  have hc := h.cell hs
  simp only [loadVar, Sem.run_bind, run_isAgg hu, ha, Result.andThen_ok]
  simp [hc]

theorem run_loadVar_agg {t : TypeId} {dsc : TypeDesc} (hu : P.underlying t = some dsc) (ha : isA dsc = true) {b o : Nat} {cs : List Value} (hz : ∀ w, (sizeOf t).run P w = .ok cs.length w) (hs : Sat w0 G w) (h : Rds w0 G b o cs) : (loadVar t ⟨b, o, none⟩).run P w = .ok (.agg cs.toArray) w := by
  have hl := h.load (P := P) hs
  simp only [loadVar, Sem.run_bind, run_isAgg hu, ha, Result.andThen_ok, if_true, hz, hl]
  simp

theorem run_sureAddr (a : Addr) : (Instr.sureAddr (.pointer (some a))).run P w = .ok a w := rfl

/-- Cells 'cs' laid from o on. -/
def splice (C : Array Value) (o : Nat) (cs : List Value) : Array Value := (C.toList.take o ++ cs ++ C.toList.drop (o + cs.length)).toArray

theorem run_storeVar_at {t : TypeId} {b o : Nat} {C : Array Value} {e : TypeId} {v : Value} {n : Nat} (hz : ∀ w, (sizeOf t).run P w = .ok n w) (hn : v.cells.size = n) (hg : w.heap[b]? = some (.cells C e (0, 0))) (hl : o + n ≤ C.size) (h1 : v.cells.toList.all (·.oneCell') = true) :
    (storeVar t ⟨b, o, none⟩ v).run P w = .ok () (w.setRow b (splice C o v.cells.toList)) := by
  have := run_storeCells_at (P := P) b o e v.cells.toList 0 C w hg (by simpa [hn] using hl) (fun x hx => (List.all_eq_true.1 h1) x hx)
  simp only [storeVar, Sem.run_bind, hz, Result.andThen_ok, hn, ne_eq, not_true_eq_false, if_false]
  simp only [Nat.add_zero] at this
  exact this

theorem Sat.setRow {G1 G2 : Hp} {b : Nat} {C C' : Array Value} {e : TypeId} (h : Sat w0 (G1 ++ (b, .exact (.cells C e (0, 0))) :: G2) w) : Sat w0 (G1 ++ (b, .exact (.cells C' e (0, 0))) :: G2) (w.setRow b C') := by
  have hb := (h.own b _ (List.mem_append_right _ List.mem_cons_self)).2
  simp only [Know.holds] at hb
  refine h.turn rfl rfl rfl ?_ (fun i hi => ?_) (setRow_heap w b C C' e (0, 0) hb)
  · simp [World.setRow]
  · simp only [World.setRow, Array.getElem?_modify]
    rw [if_neg (fun e => hi e.symm)]
end mem

section memrules
variable {X : Cx} {Q : Post} {fr : Fr} {ds : List Deferred} {G : Hp} {ops : Array Oper} {o : Oper} {rest : List Oper} {d : Nat}

theorem R.load1 {t : TypeId} {x : Operand} {b f : Nat} {v : Value} {dsc : TypeDesc} (h : At X ops fr o (.load t x) d) (hx : evO fr x = some (.pointer (some ⟨b, f, none⟩))) (hu : X.P.underlying t = some dsc) (ha : isA dsc = false) (hr : Rd X.w0 G b f v)
    (K : GOps X ops Q rest ((d, v) :: fr) ds G) : GOps X ops Q (o :: rest) fr ds G :=
  R.val h (by simp) (fun ρ w hρ hw => by simp [execOp, h.op, hρ _ _ hx, Instr.loadAt, run_sureAddr, run_loadVar_one hu ha hw hr]) K

theorem R.loadA {t : TypeId} {x : Operand} {b f n : Nat} {cs : List Value} {dsc : TypeDesc} (h : At X ops fr o (.load t x) d) (hx : evO fr x = some (.pointer (some ⟨b, f, none⟩))) (hu : X.P.underlying t = some dsc) (ha : isA dsc = true) (hz : ∀ w, (sizeOf t).run X.P w = .ok n w) (hr : Rds X.w0 G b f cs) (hn : cs.length = n)
    (K : GOps X ops Q rest ((d, .agg cs.toArray) :: fr) ds G) : GOps X ops Q (o :: rest) fr ds G := by
  subst hn
  exact R.val h (by simp) (fun ρ w hρ hw => by simp [execOp, h.op, hρ _ _ hx, Instr.loadAt, run_sureAddr, run_loadVar_agg hu ha hz hw hr]) K

theorem run_newVar {P : Program} {w : World} (t : TypeId) (v : Value) : (newVar t v).run P w = .ok ⟨w.heap.size, 0, none⟩ (w.alloc (.cells v.cells t)) := by
  simp [newVar, newRow, newObj, Sem.run]

theorem R.stepW {op : Op} (h : At X ops fr o op d) (hnd : ∀ c, op ≠ .defer c)
    (hrun : ∀ (ρ : Operand → Value) w, (∀ x v, evO fr x = some v → ρ x = v) → Sat X.w0 G w → ∃ v G' w', (execOp ρ o).run X.P w = .ok (.value v) w' ∧ Sat X.w0 G' w' ∧ GOps X ops Q rest ((d, v) :: fr) ds G') : GOps X ops Q (o :: rest) fr ds G := fun n a w hf hs => by
  obtain ⟨v, G', w', hr, hs', K⟩ := hrun a.eval w (fun x v hx => hf.eval hx) hs
  simp only [wpListIn, wanted_of hf h.on, if_true]
  refine ⟨fun _ _ => trivial, ?_⟩
  rw [Oper.semAt_eq _ _ _ (fun c => by rw [h.op]; exact hnd c), hr, Oper.uponIn_value, h.dst]
  exact K n _ w' (hf.put (Nat.le_of_ble_eq_true h.lt) v) hs'

/-- A new variable, zero. -/
theorem R.alloc {t : TypeId} {z : Value} (h : At X ops fr o (.alloc t) d) (hz : ∀ w, (zeroValue t).run X.P w = .ok z w)
    (K : ∀ b, GOps X ops Q rest ((d, .pointer (some ⟨b, 0, none⟩)) :: fr) ds ((b, .exact (.cells z.cells t)) :: G)) : GOps X ops Q (o :: rest) fr ds G :=
  R.stepW h (by simp) fun ρ w hρ hw => ⟨_, _, _, by simp [execOp, h.op, Instr.alloc, hz, run_newVar], hw.alloc _, K w.heap.size⟩

/-- A variable that is boxed. -/
theorem R.box {t : TypeId} {x : Operand} {v : Value} (h : At X ops fr o (.box t x) d) (hx : evO fr x = some v)
    (K : ∀ b, GOps X ops Q rest ((d, .pointer (some ⟨b, 0, none⟩)) :: fr) ds ((b, .exact (.cells v.cells t)) :: G)) : GOps X ops Q (o :: rest) fr ds G :=
  R.stepW h (by simp) fun ρ w hρ hw => ⟨_, _, _, by simp [execOp, h.op, Instr.box, hρ _ _ hx, run_newVar], hw.alloc _, K w.heap.size⟩

theorem R.store {t : TypeId} {x y : Operand} {b f n : Nat} {v : Value} {G1 G2 : Hp} {C : Array Value} {e : TypeId} (ho : o.op = .store t x y) (hd : o.dst = none) (hon : wantedO ops fr o = some true)
    (hx : evO fr x = some (.pointer (some ⟨b, f, none⟩))) (hy : evO fr y = some v) (hz : ∀ w, (sizeOf t).run X.P w = .ok n w) (hn : v.cells.size = n) (h1 : v.cells.toList.all (·.oneCell') = true)
    (hG : G = G1 ++ (b, .exact (.cells C e (0, 0))) :: G2) (hl : f + n ≤ C.size) (K : GOps X ops Q rest fr ds (G1 ++ (b, .exact (.cells (splice C f v.cells.toList) e (0, 0))) :: G2)) : GOps X ops Q (o :: rest) fr ds G := by
  subst hG
  exact GOps.unit hon hd (fun c => by rw [ho]; simp) (fun ρ w hρ hw => by
    have hb := (hw.own b _ (List.mem_append_right _ List.mem_cons_self)).2
    exact ⟨_, by simp [execOp, ho, hρ _ _ hx, hρ _ _ hy, Instr.storeAt, run_sureAddr, run_storeVar_at hz hn hb hl h1], hw.setRow⟩) K

/-- A whole variable of the run's own. -/
theorem R.storeAll {t : TypeId} {x y : Operand} {b n : Nat} {v : Value} {G1 G2 : Hp} {C : Array Value} {e : TypeId} (ho : o.op = .store t x y) (hd : o.dst = none) (hon : wantedO ops fr o = some true)
    (hx : evO fr x = some (.pointer (some ⟨b, 0, none⟩))) (hy : evO fr y = some v) (hz : ∀ w, (sizeOf t).run X.P w = .ok n w) (hn : v.cells.size = n) (h1 : v.cells.toList.all (·.oneCell') = true)
    (hG : G = G1 ++ (b, .exact (.cells C e (0, 0))) :: G2) (hl : C.size = n) (K : GOps X ops Q rest fr ds (G1 ++ (b, .exact (.cells v.cells e (0, 0))) :: G2)) : GOps X ops Q (o :: rest) fr ds G := by
  refine R.store ho hd hon hx hy hz hn h1 hG (by omega) ?_
  have : splice C 0 v.cells.toList = v.cells := by
    simp only [splice, List.take_zero, List.nil_append, Nat.zero_add]
    rw [List.drop_eq_nil_of_le (by simp; omega)]
    simp
  rw [this]
  exact K

theorem R.fieldAddr {s : TypeId} {x : Operand} {i b f n : Nat} {fs : Array Field} {fld : Field} (h : At X ops fr o (.fieldAddr s x i) d) (hx : evO fr x = some (.pointer (some ⟨b, f, none⟩))) (hu : X.P.underlying s = some (.struct fs)) (hf : fs[i]? = some fld)
    (hz : ∀ w, (sizeOf fld.type).run X.P w = .ok (n + 1) w) (K : GOps X ops Q rest ((d, .pointer (some ⟨b, f + fld.offset, none⟩)) :: fr) ds G) : GOps X ops Q (o :: rest) fr ds G :=
  R.val h (by simp) (fun ρ w hρ hw => by
    simp [execOp, h.op, hρ _ _ hx, Instr.fieldAt, run_und hu, hf, run_sureAddr, fieldPlace, hz, add_none]) K

theorem R.indexAddrS {t e : TypeId} {x y : Operand} {k : IntKind} {b f n c z : Nat} {i : Int} (h : At X ops fr o (.indexAddr t x y) d) (hx : evO fr x = some (.slice (some ⟨b, f, none⟩) n c)) (hy : evO fr y = some (.int k i)) (hu : X.P.underlying t = some (.slice e))
    (hz : ∀ w, (sizeOf e).run X.P w = .ok z w) (h0 : 0 ≤ i) (h1 : i < n) (K : GOps X ops Q rest ((d, .pointer (some ⟨b, f + i.toNat * z, none⟩)) :: fr) ds G) : GOps X ops Q (o :: rest) fr ds G :=
  R.val h (by simp) (fun ρ w hρ hw => by
    simp [execOp, h.op, hρ _ _ hx, hρ _ _ hy, Instr.indexAt, asIntOf, run_und hu, hz, h0, h1, add_none]) K

theorem R.indexAddrA {t e : TypeId} {x y : Operand} {k : IntKind} {b f n z : Nat} {i : Int} (h : At X ops fr o (.indexAddr t x y) d) (hx : evO fr x = some (.pointer (some ⟨b, f, none⟩))) (hy : evO fr y = some (.int k i)) (hu : X.P.underlying t = some (.array n e))
    (hz : ∀ w, (sizeOf e).run X.P w = .ok z w) (h0 : 0 ≤ i) (h1 : i < n) (K : GOps X ops Q rest ((d, .pointer (some ⟨b, f + i.toNat * z, none⟩)) :: fr) ds G) : GOps X ops Q (o :: rest) fr ds G :=
  R.val h (by simp) (fun ρ w hρ hw => by
    simp [execOp, h.op, hρ _ _ hx, hρ _ _ hy, Instr.indexAt, asIntOf, run_und hu, hz, h0, h1, run_sureAddr, add_none]) K

/-- The two ways of a slot that holds a bool. -/
theorem GOps.caseB (d : Nat) {t : Bool} {l : List Oper} (hd : lk fr d = some (.bool t)) (h1 : t = true → GOps X ops Q l ((d, .bool true) :: fr) ds G) (h2 : t = false → GOps X ops Q l ((d, .bool false) :: fr) ds G) : GOps X ops Q l fr ds G := by
  have hk : Keeps fr ((d, .bool t) :: fr) := Keeps.cons hd (Keeps.refl _)
  cases t with
  | true => exact GOps.weak hk (Hs.refl _) (h1 rfl)
  | false => exact GOps.weak hk (Hs.refl _) (h2 rfl)

/-- Values as they are to be read on. -/
theorem GOps.to (fr' : Fr) {l : List Oper} (h : GOps X ops Q l fr' ds G) (hk : Keeps fr fr' := by repeat (first | exact Keeps.nil _ | refine Keeps.cons rfl ?_)) : GOps X ops Q l fr ds G := GOps.weak hk (Hs.refl _) h

theorem R.build {t : TypeId} {parts : Array (Nat × Operand)} {vs : List (Nat × Value)} {cells : Array Value} (h : At X ops fr o (.build t parts) d) (hp : parts.toList.map (fun p => (evO fr p.2).map fun v => (p.1, v)) = vs.map some)
    (hb : ∀ w, (Instr.build t vs.toArray).run X.P w = .ok (.agg cells) w) (K : GOps X ops Q rest ((d, .agg cells) :: fr) ds G) : GOps X ops Q (o :: rest) fr ds G :=
  R.val h (by simp) (fun ρ w hρ hw => by
    have e : parts.map (fun p => (p.1, ρ p.2)) = vs.toArray := by
      obtain ⟨l⟩ := parts
      simp only [List.map_toArray]
      congr 1
      simp only at hp
      clear K hb h
      induction l generalizing vs with
      | nil => cases vs with
        | nil => rfl
        | cons v vs => simp at hp
      | cons x l ih => cases vs with
        | nil => simp at hp
        | cons v vs =>
          simp only [List.map_cons, List.cons.injEq, Option.map_eq_some_iff] at hp
          obtain ⟨⟨u, hu, rfl⟩, h2⟩ := hp
          rw [List.map_cons, hρ _ _ hu, ih h2]
    have e' : (parts.map fun (i, x) => (i, ρ x)) = vs.toArray := e
    simp only [execOp, h.op, e', Sem.run_bind, hb w, Result.andThen_ok]
    rfl) K

/-- A struct's or an array's equality, by what is known of its run. -/
theorem R.eqA {t u : TypeId} {x y : Operand} {p q : Array Value} {r : Bool} (h : At X ops fr o (.binOp .eql t x y u) d) (hx : evO fr x = some (.agg p)) (hy : evO fr y = some (.agg q))
    (hg : ∀ w, (eqGuard .eql t x y (.agg p) (.agg q)).run X.P w = .ok () w) (he : ∀ w, (Op.equal t (.agg p) (.agg q)).run X.P w = .ok r w)
    (K : GOps X ops Q rest ((d, .bool r) :: fr) ds G) : GOps X ops Q (o :: rest) fr ds G :=
  R.bin h hx hy (fun w _ => by rw [Sem.run_bind, hg w]; simp [binOp, he w]) K
theorem R.neA {t u : TypeId} {x y : Operand} {p q : Array Value} {r : Bool} (h : At X ops fr o (.binOp .neq t x y u) d) (hx : evO fr x = some (.agg p)) (hy : evO fr y = some (.agg q))
    (hg : ∀ w, (eqGuard .neq t x y (.agg p) (.agg q)).run X.P w = .ok () w) (he : ∀ w, (Op.equal t (.agg p) (.agg q)).run X.P w = .ok r w)
    (K : GOps X ops Q rest ((d, .bool (!r)) :: fr) ds G) : GOps X ops Q (o :: rest) fr ds G :=
  R.bin h hx hy (fun w _ => by rw [Sem.run_bind, hg w]; simp [binOp, he w]) K
theorem run_equalIn_bool {P : Program} {w : World} {t : TypeId} (hu : P.underlying t = some .bool) (n : Nat) (p q : Bool) : (Op.equalIn (n + 1) t (.bool p) (.bool q)).run P w = .ok (p == q) w := by
  rw [Op.equalIn, Sem.run_bind, run_und hu]
  rfl
theorem run_equalIn_int {P : Program} {w : World} {t : TypeId} {k : IntKind} (hu : P.underlying t = some (.int k)) (n : Nat) (k' : IntKind) (p q : Int) : (Op.equalIn (n + 1) t (.int k' p) (.int k' q)).run P w = .ok (p == q) w := by
  rw [Op.equalIn, Sem.run_bind, run_und hu]
  simp
theorem run_equalIn_string {P : Program} {w : World} {t : TypeId} (hu : P.underlying t = some .string) (n : Nat) (p q : ByteArray) : (Op.equalIn (n + 1) t (.string p) (.string q)).run P w = .ok (p == q) w := by
  rw [Op.equalIn, Sem.run_bind, run_und hu]
  rfl
theorem R.eqB {t u : TypeId} {x y : Operand} {p q : Bool} (h : At X ops fr o (.binOp .eql t x y u) d) (hx : evO fr x = some (.bool p)) (hy : evO fr y = some (.bool q)) (hu : X.P.underlying t = some .bool)
    (K : GOps X ops Q rest ((d, .bool (p == q)) :: fr) ds G) : GOps X ops Q (o :: rest) fr ds G :=
  R.bin h hx hy (fun w _ => by rw [Sem.run_bind, run_guard_bool]; rw [show (binOp .eql t (.bool p) (.bool q)) = (Op.equalIn (9999 + 1) t (.bool p) (.bool q)) >>= (fun b => pure (.bool b)) from rfl, Result.andThen_ok, Sem.run_bind, run_equalIn_bool hu]; rfl) K

theorem R.extract {x : Operand} {i : Nat} {vs : Array Value} {v : Value} (h : At X ops fr o (.extract x i) d) (hx : evO fr x = some (.tuple vs)) (hv : vs[i]? = some v) (K : GOps X ops Q rest ((d, v) :: fr) ds G) : GOps X ops Q (o :: rest) fr ds G :=
  R.val h (by simp) (fun ρ w hρ hw => by simp [execOp, h.op, hρ _ _ hx, Instr.extract, hv]) K

theorem R.makeFunc {fn : Fn} {first cap : Array Operand} {vs us : List Value} (h : At X ops fr o (.makeFunc fn first cap) d) (h1 : first.toList.map (evO fr) = vs.map some) (h2 : cap.toList.map (evO fr) = us.map some)
    (K : GOps X ops Q rest ((d, .func fn vs.toArray us.toArray) :: fr) ds G) : GOps X ops Q (o :: rest) fr ds G :=
  R.val h (by simp) (fun ρ w hρ hw => by
    have e1 : ∀ {xs : Array Operand} {vs : List Value}, xs.toList.map (evO fr) = vs.map some → xs.map ρ = vs.toArray := by
      rintro ⟨l⟩ vs hl
      simp only [List.map_toArray]
      congr 1
      simp only at hl
      induction l generalizing vs with
      | nil => cases vs with
        | nil => rfl
        | cons v vs => simp at hl
      | cons x l ih => cases vs with
        | nil => simp at hl
        | cons v vs =>
          simp only [List.map_cons, List.cons.injEq] at hl
          rw [List.map_cons, hρ x v hl.1, ih hl.2]
    simp [execOp, h.op, e1 h1, e1 h2, Instr.makeFunc]) K

/-- A string's bytes, as numbers. -/
def bs (s : ByteArray) : List Nat := s.data.toList.map (·.toNat)
theorem bs_length (s : ByteArray) : (bs s).length = s.size := by unfold bs; rw [List.length_map, Array.length_toList]; rfl
theorem bs_lt (s : ByteArray) (i c : Nat) (h : (bs s)[i]? = some c) : c < 256 := by
  unfold bs at h
  rw [List.getElem?_map] at h
  cases hx : s.data.toList[i]? with
  | none => simp [hx] at h
  | some x => simp only [hx, Option.map_some, Option.some.injEq] at h; subst h; exact x.toNat_lt
theorem bs_some (s : ByteArray) (i : Nat) (h : i < s.size) : ∃ c, (bs s)[i]? = some c ∧ c < 256 := by
  have hl : i < (bs s).length := by rw [bs_length]; exact h
  exact ⟨_, List.getElem?_eq_getElem hl, bs_lt s i _ (List.getElem?_eq_getElem hl)⟩

/-- A byte of a string. -/
theorem R.indexStr {t : TypeId} {x y : Operand} {k : IntKind} {s : ByteArray} {i : Int} {c : Nat} (h : At X ops fr o (.index t x y) d) (hx : evO fr x = some (.string s)) (hy : evO fr y = some (.int k i)) (hu : X.P.underlying t = some .string)
    (h0 : 0 ≤ i) (hc : (bs s)[i.toNat]? = some c) (K : GOps X ops Q rest ((d, .int .u8 (c : Int)) :: fr) ds G) : GOps X ops Q (o :: rest) fr ds G :=
  R.val h (by simp) (fun ρ w hρ hw => by
    have hc' : ∃ u : UInt8, s[i.toNat]? = some u ∧ u.toNat = c := by
      obtain ⟨⟨l⟩⟩ := s
      simp only [bs, List.getElem?_map, Option.map_eq_some_iff] at hc
      obtain ⟨u, hu, rfl⟩ := hc
      have hlt : i.toNat < l.length := (List.getElem?_eq_some_iff.1 hu).1
      refine ⟨u, ?_, rfl⟩
      have := (List.getElem?_eq_some_iff.1 hu).2
      simp only [getElem?_def, ByteArray.size, Array.size, hlt, dif_pos]
      congr 1
    obtain ⟨u, hu', rfl⟩ := hc'
    simp [execOp, h.op, hρ _ _ hx, hρ _ _ hy, Instr.index, asIntOf, run_und hu, h0, hu']) K

theorem R.indexStrA {t : TypeId} {x y : Operand} {k : IntKind} {s : ByteArray} {i : Int} (h : At X ops fr o (.index t x y) d) (hx : evO fr x = some (.string s)) (hy : evO fr y = some (.int k i)) (hu : X.P.underlying t = some .string)
    (h0 : 0 ≤ i) (h1 : i < s.size) (K : ∀ c : Nat, (bs s)[i.toNat]? = some c → c < 256 → GOps X ops Q rest ((d, .int .u8 (c : Int)) :: fr) ds G) : GOps X ops Q (o :: rest) fr ds G := by
  obtain ⟨c, hc, hb⟩ := bs_some s i.toNat (by omega)
  exact R.indexStr h hx hy hu h0 hc (K c hc hb)

theorem R.load_own {t : TypeId} {x : Operand} {b f n : Nat} {C : Array Value} {e : TypeId} {z : Nat × Nat} {dsc : TypeDesc} {cs : List Value} (h : At X ops fr o (.load t x) d) (hx : evO fr x = some (.pointer (some ⟨b, f, none⟩))) (hu : X.P.underlying t = some dsc) (ha : isA dsc = true) (hz : ∀ w, (sizeOf t).run X.P w = .ok n w)
    (hm : (b, Know.exact (.cells C e z)) ∈ G) (hc : (C.toList.drop f).take n = cs) (hn : cs.length = n)
    (K : GOps X ops Q rest ((d, .agg cs.toArray) :: fr) ds G) : GOps X ops Q (o :: rest) fr ds G := by
  refine R.loadA h hx hu ha hz (fun j v hv => .own hm ?_) hn K
  subst hc
  have hj : j < n := by
    rcases Nat.lt_or_ge j n with hj | hj
    · exact hj
    · rw [List.getElem?_eq_none (by omega)] at hv; cases hv
  rw [List.getElem?_take_of_lt hj, List.getElem?_drop] at hv
  simpa [Know.cell] using hv

theorem R.lenS {t : TypeId} {x : Operand} {A : Option Addr} {n c : Nat} {e : TypeId} {ats : Array TypeId} (h : At X ops fr o (.call { callee := .builtin .len, args := #[x], argTypes := ats }) d) (hat : ats[0]? = some t) (hx : evO fr x = some (.slice A n c)) (hu : X.P.underlying t = some (.slice e))
    (K : GOps X ops Q rest ((d, .int .i64 n) :: fr) ds G) : GOps X ops Q (o :: rest) fr ds G :=
  R.val h (by simp) (fun ρ w hρ hw => by
    simp [execOp, h.op, resolve, invoke, builtin, Builtin.len_, hρ _ _ hx, hat, run_und hu, goInt]) K

theorem R.lenStr {t : TypeId} {x : Operand} {s : ByteArray} {ats : Array TypeId} (h : At X ops fr o (.call { callee := .builtin .len, args := #[x], argTypes := ats }) d) (hat : ats[0]? = some t) (hx : evO fr x = some (.string s)) (hu : X.P.underlying t = some .string)
    (K : GOps X ops Q rest ((d, .int .i64 s.size) :: fr) ds G) : GOps X ops Q (o :: rest) fr ds G :=
  R.val h (by simp) (fun ρ w hρ hw => by
    simp [execOp, h.op, resolve, invoke, builtin, Builtin.len_, hρ _ _ hx, hat, run_und hu, goInt]) K
end memrules

end Go.Proofs.YtgjmandjhjfgkaaDoor.Gl
