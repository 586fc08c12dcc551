import Derived.Test.YtgjmandjhjfgkaaDoorGq
namespace Go.Proofs.YtgjmandjhjfgkaaDoor.Gl
open Go.RowKit Go.Shelf
set_option linter.unusedVariables false
set_option linter.unnecessarySimpa false
set_option linter.unusedSimpArgs false

/-- The operation yields v and leaves the world as it is, wherever these slots and this heap are known. -/
structure GV (X : Cx) (ops : Array Oper) (fr : Fr) (G : Hp) (o : Oper) (d : Nat) (v : Value) : Prop where
  dst : o.dst = some d
  lt : Nat.blt d X.nt = true
  on : wantedO ops fr o = some true
  run : ∀ (ρ : Operand → Value) w, (∀ x v, evO fr x = some v → ρ x = v) → Sat X.w0 G w → (execOp ρ o).run X.P w = .ok (.value v) w

section
variable {X : Cx} {fr : Fr} {G : Hp} {ops : Array Oper} {o : Oper} {d : Nat}
theorem GV.of {op : Op} {v : Value} (h : At X ops fr o op d) (hnd : ∀ c, op ≠ .defer c)
    (hrun : ∀ (ρ : Operand → Value) w, (∀ x v, evO fr x = some v → ρ x = v) → Sat X.w0 G w → (execOp ρ o).run X.P w = .ok (.value v) w) : GV X ops fr G o d v := ⟨h.dst, h.lt, h.on, hrun⟩
theorem V.move {x : Operand} {v : Value} (h : At X ops fr o (.move x) d) (hx : evO fr x = some v) : GV X ops fr G o d (v) :=
  GV.of h (by simp) (fun ρ w hρ hw => by simp [execOp, h.op, hρ _ _ hx])
theorem V.assign {x : Operand} {v : Value} (h : At X ops fr o (.assign x) d) (hx : evO fr x = some v) : GV X ops fr G o d (v) :=
  GV.of h (by simp) (fun ρ w hρ hw => by simp [execOp, h.op, hρ _ _ hx])
theorem V.pick_t {c x y : Operand} {v : Value} (h : At X ops fr o (.pick c x y) d) (hc : evO fr c = some (.bool true)) (hx : evO fr x = some v) : GV X ops fr G o d (v) :=
  GV.of h (by simp) (fun ρ w hρ hw => by simp [execOp, h.op, hρ _ _ hx, hρ _ _ hc, asBool])
theorem V.pick_f {c x y : Operand} {v : Value} (h : At X ops fr o (.pick c x y) d) (hc : evO fr c = some (.bool false)) (hy : evO fr y = some v) : GV X ops fr G o d (v) :=
  GV.of h (by simp) (fun ρ w hρ hw => by simp [execOp, h.op, hρ _ _ hy, hρ _ _ hc, asBool])
theorem V.bin {b : BinOp} {t u : TypeId} {x y : Operand} {p q v : Value} (h : At X ops fr o (.binOp b t x y u) d) (hx : evO fr x = some p) (hy : evO fr y = some q)
    (hrun : ∀ w, Sat X.w0 G w → (do eqGuard b t x y p q; binOp b t p q : Sem Value).run X.P w = .ok v w) : GV X ops fr G o d (v) :=
  GV.of h (by simp) (fun ρ w hρ hw => by
    have := hrun w hw
    simp only [execOp, h.op, hρ _ _ hx, hρ _ _ hy]
    rw [Sem.run_bind, this]
    rfl)
theorem V.binI {b : BinOp} {t u : TypeId} {x y : Operand} {k : IntKind} {m n : Int} {v : Value} (h : At X ops fr o (.binOp b t x y u) d) (hx : evO fr x = some (.int k m)) (hy : evO fr y = some (.int k n))
    (hrun : ∀ w, (binOp b t (.int k m) (.int k n)).run X.P w = .ok v w) : GV X ops fr G o d (v) :=
  V.bin h hx hy (fun w _ => by rw [Sem.run_bind, run_guard_int]; exact hrun w)
theorem V.add {t u : TypeId} {x y : Operand} {k : IntKind} {m n r : Int} (h : At X ops fr o (.binOp .add t x y u) d) (hx : evO fr x = some (.int k m)) (hy : evO fr y = some (.int k n)) (hr : k.wrap (m + n) = r)
    : GV X ops fr G o d (.int k r) := V.binI h hx hy (fun w => by simp [binOp, Op.intArith, hr])
theorem V.sub {t u : TypeId} {x y : Operand} {k : IntKind} {m n r : Int} (h : At X ops fr o (.binOp .sub t x y u) d) (hx : evO fr x = some (.int k m)) (hy : evO fr y = some (.int k n)) (hr : k.wrap (m - n) = r)
    : GV X ops fr G o d (.int k r) := V.binI h hx hy (fun w => by simp [binOp, Op.intArith, hr])
theorem V.mul {t u : TypeId} {x y : Operand} {k : IntKind} {m n r : Int} (h : At X ops fr o (.binOp .mul t x y u) d) (hx : evO fr x = some (.int k m)) (hy : evO fr y = some (.int k n)) (hr : k.wrap (m * n) = r)
    : GV X ops fr G o d (.int k r) := V.binI h hx hy (fun w => by simp [binOp, Op.intArith, hr])
theorem V.lss {t u : TypeId} {x y : Operand} {k : IntKind} {m n : Int} (h : At X ops fr o (.binOp .lss t x y u) d) (hx : evO fr x = some (.int k m)) (hy : evO fr y = some (.int k n))
    : GV X ops fr G o d (.bool (decide (m < n))) := V.binI h hx hy (fun w => by cases k <;> simp [binOp, Op.intCmp])
theorem V.leq {t u : TypeId} {x y : Operand} {k : IntKind} {m n : Int} (h : At X ops fr o (.binOp .leq t x y u) d) (hx : evO fr x = some (.int k m)) (hy : evO fr y = some (.int k n))
    : GV X ops fr G o d (.bool (decide (m ≤ n))) := V.binI h hx hy (fun w => by cases k <;> simp [binOp, Op.intCmp])
theorem V.gtr {t u : TypeId} {x y : Operand} {k : IntKind} {m n : Int} (h : At X ops fr o (.binOp .gtr t x y u) d) (hx : evO fr x = some (.int k m)) (hy : evO fr y = some (.int k n))
    : GV X ops fr G o d (.bool (decide (m > n))) := V.binI h hx hy (fun w => by cases k <;> simp [binOp, Op.intCmp])
theorem V.geq {t u : TypeId} {x y : Operand} {k : IntKind} {m n : Int} (h : At X ops fr o (.binOp .geq t x y u) d) (hx : evO fr x = some (.int k m)) (hy : evO fr y = some (.int k n))
    : GV X ops fr G o d (.bool (decide (m ≥ n))) := V.binI h hx hy (fun w => by cases k <;> simp [binOp, Op.intCmp])
theorem V.eqI {t u : TypeId} {x y : Operand} {k : IntKind} {m n : Int} (h : At X ops fr o (.binOp .eql t x y u) d) (hx : evO fr x = some (.int k m)) (hy : evO fr y = some (.int k n))
    : GV X ops fr G o d (.bool (decide (m = n))) := V.binI h hx hy (fun w => by cases k <;> (simp [binOp, Op.intCmp]; rfl))
theorem V.neI {t u : TypeId} {x y : Operand} {k : IntKind} {m n : Int} (h : At X ops fr o (.binOp .neq t x y u) d) (hx : evO fr x = some (.int k m)) (hy : evO fr y = some (.int k n))
    : GV X ops fr G o d (.bool (decide (m ≠ n))) := V.binI h hx hy (fun w => by cases k <;> (simp [binOp, Op.intCmp, bne]; rfl))
theorem V.bits {b : BinOp} {t u : TypeId} {x y : Operand} {k : IntKind} {m n r : Int} (hb : b = .and ∨ b = .or ∨ b = .xor ∨ b = .andNot) (h : At X ops fr o (.binOp b t x y u) d) (hx : evO fr x = some (.int k m)) (hy : evO fr y = some (.int k n)) (hr : Go.bits b k m n = r)
    : GV X ops fr G o d (.int k r) := V.binI h hx hy (fun w => by subst hr; rcases hb with rfl | rfl | rfl | rfl <;> cases k <;> simp [binOp, Op.intBits, Go.bits])
theorem V.and {t u : TypeId} {x y : Operand} {k : IntKind} {m n r : Int} (h : At X ops fr o (.binOp .and t x y u) d) (hx : evO fr x = some (.int k m)) (hy : evO fr y = some (.int k n)) (hr : Go.bits .and k m n = r)
    : GV X ops fr G o d (.int k r) := V.bits (.inl rfl) h hx hy hr
theorem V.or {t u : TypeId} {x y : Operand} {k : IntKind} {m n r : Int} (h : At X ops fr o (.binOp .or t x y u) d) (hx : evO fr x = some (.int k m)) (hy : evO fr y = some (.int k n)) (hr : Go.bits .or k m n = r)
    : GV X ops fr G o d (.int k r) := V.bits (.inr (.inl rfl)) h hx hy hr
theorem V.shl {t u : TypeId} {x y : Operand} {k k' : IntKind} {m n r : Int} (h : At X ops fr o (.binOp .shl t x y u) d) (hx : evO fr x = some (.int k m)) (hy : evO fr y = some (.int k' n)) (h0 : 0 ≤ n) (hr : k.wrap (m * 2 ^ (min n.toNat k.bits)) = r)
    : GV X ops fr G o d (.int k r) :=
  V.bin h hx hy (fun w _ => by rw [Sem.run_bind, run_guard_int]; subst hr; simp [binOp, Op.shift, show ¬ n < 0 by omega])
theorem V.quo {t u : TypeId} {x y : Operand} {k : IntKind} {m n r : Int} (h : At X ops fr o (.binOp .quo t x y u) d) (hx : evO fr x = some (.int k m)) (hy : evO fr y = some (.int k n)) (h0 : n ≠ 0) (hr : k.wrap (m.tdiv n) = r)
    : GV X ops fr G o d (.int k r) := V.binI h hx hy (fun w => by simp [binOp, Op.intDiv, hr, h0])
theorem V.rem {t u : TypeId} {x y : Operand} {k : IntKind} {m n r : Int} (h : At X ops fr o (.binOp .rem t x y u) d) (hx : evO fr x = some (.int k m)) (hy : evO fr y = some (.int k n)) (h0 : n ≠ 0) (hr : m.tmod n = r)
    : GV X ops fr G o d (.int k r) := V.binI h hx hy (fun w => by simp [binOp, Op.intDiv, hr, h0])
theorem V.conv {s t : TypeId} {x : Operand} {k k' : IntKind} {ts : TypeDesc} {m r : Int} (h : At X ops fr o (.convert s t x) d) (hx : evO fr x = some (.int k m)) (hs : X.P.underlying s = some ts) (ht : X.P.underlying t = some (.int k')) (hr : k'.wrap m = r)
    : GV X ops fr G o d (.int k' r) :=
  GV.of h (by simp) (fun ρ w hρ hw => by subst hr; simp [execOp, h.op, hρ _ _ hx, convert, run_und hs, run_und ht, Conv.intToInt])
theorem V.not {t : TypeId} {x : Operand} {b : Bool} (h : At X ops fr o (.unOp .not t x) d) (hx : evO fr x = some (.bool b)) : GV X ops fr G o d (.bool (!b)) :=
  GV.of h (by simp) (fun ρ w hρ hw => by simp [execOp, h.op, hρ _ _ hx, Op.unary])
theorem V.eqS {t u : TypeId} {x y : Operand} {m n : ByteArray} (h : At X ops fr o (.binOp .eql t x y u) d) (hx : evO fr x = some (.string m)) (hy : evO fr y = some (.string n))
    : GV X ops fr G o d (.bool (m.toList == n.toList)) :=
  V.bin h hx hy (fun w _ => by rw [Sem.run_bind, run_guard_string]; simp [binOp, Op.stringOp])
theorem V.neS {t u : TypeId} {x y : Operand} {m n : ByteArray} (h : At X ops fr o (.binOp .neq t x y u) d) (hx : evO fr x = some (.string m)) (hy : evO fr y = some (.string n))
    : GV X ops fr G o d (.bool (!(m.toList == n.toList))) :=
  V.bin h hx hy (fun w _ => by rw [Sem.run_bind, run_guard_string]; simp [binOp, Op.stringOp])
theorem V.load1 {t : TypeId} {x : Operand} {b f : Nat} {v : Value} {dsc : TypeDesc} (h : At X ops fr o (.load t x) d) (hx : evO fr x = some (.pointer (some ⟨b, f, none⟩))) (hu : X.P.underlying t = some dsc) (ha : isA dsc = false) (hr : Rd X.w0 G b f v)
    : GV X ops fr G o d (v) :=
  GV.of h (by simp) (fun ρ w hρ hw => by simp [execOp, h.op, hρ _ _ hx, Instr.loadAt, run_sureAddr, run_loadVar_one hu ha hw hr])
theorem V.loadA {t : TypeId} {x : Operand} {b f n : Nat} {cs : List Value} {dsc : TypeDesc} (h : At X ops fr o (.load t x) d) (hx : evO fr x = some (.pointer (some ⟨b, f, none⟩))) (hu : X.P.underlying t = some dsc) (ha : isA dsc = true) (hz : ∀ w, (sizeOf t).run X.P w = .ok n w) (hr : Rds X.w0 G b f cs) (hn : cs.length = n)
    : GV X ops fr G o d (.agg cs.toArray) := by
  subst hn
  exact GV.of h (by simp) (fun ρ w hρ hw => by simp [execOp, h.op, hρ _ _ hx, Instr.loadAt, run_sureAddr, run_loadVar_agg hu ha hz hw hr])
theorem V.fieldAddr {s : TypeId} {x : Operand} {i b f n : Nat} {fs : Array Field} {fld : Field} (h : At X ops fr o (.fieldAddr s x i) d) (hx : evO fr x = some (.pointer (some ⟨b, f, none⟩))) (hu : X.P.underlying s = some (.struct fs)) (hf : fs[i]? = some fld)
    (hz : ∀ w, (sizeOf fld.type).run X.P w = .ok (n + 1) w) : GV X ops fr G o d (.pointer (some ⟨b, f + fld.offset, none⟩)) :=
  GV.of h (by simp) (fun ρ w hρ hw => by
    simp [execOp, h.op, hρ _ _ hx, Instr.fieldAt, run_und hu, hf, run_sureAddr, fieldPlace, hz, add_none])
theorem V.indexAddrS {t e : TypeId} {x y : Operand} {k : IntKind} {b f n c z : Nat} {i : Int} (h : At X ops fr o (.indexAddr t x y) d) (hx : evO fr x = some (.slice (some ⟨b, f, none⟩) n c)) (hy : evO fr y = some (.int k i)) (hu : X.P.underlying t = some (.slice e))
    (hz : ∀ w, (sizeOf e).run X.P w = .ok z w) (h0 : 0 ≤ i) (h1 : i < n) : GV X ops fr G o d (.pointer (some ⟨b, f + i.toNat * z, none⟩)) :=
  GV.of h (by simp) (fun ρ w hρ hw => by
    simp [execOp, h.op, hρ _ _ hx, hρ _ _ hy, Instr.indexAt, asIntOf, run_und hu, hz, h0, h1, add_none])
theorem V.indexAddrA {t e : TypeId} {x y : Operand} {k : IntKind} {b f n z : Nat} {i : Int} (h : At X ops fr o (.indexAddr t x y) d) (hx : evO fr x = some (.pointer (some ⟨b, f, none⟩))) (hy : evO fr y = some (.int k i)) (hu : X.P.underlying t = some (.array n e))
    (hz : ∀ w, (sizeOf e).run X.P w = .ok z w) (h0 : 0 ≤ i) (h1 : i < n) : GV X ops fr G o d (.pointer (some ⟨b, f + i.toNat * z, none⟩)) :=
  GV.of h (by simp) (fun ρ w hρ hw => by
    simp [execOp, h.op, hρ _ _ hx, hρ _ _ hy, Instr.indexAt, asIntOf, run_und hu, hz, h0, h1, run_sureAddr, add_none])
theorem V.build {t : TypeId} {parts : Array (Nat × Operand)} {vs : List (Nat × Value)} {cells : Array Value} (h : At X ops fr o (.build t parts) d) (hp : parts.toList.map (fun p => (evO fr p.2).map fun v => (p.1, v)) = vs.map some)
    (hb : ∀ w, (Instr.build t vs.toArray).run X.P w = .ok (.agg cells) w) : GV X ops fr G o d (.agg cells) :=
  GV.of h (by simp) (fun ρ w hρ hw => by
    have e : parts.map (fun p => (p.1, ρ p.2)) = vs.toArray := by
      obtain ⟨l⟩ := parts
      simp only [List.map_toArray]
      congr 1
      simp only at hp
      clear hb h
      induction l generalizing vs with
      | nil => cases vs with
        | nil => rfl
        | cons v vs => simp at hp
      | cons x l ih => cases vs with
        | nil => simp at hp
        | cons v vs =>
          simp only [List.map_cons, List.cons.injEq, Option.map_eq_some_iff] at hp
          obtain ⟨⟨u, hu, rfl⟩, h2⟩ := hp
          rw [List.map_cons, hρ _ _ hu, ih h2]
    have e' : (parts.map fun (i, x) => (i, ρ x)) = vs.toArray := e
    simp only [execOp, h.op, e', Sem.run_bind, hb w, Result.andThen_ok]
    rfl)
theorem V.eqA {t u : TypeId} {x y : Operand} {p q : Array Value} {r : Bool} (h : At X ops fr o (.binOp .eql t x y u) d) (hx : evO fr x = some (.agg p)) (hy : evO fr y = some (.agg q))
    (hg : ∀ w, (eqGuard .eql t x y (.agg p) (.agg q)).run X.P w = .ok () w) (he : ∀ w, (Op.equal t (.agg p) (.agg q)).run X.P w = .ok r w)
    : GV X ops fr G o d (.bool r) :=
  V.bin h hx hy (fun w _ => by rw [Sem.run_bind, hg w]; simp [binOp, he w])
theorem V.neA {t u : TypeId} {x y : Operand} {p q : Array Value} {r : Bool} (h : At X ops fr o (.binOp .neq t x y u) d) (hx : evO fr x = some (.agg p)) (hy : evO fr y = some (.agg q))
    (hg : ∀ w, (eqGuard .neq t x y (.agg p) (.agg q)).run X.P w = .ok () w) (he : ∀ w, (Op.equal t (.agg p) (.agg q)).run X.P w = .ok r w)
    : GV X ops fr G o d (.bool (!r)) :=
  V.bin h hx hy (fun w _ => by rw [Sem.run_bind, hg w]; simp [binOp, he w])
theorem V.eqB {t u : TypeId} {x y : Operand} {p q : Bool} (h : At X ops fr o (.binOp .eql t x y u) d) (hx : evO fr x = some (.bool p)) (hy : evO fr y = some (.bool q)) (hu : X.P.underlying t = some .bool)
    : GV X ops fr G o d (.bool (p == q)) :=
  V.bin h hx hy (fun w _ => by rw [Sem.run_bind, run_guard_bool]; rw [show (binOp .eql t (.bool p) (.bool q)) = (Op.equalIn (9999 + 1) t (.bool p) (.bool q)) >>= (fun b => pure (.bool b)) from rfl, Result.andThen_ok, Sem.run_bind, run_equalIn_bool hu]; rfl)
theorem V.extract {x : Operand} {i : Nat} {vs : Array Value} {v : Value} (h : At X ops fr o (.extract x i) d) (hx : evO fr x = some (.tuple vs)) (hv : vs[i]? = some v) : GV X ops fr G o d (v) :=
  GV.of h (by simp) (fun ρ w hρ hw => by simp [execOp, h.op, hρ _ _ hx, Instr.extract, hv])
theorem V.makeFunc {fn : Fn} {first cap : Array Operand} {vs us : List Value} (h : At X ops fr o (.makeFunc fn first cap) d) (h1 : first.toList.map (evO fr) = vs.map some) (h2 : cap.toList.map (evO fr) = us.map some)
    : GV X ops fr G o d (.func fn vs.toArray us.toArray) :=
  GV.of h (by simp) (fun ρ w hρ hw => by
    have e1 : ∀ {xs : Array Operand} {vs : List Value}, xs.toList.map (evO fr) = vs.map some → xs.map ρ = vs.toArray := by
      rintro ⟨l⟩ vs hl
      simp only [List.map_toArray]
      congr 1
      simp only at hl
      induction l generalizing vs with
      | nil => cases vs with
        | nil => rfl
        | cons v vs => simp at hl
      | cons x l ih => cases vs with
        | nil => simp at hl
        | cons v vs =>
          simp only [List.map_cons, List.cons.injEq] at hl
          rw [List.map_cons, hρ x v hl.1, ih hl.2]
    simp [execOp, h.op, e1 h1, e1 h2, Instr.makeFunc])
theorem V.indexStr {t : TypeId} {x y : Operand} {k : IntKind} {s : ByteArray} {i : Int} {c : Nat} (h : At X ops fr o (.index t x y) d) (hx : evO fr x = some (.string s)) (hy : evO fr y = some (.int k i)) (hu : X.P.underlying t = some .string)
    (h0 : 0 ≤ i) (hc : (bs s)[i.toNat]? = some c) : GV X ops fr G o d (.int .u8 (c : Int)) :=
  GV.of h (by simp) (fun ρ w hρ hw => by
    have hc' : ∃ u : UInt8, s[i.toNat]? = some u ∧ u.toNat = c := by
      obtain ⟨⟨l⟩⟩ := s
      simp only [bs, List.getElem?_map, Option.map_eq_some_iff] at hc
      obtain ⟨u, hu, rfl⟩ := hc
      have hlt : i.toNat < l.length := (List.getElem?_eq_some_iff.1 hu).1
      refine ⟨u, ?_, rfl⟩
      have := (List.getElem?_eq_some_iff.1 hu).2
      simp only [getElem?_def, ByteArray.size, Array.size, hlt, dif_pos]
      congr 1
    obtain ⟨u, hu', rfl⟩ := hc'
    simp [execOp, h.op, hρ _ _ hx, hρ _ _ hy, Instr.index, asIntOf, run_und hu, h0, hu'])
theorem V.load_own {t : TypeId} {x : Operand} {b f n : Nat} {C : Array Value} {e : TypeId} {z : Nat × Nat} {dsc : TypeDesc} {cs : List Value} (h : At X ops fr o (.load t x) d) (hx : evO fr x = some (.pointer (some ⟨b, f, none⟩))) (hu : X.P.underlying t = some dsc) (ha : isA dsc = true) (hz : ∀ w, (sizeOf t).run X.P w = .ok n w)
    (hm : (b, Know.exact (.cells C e z)) ∈ G) (hc : (C.toList.drop f).take n = cs) (hn : cs.length = n)
    : GV X ops fr G o d (.agg cs.toArray) := by
  refine V.loadA h hx hu ha hz (fun j v hv => .own hm ?_) hn
  subst hc
  have hj : j < n := by
    rcases Nat.lt_or_ge j n with hj | hj
    · exact hj
    · rw [List.getElem?_eq_none (by omega)] at hv; cases hv
  rw [List.getElem?_take_of_lt hj, List.getElem?_drop] at hv
  simpa [Know.cell] using hv
theorem V.lenS {t : TypeId} {x : Operand} {A : Option Addr} {n c : Nat} {e : TypeId} {ats : Array TypeId} (h : At X ops fr o (.call { callee := .builtin .len, args := #[x], argTypes := ats }) d) (hat : ats[0]? = some t) (hx : evO fr x = some (.slice A n c)) (hu : X.P.underlying t = some (.slice e))
    : GV X ops fr G o d (.int .i64 n) :=
  GV.of h (by simp) (fun ρ w hρ hw => by
    simp [execOp, h.op, resolve, invoke, builtin, Builtin.len_, hρ _ _ hx, hat, run_und hu, goInt])
theorem V.lenStr {t : TypeId} {x : Operand} {s : ByteArray} {ats : Array TypeId} (h : At X ops fr o (.call { callee := .builtin .len, args := #[x], argTypes := ats }) d) (hat : ats[0]? = some t) (hx : evO fr x = some (.string s)) (hu : X.P.underlying t = some .string)
    : GV X ops fr G o d (.int .i64 s.size) :=
  GV.of h (by simp) (fun ρ w hρ hw => by
    simp [execOp, h.op, resolve, invoke, builtin, Builtin.len_, hρ _ _ hx, hat, run_und hu, goInt])
theorem V.sliceStrL {t : TypeId} {x y : Operand} {k : IntKind} {s : ByteArray} {i : Int} (h : At X ops fr o (.slice t x (some y) none none) d) (hx : evO fr x = some (.string s)) (hy : evO fr y = some (.int k i)) (hu : X.P.underlying t = some .string)
    (h0 : 0 ≤ i) (h1 : i ≤ s.size) : GV X ops fr G o d (.string (s.extract i.toNat s.size)) :=
  GV.of h (by simp) (fun ρ w hρ hw => by
    have e := run_slice_string_l w t s hu k i h0 h1
    simp only [execOp, h.op, Option.map_some, Option.map_none, hρ _ _ hx, hρ _ _ hy, Instr.sliceAt, Sem.run_bind, run_und hu, Result.andThen_ok, e]
    rfl)
theorem V.sliceStrH {t : TypeId} {x y : Operand} {k : IntKind} {s : ByteArray} {i : Int} (h : At X ops fr o (.slice t x none (some y) none) d) (hx : evO fr x = some (.string s)) (hy : evO fr y = some (.int k i)) (hu : X.P.underlying t = some .string)
    (h0 : 0 ≤ i) (h1 : i ≤ s.size) : GV X ops fr G o d (.string (s.extract 0 i.toNat)) :=
  GV.of h (by simp) (fun ρ w hρ hw => by
    have e := run_slice_string_h w t s hu k i h0 h1
    simp only [execOp, h.op, Option.map_some, Option.map_none, hρ _ _ hx, hρ _ _ hy, Instr.sliceAt, Sem.run_bind, run_und hu, Result.andThen_ok, e]
    rfl)
theorem V.sliceStrLH {t : TypeId} {x y z : Operand} {k k' : IntKind} {s : ByteArray} {i j : Int} (h : At X ops fr o (.slice t x (some y) (some z) none) d) (hx : evO fr x = some (.string s)) (hy : evO fr y = some (.int k i)) (hz : evO fr z = some (.int k' j)) (hu : X.P.underlying t = some .string)
    (h0 : 0 ≤ i) (h1 : i ≤ j) (h2 : j ≤ s.size) : GV X ops fr G o d (.string (s.extract i.toNat j.toNat)) :=
  GV.of h (by simp) (fun ρ w hρ hw => by
    simp only [execOp, h.op, Option.map_some, Option.map_none, hρ _ _ hx, hρ _ _ hy, hρ _ _ hz, Instr.sliceAt, Sem.run_bind, run_und hu, Result.andThen_ok, Instr.slice, Instr.sliceBounds, Option.isSome_none, Bool.false_eq_true, if_false, Sem.run_pure, Go.run_sliceBound w k' j s.size _ (by omega) h2, Go.run_sliceBound w k i j.toNat _ h0 (by omega)])
theorem V.minI {x y : Operand} {k k' : IntKind} {m n r : Int} {ats : Array TypeId} (h : At X ops fr o (.call { callee := .builtin .min, args := #[x, y], argTypes := ats }) d) (hx : evO fr x = some (.int k m)) (hy : evO fr y = some (.int k' n)) (hr : min m n = r)
    : GV X ops fr G o d (.int k r) :=
  GV.of h (by simp) (fun ρ w hρ hw => by
    have := Lib.run_min_ints (P := X.P) w ats o.type k k' m n
    subst hr
    simp [execOp, h.op, resolve, invoke, builtin, hρ _ _ hx, hρ _ _ hy, this])
theorem V.convBytes {s t e : TypeId} {x : Operand} {b f n c : Nat} {l : List Nat} (h : At X ops fr o (.convert s t x) d) (hx : evO fr x = some (.slice (some ⟨b, f, none⟩) n c)) (hs : X.P.underlying s = some (.slice e)) (he : X.P.underlying e = some (.int .u8)) (ht : X.P.underlying t = some .string)
    (hl : l.length = n) (hr : Rds X.w0 G b f (l.map fun c => Value.int .u8 (c : Nat))) : GV X ops fr G o d (.string (strOf l)) :=
  GV.of h (by simp) (fun ρ w hρ hw => by
    have hc := run_convert_bytes_arg (P := X.P) w s e hs he b f n c (l.map fun (c : Nat) => (c : Int)) (by simpa using hl) (fun i hi => by
      have := (hr i (.int .u8 ((l.getD i 0 : Nat) : Int)) (by simp [List.getElem?_map, List.getElem?_eq_getElem (show i < l.length by omega)])).cell hw
      rw [this]
      simp [List.getD, List.getElem?_map, List.getElem?_eq_getElem (show i < l.length by omega)]) t ht
    have e2 : strOfNums (l.map fun (c : Nat) => (c : Int)) = strOf l := by simp [strOfNums, strOf, List.map_map, Function.comp_def]
    rw [e2] at hc
    simp only [execOp, h.op, hρ _ _ hx, Sem.run_bind, hc, Result.andThen_ok]
    rfl)
end
end Go.Proofs.YtgjmandjhjfgkaaDoor.Gl
