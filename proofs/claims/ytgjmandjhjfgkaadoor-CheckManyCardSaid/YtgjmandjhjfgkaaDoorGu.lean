import Derived.Test.YtgjmandjhjfgkaaDoorGt
namespace Go.Proofs.YtgjmandjhjfgkaaDoor.Gl
open Go.RowKit Go.Shelf
set_option linter.unusedVariables false
set_option linter.unnecessarySimpa false
set_option linter.unusedSimpArgs false

/-! ### Maps -/
def easyKey : TypeDesc → Bool
  | .int _ | .string | .bool => true
  | _ => false
section
variable {P : Program} {w : World}
theorem run_checkKey_easy {kt : TypeId} {kd : TypeDesc} (hk : P.underlying kt = some kd) (he : easyKey kd = true) (e : Bool) (n : Nat) (v : Value) : (Instr.checkKey e (n + 1) kt v).run P w = .ok () w := by
  rw [Instr.checkKey, Sem.run_bind, run_und hk]
  cases kd <;> first | (cases he; done) | (cases v <;> rfl)
theorem run_findKey {kt : TypeId} {kd : TypeDesc} {k : Value} {es : List MapEntry} {r : Option (Nat × Value)} (hk : P.underlying kt = some kd) (hf : Instr.findNow kd k es 0 = some r) : (Instr.findKey kt k es).run P w = .ok r w := by
  rw [Instr.findKey, Sem.run_bind, run_und hk]
  simp [hf]
theorem run_getMap {b : Nat} {es : Array MapEntry} {clock : Nat} (h : w.heap[b]? = some (.map es clock)) : (getObj b).run P w = .ok (.map es clock) w := by simp [getObj, Sem.run, h]
theorem run_setMap {b : Nat} {es : Array MapEntry} {clock : Nat} {o : Obj} (h : w.heap[b]? = some (.map es clock)) : (setObj b o).run P w = .ok () { w with heap := w.heap.setIfInBounds b o } := by simp [setObj, Sem.run, h]

theorem run_mapNew {t kt et : TypeId} {kd : TypeDesc} {b : Nat} {es : Array MapEntry} {clock : Nat} {k v : Value} (hu : P.underlying t = some (.map kt et)) (hk : P.underlying kt = some kd) (he : easyKey kd = true) (hg : w.heap[b]? = some (.map es clock)) (hf : Instr.findNow kd k es.toList 0 = some none) :
    (Instr.mapUpdate t (.map (some b)) k v).run P w = .ok () { w with heap := w.heap.setIfInBounds b (.map (es.push { key := k, val := v, born := clock }) (clock + 1)) } := by
  simp only [Instr.mapUpdate, Sem.run_bind, run_und hu, Result.andThen_ok, run_getMap hg, run_checkKey_easy hk he, run_findKey hk hf, run_setMap hg]
theorem run_mapOld {t kt et : TypeId} {kd : TypeDesc} {b i : Nat} {es : Array MapEntry} {clock : Nat} {k v u : Value} (hu : P.underlying t = some (.map kt et)) (hk : P.underlying kt = some kd) (he : easyKey kd = true) (hg : w.heap[b]? = some (.map es clock)) (hf : Instr.findNow kd k es.toList 0 = some (some (i, u)))
    (hs : Instr.sameBits 10000 (((es[i]?).map (·.key)).getD k) k = true) :
    (Instr.mapUpdate t (.map (some b)) k v).run P w = .ok () { w with heap := w.heap.setIfInBounds b (.map (es.modify i fun e => { e with key := k, val := v }) clock) } := by
  simp only [Instr.mapUpdate, Sem.run_bind, run_und hu, Result.andThen_ok, run_getMap hg, run_checkKey_easy hk he, run_findKey hk hf, Instr.keyThatStays, hs, if_true, Sem.run_pure, run_setMap hg]
theorem run_lookup_some {t kt et : TypeId} {kd : TypeDesc} {b i : Nat} {es : Array MapEntry} {clock : Nat} {k u : Value} (hu : P.underlying t = some (.map kt et)) (hk : P.underlying kt = some kd) (he : easyKey kd = true) (hg : w.heap[b]? = some (.map es clock)) (hf : Instr.findNow kd k es.toList 0 = some (some (i, u))) :
    (Instr.lookup t (.map (some b)) k false).run P w = .ok u w := by
  simp only [Instr.lookup, Sem.run_bind, run_und hu, Result.andThen_ok, run_getMap hg, run_checkKey_easy hk he, run_findKey hk hf, Sem.run_pure]
  rfl
theorem run_lookup_none {t kt et : TypeId} {kd : TypeDesc} {b : Nat} {es : Array MapEntry} {clock : Nat} {k z : Value} (hu : P.underlying t = some (.map kt et)) (hk : P.underlying kt = some kd) (he : easyKey kd = true) (hg : w.heap[b]? = some (.map es clock)) (hf : Instr.findNow kd k es.toList 0 = some none)
    (hz : (zeroValue et).run P w = .ok z w) : (Instr.lookup t (.map (some b)) k false).run P w = .ok z w := by
  simp only [Instr.lookup, Sem.run_bind, run_und hu, Result.andThen_ok, run_getMap hg, run_checkKey_easy hk he, run_findKey hk hf, Sem.run_pure, hz]
  rfl
end

section
variable {X : Cx} {Q : Post} {fr : Fr} {ds : List Deferred} {G : Hp} {ops : Array Oper} {o : Oper} {rest : List Oper} {d : Nat}
theorem R.makeMap {t : TypeId} (h : At X ops fr o (.makeMap t none) d) (K : ∀ b, GOps X ops Q rest ((d, .map (some b)) :: fr) ds ((b, .exact (.map #[] 0)) :: G)) : GOps X ops Q (o :: rest) fr ds G :=
  R.stepW h (by simp) fun ρ w hρ hw => ⟨_, _, _, by
    simp only [execOp, h.op, Option.map_none, Sem.run_bind, run_makeMap, Result.andThen_ok]
    rfl, hw.alloc _, K w.heap.size⟩

theorem Sat.setMap {w0 w : World} {G1 G2 : Hp} {b : Nat} {o o' : Obj} (h : Sat w0 (G1 ++ (b, .exact o) :: G2) w) (ho : coolO o' := by first | exact rfl | exact trivial) : Sat w0 (G1 ++ (b, .exact o') :: G2) { w with heap := w.heap.setIfInBounds b o' } := by
  have hl : b < w.heap.size := h.lt (List.mem_append_right _ List.mem_cons_self)
  exact Sat.turn h rfl rfl rfl (by simp) (fun i hi => by
    show (w.heap.setIfInBounds b o')[i]? = _
    rw [Array.getElem?_setIfInBounds, if_neg (fun e => hi e.symm)]) (by simp [Know.holds, hl]) ho

def hit (z : Value) : Option (Nat × Value) → Value
  | some (_, u) => u
  | none => z
def putOp (t : TypeId) (m k x : Operand) : Op → Prop := fun op => op = .mapUpdate t m k x ∨ op = .insert t m k x
/-- A new key. -/
theorem R.putNew {t kt et : TypeId} {kd : TypeDesc} {m k x : Operand} {b : Nat} {key v : Value} {es : Array MapEntry} {clock : Nat} {G1 G2 : Hp} (ho : putOp t m k x o.op) (hd : o.dst = none) (hon : wantedO ops fr o = some true) (hm : evO fr m = some (.map (some b))) (hk : evO fr k = some key) (hx : evO fr x = some v)
    (hu : X.P.underlying t = some (.map kt et)) (hkt : X.P.underlying kt = some kd) (he : easyKey kd = true) (hG : G = G1 ++ (b, .exact (.map es clock)) :: G2) (hf : Instr.findNow kd key es.toList 0 = some none)
    (K : GOps X ops Q rest fr ds (G1 ++ (b, .exact (.map (es.push { key := key, val := v, born := clock }) (clock + 1))) :: G2)) : GOps X ops Q (o :: rest) fr ds G := by
  subst hG
  exact GOps.unit hon hd (fun c => by rcases ho with ho | ho <;> rw [ho] <;> simp) (fun ρ w hρ hw => by
    have hg := (hw.own b _ (List.mem_append_right _ List.mem_cons_self)).2
    refine ⟨_, ?_, hw.setMap⟩
    rcases ho with ho | ho <;>
    · simp only [execOp, ho, hρ _ _ hm, hρ _ _ hk, hρ _ _ hx, Sem.run_bind, run_mapNew hu hkt he hg hf, Result.andThen_ok]
      rfl) K
/-- A key that is there. -/
theorem R.putOld {t kt et : TypeId} {kd : TypeDesc} {m k x : Operand} {b i : Nat} {key v u : Value} {es : Array MapEntry} {clock : Nat} {G1 G2 : Hp} (ho : putOp t m k x o.op) (hd : o.dst = none) (hon : wantedO ops fr o = some true) (hm : evO fr m = some (.map (some b))) (hk : evO fr k = some key) (hx : evO fr x = some v)
    (hu : X.P.underlying t = some (.map kt et)) (hkt : X.P.underlying kt = some kd) (he : easyKey kd = true) (hG : G = G1 ++ (b, .exact (.map es clock)) :: G2) (hf : Instr.findNow kd key es.toList 0 = some (some (i, u))) (hs : Instr.sameBits 10000 (((es[i]?).map (·.key)).getD key) key = true)
    (K : GOps X ops Q rest fr ds (G1 ++ (b, .exact (.map (es.modify i fun e => { e with key := key, val := v }) clock)) :: G2)) : GOps X ops Q (o :: rest) fr ds G := by
  subst hG
  exact GOps.unit hon hd (fun c => by rcases ho with ho | ho <;> rw [ho] <;> simp) (fun ρ w hρ hw => by
    have hg := (hw.own b _ (List.mem_append_right _ List.mem_cons_self)).2
    refine ⟨_, ?_, hw.setMap⟩
    rcases ho with ho | ho <;>
    · simp only [execOp, ho, hρ _ _ hm, hρ _ _ hk, hρ _ _ hx, Sem.run_bind, run_mapOld hu hkt he hg hf hs, Result.andThen_ok]
      rfl) K
theorem R.lookup {t kt et : TypeId} {kd : TypeDesc} {m k : Operand} {b : Nat} {key z v : Value} {es : Array MapEntry} {clock : Nat} {r : Option (Nat × Value)} (h : At X ops fr o (.lookup t m k false) d) (hm : evO fr m = some (.map (some b))) (hk : evO fr k = some key)
    (hu : X.P.underlying t = some (.map kt et)) (hkt : X.P.underlying kt = some kd) (he : easyKey kd = true) (hz : ∀ w, (zeroValue et).run X.P w = .ok z w) (hG : (b, Know.exact (.map es clock)) ∈ G) (hf : Instr.findNow kd key es.toList 0 = some r) (hv : hit z r = v)
    (K : GOps X ops Q rest ((d, v) :: fr) ds G) : GOps X ops Q (o :: rest) fr ds G := by
  subst hv
  exact R.val h (by simp) (fun ρ w hρ hw => by
    have hg := (hw.own b _ hG).2
    cases r with
    | none => simp only [execOp, h.op, hρ _ _ hm, hρ _ _ hk, Sem.run_bind, run_lookup_none hu hkt he hg hf (hz w), Result.andThen_ok]; rfl
    | some p =>
      obtain ⟨i, u⟩ := p
      simp only [execOp, h.op, hρ _ _ hm, hρ _ _ hk, Sem.run_bind, run_lookup_some hu hkt he hg hf, Result.andThen_ok]; rfl) K

theorem Hs.swapDrop (x y : Nat × Know) (G : Hp) : Hs (x :: y :: G) (x :: G) := Hs.sub (List.Sublist.cons_cons x (List.sublist_cons_self _ _))
/-! ### Functions against nil -/
theorem run_guard_fn (b : BinOp) (t : TypeId) (x y : Operand) (f : Fn) (c c' : Array Value) (P : Program) (w : World) : (eqGuard b t x y (.func f c c') .nilFunc).run P w = .ok () w := by
  unfold eqGuard; cases b <;> simp
theorem run_guard_nn (b : BinOp) (t : TypeId) (x y : Operand) (P : Program) (w : World) : (eqGuard b t x y .nilFunc .nilFunc).run P w = .ok () w := by
  unfold eqGuard; cases b <;> simp
theorem R.neFn {t u : TypeId} {x y : Operand} {f : Fn} {c c' : Array Value} {pas rs : Array TypeId} {va : Bool} (h : At X ops fr o (.binOp .neq t x y u) d) (hx : evO fr x = some (.func f c c')) (hy : evO fr y = some .nilFunc) (hu : X.P.underlying t = some (.func pas rs va))
    (K : GOps X ops Q rest ((d, .bool true) :: fr) ds G) : GOps X ops Q (o :: rest) fr ds G :=
  R.bin h hx hy (fun w _ => by
    rw [Sem.run_bind, run_guard_fn, Result.andThen_ok]
    have : (Op.equal t (.func f c c') .nilFunc).run X.P w = .ok false w := by
      rw [Op.equal, Op.maxDepth, Op.equalIn, Sem.run_bind, run_und hu]; rfl
    simp [binOp, this]) K
theorem R.neNil {t u : TypeId} {x y : Operand} {pas rs : Array TypeId} {va : Bool} (h : At X ops fr o (.binOp .neq t x y u) d) (hx : evO fr x = some .nilFunc) (hy : evO fr y = some .nilFunc) (hu : X.P.underlying t = some (.func pas rs va))
    (K : GOps X ops Q rest ((d, .bool false) :: fr) ds G) : GOps X ops Q (o :: rest) fr ds G :=
  R.bin h hx hy (fun w _ => by
    rw [Sem.run_bind, run_guard_nn, Result.andThen_ok]
    have : (Op.equal t .nilFunc .nilFunc).run X.P w = .ok true w := by
      rw [Op.equal, Op.maxDepth, Op.equalIn, Sem.run_bind, run_und hu]; rfl
    simp [binOp, this]) K
end
end Go.Proofs.YtgjmandjhjfgkaaDoor.Gl
