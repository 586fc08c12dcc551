import Derived.Test.YtgjmandjhjfgkaaDoorS10
import Derived.Test.YtgjmandjhjfgkaaDoorF1
namespace Go.Proofs.YtgjmandjhjfgkaaDoor.Gl
open Go.RowKit Go.Shelf
set_option linter.unusedVariables false
set_option linter.unnecessarySimpa false
set_option linter.unusedSimpArgs false
attribute [-simp] List.getD_eq_getElem?_getD



/-! ### plain: slots, patterns, parts, rules -/
def zTm : Tm := ⟨0, ByteArray.empty, ByteArray.empty⟩
def zSl : Sl := ⟨ByteArray.empty, zTm⟩
def zPt : Pt := ⟨zSl, zSl, zSl⟩
def SlOk (s : Sl) : Prop := s.v.size ≤ 1048576 ∧ s.t.text.size ≤ 1048576 ∧ s.t.ext.size ≤ 1048576
def PtOk (p : Pt) : Prop := SlOk p.s0 ∧ SlOk p.s1 ∧ SlOk p.s2
def LtOk (l : Lt) : Prop := PtOk l.pat ∧ SlOk l.a ∧ SlOk l.b
def RlOk (r : Rl) : Prop := PtOk r.head ∧ ∀ l ∈ r.body, LtOk l
def maySl (s : Sl) : Bool := bif emp s.v then mayT s.t else word 32 (bs s.v) && tmEq s.t zTm
def mayPt (p : Pt) : Bool := maySl p.s0 && (maySl p.s1 && maySl p.s2)
def mayLt (l : Lt) : Bool :=
  bif (decide (l.kind = 1) || decide (l.kind = 2)) then mayPt l.pat && (slEq l.a zSl && slEq l.b zSl) else bif (decide (l.kind = 3) || decide (l.kind = 4)) then ptEq l.pat zPt && (maySl l.a && maySl l.b) else false
def mayRl (r : Rl) : Bool := mayPt r.head && (decide (r.body.length ≤ 64) && r.body.all mayLt)


theorem rules_MaySlot (w0 : World) (G : Hp) (s : Sl) (h : SlOk s) : GC Tryd.prog w0 34 #[.agg (SlC s).toArray] (fun v G' => v = .bool (maySl s) ∧ G = G') G := by
  refine GC.body (args := [.agg (SlC s).toArray]) Tryd.func34 rfl (by kernel_rfl) rfl ?_
  refine GW.seq ?_
  refine GW.region ?_
  refine R.box ⟨rfl, rfl, rfl, rfl⟩ rfl fun b1 => ?_   -- type 37
  refine R.assign ⟨rfl, rfl, rfl, rfl⟩ rfl ?_
  refine GOps.nil ?_
  refine GW.seq ?_
  refine GW.seq ?_
  refine GW.region ?_
  refine R.fieldAddr ⟨rfl, rfl, rfl, rfl⟩ rfl Tryd.underlying37 rfl Tryd.sizeOf9 ?_   -- "Var"
  refine R.load1 ⟨rfl, rfl, rfl, rfl⟩ rfl Tryd.underlying9 rfl (.own' (by repeat (first | exact List.mem_cons_self | apply List.mem_cons_of_mem | apply List.mem_append_right)) (by rfl)) ?_   -- load 0 rules.go:26 t3
  refine R.neS ⟨rfl, rfl, rfl, rfl⟩ rfl rfl ?_   -- neq ['t4', 'const']
  refine GOps.nil ?_
  refine GW.ite rfl (fun hc1 => ?_) (fun hc1 => ?_)
  · try simp only [decide_eq_true_eq, decide_eq_false_iff_not, Bool.not_eq_true', Bool.not_eq_false'] at hc1
    refine GW.seq ?_
    refine GW.region ?_
    refine R.fieldAddr ⟨rfl, rfl, rfl, rfl⟩ rfl Tryd.underlying37 rfl Tryd.sizeOf9 ?_   -- "Var"
    refine R.load1 ⟨rfl, rfl, rfl, rfl⟩ rfl Tryd.underlying9 rfl (.own' (by repeat (first | exact List.mem_cons_self | apply List.mem_cons_of_mem | apply List.mem_append_right)) (by rfl)) ?_   -- load 1 rules.go:27 t6
    refine R.call ⟨rfl, rfl, rfl, rfl⟩ rfl (vs := [_]) rfl ((rules_name _ _ _ (by have := h.1; omega)).mono ?_)
    rintro _ _ ⟨rfl, rfl⟩
    refine R.move ⟨rfl, rfl, rfl, rfl⟩ rfl ?_
    refine GOps.caseB 9 rfl (fun hg2 => ?_) (fun hg2 => ?_)
    · try simp only [decide_eq_true_eq, decide_eq_false_iff_not, Bool.not_eq_true', Bool.not_eq_false'] at hg2
      refine R.fieldAddr ⟨rfl, rfl, rfl, rfl⟩ rfl Tryd.underlying37 rfl Tryd.sizeOf35 ?_   -- "Term"
      refine R.load_own (cs := TmC s.t) ⟨rfl, rfl, rfl, rfl⟩ rfl Tryd.underlying35 rfl Tryd.sizeOf35 (by repeat (first | exact List.mem_cons_self | apply List.mem_cons_of_mem | apply List.mem_append_right)) (by rfl) (by rfl) ?_   -- load 2 rules.go:27 t10
      refine R.build (vs := []) (cells := (TmC zTm).toArray) ⟨rfl, rfl, rfl, rfl⟩ rfl (fun w => run_build w 35 _ _ (by kernel_rfl)) ?_   -- build 0 type 35
      refine R.eqA ⟨rfl, rfl, rfl, rfl⟩ rfl rfl (guard_of g35) (equal_of 9990 rfl (run_eqTm 9998 _ _)) ?_   -- eql ['t11', 't12']
      refine R.pick_t ⟨rfl, rfl, rfl, rfl⟩ rfl rfl ?_
      refine R.assign ⟨rfl, rfl, rfl, rfl⟩ rfl ?_
      refine GOps.nil ?_
      refine GW.ret (Out.of (Res.one rfl rfl) (by first | exact Hs.refl _ | exact Hs.tl _ | exact Hs.tl2 _ _ | exact Hs.tl3 _ _ _ | exact (Hs.app _).trans (Hs.tl _) | exact (Hs.app _).trans ((Hs.app _).trans (Hs.tl _))) ⟨?_, rfl⟩)
      refine vb ?_; unfold maySl; first | (rw [show emp s.v = true from hc1]; rfl) | (rw [show emp s.v = false from hc1, show word 32 (bs s.v) = true from hg2]; rfl) | (rw [show emp s.v = false from hc1, show word 32 (bs s.v) = false from hg2]; rfl) | (rw [show emp s.v = false from hc1, show tmEq s.t zTm = true from hg2, Bool.and_true]; rfl) | (rw [show emp s.v = false from hc1, show tmEq s.t zTm = false from hg2, Bool.and_false]; rfl)
    · try simp only [decide_eq_true_eq, decide_eq_false_iff_not, Bool.not_eq_true', Bool.not_eq_false'] at hg2
      refine GOps.skip rfl rfl rfl ?_
      refine GOps.skip rfl rfl rfl ?_
      refine GOps.skip rfl rfl rfl ?_
      refine GOps.skip rfl rfl rfl ?_
      refine R.pick_f ⟨rfl, rfl, rfl, rfl⟩ rfl rfl ?_
      refine R.assign ⟨rfl, rfl, rfl, rfl⟩ rfl ?_
      refine GOps.nil ?_
      refine GW.ret (Out.of (Res.one rfl rfl) (by first | exact Hs.refl _ | exact Hs.tl _ | exact Hs.tl2 _ _ | exact Hs.tl3 _ _ _ | exact (Hs.app _).trans (Hs.tl _) | exact (Hs.app _).trans ((Hs.app _).trans (Hs.tl _))) ⟨?_, rfl⟩)
      refine vb ?_; unfold maySl; first | (rw [show emp s.v = true from hc1]; rfl) | (rw [show emp s.v = false from hc1, show word 32 (bs s.v) = true from hg2]; rfl) | (rw [show emp s.v = false from hc1, show word 32 (bs s.v) = false from hg2]; rfl) | (rw [show emp s.v = false from hc1, show tmEq s.t zTm = true from hg2, Bool.and_true]; rfl) | (rw [show emp s.v = false from hc1, show tmEq s.t zTm = false from hg2, Bool.and_false]; rfl)
  · try simp only [decide_eq_true_eq, decide_eq_false_iff_not, Bool.not_eq_true', Bool.not_eq_false'] at hc1
    refine GW.skip ?_
    refine GW.seq ?_
    refine GW.region ?_
    refine R.fieldAddr ⟨rfl, rfl, rfl, rfl⟩ rfl Tryd.underlying37 rfl Tryd.sizeOf35 ?_   -- "Term"
    refine R.load_own (cs := TmC s.t) ⟨rfl, rfl, rfl, rfl⟩ rfl Tryd.underlying35 rfl Tryd.sizeOf35 (by repeat (first | exact List.mem_cons_self | apply List.mem_cons_of_mem | apply List.mem_append_right)) (by rfl) (by rfl) ?_   -- load 3 rules.go:29 t15
    refine R.call ⟨rfl, rfl, rfl, rfl⟩ rfl (vs := [_]) rfl ((term_May _ _ s.t h.2.1 h.2.2).mono ?_)
    rintro _ _ ⟨rfl, rfl⟩
    refine R.assign ⟨rfl, rfl, rfl, rfl⟩ rfl ?_
    refine GOps.nil ?_
    refine GW.ret (Out.of (Res.one rfl rfl) (by first | exact Hs.refl _ | exact Hs.tl _ | exact Hs.tl2 _ _ | exact Hs.tl3 _ _ _ | exact (Hs.app _).trans (Hs.tl _) | exact (Hs.app _).trans ((Hs.app _).trans (Hs.tl _))) ⟨?_, rfl⟩)
    refine vb ?_; unfold maySl; first | (rw [show emp s.v = true from hc1]; rfl) | (rw [show emp s.v = false from hc1, show word 32 (bs s.v) = true from hg2]; rfl) | (rw [show emp s.v = false from hc1, show word 32 (bs s.v) = false from hg2]; rfl) | (rw [show emp s.v = false from hc1, show tmEq s.t zTm = true from hg2, Bool.and_true]; rfl) | (rw [show emp s.v = false from hc1, show tmEq s.t zTm = false from hg2, Bool.and_false]; rfl)

theorem ref_MaySlot (w0 : World) (G : Hp) (s : Sl) (h : SlOk s) : GC Tryd.prog w0 36 #[.agg (SlC s).toArray] (fun v G' => v = .bool (maySl s) ∧ G = G') G := by
  refine GC.body (args := [.agg (SlC s).toArray]) Tryd.func36 rfl (by kernel_rfl) rfl ?_
  refine GW.seq ?_
  refine GW.region ?_
  refine R.box ⟨rfl, rfl, rfl, rfl⟩ rfl fun b1 => ?_   -- type 37
  refine R.assign ⟨rfl, rfl, rfl, rfl⟩ rfl ?_
  refine GOps.nil ?_
  refine GW.seq ?_
  refine GW.seq ?_
  refine GW.region ?_
  refine R.fieldAddr ⟨rfl, rfl, rfl, rfl⟩ rfl Tryd.underlying37 rfl Tryd.sizeOf9 ?_   -- "Var"
  refine R.load1 ⟨rfl, rfl, rfl, rfl⟩ rfl Tryd.underlying9 rfl (.own' (by repeat (first | exact List.mem_cons_self | apply List.mem_cons_of_mem | apply List.mem_append_right)) (by rfl)) ?_   -- load 0 ref.go:22 t3
  refine R.eqS ⟨rfl, rfl, rfl, rfl⟩ rfl rfl ?_   -- eql ['t4', 'const']
  refine GOps.nil ?_
  refine GW.ite rfl (fun hc1 => ?_) (fun hc1 => ?_)
  · try simp only [decide_eq_true_eq, decide_eq_false_iff_not, Bool.not_eq_true', Bool.not_eq_false'] at hc1
    refine GW.seq ?_
    refine GW.region ?_
    refine R.fieldAddr ⟨rfl, rfl, rfl, rfl⟩ rfl Tryd.underlying37 rfl Tryd.sizeOf35 ?_   -- "Term"
    refine R.load_own (cs := TmC s.t) ⟨rfl, rfl, rfl, rfl⟩ rfl Tryd.underlying35 rfl Tryd.sizeOf35 (by repeat (first | exact List.mem_cons_self | apply List.mem_cons_of_mem | apply List.mem_append_right)) (by rfl) (by rfl) ?_   -- load 1 ref.go:23 t6
    refine R.call ⟨rfl, rfl, rfl, rfl⟩ rfl (vs := [_]) rfl ((ref_MayT _ _ s.t h.2.1 h.2.2).mono ?_)
    rintro _ _ ⟨rfl, rfl⟩
    refine R.assign ⟨rfl, rfl, rfl, rfl⟩ rfl ?_
    refine GOps.nil ?_
    refine GW.ret (Out.of (Res.one rfl rfl) (by first | exact Hs.refl _ | exact Hs.tl _ | exact Hs.tl2 _ _ | exact Hs.tl3 _ _ _ | exact (Hs.app _).trans (Hs.tl _) | exact (Hs.app _).trans ((Hs.app _).trans (Hs.tl _))) ⟨?_, rfl⟩)
    refine vb ?_; unfold maySl; first | (rw [show emp s.v = true from hc1]; rfl) | (rw [show emp s.v = false from hc1, show word 32 (bs s.v) = true from hg2]; rfl) | (rw [show emp s.v = false from hc1, show word 32 (bs s.v) = false from hg2]; rfl) | (rw [show emp s.v = false from hc1, show tmEq s.t zTm = true from hg2, Bool.and_true]; rfl) | (rw [show emp s.v = false from hc1, show tmEq s.t zTm = false from hg2, Bool.and_false]; rfl)
  · try simp only [decide_eq_true_eq, decide_eq_false_iff_not, Bool.not_eq_true', Bool.not_eq_false'] at hc1
    refine GW.skip ?_
    refine GW.seq ?_
    refine GW.region ?_
    refine R.fieldAddr ⟨rfl, rfl, rfl, rfl⟩ rfl Tryd.underlying37 rfl Tryd.sizeOf35 ?_   -- "Term"
    refine R.load_own (cs := TmC s.t) ⟨rfl, rfl, rfl, rfl⟩ rfl Tryd.underlying35 rfl Tryd.sizeOf35 (by repeat (first | exact List.mem_cons_self | apply List.mem_cons_of_mem | apply List.mem_append_right)) (by rfl) (by rfl) ?_   -- load 2 ref.go:25 t9
    refine R.build (vs := []) (cells := (TmC zTm).toArray) ⟨rfl, rfl, rfl, rfl⟩ rfl (fun w => run_build w 35 _ _ (by kernel_rfl)) ?_   -- build 0 type 35
    refine R.eqA ⟨rfl, rfl, rfl, rfl⟩ rfl rfl (guard_of g35) (equal_of 9990 rfl (run_eqTm 9998 _ _)) ?_   -- eql ['t10', 't11']
    refine R.move ⟨rfl, rfl, rfl, rfl⟩ rfl ?_
    refine GOps.caseB 13 rfl (fun hg2 => ?_) (fun hg2 => ?_)
    · try simp only [decide_eq_true_eq, decide_eq_false_iff_not, Bool.not_eq_true', Bool.not_eq_false'] at hg2
      refine R.fieldAddr ⟨rfl, rfl, rfl, rfl⟩ rfl Tryd.underlying37 rfl Tryd.sizeOf9 ?_   -- "Var"
      refine R.load1 ⟨rfl, rfl, rfl, rfl⟩ rfl Tryd.underlying9 rfl (.own' (by repeat (first | exact List.mem_cons_self | apply List.mem_cons_of_mem | apply List.mem_append_right)) (by rfl)) ?_   -- load 3 ref.go:25 t14
      refine R.call ⟨rfl, rfl, rfl, rfl⟩ rfl (vs := [_, _]) rfl ((ref_Word _ _ _ 32 (by have := h.1; omega)).mono ?_)
      rintro _ _ ⟨rfl, rfl⟩
      refine R.pick_t ⟨rfl, rfl, rfl, rfl⟩ rfl rfl ?_
      refine R.assign ⟨rfl, rfl, rfl, rfl⟩ rfl ?_
      refine GOps.nil ?_
      refine GW.ret (Out.of (Res.one rfl rfl) (by first | exact Hs.refl _ | exact Hs.tl _ | exact Hs.tl2 _ _ | exact Hs.tl3 _ _ _ | exact (Hs.app _).trans (Hs.tl _) | exact (Hs.app _).trans ((Hs.app _).trans (Hs.tl _))) ⟨?_, rfl⟩)
      refine vb ?_; unfold maySl; first | (rw [show emp s.v = true from hc1]; rfl) | (rw [show emp s.v = false from hc1, show word 32 (bs s.v) = true from hg2]; rfl) | (rw [show emp s.v = false from hc1, show word 32 (bs s.v) = false from hg2]; rfl) | (rw [show emp s.v = false from hc1, show tmEq s.t zTm = true from hg2, Bool.and_true]; rfl) | (rw [show emp s.v = false from hc1, show tmEq s.t zTm = false from hg2, Bool.and_false]; rfl)
    · try simp only [decide_eq_true_eq, decide_eq_false_iff_not, Bool.not_eq_true', Bool.not_eq_false'] at hg2
      refine GOps.skip rfl rfl rfl ?_
      refine GOps.skip rfl rfl rfl ?_
      refine GOps.skip rfl rfl rfl ?_
      refine R.pick_f ⟨rfl, rfl, rfl, rfl⟩ rfl rfl ?_
      refine R.assign ⟨rfl, rfl, rfl, rfl⟩ rfl ?_
      refine GOps.nil ?_
      refine GW.ret (Out.of (Res.one rfl rfl) (by first | exact Hs.refl _ | exact Hs.tl _ | exact Hs.tl2 _ _ | exact Hs.tl3 _ _ _ | exact (Hs.app _).trans (Hs.tl _) | exact (Hs.app _).trans ((Hs.app _).trans (Hs.tl _))) ⟨?_, rfl⟩)
      refine vb ?_; unfold maySl; first | (rw [show emp s.v = true from hc1]; rfl) | (rw [show emp s.v = false from hc1, show word 32 (bs s.v) = true from hg2]; rfl) | (rw [show emp s.v = false from hc1, show word 32 (bs s.v) = false from hg2]; rfl) | (rw [show emp s.v = false from hc1, show tmEq s.t zTm = true from hg2, Bool.and_true]; rfl) | (rw [show emp s.v = false from hc1, show tmEq s.t zTm = false from hg2, Bool.and_false]; rfl)

theorem rules_pattern (w0 : World) (G : Hp) (p : Pt) (h : PtOk p) : GC Tryd.prog w0 26 #[.agg (PtC p).toArray] (fun v G' => v = .bool (mayPt p) ∧ G = G') G := by
  refine GC.body (args := [.agg (PtC p).toArray]) Tryd.func26 rfl (by kernel_rfl) rfl ?_
  refine GW.seq ?_
  refine GW.region ?_
  refine R.box ⟨rfl, rfl, rfl, rfl⟩ rfl fun b1 => ?_   -- type 40
  refine R.assign ⟨rfl, rfl, rfl, rfl⟩ rfl ?_
  refine GOps.nil ?_
  refine GW.seq ?_
  refine GW.region ?_
  refine R.indexAddrA ⟨rfl, rfl, rfl, rfl⟩ rfl rfl Tryd.underlying40 Tryd.sizeOf37 (by omega) (by omega) ?_   -- ['t1:p', '0']
  refine R.load_own (cs := SlC p.s0) ⟨rfl, rfl, rfl, rfl⟩ rfl Tryd.underlying37 rfl Tryd.sizeOf37 (by repeat (first | exact List.mem_cons_self | apply List.mem_cons_of_mem | apply List.mem_append_right)) (by rfl) (by rfl) ?_   -- load 0 rules.go:33 t3
  refine R.call ⟨rfl, rfl, rfl, rfl⟩ rfl (vs := [_]) rfl ((rules_MaySlot _ _ p.s0 h.1).mono ?_)
  rintro _ _ ⟨rfl, rfl⟩
  refine R.move ⟨rfl, rfl, rfl, rfl⟩ rfl ?_
  refine GOps.caseB 6 rfl (fun hg1 => ?_) (fun hg1 => ?_)
  · try simp only [decide_eq_true_eq, decide_eq_false_iff_not, Bool.not_eq_true', Bool.not_eq_false'] at hg1
    refine R.indexAddrA ⟨rfl, rfl, rfl, rfl⟩ rfl rfl Tryd.underlying40 Tryd.sizeOf37 (by omega) (by omega) ?_   -- ['t1:p', '1']
    refine R.load_own (cs := SlC p.s1) ⟨rfl, rfl, rfl, rfl⟩ rfl Tryd.underlying37 rfl Tryd.sizeOf37 (by repeat (first | exact List.mem_cons_self | apply List.mem_cons_of_mem | apply List.mem_append_right)) (by rfl) (by rfl) ?_   -- load 1 rules.go:33 t7
    refine R.call ⟨rfl, rfl, rfl, rfl⟩ rfl (vs := [_]) rfl ((rules_MaySlot _ _ p.s1 h.2.1).mono ?_)
    rintro _ _ ⟨rfl, rfl⟩
    refine R.pick_t ⟨rfl, rfl, rfl, rfl⟩ rfl rfl ?_
    refine R.move ⟨rfl, rfl, rfl, rfl⟩ rfl ?_
    refine GOps.caseB 11 rfl (fun hg2 => ?_) (fun hg2 => ?_)
    · try simp only [decide_eq_true_eq, decide_eq_false_iff_not, Bool.not_eq_true', Bool.not_eq_false'] at hg2
      refine R.indexAddrA ⟨rfl, rfl, rfl, rfl⟩ rfl rfl Tryd.underlying40 Tryd.sizeOf37 (by omega) (by omega) ?_   -- ['t1:p', '2']
      refine R.load_own (cs := SlC p.s2) ⟨rfl, rfl, rfl, rfl⟩ rfl Tryd.underlying37 rfl Tryd.sizeOf37 (by repeat (first | exact List.mem_cons_self | apply List.mem_cons_of_mem | apply List.mem_append_right)) (by rfl) (by rfl) ?_   -- load 2 rules.go:33 t12
      refine R.call ⟨rfl, rfl, rfl, rfl⟩ rfl (vs := [_]) rfl ((rules_MaySlot _ _ p.s2 h.2.2).mono ?_)
      rintro _ _ ⟨rfl, rfl⟩
      refine R.pick_t ⟨rfl, rfl, rfl, rfl⟩ rfl rfl ?_
      refine R.assign ⟨rfl, rfl, rfl, rfl⟩ rfl ?_
      refine GOps.nil ?_
      refine GW.ret (Out.of (Res.one rfl rfl) (by first | exact Hs.refl _ | exact Hs.tl _ | exact Hs.tl2 _ _ | exact Hs.tl3 _ _ _ | exact (Hs.app _).trans (Hs.tl _) | exact (Hs.app _).trans ((Hs.app _).trans (Hs.tl _))) ⟨?_, rfl⟩)
      refine vb ?_; unfold mayPt; simp_all
    · try simp only [decide_eq_true_eq, decide_eq_false_iff_not, Bool.not_eq_true', Bool.not_eq_false'] at hg2
      refine GOps.skip rfl rfl rfl ?_
      refine GOps.skip rfl rfl rfl ?_
      refine GOps.skip rfl rfl rfl ?_
      refine R.pick_f ⟨rfl, rfl, rfl, rfl⟩ rfl rfl ?_
      refine R.assign ⟨rfl, rfl, rfl, rfl⟩ rfl ?_
      refine GOps.nil ?_
      refine GW.ret (Out.of (Res.one rfl rfl) (by first | exact Hs.refl _ | exact Hs.tl _ | exact Hs.tl2 _ _ | exact Hs.tl3 _ _ _ | exact (Hs.app _).trans (Hs.tl _) | exact (Hs.app _).trans ((Hs.app _).trans (Hs.tl _))) ⟨?_, rfl⟩)
      refine vb ?_; unfold mayPt; simp_all
  · try simp only [decide_eq_true_eq, decide_eq_false_iff_not, Bool.not_eq_true', Bool.not_eq_false'] at hg1
    refine GOps.skip rfl rfl rfl ?_
    refine GOps.skip rfl rfl rfl ?_
    refine GOps.skip rfl rfl rfl ?_
    refine R.pick_f ⟨rfl, rfl, rfl, rfl⟩ rfl rfl ?_
    refine R.move ⟨rfl, rfl, rfl, rfl⟩ rfl ?_
    refine GOps.skip rfl rfl rfl ?_
    refine GOps.skip rfl rfl rfl ?_
    refine GOps.skip rfl rfl rfl ?_
    refine R.pick_f ⟨rfl, rfl, rfl, rfl⟩ rfl rfl ?_
    refine R.assign ⟨rfl, rfl, rfl, rfl⟩ rfl ?_
    refine GOps.nil ?_
    refine GW.ret (Out.of (Res.one rfl rfl) (by first | exact Hs.refl _ | exact Hs.tl _ | exact Hs.tl2 _ _ | exact Hs.tl3 _ _ _ | exact (Hs.app _).trans (Hs.tl _) | exact (Hs.app _).trans ((Hs.app _).trans (Hs.tl _))) ⟨?_, rfl⟩)
    refine vb ?_; unfold mayPt; simp_all

theorem ref_pattern (w0 : World) (G : Hp) (p : Pt) (h : PtOk p) : GC Tryd.prog w0 32 #[.agg (PtC p).toArray] (fun v G' => v = .bool (mayPt p) ∧ G = G') G := by
  refine GC.body (args := [.agg (PtC p).toArray]) Tryd.func32 rfl (by kernel_rfl) rfl ?_
  refine GW.seq ?_
  refine GW.region ?_
  refine R.box ⟨rfl, rfl, rfl, rfl⟩ rfl fun b1 => ?_   -- type 40
  refine R.assign ⟨rfl, rfl, rfl, rfl⟩ rfl ?_
  refine GOps.nil ?_
  refine GW.seq ?_
  refine GW.region ?_
  refine R.indexAddrA ⟨rfl, rfl, rfl, rfl⟩ rfl rfl Tryd.underlying40 Tryd.sizeOf37 (by omega) (by omega) ?_   -- ['t1:p', '0']
  refine R.load_own (cs := SlC p.s0) ⟨rfl, rfl, rfl, rfl⟩ rfl Tryd.underlying37 rfl Tryd.sizeOf37 (by repeat (first | exact List.mem_cons_self | apply List.mem_cons_of_mem | apply List.mem_append_right)) (by rfl) (by rfl) ?_   -- load 0 ref.go:29 t3
  refine R.call ⟨rfl, rfl, rfl, rfl⟩ rfl (vs := [_]) rfl ((ref_MaySlot _ _ p.s0 h.1).mono ?_)
  rintro _ _ ⟨rfl, rfl⟩
  refine R.move ⟨rfl, rfl, rfl, rfl⟩ rfl ?_
  refine GOps.caseB 6 rfl (fun hg1 => ?_) (fun hg1 => ?_)
  · try simp only [decide_eq_true_eq, decide_eq_false_iff_not, Bool.not_eq_true', Bool.not_eq_false'] at hg1
    refine R.indexAddrA ⟨rfl, rfl, rfl, rfl⟩ rfl rfl Tryd.underlying40 Tryd.sizeOf37 (by omega) (by omega) ?_   -- ['t1:p', '1']
    refine R.load_own (cs := SlC p.s1) ⟨rfl, rfl, rfl, rfl⟩ rfl Tryd.underlying37 rfl Tryd.sizeOf37 (by repeat (first | exact List.mem_cons_self | apply List.mem_cons_of_mem | apply List.mem_append_right)) (by rfl) (by rfl) ?_   -- load 1 ref.go:29 t7
    refine R.call ⟨rfl, rfl, rfl, rfl⟩ rfl (vs := [_]) rfl ((ref_MaySlot _ _ p.s1 h.2.1).mono ?_)
    rintro _ _ ⟨rfl, rfl⟩
    refine R.pick_t ⟨rfl, rfl, rfl, rfl⟩ rfl rfl ?_
    refine R.move ⟨rfl, rfl, rfl, rfl⟩ rfl ?_
    refine GOps.caseB 11 rfl (fun hg2 => ?_) (fun hg2 => ?_)
    · try simp only [decide_eq_true_eq, decide_eq_false_iff_not, Bool.not_eq_true', Bool.not_eq_false'] at hg2
      refine R.indexAddrA ⟨rfl, rfl, rfl, rfl⟩ rfl rfl Tryd.underlying40 Tryd.sizeOf37 (by omega) (by omega) ?_   -- ['t1:p', '2']
      refine R.load_own (cs := SlC p.s2) ⟨rfl, rfl, rfl, rfl⟩ rfl Tryd.underlying37 rfl Tryd.sizeOf37 (by repeat (first | exact List.mem_cons_self | apply List.mem_cons_of_mem | apply List.mem_append_right)) (by rfl) (by rfl) ?_   -- load 2 ref.go:29 t12
      refine R.call ⟨rfl, rfl, rfl, rfl⟩ rfl (vs := [_]) rfl ((ref_MaySlot _ _ p.s2 h.2.2).mono ?_)
      rintro _ _ ⟨rfl, rfl⟩
      refine R.pick_t ⟨rfl, rfl, rfl, rfl⟩ rfl rfl ?_
      refine R.assign ⟨rfl, rfl, rfl, rfl⟩ rfl ?_
      refine GOps.nil ?_
      refine GW.ret (Out.of (Res.one rfl rfl) (by first | exact Hs.refl _ | exact Hs.tl _ | exact Hs.tl2 _ _ | exact Hs.tl3 _ _ _ | exact (Hs.app _).trans (Hs.tl _) | exact (Hs.app _).trans ((Hs.app _).trans (Hs.tl _))) ⟨?_, rfl⟩)
      refine vb ?_; unfold mayPt; simp_all
    · try simp only [decide_eq_true_eq, decide_eq_false_iff_not, Bool.not_eq_true', Bool.not_eq_false'] at hg2
      refine GOps.skip rfl rfl rfl ?_
      refine GOps.skip rfl rfl rfl ?_
      refine GOps.skip rfl rfl rfl ?_
      refine R.pick_f ⟨rfl, rfl, rfl, rfl⟩ rfl rfl ?_
      refine R.assign ⟨rfl, rfl, rfl, rfl⟩ rfl ?_
      refine GOps.nil ?_
      refine GW.ret (Out.of (Res.one rfl rfl) (by first | exact Hs.refl _ | exact Hs.tl _ | exact Hs.tl2 _ _ | exact Hs.tl3 _ _ _ | exact (Hs.app _).trans (Hs.tl _) | exact (Hs.app _).trans ((Hs.app _).trans (Hs.tl _))) ⟨?_, rfl⟩)
      refine vb ?_; unfold mayPt; simp_all
  · try simp only [decide_eq_true_eq, decide_eq_false_iff_not, Bool.not_eq_true', Bool.not_eq_false'] at hg1
    refine GOps.skip rfl rfl rfl ?_
    refine GOps.skip rfl rfl rfl ?_
    refine GOps.skip rfl rfl rfl ?_
    refine R.pick_f ⟨rfl, rfl, rfl, rfl⟩ rfl rfl ?_
    refine R.move ⟨rfl, rfl, rfl, rfl⟩ rfl ?_
    refine GOps.skip rfl rfl rfl ?_
    refine GOps.skip rfl rfl rfl ?_
    refine GOps.skip rfl rfl rfl ?_
    refine R.pick_f ⟨rfl, rfl, rfl, rfl⟩ rfl rfl ?_
    refine R.assign ⟨rfl, rfl, rfl, rfl⟩ rfl ?_
    refine GOps.nil ?_
    refine GW.ret (Out.of (Res.one rfl rfl) (by first | exact Hs.refl _ | exact Hs.tl _ | exact Hs.tl2 _ _ | exact Hs.tl3 _ _ _ | exact (Hs.app _).trans (Hs.tl _) | exact (Hs.app _).trans ((Hs.app _).trans (Hs.tl _))) ⟨?_, rfl⟩)
    refine vb ?_; unfold mayPt; simp_all

theorem rules_part (w0 : World) (G : Hp) (l : Lt) (h : LtOk l) : GC Tryd.prog w0 29 #[.agg (LtC l).toArray] (fun v G' => v = .bool (mayLt l) ∧ G = G') G := by
  refine GC.body (args := [.agg (LtC l).toArray]) Tryd.func29 rfl (by kernel_rfl) rfl ?_
  refine GW.seq ?_
  refine GW.region ?_
  refine R.box ⟨rfl, rfl, rfl, rfl⟩ rfl fun b1 => ?_   -- type 43
  refine R.assign ⟨rfl, rfl, rfl, rfl⟩ rfl ?_
  refine GOps.nil ?_
  refine GW.seq ?_
  refine GW.seq ?_
  refine GW.region ?_
  refine R.fieldAddr ⟨rfl, rfl, rfl, rfl⟩ rfl Tryd.underlying43 rfl Tryd.sizeOf41 ?_   -- "Kind"
  refine R.load1 ⟨rfl, rfl, rfl, rfl⟩ rfl Tryd.underlying41 rfl (.own' (by repeat (first | exact List.mem_cons_self | apply List.mem_cons_of_mem | apply List.mem_append_right)) (by rfl)) ?_   -- load 0 rules.go:37 t3
  refine GOps.nil ?_
  refine GW.block ?_
  refine GW.seq ?_
  refine GW.seq ?_
  refine GW.region ?_
  refine R.eqI ⟨rfl, rfl, rfl, rfl⟩ rfl rfl ?_   -- eql ['t4', '1']
  refine R.assign ⟨rfl, rfl, rfl, rfl⟩ rfl ?_
  refine GOps.nil ?_
  refine GW.ite rfl (fun hc1 => ?_) (fun hc1 => ?_)
  · try simp only [decide_eq_true_eq, decide_eq_false_iff_not, Bool.not_eq_true', Bool.not_eq_false'] at hc1
    refine GW.skip ?_
    refine GW.ite rfl (fun hc2 => ?_) (fun hc2 => ?_)
    · try simp only [decide_eq_true_eq, decide_eq_false_iff_not, Bool.not_eq_true', Bool.not_eq_false'] at hc2
      refine GW.seq ?_
      refine GW.region ?_
      refine R.fieldAddr ⟨rfl, rfl, rfl, rfl⟩ rfl Tryd.underlying43 rfl Tryd.sizeOf40 ?_   -- "Pattern"
      refine R.load_own (cs := PtC l.pat) ⟨rfl, rfl, rfl, rfl⟩ rfl Tryd.underlying40 rfl Tryd.sizeOf40 (by repeat (first | exact List.mem_cons_self | apply List.mem_cons_of_mem | apply List.mem_append_right)) (by rfl) (by rfl) ?_   -- load 1 rules.go:39 t8
      refine R.call ⟨rfl, rfl, rfl, rfl⟩ rfl (vs := [_]) rfl ((rules_pattern _ _ l.pat h.1).mono ?_)
      rintro _ _ ⟨rfl, rfl⟩
      refine R.move ⟨rfl, rfl, rfl, rfl⟩ rfl ?_
      refine GOps.caseB 11 rfl (fun hg3 => ?_) (fun hg3 => ?_)
      · try simp only [decide_eq_true_eq, decide_eq_false_iff_not, Bool.not_eq_true', Bool.not_eq_false'] at hg3
        refine R.fieldAddr ⟨rfl, rfl, rfl, rfl⟩ rfl Tryd.underlying43 rfl Tryd.sizeOf37 ?_   -- "A"
        refine R.load_own (cs := SlC l.a) ⟨rfl, rfl, rfl, rfl⟩ rfl Tryd.underlying37 rfl Tryd.sizeOf37 (by repeat (first | exact List.mem_cons_self | apply List.mem_cons_of_mem | apply List.mem_append_right)) (by rfl) (by rfl) ?_   -- load 2 rules.go:39 t12
        refine R.build (vs := []) (cells := (SlC zSl).toArray) ⟨rfl, rfl, rfl, rfl⟩ rfl (fun w => run_build w 37 _ _ (by kernel_rfl)) ?_   -- build 0 type 37
        refine R.eqA ⟨rfl, rfl, rfl, rfl⟩ rfl rfl (guard_of g37) (equal_of 9990 rfl (run_eqSl 9997 _ _)) ?_   -- eql ['t13', 't14']
        refine R.pick_t ⟨rfl, rfl, rfl, rfl⟩ rfl rfl ?_
        refine R.move ⟨rfl, rfl, rfl, rfl⟩ rfl ?_
        refine GOps.caseB 17 rfl (fun hg4 => ?_) (fun hg4 => ?_)
        · try simp only [decide_eq_true_eq, decide_eq_false_iff_not, Bool.not_eq_true', Bool.not_eq_false'] at hg4
          refine R.fieldAddr ⟨rfl, rfl, rfl, rfl⟩ rfl Tryd.underlying43 rfl Tryd.sizeOf37 ?_   -- "B"
          refine R.load_own (cs := SlC l.b) ⟨rfl, rfl, rfl, rfl⟩ rfl Tryd.underlying37 rfl Tryd.sizeOf37 (by repeat (first | exact List.mem_cons_self | apply List.mem_cons_of_mem | apply List.mem_append_right)) (by rfl) (by rfl) ?_   -- load 3 rules.go:39 t18
          refine R.build (vs := []) (cells := (SlC zSl).toArray) ⟨rfl, rfl, rfl, rfl⟩ rfl (fun w => run_build w 37 _ _ (by kernel_rfl)) ?_   -- build 1 type 37
          refine R.eqA ⟨rfl, rfl, rfl, rfl⟩ rfl rfl (guard_of g37) (equal_of 9990 rfl (run_eqSl 9997 _ _)) ?_   -- eql ['t19', 't20']
          refine R.pick_t ⟨rfl, rfl, rfl, rfl⟩ rfl rfl ?_
          refine R.assign ⟨rfl, rfl, rfl, rfl⟩ rfl ?_
          refine GOps.nil ?_
          refine GW.ret (Out.of (Res.one rfl rfl) (by first | exact Hs.refl _ | exact Hs.tl _ | exact Hs.tl2 _ _ | exact Hs.tl3 _ _ _ | exact (Hs.app _).trans (Hs.tl _) | exact (Hs.app _).trans ((Hs.app _).trans (Hs.tl _))) ⟨?_, rfl⟩)
          refine vb ?_; unfold mayLt; simp_all
        · try simp only [decide_eq_true_eq, decide_eq_false_iff_not, Bool.not_eq_true', Bool.not_eq_false'] at hg4
          refine GOps.skip rfl rfl rfl ?_
          refine GOps.skip rfl rfl rfl ?_
          refine GOps.skip rfl rfl rfl ?_
          refine GOps.skip rfl rfl rfl ?_
          refine R.pick_f ⟨rfl, rfl, rfl, rfl⟩ rfl rfl ?_
          refine R.assign ⟨rfl, rfl, rfl, rfl⟩ rfl ?_
          refine GOps.nil ?_
          refine GW.ret (Out.of (Res.one rfl rfl) (by first | exact Hs.refl _ | exact Hs.tl _ | exact Hs.tl2 _ _ | exact Hs.tl3 _ _ _ | exact (Hs.app _).trans (Hs.tl _) | exact (Hs.app _).trans ((Hs.app _).trans (Hs.tl _))) ⟨?_, rfl⟩)
          refine vb ?_; unfold mayLt; simp_all
      · try simp only [decide_eq_true_eq, decide_eq_false_iff_not, Bool.not_eq_true', Bool.not_eq_false'] at hg3
        refine GOps.skip rfl rfl rfl ?_
        refine GOps.skip rfl rfl rfl ?_
        refine GOps.skip rfl rfl rfl ?_
        refine GOps.skip rfl rfl rfl ?_
        refine R.pick_f ⟨rfl, rfl, rfl, rfl⟩ rfl rfl ?_
        refine R.move ⟨rfl, rfl, rfl, rfl⟩ rfl ?_
        refine GOps.skip rfl rfl rfl ?_
        refine GOps.skip rfl rfl rfl ?_
        refine GOps.skip rfl rfl rfl ?_
        refine GOps.skip rfl rfl rfl ?_
        refine R.pick_f ⟨rfl, rfl, rfl, rfl⟩ rfl rfl ?_
        refine R.assign ⟨rfl, rfl, rfl, rfl⟩ rfl ?_
        refine GOps.nil ?_
        refine GW.ret (Out.of (Res.one rfl rfl) (by first | exact Hs.refl _ | exact Hs.tl _ | exact Hs.tl2 _ _ | exact Hs.tl3 _ _ _ | exact (Hs.app _).trans (Hs.tl _) | exact (Hs.app _).trans ((Hs.app _).trans (Hs.tl _))) ⟨?_, rfl⟩)
        refine vb ?_; unfold mayLt; simp_all
    · try simp only [decide_eq_true_eq, decide_eq_false_iff_not, Bool.not_eq_true', Bool.not_eq_false'] at hc2
      refine GW.seq ?_
      refine GW.seq ?_
      refine GW.region ?_
      refine R.eqI ⟨rfl, rfl, rfl, rfl⟩ rfl rfl ?_   -- eql ['t4', '3']
      refine R.assign ⟨rfl, rfl, rfl, rfl⟩ rfl ?_
      refine GOps.nil ?_
      refine GW.ite rfl (fun hc5 => ?_) (fun hc5 => ?_)
      · try simp only [decide_eq_true_eq, decide_eq_false_iff_not, Bool.not_eq_true', Bool.not_eq_false'] at hc5
        refine GW.skip ?_
        refine GW.ite rfl (fun hc6 => ?_) (fun hc6 => ?_)
        · try simp only [decide_eq_true_eq, decide_eq_false_iff_not, Bool.not_eq_true', Bool.not_eq_false'] at hc6
          refine GW.seq ?_
          refine GW.region ?_
          refine R.fieldAddr ⟨rfl, rfl, rfl, rfl⟩ rfl Tryd.underlying43 rfl Tryd.sizeOf40 ?_   -- "Pattern"
          refine R.load_own (cs := PtC l.pat) ⟨rfl, rfl, rfl, rfl⟩ rfl Tryd.underlying40 rfl Tryd.sizeOf40 (by repeat (first | exact List.mem_cons_self | apply List.mem_cons_of_mem | apply List.mem_append_right)) (by rfl) (by rfl) ?_   -- load 4 rules.go:41 t26
          refine R.build (vs := []) (cells := (PtC zPt).toArray) ⟨rfl, rfl, rfl, rfl⟩ rfl (fun w => run_build w 40 _ _ (by kernel_rfl)) ?_   -- build 2 type 40
          refine R.eqA ⟨rfl, rfl, rfl, rfl⟩ rfl rfl (guard_of g40) (equal_of 9990 rfl (run_eqPt 40 Tryd.underlying40 9996 _ _)) ?_   -- eql ['t27', 't28']
          refine R.move ⟨rfl, rfl, rfl, rfl⟩ rfl ?_
          refine GOps.caseB 30 rfl (fun hg7 => ?_) (fun hg7 => ?_)
          · try simp only [decide_eq_true_eq, decide_eq_false_iff_not, Bool.not_eq_true', Bool.not_eq_false'] at hg7
            refine R.fieldAddr ⟨rfl, rfl, rfl, rfl⟩ rfl Tryd.underlying43 rfl Tryd.sizeOf37 ?_   -- "A"
            refine R.load_own (cs := SlC l.a) ⟨rfl, rfl, rfl, rfl⟩ rfl Tryd.underlying37 rfl Tryd.sizeOf37 (by repeat (first | exact List.mem_cons_self | apply List.mem_cons_of_mem | apply List.mem_append_right)) (by rfl) (by rfl) ?_   -- load 5 rules.go:41 t31
            refine R.call ⟨rfl, rfl, rfl, rfl⟩ rfl (vs := [_]) rfl ((rules_MaySlot _ _ l.a h.2.1).mono ?_)
            rintro _ _ ⟨rfl, rfl⟩
            refine R.pick_t ⟨rfl, rfl, rfl, rfl⟩ rfl rfl ?_
            refine R.move ⟨rfl, rfl, rfl, rfl⟩ rfl ?_
            refine GOps.caseB 35 rfl (fun hg8 => ?_) (fun hg8 => ?_)
            · try simp only [decide_eq_true_eq, decide_eq_false_iff_not, Bool.not_eq_true', Bool.not_eq_false'] at hg8
              refine R.fieldAddr ⟨rfl, rfl, rfl, rfl⟩ rfl Tryd.underlying43 rfl Tryd.sizeOf37 ?_   -- "B"
              refine R.load_own (cs := SlC l.b) ⟨rfl, rfl, rfl, rfl⟩ rfl Tryd.underlying37 rfl Tryd.sizeOf37 (by repeat (first | exact List.mem_cons_self | apply List.mem_cons_of_mem | apply List.mem_append_right)) (by rfl) (by rfl) ?_   -- load 6 rules.go:41 t36
              refine R.call ⟨rfl, rfl, rfl, rfl⟩ rfl (vs := [_]) rfl ((rules_MaySlot _ _ l.b h.2.2).mono ?_)
              rintro _ _ ⟨rfl, rfl⟩
              refine R.pick_t ⟨rfl, rfl, rfl, rfl⟩ rfl rfl ?_
              refine R.assign ⟨rfl, rfl, rfl, rfl⟩ rfl ?_
              refine GOps.nil ?_
              refine GW.ret (Out.of (Res.one rfl rfl) (by first | exact Hs.refl _ | exact Hs.tl _ | exact Hs.tl2 _ _ | exact Hs.tl3 _ _ _ | exact (Hs.app _).trans (Hs.tl _) | exact (Hs.app _).trans ((Hs.app _).trans (Hs.tl _))) ⟨?_, rfl⟩)
              refine vb ?_; unfold mayLt; simp_all
            · try simp only [decide_eq_true_eq, decide_eq_false_iff_not, Bool.not_eq_true', Bool.not_eq_false'] at hg8
              refine GOps.skip rfl rfl rfl ?_
              refine GOps.skip rfl rfl rfl ?_
              refine GOps.skip rfl rfl rfl ?_
              refine R.pick_f ⟨rfl, rfl, rfl, rfl⟩ rfl rfl ?_
              refine R.assign ⟨rfl, rfl, rfl, rfl⟩ rfl ?_
              refine GOps.nil ?_
              refine GW.ret (Out.of (Res.one rfl rfl) (by first | exact Hs.refl _ | exact Hs.tl _ | exact Hs.tl2 _ _ | exact Hs.tl3 _ _ _ | exact (Hs.app _).trans (Hs.tl _) | exact (Hs.app _).trans ((Hs.app _).trans (Hs.tl _))) ⟨?_, rfl⟩)
              refine vb ?_; unfold mayLt; simp_all
          · try simp only [decide_eq_true_eq, decide_eq_false_iff_not, Bool.not_eq_true', Bool.not_eq_false'] at hg7
            refine GOps.skip rfl rfl rfl ?_
            refine GOps.skip rfl rfl rfl ?_
            refine GOps.skip rfl rfl rfl ?_
            refine R.pick_f ⟨rfl, rfl, rfl, rfl⟩ rfl rfl ?_
            refine R.move ⟨rfl, rfl, rfl, rfl⟩ rfl ?_
            refine GOps.skip rfl rfl rfl ?_
            refine GOps.skip rfl rfl rfl ?_
            refine GOps.skip rfl rfl rfl ?_
            refine R.pick_f ⟨rfl, rfl, rfl, rfl⟩ rfl rfl ?_
            refine R.assign ⟨rfl, rfl, rfl, rfl⟩ rfl ?_
            refine GOps.nil ?_
            refine GW.ret (Out.of (Res.one rfl rfl) (by first | exact Hs.refl _ | exact Hs.tl _ | exact Hs.tl2 _ _ | exact Hs.tl3 _ _ _ | exact (Hs.app _).trans (Hs.tl _) | exact (Hs.app _).trans ((Hs.app _).trans (Hs.tl _))) ⟨?_, rfl⟩)
            refine vb ?_; unfold mayLt; simp_all
        · try simp only [decide_eq_true_eq, decide_eq_false_iff_not, Bool.not_eq_true', Bool.not_eq_false'] at hc6
          refine GW.skip ?_
          refine GW.seq ?_
          refine GW.region ?_
          refine R.assign ⟨rfl, rfl, rfl, rfl⟩ rfl ?_
          refine GOps.nil ?_
          refine GW.ret (Out.of (Res.one rfl rfl) (by first | exact Hs.refl _ | exact Hs.tl _ | exact Hs.tl2 _ _ | exact Hs.tl3 _ _ _ | exact (Hs.app _).trans (Hs.tl _) | exact (Hs.app _).trans ((Hs.app _).trans (Hs.tl _))) ⟨?_, rfl⟩)
          refine vb ?_; unfold mayLt; simp_all
      · try simp only [decide_eq_true_eq, decide_eq_false_iff_not, Bool.not_eq_true', Bool.not_eq_false'] at hc5
        refine GW.region ?_
        refine R.eqI ⟨rfl, rfl, rfl, rfl⟩ rfl rfl ?_   -- eql ['t4', '4']
        refine R.assign ⟨rfl, rfl, rfl, rfl⟩ rfl ?_
        refine GOps.nil ?_
        refine GW.ite rfl (fun hc9 => ?_) (fun hc9 => ?_)
        · try simp only [decide_eq_true_eq, decide_eq_false_iff_not, Bool.not_eq_true', Bool.not_eq_false'] at hc9
          refine GW.seq ?_
          refine GW.region ?_
          refine R.fieldAddr ⟨rfl, rfl, rfl, rfl⟩ rfl Tryd.underlying43 rfl Tryd.sizeOf40 ?_   -- "Pattern"
          refine R.load_own (cs := PtC l.pat) ⟨rfl, rfl, rfl, rfl⟩ rfl Tryd.underlying40 rfl Tryd.sizeOf40 (by repeat (first | exact List.mem_cons_self | apply List.mem_cons_of_mem | apply List.mem_append_right)) (by rfl) (by rfl) ?_   -- load 7 rules.go:41 t26
          refine R.build (vs := []) (cells := (PtC zPt).toArray) ⟨rfl, rfl, rfl, rfl⟩ rfl (fun w => run_build w 40 _ _ (by kernel_rfl)) ?_   -- build 3 type 40
          refine R.eqA ⟨rfl, rfl, rfl, rfl⟩ rfl rfl (guard_of g40) (equal_of 9990 rfl (run_eqPt 40 Tryd.underlying40 9996 _ _)) ?_   -- eql ['t27', 't28']
          refine R.move ⟨rfl, rfl, rfl, rfl⟩ rfl ?_
          refine GOps.caseB 30 rfl (fun hg10 => ?_) (fun hg10 => ?_)
          · try simp only [decide_eq_true_eq, decide_eq_false_iff_not, Bool.not_eq_true', Bool.not_eq_false'] at hg10
            refine R.fieldAddr ⟨rfl, rfl, rfl, rfl⟩ rfl Tryd.underlying43 rfl Tryd.sizeOf37 ?_   -- "A"
            refine R.load_own (cs := SlC l.a) ⟨rfl, rfl, rfl, rfl⟩ rfl Tryd.underlying37 rfl Tryd.sizeOf37 (by repeat (first | exact List.mem_cons_self | apply List.mem_cons_of_mem | apply List.mem_append_right)) (by rfl) (by rfl) ?_   -- load 8 rules.go:41 t31
            refine R.call ⟨rfl, rfl, rfl, rfl⟩ rfl (vs := [_]) rfl ((rules_MaySlot _ _ l.a h.2.1).mono ?_)
            rintro _ _ ⟨rfl, rfl⟩
            refine R.pick_t ⟨rfl, rfl, rfl, rfl⟩ rfl rfl ?_
            refine R.move ⟨rfl, rfl, rfl, rfl⟩ rfl ?_
            refine GOps.caseB 35 rfl (fun hg11 => ?_) (fun hg11 => ?_)
            · try simp only [decide_eq_true_eq, decide_eq_false_iff_not, Bool.not_eq_true', Bool.not_eq_false'] at hg11
              refine R.fieldAddr ⟨rfl, rfl, rfl, rfl⟩ rfl Tryd.underlying43 rfl Tryd.sizeOf37 ?_   -- "B"
              refine R.load_own (cs := SlC l.b) ⟨rfl, rfl, rfl, rfl⟩ rfl Tryd.underlying37 rfl Tryd.sizeOf37 (by repeat (first | exact List.mem_cons_self | apply List.mem_cons_of_mem | apply List.mem_append_right)) (by rfl) (by rfl) ?_   -- load 9 rules.go:41 t36
              refine R.call ⟨rfl, rfl, rfl, rfl⟩ rfl (vs := [_]) rfl ((rules_MaySlot _ _ l.b h.2.2).mono ?_)
              rintro _ _ ⟨rfl, rfl⟩
              refine R.pick_t ⟨rfl, rfl, rfl, rfl⟩ rfl rfl ?_
              refine R.assign ⟨rfl, rfl, rfl, rfl⟩ rfl ?_
              refine GOps.nil ?_
              refine GW.ret (Out.of (Res.one rfl rfl) (by first | exact Hs.refl _ | exact Hs.tl _ | exact Hs.tl2 _ _ | exact Hs.tl3 _ _ _ | exact (Hs.app _).trans (Hs.tl _) | exact (Hs.app _).trans ((Hs.app _).trans (Hs.tl _))) ⟨?_, rfl⟩)
              refine vb ?_; unfold mayLt; simp_all
            · try simp only [decide_eq_true_eq, decide_eq_false_iff_not, Bool.not_eq_true', Bool.not_eq_false'] at hg11
              refine GOps.skip rfl rfl rfl ?_
              refine GOps.skip rfl rfl rfl ?_
              refine GOps.skip rfl rfl rfl ?_
              refine R.pick_f ⟨rfl, rfl, rfl, rfl⟩ rfl rfl ?_
              refine R.assign ⟨rfl, rfl, rfl, rfl⟩ rfl ?_
              refine GOps.nil ?_
              refine GW.ret (Out.of (Res.one rfl rfl) (by first | exact Hs.refl _ | exact Hs.tl _ | exact Hs.tl2 _ _ | exact Hs.tl3 _ _ _ | exact (Hs.app _).trans (Hs.tl _) | exact (Hs.app _).trans ((Hs.app _).trans (Hs.tl _))) ⟨?_, rfl⟩)
              refine vb ?_; unfold mayLt; simp_all
          · try simp only [decide_eq_true_eq, decide_eq_false_iff_not, Bool.not_eq_true', Bool.not_eq_false'] at hg10
            refine GOps.skip rfl rfl rfl ?_
            refine GOps.skip rfl rfl rfl ?_
            refine GOps.skip rfl rfl rfl ?_
            refine R.pick_f ⟨rfl, rfl, rfl, rfl⟩ rfl rfl ?_
            refine R.move ⟨rfl, rfl, rfl, rfl⟩ rfl ?_
            refine GOps.skip rfl rfl rfl ?_
            refine GOps.skip rfl rfl rfl ?_
            refine GOps.skip rfl rfl rfl ?_
            refine R.pick_f ⟨rfl, rfl, rfl, rfl⟩ rfl rfl ?_
            refine R.assign ⟨rfl, rfl, rfl, rfl⟩ rfl ?_
            refine GOps.nil ?_
            refine GW.ret (Out.of (Res.one rfl rfl) (by first | exact Hs.refl _ | exact Hs.tl _ | exact Hs.tl2 _ _ | exact Hs.tl3 _ _ _ | exact (Hs.app _).trans (Hs.tl _) | exact (Hs.app _).trans ((Hs.app _).trans (Hs.tl _))) ⟨?_, rfl⟩)
            refine vb ?_; unfold mayLt; simp_all
        · try simp only [decide_eq_true_eq, decide_eq_false_iff_not, Bool.not_eq_true', Bool.not_eq_false'] at hc9
          refine GW.skip ?_
          refine GW.seq ?_
          refine GW.region ?_
          refine R.assign ⟨rfl, rfl, rfl, rfl⟩ rfl ?_
          refine GOps.nil ?_
          refine GW.ret (Out.of (Res.one rfl rfl) (by first | exact Hs.refl _ | exact Hs.tl _ | exact Hs.tl2 _ _ | exact Hs.tl3 _ _ _ | exact (Hs.app _).trans (Hs.tl _) | exact (Hs.app _).trans ((Hs.app _).trans (Hs.tl _))) ⟨?_, rfl⟩)
          refine vb ?_; unfold mayLt; simp_all
  · try simp only [decide_eq_true_eq, decide_eq_false_iff_not, Bool.not_eq_true', Bool.not_eq_false'] at hc1
    refine GW.region ?_
    refine R.eqI ⟨rfl, rfl, rfl, rfl⟩ rfl rfl ?_   -- eql ['t4', '2']
    refine R.assign ⟨rfl, rfl, rfl, rfl⟩ rfl ?_
    refine GOps.nil ?_
    refine GW.ite rfl (fun hc12 => ?_) (fun hc12 => ?_)
    · try simp only [decide_eq_true_eq, decide_eq_false_iff_not, Bool.not_eq_true', Bool.not_eq_false'] at hc12
      refine GW.seq ?_
      refine GW.region ?_
      refine R.fieldAddr ⟨rfl, rfl, rfl, rfl⟩ rfl Tryd.underlying43 rfl Tryd.sizeOf40 ?_   -- "Pattern"
      refine R.load_own (cs := PtC l.pat) ⟨rfl, rfl, rfl, rfl⟩ rfl Tryd.underlying40 rfl Tryd.sizeOf40 (by repeat (first | exact List.mem_cons_self | apply List.mem_cons_of_mem | apply List.mem_append_right)) (by rfl) (by rfl) ?_   -- load 10 rules.go:39 t8
      refine R.call ⟨rfl, rfl, rfl, rfl⟩ rfl (vs := [_]) rfl ((rules_pattern _ _ l.pat h.1).mono ?_)
      rintro _ _ ⟨rfl, rfl⟩
      refine R.move ⟨rfl, rfl, rfl, rfl⟩ rfl ?_
      refine GOps.caseB 11 rfl (fun hg13 => ?_) (fun hg13 => ?_)
      · try simp only [decide_eq_true_eq, decide_eq_false_iff_not, Bool.not_eq_true', Bool.not_eq_false'] at hg13
        refine R.fieldAddr ⟨rfl, rfl, rfl, rfl⟩ rfl Tryd.underlying43 rfl Tryd.sizeOf37 ?_   -- "A"
        refine R.load_own (cs := SlC l.a) ⟨rfl, rfl, rfl, rfl⟩ rfl Tryd.underlying37 rfl Tryd.sizeOf37 (by repeat (first | exact List.mem_cons_self | apply List.mem_cons_of_mem | apply List.mem_append_right)) (by rfl) (by rfl) ?_   -- load 11 rules.go:39 t12
        refine R.build (vs := []) (cells := (SlC zSl).toArray) ⟨rfl, rfl, rfl, rfl⟩ rfl (fun w => run_build w 37 _ _ (by kernel_rfl)) ?_   -- build 4 type 37
        refine R.eqA ⟨rfl, rfl, rfl, rfl⟩ rfl rfl (guard_of g37) (equal_of 9990 rfl (run_eqSl 9997 _ _)) ?_   -- eql ['t13', 't14']
        refine R.pick_t ⟨rfl, rfl, rfl, rfl⟩ rfl rfl ?_
        refine R.move ⟨rfl, rfl, rfl, rfl⟩ rfl ?_
        refine GOps.caseB 17 rfl (fun hg14 => ?_) (fun hg14 => ?_)
        · try simp only [decide_eq_true_eq, decide_eq_false_iff_not, Bool.not_eq_true', Bool.not_eq_false'] at hg14
          refine R.fieldAddr ⟨rfl, rfl, rfl, rfl⟩ rfl Tryd.underlying43 rfl Tryd.sizeOf37 ?_   -- "B"
          refine R.load_own (cs := SlC l.b) ⟨rfl, rfl, rfl, rfl⟩ rfl Tryd.underlying37 rfl Tryd.sizeOf37 (by repeat (first | exact List.mem_cons_self | apply List.mem_cons_of_mem | apply List.mem_append_right)) (by rfl) (by rfl) ?_   -- load 12 rules.go:39 t18
          refine R.build (vs := []) (cells := (SlC zSl).toArray) ⟨rfl, rfl, rfl, rfl⟩ rfl (fun w => run_build w 37 _ _ (by kernel_rfl)) ?_   -- build 5 type 37
          refine R.eqA ⟨rfl, rfl, rfl, rfl⟩ rfl rfl (guard_of g37) (equal_of 9990 rfl (run_eqSl 9997 _ _)) ?_   -- eql ['t19', 't20']
          refine R.pick_t ⟨rfl, rfl, rfl, rfl⟩ rfl rfl ?_
          refine R.assign ⟨rfl, rfl, rfl, rfl⟩ rfl ?_
          refine GOps.nil ?_
          refine GW.ret (Out.of (Res.one rfl rfl) (by first | exact Hs.refl _ | exact Hs.tl _ | exact Hs.tl2 _ _ | exact Hs.tl3 _ _ _ | exact (Hs.app _).trans (Hs.tl _) | exact (Hs.app _).trans ((Hs.app _).trans (Hs.tl _))) ⟨?_, rfl⟩)
          refine vb ?_; unfold mayLt; simp_all
        · try simp only [decide_eq_true_eq, decide_eq_false_iff_not, Bool.not_eq_true', Bool.not_eq_false'] at hg14
          refine GOps.skip rfl rfl rfl ?_
          refine GOps.skip rfl rfl rfl ?_
          refine GOps.skip rfl rfl rfl ?_
          refine GOps.skip rfl rfl rfl ?_
          refine R.pick_f ⟨rfl, rfl, rfl, rfl⟩ rfl rfl ?_
          refine R.assign ⟨rfl, rfl, rfl, rfl⟩ rfl ?_
          refine GOps.nil ?_
          refine GW.ret (Out.of (Res.one rfl rfl) (by first | exact Hs.refl _ | exact Hs.tl _ | exact Hs.tl2 _ _ | exact Hs.tl3 _ _ _ | exact (Hs.app _).trans (Hs.tl _) | exact (Hs.app _).trans ((Hs.app _).trans (Hs.tl _))) ⟨?_, rfl⟩)
          refine vb ?_; unfold mayLt; simp_all
      · try simp only [decide_eq_true_eq, decide_eq_false_iff_not, Bool.not_eq_true', Bool.not_eq_false'] at hg13
        refine GOps.skip rfl rfl rfl ?_
        refine GOps.skip rfl rfl rfl ?_
        refine GOps.skip rfl rfl rfl ?_
        refine GOps.skip rfl rfl rfl ?_
        refine R.pick_f ⟨rfl, rfl, rfl, rfl⟩ rfl rfl ?_
        refine R.move ⟨rfl, rfl, rfl, rfl⟩ rfl ?_
        refine GOps.skip rfl rfl rfl ?_
        refine GOps.skip rfl rfl rfl ?_
        refine GOps.skip rfl rfl rfl ?_
        refine GOps.skip rfl rfl rfl ?_
        refine R.pick_f ⟨rfl, rfl, rfl, rfl⟩ rfl rfl ?_
        refine R.assign ⟨rfl, rfl, rfl, rfl⟩ rfl ?_
        refine GOps.nil ?_
        refine GW.ret (Out.of (Res.one rfl rfl) (by first | exact Hs.refl _ | exact Hs.tl _ | exact Hs.tl2 _ _ | exact Hs.tl3 _ _ _ | exact (Hs.app _).trans (Hs.tl _) | exact (Hs.app _).trans ((Hs.app _).trans (Hs.tl _))) ⟨?_, rfl⟩)
        refine vb ?_; unfold mayLt; simp_all
    · try simp only [decide_eq_true_eq, decide_eq_false_iff_not, Bool.not_eq_true', Bool.not_eq_false'] at hc12
      refine GW.seq ?_
      refine GW.seq ?_
      refine GW.region ?_
      refine R.eqI ⟨rfl, rfl, rfl, rfl⟩ rfl rfl ?_   -- eql ['t4', '3']
      refine R.assign ⟨rfl, rfl, rfl, rfl⟩ rfl ?_
      refine GOps.nil ?_
      refine GW.ite rfl (fun hc15 => ?_) (fun hc15 => ?_)
      · try simp only [decide_eq_true_eq, decide_eq_false_iff_not, Bool.not_eq_true', Bool.not_eq_false'] at hc15
        refine GW.skip ?_
        refine GW.ite rfl (fun hc16 => ?_) (fun hc16 => ?_)
        · try simp only [decide_eq_true_eq, decide_eq_false_iff_not, Bool.not_eq_true', Bool.not_eq_false'] at hc16
          refine GW.seq ?_
          refine GW.region ?_
          refine R.fieldAddr ⟨rfl, rfl, rfl, rfl⟩ rfl Tryd.underlying43 rfl Tryd.sizeOf40 ?_   -- "Pattern"
          refine R.load_own (cs := PtC l.pat) ⟨rfl, rfl, rfl, rfl⟩ rfl Tryd.underlying40 rfl Tryd.sizeOf40 (by repeat (first | exact List.mem_cons_self | apply List.mem_cons_of_mem | apply List.mem_append_right)) (by rfl) (by rfl) ?_   -- load 13 rules.go:41 t26
          refine R.build (vs := []) (cells := (PtC zPt).toArray) ⟨rfl, rfl, rfl, rfl⟩ rfl (fun w => run_build w 40 _ _ (by kernel_rfl)) ?_   -- build 6 type 40
          refine R.eqA ⟨rfl, rfl, rfl, rfl⟩ rfl rfl (guard_of g40) (equal_of 9990 rfl (run_eqPt 40 Tryd.underlying40 9996 _ _)) ?_   -- eql ['t27', 't28']
          refine R.move ⟨rfl, rfl, rfl, rfl⟩ rfl ?_
          refine GOps.caseB 30 rfl (fun hg17 => ?_) (fun hg17 => ?_)
          · try simp only [decide_eq_true_eq, decide_eq_false_iff_not, Bool.not_eq_true', Bool.not_eq_false'] at hg17
            refine R.fieldAddr ⟨rfl, rfl, rfl, rfl⟩ rfl Tryd.underlying43 rfl Tryd.sizeOf37 ?_   -- "A"
            refine R.load_own (cs := SlC l.a) ⟨rfl, rfl, rfl, rfl⟩ rfl Tryd.underlying37 rfl Tryd.sizeOf37 (by repeat (first | exact List.mem_cons_self | apply List.mem_cons_of_mem | apply List.mem_append_right)) (by rfl) (by rfl) ?_   -- load 14 rules.go:41 t31
            refine R.call ⟨rfl, rfl, rfl, rfl⟩ rfl (vs := [_]) rfl ((rules_MaySlot _ _ l.a h.2.1).mono ?_)
            rintro _ _ ⟨rfl, rfl⟩
            refine R.pick_t ⟨rfl, rfl, rfl, rfl⟩ rfl rfl ?_
            refine R.move ⟨rfl, rfl, rfl, rfl⟩ rfl ?_
            refine GOps.caseB 35 rfl (fun hg18 => ?_) (fun hg18 => ?_)
            · try simp only [decide_eq_true_eq, decide_eq_false_iff_not, Bool.not_eq_true', Bool.not_eq_false'] at hg18
              refine R.fieldAddr ⟨rfl, rfl, rfl, rfl⟩ rfl Tryd.underlying43 rfl Tryd.sizeOf37 ?_   -- "B"
              refine R.load_own (cs := SlC l.b) ⟨rfl, rfl, rfl, rfl⟩ rfl Tryd.underlying37 rfl Tryd.sizeOf37 (by repeat (first | exact List.mem_cons_self | apply List.mem_cons_of_mem | apply List.mem_append_right)) (by rfl) (by rfl) ?_   -- load 15 rules.go:41 t36
              refine R.call ⟨rfl, rfl, rfl, rfl⟩ rfl (vs := [_]) rfl ((rules_MaySlot _ _ l.b h.2.2).mono ?_)
              rintro _ _ ⟨rfl, rfl⟩
              refine R.pick_t ⟨rfl, rfl, rfl, rfl⟩ rfl rfl ?_
              refine R.assign ⟨rfl, rfl, rfl, rfl⟩ rfl ?_
              refine GOps.nil ?_
              refine GW.ret (Out.of (Res.one rfl rfl) (by first | exact Hs.refl _ | exact Hs.tl _ | exact Hs.tl2 _ _ | exact Hs.tl3 _ _ _ | exact (Hs.app _).trans (Hs.tl _) | exact (Hs.app _).trans ((Hs.app _).trans (Hs.tl _))) ⟨?_, rfl⟩)
              refine vb ?_; unfold mayLt; simp_all
            · try simp only [decide_eq_true_eq, decide_eq_false_iff_not, Bool.not_eq_true', Bool.not_eq_false'] at hg18
              refine GOps.skip rfl rfl rfl ?_
              refine GOps.skip rfl rfl rfl ?_
              refine GOps.skip rfl rfl rfl ?_
              refine R.pick_f ⟨rfl, rfl, rfl, rfl⟩ rfl rfl ?_
              refine R.assign ⟨rfl, rfl, rfl, rfl⟩ rfl ?_
              refine GOps.nil ?_
              refine GW.ret (Out.of (Res.one rfl rfl) (by first | exact Hs.refl _ | exact Hs.tl _ | exact Hs.tl2 _ _ | exact Hs.tl3 _ _ _ | exact (Hs.app _).trans (Hs.tl _) | exact (Hs.app _).trans ((Hs.app _).trans (Hs.tl _))) ⟨?_, rfl⟩)
              refine vb ?_; unfold mayLt; simp_all
          · try simp only [decide_eq_true_eq, decide_eq_false_iff_not, Bool.not_eq_true', Bool.not_eq_false'] at hg17
            refine GOps.skip rfl rfl rfl ?_
            refine GOps.skip rfl rfl rfl ?_
            refine GOps.skip rfl rfl rfl ?_
            refine R.pick_f ⟨rfl, rfl, rfl, rfl⟩ rfl rfl ?_
            refine R.move ⟨rfl, rfl, rfl, rfl⟩ rfl ?_
            refine GOps.skip rfl rfl rfl ?_
            refine GOps.skip rfl rfl rfl ?_
            refine GOps.skip rfl rfl rfl ?_
            refine R.pick_f ⟨rfl, rfl, rfl, rfl⟩ rfl rfl ?_
            refine R.assign ⟨rfl, rfl, rfl, rfl⟩ rfl ?_
            refine GOps.nil ?_
            refine GW.ret (Out.of (Res.one rfl rfl) (by first | exact Hs.refl _ | exact Hs.tl _ | exact Hs.tl2 _ _ | exact Hs.tl3 _ _ _ | exact (Hs.app _).trans (Hs.tl _) | exact (Hs.app _).trans ((Hs.app _).trans (Hs.tl _))) ⟨?_, rfl⟩)
            refine vb ?_; unfold mayLt; simp_all
        · try simp only [decide_eq_true_eq, decide_eq_false_iff_not, Bool.not_eq_true', Bool.not_eq_false'] at hc16
          refine GW.skip ?_
          refine GW.seq ?_
          refine GW.region ?_
          refine R.assign ⟨rfl, rfl, rfl, rfl⟩ rfl ?_
          refine GOps.nil ?_
          refine GW.ret (Out.of (Res.one rfl rfl) (by first | exact Hs.refl _ | exact Hs.tl _ | exact Hs.tl2 _ _ | exact Hs.tl3 _ _ _ | exact (Hs.app _).trans (Hs.tl _) | exact (Hs.app _).trans ((Hs.app _).trans (Hs.tl _))) ⟨?_, rfl⟩)
          refine vb ?_; unfold mayLt; simp_all
      · try simp only [decide_eq_true_eq, decide_eq_false_iff_not, Bool.not_eq_true', Bool.not_eq_false'] at hc15
        refine GW.region ?_
        refine R.eqI ⟨rfl, rfl, rfl, rfl⟩ rfl rfl ?_   -- eql ['t4', '4']
        refine R.assign ⟨rfl, rfl, rfl, rfl⟩ rfl ?_
        refine GOps.nil ?_
        refine GW.ite rfl (fun hc19 => ?_) (fun hc19 => ?_)
        · try simp only [decide_eq_true_eq, decide_eq_false_iff_not, Bool.not_eq_true', Bool.not_eq_false'] at hc19
          refine GW.seq ?_
          refine GW.region ?_
          refine R.fieldAddr ⟨rfl, rfl, rfl, rfl⟩ rfl Tryd.underlying43 rfl Tryd.sizeOf40 ?_   -- "Pattern"
          refine R.load_own (cs := PtC l.pat) ⟨rfl, rfl, rfl, rfl⟩ rfl Tryd.underlying40 rfl Tryd.sizeOf40 (by repeat (first | exact List.mem_cons_self | apply List.mem_cons_of_mem | apply List.mem_append_right)) (by rfl) (by rfl) ?_   -- load 16 rules.go:41 t26
          refine R.build (vs := []) (cells := (PtC zPt).toArray) ⟨rfl, rfl, rfl, rfl⟩ rfl (fun w => run_build w 40 _ _ (by kernel_rfl)) ?_   -- build 7 type 40
          refine R.eqA ⟨rfl, rfl, rfl, rfl⟩ rfl rfl (guard_of g40) (equal_of 9990 rfl (run_eqPt 40 Tryd.underlying40 9996 _ _)) ?_   -- eql ['t27', 't28']
          refine R.move ⟨rfl, rfl, rfl, rfl⟩ rfl ?_
          refine GOps.caseB 30 rfl (fun hg20 => ?_) (fun hg20 => ?_)
          · try simp only [decide_eq_true_eq, decide_eq_false_iff_not, Bool.not_eq_true', Bool.not_eq_false'] at hg20
            refine R.fieldAddr ⟨rfl, rfl, rfl, rfl⟩ rfl Tryd.underlying43 rfl Tryd.sizeOf37 ?_   -- "A"
            refine R.load_own (cs := SlC l.a) ⟨rfl, rfl, rfl, rfl⟩ rfl Tryd.underlying37 rfl Tryd.sizeOf37 (by repeat (first | exact List.mem_cons_self | apply List.mem_cons_of_mem | apply List.mem_append_right)) (by rfl) (by rfl) ?_   -- load 17 rules.go:41 t31
            refine R.call ⟨rfl, rfl, rfl, rfl⟩ rfl (vs := [_]) rfl ((rules_MaySlot _ _ l.a h.2.1).mono ?_)
            rintro _ _ ⟨rfl, rfl⟩
            refine R.pick_t ⟨rfl, rfl, rfl, rfl⟩ rfl rfl ?_
            refine R.move ⟨rfl, rfl, rfl, rfl⟩ rfl ?_
            refine GOps.caseB 35 rfl (fun hg21 => ?_) (fun hg21 => ?_)
            · try simp only [decide_eq_true_eq, decide_eq_false_iff_not, Bool.not_eq_true', Bool.not_eq_false'] at hg21
              refine R.fieldAddr ⟨rfl, rfl, rfl, rfl⟩ rfl Tryd.underlying43 rfl Tryd.sizeOf37 ?_   -- "B"
              refine R.load_own (cs := SlC l.b) ⟨rfl, rfl, rfl, rfl⟩ rfl Tryd.underlying37 rfl Tryd.sizeOf37 (by repeat (first | exact List.mem_cons_self | apply List.mem_cons_of_mem | apply List.mem_append_right)) (by rfl) (by rfl) ?_   -- load 18 rules.go:41 t36
              refine R.call ⟨rfl, rfl, rfl, rfl⟩ rfl (vs := [_]) rfl ((rules_MaySlot _ _ l.b h.2.2).mono ?_)
              rintro _ _ ⟨rfl, rfl⟩
              refine R.pick_t ⟨rfl, rfl, rfl, rfl⟩ rfl rfl ?_
              refine R.assign ⟨rfl, rfl, rfl, rfl⟩ rfl ?_
              refine GOps.nil ?_
              refine GW.ret (Out.of (Res.one rfl rfl) (by first | exact Hs.refl _ | exact Hs.tl _ | exact Hs.tl2 _ _ | exact Hs.tl3 _ _ _ | exact (Hs.app _).trans (Hs.tl _) | exact (Hs.app _).trans ((Hs.app _).trans (Hs.tl _))) ⟨?_, rfl⟩)
              refine vb ?_; unfold mayLt; simp_all
            · try simp only [decide_eq_true_eq, decide_eq_false_iff_not, Bool.not_eq_true', Bool.not_eq_false'] at hg21
              refine GOps.skip rfl rfl rfl ?_
              refine GOps.skip rfl rfl rfl ?_
              refine GOps.skip rfl rfl rfl ?_
              refine R.pick_f ⟨rfl, rfl, rfl, rfl⟩ rfl rfl ?_
              refine R.assign ⟨rfl, rfl, rfl, rfl⟩ rfl ?_
              refine GOps.nil ?_
              refine GW.ret (Out.of (Res.one rfl rfl) (by first | exact Hs.refl _ | exact Hs.tl _ | exact Hs.tl2 _ _ | exact Hs.tl3 _ _ _ | exact (Hs.app _).trans (Hs.tl _) | exact (Hs.app _).trans ((Hs.app _).trans (Hs.tl _))) ⟨?_, rfl⟩)
              refine vb ?_; unfold mayLt; simp_all
          · try simp only [decide_eq_true_eq, decide_eq_false_iff_not, Bool.not_eq_true', Bool.not_eq_false'] at hg20
            refine GOps.skip rfl rfl rfl ?_
            refine GOps.skip rfl rfl rfl ?_
            refine GOps.skip rfl rfl rfl ?_
            refine R.pick_f ⟨rfl, rfl, rfl, rfl⟩ rfl rfl ?_
            refine R.move ⟨rfl, rfl, rfl, rfl⟩ rfl ?_
            refine GOps.skip rfl rfl rfl ?_
            refine GOps.skip rfl rfl rfl ?_
            refine GOps.skip rfl rfl rfl ?_
            refine R.pick_f ⟨rfl, rfl, rfl, rfl⟩ rfl rfl ?_
            refine R.assign ⟨rfl, rfl, rfl, rfl⟩ rfl ?_
            refine GOps.nil ?_
            refine GW.ret (Out.of (Res.one rfl rfl) (by first | exact Hs.refl _ | exact Hs.tl _ | exact Hs.tl2 _ _ | exact Hs.tl3 _ _ _ | exact (Hs.app _).trans (Hs.tl _) | exact (Hs.app _).trans ((Hs.app _).trans (Hs.tl _))) ⟨?_, rfl⟩)
            refine vb ?_; unfold mayLt; simp_all
        · try simp only [decide_eq_true_eq, decide_eq_false_iff_not, Bool.not_eq_true', Bool.not_eq_false'] at hc19
          refine GW.skip ?_
          refine GW.seq ?_
          refine GW.region ?_
          refine R.assign ⟨rfl, rfl, rfl, rfl⟩ rfl ?_
          refine GOps.nil ?_
          refine GW.ret (Out.of (Res.one rfl rfl) (by first | exact Hs.refl _ | exact Hs.tl _ | exact Hs.tl2 _ _ | exact Hs.tl3 _ _ _ | exact (Hs.app _).trans (Hs.tl _) | exact (Hs.app _).trans ((Hs.app _).trans (Hs.tl _))) ⟨?_, rfl⟩)
          refine vb ?_; unfold mayLt; simp_all

theorem ref_MayPart (w0 : World) (G : Hp) (l : Lt) (h : LtOk l) : GC Tryd.prog w0 31 #[.agg (LtC l).toArray] (fun v G' => v = .bool (mayLt l) ∧ G = G') G := by
  refine GC.body (args := [.agg (LtC l).toArray]) Tryd.func31 rfl (by kernel_rfl) rfl ?_
  refine GW.seq ?_
  refine GW.region ?_
  refine R.box ⟨rfl, rfl, rfl, rfl⟩ rfl fun b1 => ?_   -- type 43
  refine R.assign ⟨rfl, rfl, rfl, rfl⟩ rfl ?_
  refine GOps.nil ?_
  refine GW.seq ?_
  refine GW.seq ?_
  refine GW.region ?_
  refine R.fieldAddr ⟨rfl, rfl, rfl, rfl⟩ rfl Tryd.underlying43 rfl Tryd.sizeOf41 ?_   -- "Kind"
  refine R.load1 ⟨rfl, rfl, rfl, rfl⟩ rfl Tryd.underlying41 rfl (.own' (by repeat (first | exact List.mem_cons_self | apply List.mem_cons_of_mem | apply List.mem_append_right)) (by rfl)) ?_   -- load 0 ref.go:33 t3
  refine R.eqI ⟨rfl, rfl, rfl, rfl⟩ rfl rfl ?_   -- eql ['t4', '1']
  refine R.move ⟨rfl, rfl, rfl, rfl⟩ rfl ?_
  refine GOps.caseB 6 rfl (fun hg1 => ?_) (fun hg1 => ?_)
  · try simp only [decide_eq_true_eq, decide_eq_false_iff_not, Bool.not_eq_true', Bool.not_eq_false'] at hg1
    refine GOps.skip rfl rfl rfl ?_
    refine GOps.skip rfl rfl rfl ?_
    refine GOps.skip rfl rfl rfl ?_
    refine R.pick_t ⟨rfl, rfl, rfl, rfl⟩ rfl rfl ?_
    refine GOps.nil ?_
    refine GW.cond_t rfl ?_
    refine GW.seq ?_
    refine GW.region ?_
    refine R.fieldAddr ⟨rfl, rfl, rfl, rfl⟩ rfl Tryd.underlying43 rfl Tryd.sizeOf40 ?_   -- "Pattern"
    refine R.load_own (cs := PtC l.pat) ⟨rfl, rfl, rfl, rfl⟩ rfl Tryd.underlying40 rfl Tryd.sizeOf40 (by repeat (first | exact List.mem_cons_self | apply List.mem_cons_of_mem | apply List.mem_append_right)) (by rfl) (by rfl) ?_   -- load 1 ref.go:34 t11
    refine R.call ⟨rfl, rfl, rfl, rfl⟩ rfl (vs := [_]) rfl ((ref_pattern _ _ l.pat h.1).mono ?_)
    rintro _ _ ⟨rfl, rfl⟩
    refine R.move ⟨rfl, rfl, rfl, rfl⟩ rfl ?_
    refine GOps.caseB 14 rfl (fun hg2 => ?_) (fun hg2 => ?_)
    · try simp only [decide_eq_true_eq, decide_eq_false_iff_not, Bool.not_eq_true', Bool.not_eq_false'] at hg2
      refine R.fieldAddr ⟨rfl, rfl, rfl, rfl⟩ rfl Tryd.underlying43 rfl Tryd.sizeOf37 ?_   -- "A"
      refine R.load_own (cs := SlC l.a) ⟨rfl, rfl, rfl, rfl⟩ rfl Tryd.underlying37 rfl Tryd.sizeOf37 (by repeat (first | exact List.mem_cons_self | apply List.mem_cons_of_mem | apply List.mem_append_right)) (by rfl) (by rfl) ?_   -- load 2 ref.go:34 t15
      refine R.build (vs := []) (cells := (SlC zSl).toArray) ⟨rfl, rfl, rfl, rfl⟩ rfl (fun w => run_build w 37 _ _ (by kernel_rfl)) ?_   -- build 0 type 37
      refine R.eqA ⟨rfl, rfl, rfl, rfl⟩ rfl rfl (guard_of g37) (equal_of 9990 rfl (run_eqSl 9997 _ _)) ?_   -- eql ['t16', 't17']
      refine R.pick_t ⟨rfl, rfl, rfl, rfl⟩ rfl rfl ?_
      refine R.move ⟨rfl, rfl, rfl, rfl⟩ rfl ?_
      refine GOps.caseB 20 rfl (fun hg3 => ?_) (fun hg3 => ?_)
      · try simp only [decide_eq_true_eq, decide_eq_false_iff_not, Bool.not_eq_true', Bool.not_eq_false'] at hg3
        refine R.fieldAddr ⟨rfl, rfl, rfl, rfl⟩ rfl Tryd.underlying43 rfl Tryd.sizeOf37 ?_   -- "B"
        refine R.load_own (cs := SlC l.b) ⟨rfl, rfl, rfl, rfl⟩ rfl Tryd.underlying37 rfl Tryd.sizeOf37 (by repeat (first | exact List.mem_cons_self | apply List.mem_cons_of_mem | apply List.mem_append_right)) (by rfl) (by rfl) ?_   -- load 3 ref.go:34 t21
        refine R.build (vs := []) (cells := (SlC zSl).toArray) ⟨rfl, rfl, rfl, rfl⟩ rfl (fun w => run_build w 37 _ _ (by kernel_rfl)) ?_   -- build 1 type 37
        refine R.eqA ⟨rfl, rfl, rfl, rfl⟩ rfl rfl (guard_of g37) (equal_of 9990 rfl (run_eqSl 9997 _ _)) ?_   -- eql ['t22', 't23']
        refine R.pick_t ⟨rfl, rfl, rfl, rfl⟩ rfl rfl ?_
        refine R.assign ⟨rfl, rfl, rfl, rfl⟩ rfl ?_
        refine GOps.nil ?_
        refine GW.ret (Out.of (Res.one rfl rfl) (by first | exact Hs.refl _ | exact Hs.tl _ | exact Hs.tl2 _ _ | exact Hs.tl3 _ _ _ | exact (Hs.app _).trans (Hs.tl _) | exact (Hs.app _).trans ((Hs.app _).trans (Hs.tl _))) ⟨?_, rfl⟩)
        refine vb ?_; unfold mayLt; simp_all
      · try simp only [decide_eq_true_eq, decide_eq_false_iff_not, Bool.not_eq_true', Bool.not_eq_false'] at hg3
        refine GOps.skip rfl rfl rfl ?_
        refine GOps.skip rfl rfl rfl ?_
        refine GOps.skip rfl rfl rfl ?_
        refine GOps.skip rfl rfl rfl ?_
        refine R.pick_f ⟨rfl, rfl, rfl, rfl⟩ rfl rfl ?_
        refine R.assign ⟨rfl, rfl, rfl, rfl⟩ rfl ?_
        refine GOps.nil ?_
        refine GW.ret (Out.of (Res.one rfl rfl) (by first | exact Hs.refl _ | exact Hs.tl _ | exact Hs.tl2 _ _ | exact Hs.tl3 _ _ _ | exact (Hs.app _).trans (Hs.tl _) | exact (Hs.app _).trans ((Hs.app _).trans (Hs.tl _))) ⟨?_, rfl⟩)
        refine vb ?_; unfold mayLt; simp_all
    · try simp only [decide_eq_true_eq, decide_eq_false_iff_not, Bool.not_eq_true', Bool.not_eq_false'] at hg2
      refine GOps.skip rfl rfl rfl ?_
      refine GOps.skip rfl rfl rfl ?_
      refine GOps.skip rfl rfl rfl ?_
      refine GOps.skip rfl rfl rfl ?_
      refine R.pick_f ⟨rfl, rfl, rfl, rfl⟩ rfl rfl ?_
      refine R.move ⟨rfl, rfl, rfl, rfl⟩ rfl ?_
      refine GOps.skip rfl rfl rfl ?_
      refine GOps.skip rfl rfl rfl ?_
      refine GOps.skip rfl rfl rfl ?_
      refine GOps.skip rfl rfl rfl ?_
      refine R.pick_f ⟨rfl, rfl, rfl, rfl⟩ rfl rfl ?_
      refine R.assign ⟨rfl, rfl, rfl, rfl⟩ rfl ?_
      refine GOps.nil ?_
      refine GW.ret (Out.of (Res.one rfl rfl) (by first | exact Hs.refl _ | exact Hs.tl _ | exact Hs.tl2 _ _ | exact Hs.tl3 _ _ _ | exact (Hs.app _).trans (Hs.tl _) | exact (Hs.app _).trans ((Hs.app _).trans (Hs.tl _))) ⟨?_, rfl⟩)
      refine vb ?_; unfold mayLt; simp_all
  · try simp only [decide_eq_true_eq, decide_eq_false_iff_not, Bool.not_eq_true', Bool.not_eq_false'] at hg1
    refine R.fieldAddr ⟨rfl, rfl, rfl, rfl⟩ rfl Tryd.underlying43 rfl Tryd.sizeOf41 ?_   -- "Kind"
    refine R.load1 ⟨rfl, rfl, rfl, rfl⟩ rfl Tryd.underlying41 rfl (.own' (by repeat (first | exact List.mem_cons_self | apply List.mem_cons_of_mem | apply List.mem_append_right)) (by rfl)) ?_   -- load 4 ref.go:33 t7
    refine R.eqI ⟨rfl, rfl, rfl, rfl⟩ rfl rfl ?_   -- eql ['t8', '2']
    refine R.pick_f ⟨rfl, rfl, rfl, rfl⟩ rfl rfl ?_
    refine GOps.nil ?_
    refine GW.ite rfl (fun hc4 => ?_) (fun hc4 => ?_)
    · try simp only [decide_eq_true_eq, decide_eq_false_iff_not, Bool.not_eq_true', Bool.not_eq_false'] at hc4
      refine GW.seq ?_
      refine GW.region ?_
      refine R.fieldAddr ⟨rfl, rfl, rfl, rfl⟩ rfl Tryd.underlying43 rfl Tryd.sizeOf40 ?_   -- "Pattern"
      refine R.load_own (cs := PtC l.pat) ⟨rfl, rfl, rfl, rfl⟩ rfl Tryd.underlying40 rfl Tryd.sizeOf40 (by repeat (first | exact List.mem_cons_self | apply List.mem_cons_of_mem | apply List.mem_append_right)) (by rfl) (by rfl) ?_   -- load 5 ref.go:34 t11
      refine R.call ⟨rfl, rfl, rfl, rfl⟩ rfl (vs := [_]) rfl ((ref_pattern _ _ l.pat h.1).mono ?_)
      rintro _ _ ⟨rfl, rfl⟩
      refine R.move ⟨rfl, rfl, rfl, rfl⟩ rfl ?_
      refine GOps.caseB 14 rfl (fun hg5 => ?_) (fun hg5 => ?_)
      · try simp only [decide_eq_true_eq, decide_eq_false_iff_not, Bool.not_eq_true', Bool.not_eq_false'] at hg5
        refine R.fieldAddr ⟨rfl, rfl, rfl, rfl⟩ rfl Tryd.underlying43 rfl Tryd.sizeOf37 ?_   -- "A"
        refine R.load_own (cs := SlC l.a) ⟨rfl, rfl, rfl, rfl⟩ rfl Tryd.underlying37 rfl Tryd.sizeOf37 (by repeat (first | exact List.mem_cons_self | apply List.mem_cons_of_mem | apply List.mem_append_right)) (by rfl) (by rfl) ?_   -- load 6 ref.go:34 t15
        refine R.build (vs := []) (cells := (SlC zSl).toArray) ⟨rfl, rfl, rfl, rfl⟩ rfl (fun w => run_build w 37 _ _ (by kernel_rfl)) ?_   -- build 2 type 37
        refine R.eqA ⟨rfl, rfl, rfl, rfl⟩ rfl rfl (guard_of g37) (equal_of 9990 rfl (run_eqSl 9997 _ _)) ?_   -- eql ['t16', 't17']
        refine R.pick_t ⟨rfl, rfl, rfl, rfl⟩ rfl rfl ?_
        refine R.move ⟨rfl, rfl, rfl, rfl⟩ rfl ?_
        refine GOps.caseB 20 rfl (fun hg6 => ?_) (fun hg6 => ?_)
        · try simp only [decide_eq_true_eq, decide_eq_false_iff_not, Bool.not_eq_true', Bool.not_eq_false'] at hg6
          refine R.fieldAddr ⟨rfl, rfl, rfl, rfl⟩ rfl Tryd.underlying43 rfl Tryd.sizeOf37 ?_   -- "B"
          refine R.load_own (cs := SlC l.b) ⟨rfl, rfl, rfl, rfl⟩ rfl Tryd.underlying37 rfl Tryd.sizeOf37 (by repeat (first | exact List.mem_cons_self | apply List.mem_cons_of_mem | apply List.mem_append_right)) (by rfl) (by rfl) ?_   -- load 7 ref.go:34 t21
          refine R.build (vs := []) (cells := (SlC zSl).toArray) ⟨rfl, rfl, rfl, rfl⟩ rfl (fun w => run_build w 37 _ _ (by kernel_rfl)) ?_   -- build 3 type 37
          refine R.eqA ⟨rfl, rfl, rfl, rfl⟩ rfl rfl (guard_of g37) (equal_of 9990 rfl (run_eqSl 9997 _ _)) ?_   -- eql ['t22', 't23']
          refine R.pick_t ⟨rfl, rfl, rfl, rfl⟩ rfl rfl ?_
          refine R.assign ⟨rfl, rfl, rfl, rfl⟩ rfl ?_
          refine GOps.nil ?_
          refine GW.ret (Out.of (Res.one rfl rfl) (by first | exact Hs.refl _ | exact Hs.tl _ | exact Hs.tl2 _ _ | exact Hs.tl3 _ _ _ | exact (Hs.app _).trans (Hs.tl _) | exact (Hs.app _).trans ((Hs.app _).trans (Hs.tl _))) ⟨?_, rfl⟩)
          refine vb ?_; unfold mayLt; simp_all
        · try simp only [decide_eq_true_eq, decide_eq_false_iff_not, Bool.not_eq_true', Bool.not_eq_false'] at hg6
          refine GOps.skip rfl rfl rfl ?_
          refine GOps.skip rfl rfl rfl ?_
          refine GOps.skip rfl rfl rfl ?_
          refine GOps.skip rfl rfl rfl ?_
          refine R.pick_f ⟨rfl, rfl, rfl, rfl⟩ rfl rfl ?_
          refine R.assign ⟨rfl, rfl, rfl, rfl⟩ rfl ?_
          refine GOps.nil ?_
          refine GW.ret (Out.of (Res.one rfl rfl) (by first | exact Hs.refl _ | exact Hs.tl _ | exact Hs.tl2 _ _ | exact Hs.tl3 _ _ _ | exact (Hs.app _).trans (Hs.tl _) | exact (Hs.app _).trans ((Hs.app _).trans (Hs.tl _))) ⟨?_, rfl⟩)
          refine vb ?_; unfold mayLt; simp_all
      · try simp only [decide_eq_true_eq, decide_eq_false_iff_not, Bool.not_eq_true', Bool.not_eq_false'] at hg5
        refine GOps.skip rfl rfl rfl ?_
        refine GOps.skip rfl rfl rfl ?_
        refine GOps.skip rfl rfl rfl ?_
        refine GOps.skip rfl rfl rfl ?_
        refine R.pick_f ⟨rfl, rfl, rfl, rfl⟩ rfl rfl ?_
        refine R.move ⟨rfl, rfl, rfl, rfl⟩ rfl ?_
        refine GOps.skip rfl rfl rfl ?_
        refine GOps.skip rfl rfl rfl ?_
        refine GOps.skip rfl rfl rfl ?_
        refine GOps.skip rfl rfl rfl ?_
        refine R.pick_f ⟨rfl, rfl, rfl, rfl⟩ rfl rfl ?_
        refine R.assign ⟨rfl, rfl, rfl, rfl⟩ rfl ?_
        refine GOps.nil ?_
        refine GW.ret (Out.of (Res.one rfl rfl) (by first | exact Hs.refl _ | exact Hs.tl _ | exact Hs.tl2 _ _ | exact Hs.tl3 _ _ _ | exact (Hs.app _).trans (Hs.tl _) | exact (Hs.app _).trans ((Hs.app _).trans (Hs.tl _))) ⟨?_, rfl⟩)
        refine vb ?_; unfold mayLt; simp_all
    · try simp only [decide_eq_true_eq, decide_eq_false_iff_not, Bool.not_eq_true', Bool.not_eq_false'] at hc4
      refine GW.skip ?_
      refine GW.seq ?_
      refine GW.region ?_
      refine R.fieldAddr ⟨rfl, rfl, rfl, rfl⟩ rfl Tryd.underlying43 rfl Tryd.sizeOf41 ?_   -- "Kind"
      refine R.load1 ⟨rfl, rfl, rfl, rfl⟩ rfl Tryd.underlying41 rfl (.own' (by repeat (first | exact List.mem_cons_self | apply List.mem_cons_of_mem | apply List.mem_append_right)) (by rfl)) ?_   -- load 8 ref.go:36 t26
      refine R.eqI ⟨rfl, rfl, rfl, rfl⟩ rfl rfl ?_   -- eql ['t27', '3']
      refine R.move ⟨rfl, rfl, rfl, rfl⟩ rfl ?_
      refine GOps.caseB 29 rfl (fun hg7 => ?_) (fun hg7 => ?_)
      · try simp only [decide_eq_true_eq, decide_eq_false_iff_not, Bool.not_eq_true', Bool.not_eq_false'] at hg7
        refine GOps.skip rfl rfl rfl ?_
        refine GOps.skip rfl rfl rfl ?_
        refine GOps.skip rfl rfl rfl ?_
        refine R.pick_t ⟨rfl, rfl, rfl, rfl⟩ rfl rfl ?_
        refine R.move ⟨rfl, rfl, rfl, rfl⟩ rfl ?_
        refine R.fieldAddr ⟨rfl, rfl, rfl, rfl⟩ rfl Tryd.underlying43 rfl Tryd.sizeOf40 ?_   -- "Pattern"
        refine R.load_own (cs := PtC l.pat) ⟨rfl, rfl, rfl, rfl⟩ rfl Tryd.underlying40 rfl Tryd.sizeOf40 (by repeat (first | exact List.mem_cons_self | apply List.mem_cons_of_mem | apply List.mem_append_right)) (by rfl) (by rfl) ?_   -- load 9 ref.go:36 t35
        refine R.build (vs := []) (cells := (PtC zPt).toArray) ⟨rfl, rfl, rfl, rfl⟩ rfl (fun w => run_build w 40 _ _ (by kernel_rfl)) ?_   -- build 4 type 40
        refine R.eqA ⟨rfl, rfl, rfl, rfl⟩ rfl rfl (guard_of g40) (equal_of 9990 rfl (run_eqPt 40 Tryd.underlying40 9996 _ _)) ?_   -- eql ['t36', 't37']
        refine R.pick_t ⟨rfl, rfl, rfl, rfl⟩ rfl rfl ?_
        refine R.move ⟨rfl, rfl, rfl, rfl⟩ rfl ?_
        refine GOps.caseB 40 rfl (fun hg8 => ?_) (fun hg8 => ?_)
        · try simp only [decide_eq_true_eq, decide_eq_false_iff_not, Bool.not_eq_true', Bool.not_eq_false'] at hg8
          refine R.fieldAddr ⟨rfl, rfl, rfl, rfl⟩ rfl Tryd.underlying43 rfl Tryd.sizeOf37 ?_   -- "A"
          refine R.load_own (cs := SlC l.a) ⟨rfl, rfl, rfl, rfl⟩ rfl Tryd.underlying37 rfl Tryd.sizeOf37 (by repeat (first | exact List.mem_cons_self | apply List.mem_cons_of_mem | apply List.mem_append_right)) (by rfl) (by rfl) ?_   -- load 10 ref.go:36 t41
          refine R.call ⟨rfl, rfl, rfl, rfl⟩ rfl (vs := [_]) rfl ((ref_MaySlot _ _ l.a h.2.1).mono ?_)
          rintro _ _ ⟨rfl, rfl⟩
          refine R.pick_t ⟨rfl, rfl, rfl, rfl⟩ rfl rfl ?_
          refine R.move ⟨rfl, rfl, rfl, rfl⟩ rfl ?_
          refine GOps.caseB 45 rfl (fun hg9 => ?_) (fun hg9 => ?_)
          · try simp only [decide_eq_true_eq, decide_eq_false_iff_not, Bool.not_eq_true', Bool.not_eq_false'] at hg9
            refine R.fieldAddr ⟨rfl, rfl, rfl, rfl⟩ rfl Tryd.underlying43 rfl Tryd.sizeOf37 ?_   -- "B"
            refine R.load_own (cs := SlC l.b) ⟨rfl, rfl, rfl, rfl⟩ rfl Tryd.underlying37 rfl Tryd.sizeOf37 (by repeat (first | exact List.mem_cons_self | apply List.mem_cons_of_mem | apply List.mem_append_right)) (by rfl) (by rfl) ?_   -- load 11 ref.go:36 t46
            refine R.call ⟨rfl, rfl, rfl, rfl⟩ rfl (vs := [_]) rfl ((ref_MaySlot _ _ l.b h.2.2).mono ?_)
            rintro _ _ ⟨rfl, rfl⟩
            refine R.pick_t ⟨rfl, rfl, rfl, rfl⟩ rfl rfl ?_
            refine R.assign ⟨rfl, rfl, rfl, rfl⟩ rfl ?_
            refine GOps.nil ?_
            refine GW.ret (Out.of (Res.one rfl rfl) (by first | exact Hs.refl _ | exact Hs.tl _ | exact Hs.tl2 _ _ | exact Hs.tl3 _ _ _ | exact (Hs.app _).trans (Hs.tl _) | exact (Hs.app _).trans ((Hs.app _).trans (Hs.tl _))) ⟨?_, rfl⟩)
            refine vb ?_; unfold mayLt; simp_all
          · try simp only [decide_eq_true_eq, decide_eq_false_iff_not, Bool.not_eq_true', Bool.not_eq_false'] at hg9
            refine GOps.skip rfl rfl rfl ?_
            refine GOps.skip rfl rfl rfl ?_
            refine GOps.skip rfl rfl rfl ?_
            refine R.pick_f ⟨rfl, rfl, rfl, rfl⟩ rfl rfl ?_
            refine R.assign ⟨rfl, rfl, rfl, rfl⟩ rfl ?_
            refine GOps.nil ?_
            refine GW.ret (Out.of (Res.one rfl rfl) (by first | exact Hs.refl _ | exact Hs.tl _ | exact Hs.tl2 _ _ | exact Hs.tl3 _ _ _ | exact (Hs.app _).trans (Hs.tl _) | exact (Hs.app _).trans ((Hs.app _).trans (Hs.tl _))) ⟨?_, rfl⟩)
            refine vb ?_; unfold mayLt; simp_all
        · try simp only [decide_eq_true_eq, decide_eq_false_iff_not, Bool.not_eq_true', Bool.not_eq_false'] at hg8
          refine GOps.skip rfl rfl rfl ?_
          refine GOps.skip rfl rfl rfl ?_
          refine GOps.skip rfl rfl rfl ?_
          refine R.pick_f ⟨rfl, rfl, rfl, rfl⟩ rfl rfl ?_
          refine R.move ⟨rfl, rfl, rfl, rfl⟩ rfl ?_
          refine GOps.skip rfl rfl rfl ?_
          refine GOps.skip rfl rfl rfl ?_
          refine GOps.skip rfl rfl rfl ?_
          refine R.pick_f ⟨rfl, rfl, rfl, rfl⟩ rfl rfl ?_
          refine R.assign ⟨rfl, rfl, rfl, rfl⟩ rfl ?_
          refine GOps.nil ?_
          refine GW.ret (Out.of (Res.one rfl rfl) (by first | exact Hs.refl _ | exact Hs.tl _ | exact Hs.tl2 _ _ | exact Hs.tl3 _ _ _ | exact (Hs.app _).trans (Hs.tl _) | exact (Hs.app _).trans ((Hs.app _).trans (Hs.tl _))) ⟨?_, rfl⟩)
          refine vb ?_; unfold mayLt; simp_all
      · try simp only [decide_eq_true_eq, decide_eq_false_iff_not, Bool.not_eq_true', Bool.not_eq_false'] at hg7
        refine R.fieldAddr ⟨rfl, rfl, rfl, rfl⟩ rfl Tryd.underlying43 rfl Tryd.sizeOf41 ?_   -- "Kind"
        refine R.load1 ⟨rfl, rfl, rfl, rfl⟩ rfl Tryd.underlying41 rfl (.own' (by repeat (first | exact List.mem_cons_self | apply List.mem_cons_of_mem | apply List.mem_append_right)) (by rfl)) ?_   -- load 12 ref.go:36 t30
        refine R.eqI ⟨rfl, rfl, rfl, rfl⟩ rfl rfl ?_   -- eql ['t31', '4']
        refine R.pick_f ⟨rfl, rfl, rfl, rfl⟩ rfl rfl ?_
        refine R.move ⟨rfl, rfl, rfl, rfl⟩ rfl ?_
        refine GOps.caseB 34 rfl (fun hg10 => ?_) (fun hg10 => ?_)
        · try simp only [decide_eq_true_eq, decide_eq_false_iff_not, Bool.not_eq_true', Bool.not_eq_false'] at hg10
          refine R.fieldAddr ⟨rfl, rfl, rfl, rfl⟩ rfl Tryd.underlying43 rfl Tryd.sizeOf40 ?_   -- "Pattern"
          refine R.load_own (cs := PtC l.pat) ⟨rfl, rfl, rfl, rfl⟩ rfl Tryd.underlying40 rfl Tryd.sizeOf40 (by repeat (first | exact List.mem_cons_self | apply List.mem_cons_of_mem | apply List.mem_append_right)) (by rfl) (by rfl) ?_   -- load 13 ref.go:36 t35
          refine R.build (vs := []) (cells := (PtC zPt).toArray) ⟨rfl, rfl, rfl, rfl⟩ rfl (fun w => run_build w 40 _ _ (by kernel_rfl)) ?_   -- build 5 type 40
          refine R.eqA ⟨rfl, rfl, rfl, rfl⟩ rfl rfl (guard_of g40) (equal_of 9990 rfl (run_eqPt 40 Tryd.underlying40 9996 _ _)) ?_   -- eql ['t36', 't37']
          refine R.pick_t ⟨rfl, rfl, rfl, rfl⟩ rfl rfl ?_
          refine R.move ⟨rfl, rfl, rfl, rfl⟩ rfl ?_
          refine GOps.caseB 40 rfl (fun hg11 => ?_) (fun hg11 => ?_)
          · try simp only [decide_eq_true_eq, decide_eq_false_iff_not, Bool.not_eq_true', Bool.not_eq_false'] at hg11
            refine R.fieldAddr ⟨rfl, rfl, rfl, rfl⟩ rfl Tryd.underlying43 rfl Tryd.sizeOf37 ?_   -- "A"
            refine R.load_own (cs := SlC l.a) ⟨rfl, rfl, rfl, rfl⟩ rfl Tryd.underlying37 rfl Tryd.sizeOf37 (by repeat (first | exact List.mem_cons_self | apply List.mem_cons_of_mem | apply List.mem_append_right)) (by rfl) (by rfl) ?_   -- load 14 ref.go:36 t41
            refine R.call ⟨rfl, rfl, rfl, rfl⟩ rfl (vs := [_]) rfl ((ref_MaySlot _ _ l.a h.2.1).mono ?_)
            rintro _ _ ⟨rfl, rfl⟩
            refine R.pick_t ⟨rfl, rfl, rfl, rfl⟩ rfl rfl ?_
            refine R.move ⟨rfl, rfl, rfl, rfl⟩ rfl ?_
            refine GOps.caseB 45 rfl (fun hg12 => ?_) (fun hg12 => ?_)
            · try simp only [decide_eq_true_eq, decide_eq_false_iff_not, Bool.not_eq_true', Bool.not_eq_false'] at hg12
              refine R.fieldAddr ⟨rfl, rfl, rfl, rfl⟩ rfl Tryd.underlying43 rfl Tryd.sizeOf37 ?_   -- "B"
              refine R.load_own (cs := SlC l.b) ⟨rfl, rfl, rfl, rfl⟩ rfl Tryd.underlying37 rfl Tryd.sizeOf37 (by repeat (first | exact List.mem_cons_self | apply List.mem_cons_of_mem | apply List.mem_append_right)) (by rfl) (by rfl) ?_   -- load 15 ref.go:36 t46
              refine R.call ⟨rfl, rfl, rfl, rfl⟩ rfl (vs := [_]) rfl ((ref_MaySlot _ _ l.b h.2.2).mono ?_)
              rintro _ _ ⟨rfl, rfl⟩
              refine R.pick_t ⟨rfl, rfl, rfl, rfl⟩ rfl rfl ?_
              refine R.assign ⟨rfl, rfl, rfl, rfl⟩ rfl ?_
              refine GOps.nil ?_
              refine GW.ret (Out.of (Res.one rfl rfl) (by first | exact Hs.refl _ | exact Hs.tl _ | exact Hs.tl2 _ _ | exact Hs.tl3 _ _ _ | exact (Hs.app _).trans (Hs.tl _) | exact (Hs.app _).trans ((Hs.app _).trans (Hs.tl _))) ⟨?_, rfl⟩)
              refine vb ?_; unfold mayLt; simp_all
            · try simp only [decide_eq_true_eq, decide_eq_false_iff_not, Bool.not_eq_true', Bool.not_eq_false'] at hg12
              refine GOps.skip rfl rfl rfl ?_
              refine GOps.skip rfl rfl rfl ?_
              refine GOps.skip rfl rfl rfl ?_
              refine R.pick_f ⟨rfl, rfl, rfl, rfl⟩ rfl rfl ?_
              refine R.assign ⟨rfl, rfl, rfl, rfl⟩ rfl ?_
              refine GOps.nil ?_
              refine GW.ret (Out.of (Res.one rfl rfl) (by first | exact Hs.refl _ | exact Hs.tl _ | exact Hs.tl2 _ _ | exact Hs.tl3 _ _ _ | exact (Hs.app _).trans (Hs.tl _) | exact (Hs.app _).trans ((Hs.app _).trans (Hs.tl _))) ⟨?_, rfl⟩)
              refine vb ?_; unfold mayLt; simp_all
          · try simp only [decide_eq_true_eq, decide_eq_false_iff_not, Bool.not_eq_true', Bool.not_eq_false'] at hg11
            refine GOps.skip rfl rfl rfl ?_
            refine GOps.skip rfl rfl rfl ?_
            refine GOps.skip rfl rfl rfl ?_
            refine R.pick_f ⟨rfl, rfl, rfl, rfl⟩ rfl rfl ?_
            refine R.move ⟨rfl, rfl, rfl, rfl⟩ rfl ?_
            refine GOps.skip rfl rfl rfl ?_
            refine GOps.skip rfl rfl rfl ?_
            refine GOps.skip rfl rfl rfl ?_
            refine R.pick_f ⟨rfl, rfl, rfl, rfl⟩ rfl rfl ?_
            refine R.assign ⟨rfl, rfl, rfl, rfl⟩ rfl ?_
            refine GOps.nil ?_
            refine GW.ret (Out.of (Res.one rfl rfl) (by first | exact Hs.refl _ | exact Hs.tl _ | exact Hs.tl2 _ _ | exact Hs.tl3 _ _ _ | exact (Hs.app _).trans (Hs.tl _) | exact (Hs.app _).trans ((Hs.app _).trans (Hs.tl _))) ⟨?_, rfl⟩)
            refine vb ?_; unfold mayLt; simp_all
        · try simp only [decide_eq_true_eq, decide_eq_false_iff_not, Bool.not_eq_true', Bool.not_eq_false'] at hg10
          refine GOps.skip rfl rfl rfl ?_
          refine GOps.skip rfl rfl rfl ?_
          refine GOps.skip rfl rfl rfl ?_
          refine GOps.skip rfl rfl rfl ?_
          refine R.pick_f ⟨rfl, rfl, rfl, rfl⟩ rfl rfl ?_
          refine R.move ⟨rfl, rfl, rfl, rfl⟩ rfl ?_
          refine GOps.skip rfl rfl rfl ?_
          refine GOps.skip rfl rfl rfl ?_
          refine GOps.skip rfl rfl rfl ?_
          refine R.pick_f ⟨rfl, rfl, rfl, rfl⟩ rfl rfl ?_
          refine R.move ⟨rfl, rfl, rfl, rfl⟩ rfl ?_
          refine GOps.skip rfl rfl rfl ?_
          refine GOps.skip rfl rfl rfl ?_
          refine GOps.skip rfl rfl rfl ?_
          refine R.pick_f ⟨rfl, rfl, rfl, rfl⟩ rfl rfl ?_
          refine R.assign ⟨rfl, rfl, rfl, rfl⟩ rfl ?_
          refine GOps.nil ?_
          refine GW.ret (Out.of (Res.one rfl rfl) (by first | exact Hs.refl _ | exact Hs.tl _ | exact Hs.tl2 _ _ | exact Hs.tl3 _ _ _ | exact (Hs.app _).trans (Hs.tl _) | exact (Hs.app _).trans ((Hs.app _).trans (Hs.tl _))) ⟨?_, rfl⟩)
          refine vb ?_; unfold mayLt; simp_all

theorem rules_May1 (w0 : World) (G : Hp) (l : Lt) (h : LtOk l) : GC Tryd.prog w0 28 #[.agg (LtC l).toArray] (fun v G' => v = .bool (!(mayLt l)) ∧ G = G') G := by
  refine GC.body (args := [.agg (LtC l).toArray]) Tryd.func28 rfl (by kernel_rfl) rfl ?_
  refine GW.seq ?_
  refine GW.region ?_
  refine R.box ⟨rfl, rfl, rfl, rfl⟩ rfl fun b1 => ?_   -- type 43
  refine R.assign ⟨rfl, rfl, rfl, rfl⟩ rfl ?_
  refine GOps.nil ?_
  refine GW.seq ?_
  refine GW.region ?_
  refine R.load_own (cs := LtC l) ⟨rfl, rfl, rfl, rfl⟩ rfl Tryd.underlying43 rfl Tryd.sizeOf43 (by repeat (first | exact List.mem_cons_self | apply List.mem_cons_of_mem | apply List.mem_append_right)) (by rfl) (by rfl) ?_   -- load 0 rules.go:48 t1:l
  refine R.call ⟨rfl, rfl, rfl, rfl⟩ rfl (vs := [_]) rfl ((rules_part _ _ l h).mono ?_)
  rintro _ _ ⟨rfl, rfl⟩
  refine R.not ⟨rfl, rfl, rfl, rfl⟩ rfl ?_
  refine R.assign ⟨rfl, rfl, rfl, rfl⟩ rfl ?_
  refine GOps.nil ?_
  refine GW.ret (Out.of (Res.one rfl rfl) (by first | exact Hs.refl _ | exact Hs.tl _ | exact Hs.tl2 _ _ | exact Hs.tl3 _ _ _ | exact (Hs.app _).trans (Hs.tl _) | exact (Hs.app _).trans ((Hs.app _).trans (Hs.tl _))) ⟨?_, rfl⟩)
  rfl

theorem idx_Lit (w0 : World) (G : Hp) (A : Option Addr) (ls : List Lt) (c : Nat) (k : FuncId) (cap : Array Value) (p : Lt → Bool) (hl : LtsAt w0 G A ls) (hm : ls.length ≤ 1048576)
    (hf : ∀ l ∈ ls, GC Tryd.prog w0 k (#[] ++ [Value.agg (LtC l).toArray].toArray ++ cap) (fun v G' => v = .bool (p l) ∧ G = G') G) :
    GC Tryd.prog w0 35 #[.slice A ls.length c, .func (.func k) #[] cap] (fun v G' => ∃ r : Int, v = .int .i64 r ∧ decide (r ≥ 0) = ls.any p ∧ G = G') G := by
  refine GC.body (args := [.slice A ls.length c, .func (.func k) #[] cap]) Tryd.func35 rfl (by kernel_rfl) rfl ?_
  refine GW.seq ?_
  refine GW.region ?_
  refine R.assign ⟨rfl, rfl, rfl, rfl⟩ rfl ?_
  refine GOps.nil ?_
  refine GW.seq ?_
  refine GW.seq ?_
  refine GW.region ?_
  refine R.move ⟨rfl, rfl, rfl, rfl⟩ rfl ?_
  refine R.lenS ⟨rfl, rfl, rfl, rfl⟩ rfl rfl Tryd.underlying44 ?_
  refine R.move ⟨rfl, rfl, rfl, rfl⟩ rfl ?_
  refine GOps.nil ?_
  refine GW.block ?_
  -- LOOP: live 0:s, 1:f, 7, 8
  refine GW.loopI (fun i : Nat => [(0, .slice A ls.length c), (1, .func (.func k) #[] cap), (7, .int .i64 ls.length), (8, .int .i64 i)]) (fun i => G) (fun i => ls.length - i) (fun i => i ≤ ls.length ∧ (ls.take i).any p = false) 0
    (by repeat (first | exact Keeps.nil _ | refine Keeps.cons rfl ?_)) (Hs.refl _) (⟨by omega, by simp⟩) ?_
  rintro i ⟨hi, h0⟩
  refine GW.seq ?_
  refine GW.region ?_
  refine R.lss ⟨rfl, rfl, rfl, rfl⟩ rfl rfl ?_   -- lss ['t8', 't7']
  refine GOps.nil ?_
  refine GW.seq ?_
  refine GW.ite rfl (fun hc1 => ?_) (fun hc1 => ?_)
  · try simp only [decide_eq_true_eq, decide_eq_false_iff_not, Bool.not_eq_true', Bool.not_eq_false'] at hc1
    obtain ⟨x, hx⟩ : ∃ x, ls[i]? = some x := ⟨_, List.getElem?_eq_getElem (by omega)⟩
    obtain ⟨bb, oo, cs, rfl, rfl, hrd⟩ := hl i x hx
    refine GW.skip ?_
    refine GW.seq ?_
    refine GW.block ?_
    refine GW.seq ?_
    refine GW.region ?_
    refine R.move ⟨rfl, rfl, rfl, rfl⟩ rfl ?_
    refine R.assign ⟨rfl, rfl, rfl, rfl⟩ rfl ?_
    refine GOps.nil ?_
    refine GW.seq ?_
    refine GW.region ?_
    refine R.move ⟨rfl, rfl, rfl, rfl⟩ rfl ?_
    refine R.move ⟨rfl, rfl, rfl, rfl⟩ rfl ?_
    refine R.move ⟨rfl, rfl, rfl, rfl⟩ rfl ?_
    refine R.indexAddrS ⟨rfl, rfl, rfl, rfl⟩ rfl rfl Tryd.underlying44 Tryd.sizeOf43 (by omega) (by omega) ?_   -- ['t12', 't13']
    refine R.loadA ⟨rfl, rfl, rfl, rfl⟩ rfl Tryd.underlying43 rfl Tryd.sizeOf43 (hrd) (by rfl) ?_   -- load 0 slices.go:109
    refine R.call ⟨rfl, rfl, rfl, rfl⟩ rfl (vs := [_]) rfl ((hf x (List.mem_of_getElem? hx)).mono ?_)
    rintro _ _ ⟨rfl, rfl⟩
    refine GOps.nil ?_
    refine GW.ite rfl (fun hc2 => ?_) (fun hc2 => ?_)
    · try simp only [decide_eq_true_eq, decide_eq_false_iff_not, Bool.not_eq_true', Bool.not_eq_false'] at hc2
      refine GW.seq ?_
      refine GW.region ?_
      refine R.move ⟨rfl, rfl, rfl, rfl⟩ rfl ?_
      refine R.assign ⟨rfl, rfl, rfl, rfl⟩ rfl ?_
      refine GOps.nil ?_
      first | exact GW.ret (Out.of (Res.one rfl rfl) (Hs.refl _) ⟨_, rfl, by rw [any_of_get p ls i x hx (by assumption)]; exact decide_eq_true (by omega), rfl⟩) | exact GW.ret (Out.of (Res.one rfl rfl) (Hs.refl _) ⟨_, rfl, by rw [any_of_take p ls i (by omega) h0]; rfl, rfl⟩)
    · try simp only [decide_eq_true_eq, decide_eq_false_iff_not, Bool.not_eq_true', Bool.not_eq_false'] at hc2
      refine GW.skip ?_
      refine GW.region ?_
      refine R.add (r := (((i + 1) : Nat) : Int)) ⟨rfl, rfl, rfl, rfl⟩ rfl rfl (by rw [wrap64_id (by omega) (by omega)]; omega) ?_   -- add ['t8', '1']
      refine R.move ⟨rfl, rfl, rfl, rfl⟩ rfl ?_
      refine GOps.nil ?_
      exact ⟨i + 1, by omega, ⟨by omega, any_take_succ p ls i x hx h0 (by assumption)⟩, rfl, by repeat (first | exact Keeps.nil _ | refine Keeps.cons rfl ?_), by first | exact Hs.refl _ | exact Hs.tl _ | exact Hs.tl2 _ _⟩
  · try simp only [decide_eq_true_eq, decide_eq_false_iff_not, Bool.not_eq_true', Bool.not_eq_false'] at hc1
    refine GW.exit ?_
    refine GW.seq ?_
    refine GW.region ?_
    refine R.assign ⟨rfl, rfl, rfl, rfl⟩ rfl ?_
    refine GOps.nil ?_
    first | exact GW.ret (Out.of (Res.one rfl rfl) (Hs.refl _) ⟨_, rfl, by rw [any_of_get p ls i x hx (by assumption)]; exact decide_eq_true (by omega), rfl⟩) | exact GW.ret (Out.of (Res.one rfl rfl) (Hs.refl _) ⟨_, rfl, by rw [any_of_take p ls i (by omega) h0]; rfl, rfl⟩)

theorem has_Lit (w0 : World) (G : Hp) (A : Option Addr) (ls : List Lt) (c : Nat) (k : FuncId) (cap : Array Value) (p : Lt → Bool) (hl : LtsAt w0 G A ls) (hm : ls.length ≤ 1048576)
    (hf : ∀ l ∈ ls, GC Tryd.prog w0 k (#[] ++ [Value.agg (LtC l).toArray].toArray ++ cap) (fun v G' => v = .bool (p l) ∧ G = G') G) :
    GC Tryd.prog w0 27 #[.slice A ls.length c, .func (.func k) #[] cap] (fun v G' => v = .bool (ls.any p) ∧ G = G') G := by
  refine GC.body (args := [.slice A ls.length c, .func (.func k) #[] cap]) Tryd.func27 rfl (by kernel_rfl) rfl ?_
  refine GW.seq ?_
  refine GW.region ?_
  refine R.assign ⟨rfl, rfl, rfl, rfl⟩ rfl ?_
  refine GOps.nil ?_
  refine GW.seq ?_
  refine GW.region ?_
  refine R.move ⟨rfl, rfl, rfl, rfl⟩ rfl ?_
  refine R.move ⟨rfl, rfl, rfl, rfl⟩ rfl ?_
  refine R.call ⟨rfl, rfl, rfl, rfl⟩ rfl (vs := [_, _]) rfl ((idx_Lit _ _ _ _ _ _ _ p hl hm hf).mono ?_)
  rintro _ _ ⟨r, rfl, hr, rfl⟩
  refine R.geq ⟨rfl, rfl, rfl, rfl⟩ rfl rfl ?_   -- geq ['t7', '0']
  refine R.assign ⟨rfl, rfl, rfl, rfl⟩ rfl ?_
  refine GOps.nil ?_
  refine GW.ret (Out.of (Res.one rfl rfl) (by first | exact Hs.refl _ | exact Hs.tl _ | exact Hs.tl2 _ _ | exact Hs.tl3 _ _ _ | exact (Hs.app _).trans (Hs.tl _) | exact (Hs.app _).trans ((Hs.app _).trans (Hs.tl _))) ⟨?_, rfl⟩)
  rw [← hr]

end Go.Proofs.YtgjmandjhjfgkaaDoor.Gl
