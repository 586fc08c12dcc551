/- Part 3 of the proof: S11 S12 S13 S14 S15 S16 S17 S18 U2 V2 W1 W2 W3 W4. -/
import Derived.Test.YtfddkcmooommeaaGreatDoorMD2
import Derived.Laws.StructEq
section
namespace Go.Proofs.YtfddkcmooommeaaGreatDoor.Gl
open Go.RowKit Go.Shelf
set_option linter.unusedVariables false
set_option linter.unnecessarySimpa false
set_option linter.unusedSimpArgs false
attribute [-simp] List.getD_eq_getElem?_getD
def zTm : Tm := ⟨0, ByteArray.empty, ByteArray.empty⟩
def zSl : Sl := ⟨ByteArray.empty, zTm⟩
def zPt : Pt := ⟨zSl, zSl, zSl⟩
def SlOk (s : Sl) : Prop := s.v.size ≤ 1048576 ∧ s.t.text.size ≤ 1048576 ∧ s.t.ext.size ≤ 1048576
def PtOk (p : Pt) : Prop := SlOk p.s0 ∧ SlOk p.s1 ∧ SlOk p.s2
def LtOk (l : Lt) : Prop := PtOk l.pat ∧ SlOk l.a ∧ SlOk l.b
def RlOk (r : Rl) : Prop := PtOk r.head ∧ ∀ l ∈ r.body, LtOk l
def maySl (s : Sl) : Bool := bif emp s.v then mayT s.t else word 32 (bs s.v) && tmEq s.t zTm
def mayPt (p : Pt) : Bool := maySl p.s0 && (maySl p.s1 && maySl p.s2)
def mayLt (l : Lt) : Bool :=
 bif (decide (l.kind = 1) || decide (l.kind = 2)) then mayPt l.pat && (slEq l.a zSl && slEq l.b zSl) else bif (decide (l.kind = 3) || decide (l.kind = 4)) then ptEq l.pat zPt && (maySl l.a && maySl l.b) else false
def mayRl (r : Rl) : Bool := mayPt r.head && (decide (r.body.length ≤ 64) && r.body.all mayLt)
theorem rules_MaySlot (w0 : World) (G : Hp) (s : Sl) (h : SlOk s) : GC Tryz.prog w0 106 #[.agg (SlC s).toArray] (fun v G' => v = .bool (maySl s) ∧ G = G') G := by
 refine GC.body (args := [.agg (SlC s).toArray]) Tryz.func106 rfl (by kernel_rfl) rfl ?_
 refine GW.seq ?_
 refine GW.region ?_
 refine R.box ⟨rfl, rfl, rfl, rfl⟩ rfl fun b1 => ?_
 refine R.assign ⟨rfl, rfl, rfl, rfl⟩ rfl ?_
 refine GOps.nil ?_
 refine GW.seq ?_
 refine GW.seq ?_
 refine GW.region ?_
 refine R.fieldAddr ⟨rfl, rfl, rfl, rfl⟩ rfl Tryz.underlying26 rfl Tryz.sizeOf9 ?_   -- "Var"
 refine R.load1 ⟨rfl, rfl, rfl, rfl⟩ rfl Tryz.underlying9 rfl (.own' memG (by rfl)) ?_
 refine R.neS ⟨rfl, rfl, rfl, rfl⟩ rfl rfl ?_
 refine GOps.nil ?_
 refine GW.ite rfl (fun hc1 => ?_) (fun hc1 => ?_)
 ·try simp only [dcQ] at hc1
  refine GW.seq ?_
  refine GW.region ?_
  refine R.fieldAddr ⟨rfl, rfl, rfl, rfl⟩ rfl Tryz.underlying26 rfl Tryz.sizeOf9 ?_   -- "Var"
  refine R.load1 ⟨rfl, rfl, rfl, rfl⟩ rfl Tryz.underlying9 rfl (.own' memG (by rfl)) ?_
  refine R.call ⟨rfl, rfl, rfl, rfl⟩ rfl (vs := [_]) rfl ((rules_name _ _ _ (by have := h.1; omega)).mono ?_)
  rintro _ _ ⟨rfl, rfl⟩
  refine R.move ⟨rfl, rfl, rfl, rfl⟩ rfl ?_
  refine GOps.caseB 9 rfl (fun hg2 => ?_) (fun hg2 => ?_)
  ·try simp only [dcQ] at hg2
   refine R.fieldAddr ⟨rfl, rfl, rfl, rfl⟩ rfl Tryz.underlying26 rfl Tryz.sizeOf24 ?_   -- "Term"
   refine R.load_own (cs := TmC s.t) ⟨rfl, rfl, rfl, rfl⟩ rfl Tryz.underlying24 rfl Tryz.sizeOf24 memG (by rfl) (by rfl) ?_
   refine R.build (vs := []) (cells := (TmC zTm).toArray) ⟨rfl, rfl, rfl, rfl⟩ rfl (fun w => run_build w 24 _ _ (by kernel_rfl)) ?_
   refine R.eqA ⟨rfl, rfl, rfl, rfl⟩ rfl rfl (guard_of g24) (equal_of 9990 rfl (run_eqTm 9998 _ _)) ?_
   refine R.pick_t ⟨rfl, rfl, rfl, rfl⟩ rfl rfl ?_
   refine R.assign ⟨rfl, rfl, rfl, rfl⟩ rfl ?_
   refine GOps.nil ?_
   refine GW.ret (Out.of (Res.one rfl rfl) (by first | exact Hs.refl _ | exact Hs.tl _ | exact Hs.tl2 _ _ | exact Hs.tl3 _ _ _ | exact (Hs.app _).trans (Hs.tl _) | exact (Hs.app _).trans ((Hs.app _).trans (Hs.tl _))) ⟨?_, rfl⟩)
   refine vb ?_; unfold maySl; first | (rw [show emp s.v = true from hc1]; rfl) | (rw [show emp s.v = false from hc1, show word 32 (bs s.v) = true from hg2]; rfl) | (rw [show emp s.v = false from hc1, show word 32 (bs s.v) = false from hg2]; rfl) | (rw [show emp s.v = false from hc1, show tmEq s.t zTm = true from hg2, Bool.and_true]; rfl) | (rw [show emp s.v = false from hc1, show tmEq s.t zTm = false from hg2, Bool.and_false]; rfl)
  ·try simp only [dcQ] at hg2
   refine GOps.skip rfl rfl rfl ?_
   refine GOps.skip rfl rfl rfl ?_
   refine GOps.skip rfl rfl rfl ?_
   refine GOps.skip rfl rfl rfl ?_
   refine R.pick_f ⟨rfl, rfl, rfl, rfl⟩ rfl rfl ?_
   refine R.assign ⟨rfl, rfl, rfl, rfl⟩ rfl ?_
   refine GOps.nil ?_
   refine GW.ret (Out.of (Res.one rfl rfl) (by first | exact Hs.refl _ | exact Hs.tl _ | exact Hs.tl2 _ _ | exact Hs.tl3 _ _ _ | exact (Hs.app _).trans (Hs.tl _) | exact (Hs.app _).trans ((Hs.app _).trans (Hs.tl _))) ⟨?_, rfl⟩)
   refine vb ?_; unfold maySl; first | (rw [show emp s.v = true from hc1]; rfl) | (rw [show emp s.v = false from hc1, show word 32 (bs s.v) = true from hg2]; rfl) | (rw [show emp s.v = false from hc1, show word 32 (bs s.v) = false from hg2]; rfl) | (rw [show emp s.v = false from hc1, show tmEq s.t zTm = true from hg2, Bool.and_true]; rfl) | (rw [show emp s.v = false from hc1, show tmEq s.t zTm = false from hg2, Bool.and_false]; rfl)
 ·try simp only [dcQ] at hc1
  refine GW.skip ?_
  refine GW.seq ?_
  refine GW.region ?_
  refine R.fieldAddr ⟨rfl, rfl, rfl, rfl⟩ rfl Tryz.underlying26 rfl Tryz.sizeOf24 ?_   -- "Term"
  refine R.load_own (cs := TmC s.t) ⟨rfl, rfl, rfl, rfl⟩ rfl Tryz.underlying24 rfl Tryz.sizeOf24 memG (by rfl) (by rfl) ?_
  refine R.call ⟨rfl, rfl, rfl, rfl⟩ rfl (vs := [_]) rfl ((term_May _ _ s.t h.2.1 h.2.2).mono ?_)
  rintro _ _ ⟨rfl, rfl⟩
  refine R.assign ⟨rfl, rfl, rfl, rfl⟩ rfl ?_
  refine GOps.nil ?_
  refine GW.ret (Out.of (Res.one rfl rfl) (by first | exact Hs.refl _ | exact Hs.tl _ | exact Hs.tl2 _ _ | exact Hs.tl3 _ _ _ | exact (Hs.app _).trans (Hs.tl _) | exact (Hs.app _).trans ((Hs.app _).trans (Hs.tl _))) ⟨?_, rfl⟩)
  refine vb ?_; unfold maySl; first | (rw [show emp s.v = true from hc1]; rfl) | (rw [show emp s.v = false from hc1, show word 32 (bs s.v) = true from hg2]; rfl) | (rw [show emp s.v = false from hc1, show word 32 (bs s.v) = false from hg2]; rfl) | (rw [show emp s.v = false from hc1, show tmEq s.t zTm = true from hg2, Bool.and_true]; rfl) | (rw [show emp s.v = false from hc1, show tmEq s.t zTm = false from hg2, Bool.and_false]; rfl)
theorem ref_MaySlot (w0 : World) (G : Hp) (s : Sl) (h : SlOk s) : GC Tryz.prog w0 77 #[.agg (SlC s).toArray] (fun v G' => v = .bool (maySl s) ∧ G = G') G := by
 refine GC.body (args := [.agg (SlC s).toArray]) Tryz.func77 rfl (by kernel_rfl) rfl ?_
 refine GW.seq ?_
 refine GW.region ?_
 refine R.box ⟨rfl, rfl, rfl, rfl⟩ rfl fun b1 => ?_
 refine R.assign ⟨rfl, rfl, rfl, rfl⟩ rfl ?_
 refine GOps.nil ?_
 refine GW.seq ?_
 refine GW.seq ?_
 refine GW.region ?_
 refine R.fieldAddr ⟨rfl, rfl, rfl, rfl⟩ rfl Tryz.underlying26 rfl Tryz.sizeOf9 ?_   -- "Var"
 refine R.load1 ⟨rfl, rfl, rfl, rfl⟩ rfl Tryz.underlying9 rfl (.own' memG (by rfl)) ?_
 refine R.eqS ⟨rfl, rfl, rfl, rfl⟩ rfl rfl ?_
 refine GOps.nil ?_
 refine GW.ite rfl (fun hc1 => ?_) (fun hc1 => ?_)
 ·try simp only [dcQ] at hc1
  refine GW.seq ?_
  refine GW.region ?_
  refine R.fieldAddr ⟨rfl, rfl, rfl, rfl⟩ rfl Tryz.underlying26 rfl Tryz.sizeOf24 ?_   -- "Term"
  refine R.load_own (cs := TmC s.t) ⟨rfl, rfl, rfl, rfl⟩ rfl Tryz.underlying24 rfl Tryz.sizeOf24 memG (by rfl) (by rfl) ?_
  refine R.call ⟨rfl, rfl, rfl, rfl⟩ rfl (vs := [_]) rfl ((ref_MayT _ _ s.t h.2.1 h.2.2).mono ?_)
  rintro _ _ ⟨rfl, rfl⟩
  refine R.assign ⟨rfl, rfl, rfl, rfl⟩ rfl ?_
  refine GOps.nil ?_
  refine GW.ret (Out.of (Res.one rfl rfl) (by first | exact Hs.refl _ | exact Hs.tl _ | exact Hs.tl2 _ _ | exact Hs.tl3 _ _ _ | exact (Hs.app _).trans (Hs.tl _) | exact (Hs.app _).trans ((Hs.app _).trans (Hs.tl _))) ⟨?_, rfl⟩)
  refine vb ?_; unfold maySl; first | (rw [show emp s.v = true from hc1]; rfl) | (rw [show emp s.v = false from hc1, show word 32 (bs s.v) = true from hg2]; rfl) | (rw [show emp s.v = false from hc1, show word 32 (bs s.v) = false from hg2]; rfl) | (rw [show emp s.v = false from hc1, show tmEq s.t zTm = true from hg2, Bool.and_true]; rfl) | (rw [show emp s.v = false from hc1, show tmEq s.t zTm = false from hg2, Bool.and_false]; rfl)
 ·try simp only [dcQ] at hc1
  refine GW.skip ?_
  refine GW.seq ?_
  refine GW.region ?_
  refine R.fieldAddr ⟨rfl, rfl, rfl, rfl⟩ rfl Tryz.underlying26 rfl Tryz.sizeOf24 ?_   -- "Term"
  refine R.load_own (cs := TmC s.t) ⟨rfl, rfl, rfl, rfl⟩ rfl Tryz.underlying24 rfl Tryz.sizeOf24 memG (by rfl) (by rfl) ?_
  refine R.build (vs := []) (cells := (TmC zTm).toArray) ⟨rfl, rfl, rfl, rfl⟩ rfl (fun w => run_build w 24 _ _ (by kernel_rfl)) ?_
  refine R.eqA ⟨rfl, rfl, rfl, rfl⟩ rfl rfl (guard_of g24) (equal_of 9990 rfl (run_eqTm 9998 _ _)) ?_
  refine R.move ⟨rfl, rfl, rfl, rfl⟩ rfl ?_
  refine GOps.caseB 13 rfl (fun hg2 => ?_) (fun hg2 => ?_)
  ·try simp only [dcQ] at hg2
   refine R.fieldAddr ⟨rfl, rfl, rfl, rfl⟩ rfl Tryz.underlying26 rfl Tryz.sizeOf9 ?_   -- "Var"
   refine R.load1 ⟨rfl, rfl, rfl, rfl⟩ rfl Tryz.underlying9 rfl (.own' memG (by rfl)) ?_
   refine R.call ⟨rfl, rfl, rfl, rfl⟩ rfl (vs := [_, _]) rfl ((ref_Word _ _ _ 32 (by have := h.1; omega)).mono ?_)
   rintro _ _ ⟨rfl, rfl⟩
   refine R.pick_t ⟨rfl, rfl, rfl, rfl⟩ rfl rfl ?_
   refine R.assign ⟨rfl, rfl, rfl, rfl⟩ rfl ?_
   refine GOps.nil ?_
   refine GW.ret (Out.of (Res.one rfl rfl) (by first | exact Hs.refl _ | exact Hs.tl _ | exact Hs.tl2 _ _ | exact Hs.tl3 _ _ _ | exact (Hs.app _).trans (Hs.tl _) | exact (Hs.app _).trans ((Hs.app _).trans (Hs.tl _))) ⟨?_, rfl⟩)
   refine vb ?_; unfold maySl; first | (rw [show emp s.v = true from hc1]; rfl) | (rw [show emp s.v = false from hc1, show word 32 (bs s.v) = true from hg2]; rfl) | (rw [show emp s.v = false from hc1, show word 32 (bs s.v) = false from hg2]; rfl) | (rw [show emp s.v = false from hc1, show tmEq s.t zTm = true from hg2, Bool.and_true]; rfl) | (rw [show emp s.v = false from hc1, show tmEq s.t zTm = false from hg2, Bool.and_false]; rfl)
  ·try simp only [dcQ] at hg2
   refine GOps.skip rfl rfl rfl ?_
   refine GOps.skip rfl rfl rfl ?_
   refine GOps.skip rfl rfl rfl ?_
   refine R.pick_f ⟨rfl, rfl, rfl, rfl⟩ rfl rfl ?_
   refine R.assign ⟨rfl, rfl, rfl, rfl⟩ rfl ?_
   refine GOps.nil ?_
   refine GW.ret (Out.of (Res.one rfl rfl) (by first | exact Hs.refl _ | exact Hs.tl _ | exact Hs.tl2 _ _ | exact Hs.tl3 _ _ _ | exact (Hs.app _).trans (Hs.tl _) | exact (Hs.app _).trans ((Hs.app _).trans (Hs.tl _))) ⟨?_, rfl⟩)
   refine vb ?_; unfold maySl; first | (rw [show emp s.v = true from hc1]; rfl) | (rw [show emp s.v = false from hc1, show word 32 (bs s.v) = true from hg2]; rfl) | (rw [show emp s.v = false from hc1, show word 32 (bs s.v) = false from hg2]; rfl) | (rw [show emp s.v = false from hc1, show tmEq s.t zTm = true from hg2, Bool.and_true]; rfl) | (rw [show emp s.v = false from hc1, show tmEq s.t zTm = false from hg2, Bool.and_false]; rfl)
theorem rules_pattern (w0 : World) (G : Hp) (p : Pt) (h : PtOk p) : GC Tryz.prog w0 81 #[.agg (PtC p).toArray] (fun v G' => v = .bool (mayPt p) ∧ G = G') G := by
 refine GC.body (args := [.agg (PtC p).toArray]) Tryz.func81 rfl (by kernel_rfl) rfl ?_
 refine GW.seq ?_
 refine GW.region ?_
 refine R.box ⟨rfl, rfl, rfl, rfl⟩ rfl fun b1 => ?_
 refine R.assign ⟨rfl, rfl, rfl, rfl⟩ rfl ?_
 refine GOps.nil ?_
 refine GW.seq ?_
 refine GW.region ?_
 refine R.indexAddrA ⟨rfl, rfl, rfl, rfl⟩ rfl rfl Tryz.underlying28 Tryz.sizeOf26 (by omega) (by omega) ?_
 refine R.load_own (cs := SlC p.s0) ⟨rfl, rfl, rfl, rfl⟩ rfl Tryz.underlying26 rfl Tryz.sizeOf26 memG (by rfl) (by rfl) ?_
 refine R.call ⟨rfl, rfl, rfl, rfl⟩ rfl (vs := [_]) rfl ((rules_MaySlot _ _ p.s0 h.1).mono ?_)
 rintro _ _ ⟨rfl, rfl⟩
 refine R.move ⟨rfl, rfl, rfl, rfl⟩ rfl ?_
 refine GOps.caseB 6 rfl (fun hg1 => ?_) (fun hg1 => ?_)
 ·try simp only [dcQ] at hg1
  refine R.indexAddrA ⟨rfl, rfl, rfl, rfl⟩ rfl rfl Tryz.underlying28 Tryz.sizeOf26 (by omega) (by omega) ?_
  refine R.load_own (cs := SlC p.s1) ⟨rfl, rfl, rfl, rfl⟩ rfl Tryz.underlying26 rfl Tryz.sizeOf26 memG (by rfl) (by rfl) ?_
  refine R.call ⟨rfl, rfl, rfl, rfl⟩ rfl (vs := [_]) rfl ((rules_MaySlot _ _ p.s1 h.2.1).mono ?_)
  rintro _ _ ⟨rfl, rfl⟩
  refine R.pick_t ⟨rfl, rfl, rfl, rfl⟩ rfl rfl ?_
  refine R.move ⟨rfl, rfl, rfl, rfl⟩ rfl ?_
  refine GOps.caseB 11 rfl (fun hg2 => ?_) (fun hg2 => ?_)
  ·try simp only [dcQ] at hg2
   refine R.indexAddrA ⟨rfl, rfl, rfl, rfl⟩ rfl rfl Tryz.underlying28 Tryz.sizeOf26 (by omega) (by omega) ?_
   refine R.load_own (cs := SlC p.s2) ⟨rfl, rfl, rfl, rfl⟩ rfl Tryz.underlying26 rfl Tryz.sizeOf26 memG (by rfl) (by rfl) ?_
   refine R.call ⟨rfl, rfl, rfl, rfl⟩ rfl (vs := [_]) rfl ((rules_MaySlot _ _ p.s2 h.2.2).mono ?_)
   rintro _ _ ⟨rfl, rfl⟩
   refine R.pick_t ⟨rfl, rfl, rfl, rfl⟩ rfl rfl ?_
   refine R.assign ⟨rfl, rfl, rfl, rfl⟩ rfl ?_
   refine GOps.nil ?_
   refine GW.ret (Out.of (Res.one rfl rfl) (by first | exact Hs.refl _ | exact Hs.tl _ | exact Hs.tl2 _ _ | exact Hs.tl3 _ _ _ | exact (Hs.app _).trans (Hs.tl _) | exact (Hs.app _).trans ((Hs.app _).trans (Hs.tl _))) ⟨?_, rfl⟩)
   refine vb ?_; unfold mayPt; simp_all
  ·try simp only [dcQ] at hg2
   refine GOps.skip rfl rfl rfl ?_
   refine GOps.skip rfl rfl rfl ?_
   refine GOps.skip rfl rfl rfl ?_
   refine R.pick_f ⟨rfl, rfl, rfl, rfl⟩ rfl rfl ?_
   refine R.assign ⟨rfl, rfl, rfl, rfl⟩ rfl ?_
   refine GOps.nil ?_
   refine GW.ret (Out.of (Res.one rfl rfl) (by first | exact Hs.refl _ | exact Hs.tl _ | exact Hs.tl2 _ _ | exact Hs.tl3 _ _ _ | exact (Hs.app _).trans (Hs.tl _) | exact (Hs.app _).trans ((Hs.app _).trans (Hs.tl _))) ⟨?_, rfl⟩)
   refine vb ?_; unfold mayPt; simp_all
 ·try simp only [dcQ] at hg1
  refine GOps.skip rfl rfl rfl ?_
  refine GOps.skip rfl rfl rfl ?_
  refine GOps.skip rfl rfl rfl ?_
  refine R.pick_f ⟨rfl, rfl, rfl, rfl⟩ rfl rfl ?_
  refine R.move ⟨rfl, rfl, rfl, rfl⟩ rfl ?_
  refine GOps.skip rfl rfl rfl ?_
  refine GOps.skip rfl rfl rfl ?_
  refine GOps.skip rfl rfl rfl ?_
  refine R.pick_f ⟨rfl, rfl, rfl, rfl⟩ rfl rfl ?_
  refine R.assign ⟨rfl, rfl, rfl, rfl⟩ rfl ?_
  refine GOps.nil ?_
  refine GW.ret (Out.of (Res.one rfl rfl) (by first | exact Hs.refl _ | exact Hs.tl _ | exact Hs.tl2 _ _ | exact Hs.tl3 _ _ _ | exact (Hs.app _).trans (Hs.tl _) | exact (Hs.app _).trans ((Hs.app _).trans (Hs.tl _))) ⟨?_, rfl⟩)
  refine vb ?_; unfold mayPt; simp_all
theorem ref_pattern (w0 : World) (G : Hp) (p : Pt) (h : PtOk p) : GC Tryz.prog w0 47 #[.agg (PtC p).toArray] (fun v G' => v = .bool (mayPt p) ∧ G = G') G := by
 refine GC.body (args := [.agg (PtC p).toArray]) Tryz.func47 rfl (by kernel_rfl) rfl ?_
 refine GW.seq ?_
 refine GW.region ?_
 refine R.box ⟨rfl, rfl, rfl, rfl⟩ rfl fun b1 => ?_
 refine R.assign ⟨rfl, rfl, rfl, rfl⟩ rfl ?_
 refine GOps.nil ?_
 refine GW.seq ?_
 refine GW.region ?_
 refine R.indexAddrA ⟨rfl, rfl, rfl, rfl⟩ rfl rfl Tryz.underlying28 Tryz.sizeOf26 (by omega) (by omega) ?_
 refine R.load_own (cs := SlC p.s0) ⟨rfl, rfl, rfl, rfl⟩ rfl Tryz.underlying26 rfl Tryz.sizeOf26 memG (by rfl) (by rfl) ?_
 refine R.call ⟨rfl, rfl, rfl, rfl⟩ rfl (vs := [_]) rfl ((ref_MaySlot _ _ p.s0 h.1).mono ?_)
 rintro _ _ ⟨rfl, rfl⟩
 refine R.move ⟨rfl, rfl, rfl, rfl⟩ rfl ?_
 refine GOps.caseB 6 rfl (fun hg1 => ?_) (fun hg1 => ?_)
 ·try simp only [dcQ] at hg1
  refine R.indexAddrA ⟨rfl, rfl, rfl, rfl⟩ rfl rfl Tryz.underlying28 Tryz.sizeOf26 (by omega) (by omega) ?_
  refine R.load_own (cs := SlC p.s1) ⟨rfl, rfl, rfl, rfl⟩ rfl Tryz.underlying26 rfl Tryz.sizeOf26 memG (by rfl) (by rfl) ?_
  refine R.call ⟨rfl, rfl, rfl, rfl⟩ rfl (vs := [_]) rfl ((ref_MaySlot _ _ p.s1 h.2.1).mono ?_)
  rintro _ _ ⟨rfl, rfl⟩
  refine R.pick_t ⟨rfl, rfl, rfl, rfl⟩ rfl rfl ?_
  refine R.move ⟨rfl, rfl, rfl, rfl⟩ rfl ?_
  refine GOps.caseB 11 rfl (fun hg2 => ?_) (fun hg2 => ?_)
  ·try simp only [dcQ] at hg2
   refine R.indexAddrA ⟨rfl, rfl, rfl, rfl⟩ rfl rfl Tryz.underlying28 Tryz.sizeOf26 (by omega) (by omega) ?_
   refine R.load_own (cs := SlC p.s2) ⟨rfl, rfl, rfl, rfl⟩ rfl Tryz.underlying26 rfl Tryz.sizeOf26 memG (by rfl) (by rfl) ?_
   refine R.call ⟨rfl, rfl, rfl, rfl⟩ rfl (vs := [_]) rfl ((ref_MaySlot _ _ p.s2 h.2.2).mono ?_)
   rintro _ _ ⟨rfl, rfl⟩
   refine R.pick_t ⟨rfl, rfl, rfl, rfl⟩ rfl rfl ?_
   refine R.assign ⟨rfl, rfl, rfl, rfl⟩ rfl ?_
   refine GOps.nil ?_
   refine GW.ret (Out.of (Res.one rfl rfl) (by first | exact Hs.refl _ | exact Hs.tl _ | exact Hs.tl2 _ _ | exact Hs.tl3 _ _ _ | exact (Hs.app _).trans (Hs.tl _) | exact (Hs.app _).trans ((Hs.app _).trans (Hs.tl _))) ⟨?_, rfl⟩)
   refine vb ?_; unfold mayPt; simp_all
  ·try simp only [dcQ] at hg2
   refine GOps.skip rfl rfl rfl ?_
   refine GOps.skip rfl rfl rfl ?_
   refine GOps.skip rfl rfl rfl ?_
   refine R.pick_f ⟨rfl, rfl, rfl, rfl⟩ rfl rfl ?_
   refine R.assign ⟨rfl, rfl, rfl, rfl⟩ rfl ?_
   refine GOps.nil ?_
   refine GW.ret (Out.of (Res.one rfl rfl) (by first | exact Hs.refl _ | exact Hs.tl _ | exact Hs.tl2 _ _ | exact Hs.tl3 _ _ _ | exact (Hs.app _).trans (Hs.tl _) | exact (Hs.app _).trans ((Hs.app _).trans (Hs.tl _))) ⟨?_, rfl⟩)
   refine vb ?_; unfold mayPt; simp_all
 ·try simp only [dcQ] at hg1
  refine GOps.skip rfl rfl rfl ?_
  refine GOps.skip rfl rfl rfl ?_
  refine GOps.skip rfl rfl rfl ?_
  refine R.pick_f ⟨rfl, rfl, rfl, rfl⟩ rfl rfl ?_
  refine R.move ⟨rfl, rfl, rfl, rfl⟩ rfl ?_
  refine GOps.skip rfl rfl rfl ?_
  refine GOps.skip rfl rfl rfl ?_
  refine GOps.skip rfl rfl rfl ?_
  refine R.pick_f ⟨rfl, rfl, rfl, rfl⟩ rfl rfl ?_
  refine R.assign ⟨rfl, rfl, rfl, rfl⟩ rfl ?_
  refine GOps.nil ?_
  refine GW.ret (Out.of (Res.one rfl rfl) (by first | exact Hs.refl _ | exact Hs.tl _ | exact Hs.tl2 _ _ | exact Hs.tl3 _ _ _ | exact (Hs.app _).trans (Hs.tl _) | exact (Hs.app _).trans ((Hs.app _).trans (Hs.tl _))) ⟨?_, rfl⟩)
  refine vb ?_; unfold mayPt; simp_all
theorem rules_part (w0 : World) (G : Hp) (l : Lt) (h : LtOk l) : GC Tryz.prog w0 84 #[.agg (LtC l).toArray] (fun v G' => v = .bool (mayLt l) ∧ G = G') G := by
 refine GC.body (args := [.agg (LtC l).toArray]) Tryz.func84 rfl (by kernel_rfl) rfl ?_
 refine GW.seq ?_
 refine GW.region ?_
 refine R.box ⟨rfl, rfl, rfl, rfl⟩ rfl fun b1 => ?_
 refine R.assign ⟨rfl, rfl, rfl, rfl⟩ rfl ?_
 refine GOps.nil ?_
 refine GW.seq ?_
 refine GW.seq ?_
 refine GW.region ?_
 refine R.fieldAddr ⟨rfl, rfl, rfl, rfl⟩ rfl Tryz.underlying89 rfl Tryz.sizeOf87 ?_   -- "Kind"
 refine R.load1 ⟨rfl, rfl, rfl, rfl⟩ rfl Tryz.underlying87 rfl (.own' memG (by rfl)) ?_
 refine GOps.nil ?_
 refine GW.block ?_
 refine GW.seq ?_
 refine GW.seq ?_
 refine GW.region ?_
 refine R.eqI ⟨rfl, rfl, rfl, rfl⟩ rfl rfl ?_
 refine R.assign ⟨rfl, rfl, rfl, rfl⟩ rfl ?_
 refine GOps.nil ?_
 refine GW.ite rfl (fun hc1 => ?_) (fun hc1 => ?_)
 ·try simp only [dcQ] at hc1
  refine GW.skip ?_
  refine GW.ite rfl (fun hc2 => ?_) (fun hc2 => ?_)
  ·try simp only [dcQ] at hc2
   refine GW.seq ?_
   refine GW.region ?_
   refine R.fieldAddr ⟨rfl, rfl, rfl, rfl⟩ rfl Tryz.underlying89 rfl Tryz.sizeOf28 ?_   -- "Pattern"
   refine R.load_own (cs := PtC l.pat) ⟨rfl, rfl, rfl, rfl⟩ rfl Tryz.underlying28 rfl Tryz.sizeOf28 memG (by rfl) (by rfl) ?_
   refine R.call ⟨rfl, rfl, rfl, rfl⟩ rfl (vs := [_]) rfl ((rules_pattern _ _ l.pat h.1).mono ?_)
   rintro _ _ ⟨rfl, rfl⟩
   refine R.move ⟨rfl, rfl, rfl, rfl⟩ rfl ?_
   refine GOps.caseB 11 rfl (fun hg3 => ?_) (fun hg3 => ?_)
   ·try simp only [dcQ] at hg3
    refine R.fieldAddr ⟨rfl, rfl, rfl, rfl⟩ rfl Tryz.underlying89 rfl Tryz.sizeOf26 ?_   -- "A"
    refine R.load_own (cs := SlC l.a) ⟨rfl, rfl, rfl, rfl⟩ rfl Tryz.underlying26 rfl Tryz.sizeOf26 memG (by rfl) (by rfl) ?_
    refine R.build (vs := []) (cells := (SlC zSl).toArray) ⟨rfl, rfl, rfl, rfl⟩ rfl (fun w => run_build w 26 _ _ (by kernel_rfl)) ?_
    refine R.eqA ⟨rfl, rfl, rfl, rfl⟩ rfl rfl (guard_of g26) (equal_of 9990 rfl (run_eqSl 9997 _ _)) ?_
    refine R.pick_t ⟨rfl, rfl, rfl, rfl⟩ rfl rfl ?_
    refine R.move ⟨rfl, rfl, rfl, rfl⟩ rfl ?_
    refine GOps.caseB 17 rfl (fun hg4 => ?_) (fun hg4 => ?_)
    ·try simp only [dcQ] at hg4
     refine R.fieldAddr ⟨rfl, rfl, rfl, rfl⟩ rfl Tryz.underlying89 rfl Tryz.sizeOf26 ?_   -- "B"
     refine R.load_own (cs := SlC l.b) ⟨rfl, rfl, rfl, rfl⟩ rfl Tryz.underlying26 rfl Tryz.sizeOf26 memG (by rfl) (by rfl) ?_
     refine R.build (vs := []) (cells := (SlC zSl).toArray) ⟨rfl, rfl, rfl, rfl⟩ rfl (fun w => run_build w 26 _ _ (by kernel_rfl)) ?_
     refine R.eqA ⟨rfl, rfl, rfl, rfl⟩ rfl rfl (guard_of g26) (equal_of 9990 rfl (run_eqSl 9997 _ _)) ?_
     refine R.pick_t ⟨rfl, rfl, rfl, rfl⟩ rfl rfl ?_
     refine R.assign ⟨rfl, rfl, rfl, rfl⟩ rfl ?_
     refine GOps.nil ?_
     refine GW.ret (Out.of (Res.one rfl rfl) (by first | exact Hs.refl _ | exact Hs.tl _ | exact Hs.tl2 _ _ | exact Hs.tl3 _ _ _ | exact (Hs.app _).trans (Hs.tl _) | exact (Hs.app _).trans ((Hs.app _).trans (Hs.tl _))) ⟨?_, rfl⟩)
     refine vb ?_; unfold mayLt; simp_all
    ·try simp only [dcQ] at hg4
     refine GOps.skip rfl rfl rfl ?_
     refine GOps.skip rfl rfl rfl ?_
     refine GOps.skip rfl rfl rfl ?_
     refine GOps.skip rfl rfl rfl ?_
     refine R.pick_f ⟨rfl, rfl, rfl, rfl⟩ rfl rfl ?_
     refine R.assign ⟨rfl, rfl, rfl, rfl⟩ rfl ?_
     refine GOps.nil ?_
     refine GW.ret (Out.of (Res.one rfl rfl) (by first | exact Hs.refl _ | exact Hs.tl _ | exact Hs.tl2 _ _ | exact Hs.tl3 _ _ _ | exact (Hs.app _).trans (Hs.tl _) | exact (Hs.app _).trans ((Hs.app _).trans (Hs.tl _))) ⟨?_, rfl⟩)
     refine vb ?_; unfold mayLt; simp_all
   ·try simp only [dcQ] at hg3
    refine GOps.skip rfl rfl rfl ?_
    refine GOps.skip rfl rfl rfl ?_
    refine GOps.skip rfl rfl rfl ?_
    refine GOps.skip rfl rfl rfl ?_
    refine R.pick_f ⟨rfl, rfl, rfl, rfl⟩ rfl rfl ?_
    refine R.move ⟨rfl, rfl, rfl, rfl⟩ rfl ?_
    refine GOps.skip rfl rfl rfl ?_
    refine GOps.skip rfl rfl rfl ?_
    refine GOps.skip rfl rfl rfl ?_
    refine GOps.skip rfl rfl rfl ?_
    refine R.pick_f ⟨rfl, rfl, rfl, rfl⟩ rfl rfl ?_
    refine R.assign ⟨rfl, rfl, rfl, rfl⟩ rfl ?_
    refine GOps.nil ?_
    refine GW.ret (Out.of (Res.one rfl rfl) (by first | exact Hs.refl _ | exact Hs.tl _ | exact Hs.tl2 _ _ | exact Hs.tl3 _ _ _ | exact (Hs.app _).trans (Hs.tl _) | exact (Hs.app _).trans ((Hs.app _).trans (Hs.tl _))) ⟨?_, rfl⟩)
    refine vb ?_; unfold mayLt; simp_all
  ·try simp only [dcQ] at hc2
   refine GW.seq ?_
   refine GW.seq ?_
   refine GW.region ?_
   refine R.eqI ⟨rfl, rfl, rfl, rfl⟩ rfl rfl ?_
   refine R.assign ⟨rfl, rfl, rfl, rfl⟩ rfl ?_
   refine GOps.nil ?_
   refine GW.ite rfl (fun hc5 => ?_) (fun hc5 => ?_)
   ·try simp only [dcQ] at hc5
    refine GW.skip ?_
    refine GW.ite rfl (fun hc6 => ?_) (fun hc6 => ?_)
    ·try simp only [dcQ] at hc6
     refine GW.seq ?_
     refine GW.region ?_
     refine R.fieldAddr ⟨rfl, rfl, rfl, rfl⟩ rfl Tryz.underlying89 rfl Tryz.sizeOf28 ?_   -- "Pattern"
     refine R.load_own (cs := PtC l.pat) ⟨rfl, rfl, rfl, rfl⟩ rfl Tryz.underlying28 rfl Tryz.sizeOf28 memG (by rfl) (by rfl) ?_
     refine R.build (vs := []) (cells := (PtC zPt).toArray) ⟨rfl, rfl, rfl, rfl⟩ rfl (fun w => run_build w 28 _ _ (by kernel_rfl)) ?_
     refine R.eqA ⟨rfl, rfl, rfl, rfl⟩ rfl rfl (guard_of g28) (equal_of 9990 rfl (run_eqPt 28 Tryz.underlying28 9996 _ _)) ?_
     refine R.move ⟨rfl, rfl, rfl, rfl⟩ rfl ?_
     refine GOps.caseB 30 rfl (fun hg7 => ?_) (fun hg7 => ?_)
     ·try simp only [dcQ] at hg7
      refine R.fieldAddr ⟨rfl, rfl, rfl, rfl⟩ rfl Tryz.underlying89 rfl Tryz.sizeOf26 ?_   -- "A"
      refine R.load_own (cs := SlC l.a) ⟨rfl, rfl, rfl, rfl⟩ rfl Tryz.underlying26 rfl Tryz.sizeOf26 memG (by rfl) (by rfl) ?_
      refine R.call ⟨rfl, rfl, rfl, rfl⟩ rfl (vs := [_]) rfl ((rules_MaySlot _ _ l.a h.2.1).mono ?_)
      rintro _ _ ⟨rfl, rfl⟩
      refine R.pick_t ⟨rfl, rfl, rfl, rfl⟩ rfl rfl ?_
      refine R.move ⟨rfl, rfl, rfl, rfl⟩ rfl ?_
      refine GOps.caseB 35 rfl (fun hg8 => ?_) (fun hg8 => ?_)
      ·try simp only [dcQ] at hg8
       refine R.fieldAddr ⟨rfl, rfl, rfl, rfl⟩ rfl Tryz.underlying89 rfl Tryz.sizeOf26 ?_   -- "B"
       refine R.load_own (cs := SlC l.b) ⟨rfl, rfl, rfl, rfl⟩ rfl Tryz.underlying26 rfl Tryz.sizeOf26 memG (by rfl) (by rfl) ?_
       refine R.call ⟨rfl, rfl, rfl, rfl⟩ rfl (vs := [_]) rfl ((rules_MaySlot _ _ l.b h.2.2).mono ?_)
       rintro _ _ ⟨rfl, rfl⟩
       refine R.pick_t ⟨rfl, rfl, rfl, rfl⟩ rfl rfl ?_
       refine R.assign ⟨rfl, rfl, rfl, rfl⟩ rfl ?_
       refine GOps.nil ?_
       refine GW.ret (Out.of (Res.one rfl rfl) (by first | exact Hs.refl _ | exact Hs.tl _ | exact Hs.tl2 _ _ | exact Hs.tl3 _ _ _ | exact (Hs.app _).trans (Hs.tl _) | exact (Hs.app _).trans ((Hs.app _).trans (Hs.tl _))) ⟨?_, rfl⟩)
       refine vb ?_; unfold mayLt; simp_all
      ·try simp only [dcQ] at hg8
       refine GOps.skip rfl rfl rfl ?_
       refine GOps.skip rfl rfl rfl ?_
       refine GOps.skip rfl rfl rfl ?_
       refine R.pick_f ⟨rfl, rfl, rfl, rfl⟩ rfl rfl ?_
       refine R.assign ⟨rfl, rfl, rfl, rfl⟩ rfl ?_
       refine GOps.nil ?_
       refine GW.ret (Out.of (Res.one rfl rfl) (by first | exact Hs.refl _ | exact Hs.tl _ | exact Hs.tl2 _ _ | exact Hs.tl3 _ _ _ | exact (Hs.app _).trans (Hs.tl _) | exact (Hs.app _).trans ((Hs.app _).trans (Hs.tl _))) ⟨?_, rfl⟩)
       refine vb ?_; unfold mayLt; simp_all
     ·try simp only [dcQ] at hg7
      refine GOps.skip rfl rfl rfl ?_
      refine GOps.skip rfl rfl rfl ?_
      refine GOps.skip rfl rfl rfl ?_
      refine R.pick_f ⟨rfl, rfl, rfl, rfl⟩ rfl rfl ?_
      refine R.move ⟨rfl, rfl, rfl, rfl⟩ rfl ?_
      refine GOps.skip rfl rfl rfl ?_
      refine GOps.skip rfl rfl rfl ?_
      refine GOps.skip rfl rfl rfl ?_
      refine R.pick_f ⟨rfl, rfl, rfl, rfl⟩ rfl rfl ?_
      refine R.assign ⟨rfl, rfl, rfl, rfl⟩ rfl ?_
      refine GOps.nil ?_
      refine GW.ret (Out.of (Res.one rfl rfl) (by first | exact Hs.refl _ | exact Hs.tl _ | exact Hs.tl2 _ _ | exact Hs.tl3 _ _ _ | exact (Hs.app _).trans (Hs.tl _) | exact (Hs.app _).trans ((Hs.app _).trans (Hs.tl _))) ⟨?_, rfl⟩)
      refine vb ?_; unfold mayLt; simp_all
    ·try simp only [dcQ] at hc6
     refine GW.skip ?_
     refine GW.seq ?_
     refine GW.region ?_
     refine R.assign ⟨rfl, rfl, rfl, rfl⟩ rfl ?_
     refine GOps.nil ?_
     refine GW.ret (Out.of (Res.one rfl rfl) (by first | exact Hs.refl _ | exact Hs.tl _ | exact Hs.tl2 _ _ | exact Hs.tl3 _ _ _ | exact (Hs.app _).trans (Hs.tl _) | exact (Hs.app _).trans ((Hs.app _).trans (Hs.tl _))) ⟨?_, rfl⟩)
     refine vb ?_; unfold mayLt; simp_all
   ·try simp only [dcQ] at hc5
    refine GW.region ?_
    refine R.eqI ⟨rfl, rfl, rfl, rfl⟩ rfl rfl ?_
    refine R.assign ⟨rfl, rfl, rfl, rfl⟩ rfl ?_
    refine GOps.nil ?_
    refine GW.ite rfl (fun hc9 => ?_) (fun hc9 => ?_)
    ·try simp only [dcQ] at hc9
     refine GW.seq ?_
     refine GW.region ?_
     refine R.fieldAddr ⟨rfl, rfl, rfl, rfl⟩ rfl Tryz.underlying89 rfl Tryz.sizeOf28 ?_   -- "Pattern"
     refine R.load_own (cs := PtC l.pat) ⟨rfl, rfl, rfl, rfl⟩ rfl Tryz.underlying28 rfl Tryz.sizeOf28 memG (by rfl) (by rfl) ?_
     refine R.build (vs := []) (cells := (PtC zPt).toArray) ⟨rfl, rfl, rfl, rfl⟩ rfl (fun w => run_build w 28 _ _ (by kernel_rfl)) ?_
     refine R.eqA ⟨rfl, rfl, rfl, rfl⟩ rfl rfl (guard_of g28) (equal_of 9990 rfl (run_eqPt 28 Tryz.underlying28 9996 _ _)) ?_
     refine R.move ⟨rfl, rfl, rfl, rfl⟩ rfl ?_
     refine GOps.caseB 30 rfl (fun hg10 => ?_) (fun hg10 => ?_)
     ·try simp only [dcQ] at hg10
      refine R.fieldAddr ⟨rfl, rfl, rfl, rfl⟩ rfl Tryz.underlying89 rfl Tryz.sizeOf26 ?_   -- "A"
      refine R.load_own (cs := SlC l.a) ⟨rfl, rfl, rfl, rfl⟩ rfl Tryz.underlying26 rfl Tryz.sizeOf26 memG (by rfl) (by rfl) ?_
      refine R.call ⟨rfl, rfl, rfl, rfl⟩ rfl (vs := [_]) rfl ((rules_MaySlot _ _ l.a h.2.1).mono ?_)
      rintro _ _ ⟨rfl, rfl⟩
      refine R.pick_t ⟨rfl, rfl, rfl, rfl⟩ rfl rfl ?_
      refine R.move ⟨rfl, rfl, rfl, rfl⟩ rfl ?_
      refine GOps.caseB 35 rfl (fun hg11 => ?_) (fun hg11 => ?_)
      ·try simp only [dcQ] at hg11
       refine R.fieldAddr ⟨rfl, rfl, rfl, rfl⟩ rfl Tryz.underlying89 rfl Tryz.sizeOf26 ?_   -- "B"
       refine R.load_own (cs := SlC l.b) ⟨rfl, rfl, rfl, rfl⟩ rfl Tryz.underlying26 rfl Tryz.sizeOf26 memG (by rfl) (by rfl) ?_
       refine R.call ⟨rfl, rfl, rfl, rfl⟩ rfl (vs := [_]) rfl ((rules_MaySlot _ _ l.b h.2.2).mono ?_)
       rintro _ _ ⟨rfl, rfl⟩
       refine R.pick_t ⟨rfl, rfl, rfl, rfl⟩ rfl rfl ?_
       refine R.assign ⟨rfl, rfl, rfl, rfl⟩ rfl ?_
       refine GOps.nil ?_
       refine GW.ret (Out.of (Res.one rfl rfl) (by first | exact Hs.refl _ | exact Hs.tl _ | exact Hs.tl2 _ _ | exact Hs.tl3 _ _ _ | exact (Hs.app _).trans (Hs.tl _) | exact (Hs.app _).trans ((Hs.app _).trans (Hs.tl _))) ⟨?_, rfl⟩)
       refine vb ?_; unfold mayLt; simp_all
      ·try simp only [dcQ] at hg11
       refine GOps.skip rfl rfl rfl ?_
       refine GOps.skip rfl rfl rfl ?_
       refine GOps.skip rfl rfl rfl ?_
       refine R.pick_f ⟨rfl, rfl, rfl, rfl⟩ rfl rfl ?_
       refine R.assign ⟨rfl, rfl, rfl, rfl⟩ rfl ?_
       refine GOps.nil ?_
       refine GW.ret (Out.of (Res.one rfl rfl) (by first | exact Hs.refl _ | exact Hs.tl _ | exact Hs.tl2 _ _ | exact Hs.tl3 _ _ _ | exact (Hs.app _).trans (Hs.tl _) | exact (Hs.app _).trans ((Hs.app _).trans (Hs.tl _))) ⟨?_, rfl⟩)
       refine vb ?_; unfold mayLt; simp_all
     ·try simp only [dcQ] at hg10
      refine GOps.skip rfl rfl rfl ?_
      refine GOps.skip rfl rfl rfl ?_
      refine GOps.skip rfl rfl rfl ?_
      refine R.pick_f ⟨rfl, rfl, rfl, rfl⟩ rfl rfl ?_
      refine R.move ⟨rfl, rfl, rfl, rfl⟩ rfl ?_
      refine GOps.skip rfl rfl rfl ?_
      refine GOps.skip rfl rfl rfl ?_
      refine GOps.skip rfl rfl rfl ?_
      refine R.pick_f ⟨rfl, rfl, rfl, rfl⟩ rfl rfl ?_
      refine R.assign ⟨rfl, rfl, rfl, rfl⟩ rfl ?_
      refine GOps.nil ?_
      refine GW.ret (Out.of (Res.one rfl rfl) (by first | exact Hs.refl _ | exact Hs.tl _ | exact Hs.tl2 _ _ | exact Hs.tl3 _ _ _ | exact (Hs.app _).trans (Hs.tl _) | exact (Hs.app _).trans ((Hs.app _).trans (Hs.tl _))) ⟨?_, rfl⟩)
      refine vb ?_; unfold mayLt; simp_all
    ·try simp only [dcQ] at hc9
     refine GW.skip ?_
     refine GW.seq ?_
     refine GW.region ?_
     refine R.assign ⟨rfl, rfl, rfl, rfl⟩ rfl ?_
     refine GOps.nil ?_
     refine GW.ret (Out.of (Res.one rfl rfl) (by first | exact Hs.refl _ | exact Hs.tl _ | exact Hs.tl2 _ _ | exact Hs.tl3 _ _ _ | exact (Hs.app _).trans (Hs.tl _) | exact (Hs.app _).trans ((Hs.app _).trans (Hs.tl _))) ⟨?_, rfl⟩)
     refine vb ?_; unfold mayLt; simp_all
 ·try simp only [dcQ] at hc1
  refine GW.region ?_
  refine R.eqI ⟨rfl, rfl, rfl, rfl⟩ rfl rfl ?_
  refine R.assign ⟨rfl, rfl, rfl, rfl⟩ rfl ?_
  refine GOps.nil ?_
  refine GW.ite rfl (fun hc12 => ?_) (fun hc12 => ?_)
  ·try simp only [dcQ] at hc12
   refine GW.seq ?_
   refine GW.region ?_
   refine R.fieldAddr ⟨rfl, rfl, rfl, rfl⟩ rfl Tryz.underlying89 rfl Tryz.sizeOf28 ?_   -- "Pattern"
   refine R.load_own (cs := PtC l.pat) ⟨rfl, rfl, rfl, rfl⟩ rfl Tryz.underlying28 rfl Tryz.sizeOf28 memG (by rfl) (by rfl) ?_
   refine R.call ⟨rfl, rfl, rfl, rfl⟩ rfl (vs := [_]) rfl ((rules_pattern _ _ l.pat h.1).mono ?_)
   rintro _ _ ⟨rfl, rfl⟩
   refine R.move ⟨rfl, rfl, rfl, rfl⟩ rfl ?_
   refine GOps.caseB 11 rfl (fun hg13 => ?_) (fun hg13 => ?_)
   ·try simp only [dcQ] at hg13
    refine R.fieldAddr ⟨rfl, rfl, rfl, rfl⟩ rfl Tryz.underlying89 rfl Tryz.sizeOf26 ?_   -- "A"
    refine R.load_own (cs := SlC l.a) ⟨rfl, rfl, rfl, rfl⟩ rfl Tryz.underlying26 rfl Tryz.sizeOf26 memG (by rfl) (by rfl) ?_
    refine R.build (vs := []) (cells := (SlC zSl).toArray) ⟨rfl, rfl, rfl, rfl⟩ rfl (fun w => run_build w 26 _ _ (by kernel_rfl)) ?_
    refine R.eqA ⟨rfl, rfl, rfl, rfl⟩ rfl rfl (guard_of g26) (equal_of 9990 rfl (run_eqSl 9997 _ _)) ?_
    refine R.pick_t ⟨rfl, rfl, rfl, rfl⟩ rfl rfl ?_
    refine R.move ⟨rfl, rfl, rfl, rfl⟩ rfl ?_
    refine GOps.caseB 17 rfl (fun hg14 => ?_) (fun hg14 => ?_)
    ·try simp only [dcQ] at hg14
     refine R.fieldAddr ⟨rfl, rfl, rfl, rfl⟩ rfl Tryz.underlying89 rfl Tryz.sizeOf26 ?_   -- "B"
     refine R.load_own (cs := SlC l.b) ⟨rfl, rfl, rfl, rfl⟩ rfl Tryz.underlying26 rfl Tryz.sizeOf26 memG (by rfl) (by rfl) ?_
     refine R.build (vs := []) (cells := (SlC zSl).toArray) ⟨rfl, rfl, rfl, rfl⟩ rfl (fun w => run_build w 26 _ _ (by kernel_rfl)) ?_
     refine R.eqA ⟨rfl, rfl, rfl, rfl⟩ rfl rfl (guard_of g26) (equal_of 9990 rfl (run_eqSl 9997 _ _)) ?_
     refine R.pick_t ⟨rfl, rfl, rfl, rfl⟩ rfl rfl ?_
     refine R.assign ⟨rfl, rfl, rfl, rfl⟩ rfl ?_
     refine GOps.nil ?_
     refine GW.ret (Out.of (Res.one rfl rfl) (by first | exact Hs.refl _ | exact Hs.tl _ | exact Hs.tl2 _ _ | exact Hs.tl3 _ _ _ | exact (Hs.app _).trans (Hs.tl _) | exact (Hs.app _).trans ((Hs.app _).trans (Hs.tl _))) ⟨?_, rfl⟩)
     refine vb ?_; unfold mayLt; simp_all
    ·try simp only [dcQ] at hg14
     refine GOps.skip rfl rfl rfl ?_
     refine GOps.skip rfl rfl rfl ?_
     refine GOps.skip rfl rfl rfl ?_
     refine GOps.skip rfl rfl rfl ?_
     refine R.pick_f ⟨rfl, rfl, rfl, rfl⟩ rfl rfl ?_
     refine R.assign ⟨rfl, rfl, rfl, rfl⟩ rfl ?_
     refine GOps.nil ?_
     refine GW.ret (Out.of (Res.one rfl rfl) (by first | exact Hs.refl _ | exact Hs.tl _ | exact Hs.tl2 _ _ | exact Hs.tl3 _ _ _ | exact (Hs.app _).trans (Hs.tl _) | exact (Hs.app _).trans ((Hs.app _).trans (Hs.tl _))) ⟨?_, rfl⟩)
     refine vb ?_; unfold mayLt; simp_all
   ·try simp only [dcQ] at hg13
    refine GOps.skip rfl rfl rfl ?_
    refine GOps.skip rfl rfl rfl ?_
    refine GOps.skip rfl rfl rfl ?_
    refine GOps.skip rfl rfl rfl ?_
    refine R.pick_f ⟨rfl, rfl, rfl, rfl⟩ rfl rfl ?_
    refine R.move ⟨rfl, rfl, rfl, rfl⟩ rfl ?_
    refine GOps.skip rfl rfl rfl ?_
    refine GOps.skip rfl rfl rfl ?_
    refine GOps.skip rfl rfl rfl ?_
    refine GOps.skip rfl rfl rfl ?_
    refine R.pick_f ⟨rfl, rfl, rfl, rfl⟩ rfl rfl ?_
    refine R.assign ⟨rfl, rfl, rfl, rfl⟩ rfl ?_
    refine GOps.nil ?_
    refine GW.ret (Out.of (Res.one rfl rfl) (by first | exact Hs.refl _ | exact Hs.tl _ | exact Hs.tl2 _ _ | exact Hs.tl3 _ _ _ | exact (Hs.app _).trans (Hs.tl _) | exact (Hs.app _).trans ((Hs.app _).trans (Hs.tl _))) ⟨?_, rfl⟩)
    refine vb ?_; unfold mayLt; simp_all
  ·try simp only [dcQ] at hc12
   refine GW.seq ?_
   refine GW.seq ?_
   refine GW.region ?_
   refine R.eqI ⟨rfl, rfl, rfl, rfl⟩ rfl rfl ?_
   refine R.assign ⟨rfl, rfl, rfl, rfl⟩ rfl ?_
   refine GOps.nil ?_
   refine GW.ite rfl (fun hc15 => ?_) (fun hc15 => ?_)
   ·try simp only [dcQ] at hc15
    refine GW.skip ?_
    refine GW.ite rfl (fun hc16 => ?_) (fun hc16 => ?_)
    ·try simp only [dcQ] at hc16
     refine GW.seq ?_
     refine GW.region ?_
     refine R.fieldAddr ⟨rfl, rfl, rfl, rfl⟩ rfl Tryz.underlying89 rfl Tryz.sizeOf28 ?_   -- "Pattern"
     refine R.load_own (cs := PtC l.pat) ⟨rfl, rfl, rfl, rfl⟩ rfl Tryz.underlying28 rfl Tryz.sizeOf28 memG (by rfl) (by rfl) ?_
     refine R.build (vs := []) (cells := (PtC zPt).toArray) ⟨rfl, rfl, rfl, rfl⟩ rfl (fun w => run_build w 28 _ _ (by kernel_rfl)) ?_
     refine R.eqA ⟨rfl, rfl, rfl, rfl⟩ rfl rfl (guard_of g28) (equal_of 9990 rfl (run_eqPt 28 Tryz.underlying28 9996 _ _)) ?_
     refine R.move ⟨rfl, rfl, rfl, rfl⟩ rfl ?_
     refine GOps.caseB 30 rfl (fun hg17 => ?_) (fun hg17 => ?_)
     ·try simp only [dcQ] at hg17
      refine R.fieldAddr ⟨rfl, rfl, rfl, rfl⟩ rfl Tryz.underlying89 rfl Tryz.sizeOf26 ?_   -- "A"
      refine R.load_own (cs := SlC l.a) ⟨rfl, rfl, rfl, rfl⟩ rfl Tryz.underlying26 rfl Tryz.sizeOf26 memG (by rfl) (by rfl) ?_
      refine R.call ⟨rfl, rfl, rfl, rfl⟩ rfl (vs := [_]) rfl ((rules_MaySlot _ _ l.a h.2.1).mono ?_)
      rintro _ _ ⟨rfl, rfl⟩
      refine R.pick_t ⟨rfl, rfl, rfl, rfl⟩ rfl rfl ?_
      refine R.move ⟨rfl, rfl, rfl, rfl⟩ rfl ?_
      refine GOps.caseB 35 rfl (fun hg18 => ?_) (fun hg18 => ?_)
      ·try simp only [dcQ] at hg18
       refine R.fieldAddr ⟨rfl, rfl, rfl, rfl⟩ rfl Tryz.underlying89 rfl Tryz.sizeOf26 ?_   -- "B"
       refine R.load_own (cs := SlC l.b) ⟨rfl, rfl, rfl, rfl⟩ rfl Tryz.underlying26 rfl Tryz.sizeOf26 memG (by rfl) (by rfl) ?_
       refine R.call ⟨rfl, rfl, rfl, rfl⟩ rfl (vs := [_]) rfl ((rules_MaySlot _ _ l.b h.2.2).mono ?_)
       rintro _ _ ⟨rfl, rfl⟩
       refine R.pick_t ⟨rfl, rfl, rfl, rfl⟩ rfl rfl ?_
       refine R.assign ⟨rfl, rfl, rfl, rfl⟩ rfl ?_
       refine GOps.nil ?_
       refine GW.ret (Out.of (Res.one rfl rfl) (by first | exact Hs.refl _ | exact Hs.tl _ | exact Hs.tl2 _ _ | exact Hs.tl3 _ _ _ | exact (Hs.app _).trans (Hs.tl _) | exact (Hs.app _).trans ((Hs.app _).trans (Hs.tl _))) ⟨?_, rfl⟩)
       refine vb ?_; unfold mayLt; simp_all
      ·try simp only [dcQ] at hg18
       refine GOps.skip rfl rfl rfl ?_
       refine GOps.skip rfl rfl rfl ?_
       refine GOps.skip rfl rfl rfl ?_
       refine R.pick_f ⟨rfl, rfl, rfl, rfl⟩ rfl rfl ?_
       refine R.assign ⟨rfl, rfl, rfl, rfl⟩ rfl ?_
       refine GOps.nil ?_
       refine GW.ret (Out.of (Res.one rfl rfl) (by first | exact Hs.refl _ | exact Hs.tl _ | exact Hs.tl2 _ _ | exact Hs.tl3 _ _ _ | exact (Hs.app _).trans (Hs.tl _) | exact (Hs.app _).trans ((Hs.app _).trans (Hs.tl _))) ⟨?_, rfl⟩)
       refine vb ?_; unfold mayLt; simp_all
     ·try simp only [dcQ] at hg17
      refine GOps.skip rfl rfl rfl ?_
      refine GOps.skip rfl rfl rfl ?_
      refine GOps.skip rfl rfl rfl ?_
      refine R.pick_f ⟨rfl, rfl, rfl, rfl⟩ rfl rfl ?_
      refine R.move ⟨rfl, rfl, rfl, rfl⟩ rfl ?_
      refine GOps.skip rfl rfl rfl ?_
      refine GOps.skip rfl rfl rfl ?_
      refine GOps.skip rfl rfl rfl ?_
      refine R.pick_f ⟨rfl, rfl, rfl, rfl⟩ rfl rfl ?_
      refine R.assign ⟨rfl, rfl, rfl, rfl⟩ rfl ?_
      refine GOps.nil ?_
      refine GW.ret (Out.of (Res.one rfl rfl) (by first | exact Hs.refl _ | exact Hs.tl _ | exact Hs.tl2 _ _ | exact Hs.tl3 _ _ _ | exact (Hs.app _).trans (Hs.tl _) | exact (Hs.app _).trans ((Hs.app _).trans (Hs.tl _))) ⟨?_, rfl⟩)
      refine vb ?_; unfold mayLt; simp_all
    ·try simp only [dcQ] at hc16
     refine GW.skip ?_
     refine GW.seq ?_
     refine GW.region ?_
     refine R.assign ⟨rfl, rfl, rfl, rfl⟩ rfl ?_
     refine GOps.nil ?_
     refine GW.ret (Out.of (Res.one rfl rfl) (by first | exact Hs.refl _ | exact Hs.tl _ | exact Hs.tl2 _ _ | exact Hs.tl3 _ _ _ | exact (Hs.app _).trans (Hs.tl _) | exact (Hs.app _).trans ((Hs.app _).trans (Hs.tl _))) ⟨?_, rfl⟩)
     refine vb ?_; unfold mayLt; simp_all
   ·try simp only [dcQ] at hc15
    refine GW.region ?_
    refine R.eqI ⟨rfl, rfl, rfl, rfl⟩ rfl rfl ?_
    refine R.assign ⟨rfl, rfl, rfl, rfl⟩ rfl ?_
    refine GOps.nil ?_
    refine GW.ite rfl (fun hc19 => ?_) (fun hc19 => ?_)
    ·try simp only [dcQ] at hc19
     refine GW.seq ?_
     refine GW.region ?_
     refine R.fieldAddr ⟨rfl, rfl, rfl, rfl⟩ rfl Tryz.underlying89 rfl Tryz.sizeOf28 ?_   -- "Pattern"
     refine R.load_own (cs := PtC l.pat) ⟨rfl, rfl, rfl, rfl⟩ rfl Tryz.underlying28 rfl Tryz.sizeOf28 memG (by rfl) (by rfl) ?_
     refine R.build (vs := []) (cells := (PtC zPt).toArray) ⟨rfl, rfl, rfl, rfl⟩ rfl (fun w => run_build w 28 _ _ (by kernel_rfl)) ?_
     refine R.eqA ⟨rfl, rfl, rfl, rfl⟩ rfl rfl (guard_of g28) (equal_of 9990 rfl (run_eqPt 28 Tryz.underlying28 9996 _ _)) ?_
     refine R.move ⟨rfl, rfl, rfl, rfl⟩ rfl ?_
     refine GOps.caseB 30 rfl (fun hg20 => ?_) (fun hg20 => ?_)
     ·try simp only [dcQ] at hg20
      refine R.fieldAddr ⟨rfl, rfl, rfl, rfl⟩ rfl Tryz.underlying89 rfl Tryz.sizeOf26 ?_   -- "A"
      refine R.load_own (cs := SlC l.a) ⟨rfl, rfl, rfl, rfl⟩ rfl Tryz.underlying26 rfl Tryz.sizeOf26 memG (by rfl) (by rfl) ?_
      refine R.call ⟨rfl, rfl, rfl, rfl⟩ rfl (vs := [_]) rfl ((rules_MaySlot _ _ l.a h.2.1).mono ?_)
      rintro _ _ ⟨rfl, rfl⟩
      refine R.pick_t ⟨rfl, rfl, rfl, rfl⟩ rfl rfl ?_
      refine R.move ⟨rfl, rfl, rfl, rfl⟩ rfl ?_
      refine GOps.caseB 35 rfl (fun hg21 => ?_) (fun hg21 => ?_)
      ·try simp only [dcQ] at hg21
       refine R.fieldAddr ⟨rfl, rfl, rfl, rfl⟩ rfl Tryz.underlying89 rfl Tryz.sizeOf26 ?_   -- "B"
       refine R.load_own (cs := SlC l.b) ⟨rfl, rfl, rfl, rfl⟩ rfl Tryz.underlying26 rfl Tryz.sizeOf26 memG (by rfl) (by rfl) ?_
       refine R.call ⟨rfl, rfl, rfl, rfl⟩ rfl (vs := [_]) rfl ((rules_MaySlot _ _ l.b h.2.2).mono ?_)
       rintro _ _ ⟨rfl, rfl⟩
       refine R.pick_t ⟨rfl, rfl, rfl, rfl⟩ rfl rfl ?_
       refine R.assign ⟨rfl, rfl, rfl, rfl⟩ rfl ?_
       refine GOps.nil ?_
       refine GW.ret (Out.of (Res.one rfl rfl) (by first | exact Hs.refl _ | exact Hs.tl _ | exact Hs.tl2 _ _ | exact Hs.tl3 _ _ _ | exact (Hs.app _).trans (Hs.tl _) | exact (Hs.app _).trans ((Hs.app _).trans (Hs.tl _))) ⟨?_, rfl⟩)
       refine vb ?_; unfold mayLt; simp_all
      ·try simp only [dcQ] at hg21
       refine GOps.skip rfl rfl rfl ?_
       refine GOps.skip rfl rfl rfl ?_
       refine GOps.skip rfl rfl rfl ?_
       refine R.pick_f ⟨rfl, rfl, rfl, rfl⟩ rfl rfl ?_
       refine R.assign ⟨rfl, rfl, rfl, rfl⟩ rfl ?_
       refine GOps.nil ?_
       refine GW.ret (Out.of (Res.one rfl rfl) (by first | exact Hs.refl _ | exact Hs.tl _ | exact Hs.tl2 _ _ | exact Hs.tl3 _ _ _ | exact (Hs.app _).trans (Hs.tl _) | exact (Hs.app _).trans ((Hs.app _).trans (Hs.tl _))) ⟨?_, rfl⟩)
       refine vb ?_; unfold mayLt; simp_all
     ·try simp only [dcQ] at hg20
      refine GOps.skip rfl rfl rfl ?_
      refine GOps.skip rfl rfl rfl ?_
      refine GOps.skip rfl rfl rfl ?_
      refine R.pick_f ⟨rfl, rfl, rfl, rfl⟩ rfl rfl ?_
      refine R.move ⟨rfl, rfl, rfl, rfl⟩ rfl ?_
      refine GOps.skip rfl rfl rfl ?_
      refine GOps.skip rfl rfl rfl ?_
      refine GOps.skip rfl rfl rfl ?_
      refine R.pick_f ⟨rfl, rfl, rfl, rfl⟩ rfl rfl ?_
      refine R.assign ⟨rfl, rfl, rfl, rfl⟩ rfl ?_
      refine GOps.nil ?_
      refine GW.ret (Out.of (Res.one rfl rfl) (by first | exact Hs.refl _ | exact Hs.tl _ | exact Hs.tl2 _ _ | exact Hs.tl3 _ _ _ | exact (Hs.app _).trans (Hs.tl _) | exact (Hs.app _).trans ((Hs.app _).trans (Hs.tl _))) ⟨?_, rfl⟩)
      refine vb ?_; unfold mayLt; simp_all
    ·try simp only [dcQ] at hc19
     refine GW.skip ?_
     refine GW.seq ?_
     refine GW.region ?_
     refine R.assign ⟨rfl, rfl, rfl, rfl⟩ rfl ?_
     refine GOps.nil ?_
     refine GW.ret (Out.of (Res.one rfl rfl) (by first | exact Hs.refl _ | exact Hs.tl _ | exact Hs.tl2 _ _ | exact Hs.tl3 _ _ _ | exact (Hs.app _).trans (Hs.tl _) | exact (Hs.app _).trans ((Hs.app _).trans (Hs.tl _))) ⟨?_, rfl⟩)
     refine vb ?_; unfold mayLt; simp_all
theorem ref_MayPart (w0 : World) (G : Hp) (l : Lt) (h : LtOk l) : GC Tryz.prog w0 44 #[.agg (LtC l).toArray] (fun v G' => v = .bool (mayLt l) ∧ G = G') G := by
 refine GC.body (args := [.agg (LtC l).toArray]) Tryz.func44 rfl (by kernel_rfl) rfl ?_
 refine GW.seq ?_
 refine GW.region ?_
 refine R.box ⟨rfl, rfl, rfl, rfl⟩ rfl fun b1 => ?_
 refine R.assign ⟨rfl, rfl, rfl, rfl⟩ rfl ?_
 refine GOps.nil ?_
 refine GW.seq ?_
 refine GW.seq ?_
 refine GW.region ?_
 refine R.fieldAddr ⟨rfl, rfl, rfl, rfl⟩ rfl Tryz.underlying89 rfl Tryz.sizeOf87 ?_   -- "Kind"
 refine R.load1 ⟨rfl, rfl, rfl, rfl⟩ rfl Tryz.underlying87 rfl (.own' memG (by rfl)) ?_
 refine R.eqI ⟨rfl, rfl, rfl, rfl⟩ rfl rfl ?_
 refine R.move ⟨rfl, rfl, rfl, rfl⟩ rfl ?_
 refine GOps.caseB 6 rfl (fun hg1 => ?_) (fun hg1 => ?_)
 ·try simp only [dcQ] at hg1
  refine GOps.skip rfl rfl rfl ?_
  refine GOps.skip rfl rfl rfl ?_
  refine GOps.skip rfl rfl rfl ?_
  refine R.pick_t ⟨rfl, rfl, rfl, rfl⟩ rfl rfl ?_
  refine GOps.nil ?_
  refine GW.cond_t rfl ?_
  refine GW.seq ?_
  refine GW.region ?_
  refine R.fieldAddr ⟨rfl, rfl, rfl, rfl⟩ rfl Tryz.underlying89 rfl Tryz.sizeOf28 ?_   -- "Pattern"
  refine R.load_own (cs := PtC l.pat) ⟨rfl, rfl, rfl, rfl⟩ rfl Tryz.underlying28 rfl Tryz.sizeOf28 memG (by rfl) (by rfl) ?_
  refine R.call ⟨rfl, rfl, rfl, rfl⟩ rfl (vs := [_]) rfl ((ref_pattern _ _ l.pat h.1).mono ?_)
  rintro _ _ ⟨rfl, rfl⟩
  refine R.move ⟨rfl, rfl, rfl, rfl⟩ rfl ?_
  refine GOps.caseB 14 rfl (fun hg2 => ?_) (fun hg2 => ?_)
  ·try simp only [dcQ] at hg2
   refine R.fieldAddr ⟨rfl, rfl, rfl, rfl⟩ rfl Tryz.underlying89 rfl Tryz.sizeOf26 ?_   -- "A"
   refine R.load_own (cs := SlC l.a) ⟨rfl, rfl, rfl, rfl⟩ rfl Tryz.underlying26 rfl Tryz.sizeOf26 memG (by rfl) (by rfl) ?_
   refine R.build (vs := []) (cells := (SlC zSl).toArray) ⟨rfl, rfl, rfl, rfl⟩ rfl (fun w => run_build w 26 _ _ (by kernel_rfl)) ?_
   refine R.eqA ⟨rfl, rfl, rfl, rfl⟩ rfl rfl (guard_of g26) (equal_of 9990 rfl (run_eqSl 9997 _ _)) ?_
   refine R.pick_t ⟨rfl, rfl, rfl, rfl⟩ rfl rfl ?_
   refine R.move ⟨rfl, rfl, rfl, rfl⟩ rfl ?_
   refine GOps.caseB 20 rfl (fun hg3 => ?_) (fun hg3 => ?_)
   ·try simp only [dcQ] at hg3
    refine R.fieldAddr ⟨rfl, rfl, rfl, rfl⟩ rfl Tryz.underlying89 rfl Tryz.sizeOf26 ?_   -- "B"
    refine R.load_own (cs := SlC l.b) ⟨rfl, rfl, rfl, rfl⟩ rfl Tryz.underlying26 rfl Tryz.sizeOf26 memG (by rfl) (by rfl) ?_
    refine R.build (vs := []) (cells := (SlC zSl).toArray) ⟨rfl, rfl, rfl, rfl⟩ rfl (fun w => run_build w 26 _ _ (by kernel_rfl)) ?_
    refine R.eqA ⟨rfl, rfl, rfl, rfl⟩ rfl rfl (guard_of g26) (equal_of 9990 rfl (run_eqSl 9997 _ _)) ?_
    refine R.pick_t ⟨rfl, rfl, rfl, rfl⟩ rfl rfl ?_
    refine R.assign ⟨rfl, rfl, rfl, rfl⟩ rfl ?_
    refine GOps.nil ?_
    refine GW.ret (Out.of (Res.one rfl rfl) (by first | exact Hs.refl _ | exact Hs.tl _ | exact Hs.tl2 _ _ | exact Hs.tl3 _ _ _ | exact (Hs.app _).trans (Hs.tl _) | exact (Hs.app _).trans ((Hs.app _).trans (Hs.tl _))) ⟨?_, rfl⟩)
    refine vb ?_; unfold mayLt; simp_all
   ·try simp only [dcQ] at hg3
    refine GOps.skip rfl rfl rfl ?_
    refine GOps.skip rfl rfl rfl ?_
    refine GOps.skip rfl rfl rfl ?_
    refine GOps.skip rfl rfl rfl ?_
    refine R.pick_f ⟨rfl, rfl, rfl, rfl⟩ rfl rfl ?_
    refine R.assign ⟨rfl, rfl, rfl, rfl⟩ rfl ?_
    refine GOps.nil ?_
    refine GW.ret (Out.of (Res.one rfl rfl) (by first | exact Hs.refl _ | exact Hs.tl _ | exact Hs.tl2 _ _ | exact Hs.tl3 _ _ _ | exact (Hs.app _).trans (Hs.tl _) | exact (Hs.app _).trans ((Hs.app _).trans (Hs.tl _))) ⟨?_, rfl⟩)
    refine vb ?_; unfold mayLt; simp_all
  ·try simp only [dcQ] at hg2
   refine GOps.skip rfl rfl rfl ?_
   refine GOps.skip rfl rfl rfl ?_
   refine GOps.skip rfl rfl rfl ?_
   refine GOps.skip rfl rfl rfl ?_
   refine R.pick_f ⟨rfl, rfl, rfl, rfl⟩ rfl rfl ?_
   refine R.move ⟨rfl, rfl, rfl, rfl⟩ rfl ?_
   refine GOps.skip rfl rfl rfl ?_
   refine GOps.skip rfl rfl rfl ?_
   refine GOps.skip rfl rfl rfl ?_
   refine GOps.skip rfl rfl rfl ?_
   refine R.pick_f ⟨rfl, rfl, rfl, rfl⟩ rfl rfl ?_
   refine R.assign ⟨rfl, rfl, rfl, rfl⟩ rfl ?_
   refine GOps.nil ?_
   refine GW.ret (Out.of (Res.one rfl rfl) (by first | exact Hs.refl _ | exact Hs.tl _ | exact Hs.tl2 _ _ | exact Hs.tl3 _ _ _ | exact (Hs.app _).trans (Hs.tl _) | exact (Hs.app _).trans ((Hs.app _).trans (Hs.tl _))) ⟨?_, rfl⟩)
   refine vb ?_; unfold mayLt; simp_all
 ·try simp only [dcQ] at hg1
  refine R.fieldAddr ⟨rfl, rfl, rfl, rfl⟩ rfl Tryz.underlying89 rfl Tryz.sizeOf87 ?_   -- "Kind"
  refine R.load1 ⟨rfl, rfl, rfl, rfl⟩ rfl Tryz.underlying87 rfl (.own' memG (by rfl)) ?_
  refine R.eqI ⟨rfl, rfl, rfl, rfl⟩ rfl rfl ?_
  refine R.pick_f ⟨rfl, rfl, rfl, rfl⟩ rfl rfl ?_
  refine GOps.nil ?_
  refine GW.ite rfl (fun hc4 => ?_) (fun hc4 => ?_)
  ·try simp only [dcQ] at hc4
   refine GW.seq ?_
   refine GW.region ?_
   refine R.fieldAddr ⟨rfl, rfl, rfl, rfl⟩ rfl Tryz.underlying89 rfl Tryz.sizeOf28 ?_   -- "Pattern"
   refine R.load_own (cs := PtC l.pat) ⟨rfl, rfl, rfl, rfl⟩ rfl Tryz.underlying28 rfl Tryz.sizeOf28 memG (by rfl) (by rfl) ?_
   refine R.call ⟨rfl, rfl, rfl, rfl⟩ rfl (vs := [_]) rfl ((ref_pattern _ _ l.pat h.1).mono ?_)
   rintro _ _ ⟨rfl, rfl⟩
   refine R.move ⟨rfl, rfl, rfl, rfl⟩ rfl ?_
   refine GOps.caseB 14 rfl (fun hg5 => ?_) (fun hg5 => ?_)
   ·try simp only [dcQ] at hg5
    refine R.fieldAddr ⟨rfl, rfl, rfl, rfl⟩ rfl Tryz.underlying89 rfl Tryz.sizeOf26 ?_   -- "A"
    refine R.load_own (cs := SlC l.a) ⟨rfl, rfl, rfl, rfl⟩ rfl Tryz.underlying26 rfl Tryz.sizeOf26 memG (by rfl) (by rfl) ?_
    refine R.build (vs := []) (cells := (SlC zSl).toArray) ⟨rfl, rfl, rfl, rfl⟩ rfl (fun w => run_build w 26 _ _ (by kernel_rfl)) ?_
    refine R.eqA ⟨rfl, rfl, rfl, rfl⟩ rfl rfl (guard_of g26) (equal_of 9990 rfl (run_eqSl 9997 _ _)) ?_
    refine R.pick_t ⟨rfl, rfl, rfl, rfl⟩ rfl rfl ?_
    refine R.move ⟨rfl, rfl, rfl, rfl⟩ rfl ?_
    refine GOps.caseB 20 rfl (fun hg6 => ?_) (fun hg6 => ?_)
    ·try simp only [dcQ] at hg6
     refine R.fieldAddr ⟨rfl, rfl, rfl, rfl⟩ rfl Tryz.underlying89 rfl Tryz.sizeOf26 ?_   -- "B"
     refine R.load_own (cs := SlC l.b) ⟨rfl, rfl, rfl, rfl⟩ rfl Tryz.underlying26 rfl Tryz.sizeOf26 memG (by rfl) (by rfl) ?_
     refine R.build (vs := []) (cells := (SlC zSl).toArray) ⟨rfl, rfl, rfl, rfl⟩ rfl (fun w => run_build w 26 _ _ (by kernel_rfl)) ?_
     refine R.eqA ⟨rfl, rfl, rfl, rfl⟩ rfl rfl (guard_of g26) (equal_of 9990 rfl (run_eqSl 9997 _ _)) ?_
     refine R.pick_t ⟨rfl, rfl, rfl, rfl⟩ rfl rfl ?_
     refine R.assign ⟨rfl, rfl, rfl, rfl⟩ rfl ?_
     refine GOps.nil ?_
     refine GW.ret (Out.of (Res.one rfl rfl) (by first | exact Hs.refl _ | exact Hs.tl _ | exact Hs.tl2 _ _ | exact Hs.tl3 _ _ _ | exact (Hs.app _).trans (Hs.tl _) | exact (Hs.app _).trans ((Hs.app _).trans (Hs.tl _))) ⟨?_, rfl⟩)
     refine vb ?_; unfold mayLt; simp_all
    ·try simp only [dcQ] at hg6
     refine GOps.skip rfl rfl rfl ?_
     refine GOps.skip rfl rfl rfl ?_
     refine GOps.skip rfl rfl rfl ?_
     refine GOps.skip rfl rfl rfl ?_
     refine R.pick_f ⟨rfl, rfl, rfl, rfl⟩ rfl rfl ?_
     refine R.assign ⟨rfl, rfl, rfl, rfl⟩ rfl ?_
     refine GOps.nil ?_
     refine GW.ret (Out.of (Res.one rfl rfl) (by first | exact Hs.refl _ | exact Hs.tl _ | exact Hs.tl2 _ _ | exact Hs.tl3 _ _ _ | exact (Hs.app _).trans (Hs.tl _) | exact (Hs.app _).trans ((Hs.app _).trans (Hs.tl _))) ⟨?_, rfl⟩)
     refine vb ?_; unfold mayLt; simp_all
   ·try simp only [dcQ] at hg5
    refine GOps.skip rfl rfl rfl ?_
    refine GOps.skip rfl rfl rfl ?_
    refine GOps.skip rfl rfl rfl ?_
    refine GOps.skip rfl rfl rfl ?_
    refine R.pick_f ⟨rfl, rfl, rfl, rfl⟩ rfl rfl ?_
    refine R.move ⟨rfl, rfl, rfl, rfl⟩ rfl ?_
    refine GOps.skip rfl rfl rfl ?_
    refine GOps.skip rfl rfl rfl ?_
    refine GOps.skip rfl rfl rfl ?_
    refine GOps.skip rfl rfl rfl ?_
    refine R.pick_f ⟨rfl, rfl, rfl, rfl⟩ rfl rfl ?_
    refine R.assign ⟨rfl, rfl, rfl, rfl⟩ rfl ?_
    refine GOps.nil ?_
    refine GW.ret (Out.of (Res.one rfl rfl) (by first | exact Hs.refl _ | exact Hs.tl _ | exact Hs.tl2 _ _ | exact Hs.tl3 _ _ _ | exact (Hs.app _).trans (Hs.tl _) | exact (Hs.app _).trans ((Hs.app _).trans (Hs.tl _))) ⟨?_, rfl⟩)
    refine vb ?_; unfold mayLt; simp_all
  ·try simp only [dcQ] at hc4
   refine GW.skip ?_
   refine GW.seq ?_
   refine GW.region ?_
   refine R.fieldAddr ⟨rfl, rfl, rfl, rfl⟩ rfl Tryz.underlying89 rfl Tryz.sizeOf87 ?_   -- "Kind"
   refine R.load1 ⟨rfl, rfl, rfl, rfl⟩ rfl Tryz.underlying87 rfl (.own' memG (by rfl)) ?_
   refine R.eqI ⟨rfl, rfl, rfl, rfl⟩ rfl rfl ?_
   refine R.move ⟨rfl, rfl, rfl, rfl⟩ rfl ?_
   refine GOps.caseB 29 rfl (fun hg7 => ?_) (fun hg7 => ?_)
   ·try simp only [dcQ] at hg7
    refine GOps.skip rfl rfl rfl ?_
    refine GOps.skip rfl rfl rfl ?_
    refine GOps.skip rfl rfl rfl ?_
    refine R.pick_t ⟨rfl, rfl, rfl, rfl⟩ rfl rfl ?_
    refine R.move ⟨rfl, rfl, rfl, rfl⟩ rfl ?_
    refine R.fieldAddr ⟨rfl, rfl, rfl, rfl⟩ rfl Tryz.underlying89 rfl Tryz.sizeOf28 ?_   -- "Pattern"
    refine R.load_own (cs := PtC l.pat) ⟨rfl, rfl, rfl, rfl⟩ rfl Tryz.underlying28 rfl Tryz.sizeOf28 memG (by rfl) (by rfl) ?_
    refine R.build (vs := []) (cells := (PtC zPt).toArray) ⟨rfl, rfl, rfl, rfl⟩ rfl (fun w => run_build w 28 _ _ (by kernel_rfl)) ?_
    refine R.eqA ⟨rfl, rfl, rfl, rfl⟩ rfl rfl (guard_of g28) (equal_of 9990 rfl (run_eqPt 28 Tryz.underlying28 9996 _ _)) ?_
    refine R.pick_t ⟨rfl, rfl, rfl, rfl⟩ rfl rfl ?_
    refine R.move ⟨rfl, rfl, rfl, rfl⟩ rfl ?_
    refine GOps.caseB 40 rfl (fun hg8 => ?_) (fun hg8 => ?_)
    ·try simp only [dcQ] at hg8
     refine R.fieldAddr ⟨rfl, rfl, rfl, rfl⟩ rfl Tryz.underlying89 rfl Tryz.sizeOf26 ?_   -- "A"
     refine R.load_own (cs := SlC l.a) ⟨rfl, rfl, rfl, rfl⟩ rfl Tryz.underlying26 rfl Tryz.sizeOf26 memG (by rfl) (by rfl) ?_
     refine R.call ⟨rfl, rfl, rfl, rfl⟩ rfl (vs := [_]) rfl ((ref_MaySlot _ _ l.a h.2.1).mono ?_)
     rintro _ _ ⟨rfl, rfl⟩
     refine R.pick_t ⟨rfl, rfl, rfl, rfl⟩ rfl rfl ?_
     refine R.move ⟨rfl, rfl, rfl, rfl⟩ rfl ?_
     refine GOps.caseB 45 rfl (fun hg9 => ?_) (fun hg9 => ?_)
     ·try simp only [dcQ] at hg9
      refine R.fieldAddr ⟨rfl, rfl, rfl, rfl⟩ rfl Tryz.underlying89 rfl Tryz.sizeOf26 ?_   -- "B"
      refine R.load_own (cs := SlC l.b) ⟨rfl, rfl, rfl, rfl⟩ rfl Tryz.underlying26 rfl Tryz.sizeOf26 memG (by rfl) (by rfl) ?_
      refine R.call ⟨rfl, rfl, rfl, rfl⟩ rfl (vs := [_]) rfl ((ref_MaySlot _ _ l.b h.2.2).mono ?_)
      rintro _ _ ⟨rfl, rfl⟩
      refine R.pick_t ⟨rfl, rfl, rfl, rfl⟩ rfl rfl ?_
      refine R.assign ⟨rfl, rfl, rfl, rfl⟩ rfl ?_
      refine GOps.nil ?_
      refine GW.ret (Out.of (Res.one rfl rfl) (by first | exact Hs.refl _ | exact Hs.tl _ | exact Hs.tl2 _ _ | exact Hs.tl3 _ _ _ | exact (Hs.app _).trans (Hs.tl _) | exact (Hs.app _).trans ((Hs.app _).trans (Hs.tl _))) ⟨?_, rfl⟩)
      refine vb ?_; unfold mayLt; simp_all
     ·try simp only [dcQ] at hg9
      refine GOps.skip rfl rfl rfl ?_
      refine GOps.skip rfl rfl rfl ?_
      refine GOps.skip rfl rfl rfl ?_
      refine R.pick_f ⟨rfl, rfl, rfl, rfl⟩ rfl rfl ?_
      refine R.assign ⟨rfl, rfl, rfl, rfl⟩ rfl ?_
      refine GOps.nil ?_
      refine GW.ret (Out.of (Res.one rfl rfl) (by first | exact Hs.refl _ | exact Hs.tl _ | exact Hs.tl2 _ _ | exact Hs.tl3 _ _ _ | exact (Hs.app _).trans (Hs.tl _) | exact (Hs.app _).trans ((Hs.app _).trans (Hs.tl _))) ⟨?_, rfl⟩)
      refine vb ?_; unfold mayLt; simp_all
    ·try simp only [dcQ] at hg8
     refine GOps.skip rfl rfl rfl ?_
     refine GOps.skip rfl rfl rfl ?_
     refine GOps.skip rfl rfl rfl ?_
     refine R.pick_f ⟨rfl, rfl, rfl, rfl⟩ rfl rfl ?_
     refine R.move ⟨rfl, rfl, rfl, rfl⟩ rfl ?_
     refine GOps.skip rfl rfl rfl ?_
     refine GOps.skip rfl rfl rfl ?_
     refine GOps.skip rfl rfl rfl ?_
     refine R.pick_f ⟨rfl, rfl, rfl, rfl⟩ rfl rfl ?_
     refine R.assign ⟨rfl, rfl, rfl, rfl⟩ rfl ?_
     refine GOps.nil ?_
     refine GW.ret (Out.of (Res.one rfl rfl) (by first | exact Hs.refl _ | exact Hs.tl _ | exact Hs.tl2 _ _ | exact Hs.tl3 _ _ _ | exact (Hs.app _).trans (Hs.tl _) | exact (Hs.app _).trans ((Hs.app _).trans (Hs.tl _))) ⟨?_, rfl⟩)
     refine vb ?_; unfold mayLt; simp_all
   ·try simp only [dcQ] at hg7
    refine R.fieldAddr ⟨rfl, rfl, rfl, rfl⟩ rfl Tryz.underlying89 rfl Tryz.sizeOf87 ?_   -- "Kind"
    refine R.load1 ⟨rfl, rfl, rfl, rfl⟩ rfl Tryz.underlying87 rfl (.own' memG (by rfl)) ?_
    refine R.eqI ⟨rfl, rfl, rfl, rfl⟩ rfl rfl ?_
    refine R.pick_f ⟨rfl, rfl, rfl, rfl⟩ rfl rfl ?_
    refine R.move ⟨rfl, rfl, rfl, rfl⟩ rfl ?_
    refine GOps.caseB 34 rfl (fun hg10 => ?_) (fun hg10 => ?_)
    ·try simp only [dcQ] at hg10
     refine R.fieldAddr ⟨rfl, rfl, rfl, rfl⟩ rfl Tryz.underlying89 rfl Tryz.sizeOf28 ?_   -- "Pattern"
     refine R.load_own (cs := PtC l.pat) ⟨rfl, rfl, rfl, rfl⟩ rfl Tryz.underlying28 rfl Tryz.sizeOf28 memG (by rfl) (by rfl) ?_
     refine R.build (vs := []) (cells := (PtC zPt).toArray) ⟨rfl, rfl, rfl, rfl⟩ rfl (fun w => run_build w 28 _ _ (by kernel_rfl)) ?_
     refine R.eqA ⟨rfl, rfl, rfl, rfl⟩ rfl rfl (guard_of g28) (equal_of 9990 rfl (run_eqPt 28 Tryz.underlying28 9996 _ _)) ?_
     refine R.pick_t ⟨rfl, rfl, rfl, rfl⟩ rfl rfl ?_
     refine R.move ⟨rfl, rfl, rfl, rfl⟩ rfl ?_
     refine GOps.caseB 40 rfl (fun hg11 => ?_) (fun hg11 => ?_)
     ·try simp only [dcQ] at hg11
      refine R.fieldAddr ⟨rfl, rfl, rfl, rfl⟩ rfl Tryz.underlying89 rfl Tryz.sizeOf26 ?_   -- "A"
      refine R.load_own (cs := SlC l.a) ⟨rfl, rfl, rfl, rfl⟩ rfl Tryz.underlying26 rfl Tryz.sizeOf26 memG (by rfl) (by rfl) ?_
      refine R.call ⟨rfl, rfl, rfl, rfl⟩ rfl (vs := [_]) rfl ((ref_MaySlot _ _ l.a h.2.1).mono ?_)
      rintro _ _ ⟨rfl, rfl⟩
      refine R.pick_t ⟨rfl, rfl, rfl, rfl⟩ rfl rfl ?_
      refine R.move ⟨rfl, rfl, rfl, rfl⟩ rfl ?_
      refine GOps.caseB 45 rfl (fun hg12 => ?_) (fun hg12 => ?_)
      ·try simp only [dcQ] at hg12
       refine R.fieldAddr ⟨rfl, rfl, rfl, rfl⟩ rfl Tryz.underlying89 rfl Tryz.sizeOf26 ?_   -- "B"
       refine R.load_own (cs := SlC l.b) ⟨rfl, rfl, rfl, rfl⟩ rfl Tryz.underlying26 rfl Tryz.sizeOf26 memG (by rfl) (by rfl) ?_
       refine R.call ⟨rfl, rfl, rfl, rfl⟩ rfl (vs := [_]) rfl ((ref_MaySlot _ _ l.b h.2.2).mono ?_)
       rintro _ _ ⟨rfl, rfl⟩
       refine R.pick_t ⟨rfl, rfl, rfl, rfl⟩ rfl rfl ?_
       refine R.assign ⟨rfl, rfl, rfl, rfl⟩ rfl ?_
       refine GOps.nil ?_
       refine GW.ret (Out.of (Res.one rfl rfl) (by first | exact Hs.refl _ | exact Hs.tl _ | exact Hs.tl2 _ _ | exact Hs.tl3 _ _ _ | exact (Hs.app _).trans (Hs.tl _) | exact (Hs.app _).trans ((Hs.app _).trans (Hs.tl _))) ⟨?_, rfl⟩)
       refine vb ?_; unfold mayLt; simp_all
      ·try simp only [dcQ] at hg12
       refine GOps.skip rfl rfl rfl ?_
       refine GOps.skip rfl rfl rfl ?_
       refine GOps.skip rfl rfl rfl ?_
       refine R.pick_f ⟨rfl, rfl, rfl, rfl⟩ rfl rfl ?_
       refine R.assign ⟨rfl, rfl, rfl, rfl⟩ rfl ?_
       refine GOps.nil ?_
       refine GW.ret (Out.of (Res.one rfl rfl) (by first | exact Hs.refl _ | exact Hs.tl _ | exact Hs.tl2 _ _ | exact Hs.tl3 _ _ _ | exact (Hs.app _).trans (Hs.tl _) | exact (Hs.app _).trans ((Hs.app _).trans (Hs.tl _))) ⟨?_, rfl⟩)
       refine vb ?_; unfold mayLt; simp_all
     ·try simp only [dcQ] at hg11
      refine GOps.skip rfl rfl rfl ?_
      refine GOps.skip rfl rfl rfl ?_
      refine GOps.skip rfl rfl rfl ?_
      refine R.pick_f ⟨rfl, rfl, rfl, rfl⟩ rfl rfl ?_
      refine R.move ⟨rfl, rfl, rfl, rfl⟩ rfl ?_
      refine GOps.skip rfl rfl rfl ?_
      refine GOps.skip rfl rfl rfl ?_
      refine GOps.skip rfl rfl rfl ?_
      refine R.pick_f ⟨rfl, rfl, rfl, rfl⟩ rfl rfl ?_
      refine R.assign ⟨rfl, rfl, rfl, rfl⟩ rfl ?_
      refine GOps.nil ?_
      refine GW.ret (Out.of (Res.one rfl rfl) (by first | exact Hs.refl _ | exact Hs.tl _ | exact Hs.tl2 _ _ | exact Hs.tl3 _ _ _ | exact (Hs.app _).trans (Hs.tl _) | exact (Hs.app _).trans ((Hs.app _).trans (Hs.tl _))) ⟨?_, rfl⟩)
      refine vb ?_; unfold mayLt; simp_all
    ·try simp only [dcQ] at hg10
     refine GOps.skip rfl rfl rfl ?_
     refine GOps.skip rfl rfl rfl ?_
     refine GOps.skip rfl rfl rfl ?_
     refine GOps.skip rfl rfl rfl ?_
     refine R.pick_f ⟨rfl, rfl, rfl, rfl⟩ rfl rfl ?_
     refine R.move ⟨rfl, rfl, rfl, rfl⟩ rfl ?_
     refine GOps.skip rfl rfl rfl ?_
     refine GOps.skip rfl rfl rfl ?_
     refine GOps.skip rfl rfl rfl ?_
     refine R.pick_f ⟨rfl, rfl, rfl, rfl⟩ rfl rfl ?_
     refine R.move ⟨rfl, rfl, rfl, rfl⟩ rfl ?_
     refine GOps.skip rfl rfl rfl ?_
     refine GOps.skip rfl rfl rfl ?_
     refine GOps.skip rfl rfl rfl ?_
     refine R.pick_f ⟨rfl, rfl, rfl, rfl⟩ rfl rfl ?_
     refine R.assign ⟨rfl, rfl, rfl, rfl⟩ rfl ?_
     refine GOps.nil ?_
     refine GW.ret (Out.of (Res.one rfl rfl) (by first | exact Hs.refl _ | exact Hs.tl _ | exact Hs.tl2 _ _ | exact Hs.tl3 _ _ _ | exact (Hs.app _).trans (Hs.tl _) | exact (Hs.app _).trans ((Hs.app _).trans (Hs.tl _))) ⟨?_, rfl⟩)
     refine vb ?_; unfold mayLt; simp_all
theorem rules_May1 (w0 : World) (G : Hp) (l : Lt) (h : LtOk l) : GC Tryz.prog w0 83 #[.agg (LtC l).toArray] (fun v G' => v = .bool (!(mayLt l)) ∧ G = G') G := by
 refine GC.body (args := [.agg (LtC l).toArray]) Tryz.func83 rfl (by kernel_rfl) rfl ?_
 refine GW.seq ?_
 refine GW.region ?_
 refine R.box ⟨rfl, rfl, rfl, rfl⟩ rfl fun b1 => ?_
 refine R.assign ⟨rfl, rfl, rfl, rfl⟩ rfl ?_
 refine GOps.nil ?_
 refine GW.seq ?_
 refine GW.region ?_
 refine R.load_own (cs := LtC l) ⟨rfl, rfl, rfl, rfl⟩ rfl Tryz.underlying89 rfl Tryz.sizeOf89 memG (by rfl) (by rfl) ?_
 refine R.call ⟨rfl, rfl, rfl, rfl⟩ rfl (vs := [_]) rfl ((rules_part _ _ l h).mono ?_)
 rintro _ _ ⟨rfl, rfl⟩
 refine R.not ⟨rfl, rfl, rfl, rfl⟩ rfl ?_
 refine R.assign ⟨rfl, rfl, rfl, rfl⟩ rfl ?_
 refine GOps.nil ?_
 refine GW.ret (Out.of (Res.one rfl rfl) (by first | exact Hs.refl _ | exact Hs.tl _ | exact Hs.tl2 _ _ | exact Hs.tl3 _ _ _ | exact (Hs.app _).trans (Hs.tl _) | exact (Hs.app _).trans ((Hs.app _).trans (Hs.tl _))) ⟨?_, rfl⟩)
 rfl
theorem idx_Lit (w0 : World) (G : Hp) (A : Option Addr) (ls : List Lt) (c : Nat) (k : FuncId) (cap : Array Value) (p : Lt → Bool) (hl : LtsAt w0 G A ls) (hm : ls.length ≤ 1048576)
  (hf : ∀ l ∈ ls, GC Tryz.prog w0 k (#[] ++ [Value.agg (LtC l).toArray].toArray ++ cap) (fun v G' => v = .bool (p l) ∧ G = G') G) :
  GC Tryz.prog w0 107 #[.slice A ls.length c, .func (.func k) #[] cap] (fun v G' => ∃ r : Int, v = .int .i64 r ∧ decide (r ≥ 0) = ls.any p ∧ G = G') G := by
 refine GC.body (args := [.slice A ls.length c, .func (.func k) #[] cap]) Tryz.func107 rfl (by kernel_rfl) rfl ?_
 refine GW.seq ?_
 refine GW.region ?_
 refine R.assign ⟨rfl, rfl, rfl, rfl⟩ rfl ?_
 refine GOps.nil ?_
 refine GW.seq ?_
 refine GW.seq ?_
 refine GW.region ?_
 refine R.move ⟨rfl, rfl, rfl, rfl⟩ rfl ?_
 refine R.lenS ⟨rfl, rfl, rfl, rfl⟩ rfl rfl Tryz.underlying29 ?_
 refine R.move ⟨rfl, rfl, rfl, rfl⟩ rfl ?_
 refine GOps.nil ?_
 refine GW.block ?_
 refine GW.loopI (fun i : Nat => [(0, .slice A ls.length c), (1, .func (.func k) #[] cap), (7, .int .i64 ls.length), (8, .int .i64 i)]) (fun i => G) (fun i => ls.length - i) (fun i => i ≤ ls.length ∧ (ls.take i).any p = false) 0
  (by repeat (first | exact Keeps.nil _ | refine Keeps.cons rfl ?_)) (Hs.refl _) (⟨by omega, by simp⟩) ?_
 rintro i ⟨hi, h0⟩
 refine GW.seq ?_
 refine GW.region ?_
 refine R.lss ⟨rfl, rfl, rfl, rfl⟩ rfl rfl ?_
 refine GOps.nil ?_
 refine GW.seq ?_
 refine GW.ite rfl (fun hc1 => ?_) (fun hc1 => ?_)
 ·try simp only [dcQ] at hc1
  obtain ⟨x, hx⟩ : ∃ x, ls[i]? = some x := ⟨_, List.getElem?_eq_getElem (by omega)⟩
  obtain ⟨bb, oo, cs, rfl, rfl, hrd⟩ := hl i x hx
  refine GW.skip ?_
  refine GW.seq ?_
  refine GW.block ?_
  refine GW.seq ?_
  refine GW.region ?_
  refine R.move ⟨rfl, rfl, rfl, rfl⟩ rfl ?_
  refine R.assign ⟨rfl, rfl, rfl, rfl⟩ rfl ?_
  refine GOps.nil ?_
  refine GW.seq ?_
  refine GW.region ?_
  refine R.move ⟨rfl, rfl, rfl, rfl⟩ rfl ?_
  refine R.move ⟨rfl, rfl, rfl, rfl⟩ rfl ?_
  refine R.move ⟨rfl, rfl, rfl, rfl⟩ rfl ?_
  refine R.indexAddrS ⟨rfl, rfl, rfl, rfl⟩ rfl rfl Tryz.underlying29 Tryz.sizeOf89 (by omega) (by omega) ?_
  refine R.loadA ⟨rfl, rfl, rfl, rfl⟩ rfl Tryz.underlying89 rfl Tryz.sizeOf89 (hrd) (by rfl) ?_
  refine R.call ⟨rfl, rfl, rfl, rfl⟩ rfl (vs := [_]) rfl ((hf x (List.mem_of_getElem? hx)).mono ?_)
  rintro _ _ ⟨rfl, rfl⟩
  refine GOps.nil ?_
  refine GW.ite rfl (fun hc2 => ?_) (fun hc2 => ?_)
  ·try simp only [dcQ] at hc2
   refine GW.seq ?_
   refine GW.region ?_
   refine R.move ⟨rfl, rfl, rfl, rfl⟩ rfl ?_
   refine R.assign ⟨rfl, rfl, rfl, rfl⟩ rfl ?_
   refine GOps.nil ?_
   first | exact GW.ret (Out.of (Res.one rfl rfl) (Hs.refl _) ⟨_, rfl, by rw [any_of_get p ls i x hx (by assumption)]; exact decide_eq_true (by omega), rfl⟩) | exact GW.ret (Out.of (Res.one rfl rfl) (Hs.refl _) ⟨_, rfl, by rw [any_of_take p ls i (by omega) h0]; rfl, rfl⟩)
  ·try simp only [dcQ] at hc2
   refine GW.skip ?_
   refine GW.region ?_
   refine R.add (r := (((i + 1) : Nat) : Int)) ⟨rfl, rfl, rfl, rfl⟩ rfl rfl (by rw [wrap64_id (by omega) (by omega)]; omega) ?_
   refine R.move ⟨rfl, rfl, rfl, rfl⟩ rfl ?_
   refine GOps.nil ?_
   exact ⟨i + 1, by omega, ⟨by omega, any_take_succ p ls i x hx h0 (by assumption)⟩, rfl, by repeat (first | exact Keeps.nil _ | refine Keeps.cons rfl ?_), by first | exact Hs.refl _ | exact Hs.tl _ | exact Hs.tl2 _ _⟩
 ·try simp only [dcQ] at hc1
  refine GW.exit ?_
  refine GW.seq ?_
  refine GW.region ?_
  refine R.assign ⟨rfl, rfl, rfl, rfl⟩ rfl ?_
  refine GOps.nil ?_
  first | exact GW.ret (Out.of (Res.one rfl rfl) (Hs.refl _) ⟨_, rfl, by rw [any_of_get p ls i x hx (by assumption)]; exact decide_eq_true (by omega), rfl⟩) | exact GW.ret (Out.of (Res.one rfl rfl) (Hs.refl _) ⟨_, rfl, by rw [any_of_take p ls i (by omega) h0]; rfl, rfl⟩)
theorem has_Lit (w0 : World) (G : Hp) (A : Option Addr) (ls : List Lt) (c : Nat) (k : FuncId) (cap : Array Value) (p : Lt → Bool) (hl : LtsAt w0 G A ls) (hm : ls.length ≤ 1048576)
  (hf : ∀ l ∈ ls, GC Tryz.prog w0 k (#[] ++ [Value.agg (LtC l).toArray].toArray ++ cap) (fun v G' => v = .bool (p l) ∧ G = G') G) :
  GC Tryz.prog w0 82 #[.slice A ls.length c, .func (.func k) #[] cap] (fun v G' => v = .bool (ls.any p) ∧ G = G') G := by
 refine GC.body (args := [.slice A ls.length c, .func (.func k) #[] cap]) Tryz.func82 rfl (by kernel_rfl) rfl ?_
 refine GW.seq ?_
 refine GW.region ?_
 refine R.assign ⟨rfl, rfl, rfl, rfl⟩ rfl ?_
 refine GOps.nil ?_
 refine GW.seq ?_
 refine GW.region ?_
 refine R.move ⟨rfl, rfl, rfl, rfl⟩ rfl ?_
 refine R.move ⟨rfl, rfl, rfl, rfl⟩ rfl ?_
 refine R.call ⟨rfl, rfl, rfl, rfl⟩ rfl (vs := [_, _]) rfl ((idx_Lit _ _ _ _ _ _ _ p hl hm hf).mono ?_)
 rintro _ _ ⟨r, rfl, hr, rfl⟩
 refine R.geq ⟨rfl, rfl, rfl, rfl⟩ rfl rfl ?_
 refine R.assign ⟨rfl, rfl, rfl, rfl⟩ rfl ?_
 refine GOps.nil ?_
 refine GW.ret (Out.of (Res.one rfl rfl) (by first | exact Hs.refl _ | exact Hs.tl _ | exact Hs.tl2 _ _ | exact Hs.tl3 _ _ _ | exact (Hs.app _).trans (Hs.tl _) | exact (Hs.app _).trans ((Hs.app _).trans (Hs.tl _))) ⟨?_, rfl⟩)
 rw [← hr]
end Go.Proofs.YtfddkcmooommeaaGreatDoor.Gl
end
section
namespace Go.Proofs.YtfddkcmooommeaaGreatDoor.Gl
open Go.RowKit Go.Shelf
set_option linter.unusedVariables false
set_option linter.unnecessarySimpa false
set_option linter.unusedSimpArgs false
attribute [-simp] List.getD_eq_getElem?_getD
theorem any_not {α : Type} (p : α → Bool) (l : List α) : (!(l.any fun x => !(p x))) = l.all p := by
 induction l with
 | nil => rfl
 | cons a l ih => rw [List.any_cons, List.all_cons, ← ih]; cases p a <;> simp
theorem all_take_succ {α : Type} (p : α → Bool) (l : List α) (i : Nat) (x : α) (h : l[i]? = some x) (h0 : (l.take i).all p = true) (hx : p x = true) : (l.take (i + 1)).all p = true := by
 rw [List.take_add_one, h]
 simp [h0, hx]
theorem all_of_get {α : Type} (p : α → Bool) (l : List α) (i : Nat) (x : α) (h : l[i]? = some x) (hx : p x = false) : l.all p = false :=
 List.all_eq_false.2 ⟨x, List.mem_of_getElem? h, by simp [hx]⟩
theorem all_of_take {α : Type} (p : α → Bool) (l : List α) (i : Nat) (h : l.length ≤ i) (h0 : (l.take i).all p = true) : l.all p = true := by
 rwa [List.take_of_length_le h] at h0
theorem rules_May (w0 : World) (G : Hp) (r : Rl) (A : Option Addr) (c : Nat) (hl : LtsAt w0 G A r.body) (hm : r.body.length ≤ 1048576) (h : RlOk r) : GC Tryz.prog w0 52 #[.agg (RlC r.head (.slice A r.body.length c)).toArray] (fun v G' => v = .bool (mayRl r) ∧ G = G') G := by
 refine GC.body (args := [.agg (RlC r.head (.slice A r.body.length c)).toArray]) Tryz.func52 rfl (by kernel_rfl) rfl ?_
 refine GW.seq ?_
 refine GW.region ?_
 refine R.box ⟨rfl, rfl, rfl, rfl⟩ rfl fun b1 => ?_
 refine R.assign ⟨rfl, rfl, rfl, rfl⟩ rfl ?_
 refine GOps.nil ?_
 refine GW.seq ?_
 refine GW.region ?_
 refine R.fieldAddr ⟨rfl, rfl, rfl, rfl⟩ rfl Tryz.underlying31 rfl Tryz.sizeOf28 ?_   -- "Head"
 refine R.load_own (cs := PtC r.head) ⟨rfl, rfl, rfl, rfl⟩ rfl Tryz.underlying28 rfl Tryz.sizeOf28 memG (by rfl) (by rfl) ?_
 refine R.call ⟨rfl, rfl, rfl, rfl⟩ rfl (vs := [_]) rfl ((rules_pattern _ _ r.head h.1).mono ?_)
 rintro _ _ ⟨rfl, rfl⟩
 refine R.move ⟨rfl, rfl, rfl, rfl⟩ rfl ?_
 refine GOps.caseB 6 rfl (fun hg1 => ?_) (fun hg1 => ?_)
 ·try simp only [dcQ] at hg1
  refine R.fieldAddr ⟨rfl, rfl, rfl, rfl⟩ rfl Tryz.underlying31 rfl Tryz.sizeOf29 ?_   -- "Body"
  refine R.load1 ⟨rfl, rfl, rfl, rfl⟩ rfl Tryz.underlying29 rfl (.own' memG (by rfl)) ?_
  refine R.lenS ⟨rfl, rfl, rfl, rfl⟩ rfl rfl Tryz.underlying29 ?_
  refine R.leq ⟨rfl, rfl, rfl, rfl⟩ rfl rfl ?_
  refine R.pick_t ⟨rfl, rfl, rfl, rfl⟩ rfl rfl ?_
  refine R.move ⟨rfl, rfl, rfl, rfl⟩ rfl ?_
  refine GOps.caseB 12 rfl (fun hg2 => ?_) (fun hg2 => ?_)
  ·try simp only [dcQ] at hg2
   refine R.fieldAddr ⟨rfl, rfl, rfl, rfl⟩ rfl Tryz.underlying31 rfl Tryz.sizeOf29 ?_   -- "Body"
   refine R.load1 ⟨rfl, rfl, rfl, rfl⟩ rfl Tryz.underlying29 rfl (.own' memG (by rfl)) ?_
   refine R.call ⟨rfl, rfl, rfl, rfl⟩ rfl (vs := [_, _]) rfl ((has_Lit _ _ A r.body c 83 #[] (fun l => !(mayLt l)) (hl.mono (sub_cons _)) hm (fun l hm => rules_May1 _ _ l (h.2 l hm))).mono ?_)
   rintro _ _ ⟨rfl, rfl⟩
   refine R.not ⟨rfl, rfl, rfl, rfl⟩ rfl ?_
   refine R.pick_t ⟨rfl, rfl, rfl, rfl⟩ rfl rfl ?_
   refine R.assign ⟨rfl, rfl, rfl, rfl⟩ rfl ?_
   refine GOps.nil ?_
   refine GW.ret (Out.of (Res.one rfl rfl) (by first | exact Hs.refl _ | exact Hs.tl _ | exact Hs.tl2 _ _ | exact Hs.tl3 _ _ _ | exact (Hs.app _).trans (Hs.tl _) | exact (Hs.app _).trans ((Hs.app _).trans (Hs.tl _))) ⟨?_, rfl⟩)
   refine vb ?_; unfold mayRl; first | (rw [show mayPt r.head = false from hg1]; rfl) | (rw [show mayPt r.head = true from hg1, decide_eq_false (show ¬ r.body.length ≤ 64 by omega)]; rfl) | (rw [show mayPt r.head = true from hg1, decide_eq_true (show r.body.length ≤ 64 by omega), any_not]; rfl)
  ·try simp only [dcQ] at hg2
   refine GOps.skip rfl rfl rfl ?_
   refine GOps.skip rfl rfl rfl ?_
   refine GOps.skip rfl rfl rfl ?_
   refine GOps.skip rfl rfl rfl ?_
   refine R.pick_f ⟨rfl, rfl, rfl, rfl⟩ rfl rfl ?_
   refine R.assign ⟨rfl, rfl, rfl, rfl⟩ rfl ?_
   refine GOps.nil ?_
   refine GW.ret (Out.of (Res.one rfl rfl) (by first | exact Hs.refl _ | exact Hs.tl _ | exact Hs.tl2 _ _ | exact Hs.tl3 _ _ _ | exact (Hs.app _).trans (Hs.tl _) | exact (Hs.app _).trans ((Hs.app _).trans (Hs.tl _))) ⟨?_, rfl⟩)
   refine vb ?_; unfold mayRl; first | (rw [show mayPt r.head = false from hg1]; rfl) | (rw [show mayPt r.head = true from hg1, decide_eq_false (show ¬ r.body.length ≤ 64 by omega)]; rfl) | (rw [show mayPt r.head = true from hg1, decide_eq_true (show r.body.length ≤ 64 by omega), any_not]; rfl)
 ·try simp only [dcQ] at hg1
  refine GOps.skip rfl rfl rfl ?_
  refine GOps.skip rfl rfl rfl ?_
  refine GOps.skip rfl rfl rfl ?_
  refine GOps.skip rfl rfl rfl ?_
  refine R.pick_f ⟨rfl, rfl, rfl, rfl⟩ rfl rfl ?_
  refine R.move ⟨rfl, rfl, rfl, rfl⟩ rfl ?_
  refine GOps.skip rfl rfl rfl ?_
  refine GOps.skip rfl rfl rfl ?_
  refine GOps.skip rfl rfl rfl ?_
  refine GOps.skip rfl rfl rfl ?_
  refine R.pick_f ⟨rfl, rfl, rfl, rfl⟩ rfl rfl ?_
  refine R.assign ⟨rfl, rfl, rfl, rfl⟩ rfl ?_
  refine GOps.nil ?_
  refine GW.ret (Out.of (Res.one rfl rfl) (by first | exact Hs.refl _ | exact Hs.tl _ | exact Hs.tl2 _ _ | exact Hs.tl3 _ _ _ | exact (Hs.app _).trans (Hs.tl _) | exact (Hs.app _).trans ((Hs.app _).trans (Hs.tl _))) ⟨?_, rfl⟩)
  refine vb ?_; unfold mayRl; first | (rw [show mayPt r.head = false from hg1]; rfl) | (rw [show mayPt r.head = true from hg1, decide_eq_false (show ¬ r.body.length ≤ 64 by omega)]; rfl) | (rw [show mayPt r.head = true from hg1, decide_eq_true (show r.body.length ≤ 64 by omega), any_not]; rfl)
theorem ref_MayRl (w0 : World) (G : Hp) (r : Rl) (A : Option Addr) (c : Nat) (hl : LtsAt w0 G A r.body) (hm : r.body.length ≤ 1048576) (h : RlOk r) : GC Tryz.prog w0 25 #[.agg (RlC r.head (.slice A r.body.length c)).toArray] (fun v G' => v = .bool (mayRl r) ∧ G = G') G := by
 refine GC.body (args := [.agg (RlC r.head (.slice A r.body.length c)).toArray]) Tryz.func25 rfl (by kernel_rfl) rfl ?_
 refine GW.seq ?_
 refine GW.region ?_
 refine R.box ⟨rfl, rfl, rfl, rfl⟩ rfl fun b1 => ?_
 refine R.assign ⟨rfl, rfl, rfl, rfl⟩ rfl ?_
 refine GOps.nil ?_
 refine GW.seq ?_
 refine GW.seq ?_
 refine GW.region ?_
 refine R.fieldAddr ⟨rfl, rfl, rfl, rfl⟩ rfl Tryz.underlying31 rfl Tryz.sizeOf29 ?_   -- "Body"
 refine R.load1 ⟨rfl, rfl, rfl, rfl⟩ rfl Tryz.underlying29 rfl (.own' memG (by rfl)) ?_
 refine R.lenS ⟨rfl, rfl, rfl, rfl⟩ rfl rfl Tryz.underlying29 ?_
 refine R.gtr ⟨rfl, rfl, rfl, rfl⟩ rfl rfl ?_
 refine GOps.nil ?_
 refine GW.ite rfl (fun hc1 => ?_) (fun hc1 => ?_)
 ·try simp only [dcQ] at hc1
  refine GW.seq ?_
  refine GW.region ?_
  refine R.assign ⟨rfl, rfl, rfl, rfl⟩ rfl ?_
  refine GOps.nil ?_
  refine GW.ret (Out.of (Res.one rfl rfl) (by first | exact Hs.refl _ | exact Hs.tl _ | exact Hs.tl2 _ _ | exact Hs.tl3 _ _ _ | exact (Hs.app _).trans (Hs.tl _) | exact (Hs.app _).trans ((Hs.app _).trans (Hs.tl _))) ⟨?_, rfl⟩)
  refine vb ?_; unfold mayRl; first | (rw [decide_eq_false (show ¬ r.body.length ≤ 64 by omega)]; simp; done) | (rw [all_of_get mayLt r.body i x hx (by assumption)]; simp; done) | (rw [all_of_take mayLt r.body i (by omega) h0, decide_eq_true (show r.body.length ≤ 64 by omega)]; simp)
 ·try simp only [dcQ] at hc1
  refine GW.skip ?_
  refine GW.seq ?_
  refine GW.seq ?_
  refine GW.region ?_
  refine R.assign ⟨rfl, rfl, rfl, rfl⟩ rfl ?_
  refine GOps.nil ?_
  refine GW.block ?_
  refine GW.loopI (fun i : Nat => [(1, .pointer (some ⟨b1, 0, none⟩)), (3, .int .i64 i)]) (fun i => (b1, .exact (.cells (RlC r.head (.slice A r.body.length c)).toArray 31 (0, 0))) :: G) (fun i => r.body.length - i) (fun i => i ≤ r.body.length ∧ (r.body.take i).all mayLt = true) 0
   (by repeat (first | exact Keeps.nil _ | refine Keeps.cons rfl ?_)) (Hs.refl _) (⟨by omega, by simp⟩) ?_
  rintro i ⟨hi, h0⟩
  refine GW.seq ?_
  refine GW.seq ?_
  refine GW.region ?_
  refine R.move ⟨rfl, rfl, rfl, rfl⟩ rfl ?_
  refine R.fieldAddr ⟨rfl, rfl, rfl, rfl⟩ rfl Tryz.underlying31 rfl Tryz.sizeOf29 ?_   -- "Body"
  refine R.load1 ⟨rfl, rfl, rfl, rfl⟩ rfl Tryz.underlying29 rfl (.own' memG (by rfl)) ?_
  refine R.lenS ⟨rfl, rfl, rfl, rfl⟩ rfl rfl Tryz.underlying29 ?_
  refine R.lss ⟨rfl, rfl, rfl, rfl⟩ rfl rfl ?_
  refine GOps.nil ?_
  refine GW.ite rfl (fun hc2 => ?_) (fun hc2 => ?_)
  ·try simp only [dcQ] at hc2
   obtain ⟨x, hx⟩ : ∃ x, r.body[i]? = some x := ⟨_, List.getElem?_eq_getElem (by omega)⟩
   obtain ⟨bb, oo, cs, rfl, rfl, hrd⟩ := hl i x hx
   refine GW.skip ?_
   refine GW.seq ?_
   refine GW.block ?_
   refine GW.seq ?_
   refine GW.region ?_
   refine R.fieldAddr ⟨rfl, rfl, rfl, rfl⟩ rfl Tryz.underlying31 rfl Tryz.sizeOf29 ?_   -- "Body"
   refine R.load1 ⟨rfl, rfl, rfl, rfl⟩ rfl Tryz.underlying29 rfl (.own' memG (by rfl)) ?_
   refine R.move ⟨rfl, rfl, rfl, rfl⟩ rfl ?_
   refine R.indexAddrS ⟨rfl, rfl, rfl, rfl⟩ rfl rfl Tryz.underlying29 Tryz.sizeOf89 (by omega) (by omega) ?_
   refine R.loadA ⟨rfl, rfl, rfl, rfl⟩ rfl Tryz.underlying89 rfl Tryz.sizeOf89 (Rds.mono (sub_cons _) hrd) (by rfl) ?_
   refine R.call ⟨rfl, rfl, rfl, rfl⟩ rfl (vs := [_]) rfl ((ref_MayPart _ _ x (h.2 x (List.mem_of_getElem? hx))).mono ?_)
   rintro _ _ ⟨rfl, rfl⟩
   refine R.not ⟨rfl, rfl, rfl, rfl⟩ rfl ?_
   refine GOps.nil ?_
   refine GW.ite rfl (fun hc3 => ?_) (fun hc3 => ?_)
   ·try simp only [dcQ] at hc3
    refine GW.seq ?_
    refine GW.region ?_
    refine R.assign ⟨rfl, rfl, rfl, rfl⟩ rfl ?_
    refine GOps.nil ?_
    refine GW.ret (Out.of (Res.one rfl rfl) (by first | exact Hs.refl _ | exact Hs.tl _ | exact Hs.tl2 _ _ | exact Hs.tl3 _ _ _ | exact (Hs.app _).trans (Hs.tl _) | exact (Hs.app _).trans ((Hs.app _).trans (Hs.tl _))) ⟨?_, rfl⟩)
    refine vb ?_; unfold mayRl; first | (rw [decide_eq_false (show ¬ r.body.length ≤ 64 by omega)]; simp; done) | (rw [all_of_get mayLt r.body i x hx (by assumption)]; simp; done) | (rw [all_of_take mayLt r.body i (by omega) h0, decide_eq_true (show r.body.length ≤ 64 by omega)]; simp)
   ·try simp only [dcQ] at hc3
    refine GW.skip ?_
    refine GW.region ?_
    refine R.move ⟨rfl, rfl, rfl, rfl⟩ rfl ?_
    refine R.add (r := (((i + 1) : Nat) : Int)) ⟨rfl, rfl, rfl, rfl⟩ rfl rfl (by rw [wrap64_id (by omega) (by omega)]; omega) ?_
    refine R.assign ⟨rfl, rfl, rfl, rfl⟩ rfl ?_
    refine GOps.nil ?_
    exact ⟨i + 1, by omega, ⟨by omega, all_take_succ mayLt r.body i x hx h0 (by assumption)⟩, rfl, by repeat (first | exact Keeps.nil _ | refine Keeps.cons rfl ?_), by first | exact Hs.refl _ | exact Hs.tl _ | exact Hs.tl2 _ _⟩
  ·try simp only [dcQ] at hc2
   refine GW.exit ?_
   refine GW.seq ?_
   refine GW.region ?_
   refine R.fieldAddr ⟨rfl, rfl, rfl, rfl⟩ rfl Tryz.underlying31 rfl Tryz.sizeOf28 ?_   -- "Head"
   refine R.load_own (cs := PtC r.head) ⟨rfl, rfl, rfl, rfl⟩ rfl Tryz.underlying28 rfl Tryz.sizeOf28 memG (by rfl) (by rfl) ?_
   refine R.call ⟨rfl, rfl, rfl, rfl⟩ rfl (vs := [_]) rfl ((ref_pattern _ _ r.head h.1).mono ?_)
   rintro _ _ ⟨rfl, rfl⟩
   refine R.assign ⟨rfl, rfl, rfl, rfl⟩ rfl ?_
   refine GOps.nil ?_
   refine GW.ret (Out.of (Res.one rfl rfl) (by first | exact Hs.refl _ | exact Hs.tl _ | exact Hs.tl2 _ _ | exact Hs.tl3 _ _ _ | exact (Hs.app _).trans (Hs.tl _) | exact (Hs.app _).trans ((Hs.app _).trans (Hs.tl _))) ⟨?_, rfl⟩)
   refine vb ?_; unfold mayRl; first | (rw [decide_eq_false (show ¬ r.body.length ≤ 64 by omega)]; simp; done) | (rw [all_of_get mayLt r.body i x hx (by assumption)]; simp; done) | (rw [all_of_take mayLt r.body i (by omega) h0, decide_eq_true (show r.body.length ≤ 64 by omega)]; simp)
end Go.Proofs.YtfddkcmooommeaaGreatDoor.Gl
end
section
namespace Go.Proofs.YtfddkcmooommeaaGreatDoor.Gl
open Go.RowKit Go.Shelf
set_option linter.unusedVariables false
set_option linter.unnecessarySimpa false
set_option linter.unusedSimpArgs false
attribute [-simp] List.getD_eq_getElem?_getD
def StAt (w0 : World) (G : Hp) (A : Option Addr) (xs : List ByteArray) : Prop := RowAt w0 G 1 (fun s cs => cs = [.string s]) A xs
def eqB (s : ByteArray) (x : ByteArray) : Bool := x.toList == s.toList
def inB (xs : List ByteArray) (s : ByteArray) : Bool := xs.any (eqB s)
def slotsOf (l : Lt) : List Sl := bif (decide (l.kind = 1) || decide (l.kind = 2)) then [l.pat.s0, l.pat.s1, l.pat.s2] else [l.a, l.b]
theorem slotsOf_t {l : Lt} (h : l.kind = 1 ∨ l.kind = 2) : slotsOf l = [l.pat.s0, l.pat.s1, l.pat.s2] := by
 unfold slotsOf
 rcases h with h | h <;> rw [h] <;> rfl
theorem slotsOf_f {l : Lt} (h : ¬ l.kind = 1) (h2 : ¬ l.kind = 2) : slotsOf l = [l.a, l.b] := by
 unfold slotsOf
 rw [decide_eq_false h, decide_eq_false h2]; rfl
theorem ref_In (w0 : World) (G : Hp) (A : Option Addr) (xs : List ByteArray) (c : Nat) (s : ByteArray) (hx : StAt w0 G A xs) (hm : xs.length ≤ 100000000) : GC Tryz.prog w0 26 #[.slice A xs.length c, .string s] (fun v G' => v = .bool (inB xs s) ∧ G = G') G := by
 refine GC.body (args := [.slice A xs.length c, .string s]) Tryz.func26 rfl (by kernel_rfl) rfl ?_
 refine GW.seq ?_
 refine GW.region ?_
 refine R.assign ⟨rfl, rfl, rfl, rfl⟩ rfl ?_
 refine GOps.nil ?_
 refine GW.seq ?_
 refine GW.seq ?_
 refine GW.region ?_
 refine R.assign ⟨rfl, rfl, rfl, rfl⟩ rfl ?_
 refine GOps.nil ?_
 refine GW.block ?_
 refine GW.loopI (fun i : Nat => [(0, .slice A xs.length c), (1, .string s), (5, .int .i64 i)]) (fun i => G) (fun i => xs.length - i) (fun i => i ≤ xs.length ∧ (xs.take i).any (eqB s) = false) 0
  (by repeat (first | exact Keeps.nil _ | refine Keeps.cons rfl ?_)) (Hs.refl _) (⟨by omega, by simp⟩) ?_
 rintro i ⟨hi, h0⟩
 refine GW.seq ?_
 refine GW.seq ?_
 refine GW.region ?_
 refine R.move ⟨rfl, rfl, rfl, rfl⟩ rfl ?_
 refine R.move ⟨rfl, rfl, rfl, rfl⟩ rfl ?_
 refine R.lenS ⟨rfl, rfl, rfl, rfl⟩ rfl rfl Tryz.underlying61 ?_
 refine R.lss ⟨rfl, rfl, rfl, rfl⟩ rfl rfl ?_
 refine GOps.nil ?_
 refine GW.ite rfl (fun hc1 => ?_) (fun hc1 => ?_)
 ·try simp only [dcQ] at hc1
  obtain ⟨x, hx1⟩ : ∃ x, xs[i]? = some x := ⟨_, List.getElem?_eq_getElem (by omega)⟩
  obtain ⟨bb, oo, cs, rfl, rfl, hrd⟩ := hx i x hx1
  refine GW.skip ?_
  refine GW.seq ?_
  refine GW.block ?_
  refine GW.seq ?_
  refine GW.region ?_
  refine R.move ⟨rfl, rfl, rfl, rfl⟩ rfl ?_
  refine R.move ⟨rfl, rfl, rfl, rfl⟩ rfl ?_
  refine R.indexAddrS ⟨rfl, rfl, rfl, rfl⟩ rfl rfl Tryz.underlying61 Tryz.sizeOf9 (by omega) (by omega) ?_
  refine R.load1 ⟨rfl, rfl, rfl, rfl⟩ rfl Tryz.underlying9 rfl (hrd 0 _ rfl) ?_
  refine R.move ⟨rfl, rfl, rfl, rfl⟩ rfl ?_
  refine R.eqS ⟨rfl, rfl, rfl, rfl⟩ rfl rfl ?_
  refine GOps.nil ?_
  refine GW.ite rfl (fun hc2 => ?_) (fun hc2 => ?_)
  ·try simp only [dcQ] at hc2
   refine GW.seq ?_
   refine GW.region ?_
   refine R.assign ⟨rfl, rfl, rfl, rfl⟩ rfl ?_
   refine GOps.nil ?_
   refine GW.ret (Out.of (Res.one rfl rfl) (by first | exact Hs.refl _ | exact Hs.tl _ | exact Hs.tl2 _ _ | exact Hs.tl3 _ _ _ | exact (Hs.app _).trans (Hs.tl _) | exact (Hs.app _).trans ((Hs.app _).trans (Hs.tl _))) ⟨?_, rfl⟩)
   refine vb ?_; symm; first | exact any_of_get (eqB s) xs i x hx1 (by assumption) | exact any_of_take (eqB s) xs i (by omega) h0
  ·try simp only [dcQ] at hc2
   refine GW.skip ?_
   refine GW.region ?_
   refine R.move ⟨rfl, rfl, rfl, rfl⟩ rfl ?_
   refine R.add (r := (((i + 1) : Nat) : Int)) ⟨rfl, rfl, rfl, rfl⟩ rfl rfl (by rw [wrap64_id (by omega) (by omega)]; omega) ?_
   refine R.assign ⟨rfl, rfl, rfl, rfl⟩ rfl ?_
   refine GOps.nil ?_
   exact ⟨i + 1, by omega, ⟨by omega, any_take_succ (eqB s) xs i x hx1 h0 (by assumption)⟩, rfl, by repeat (first | exact Keeps.nil _ | refine Keeps.cons rfl ?_), by first | exact Hs.refl _ | exact Hs.tl _ | exact Hs.tl2 _ _⟩
 ·try simp only [dcQ] at hc1
  refine GW.exit ?_
  refine GW.seq ?_
  refine GW.region ?_
  refine R.assign ⟨rfl, rfl, rfl, rfl⟩ rfl ?_
  refine GOps.nil ?_
  refine GW.ret (Out.of (Res.one rfl rfl) (by first | exact Hs.refl _ | exact Hs.tl _ | exact Hs.tl2 _ _ | exact Hs.tl3 _ _ _ | exact (Hs.app _).trans (Hs.tl _) | exact (Hs.app _).trans ((Hs.app _).trans (Hs.tl _))) ⟨?_, rfl⟩)
  refine vb ?_; symm; first | exact any_of_get (eqB s) xs i x hx1 (by assumption) | exact any_of_take (eqB s) xs i (by omega) h0
theorem ref_Slots (w0 : World) (G : Hp) (l : Lt) : GC Tryz.prog w0 37 #[.agg (LtC l).toArray] (fun v G' => ∃ b, v = .slice (some ⟨b, 0, none⟩) (slotsOf l).length (slotsOf l).length ∧ (b, .exact (.cells ((slotsOf l).flatMap SlC).toArray 26 (0, 0))) :: G = G') G := by
 refine GC.body (args := [.agg (LtC l).toArray]) Tryz.func37 rfl (by kernel_rfl) rfl ?_
 refine GW.seq ?_
 refine GW.region ?_
 refine R.box ⟨rfl, rfl, rfl, rfl⟩ rfl fun b1 => ?_
 refine R.assign ⟨rfl, rfl, rfl, rfl⟩ rfl ?_
 refine GOps.nil ?_
 refine GW.seq ?_
 refine GW.seq ?_
 refine GW.region ?_
 refine R.fieldAddr ⟨rfl, rfl, rfl, rfl⟩ rfl Tryz.underlying89 rfl Tryz.sizeOf87 ?_   -- "Kind"
 refine R.load1 ⟨rfl, rfl, rfl, rfl⟩ rfl Tryz.underlying87 rfl (.own' memG (by rfl)) ?_
 refine R.eqI ⟨rfl, rfl, rfl, rfl⟩ rfl rfl ?_
 refine R.move ⟨rfl, rfl, rfl, rfl⟩ rfl ?_
 refine GOps.caseB 6 rfl (fun hg1 => ?_) (fun hg1 => ?_)
 ·try simp only [dcQ] at hg1
  refine GOps.skip rfl rfl rfl ?_
  refine GOps.skip rfl rfl rfl ?_
  refine GOps.skip rfl rfl rfl ?_
  refine R.pick_t ⟨rfl, rfl, rfl, rfl⟩ rfl rfl ?_
  refine GOps.nil ?_
  refine GW.cond_t rfl ?_
  refine GW.seq ?_
  refine GW.region ?_
  refine R.fieldAddr ⟨rfl, rfl, rfl, rfl⟩ rfl Tryz.underlying89 rfl Tryz.sizeOf28 ?_   -- "Pattern"
  refine R.indexAddrA ⟨rfl, rfl, rfl, rfl⟩ rfl rfl Tryz.underlying28 Tryz.sizeOf26 (by omega) (by omega) ?_
  refine R.load_own (cs := SlC l.pat.s0) ⟨rfl, rfl, rfl, rfl⟩ rfl Tryz.underlying26 rfl Tryz.sizeOf26 memG (by rfl) (by rfl) ?_
  refine R.fieldAddr ⟨rfl, rfl, rfl, rfl⟩ rfl Tryz.underlying89 rfl Tryz.sizeOf28 ?_   -- "Pattern"
  refine R.indexAddrA ⟨rfl, rfl, rfl, rfl⟩ rfl rfl Tryz.underlying28 Tryz.sizeOf26 (by omega) (by omega) ?_
  refine R.load_own (cs := SlC l.pat.s1) ⟨rfl, rfl, rfl, rfl⟩ rfl Tryz.underlying26 rfl Tryz.sizeOf26 memG (by rfl) (by rfl) ?_
  refine R.fieldAddr ⟨rfl, rfl, rfl, rfl⟩ rfl Tryz.underlying89 rfl Tryz.sizeOf28 ?_   -- "Pattern"
  refine R.indexAddrA ⟨rfl, rfl, rfl, rfl⟩ rfl rfl Tryz.underlying28 Tryz.sizeOf26 (by omega) (by omega) ?_
  refine R.load_own (cs := SlC l.pat.s2) ⟨rfl, rfl, rfl, rfl⟩ rfl Tryz.underlying26 rfl Tryz.sizeOf26 memG (by rfl) (by rfl) ?_
  refine R.buildSliceF (sz := 4) (bytes := 56) (vs := [_, _, _]) (cs := [_, _, _, _, _, _, _, _, _, _, _, _]) ⟨rfl, rfl, rfl, rfl⟩ rfl Tryz.underlying106 (InfoE.mk (by kernel_rfl)) rfl rfl rfl rfl rfl fun b20 => ?_
  refine R.assign ⟨rfl, rfl, rfl, rfl⟩ rfl ?_
  refine GOps.nil ?_
  first | rw [slotsOf_t (l := l) (by omega)] | rw [slotsOf_f (l := l) (by omega) (by omega)]
  exact GW.ret (Out.of (Res.one rfl rfl) (by first | exact Hs.refl _ | exact Hs.swapDrop _ _ _) ⟨_, rfl, rfl⟩)
 ·try simp only [dcQ] at hg1
  refine R.fieldAddr ⟨rfl, rfl, rfl, rfl⟩ rfl Tryz.underlying89 rfl Tryz.sizeOf87 ?_   -- "Kind"
  refine R.load1 ⟨rfl, rfl, rfl, rfl⟩ rfl Tryz.underlying87 rfl (.own' memG (by rfl)) ?_
  refine R.eqI ⟨rfl, rfl, rfl, rfl⟩ rfl rfl ?_
  refine R.pick_f ⟨rfl, rfl, rfl, rfl⟩ rfl rfl ?_
  refine GOps.nil ?_
  refine GW.ite rfl (fun hc2 => ?_) (fun hc2 => ?_)
  ·try simp only [dcQ] at hc2
   refine GW.seq ?_
   refine GW.region ?_
   refine R.fieldAddr ⟨rfl, rfl, rfl, rfl⟩ rfl Tryz.underlying89 rfl Tryz.sizeOf28 ?_   -- "Pattern"
   refine R.indexAddrA ⟨rfl, rfl, rfl, rfl⟩ rfl rfl Tryz.underlying28 Tryz.sizeOf26 (by omega) (by omega) ?_
   refine R.load_own (cs := SlC l.pat.s0) ⟨rfl, rfl, rfl, rfl⟩ rfl Tryz.underlying26 rfl Tryz.sizeOf26 memG (by rfl) (by rfl) ?_
   refine R.fieldAddr ⟨rfl, rfl, rfl, rfl⟩ rfl Tryz.underlying89 rfl Tryz.sizeOf28 ?_   -- "Pattern"
   refine R.indexAddrA ⟨rfl, rfl, rfl, rfl⟩ rfl rfl Tryz.underlying28 Tryz.sizeOf26 (by omega) (by omega) ?_
   refine R.load_own (cs := SlC l.pat.s1) ⟨rfl, rfl, rfl, rfl⟩ rfl Tryz.underlying26 rfl Tryz.sizeOf26 memG (by rfl) (by rfl) ?_
   refine R.fieldAddr ⟨rfl, rfl, rfl, rfl⟩ rfl Tryz.underlying89 rfl Tryz.sizeOf28 ?_   -- "Pattern"
   refine R.indexAddrA ⟨rfl, rfl, rfl, rfl⟩ rfl rfl Tryz.underlying28 Tryz.sizeOf26 (by omega) (by omega) ?_
   refine R.load_own (cs := SlC l.pat.s2) ⟨rfl, rfl, rfl, rfl⟩ rfl Tryz.underlying26 rfl Tryz.sizeOf26 memG (by rfl) (by rfl) ?_
   refine R.buildSliceF (sz := 4) (bytes := 56) (vs := [_, _, _]) (cs := [_, _, _, _, _, _, _, _, _, _, _, _]) ⟨rfl, rfl, rfl, rfl⟩ rfl Tryz.underlying106 (InfoE.mk (by kernel_rfl)) rfl rfl rfl rfl rfl fun b20 => ?_
   refine R.assign ⟨rfl, rfl, rfl, rfl⟩ rfl ?_
   refine GOps.nil ?_
   first | rw [slotsOf_t (l := l) (by omega)] | rw [slotsOf_f (l := l) (by omega) (by omega)]
   exact GW.ret (Out.of (Res.one rfl rfl) (by first | exact Hs.refl _ | exact Hs.swapDrop _ _ _) ⟨_, rfl, rfl⟩)
  ·try simp only [dcQ] at hc2
   refine GW.skip ?_
   refine GW.seq ?_
   refine GW.region ?_
   refine R.fieldAddr ⟨rfl, rfl, rfl, rfl⟩ rfl Tryz.underlying89 rfl Tryz.sizeOf26 ?_   -- "A"
   refine R.load_own (cs := SlC l.a) ⟨rfl, rfl, rfl, rfl⟩ rfl Tryz.underlying26 rfl Tryz.sizeOf26 memG (by rfl) (by rfl) ?_
   refine R.fieldAddr ⟨rfl, rfl, rfl, rfl⟩ rfl Tryz.underlying89 rfl Tryz.sizeOf26 ?_   -- "B"
   refine R.load_own (cs := SlC l.b) ⟨rfl, rfl, rfl, rfl⟩ rfl Tryz.underlying26 rfl Tryz.sizeOf26 memG (by rfl) (by rfl) ?_
   refine R.buildSliceF (sz := 4) (bytes := 56) (vs := [_, _]) (cs := [_, _, _, _, _, _, _, _]) ⟨rfl, rfl, rfl, rfl⟩ rfl Tryz.underlying106 (InfoE.mk (by kernel_rfl)) rfl rfl rfl rfl rfl fun b25 => ?_
   refine R.assign ⟨rfl, rfl, rfl, rfl⟩ rfl ?_
   refine GOps.nil ?_
   first | rw [slotsOf_t (l := l) (by omega)] | rw [slotsOf_f (l := l) (by omega) (by omega)]
   exact GW.ret (Out.of (Res.one rfl rfl) (by first | exact Hs.refl _ | exact Hs.swapDrop _ _ _) ⟨_, rfl, rfl⟩)
end Go.Proofs.YtfddkcmooommeaaGreatDoor.Gl
end
section
namespace Go.Proofs.YtfddkcmooommeaaGreatDoor.Gl
open Go.RowKit Go.Shelf
set_option linter.unusedVariables false
set_option linter.unnecessarySimpa false
set_option linter.unusedSimpArgs false
attribute [-simp] List.getD_eq_getElem?_getD
theorem slotsOf_cases (l : Lt) : slotsOf l = [l.pat.s0, l.pat.s1, l.pat.s2] ∨ slotsOf l = [l.a, l.b] := by
 unfold slotsOf
 cases (decide (l.kind = 1) || decide (l.kind = 2)) <;> simp
theorem slotsOf_len (l : Lt) : 2 ≤ (slotsOf l).length ∧ (slotsOf l).length ≤ 3 := by rcases slotsOf_cases l with h | h <;> rw [h] <;> simp
theorem flat_len (ss : List Sl) : (ss.flatMap SlC).length = ss.length * 4 := by
 induction ss with
 | nil => rfl
 | cons s ss ih => rw [List.flatMap_cons, List.length_append, ih]; simp [SlC]; omega
theorem flat_get : ∀ (ss : List Sl) (i : Nat) (s : Sl), ss[i]? = some s → ∀ j v, (SlC s)[j]? = some v → (ss.flatMap SlC)[i * 4 + j]? = some v
 | [], i, s, h, _, _, _ => by simp at h
 | t :: ss, 0, s, h, j, v, hv => by
  simp at h
  subst h
  have hj : j < (SlC t).length := (List.getElem?_eq_some_iff.1 hv).1
  rw [List.flatMap_cons, Nat.zero_mul, Nat.zero_add, List.getElem?_append_left hj]
  exact hv
 | t :: ss, i + 1, s, h, j, v, hv => by
  have ih := flat_get ss i s (by simpa using h) j v hv
  rw [List.flatMap_cons, List.getElem?_append_right (by simp [SlC]; omega)]
  have e : (i + 1) * 4 + j - (SlC t).length = i * 4 + j := by simp [SlC]; omega
  rw [e]
  exact ih
theorem slot_cell {q : List Sl} {i : Nat} {y : Sl} {e : TypeId} {n : Nat} (h : q[i]? = some y) : Know.cell (.row (q.flatMap SlC) e n) (0 + (i : Int).toNat * 4 + 0) = some (.string y.v) := by
 have := flat_get q i y h 0 (.string y.v) rfl
 simpa [Know.cell] using this
theorem flat_one (ss : List Sl) : (ss.flatMap SlC).all (·.oneCell') = true := by
 induction ss with
 | nil => rfl
 | cons s ss ih => rw [List.flatMap_cons, List.all_append, ih]; rfl
def allTake (r : Rl) (i : Nat) : List Sl := [r.head.s0, r.head.s1, r.head.s2] ++ (r.body.take i).flatMap slotsOf
def allSlots (r : Rl) : List Sl := allTake r r.body.length
theorem allTake_succ {r : Rl} {i : Nat} {x : Lt} (h : r.body[i]? = some x) : allTake r (i + 1) = allTake r i ++ slotsOf x := by
 unfold allTake
 rw [List.take_add_one, h]
 simp
theorem allTake_len (r : Rl) (i : Nat) : 3 ≤ (allTake r i).length ∧ (allTake r i).length ≤ 3 + 3 * i := by
 unfold allTake
 refine ⟨by simp, ?_⟩
 have h : ∀ l : List Lt, (l.flatMap slotsOf).length ≤ 3 * l.length := by
  intro l
  induction l with
  | nil => simp
  | cons x l ih => have := slotsOf_len x; rw [List.flatMap_cons, List.length_append, List.length_cons]; omega
 have h1 := h (r.body.take i)
 have h2 : (r.body.take i).length ≤ i := by rw [List.length_take]; omega
 rw [List.length_append]
 simp only [List.length_cons, List.length_nil]
 omega
def ddStep (out : List ByteArray) (s : Sl) : List ByteArray := bif (!emp s.v && !inB out s.v) then out ++ [s.v] else out
def dd (q : List Sl) : List ByteArray := q.foldl ddStep []
theorem dd_succ {q : List Sl} {i : Nat} {x : Sl} (h : q[i]? = some x) : dd (q.take (i + 1)) = ddStep (dd (q.take i)) x := by
 unfold dd
 rw [List.take_add_one, h, List.foldl_append]
 rfl
theorem dd_len (q : List Sl) : (dd q).length ≤ q.length := by
 have h : ∀ (q : List Sl) (out : List ByteArray), (q.foldl ddStep out).length ≤ out.length + q.length := by
  intro q
  induction q with
  | nil => intro out; simp
  | cons x q ih =>
   intro out
   have h1 := ih (ddStep out x)
   have h2 : (ddStep out x).length ≤ out.length + 1 := by
    unfold ddStep
    cases (!emp x.v && !inB out x.v) <;> simp
   rw [List.foldl_cons, List.length_cons]
   omega
 have := h q []
 simpa [dd] using this
theorem SlAt.row_of {sz : Nat} {e : TypeId} {cs : List Value} {n : Nat} {v : Value} {H : Hp} (h : SlAt sz e cs n v H) (hn : 0 < n) : ∃ b cap, v = .slice (some ⟨b, 0, none⟩) n cap ∧ H = [(b, .row cs e (cap * sz))] ∧ n ≤ cap := by
 cases h with
 | nil h0 => omega
 | row b cap hl hc => exact ⟨b, cap, rfl, rfl, hc⟩
theorem SlAt.strs {e : TypeId} {xs : List ByteArray} {v : Value} {H : Hp} (w0 : World) (G : Hp) (h : SlAt 1 e (xs.map Value.string) xs.length v H) : ∃ A c, v = .slice A xs.length c ∧ StAt w0 (H ++ G) A xs := by
 generalize hn : xs.length = n at h
 cases h with
 | nil h0 hc =>
  subst h0
  refine ⟨none, 0, rfl, fun i x hx => ?_⟩
  rw [List.length_eq_zero_iff.1 hn] at hx
  cases hx
 | row b cap hl hc =>
  refine ⟨some ⟨b, 0, none⟩, cap, rfl, fun i x hx => ⟨b, 0, _, rfl, rfl, fun j v hv => ?_⟩⟩
  refine .own (List.mem_append_left _ List.mem_cons_self) ?_
  cases j with
  | zero =>
   simp at hv
   subst hv
   simp only [Know.cell, Nat.zero_add, Nat.mul_one, Nat.add_zero]
   rw [List.getElem?_map, hx]
   rfl
  | succ j => simp at hv
theorem toRow {b : Nat} {cs : List Value} {e : TypeId} {n : Nat} (G : Hp) (hn : cs.length = n) : Hs ((b, .exact (.cells cs.toArray e (0, 0))) :: G) ([(b, .row cs e n)] ++ G) := fun w0 w hw =>
 Sat.weakKnow (G1 := []) hw (fun x hx => by
  simp only [Know.holds] at hx ⊢
  exact ⟨_, hx, by simpa using hn, fun j v hv => by simpa using hv⟩)
theorem sub_app {G : Hp} (l : Hp) : ∀ y ∈ G, y ∈ l ++ G := fun _ h => List.mem_append_right _ h
theorem Hs.app2 (H : Hp) (x y : Nat × Know) (G : Hp) : Hs (H ++ ([x] ++ y :: G)) (H ++ G) := Hs.sub (List.Sublist.append (List.Sublist.refl _) ((List.sublist_cons_self y G).trans (List.sublist_cons_self x _)))
theorem ddStep_yes {out : List ByteArray} {x : Sl} (h1 : emp x.v = false) (h2 : inB out x.v = false) : ddStep out x = out ++ [x.v] := by unfold ddStep; rw [h1, h2]; rfl
theorem ddStep_no1 {out : List ByteArray} {x : Sl} (h1 : emp x.v = true) : ddStep out x = out := by unfold ddStep; rw [h1]; rfl
theorem ddStep_no2 {out : List ByteArray} {x : Sl} (h2 : inB out x.v = true) : ddStep out x = out := by unfold ddStep; rw [h2]; simp
theorem SlAt.snoc {out : List ByteArray} {s : ByteArray} {v : Value} {H : Hp} (h : SlAt 1 9 (out.map Value.string ++ [.string s]) (out.length + 1) v H) : SlAt 1 9 ((out ++ [s]).map Value.string) (out ++ [s]).length v H := by
 rw [List.map_append, List.length_append]
 exact h
theorem ref_Vars (w0 : World) (G : Hp) (r : Rl) (A : Option Addr) (c : Nat) (hl : LtsAt w0 G A r.body) (hm : r.body.length ≤ 1048576) : GC Tryz.prog w0 15 #[.agg (RlC r.head (.slice A r.body.length c)).toArray] (fun v G' => ∃ H, SlAt 1 9 ((dd (allSlots r)).map Value.string) (dd (allSlots r)).length v H ∧ H ++ G = G') G := by
 refine GC.body (args := [.agg (RlC r.head (.slice A r.body.length c)).toArray]) Tryz.func15 rfl (by kernel_rfl) rfl ?_
 refine GW.seq ?_
 refine GW.region ?_
 refine R.box ⟨rfl, rfl, rfl, rfl⟩ rfl fun b1 => ?_
 refine R.assign ⟨rfl, rfl, rfl, rfl⟩ rfl ?_
 refine GOps.nil ?_
 refine GW.seq ?_
 refine GW.region ?_
 refine R.assign ⟨rfl, rfl, rfl, rfl⟩ rfl ?_
 refine GOps.nil ?_
 refine GW.seq ?_
 refine GW.region ?_
 refine R.fieldAddr ⟨rfl, rfl, rfl, rfl⟩ rfl Tryz.underlying31 rfl Tryz.sizeOf28 ?_   -- "Head"
 refine R.indexAddrA ⟨rfl, rfl, rfl, rfl⟩ rfl rfl Tryz.underlying28 Tryz.sizeOf26 (by omega) (by omega) ?_
 refine R.load_own (cs := SlC r.head.s0) ⟨rfl, rfl, rfl, rfl⟩ rfl Tryz.underlying26 rfl Tryz.sizeOf26 memG (by rfl) (by rfl) ?_
 refine R.fieldAddr ⟨rfl, rfl, rfl, rfl⟩ rfl Tryz.underlying31 rfl Tryz.sizeOf28 ?_   -- "Head"
 refine R.indexAddrA ⟨rfl, rfl, rfl, rfl⟩ rfl rfl Tryz.underlying28 Tryz.sizeOf26 (by omega) (by omega) ?_
 refine R.load_own (cs := SlC r.head.s1) ⟨rfl, rfl, rfl, rfl⟩ rfl Tryz.underlying26 rfl Tryz.sizeOf26 memG (by rfl) (by rfl) ?_
 refine R.fieldAddr ⟨rfl, rfl, rfl, rfl⟩ rfl Tryz.underlying31 rfl Tryz.sizeOf28 ?_   -- "Head"
 refine R.indexAddrA ⟨rfl, rfl, rfl, rfl⟩ rfl rfl Tryz.underlying28 Tryz.sizeOf26 (by omega) (by omega) ?_
 refine R.load_own (cs := SlC r.head.s2) ⟨rfl, rfl, rfl, rfl⟩ rfl Tryz.underlying26 rfl Tryz.sizeOf26 memG (by rfl) (by rfl) ?_
 refine R.buildSliceF (sz := 4) (bytes := 56) (vs := [_, _, _]) (cs := [r.head.s0, r.head.s1, r.head.s2].flatMap SlC) ⟨rfl, rfl, rfl, rfl⟩ rfl Tryz.underlying106 (InfoE.mk (by kernel_rfl)) rfl rfl rfl rfl rfl fun b16 => ?_
 refine R.assign ⟨rfl, rfl, rfl, rfl⟩ rfl ?_
 refine GOps.nil ?_
 refine GW.seq ?_
 refine GW.seq ?_
 refine GW.region ?_
 refine R.assign ⟨rfl, rfl, rfl, rfl⟩ rfl ?_
 refine GOps.nil ?_
 refine GW.block ?_
 refine GW.loop4 (fun (i : Nat) (va : Value) (Ha : Hp) (u1 : Unit) => [(1, .pointer (some ⟨b1, 0, none⟩)), (3, .slice none 0 0), (4, va), (5, .int .i64 i)]) (fun (i : Nat) (va : Value) (Ha : Hp) (u1 : Unit) => Ha ++ (b1, .exact (.cells (RlC r.head (.slice A r.body.length c)).toArray 31 (0, 0))) :: G) (fun i : Nat => r.body.length - i) (fun (i : Nat) (va : Value) (Ha : Hp) (u1 : Unit) => i ≤ r.body.length ∧ SlAt 4 26 ((allTake r i).flatMap SlC) (allTake r i).length va Ha) 0 (.slice (some ⟨b16, 0, none⟩) 3 3) ([(b16, .row _ 26 12)]) (())
  (by repeat (first | exact Keeps.nil _ | refine Keeps.cons rfl ?_)) (toRow _ rfl) (⟨by omega, SlAt.row _ 3 rfl (Nat.le_refl 3)⟩) ?_
 rintro i va Ha u1 ⟨hi, hS⟩
 refine GW.seq ?_
 refine GW.seq ?_
 refine GW.region ?_
 refine R.move ⟨rfl, rfl, rfl, rfl⟩ rfl ?_
 refine R.fieldAddr ⟨rfl, rfl, rfl, rfl⟩ rfl Tryz.underlying31 rfl Tryz.sizeOf29 ?_   -- "Body"
 refine R.load1 ⟨rfl, rfl, rfl, rfl⟩ rfl Tryz.underlying29 rfl (.own' memG (by rfl)) ?_
 refine R.lenS ⟨rfl, rfl, rfl, rfl⟩ rfl rfl Tryz.underlying29 ?_
 refine R.lss ⟨rfl, rfl, rfl, rfl⟩ rfl rfl ?_
 refine GOps.nil ?_
 refine GW.ite rfl (fun hc1 => ?_) (fun hc1 => ?_)
 ·try simp only [dcQ] at hc1
  obtain ⟨x, hx⟩ : ∃ x, r.body[i]? = some x := ⟨_, List.getElem?_eq_getElem (by omega)⟩
  obtain ⟨bb, oo, cs, rfl, rfl, hrd⟩ := hl i x hx
  refine GW.skip ?_
  refine GW.seq ?_
  refine GW.block ?_
  refine GW.region ?_
  refine R.move ⟨rfl, rfl, rfl, rfl⟩ rfl ?_
  refine R.fieldAddr ⟨rfl, rfl, rfl, rfl⟩ rfl Tryz.underlying31 rfl Tryz.sizeOf29 ?_   -- "Body"
  refine R.load1 ⟨rfl, rfl, rfl, rfl⟩ rfl Tryz.underlying29 rfl (.own' memG (by rfl)) ?_
  refine R.move ⟨rfl, rfl, rfl, rfl⟩ rfl ?_
  refine R.indexAddrS ⟨rfl, rfl, rfl, rfl⟩ rfl rfl Tryz.underlying29 Tryz.sizeOf89 (by omega) (by omega) ?_
  refine R.loadA ⟨rfl, rfl, rfl, rfl⟩ rfl Tryz.underlying89 rfl Tryz.sizeOf89 (Rds.mono (sub_app _) (Rds.mono (sub_cons _) hrd)) (by rfl) ?_
  refine R.call ⟨rfl, rfl, rfl, rfl⟩ rfl (vs := [_]) rfl ((ref_Slots _ _ x).mono ?_)
  rintro _ _ ⟨b30, rfl, rfl⟩
  have hxl := slotsOf_len x
  have hql := allTake_len r i
  refine R.append (sz := 4) (bytes := 56) (G1 := [_]) (H := Ha) (news := (slotsOf x).flatMap SlC) ⟨rfl, rfl, rfl, rfl⟩ rfl rfl rfl Tryz.underlying106 (InfoE.mk (by kernel_rfl)) (hS) (rfl) (flat_len _) (.own memG 0 _ (fun j v hv => by simpa using hv)) (by omega) (flat_one _) (by omega) (by omega) fun v31 H31 hv31 => ?_
  refine R.assign ⟨rfl, rfl, rfl, rfl⟩ rfl ?_
  refine GOps.nil ?_
  refine GW.region ?_
  refine R.move ⟨rfl, rfl, rfl, rfl⟩ rfl ?_
  refine R.add (r := (((i + 1) : Nat) : Int)) ⟨rfl, rfl, rfl, rfl⟩ rfl rfl (by rw [wrap64_id (by omega) (by omega)]; omega) ?_
  refine R.assign ⟨rfl, rfl, rfl, rfl⟩ rfl ?_
  refine GOps.nil ?_
  exact ⟨i + 1, v31, H31, (), by omega, ⟨by omega, by rw [allTake_succ hx, List.flatMap_append, List.length_append]; exact hv31⟩, rfl, by repeat (first | exact Keeps.nil _ | refine Keeps.cons rfl ?_), by first | exact Hs.refl _ | exact Hs.tl _ | exact Hs.tl2 _ _⟩
 ·try simp only [dcQ] at hc1
  obtain rfl : r.body.length = i := by omega
  obtain ⟨ba, capa, rfl, rfl, hca⟩ := hS.row_of (by have := allTake_len r r.body.length; omega)
  have hql := allTake_len r r.body.length
  refine GW.exit ?_
  refine GW.seq ?_
  refine GW.seq ?_
  refine GW.region ?_
  refine R.assign ⟨rfl, rfl, rfl, rfl⟩ rfl ?_
  refine GOps.nil ?_
  refine GW.block ?_
  refine GW.loop4 (fun (i : Nat) (vo : Value) (Ho : Hp) (u1 : Unit) => [(3, vo), (4, .slice (some ⟨ba, 0, none⟩) (allTake r r.body.length).length capa), (6, .int .i64 i)]) (fun (i : Nat) (vo : Value) (Ho : Hp) (u1 : Unit) => Ho ++ ([(ba, .row ((allTake r r.body.length).flatMap SlC) 26 (capa * 4))] ++ (b1, .exact (.cells (RlC r.head (.slice A r.body.length c)).toArray 31 (0, 0))) :: G)) (fun i : Nat => (allTake r r.body.length).length - i) (fun (i : Nat) (vo : Value) (Ho : Hp) (u1 : Unit) => i ≤ (allTake r r.body.length).length ∧ SlAt 1 9 ((dd ((allSlots r).take i)).map Value.string) (dd ((allSlots r).take i)).length vo Ho) 0 (.slice none 0 0) ([]) (())
   (by repeat (first | exact Keeps.nil _ | refine Keeps.cons rfl ?_)) (Hs.refl _) (⟨by omega, .nil rfl rfl⟩) ?_
  rintro i vo Ho u1 ⟨hi, hO⟩
  refine GW.seq ?_
  refine GW.seq ?_
  refine GW.region ?_
  refine R.move ⟨rfl, rfl, rfl, rfl⟩ rfl ?_
  refine R.move ⟨rfl, rfl, rfl, rfl⟩ rfl ?_
  refine R.lenS ⟨rfl, rfl, rfl, rfl⟩ rfl rfl Tryz.underlying106 ?_
  refine R.lss ⟨rfl, rfl, rfl, rfl⟩ rfl rfl ?_
  refine GOps.nil ?_
  refine GW.ite rfl (fun hc2 => ?_) (fun hc2 => ?_)
  ·try simp only [dcQ] at hc2
   obtain ⟨y, hy⟩ : ∃ y, (allSlots r)[i]? = some y := ⟨_, List.getElem?_eq_getElem (by show i < (allTake r r.body.length).length; omega)⟩
   obtain ⟨Ao, co, rfl, hSt⟩ := hO.strs w0 ([(ba, .row ((allTake r r.body.length).flatMap SlC) 26 (capa * 4))] ++ (b1, .exact (.cells (RlC r.head (.slice A r.body.length c)).toArray 31 (0, 0))) :: G)
   have hdl : (dd ((allSlots r).take i)).length ≤ i := by have := dd_len ((allSlots r).take i); rw [List.length_take] at this; omega
   refine GW.skip ?_
   refine GW.seq ?_
   refine GW.block ?_
   refine GW.seq ?_
   refine GW.region ?_
   refine R.move ⟨rfl, rfl, rfl, rfl⟩ rfl ?_
   refine R.move ⟨rfl, rfl, rfl, rfl⟩ rfl ?_
   refine R.indexAddrS ⟨rfl, rfl, rfl, rfl⟩ rfl rfl Tryz.underlying106 Tryz.sizeOf26 (by omega) (by omega) ?_
   refine R.fieldAddr ⟨rfl, rfl, rfl, rfl⟩ rfl Tryz.underlying26 rfl Tryz.sizeOf9 ?_   -- "Var"
   refine R.load1 ⟨rfl, rfl, rfl, rfl⟩ rfl Tryz.underlying9 rfl (.own (k := .row ((allTake r r.body.length).flatMap SlC) 26 (capa * 4)) memG (slot_cell hy)) ?_
   refine R.neS ⟨rfl, rfl, rfl, rfl⟩ rfl rfl ?_
   refine R.move ⟨rfl, rfl, rfl, rfl⟩ rfl ?_
   refine GOps.caseB 44 rfl (fun hg3 => ?_) (fun hg3 => ?_)
   ·try simp only [dcQ] at hg3
    refine R.move ⟨rfl, rfl, rfl, rfl⟩ rfl ?_
    refine R.move ⟨rfl, rfl, rfl, rfl⟩ rfl ?_
    refine R.move ⟨rfl, rfl, rfl, rfl⟩ rfl ?_
    refine R.indexAddrS ⟨rfl, rfl, rfl, rfl⟩ rfl rfl Tryz.underlying106 Tryz.sizeOf26 (by omega) (by omega) ?_
    refine R.fieldAddr ⟨rfl, rfl, rfl, rfl⟩ rfl Tryz.underlying26 rfl Tryz.sizeOf9 ?_   -- "Var"
    refine R.load1 ⟨rfl, rfl, rfl, rfl⟩ rfl Tryz.underlying9 rfl (.own (k := .row ((allTake r r.body.length).flatMap SlC) 26 (capa * 4)) memG (slot_cell hy)) ?_
    refine R.call ⟨rfl, rfl, rfl, rfl⟩ rfl (vs := [_, _]) rfl ((ref_In _ _ Ao (dd ((allSlots r).take i)) co y.v hSt (by omega)).mono ?_)
    rintro _ _ ⟨rfl, rfl⟩
    refine R.not ⟨rfl, rfl, rfl, rfl⟩ rfl ?_
    refine R.pick_t ⟨rfl, rfl, rfl, rfl⟩ rfl rfl ?_
    refine GOps.nil ?_
    refine GW.ite rfl (fun hc4 => ?_) (fun hc4 => ?_)
    ·try simp only [dcQ] at hc4
     refine GW.region ?_
     refine R.move ⟨rfl, rfl, rfl, rfl⟩ rfl ?_
     refine R.move ⟨rfl, rfl, rfl, rfl⟩ rfl ?_
     refine R.move ⟨rfl, rfl, rfl, rfl⟩ rfl ?_
     refine R.indexAddrS ⟨rfl, rfl, rfl, rfl⟩ rfl rfl Tryz.underlying106 Tryz.sizeOf26 (by omega) (by omega) ?_
     refine R.fieldAddr ⟨rfl, rfl, rfl, rfl⟩ rfl Tryz.underlying26 rfl Tryz.sizeOf9 ?_   -- "Var"
     refine R.load1 ⟨rfl, rfl, rfl, rfl⟩ rfl Tryz.underlying9 rfl (.own (k := .row ((allTake r r.body.length).flatMap SlC) 26 (capa * 4)) memG (slot_cell hy)) ?_
     refine R.buildSliceF (sz := 1) (bytes := 16) (vs := [_]) (cs := [_]) ⟨rfl, rfl, rfl, rfl⟩ rfl Tryz.underlying61 (InfoE.mk (by kernel_rfl)) rfl rfl rfl rfl rfl fun b60 => ?_
     refine R.append (sz := 1) (bytes := 16) (G1 := [_]) (H := Ho) (news := [.string y.v]) ⟨rfl, rfl, rfl, rfl⟩ rfl rfl rfl Tryz.underlying61 (InfoE.mk (by kernel_rfl)) (hO) (rfl) (rfl) (.own memG 0 _ (fun j v hv => by simpa using hv)) (by omega) (by rfl) (by omega) (by omega) fun v61 H61 hv61 => ?_
     refine R.assign ⟨rfl, rfl, rfl, rfl⟩ rfl ?_
     refine GOps.nil ?_
     refine GW.region ?_
     refine R.move ⟨rfl, rfl, rfl, rfl⟩ rfl ?_
     refine R.add (r := (((i + 1) : Nat) : Int)) ⟨rfl, rfl, rfl, rfl⟩ rfl rfl (by rw [wrap64_id (by omega) (by omega)]; omega) ?_
     refine R.assign ⟨rfl, rfl, rfl, rfl⟩ rfl ?_
     refine GOps.nil ?_
     exact ⟨i + 1, _, _, (), by omega, by first | exact ⟨by omega, by rw [dd_succ hy, ddStep_yes (by assumption) (by assumption)]; exact hv61.snoc⟩ | exact ⟨by omega, by rw [dd_succ hy, ddStep_no1 (by assumption)]; exact hO⟩ | exact ⟨by omega, by rw [dd_succ hy, ddStep_no2 (by assumption)]; exact hO⟩, rfl, by repeat (first | exact Keeps.nil _ | refine Keeps.cons rfl ?_), by first | exact Hs.refl _ | exact Hs.tl _ | exact Hs.tl2 _ _⟩
    ·try simp only [dcQ] at hc4
     refine GW.skip ?_
     refine GW.region ?_
     refine R.move ⟨rfl, rfl, rfl, rfl⟩ rfl ?_
     refine R.add (r := (((i + 1) : Nat) : Int)) ⟨rfl, rfl, rfl, rfl⟩ rfl rfl (by rw [wrap64_id (by omega) (by omega)]; omega) ?_
     refine R.assign ⟨rfl, rfl, rfl, rfl⟩ rfl ?_
     refine GOps.nil ?_
     exact ⟨i + 1, _, _, (), by omega, by first | exact ⟨by omega, by rw [dd_succ hy, ddStep_yes (by assumption) (by assumption)]; exact hv61.snoc⟩ | exact ⟨by omega, by rw [dd_succ hy, ddStep_no1 (by assumption)]; exact hO⟩ | exact ⟨by omega, by rw [dd_succ hy, ddStep_no2 (by assumption)]; exact hO⟩, rfl, by repeat (first | exact Keeps.nil _ | refine Keeps.cons rfl ?_), by first | exact Hs.refl _ | exact Hs.tl _ | exact Hs.tl2 _ _⟩
   ·try simp only [dcQ] at hg3
    refine GOps.skip rfl rfl rfl ?_
    refine GOps.skip rfl rfl rfl ?_
    refine GOps.skip rfl rfl rfl ?_
    refine GOps.skip rfl rfl rfl ?_
    refine GOps.skip rfl rfl rfl ?_
    refine GOps.skip rfl rfl rfl ?_
    refine GOps.skip rfl rfl rfl ?_
    refine GOps.skip rfl rfl rfl ?_
    refine R.pick_f ⟨rfl, rfl, rfl, rfl⟩ rfl rfl ?_
    refine GOps.nil ?_
    refine GW.cond_f rfl ?_
    refine GW.skip ?_
    refine GW.region ?_
    refine R.move ⟨rfl, rfl, rfl, rfl⟩ rfl ?_
    refine R.add (r := (((i + 1) : Nat) : Int)) ⟨rfl, rfl, rfl, rfl⟩ rfl rfl (by rw [wrap64_id (by omega) (by omega)]; omega) ?_
    refine R.assign ⟨rfl, rfl, rfl, rfl⟩ rfl ?_
    refine GOps.nil ?_
    exact ⟨i + 1, _, _, (), by omega, by first | exact ⟨by omega, by rw [dd_succ hy, ddStep_yes (by assumption) (by assumption)]; exact hv61.snoc⟩ | exact ⟨by omega, by rw [dd_succ hy, ddStep_no1 (by assumption)]; exact hO⟩ | exact ⟨by omega, by rw [dd_succ hy, ddStep_no2 (by assumption)]; exact hO⟩, rfl, by repeat (first | exact Keeps.nil _ | refine Keeps.cons rfl ?_), by first | exact Hs.refl _ | exact Hs.tl _ | exact Hs.tl2 _ _⟩
  ·try simp only [dcQ] at hc2
   refine GW.exit ?_
   refine GW.seq ?_
   refine GW.region ?_
   refine R.move ⟨rfl, rfl, rfl, rfl⟩ rfl ?_
   refine R.assign ⟨rfl, rfl, rfl, rfl⟩ rfl ?_
   refine GOps.nil ?_
   refine GW.ret (Out.of (Res.one rfl rfl) (Hs.app2 _ _ _ _) ⟨_, ?_, rfl⟩)
   rw [List.take_of_length_le (by show (allTake r r.body.length).length ≤ i; omega)] at hO
   exact hO
end Go.Proofs.YtfddkcmooommeaaGreatDoor.Gl
end
section
namespace Go.Proofs.YtfddkcmooommeaaGreatDoor.Gl
open Go.RowKit Go.Shelf
set_option linter.unusedVariables false
set_option linter.unnecessarySimpa false
set_option linter.unusedSimpArgs false
attribute [-simp] List.getD_eq_getElem?_getD
def patL (l : Lt) : List ByteArray := [l.pat.s0.v, l.pat.s1.v, l.pat.s2.v]
def givenOf (l : Lt) : List ByteArray := if l.kind = 1 then patL l else []
def givenTake (r : Rl) (i : Nat) : List ByteArray := (r.body.take i).flatMap givenOf
def givenL (r : Rl) : List ByteArray := givenTake r r.body.length
theorem givenTake_succ {r : Rl} {i : Nat} {x : Lt} (h : r.body[i]? = some x) : givenTake r (i + 1) = givenTake r i ++ givenOf x := by
 unfold givenTake
 rw [List.take_add_one, h]
 simp
theorem givenTake_len (r : Rl) (i : Nat) : (givenTake r i).length ≤ 3 * i := by
 unfold givenTake
 have h : ∀ l : List Lt, (l.flatMap givenOf).length ≤ 3 * l.length := by
  intro l
  induction l with
  | nil => simp
  | cons x l ih =>
   have h1 : (givenOf x).length ≤ 3 := by unfold givenOf patL; split <;> simp
   rw [List.flatMap_cons, List.length_append, List.length_cons]
   omega
 have h1 := h (r.body.take i)
 have h2 : (r.body.take i).length ≤ i := by rw [List.length_take]; omega
 omega
theorem patL_get {x : Lt} {k : Nat} (h : k < 3) : ∃ s, (patL x)[k]? = some s ∧ (LtC x)[1 + k * 4]? = some (.string s) := by
 rcases (by omega : k = 0 ∨ k = 1 ∨ k = 2) with rfl | rfl | rfl
 ·exact ⟨_, rfl, rfl⟩
 ·exact ⟨_, rfl, rfl⟩
 ·exact ⟨_, rfl, rfl⟩
theorem pat_cell {w0 : World} {G : Hp} {b o k : Nat} {x : Lt} {s : ByteArray} (h : Rds w0 G b o (LtC x)) (hs : (LtC x)[1 + k * 4]? = some (.string s)) : Rd w0 G b (o + 1 + (k : Int).toNat * 4 + 0) (.string s) := by
 have := h _ _ hs
 simpa [Nat.add_assoc] using this
theorem giv_step {r : Rl} {i k : Nat} {x : Lt} {v : Value} {H : Hp} (hx : r.body[i]? = some x) (h1 : x.kind = 1) (hk : k = 3) (hK : SlAt 1 9 ((givenTake r i ++ (patL x).take k).map Value.string) (givenTake r i ++ (patL x).take k).length v H) : SlAt 1 9 ((givenTake r (i + 1)).map Value.string) (givenTake r (i + 1)).length v H := by
 subst hk
 rw [givenTake_succ hx, givenOf, if_pos h1]
 exact hK
def ruleE (r : Rl) : Int := bif mayRl r then (bif (dd (allSlots r)).all (inB (givenL r)) then 0 else 5) else 2
theorem ref_Rule (w0 : World) (G : Hp) (r : Rl) (A : Option Addr) (c : Nat) (hl : LtsAt w0 G A r.body) (hm : r.body.length ≤ 1048576) (h : RlOk r) : GC Tryz.prog w0 8 #[.agg (RlC r.head (.slice A r.body.length c)).toArray] (fun v G' => v = .int .i64 (ruleE r) ∧ G = G') G := by
 refine GC.body (args := [.agg (RlC r.head (.slice A r.body.length c)).toArray]) Tryz.func8 rfl (by kernel_rfl) rfl ?_
 refine GW.seq ?_
 refine GW.region ?_
 refine R.box ⟨rfl, rfl, rfl, rfl⟩ rfl fun b1 => ?_
 refine R.assign ⟨rfl, rfl, rfl, rfl⟩ rfl ?_
 refine GOps.nil ?_
 refine GW.seq ?_
 refine GW.seq ?_
 refine GW.region ?_
 refine R.load_own (cs := RlC r.head (.slice A r.body.length c)) ⟨rfl, rfl, rfl, rfl⟩ rfl Tryz.underlying31 rfl Tryz.sizeOf31 memG (by rfl) (by rfl) ?_
 refine R.call ⟨rfl, rfl, rfl, rfl⟩ rfl (vs := [_]) rfl ((ref_MayRl _ _ r A c (hl.mono (sub_cons _)) hm h).mono ?_)
 rintro _ _ ⟨rfl, rfl⟩
 refine R.not ⟨rfl, rfl, rfl, rfl⟩ rfl ?_
 refine GOps.nil ?_
 refine GW.ite rfl (fun hc1 => ?_) (fun hc1 => ?_)
 ·try simp only [dcQ] at hc1
  refine GW.seq ?_
  refine GW.region ?_
  refine R.assign ⟨rfl, rfl, rfl, rfl⟩ rfl ?_
  refine GOps.nil ?_
  refine GW.ret (Out.of (Res.one rfl rfl) (by first | exact Hs.refl _ | exact Hs.tl _ | exact Hs.tl2 _ _ | exact Hs.tl3 _ _ _ | exact (Hs.app _).trans (Hs.tl _) | exact (Hs.app _).trans ((Hs.app _).trans (Hs.tl _))) ⟨?_, rfl⟩)
  unfold ruleE; first | (rw [show mayRl r = false from hc1]; rfl) | (rw [show mayRl r = true from hc1, all_of_get (inB (givenL r)) _ i y hy hc6]; rfl) | (rw [show mayRl r = true from hc1, all_of_take (inB (givenL r)) _ i (by omega) h0]; rfl)
 ·try simp only [dcQ] at hc1
  refine GW.skip ?_
  refine GW.seq ?_
  refine GW.region ?_
  refine R.assign ⟨rfl, rfl, rfl, rfl⟩ rfl ?_
  refine GOps.nil ?_
  refine GW.seq ?_
  refine GW.seq ?_
  refine GW.region ?_
  refine R.assign ⟨rfl, rfl, rfl, rfl⟩ rfl ?_
  refine GOps.nil ?_
  refine GW.block ?_
  refine GW.loop4 (fun (i : Nat) (vg : Value) (Hg : Hp) (u1 : Unit) => [(1, .pointer (some ⟨b1, 0, none⟩)), (3, vg), (4, .int .i64 i)]) (fun (i : Nat) (vg : Value) (Hg : Hp) (u1 : Unit) => Hg ++ (b1, .exact (.cells (RlC r.head (.slice A r.body.length c)).toArray 31 (0, 0))) :: G) (fun i : Nat => r.body.length - i) (fun (i : Nat) (vg : Value) (Hg : Hp) (u1 : Unit) => i ≤ r.body.length ∧ SlAt 1 9 ((givenTake r i).map Value.string) (givenTake r i).length vg Hg) 0 (.slice none 0 0) ([]) (())
   (by repeat (first | exact Keeps.nil _ | refine Keeps.cons rfl ?_)) (Hs.refl _) (⟨by omega, .nil rfl rfl⟩) ?_
  rintro i vg Hg u1 ⟨hi, hS⟩
  refine GW.seq ?_
  refine GW.seq ?_
  refine GW.region ?_
  refine R.move ⟨rfl, rfl, rfl, rfl⟩ rfl ?_
  refine R.fieldAddr ⟨rfl, rfl, rfl, rfl⟩ rfl Tryz.underlying31 rfl Tryz.sizeOf29 ?_   -- "Body"
  refine R.load1 ⟨rfl, rfl, rfl, rfl⟩ rfl Tryz.underlying29 rfl (.own' memG (by rfl)) ?_
  refine R.lenS ⟨rfl, rfl, rfl, rfl⟩ rfl rfl Tryz.underlying29 ?_
  refine R.lss ⟨rfl, rfl, rfl, rfl⟩ rfl rfl ?_
  refine GOps.nil ?_
  refine GW.ite rfl (fun hc2 => ?_) (fun hc2 => ?_)
  ·try simp only [dcQ] at hc2
   obtain ⟨x, hx⟩ : ∃ x, r.body[i]? = some x := ⟨_, List.getElem?_eq_getElem (by omega)⟩
   obtain ⟨bb, oo, cs, rfl, rfl, hrd⟩ := hl i x hx
   refine GW.skip ?_
   refine GW.seq ?_
   refine GW.block ?_
   refine GW.seq ?_
   refine GW.seq ?_
   refine GW.region ?_
   refine R.fieldAddr ⟨rfl, rfl, rfl, rfl⟩ rfl Tryz.underlying31 rfl Tryz.sizeOf29 ?_   -- "Body"
   refine R.load1 ⟨rfl, rfl, rfl, rfl⟩ rfl Tryz.underlying29 rfl (.own' memG (by rfl)) ?_
   refine R.move ⟨rfl, rfl, rfl, rfl⟩ rfl ?_
   refine R.indexAddrS ⟨rfl, rfl, rfl, rfl⟩ rfl rfl Tryz.underlying29 Tryz.sizeOf89 (by omega) (by omega) ?_
   refine R.fieldAddr ⟨rfl, rfl, rfl, rfl⟩ rfl Tryz.underlying89 rfl Tryz.sizeOf87 ?_   -- "Kind"
   refine R.load1 ⟨rfl, rfl, rfl, rfl⟩ rfl Tryz.underlying87 rfl (Rd.mono (sub_app _) (Rd.mono (sub_cons _) (hrd 0 _ rfl))) ?_
   refine R.neI ⟨rfl, rfl, rfl, rfl⟩ rfl rfl ?_
   refine GOps.nil ?_
   refine GW.ite rfl (fun hc3 => ?_) (fun hc3 => ?_)
   ·try simp only [dcQ] at hc3
    refine GW.exit ?_
    refine GW.region ?_
    refine R.move ⟨rfl, rfl, rfl, rfl⟩ rfl ?_
    refine R.add (r := (((i + 1) : Nat) : Int)) ⟨rfl, rfl, rfl, rfl⟩ rfl rfl (by rw [wrap64_id (by omega) (by omega)]; omega) ?_
    refine R.assign ⟨rfl, rfl, rfl, rfl⟩ rfl ?_
    refine GOps.nil ?_
    exact ⟨i + 1, _, _, (), by omega, by first | exact ⟨by omega, by rw [givenTake_succ hx, givenOf, if_neg (by assumption), List.append_nil]; exact hS⟩ | exact ⟨by omega, giv_step hx (by omega) (by omega) hK⟩, rfl, by repeat (first | exact Keeps.nil _ | refine Keeps.cons rfl ?_), by first | exact Hs.refl _ | exact Hs.tl _ | exact Hs.tl2 _ _⟩
   ·try simp only [dcQ] at hc3
    refine GW.skip ?_
    refine GW.seq ?_
    refine GW.region ?_
    refine R.assign ⟨rfl, rfl, rfl, rfl⟩ rfl ?_
    refine GOps.nil ?_
    refine GW.block ?_
    refine GW.loop4 (fun (k : Nat) (vk : Value) (Hk : Hp) (u1 : Unit) => [(1, .pointer (some ⟨b1, 0, none⟩)), (3, vk), (4, .int .i64 i), (5, .int .i64 k)]) (fun (k : Nat) (vk : Value) (Hk : Hp) (u1 : Unit) => Hk ++ (b1, .exact (.cells (RlC r.head (.slice (some ⟨bb, oo, none⟩) r.body.length c)).toArray 31 (0, 0))) :: G) (fun k : Nat => 3 - k) (fun (k : Nat) (vk : Value) (Hk : Hp) (u1 : Unit) => k ≤ 3 ∧ SlAt 1 9 ((givenTake r i ++ (patL x).take k).map Value.string) (givenTake r i ++ (patL x).take k).length vk Hk) 0 (vg) (Hg) (())
     (by repeat (first | exact Keeps.nil _ | refine Keeps.cons rfl ?_)) (Hs.refl _) (⟨by omega, by simpa using hS⟩) ?_
    rintro k vk Hk u1 ⟨hk, hK⟩
    refine GW.seq ?_
    refine GW.seq ?_
    refine GW.region ?_
    refine R.move ⟨rfl, rfl, rfl, rfl⟩ rfl ?_
    refine R.lss ⟨rfl, rfl, rfl, rfl⟩ rfl rfl ?_
    refine GOps.nil ?_
    refine GW.ite rfl (fun hc4 => ?_) (fun hc4 => ?_)
    ·try simp only [dcQ] at hc4
     obtain ⟨s, hsp, hsc⟩ := patL_get (x := x) (k := k) (by omega)
     have hgl := givenTake_len r i
     have hpl : ((patL x).take k).length ≤ 3 := by rw [List.length_take]; simp [patL]; omega
     have hal : (givenTake r i ++ (patL x).take k).length ≤ 3 * i + 3 := by rw [List.length_append]; omega
     refine GW.skip ?_
     refine GW.seq ?_
     refine GW.block ?_
     refine GW.region ?_
     refine R.move ⟨rfl, rfl, rfl, rfl⟩ rfl ?_
     refine R.fieldAddr ⟨rfl, rfl, rfl, rfl⟩ rfl Tryz.underlying31 rfl Tryz.sizeOf29 ?_   -- "Body"
     refine R.load1 ⟨rfl, rfl, rfl, rfl⟩ rfl Tryz.underlying29 rfl (.own' memG (by rfl)) ?_
     refine R.move ⟨rfl, rfl, rfl, rfl⟩ rfl ?_
     refine R.move ⟨rfl, rfl, rfl, rfl⟩ rfl ?_
     refine R.indexAddrS ⟨rfl, rfl, rfl, rfl⟩ rfl rfl Tryz.underlying29 Tryz.sizeOf89 (by omega) (by omega) ?_
     refine R.fieldAddr ⟨rfl, rfl, rfl, rfl⟩ rfl Tryz.underlying89 rfl Tryz.sizeOf28 ?_   -- "Pattern"
     refine R.indexAddrA ⟨rfl, rfl, rfl, rfl⟩ rfl rfl Tryz.underlying28 Tryz.sizeOf26 (by omega) (by omega) ?_
     refine R.fieldAddr ⟨rfl, rfl, rfl, rfl⟩ rfl Tryz.underlying26 rfl Tryz.sizeOf9 ?_   -- "Var"
     refine R.load1 ⟨rfl, rfl, rfl, rfl⟩ rfl Tryz.underlying9 rfl (Rd.mono (sub_app _) (Rd.mono (sub_cons _) (pat_cell hrd hsc))) ?_
     refine R.buildSliceF (sz := 1) (bytes := 16) (vs := [_]) (cs := [_]) ⟨rfl, rfl, rfl, rfl⟩ rfl Tryz.underlying61 (InfoE.mk (by kernel_rfl)) rfl rfl rfl rfl rfl fun b39 => ?_
     refine R.append (sz := 1) (bytes := 16) (G1 := [_]) (H := Hk) (news := [.string s]) ⟨rfl, rfl, rfl, rfl⟩ rfl rfl rfl Tryz.underlying61 (InfoE.mk (by kernel_rfl)) (hK) (rfl) (rfl) (.own memG 0 _ (fun j v hv => by simpa using hv)) (by omega) (by rfl) (by omega) (by omega) fun v40 H40 hv40 => ?_
     refine R.assign ⟨rfl, rfl, rfl, rfl⟩ rfl ?_
     refine GOps.nil ?_
     refine GW.region ?_
     refine R.move ⟨rfl, rfl, rfl, rfl⟩ rfl ?_
     refine R.add (r := (((k + 1) : Nat) : Int)) ⟨rfl, rfl, rfl, rfl⟩ rfl rfl (by rw [wrap64_id (by omega) (by omega)]; omega) ?_
     refine R.assign ⟨rfl, rfl, rfl, rfl⟩ rfl ?_
     refine GOps.nil ?_
     exact ⟨k + 1, _, _, (), by omega, ⟨by omega, by rw [List.take_add_one, hsp, ← List.append_assoc]; exact hv40.snoc⟩, rfl, by repeat (first | exact Keeps.nil _ | refine Keeps.cons rfl ?_), by first | exact Hs.refl _ | exact Hs.tl _ | exact Hs.tl2 _ _⟩
    ·try simp only [dcQ] at hc4
     refine GW.exit ?_
     refine GW.region ?_
     refine R.move ⟨rfl, rfl, rfl, rfl⟩ rfl ?_
     refine R.add (r := (((i + 1) : Nat) : Int)) ⟨rfl, rfl, rfl, rfl⟩ rfl rfl (by rw [wrap64_id (by omega) (by omega)]; omega) ?_
     refine R.assign ⟨rfl, rfl, rfl, rfl⟩ rfl ?_
     refine GOps.nil ?_
     exact ⟨i + 1, _, _, (), by omega, by first | exact ⟨by omega, by rw [givenTake_succ hx, givenOf, if_neg (by assumption), List.append_nil]; exact hS⟩ | exact ⟨by omega, giv_step hx (by omega) (by omega) hK⟩, rfl, by repeat (first | exact Keeps.nil _ | refine Keeps.cons rfl ?_), by first | exact Hs.refl _ | exact Hs.tl _ | exact Hs.tl2 _ _⟩
  ·try simp only [dcQ] at hc2
   obtain rfl : r.body.length = i := by omega
   obtain ⟨Ag, cg, rfl, hGt0⟩ := hS.strs w0 ((b1, .exact (.cells (RlC r.head (.slice A r.body.length c)).toArray 31 (0, 0))) :: G)
   refine GW.exit ?_
   refine GW.seq ?_
   refine GW.region ?_
   refine R.load_own (cs := RlC r.head (.slice A r.body.length c)) ⟨rfl, rfl, rfl, rfl⟩ rfl Tryz.underlying31 rfl Tryz.sizeOf31 memG (by rfl) (by rfl) ?_
   refine R.call ⟨rfl, rfl, rfl, rfl⟩ rfl (vs := [_]) rfl ((ref_Vars _ _ r A c ((hl.mono (sub_cons _)).mono (sub_app _)) hm).mono ?_)
   rintro vv _ ⟨Hv, hV, rfl⟩
   have hvl : (dd (allSlots r)).length ≤ 3 + 3 * r.body.length := by have h1 := dd_len (allSlots r); have h2 := allTake_len r r.body.length; have h3 : (allSlots r).length = (allTake r r.body.length).length := rfl; omega
   obtain ⟨Av, cv, rfl, hVt⟩ := hV.strs w0 (Hg ++ (b1, .exact (.cells (RlC r.head (.slice A r.body.length c)).toArray 31 (0, 0))) :: G)
   refine R.assign ⟨rfl, rfl, rfl, rfl⟩ rfl ?_
   refine GOps.nil ?_
   refine GW.seq ?_
   refine GW.seq ?_
   refine GW.region ?_
   refine R.assign ⟨rfl, rfl, rfl, rfl⟩ rfl ?_
   refine GOps.nil ?_
   refine GW.block ?_
   refine GW.loopI (fun i : Nat => [(3, .slice Ag (givenTake r r.body.length).length cg), (6, .slice Av (dd (allSlots r)).length cv), (7, .int .i64 i)]) (fun i => Hv ++ (Hg ++ (b1, .exact (.cells (RlC r.head (.slice A r.body.length c)).toArray 31 (0, 0))) :: G)) (fun i => (dd (allSlots r)).length - i) (fun i => i ≤ (dd (allSlots r)).length ∧ ((dd (allSlots r)).take i).all (inB (givenL r)) = true) 0
    (by repeat (first | exact Keeps.nil _ | refine Keeps.cons rfl ?_)) (Hs.refl _) (⟨by omega, by simp⟩) ?_
   rintro i ⟨hi, h0⟩
   refine GW.seq ?_
   refine GW.seq ?_
   refine GW.region ?_
   refine R.move ⟨rfl, rfl, rfl, rfl⟩ rfl ?_
   refine R.move ⟨rfl, rfl, rfl, rfl⟩ rfl ?_
   refine R.lenS ⟨rfl, rfl, rfl, rfl⟩ rfl rfl Tryz.underlying61 ?_
   refine R.lss ⟨rfl, rfl, rfl, rfl⟩ rfl rfl ?_
   refine GOps.nil ?_
   refine GW.ite rfl (fun hc5 => ?_) (fun hc5 => ?_)
   ·try simp only [dcQ] at hc5
    have hGt : StAt w0 (Hv ++ (Hg ++ (b1, .exact (.cells (RlC r.head (.slice A r.body.length c)).toArray 31 (0, 0))) :: G)) Ag (givenTake r r.body.length) := RowAt.mono (sub_app _) (fun _ _ h => h) hGt0
    obtain ⟨y, hy⟩ : ∃ y, (dd (allSlots r))[i]? = some y := ⟨_, List.getElem?_eq_getElem (by omega)⟩
    obtain ⟨bv, ov, csv, rfl, rfl, hvd⟩ := hVt i y hy
    refine GW.skip ?_
    refine GW.seq ?_
    refine GW.block ?_
    refine GW.seq ?_
    refine GW.region ?_
    refine R.move ⟨rfl, rfl, rfl, rfl⟩ rfl ?_
    refine R.move ⟨rfl, rfl, rfl, rfl⟩ rfl ?_
    refine R.move ⟨rfl, rfl, rfl, rfl⟩ rfl ?_
    refine R.indexAddrS ⟨rfl, rfl, rfl, rfl⟩ rfl rfl Tryz.underlying61 Tryz.sizeOf9 (by omega) (by omega) ?_
    refine R.load1 ⟨rfl, rfl, rfl, rfl⟩ rfl Tryz.underlying9 rfl (hvd 0 _ rfl) ?_
    refine R.call ⟨rfl, rfl, rfl, rfl⟩ rfl (vs := [_, _]) rfl ((ref_In _ _ Ag (givenTake r r.body.length) cg y hGt (by have := givenTake_len r r.body.length; omega)).mono ?_)
    rintro _ _ ⟨rfl, rfl⟩
    refine R.not ⟨rfl, rfl, rfl, rfl⟩ rfl ?_
    refine GOps.nil ?_
    refine GW.ite rfl (fun hc6 => ?_) (fun hc6 => ?_)
    ·try simp only [dcQ] at hc6
     refine GW.seq ?_
     refine GW.region ?_
     refine R.assign ⟨rfl, rfl, rfl, rfl⟩ rfl ?_
     refine GOps.nil ?_
     refine GW.ret (Out.of (Res.one rfl rfl) (by first | exact Hs.refl _ | exact Hs.tl _ | exact Hs.tl2 _ _ | exact Hs.tl3 _ _ _ | exact (Hs.app _).trans (Hs.tl _) | exact (Hs.app _).trans ((Hs.app _).trans (Hs.tl _))) ⟨?_, rfl⟩)
     unfold ruleE; first | (rw [show mayRl r = false from hc1]; rfl) | (rw [show mayRl r = true from hc1, all_of_get (inB (givenL r)) _ i y hy hc6]; rfl) | (rw [show mayRl r = true from hc1, all_of_take (inB (givenL r)) _ i (by omega) h0]; rfl)
    ·try simp only [dcQ] at hc6
     refine GW.skip ?_
     refine GW.region ?_
     refine R.move ⟨rfl, rfl, rfl, rfl⟩ rfl ?_
     refine R.add (r := (((i + 1) : Nat) : Int)) ⟨rfl, rfl, rfl, rfl⟩ rfl rfl (by rw [wrap64_id (by omega) (by omega)]; omega) ?_
     refine R.assign ⟨rfl, rfl, rfl, rfl⟩ rfl ?_
     refine GOps.nil ?_
     exact ⟨i + 1, by omega, ⟨by omega, all_take_succ _ _ i y hy h0 hc6⟩, rfl, by repeat (first | exact Keeps.nil _ | refine Keeps.cons rfl ?_), by first | exact Hs.refl _ | exact Hs.tl _ | exact Hs.tl2 _ _⟩
   ·try simp only [dcQ] at hc5
    refine GW.exit ?_
    refine GW.seq ?_
    refine GW.region ?_
    refine R.assign ⟨rfl, rfl, rfl, rfl⟩ rfl ?_
    refine GOps.nil ?_
    refine GW.ret (Out.of (Res.one rfl rfl) (by first | exact Hs.refl _ | exact Hs.tl _ | exact Hs.tl2 _ _ | exact Hs.tl3 _ _ _ | exact (Hs.app _).trans (Hs.tl _) | exact (Hs.app _).trans ((Hs.app _).trans (Hs.tl _))) ⟨?_, rfl⟩)
    unfold ruleE; first | (rw [show mayRl r = false from hc1]; rfl) | (rw [show mayRl r = true from hc1, all_of_get (inB (givenL r)) _ i y hy hc6]; rfl) | (rw [show mayRl r = true from hc1, all_of_take (inB (givenL r)) _ i (by omega) h0]; rfl)
end Go.Proofs.YtfddkcmooommeaaGreatDoor.Gl
end
section
namespace Go.Proofs.YtfddkcmooommeaaGreatDoor.Gl
open Go.RowKit Go.Shelf
set_option linter.unusedVariables false
set_option linter.unnecessarySimpa false
set_option linter.unusedSimpArgs false
attribute [-simp] List.getD_eq_getElem?_getD
end Go.Proofs.YtfddkcmooommeaaGreatDoor.Gl
end
section
namespace Go.Proofs.YtfddkcmooommeaaGreatDoor.Gl
open Go.RowKit Go.Shelf
set_option linter.unusedVariables false
set_option linter.unnecessarySimpa false
set_option linter.unusedSimpArgs false
attribute [-simp] List.getD_eq_getElem?_getD
def hdL (r : Rl) : List (Int × Sl) := [(-1, r.head.s0), (-1, r.head.s1), (-1, r.head.s2)]
def plFrom (i : Nat) : List Lt → List (Int × Sl)
 | [] => []
 | l :: ls => (slotsOf l).map (fun s => ((i : Int), s)) ++ plFrom (i + 1) ls
def placesL (r : Rl) : List (Int × Sl) := hdL r ++ plFrom 0 r.body
def offs (r : Rl) (i : Nat) : Nat := 3 + ((r.body.take i).flatMap slotsOf).length
theorem offs_succ {r : Rl} {i : Nat} {x : Lt} (h : r.body[i]? = some x) : offs r (i + 1) = offs r i + (slotsOf x).length := by
 unfold offs
 rw [List.take_add_one, h]
 simp
 omega
theorem plFrom_get : ∀ (ls : List Lt) (n i k : Nat) (x : Lt) (s : Sl), ls[i]? = some x → (slotsOf x)[k]? = some s → (plFrom n ls)[((ls.take i).flatMap slotsOf).length + k]? = some (((n + i : Nat) : Int), s)
 | [], n, i, k, x, s, h, _ => by simp at h
 | l :: ls, n, 0, k, x, s, h, hk => by
  simp at h
  subst h
  have hlt : k < (slotsOf l).length := (List.getElem?_eq_some_iff.1 hk).1
  simp only [List.take_zero, List.flatMap_nil, List.length_nil, Nat.zero_add, plFrom, Nat.add_zero]
  rw [List.getElem?_append_left (by simpa using hlt), List.getElem?_map, hk]
  rfl
 | l :: ls, n, i + 1, k, x, s, h, hk => by
  have ih := plFrom_get ls (n + 1) i k x s (by simpa using h) hk
  simp only [List.take_succ_cons, List.flatMap_cons, List.length_append, plFrom]
  rw [List.getElem?_append_right (by simp; omega)]
  have e : (slotsOf l).length + ((ls.take i).flatMap slotsOf).length + k - ((slotsOf l).map (fun s => ((n : Int), s))).length = ((ls.take i).flatMap slotsOf).length + k := by simp; omega
  rw [e, ih, show n + 1 + i = n + (i + 1) by omega]
theorem places_body {r : Rl} {i k : Nat} {x : Lt} {s : Sl} (hx : r.body[i]? = some x) (hs : (slotsOf x)[k]? = some s) : (placesL r)[offs r i + k]? = some ((i : Int), s) := by
 have := plFrom_get r.body 0 i k x s hx hs
 unfold placesL offs
 rw [List.getElem?_append_right (by simp [hdL]; omega), show 3 + ((r.body.take i).flatMap slotsOf).length + k - (hdL r).length = ((r.body.take i).flatMap slotsOf).length + k by simp [hdL]; omega, this]
 simp
theorem places_head {r : Rl} {k : Nat} (hk : k < 3) : ∃ s, (placesL r)[k]? = some (-1, s) ∧ (PtC r.head).toArray.extract (k * 4) (k * 4 + 4) = (SlC s).toArray := by
 rcases (by omega : k = 0 ∨ k = 1 ∨ k = 2) with rfl | rfl | rfl
 ·exact ⟨_, rfl, rfl⟩
 ·exact ⟨_, rfl, rfl⟩
 ·exact ⟨_, rfl, rfl⟩
theorem places_len (r : Rl) : (placesL r).length = offs r r.body.length := by
 have h : ∀ (ls : List Lt) (n : Nat), (plFrom n ls).length = (ls.flatMap slotsOf).length := by
  intro ls
  induction ls with
  | nil => intro n; rfl
  | cons l ls ih => intro n; simp [plFrom, ih]
 unfold placesL offs
 rw [List.length_append, h, List.take_length]
 rfl
theorem lit_pat {x : Lt} {k : Nat} (hk : k < 3) (h : x.kind = 1 ∨ x.kind = 2) : ∃ s, (slotsOf x)[k]? = some s ∧ ∀ j v, (SlC s)[j]? = some v → (LtC x)[1 + k * 4 + j]? = some v := by
 rw [slotsOf_t h]
 have hj : ∀ (s : Sl) (j : Nat) (v : Value), (SlC s)[j]? = some v → j < 4 := fun s j v h => (List.getElem?_eq_some_iff.1 h).1
 rcases (by omega : k = 0 ∨ k = 1 ∨ k = 2) with rfl | rfl | rfl
 all_goals
  refine ⟨_, rfl, fun j v hv => ?_⟩
  have := hj _ j v hv
  rcases (by omega : j = 0 ∨ j = 1 ∨ j = 2 ∨ j = 3) with rfl | rfl | rfl | rfl <;> exact hv
theorem lit_ab {x : Lt} {k : Nat} (hk : k < 2) (h : ¬ x.kind = 1) (h2 : ¬ x.kind = 2) : ∃ s, (slotsOf x)[k]? = some s ∧ ∀ j v, (SlC s)[j]? = some v → (SlC x.a ++ SlC x.b)[k * 4 + j]? = some v := by
 rw [slotsOf_f h h2]
 have hj : ∀ (s : Sl) (j : Nat) (v : Value), (SlC s)[j]? = some v → j < 4 := fun s j v h => (List.getElem?_eq_some_iff.1 h).1
 rcases (by omega : k = 0 ∨ k = 1) with rfl | rfl
 all_goals
  refine ⟨_, rfl, fun j v hv => ?_⟩
  have := hj _ j v hv
  rcases (by omega : j = 0 ∨ j = 1 ∨ j = 2 ∨ j = 3) with rfl | rfl | rfl | rfl <;> exact hv
def Ext (F F' : Hp) : Prop := (∀ y ∈ F, y ∈ F') ∧ ∀ L : Hp, Hs (L ++ F') (L ++ F)
theorem Ext.refl (F : Hp) : Ext F F := ⟨fun _ h => h, fun _ => Hs.refl _⟩
theorem Ext.cons {F F' : Hp} (h : Ext F F') (x : Nat × Know) : Ext F (x :: F') := ⟨fun y hy => List.mem_cons_of_mem _ (h.1 y hy), fun L => (Hs.sub (List.Sublist.append (List.Sublist.refl _) (List.sublist_cons_self x F'))).trans (h.2 L)⟩
theorem cast1 {σ : Type} {I : Nat → σ → Prop} {a b : Nat} {x : σ} (h : I a x) (e : a = b) : I b x := e ▸ h
theorem rl_head {w0 : World} {G : Hp} {b o : Nat} {p : Pt} {v : Value} (h : Rds w0 G b o (RlC p v)) : Rds w0 G b o (PtC p) := fun j u hu => h j u (by
 have e : RlC p v = PtC p ++ [v] := rfl
 rw [e, List.getElem?_append_left (List.getElem?_eq_some_iff.1 hu).1]
 exact hu)
theorem Hs.midL (L : Hp) (x : Nat × Know) (F : Hp) : Hs (x :: (L ++ F)) (L ++ (x :: F)) := Hs.perm List.perm_middle
theorem own_slot {w0 : World} {G : Hp} {b o k : Nat} {C : List Value} {e : TypeId} {z : Nat × Nat} {s : Sl} (hm : (b, Know.exact (.cells C.toArray e z)) ∈ G) (h : ∀ j v, (SlC s)[j]? = some v → C[o + k * 4 + j]? = some v) : Rds w0 G b (o + (k : Int).toNat * 4) (SlC s) :=
 .own hm _ _ (fun j v hv => by simpa using h j v hv)
theorem check_places (w0 : World) (G : Hp) (r : Rl) (A : Option Addr) (c : Nat) : GC Tryz.prog w0 53 #[.agg (RlC r.head (.slice A r.body.length c)).toArray] (fun v G' => ∃ b, v = .func (.func 85) #[] #[.pointer (some ⟨b, 0, none⟩)] ∧ (b, .exact (.cells (RlC r.head (.slice A r.body.length c)).toArray 31 (0, 0))) :: G = G') G := by
 refine GC.body (args := [.agg (RlC r.head (.slice A r.body.length c)).toArray]) Tryz.func53 rfl (by kernel_rfl) rfl ?_
 refine GW.seq ?_
 refine GW.region ?_
 refine R.box ⟨rfl, rfl, rfl, rfl⟩ rfl fun b1 => ?_
 refine R.assign ⟨rfl, rfl, rfl, rfl⟩ rfl ?_
 refine GOps.nil ?_
 refine GW.seq ?_
 refine GW.region ?_
 refine R.makeFunc (vs := []) (us := [_]) ⟨rfl, rfl, rfl, rfl⟩ rfl rfl ?_
 refine R.assign ⟨rfl, rfl, rfl, rfl⟩ rfl ?_
 refine GOps.nil ?_
 exact GW.ret (Out.of (Res.one rfl rfl) (Hs.refl _) ⟨_, rfl, rfl⟩)
theorem places1 {σ : Type} (w0 : World) (l bR : Nat) (r : Rl) (A : Option Addr) (c : Nat) (L : σ → Hp) (I : Nat → σ → Prop) (S : Hp → Prop) (F : Hp) (x0 : σ) (hm : r.body.length ≤ 1048576)
  (hR : ∀ x, Rds w0 (L x) bR 0 (RlC r.head (.slice A r.body.length c))) (hl : LtsAt w0 F A r.body) (h0 : I 0 x0)
  (hy : ∀ F' j x i s, Ext F F' → I j x → (placesL r)[j]? = some (i, s) → GY Tryz.prog w0 l [.int .i64 i, .agg (SlC s).toArray] (fun v G' => (v = .bool true ∧ ∃ x', I (j + 1) x' ∧ L x' ++ F' = G') ∨ (v = .bool false ∧ S G')) (L x ++ F')) :
  GC Tryz.prog w0 85 #[.func (.yield l) #[] #[], .pointer (some ⟨bR, 0, none⟩)] (fun v G' => (∃ x F', I (placesL r).length x ∧ Ext F F' ∧ L x ++ F' = G') ∨ S G') (L x0 ++ F) := by
 refine GC.body (args := [.func (.yield l) #[] #[], .pointer (some ⟨bR, 0, none⟩)]) Tryz.func85 rfl (by kernel_rfl) rfl ?_
 refine GW.seq ?_
 refine GW.seq ?_
 refine GW.region ?_
 refine R.fieldAddr ⟨rfl, rfl, rfl, rfl⟩ rfl Tryz.underlying31 rfl Tryz.sizeOf28 ?_   -- "Head"
 refine R.loadA ⟨rfl, rfl, rfl, rfl⟩ rfl Tryz.underlying28 rfl Tryz.sizeOf28 (rl_head (Rds.mono (fun y h => List.mem_append_left _ h) (hR x0))) (by rfl) ?_
 refine R.move ⟨rfl, rfl, rfl, rfl⟩ rfl ?_
 refine GOps.nil ?_
 refine GW.block ?_
 refine GW.loop4 (fun (k : Nat) (x : σ) (F' : Hp) (u1 : Unit) => [(0, .func (.yield l) #[] #[]), (1, .pointer (some ⟨bR, 0, none⟩)), (11, .agg (PtC r.head).toArray), (12, .int .i64 k)]) (fun (k : Nat) (x : σ) (F' : Hp) (u1 : Unit) => L x ++ F') (fun k : Nat => 3 - k) (fun (k : Nat) (x : σ) (F' : Hp) (u1 : Unit) => k ≤ 3 ∧ I k x ∧ Ext F F') 0 (x0) (F) (())
  (by repeat (first | exact Keeps.nil _ | refine Keeps.cons rfl ?_)) (Hs.refl _) (⟨by omega, h0, Ext.refl F⟩) ?_
 rintro k x F' u1 ⟨hk, hI, hF⟩
 refine GW.seq ?_
 refine GW.region ?_
 refine R.lss ⟨rfl, rfl, rfl, rfl⟩ rfl rfl ?_
 refine GOps.nil ?_
 refine GW.seq ?_
 refine GW.ite rfl (fun hc1 => ?_) (fun hc1 => ?_)
 ·try simp only [dcQ] at hc1
  obtain ⟨s, hs, hse⟩ := places_head (r := r) (k := k) (by omega)
  refine GW.skip ?_
  refine GW.seq ?_
  refine GW.block ?_
  refine GW.seq ?_
  refine GW.region ?_
  refine R.indexArr (es := (SlC s).toArray) ⟨rfl, rfl, rfl, rfl⟩ rfl rfl Tryz.underlying28 Tryz.underlying26 rfl Tryz.sizeOf26 (by omega) (by omega) (hse) ?_
  refine R.alloc ⟨rfl, rfl, rfl, rfl⟩ Tryz.zeroValue26 fun b4 => ?_
  refine R.storeAll (G1 := []) rfl rfl rfl rfl rfl Tryz.sizeOf26 rfl rfl rfl rfl ?_
  refine GOps.nil ?_
  refine GW.seq ?_
  refine GW.region ?_
  refine R.move ⟨rfl, rfl, rfl, rfl⟩ rfl ?_
  refine R.load_own (cs := SlC s) ⟨rfl, rfl, rfl, rfl⟩ rfl Tryz.underlying26 rfl Tryz.sizeOf26 memG (by rfl) (by rfl) ?_
  refine R.yield ⟨rfl, rfl, rfl, rfl⟩ rfl (vs := [_, _]) rfl ((GY.weak (Hs.tl _) (hy F' k x (-1) s hF hI hs)).mono ?_)
  rintro v G2 (⟨rfl, x', hI', rfl⟩ | ⟨rfl, hS⟩)
  ·refine R.not ⟨rfl, rfl, rfl, rfl⟩ rfl ?_
   refine GOps.nil ?_
   refine GW.cond_f rfl ?_
   refine GW.skip ?_
   refine GW.region ?_
   refine R.add (r := (((k + 1) : Nat) : Int)) ⟨rfl, rfl, rfl, rfl⟩ rfl rfl (by rw [wrap64_id (by omega) (by omega)]; omega) ?_
   refine R.move ⟨rfl, rfl, rfl, rfl⟩ rfl ?_
   refine GOps.nil ?_
   exact ⟨k + 1, x', F', (), by omega, ⟨by omega, hI', hF⟩, rfl, by repeat (first | exact Keeps.nil _ | refine Keeps.cons rfl ?_), by first | exact Hs.refl _ | exact Hs.tl _ | exact Hs.tl2 _ _⟩
  ·refine R.not ⟨rfl, rfl, rfl, rfl⟩ rfl ?_
   refine GOps.nil ?_
   refine GW.cond_t rfl ?_
   exact GW.ret (Out.of (Res.none rfl) (Hs.refl _) (.inr hS))
 ·try simp only [dcQ] at hc1
  refine GW.exit ?_
  refine GW.seq ?_
  refine GW.region ?_
  refine R.fieldAddr ⟨rfl, rfl, rfl, rfl⟩ rfl Tryz.underlying31 rfl Tryz.sizeOf29 ?_   -- "Body"
  refine R.load1 ⟨rfl, rfl, rfl, rfl⟩ rfl Tryz.underlying29 rfl (Rd.mono (fun y h => List.mem_append_left _ h) ((hR x) 12 _ rfl)) ?_
  refine R.lenS ⟨rfl, rfl, rfl, rfl⟩ rfl rfl Tryz.underlying29 ?_
  refine R.move ⟨rfl, rfl, rfl, rfl⟩ rfl ?_
  refine GOps.nil ?_
  refine GW.block ?_
  refine GW.loop4 (fun (i : Nat) (x : σ) (F' : Hp) (u1 : Unit) => [(0, .func (.yield l) #[] #[]), (21, .slice A r.body.length c), (22, .int .i64 r.body.length), (23, .int .i64 i)]) (fun (i : Nat) (x : σ) (F' : Hp) (u1 : Unit) => L x ++ F') (fun i : Nat => r.body.length - i) (fun (i : Nat) (x : σ) (F' : Hp) (u1 : Unit) => i ≤ r.body.length ∧ I (offs r i) x ∧ Ext F F') 0 (x) (F') (())
   (by repeat (first | exact Keeps.nil _ | refine Keeps.cons rfl ?_)) (Hs.refl _) (⟨by omega, cast1 hI (by show k = 3; omega), hF⟩) ?_
  rintro i x F' u1 ⟨hi, hI, hF⟩
  refine GW.seq ?_
  refine GW.region ?_
  refine R.lss ⟨rfl, rfl, rfl, rfl⟩ rfl rfl ?_
  refine GOps.nil ?_
  refine GW.seq ?_
  refine GW.ite rfl (fun hc2 => ?_) (fun hc2 => ?_)
  ·try simp only [dcQ] at hc2
   obtain ⟨y, hyb⟩ : ∃ y, r.body[i]? = some y := ⟨_, List.getElem?_eq_getElem (by omega)⟩
   obtain ⟨bb, oo, cs, rfl, rfl, hrd⟩ := hl i y hyb
   refine GW.skip ?_
   refine GW.seq ?_
   refine GW.block ?_
   refine GW.seq ?_
   refine GW.region ?_
   refine R.move ⟨rfl, rfl, rfl, rfl⟩ rfl ?_
   refine R.indexAddrS ⟨rfl, rfl, rfl, rfl⟩ rfl rfl Tryz.underlying29 Tryz.sizeOf89 (by omega) (by omega) ?_
   refine R.loadA ⟨rfl, rfl, rfl, rfl⟩ rfl Tryz.underlying89 rfl Tryz.sizeOf89 (Rds.mono (fun z h => List.mem_append_right _ (hF.1 z h)) hrd) (by rfl) ?_
   refine R.alloc ⟨rfl, rfl, rfl, rfl⟩ Tryz.zeroValue89 fun b6 => ?_
   refine R.assign ⟨rfl, rfl, rfl, rfl⟩ rfl ?_
   refine R.storeAll (G1 := []) rfl rfl rfl rfl rfl Tryz.sizeOf89 rfl rfl rfl rfl ?_
   refine GOps.nil ?_
   refine GW.seq ?_
   refine GW.region ?_
   refine R.fieldAddr ⟨rfl, rfl, rfl, rfl⟩ rfl Tryz.underlying89 rfl Tryz.sizeOf28 ?_   -- "Pattern"
   refine R.sliceArr ⟨rfl, rfl, rfl, rfl⟩ rfl Tryz.underlying28 Tryz.sizeOf26 ?_
   refine R.assign ⟨rfl, rfl, rfl, rfl⟩ rfl ?_
   refine GOps.nil ?_
   refine GW.seq ?_
   refine GW.seq ?_
   refine GW.region ?_
   refine R.fieldAddr ⟨rfl, rfl, rfl, rfl⟩ rfl Tryz.underlying89 rfl Tryz.sizeOf87 ?_   -- "Kind"
   refine R.load1 ⟨rfl, rfl, rfl, rfl⟩ rfl Tryz.underlying87 rfl (.own' memG (by rfl)) ?_
   refine R.neI ⟨rfl, rfl, rfl, rfl⟩ rfl rfl ?_
   refine R.move ⟨rfl, rfl, rfl, rfl⟩ rfl ?_
   refine GOps.caseB 33 rfl (fun hg3 => ?_) (fun hg3 => ?_)
   ·try simp only [dcQ] at hg3
    refine R.fieldAddr ⟨rfl, rfl, rfl, rfl⟩ rfl Tryz.underlying89 rfl Tryz.sizeOf87 ?_   -- "Kind"
    refine R.load1 ⟨rfl, rfl, rfl, rfl⟩ rfl Tryz.underlying87 rfl (.own' memG (by rfl)) ?_
    refine R.neI ⟨rfl, rfl, rfl, rfl⟩ rfl rfl ?_
    refine R.pick_t ⟨rfl, rfl, rfl, rfl⟩ rfl rfl ?_
    refine GOps.nil ?_
    refine GW.ite rfl (fun hc4 => ?_) (fun hc4 => ?_)
    ·try simp only [dcQ] at hc4
     refine GW.region ?_
     refine R.fieldAddr ⟨rfl, rfl, rfl, rfl⟩ rfl Tryz.underlying89 rfl Tryz.sizeOf26 ?_   -- "A"
     refine R.load_own (cs := SlC y.a) ⟨rfl, rfl, rfl, rfl⟩ rfl Tryz.underlying26 rfl Tryz.sizeOf26 memG (by rfl) (by rfl) ?_
     refine R.fieldAddr ⟨rfl, rfl, rfl, rfl⟩ rfl Tryz.underlying89 rfl Tryz.sizeOf26 ?_   -- "B"
     refine R.load_own (cs := SlC y.b) ⟨rfl, rfl, rfl, rfl⟩ rfl Tryz.underlying26 rfl Tryz.sizeOf26 memG (by rfl) (by rfl) ?_
     refine R.buildSliceF (sz := 4) (bytes := 56) (vs := [_, _]) (cs := [_, _, _, _, _, _, _, _]) ⟨rfl, rfl, rfl, rfl⟩ rfl Tryz.underlying106 (InfoE.mk (by kernel_rfl)) rfl rfl rfl rfl rfl fun b42 => ?_
     refine R.assign ⟨rfl, rfl, rfl, rfl⟩ rfl ?_
     refine GOps.nil ?_
     refine GW.seq ?_
     refine GW.region ?_
     refine R.move ⟨rfl, rfl, rfl, rfl⟩ rfl ?_
     refine R.lenS ⟨rfl, rfl, rfl, rfl⟩ rfl rfl Tryz.underlying106 ?_
     refine R.move ⟨rfl, rfl, rfl, rfl⟩ rfl ?_
     refine GOps.nil ?_
     refine GW.block ?_
     refine GW.loop4 (fun (k : Nat) (x : σ) (F' : Hp) (u1 : Unit) => [(0, .func (.yield l) #[] #[]), (5, .int .i64 i), (21, .slice (some ⟨bb, oo, none⟩) r.body.length c), (22, .int .i64 r.body.length), (23, .int .i64 i), (43, .slice (some ⟨b42, 0, none⟩) 2 2), (44, .int .i64 2), (45, .int .i64 k)]) (fun (k : Nat) (x : σ) (F' : Hp) (u1 : Unit) => L x ++ F') (fun k : Nat => 2 - k) (fun (k : Nat) (x : σ) (F' : Hp) (u1 : Unit) => k ≤ 2 ∧ I (offs r i + k) x ∧ (b42, Know.exact (.cells (SlC y.a ++ SlC y.b).toArray 26 (0, 0))) ∈ F' ∧ Ext F F') 0 (x) ((b42, .exact (.cells (SlC y.a ++ SlC y.b).toArray 26 (0, 0))) :: F') (())
      (by repeat (first | exact Keeps.nil _ | refine Keeps.cons rfl ?_)) ((Hs.swapDrop _ _ _).trans (Hs.midL _ _ _)) (⟨by omega, hI, List.mem_cons_self, hF.cons _⟩) ?_
     rintro k x F' u1 ⟨hk, hI, hmem, hF⟩
     refine GW.seq ?_
     refine GW.region ?_
     refine R.lss ⟨rfl, rfl, rfl, rfl⟩ rfl rfl ?_
     refine GOps.nil ?_
     refine GW.seq ?_
     refine GW.ite rfl (fun hc5 => ?_) (fun hc5 => ?_)
     ·try simp only [dcQ] at hc5
      obtain ⟨s, hs, hsc⟩ := lit_ab (x := y) (k := k) (by omega) (by omega) (by omega)
      refine GW.skip ?_
      refine GW.seq ?_
      refine GW.block ?_
      refine GW.seq ?_
      refine GW.region ?_
      refine R.indexAddrS ⟨rfl, rfl, rfl, rfl⟩ rfl rfl Tryz.underlying106 Tryz.sizeOf26 (by omega) (by omega) ?_
      refine R.loadA ⟨rfl, rfl, rfl, rfl⟩ rfl Tryz.underlying26 rfl Tryz.sizeOf26 (by first | exact own_slot (o := 0) (List.mem_append_right _ hmem) (fun j v hv => by simpa using hsc j v hv) | exact own_slot (o := 1) (List.mem_append_right _ hmem) hsc) (by rfl) ?_
      refine R.alloc ⟨rfl, rfl, rfl, rfl⟩ Tryz.zeroValue26 fun b9 => ?_
      refine R.storeAll (G1 := []) rfl rfl rfl rfl rfl Tryz.sizeOf26 rfl rfl rfl rfl ?_
      refine GOps.nil ?_
      refine GW.seq ?_
      refine GW.region ?_
      refine R.move ⟨rfl, rfl, rfl, rfl⟩ rfl ?_
      refine R.move ⟨rfl, rfl, rfl, rfl⟩ rfl ?_
      refine R.load_own (cs := SlC s) ⟨rfl, rfl, rfl, rfl⟩ rfl Tryz.underlying26 rfl Tryz.sizeOf26 memG (by rfl) (by rfl) ?_
      refine R.yield ⟨rfl, rfl, rfl, rfl⟩ rfl (vs := [_, _]) rfl ((GY.weak (Hs.tl _) (hy F' (offs r i + k) x (i : Int) s hF hI (places_body hyb hs))).mono ?_)
      rintro v G2 (⟨rfl, x', hI', rfl⟩ | ⟨rfl, hS⟩)
      ·refine R.not ⟨rfl, rfl, rfl, rfl⟩ rfl ?_
       refine GOps.nil ?_
       refine GW.cond_f rfl ?_
       refine GW.skip ?_
       refine GW.region ?_
       refine R.add (r := (((k + 1) : Nat) : Int)) ⟨rfl, rfl, rfl, rfl⟩ rfl rfl (by rw [wrap64_id (by omega) (by omega)]; omega) ?_
       refine R.move ⟨rfl, rfl, rfl, rfl⟩ rfl ?_
       refine GOps.nil ?_
       exact ⟨k + 1, x', F', (), by omega, ⟨by omega, hI', hmem, hF⟩, rfl, by repeat (first | exact Keeps.nil _ | refine Keeps.cons rfl ?_), by first | exact Hs.refl _ | exact Hs.tl _ | exact Hs.tl2 _ _⟩
      ·refine R.not ⟨rfl, rfl, rfl, rfl⟩ rfl ?_
       refine GOps.nil ?_
       refine GW.cond_t rfl ?_
       exact GW.ret (Out.of (Res.none rfl) (Hs.refl _) (.inr hS))
     ·try simp only [dcQ] at hc5
      refine GW.exit ?_
      refine GW.region ?_
      refine R.add (r := (((i + 1) : Nat) : Int)) ⟨rfl, rfl, rfl, rfl⟩ rfl rfl (by rw [wrap64_id (by omega) (by omega)]; omega) ?_
      refine R.move ⟨rfl, rfl, rfl, rfl⟩ rfl ?_
      refine GOps.nil ?_
      exact ⟨i + 1, x, F', (), by omega, by first | exact ⟨by omega, cast1 hI (by rw [offs_succ hyb, slotsOf_f (by omega) (by omega)]; show offs r i + k = offs r i + 2; omega), hF⟩ | exact ⟨by omega, cast1 hI (by rw [offs_succ hyb, slotsOf_t (by omega)]; show offs r i + k = offs r i + 3; omega), hF⟩, rfl, by repeat (first | exact Keeps.nil _ | refine Keeps.cons rfl ?_), by first | exact Hs.refl _ | exact Hs.tl _ | exact Hs.tl2 _ _⟩
    ·try simp only [dcQ] at hc4
     refine GW.skip ?_
     refine GW.seq ?_
     refine GW.region ?_
     refine R.move ⟨rfl, rfl, rfl, rfl⟩ rfl ?_
     refine R.lenS ⟨rfl, rfl, rfl, rfl⟩ rfl rfl Tryz.underlying106 ?_
     refine R.move ⟨rfl, rfl, rfl, rfl⟩ rfl ?_
     refine GOps.nil ?_
     refine GW.block ?_
     refine GW.loop4 (fun (k : Nat) (x : σ) (F' : Hp) (u1 : Unit) => [(0, .func (.yield l) #[] #[]), (5, .int .i64 i), (21, .slice (some ⟨bb, oo, none⟩) r.body.length c), (22, .int .i64 r.body.length), (23, .int .i64 i), (43, .slice (some ⟨b6, 0 + 1, none⟩) 3 3), (44, .int .i64 3), (45, .int .i64 k)]) (fun (k : Nat) (x : σ) (F' : Hp) (u1 : Unit) => L x ++ F') (fun k : Nat => 3 - k) (fun (k : Nat) (x : σ) (F' : Hp) (u1 : Unit) => k ≤ 3 ∧ I (offs r i + k) x ∧ (b6, Know.exact (.cells (LtC y).toArray 89 (0, 0))) ∈ F' ∧ Ext F F') 0 (x) ((b6, .exact (.cells (LtC y).toArray 89 (0, 0))) :: F') (())
      (by repeat (first | exact Keeps.nil _ | refine Keeps.cons rfl ?_)) (Hs.midL _ _ _) (⟨by omega, hI, List.mem_cons_self, hF.cons _⟩) ?_
     rintro k x F' u1 ⟨hk, hI, hmem, hF⟩
     refine GW.seq ?_
     refine GW.region ?_
     refine R.lss ⟨rfl, rfl, rfl, rfl⟩ rfl rfl ?_
     refine GOps.nil ?_
     refine GW.seq ?_
     refine GW.ite rfl (fun hc6 => ?_) (fun hc6 => ?_)
     ·try simp only [dcQ] at hc6
      obtain ⟨s, hs, hsc⟩ := lit_pat (x := y) (k := k) (by omega) (by omega)
      refine GW.skip ?_
      refine GW.seq ?_
      refine GW.block ?_
      refine GW.seq ?_
      refine GW.region ?_
      refine R.indexAddrS ⟨rfl, rfl, rfl, rfl⟩ rfl rfl Tryz.underlying106 Tryz.sizeOf26 (by omega) (by omega) ?_
      refine R.loadA ⟨rfl, rfl, rfl, rfl⟩ rfl Tryz.underlying26 rfl Tryz.sizeOf26 (by first | exact own_slot (o := 0) (List.mem_append_right _ hmem) (fun j v hv => by simpa using hsc j v hv) | exact own_slot (o := 1) (List.mem_append_right _ hmem) hsc) (by rfl) ?_
      refine R.alloc ⟨rfl, rfl, rfl, rfl⟩ Tryz.zeroValue26 fun b9 => ?_
      refine R.storeAll (G1 := []) rfl rfl rfl rfl rfl Tryz.sizeOf26 rfl rfl rfl rfl ?_
      refine GOps.nil ?_
      refine GW.seq ?_
      refine GW.region ?_
      refine R.move ⟨rfl, rfl, rfl, rfl⟩ rfl ?_
      refine R.move ⟨rfl, rfl, rfl, rfl⟩ rfl ?_
      refine R.load_own (cs := SlC s) ⟨rfl, rfl, rfl, rfl⟩ rfl Tryz.underlying26 rfl Tryz.sizeOf26 memG (by rfl) (by rfl) ?_
      refine R.yield ⟨rfl, rfl, rfl, rfl⟩ rfl (vs := [_, _]) rfl ((GY.weak (Hs.tl _) (hy F' (offs r i + k) x (i : Int) s hF hI (places_body hyb hs))).mono ?_)
      rintro v G2 (⟨rfl, x', hI', rfl⟩ | ⟨rfl, hS⟩)
      ·refine R.not ⟨rfl, rfl, rfl, rfl⟩ rfl ?_
       refine GOps.nil ?_
       refine GW.cond_f rfl ?_
       refine GW.skip ?_
       refine GW.region ?_
       refine R.add (r := (((k + 1) : Nat) : Int)) ⟨rfl, rfl, rfl, rfl⟩ rfl rfl (by rw [wrap64_id (by omega) (by omega)]; omega) ?_
       refine R.move ⟨rfl, rfl, rfl, rfl⟩ rfl ?_
       refine GOps.nil ?_
       exact ⟨k + 1, x', F', (), by omega, ⟨by omega, hI', hmem, hF⟩, rfl, by repeat (first | exact Keeps.nil _ | refine Keeps.cons rfl ?_), by first | exact Hs.refl _ | exact Hs.tl _ | exact Hs.tl2 _ _⟩
      ·refine R.not ⟨rfl, rfl, rfl, rfl⟩ rfl ?_
       refine GOps.nil ?_
       refine GW.cond_t rfl ?_
       exact GW.ret (Out.of (Res.none rfl) (Hs.refl _) (.inr hS))
     ·try simp only [dcQ] at hc6
      refine GW.exit ?_
      refine GW.region ?_
      refine R.add (r := (((i + 1) : Nat) : Int)) ⟨rfl, rfl, rfl, rfl⟩ rfl rfl (by rw [wrap64_id (by omega) (by omega)]; omega) ?_
      refine R.move ⟨rfl, rfl, rfl, rfl⟩ rfl ?_
      refine GOps.nil ?_
      exact ⟨i + 1, x, F', (), by omega, by first | exact ⟨by omega, cast1 hI (by rw [offs_succ hyb, slotsOf_f (by omega) (by omega)]; show offs r i + k = offs r i + 2; omega), hF⟩ | exact ⟨by omega, cast1 hI (by rw [offs_succ hyb, slotsOf_t (by omega)]; show offs r i + k = offs r i + 3; omega), hF⟩, rfl, by repeat (first | exact Keeps.nil _ | refine Keeps.cons rfl ?_), by first | exact Hs.refl _ | exact Hs.tl _ | exact Hs.tl2 _ _⟩
   ·try simp only [dcQ] at hg3
    refine GOps.skip rfl rfl rfl ?_
    refine GOps.skip rfl rfl rfl ?_
    refine GOps.skip rfl rfl rfl ?_
    refine R.pick_f ⟨rfl, rfl, rfl, rfl⟩ rfl rfl ?_
    refine GOps.nil ?_
    refine GW.cond_f rfl ?_
    refine GW.skip ?_
    refine GW.seq ?_
    refine GW.region ?_
    refine R.move ⟨rfl, rfl, rfl, rfl⟩ rfl ?_
    refine R.lenS ⟨rfl, rfl, rfl, rfl⟩ rfl rfl Tryz.underlying106 ?_
    refine R.move ⟨rfl, rfl, rfl, rfl⟩ rfl ?_
    refine GOps.nil ?_
    refine GW.block ?_
    refine GW.loop4 (fun (k : Nat) (x : σ) (F' : Hp) (u1 : Unit) => [(0, .func (.yield l) #[] #[]), (5, .int .i64 i), (21, .slice (some ⟨bb, oo, none⟩) r.body.length c), (22, .int .i64 r.body.length), (23, .int .i64 i), (43, .slice (some ⟨b6, 0 + 1, none⟩) 3 3), (44, .int .i64 3), (45, .int .i64 k)]) (fun (k : Nat) (x : σ) (F' : Hp) (u1 : Unit) => L x ++ F') (fun k : Nat => 3 - k) (fun (k : Nat) (x : σ) (F' : Hp) (u1 : Unit) => k ≤ 3 ∧ I (offs r i + k) x ∧ (b6, Know.exact (.cells (LtC y).toArray 89 (0, 0))) ∈ F' ∧ Ext F F') 0 (x) ((b6, .exact (.cells (LtC y).toArray 89 (0, 0))) :: F') (())
     (by repeat (first | exact Keeps.nil _ | refine Keeps.cons rfl ?_)) (Hs.midL _ _ _) (⟨by omega, hI, List.mem_cons_self, hF.cons _⟩) ?_
    rintro k x F' u1 ⟨hk, hI, hmem, hF⟩
    refine GW.seq ?_
    refine GW.region ?_
    refine R.lss ⟨rfl, rfl, rfl, rfl⟩ rfl rfl ?_
    refine GOps.nil ?_
    refine GW.seq ?_
    refine GW.ite rfl (fun hc7 => ?_) (fun hc7 => ?_)
    ·try simp only [dcQ] at hc7
     obtain ⟨s, hs, hsc⟩ := lit_pat (x := y) (k := k) (by omega) (by omega)
     refine GW.skip ?_
     refine GW.seq ?_
     refine GW.block ?_
     refine GW.seq ?_
     refine GW.region ?_
     refine R.indexAddrS ⟨rfl, rfl, rfl, rfl⟩ rfl rfl Tryz.underlying106 Tryz.sizeOf26 (by omega) (by omega) ?_
     refine R.loadA ⟨rfl, rfl, rfl, rfl⟩ rfl Tryz.underlying26 rfl Tryz.sizeOf26 (by first | exact own_slot (o := 0) (List.mem_append_right _ hmem) (fun j v hv => by simpa using hsc j v hv) | exact own_slot (o := 1) (List.mem_append_right _ hmem) hsc) (by rfl) ?_
     refine R.alloc ⟨rfl, rfl, rfl, rfl⟩ Tryz.zeroValue26 fun b9 => ?_
     refine R.storeAll (G1 := []) rfl rfl rfl rfl rfl Tryz.sizeOf26 rfl rfl rfl rfl ?_
     refine GOps.nil ?_
     refine GW.seq ?_
     refine GW.region ?_
     refine R.move ⟨rfl, rfl, rfl, rfl⟩ rfl ?_
     refine R.move ⟨rfl, rfl, rfl, rfl⟩ rfl ?_
     refine R.load_own (cs := SlC s) ⟨rfl, rfl, rfl, rfl⟩ rfl Tryz.underlying26 rfl Tryz.sizeOf26 memG (by rfl) (by rfl) ?_
     refine R.yield ⟨rfl, rfl, rfl, rfl⟩ rfl (vs := [_, _]) rfl ((GY.weak (Hs.tl _) (hy F' (offs r i + k) x (i : Int) s hF hI (places_body hyb hs))).mono ?_)
     rintro v G2 (⟨rfl, x', hI', rfl⟩ | ⟨rfl, hS⟩)
     ·refine R.not ⟨rfl, rfl, rfl, rfl⟩ rfl ?_
      refine GOps.nil ?_
      refine GW.cond_f rfl ?_
      refine GW.skip ?_
      refine GW.region ?_
      refine R.add (r := (((k + 1) : Nat) : Int)) ⟨rfl, rfl, rfl, rfl⟩ rfl rfl (by rw [wrap64_id (by omega) (by omega)]; omega) ?_
      refine R.move ⟨rfl, rfl, rfl, rfl⟩ rfl ?_
      refine GOps.nil ?_
      exact ⟨k + 1, x', F', (), by omega, ⟨by omega, hI', hmem, hF⟩, rfl, by repeat (first | exact Keeps.nil _ | refine Keeps.cons rfl ?_), by first | exact Hs.refl _ | exact Hs.tl _ | exact Hs.tl2 _ _⟩
     ·refine R.not ⟨rfl, rfl, rfl, rfl⟩ rfl ?_
      refine GOps.nil ?_
      refine GW.cond_t rfl ?_
      exact GW.ret (Out.of (Res.none rfl) (Hs.refl _) (.inr hS))
    ·try simp only [dcQ] at hc7
     refine GW.exit ?_
     refine GW.region ?_
     refine R.add (r := (((i + 1) : Nat) : Int)) ⟨rfl, rfl, rfl, rfl⟩ rfl rfl (by rw [wrap64_id (by omega) (by omega)]; omega) ?_
     refine R.move ⟨rfl, rfl, rfl, rfl⟩ rfl ?_
     refine GOps.nil ?_
     exact ⟨i + 1, x, F', (), by omega, by first | exact ⟨by omega, cast1 hI (by rw [offs_succ hyb, slotsOf_f (by omega) (by omega)]; show offs r i + k = offs r i + 2; omega), hF⟩ | exact ⟨by omega, cast1 hI (by rw [offs_succ hyb, slotsOf_t (by omega)]; show offs r i + k = offs r i + 3; omega), hF⟩, rfl, by repeat (first | exact Keeps.nil _ | refine Keeps.cons rfl ?_), by first | exact Hs.refl _ | exact Hs.tl _ | exact Hs.tl2 _ _⟩
  ·try simp only [dcQ] at hc2
   refine GW.exit ?_
   refine Out.end_ (Res.none rfl) (Hs.refl _) (.inl ⟨x, F', cast1 hI (by rw [places_len, show i = r.body.length by omega]), hF, rfl⟩)
end Go.Proofs.YtfddkcmooommeaaGreatDoor.Gl
end
section
namespace Go.Proofs.YtfddkcmooommeaaGreatDoor.Gl
open Go.RowKit Go.Shelf
set_option linter.unusedVariables false
set_option linter.unnecessarySimpa false
set_option linter.unusedSimpArgs false
attribute [-simp] List.getD_eq_getElem?_getD
theorem Ext.trans {F F' F'' : Hp} (h : Ext F F') (h' : Ext F' F'') : Ext F F'' := ⟨fun y hy => h'.1 y (h.1 y hy), fun L => (h'.2 L).trans (h.2 L)⟩
def entsL : Nat → List ByteArray → List MapEntry
 | _, [] => []
 | n, k :: ks => { key := .string k, val := .agg #[.bool true], born := n } :: entsL (n + 1) ks
def entriesOf (ks : List ByteArray) : Array MapEntry := (entsL 0 ks).toArray
def emap (ks : List ByteArray) : Know := .exact (.map (entriesOf ks) ks.length)
theorem entsL_snoc (k : ByteArray) : ∀ (ks : List ByteArray) (n : Nat), entsL n (ks ++ [k]) = entsL n ks ++ [{ key := .string k, val := .agg #[.bool true], born := n + ks.length }]
 | [], n => rfl
 | x :: ks, n => by
  simp only [List.cons_append, entsL, entsL_snoc k ks (n + 1), List.length_cons]
  rw [show n + 1 + ks.length = n + (ks.length + 1) by omega]
theorem emap_push (ks : List ByteArray) (k : ByteArray) : Know.exact (.map ((entriesOf ks).push { key := .string k, val := .agg #[.bool true], born := ks.length }) (ks.length + 1)) = emap (ks ++ [k]) := by
 unfold emap entriesOf
 rw [entsL_snoc, List.length_append]
 simp
theorem entsL_get : ∀ (ks : List ByteArray) (n j : Nat) (k : ByteArray), ks[j]? = some k → (entsL n ks)[j]? = some { key := .string k, val := .agg #[.bool true], born := n + j }
 | [], n, j, k, h => by simp at h
 | x :: ks, n, 0, k, h => by
  simp at h
  subst h
  rfl
 | x :: ks, n, j + 1, k, h => by
  have := entsL_get ks (n + 1) j k (by simpa using h)
  simp only [entsL, List.getElem?_cons_succ, this]
  rw [show n + 1 + j = n + (j + 1) by omega]
theorem emap_old {ks : List ByteArray} {j : Nat} {k : ByteArray} (h : ks[j]? = some k) : Know.exact (.map ((entriesOf ks).modify j fun e => { e with key := .string k, val := .agg #[.bool true] }) ks.length) = emap ks := by
 have e : (entriesOf ks).modify j (fun e => { e with key := .string k, val := .agg #[.bool true] }) = entriesOf ks := by
  apply Array.ext_getElem?
  intro i
  rw [Array.getElem?_modify]
  by_cases hi : j = i
  ·subst hi
   rw [if_pos rfl]
   have := entsL_get ks 0 j k h
   unfold entriesOf
   rw [List.getElem?_toArray, this]
   rfl
  ·rw [if_neg hi]
 unfold emap
 rw [e]
theorem ents_same {ks : List ByteArray} {j : Nat} {k : ByteArray} (h : ks[j]? = some k) : Instr.sameBits 10000 ((((entriesOf ks)[j]?).map (·.key)).getD (.string k)) (.string k) = true := by
 have := entsL_get ks 0 j k h
 unfold entriesOf
 rw [List.getElem?_toArray, this]
 simp [Instr.sameBits, beq_toListBytes]
theorem find_ents (k : ByteArray) : ∀ (ks : List ByteArray) (n i : Nat), (inB ks k = false ∧ Instr.findNow .string (.string k) (entsL n ks) i = some none) ∨ (inB ks k = true ∧ ∃ j, ks[j]? = some k ∧ Instr.findNow .string (.string k) (entsL n ks) i = some (some (i + j, .agg #[.bool true])))
 | [], n, i => .inl ⟨rfl, rfl⟩
 | x :: ks, n, i => by
  have ih := find_ents k ks (n + 1) (i + 1)
  simp only [entsL, Instr.findNow, Instr.sameNow, beq_toListBytes, inB, List.any_cons, eqB]
  by_cases h : (k.toList == x.toList) = true
  ·right
   have hx : x = k := by
    rw [toList_beq, beq_iff_eq] at h
    exact (bs_inj h).symm
   subst hx
   refine ⟨by simp, 0, rfl, by simp⟩
  ·have h' : (k.toList == x.toList) = false := by simpa using h
   have h2 : (x.toList == k.toList) = false := by
    rw [toList_beq] at h' ⊢
    simp only [beq_eq_false_iff_ne, ne_eq] at h' ⊢
    exact fun e => h' e.symm
   rw [h', h2]
   rcases ih with ⟨h3, h4⟩ | ⟨h3, j, h4, h5⟩
   ·left
    exact ⟨by simpa [inB, eqB] using h3, h4⟩
   ·right
    refine ⟨by simpa [inB, eqB] using h3, j + 1, by simpa using h4, ?_⟩
    simp only [h5]
    rw [show i + 1 + j = i + (j + 1) by omega]
theorem find_no {ks : List ByteArray} {k : ByteArray} (h : inB ks k = false) : Instr.findNow .string (.string k) (entriesOf ks).toList 0 = some none := by
 rcases find_ents k ks 0 0 with ⟨_, h2⟩ | ⟨h2, _⟩
 ·exact h2
 ·rw [h] at h2; cases h2
theorem find_yes {ks : List ByteArray} {k : ByteArray} (h : inB ks k = true) : ∃ j, ks[j]? = some k ∧ Instr.findNow .string (.string k) (entriesOf ks).toList 0 = some (some (j, .agg #[.bool true])) := by
 rcases find_ents k ks 0 0 with ⟨h2, _⟩ | ⟨_, j, h2, h3⟩
 ·rw [h] at h2; cases h2
 ·exact ⟨j, h2, by rw [Nat.zero_add] at h3; exact h3⟩
theorem find_any (ks : List ByteArray) (k : ByteArray) : ∃ rr, Instr.findNow .string (.string k) (entriesOf ks).toList 0 = some rr ∧ hit (.agg #[.bool false]) rr = .agg #[.bool (inB ks k)] := by
 cases h : inB ks k with
 | false => exact ⟨_, find_no h, rfl⟩
 | true => obtain ⟨j, _, h2⟩ := find_yes h; exact ⟨_, h2, rfl⟩
def holdsAt (r : Rl) (i : Int) : Bool := decide (0 ≤ i) && (match r.body[i.toNat]? with | some l => decide (l.kind = 1) | none => false)
theorem hold_no1 {r : Rl} {i : Int} (h : ¬ 0 ≤ i) : holdsAt r i = false := by unfold holdsAt; rw [decide_eq_false h]; rfl
theorem hold_of {r : Rl} {i : Int} {y : Lt} (h : 0 ≤ i) (hy : r.body[i.toNat]? = some y) : holdsAt r i = decide (y.kind = 1) := by unfold holdsAt; rw [decide_eq_true h, hy]; rfl
def kStep (r : Rl) (ks : List ByteArray) (p : Int × Sl) : List ByteArray := bif (holdsAt r p.1 && !emp p.2.v) then (bif inB ks p.2.v then ks else ks ++ [p.2.v]) else ks
def keysTo (r : Rl) (j : Nat) : List ByteArray := ((placesL r).take j).foldl (kStep r) []
theorem keysTo_succ {r : Rl} {j : Nat} {p : Int × Sl} (h : (placesL r)[j]? = some p) : keysTo r (j + 1) = kStep r (keysTo r j) p := by
 unfold keysTo
 rw [List.take_add_one, h, List.foldl_append]
 rfl
theorem key_new {r : Rl} {j : Nat} {i : Int} {s : Sl} {ks : List ByteArray} (hI : ks = keysTo r j) (h : (placesL r)[j]? = some (i, s)) (hc : (holdsAt r i && !emp s.v) = true) (hk : inB ks s.v = false) : ks ++ [s.v] = keysTo r (j + 1) := by
 rw [keysTo_succ h, ← hI, kStep, hc, hk]; rfl
theorem key_old {r : Rl} {j : Nat} {i : Int} {s : Sl} {ks : List ByteArray} (hI : ks = keysTo r j) (h : (placesL r)[j]? = some (i, s)) (hc : (holdsAt r i && !emp s.v) = true) (hk : inB ks s.v = true) : ks = keysTo r (j + 1) := by
 rw [keysTo_succ h, ← hI, kStep, hc, hk]; rfl
theorem key_not {r : Rl} {j : Nat} {i : Int} {s : Sl} {ks : List ByteArray} (hI : ks = keysTo r j) (h : (placesL r)[j]? = some (i, s)) (hc : (holdsAt r i && !emp s.v) = false) : ks = keysTo r (j + 1) := by
 rw [keysTo_succ h, ← hI, kStep, hc]; rfl
def placeOk (ks : List ByteArray) (p : Int × Sl) : Bool := emp p.2.v || inB ks p.2.v
theorem place_ok {ks : List ByteArray} {i : Int} {s : Sl} (h : (!emp s.v && !(inB ks s.v)) = false) : placeOk ks (i, s) = true := by
 unfold placeOk
 show (emp s.v || inB ks s.v) = true
 generalize emp s.v = a at *
 generalize inB ks s.v = b at *
 cases a <;> cases b <;> first | rfl | cases h
theorem place_bad {ks : List ByteArray} {i : Int} {s : Sl} (h : (!emp s.v && !(inB ks s.v)) = true) : placeOk ks (i, s) = false := by
 unfold placeOk
 show (emp s.v || inB ks s.v) = false
 generalize emp s.v = a at *
 generalize inB ks s.v = b at *
 cases a <;> cases b <;> first | rfl | cases h
def chkE (r : Rl) : Int := bif mayRl r then (bif (placesL r).all (placeOk (keysTo r (placesL r).length)) then 0 else 5) else 2
theorem plFrom_inv : ∀ (ls : List Lt) (n j : Nat) (i : Int) (s : Sl), (plFrom n ls)[j]? = some (i, s) → ∃ k y, i = ((n + k : Nat) : Int) ∧ ls[k]? = some y
 | [], n, j, i, s, h => by simp [plFrom] at h
 | l :: ls, n, j, i, s, h => by
  rw [plFrom] at h
  rcases Nat.lt_or_ge j ((slotsOf l).map (fun s => ((n : Int), s))).length with hj | hj
  ·rw [List.getElem?_append_left hj, List.getElem?_map, Option.map_eq_some_iff] at h
   obtain ⟨t, _, h2⟩ := h
   cases h2
   exact ⟨0, l, rfl, rfl⟩
  ·rw [List.getElem?_append_right hj] at h
   obtain ⟨k, y, h1, h2⟩ := plFrom_inv ls (n + 1) _ i s h
   exact ⟨k + 1, y, by rw [h1]; omega, by simpa using h2⟩
theorem places_inv {r : Rl} {j : Nat} {i : Int} {s : Sl} (h : (placesL r)[j]? = some (i, s)) : ∃ y, 0 ≤ i → r.body[i.toNat]? = some y := by
 unfold placesL at h
 rcases Nat.lt_or_ge j (hdL r).length with hj | hj
 ·rw [List.getElem?_append_left hj] at h
  refine ⟨⟨0, ⟨s, s, s⟩, s, s⟩, fun h0 => ?_⟩
  have hj3 : j < 3 := hj
  rcases (by omega : j = 0 ∨ j = 1 ∨ j = 2) with rfl | rfl | rfl <;>
  ·simp [hdL] at h
   omega
 ·rw [List.getElem?_append_right hj] at h
  obtain ⟨k, y, h1, h2⟩ := plFrom_inv _ _ _ _ _ h
  refine ⟨y, fun _ => ?_⟩
  rw [h1]
  simpa using h2
theorem check_Rule (w0 : World) (G : Hp) (r : Rl) (A : Option Addr) (c : Nat) (hl : LtsAt w0 G A r.body) (hm : r.body.length ≤ 1048576) (h : RlOk r) : GC Tryz.prog w0 30 #[.agg (RlC r.head (.slice A r.body.length c)).toArray] (fun v G' => v = .int .i64 (chkE r) ∧ G = G') G := by
 refine GC.body (args := [.agg (RlC r.head (.slice A r.body.length c)).toArray]) Tryz.func30 rfl (by kernel_rfl) rfl ?_
 refine GW.seq ?_
 refine GW.region ?_
 refine R.box ⟨rfl, rfl, rfl, rfl⟩ rfl fun b1 => ?_
 refine R.alloc ⟨rfl, rfl, rfl, rfl⟩ Tryz.zeroValue42 fun b2 => ?_
 refine GOps.nil ?_
 refine GW.seq ?_
 refine GW.seq ?_
 refine GW.region ?_
 refine R.load_own (cs := RlC r.head (.slice A r.body.length c)) ⟨rfl, rfl, rfl, rfl⟩ rfl Tryz.underlying31 rfl Tryz.sizeOf31 memG (by rfl) (by rfl) ?_
 refine R.call ⟨rfl, rfl, rfl, rfl⟩ rfl (vs := [_]) rfl ((rules_May _ _ r A c ((hl.mono (sub_cons _)).mono (sub_cons _)) hm h).mono ?_)
 rintro _ _ ⟨rfl, rfl⟩
 refine R.not ⟨rfl, rfl, rfl, rfl⟩ rfl ?_
 refine GOps.nil ?_
 refine GW.ite rfl (fun hc1 => ?_) (fun hc1 => ?_)
 ·try simp only [dcQ] at hc1
  refine GW.seq ?_
  refine GW.region ?_
  refine R.storeAll (G1 := []) rfl rfl rfl rfl rfl Tryz.sizeOf42 rfl rfl rfl rfl ?_
  refine GOps.nil ?_
  refine GW.ret (Out.of (resCell rfl rfl Tryz.underlying42 rfl (.own' memG rfl)) (by first | exact Hs.refl _ | exact Hs.tl _ | exact Hs.tl2 _ _ | exact Hs.tl3 _ _ _ | exact (Hs.app _).trans (Hs.tl _) | exact (Hs.app _).trans ((Hs.app _).trans (Hs.tl _))) ⟨?_, rfl⟩)
  unfold chkE; first | (rw [show mayRl r = false from hc1]; rfl) | (rw [show mayRl r = true from hc1, ← hI, hbad]; rfl) | (rw [show mayRl r = true from hc1, ← hI, all_of_take (placeOk ks) (placesL r) _ (Nat.le_refl _) hI2]; rfl)
 ·try simp only [dcQ] at hc1
  refine GW.skip ?_
  refine GW.seq ?_
  refine GW.region ?_
  refine R.makeMap ⟨rfl, rfl, rfl, rfl⟩ fun b11 => ?_
  refine R.alloc ⟨rfl, rfl, rfl, rfl⟩ Tryz.zeroValue119 fun b3 => ?_
  refine R.storeAll (G1 := []) rfl rfl rfl rfl rfl Tryz.sizeOf119 rfl rfl rfl rfl ?_
  refine GOps.nil ?_
  refine GW.seq ?_
  refine GW.seq ?_
  refine GW.region ?_
  refine R.load_own (cs := RlC r.head (.slice A r.body.length c)) ⟨rfl, rfl, rfl, rfl⟩ rfl Tryz.underlying31 rfl Tryz.sizeOf31 memG (by rfl) (by rfl) ?_
  refine R.call ⟨rfl, rfl, rfl, rfl⟩ rfl (vs := [_]) rfl ((check_places _ _ r A c).mono ?_)
  rintro _ _ ⟨bP, rfl, rfl⟩
  refine GOps.nil ?_
  refine GW.block ?_
  refine GW.rangeFunc rfl fun D0 l0 r0 hp0 ha0 hb0 hfr0 => ?_
  refine GC.mono (places1 w0 l0 bP r A c (fun ks => [(l0, lrec r0 .ready none), (D0, .exact (.deferred (some []))), (bP, .exact (.cells (RlC r.head (.slice A r.body.length c)).toArray 31 (0, 0))), (b3, .exact (.cells #[.map (some b11)] 119 (0, 0))), (b11, emap ks), (b2, .exact (.cells #[.int .i64 0] 42 (0, 0))), (b1, .exact (.cells (RlC r.head (.slice A r.body.length c)).toArray 31 (0, 0)))]) (fun j ks => ks = keysTo r j) (fun _ => False) G [] hm (fun ks => .own memG 0 _ (fun j v hv => by simpa using hv)) hl rfl ?_) ?_
  ·intro F' j ks i s hF hI hn; obtain ⟨y, hyb⟩ := places_inv hn; show GY _ _ _ _ _ ((l0, lrec r0 .ready none) :: (D0, .exact (.deferred (some []))) :: (bP, .exact (.cells (RlC r.head (.slice A r.body.length c)).toArray 31 (0, 0))) :: (b3, .exact (.cells #[.map (some b11)] 119 (0, 0))) :: (b11, emap ks) :: (b2, .exact (.cells #[.int .i64 0] 42 (0, 0))) :: (b1, .exact (.cells (RlC r.head (.slice A r.body.length c)).toArray 31 (0, 0))) :: F')
   refine GY.intro hfr0 (by rw [hp0]; rfl) (by rw [hp0]; rfl) ?_
   rw [hp0, ha0, hb0]
   refine GW.seq ?_
   refine GW.region ?_
   refine R.assign ⟨rfl, rfl, rfl, rfl⟩ rfl ?_
   refine GOps.nil ?_
   refine GW.region ?_
   refine R.alloc ⟨rfl, rfl, rfl, rfl⟩ Tryz.zeroValue26 fun b5 => ?_
   refine R.storeAll (G1 := []) rfl rfl rfl rfl rfl Tryz.sizeOf26 rfl rfl rfl rfl ?_
   refine GOps.nil ?_
   refine ⟨_, Hs.perm (List.Perm.swap _ _ _), ?_⟩
   refine GW.block ?_
   refine GW.cutS 31 (holdsAt r i && !emp s.v) [(3, .pointer (some ⟨b3, 0, none⟩)), (5, .pointer (some ⟨b5, 0, none⟩))] ?_ ?_
   ·refine R.move ⟨rfl, rfl, rfl, rfl⟩ rfl ?_
    refine R.geq ⟨rfl, rfl, rfl, rfl⟩ rfl rfl ?_
    refine R.move ⟨rfl, rfl, rfl, rfl⟩ rfl ?_
    refine GOps.caseB 18 rfl (fun hg2 => ?_) (fun hg2 => ?_)
    ·try simp only [dcQ] at hg2
     ·have hyl := hyb (by omega)
      have hlt : i.toNat < r.body.length := (List.getElem?_eq_some_iff.1 hyl).1
      obtain ⟨bb, oo, cs, rfl, rfl, hrd⟩ := hl i.toNat y hyl
      refine R.fieldAddr ⟨rfl, rfl, rfl, rfl⟩ rfl Tryz.underlying31 rfl Tryz.sizeOf29 ?_   -- "Body"
      refine R.load1 ⟨rfl, rfl, rfl, rfl⟩ rfl Tryz.underlying29 rfl (.own' memG (by rfl)) ?_
      refine R.move ⟨rfl, rfl, rfl, rfl⟩ rfl ?_
      refine R.indexAddrS ⟨rfl, rfl, rfl, rfl⟩ rfl rfl Tryz.underlying29 Tryz.sizeOf89 (by omega) (by omega) ?_
      refine R.fieldAddr ⟨rfl, rfl, rfl, rfl⟩ rfl Tryz.underlying89 rfl Tryz.sizeOf87 ?_   -- "Kind"
      refine R.load1 ⟨rfl, rfl, rfl, rfl⟩ rfl Tryz.underlying87 rfl (Rd.mono (fun z hz => by repeat (first | exact hF.1 z hz | apply List.mem_cons_of_mem)) (hrd 0 _ rfl)) ?_
      refine R.eqI ⟨rfl, rfl, rfl, rfl⟩ rfl rfl ?_
      refine R.pick_t ⟨rfl, rfl, rfl, rfl⟩ rfl rfl ?_
      refine R.move ⟨rfl, rfl, rfl, rfl⟩ rfl ?_
      refine GOps.caseB 27 rfl (fun hg3 => ?_) (fun hg3 => ?_)
      ·try simp only [dcQ] at hg3
       refine R.fieldAddr ⟨rfl, rfl, rfl, rfl⟩ rfl Tryz.underlying26 rfl Tryz.sizeOf9 ?_   -- "Var"
       refine R.load1 ⟨rfl, rfl, rfl, rfl⟩ rfl Tryz.underlying9 rfl (.own' memG (by rfl)) ?_
       refine R.neS ⟨rfl, rfl, rfl, rfl⟩ rfl rfl ?_
       refine R.pick_t ⟨rfl, rfl, rfl, rfl⟩ rfl rfl ?_
       refine GOps.nil ?_
       exact ⟨rfl, rfl, by repeat (first | exact Keeps.nil _ | refine Keeps.cons rfl ?_), by first | exact Hs.refl _ | exact Hs.tl _, vbs (by first | (rw [hold_no1 (by omega)]; rfl) | (rw [hold_of (by omega) hyl, decide_eq_false (by assumption)]; rfl) | (rw [hold_of (by omega) hyl, decide_eq_true (by assumption)]; rfl))⟩
      ·try simp only [dcQ] at hg3
       refine GOps.skip rfl rfl rfl ?_
       refine GOps.skip rfl rfl rfl ?_
       refine GOps.skip rfl rfl rfl ?_
       refine R.pick_f ⟨rfl, rfl, rfl, rfl⟩ rfl rfl ?_
       refine GOps.nil ?_
       exact ⟨rfl, rfl, by repeat (first | exact Keeps.nil _ | refine Keeps.cons rfl ?_), by first | exact Hs.refl _ | exact Hs.tl _, vbs (by first | (rw [hold_no1 (by omega)]; rfl) | (rw [hold_of (by omega) hyl, decide_eq_false (by assumption)]; rfl) | (rw [hold_of (by omega) hyl, decide_eq_true (by assumption)]; rfl))⟩
    ·try simp only [dcQ] at hg2
     refine GOps.skip rfl rfl rfl ?_
     refine GOps.skip rfl rfl rfl ?_
     refine GOps.skip rfl rfl rfl ?_
     refine GOps.skip rfl rfl rfl ?_
     refine GOps.skip rfl rfl rfl ?_
     refine GOps.skip rfl rfl rfl ?_
     refine GOps.skip rfl rfl rfl ?_
     refine R.pick_f ⟨rfl, rfl, rfl, rfl⟩ rfl rfl ?_
     refine R.move ⟨rfl, rfl, rfl, rfl⟩ rfl ?_
     refine GOps.skip rfl rfl rfl ?_
     refine GOps.skip rfl rfl rfl ?_
     refine GOps.skip rfl rfl rfl ?_
     refine R.pick_f ⟨rfl, rfl, rfl, rfl⟩ rfl rfl ?_
     refine GOps.nil ?_
     exact ⟨rfl, rfl, by repeat (first | exact Keeps.nil _ | refine Keeps.cons rfl ?_), by first | exact Hs.refl _ | exact Hs.tl _, vbs (by first | (rw [hold_no1 (by omega)]; rfl) | (rw [hold_of (by omega) hyl, decide_eq_false (by assumption)]; rfl) | (rw [hold_of (by omega) hyl, decide_eq_true (by assumption)]; rfl))⟩
   ·refine GW.ite rfl (fun hc4 => ?_) (fun hc4 => ?_)
    ·try simp only [dcQ] at hc4
     refine GW.region ?_
     refine R.load1 ⟨rfl, rfl, rfl, rfl⟩ rfl Tryz.underlying119 rfl (.own' memG (by rfl)) ?_
     refine R.fieldAddr ⟨rfl, rfl, rfl, rfl⟩ rfl Tryz.underlying26 rfl Tryz.sizeOf9 ?_   -- "Var"
     refine R.load1 ⟨rfl, rfl, rfl, rfl⟩ rfl Tryz.underlying9 rfl (.own' memG (by rfl)) ?_
     cases hk : inB ks s.v
     ·refine R.build (vs := [(0, _)]) (cells := #[.bool true]) ⟨rfl, rfl, rfl, rfl⟩ rfl (fun w => run_build w 123 _ _ (by kernel_rfl)) ?_
      refine R.putNew (key := .string s.v) (v := .agg #[.bool true]) (G1 := [_, _, _, _, _]) (.inl rfl) rfl rfl rfl rfl rfl Tryz.underlying119 Tryz.underlying9 rfl rfl (find_no hk) ?_
      rw [emap_push]
      refine GOps.nil ?_
      first | exact ⟨_, Hs.swapDrop _ _ _, .inl ⟨rfl, ks ++ [s.v], key_new hI hn (by assumption) hk, rfl⟩⟩ | exact ⟨_, Hs.swapDrop _ _ _, .inl ⟨rfl, ks, key_old hI hn (by assumption) hk, rfl⟩⟩ | exact ⟨_, Hs.swapDrop _ _ _, .inl ⟨rfl, ks, key_not hI hn (by assumption), rfl⟩⟩
     ·obtain ⟨jk, hjk, hfk⟩ := find_yes hk
      refine R.build (vs := [(0, _)]) (cells := #[.bool true]) ⟨rfl, rfl, rfl, rfl⟩ rfl (fun w => run_build w 123 _ _ (by kernel_rfl)) ?_
      refine R.putOld (key := .string s.v) (v := .agg #[.bool true]) (G1 := [_, _, _, _, _]) (.inl rfl) rfl rfl rfl rfl rfl Tryz.underlying119 Tryz.underlying9 rfl rfl (hfk) (ents_same hjk) ?_
      rw [emap_old hjk]
      refine GOps.nil ?_
      first | exact ⟨_, Hs.swapDrop _ _ _, .inl ⟨rfl, ks ++ [s.v], key_new hI hn (by assumption) hk, rfl⟩⟩ | exact ⟨_, Hs.swapDrop _ _ _, .inl ⟨rfl, ks, key_old hI hn (by assumption) hk, rfl⟩⟩ | exact ⟨_, Hs.swapDrop _ _ _, .inl ⟨rfl, ks, key_not hI hn (by assumption), rfl⟩⟩
    ·try simp only [dcQ] at hc4
     refine GW.skip ?_
     first | exact ⟨_, Hs.swapDrop _ _ _, .inl ⟨rfl, ks ++ [s.v], key_new hI hn (by assumption) hk, rfl⟩⟩ | exact ⟨_, Hs.swapDrop _ _ _, .inl ⟨rfl, ks, key_old hI hn (by assumption) hk, rfl⟩⟩ | exact ⟨_, Hs.swapDrop _ _ _, .inl ⟨rfl, ks, key_not hI hn (by assumption), rfl⟩⟩
  ·rintro _ _ (⟨ks, F', hI, hF, rfl⟩ | hF)
   ·refine ⟨.ready, none, _, by simp, Hs.refl _, ?_⟩
    show GW _ _ _ _ _ ((D0, .exact (.deferred (some []))) :: (bP, .exact (.cells (RlC r.head (.slice A r.body.length c)).toArray 31 (0, 0))) :: (b3, .exact (.cells #[.map (some b11)] 119 (0, 0))) :: (b11, emap ks) :: (b2, .exact (.cells #[.int .i64 0] 42 (0, 0))) :: (b1, .exact (.cells (RlC r.head (.slice A r.body.length c)).toArray 31 (0, 0))) :: F')
    refine GW.seq ?_
    refine GW.seq ?_
    refine GW.region ?_
    refine R.load_own (cs := RlC r.head (.slice A r.body.length c)) ⟨rfl, rfl, rfl, rfl⟩ rfl Tryz.underlying31 rfl Tryz.sizeOf31 memG (by rfl) (by rfl) ?_
    refine R.call ⟨rfl, rfl, rfl, rfl⟩ rfl (vs := [_]) rfl ((check_places _ _ r A c).mono ?_)
    rintro _ _ ⟨bQ, rfl, rfl⟩
    refine GOps.nil ?_
    refine GW.block ?_
    refine GW.rangeFunc rfl fun D1 l1 r1 hp1 ha1 hb1 hfr1 => ?_
    refine GC.mono (places1 w0 l1 bQ r A c (fun _ : Unit => [(l1, lrec r1 .ready none), (D1, .exact (.deferred (some []))), (bQ, .exact (.cells (RlC r.head (.slice A r.body.length c)).toArray 31 (0, 0))), (D0, .exact (.deferred (some []))), (bP, .exact (.cells (RlC r.head (.slice A r.body.length c)).toArray 31 (0, 0))), (b3, .exact (.cells #[.map (some b11)] 119 (0, 0))), (b11, emap ks), (b2, .exact (.cells #[.int .i64 0] 42 (0, 0))), (b1, .exact (.cells (RlC r.head (.slice A r.body.length c)).toArray 31 (0, 0)))]) (fun j _ => ((placesL r).take j).all (placeOk ks) = true) (fun G' => ∃ F'', G' = (l1, lrec r1 .done (some .ret)) :: (D1, .exact (.deferred (some []))) :: (bQ, .exact (.cells (RlC r.head (.slice A r.body.length c)).toArray 31 (0, 0))) :: (D0, .exact (.deferred (some []))) :: (bP, .exact (.cells (RlC r.head (.slice A r.body.length c)).toArray 31 (0, 0))) :: (b3, .exact (.cells #[.map (some b11)] 119 (0, 0))) :: (b11, emap ks) :: (b2, .exact (.cells #[.int .i64 5] 42 (0, 0))) :: (b1, .exact (.cells (RlC r.head (.slice A r.body.length c)).toArray 31 (0, 0))) :: F'' ∧ (placesL r).all (placeOk ks) = false ∧ Ext G F'') F' () hm (fun _ => .own memG 0 _ (fun j v hv => by simpa using hv)) (hl.mono hF.1) rfl ?_) ?_
    ·intro F'' j _ i s hF2 hI2 hn; show GY _ _ _ _ _ ((l1, lrec r1 .ready none) :: (D1, .exact (.deferred (some []))) :: (bQ, .exact (.cells (RlC r.head (.slice A r.body.length c)).toArray 31 (0, 0))) :: (D0, .exact (.deferred (some []))) :: (bP, .exact (.cells (RlC r.head (.slice A r.body.length c)).toArray 31 (0, 0))) :: (b3, .exact (.cells #[.map (some b11)] 119 (0, 0))) :: (b11, emap ks) :: (b2, .exact (.cells #[.int .i64 0] 42 (0, 0))) :: (b1, .exact (.cells (RlC r.head (.slice A r.body.length c)).toArray 31 (0, 0))) :: F'')
     refine GY.intro hfr1 (by rw [hp1]; rfl) (by rw [hp1]; rfl) ?_
     rw [hp1, ha1, hb1]
     refine GW.region ?_
     refine R.alloc ⟨rfl, rfl, rfl, rfl⟩ Tryz.zeroValue26 fun b7 => ?_
     refine R.storeAll (G1 := []) rfl rfl rfl rfl rfl Tryz.sizeOf26 rfl rfl rfl rfl ?_
     refine GOps.nil ?_
     refine ⟨_, Hs.perm (List.Perm.swap _ _ _), ?_⟩
     refine GW.block ?_
     refine GW.cutS 50 (!emp s.v && !(inB ks s.v)) [(2, .pointer (some ⟨b2, 0, none⟩))] ?_ ?_
     ·refine R.fieldAddr ⟨rfl, rfl, rfl, rfl⟩ rfl Tryz.underlying26 rfl Tryz.sizeOf9 ?_   -- "Var"
      refine R.load1 ⟨rfl, rfl, rfl, rfl⟩ rfl Tryz.underlying9 rfl (.own' memG (by rfl)) ?_
      refine R.neS ⟨rfl, rfl, rfl, rfl⟩ rfl rfl ?_
      refine R.move ⟨rfl, rfl, rfl, rfl⟩ rfl ?_
      refine GOps.caseB 43 rfl (fun hg5 => ?_) (fun hg5 => ?_)
      ·try simp only [dcQ] at hg5
       refine R.load1 ⟨rfl, rfl, rfl, rfl⟩ rfl Tryz.underlying119 rfl (.own' memG (by rfl)) ?_
       refine R.fieldAddr ⟨rfl, rfl, rfl, rfl⟩ rfl Tryz.underlying26 rfl Tryz.sizeOf9 ?_   -- "Var"
       refine R.load1 ⟨rfl, rfl, rfl, rfl⟩ rfl Tryz.underlying9 rfl (.own' memG (by rfl)) ?_
       ·obtain ⟨rr, hrr, hrv⟩ := find_any ks s.v
        refine R.lookup (r := rr) (v := .agg #[.bool (inB ks s.v)]) ⟨rfl, rfl, rfl, rfl⟩ rfl rfl Tryz.underlying119 Tryz.underlying9 rfl Tryz.zeroValue123 memG (hrr) (hrv) ?_
        refine R.field1 ⟨rfl, rfl, rfl, rfl⟩ rfl Tryz.underlying123 rfl Tryz.underlying4 rfl rfl ?_
        refine R.not ⟨rfl, rfl, rfl, rfl⟩ rfl ?_
        refine R.pick_t ⟨rfl, rfl, rfl, rfl⟩ rfl rfl ?_
        refine GOps.nil ?_
        exact ⟨rfl, rfl, by repeat (first | exact Keeps.nil _ | refine Keeps.cons rfl ?_), by first | exact Hs.refl _ | exact Hs.tl _, vbs (by first | (rw [show emp s.v = false from hg5]; rfl) | (rw [show emp s.v = true from hg5]; rfl))⟩
      ·try simp only [dcQ] at hg5
       refine GOps.skip rfl rfl rfl ?_
       refine GOps.skip rfl rfl rfl ?_
       refine GOps.skip rfl rfl rfl ?_
       refine GOps.skip rfl rfl rfl ?_
       refine GOps.skip rfl rfl rfl ?_
       refine GOps.skip rfl rfl rfl ?_
       refine R.pick_f ⟨rfl, rfl, rfl, rfl⟩ rfl rfl ?_
       refine GOps.nil ?_
       exact ⟨rfl, rfl, by repeat (first | exact Keeps.nil _ | refine Keeps.cons rfl ?_), by first | exact Hs.refl _ | exact Hs.tl _, vbs (by first | (rw [show emp s.v = false from hg5]; rfl) | (rw [show emp s.v = true from hg5]; rfl))⟩
     ·refine GW.ite rfl (fun hc6 => ?_) (fun hc6 => ?_)
      ·try simp only [dcQ] at hc6
       refine GW.seq ?_
       refine GW.region ?_
       refine R.storeAll (G1 := [_, _, _, _, _, _, _, _]) rfl rfl rfl rfl rfl Tryz.sizeOf42 rfl rfl rfl rfl ?_
       refine GOps.nil ?_
       refine GW.ret ?_
       exact ⟨_, Hs.swapDrop _ _ _, .inr ⟨rfl, F'', rfl, all_of_get _ _ j _ hn (place_bad (by assumption)), hF.trans hF2⟩⟩
      ·try simp only [dcQ] at hc6
       refine GW.skip ?_
       exact ⟨_, Hs.swapDrop _ _ _, .inl ⟨rfl, (), all_take_succ _ _ j _ hn hI2 (place_ok (by assumption)), rfl⟩⟩
    ·rintro _ _ (⟨_, F'', hI2, hF2, rfl⟩ | ⟨F'', rfl, hbad, hF2⟩)
     ·refine ⟨.ready, none, _, by simp, Hs.refl _, ?_⟩
      show GW _ _ _ _ _ ((D1, .exact (.deferred (some []))) :: (bQ, .exact (.cells (RlC r.head (.slice A r.body.length c)).toArray 31 (0, 0))) :: (D0, .exact (.deferred (some []))) :: (bP, .exact (.cells (RlC r.head (.slice A r.body.length c)).toArray 31 (0, 0))) :: (b3, .exact (.cells #[.map (some b11)] 119 (0, 0))) :: (b11, emap ks) :: (b2, .exact (.cells #[.int .i64 0] 42 (0, 0))) :: (b1, .exact (.cells (RlC r.head (.slice A r.body.length c)).toArray 31 (0, 0))) :: F'')
      have hE := hF.trans hF2
      refine GW.seq ?_
      refine GW.region ?_
      refine R.storeAll (G1 := [_, _, _, _, _, _]) rfl rfl rfl rfl rfl Tryz.sizeOf42 rfl rfl rfl rfl ?_
      refine GOps.nil ?_
      refine GW.weak (Keeps.refl _) (G' := (D1, .exact (.deferred (some []))) :: (D0, .exact (.deferred (some []))) :: (b2, _) :: G) ((hE.2 [(D1, _), (bQ, _), (D0, _), (bP, _), (b3, _), (b11, _), (b2, _), (b1, _)]).trans (Hs.sub (by repeat (first | exact List.Sublist.refl _ | apply List.Sublist.cons_cons | apply List.Sublist.cons)))) ?_
      refine GW.ret (Out.of2 (resCell rfl rfl Tryz.underlying42 rfl (.own' memG rfl)) (Hs.tl _) ⟨?_, rfl⟩)
      unfold chkE; first | (rw [show mayRl r = false from hc1]; rfl) | (rw [show mayRl r = true from hc1, ← hI, hbad]; rfl) | (rw [show mayRl r = true from hc1, ← hI, all_of_take (placeOk ks) (placesL r) _ (Nat.le_refl _) hI2]; rfl)
     ·have hE := hF2
      refine ⟨.done, some .ret, _, by simp, Hs.refl _, ?_⟩
      show GW _ .ret _ _ _ _
      refine GW.weak (Keeps.refl _) (G' := (D1, .exact (.deferred (some []))) :: (D0, .exact (.deferred (some []))) :: (b2, _) :: G) ((hE.2 [(D1, _), (bQ, _), (D0, _), (bP, _), (b3, _), (b11, _), (b2, _), (b1, _)]).trans (Hs.sub (by repeat (first | exact List.Sublist.refl _ | apply List.Sublist.cons_cons | apply List.Sublist.cons)))) ?_
      refine GW.ret (Out.of2 (resCell rfl rfl Tryz.underlying42 rfl (.own' memG rfl)) (Hs.tl _) ⟨?_, rfl⟩)
      unfold chkE; first | (rw [show mayRl r = false from hc1]; rfl) | (rw [show mayRl r = true from hc1, ← hI, hbad]; rfl) | (rw [show mayRl r = true from hc1, ← hI, all_of_take (placeOk ks) (placesL r) _ (Nat.le_refl _) hI2]; rfl)
   ·exact hF.elim
end Go.Proofs.YtfddkcmooommeaaGreatDoor.Gl
end
section
namespace Go.Proofs.YtfddkcmooommeaaGreatDoor.Gl
set_option linter.unusedVariables false
set_option linter.unnecessarySimpa false
set_option linter.unusedSimpArgs false
theorem eqB_iff {s x : ByteArray} : eqB s x = true ↔ x = s := by
 unfold eqB
 rw [toList_beq, beq_iff_eq]
 exact ⟨bs_inj, fun h => by rw [h]⟩
theorem inB_iff {xs : List ByteArray} {s : ByteArray} : inB xs s = true ↔ s ∈ xs := by
 unfold inB
 rw [List.any_eq_true]
 constructor
 ·rintro ⟨x, hx, h⟩
  rw [eqB_iff] at h
  subst h
  exact hx
 ·intro h
  exact ⟨s, h, eqB_iff.2 rfl⟩
theorem kfold {r : Rl} {x : ByteArray} : ∀ (l : List (Int × Sl)) (ks : List ByteArray), x ∈ l.foldl (kStep r) ks ↔ x ∈ ks ∨ ∃ p ∈ l, holdsAt r p.1 = true ∧ emp p.2.v = false ∧ p.2.v = x
 | [], ks => by simp
 | p :: l, ks => by
  rw [List.foldl_cons, kfold l (kStep r ks p)]
  have hs : x ∈ kStep r ks p ↔ x ∈ ks ∨ (holdsAt r p.1 = true ∧ emp p.2.v = false ∧ p.2.v = x) := by
   unfold kStep
   cases h1 : holdsAt r p.1
   ·simp
   ·cases h2 : emp p.2.v
    ·cases h3 : inB ks p.2.v
     ·simp [eq_comm]
     ·have := inB_iff.1 h3
      simp only [Bool.not_false, Bool.and_self, cond_true, true_and]
      constructor
      ·exact Or.inl
      ·rintro (h | rfl)
       ·exact h
       ·exact this
    ·simp
  rw [hs]
  simp only [List.mem_cons, exists_eq_or_imp, or_assoc]
theorem dfold {x : ByteArray} : ∀ (q : List Sl) (out : List ByteArray), x ∈ q.foldl ddStep out ↔ x ∈ out ∨ ∃ s ∈ q, emp s.v = false ∧ s.v = x
 | [], out => by simp
 | s :: q, out => by
  rw [List.foldl_cons, dfold q (ddStep out s)]
  have hs : x ∈ ddStep out s ↔ x ∈ out ∨ (emp s.v = false ∧ s.v = x) := by
   unfold ddStep
   cases h2 : emp s.v
   ·cases h3 : inB out s.v
    ·simp [eq_comm]
    ·have := inB_iff.1 h3
     simp only [Bool.not_false, Bool.not_true, Bool.and_false, cond_false, true_and]
     constructor
     ·exact Or.inl
     ·rintro (h | rfl)
      ·exact h
      ·exact this
   ·simp
  rw [hs]
  simp only [List.mem_cons, exists_eq_or_imp, or_assoc]
theorem plFrom_mem : ∀ (ls : List Lt) (n : Nat) (p : Int × Sl), p ∈ plFrom n ls ↔ ∃ (k : Nat) (y : Lt), ls[k]? = some y ∧ p.1 = ((n + k : Nat) : Int) ∧ p.2 ∈ slotsOf y
 | [], n, p => by simp [plFrom]
 | l :: ls, n, p => by
  rw [plFrom, List.mem_append, plFrom_mem ls (n + 1) p, List.mem_map]
  constructor
  ·rintro (⟨s, hs, rfl⟩ | ⟨k, y, h1, h2, h3⟩)
   ·exact ⟨0, l, rfl, rfl, hs⟩
   ·exact ⟨k + 1, y, by simpa using h1, by rw [h2]; omega, h3⟩
  ·rintro ⟨k, y, h1, h2, h3⟩
   cases k with
   | zero =>
    simp at h1
    subst h1
    left
    exact ⟨p.2, h3, by rw [Nat.add_zero] at h2; exact Prod.ext h2.symm rfl⟩
   | succ k => exact .inr ⟨k, y, by simpa using h1, by rw [h2]; omega, h3⟩
theorem places_mem {r : Rl} {p : Int × Sl} : p ∈ placesL r ↔ (p.1 = -1 ∧ (p.2 = r.head.s0 ∨ p.2 = r.head.s1 ∨ p.2 = r.head.s2)) ∨ ∃ (k : Nat) (y : Lt), r.body[k]? = some y ∧ p.1 = (k : Int) ∧ p.2 ∈ slotsOf y := by
 unfold placesL hdL
 rw [List.mem_append, plFrom_mem]
 simp only [Nat.zero_add]
 refine or_congr ?_ Iff.rfl
 obtain ⟨i, s⟩ := p
 simp only [List.mem_cons, Prod.mk.injEq, List.not_mem_nil, or_false]
 constructor
 ·rintro (⟨h1, h2⟩ | ⟨h1, h2⟩ | ⟨h1, h2⟩)
  ·exact ⟨h1, .inl h2⟩
  ·exact ⟨h1, .inr (.inl h2)⟩
  ·exact ⟨h1, .inr (.inr h2)⟩
 ·rintro ⟨h1, h2 | h2 | h2⟩
  ·exact .inl ⟨h1, h2⟩
  ·exact .inr (.inl ⟨h1, h2⟩)
  ·exact .inr (.inr ⟨h1, h2⟩)
theorem all_mem {r : Rl} {s : Sl} : s ∈ allSlots r ↔ (s = r.head.s0 ∨ s = r.head.s1 ∨ s = r.head.s2) ∨ ∃ (k : Nat) (y : Lt), r.body[k]? = some y ∧ s ∈ slotsOf y := by
 unfold allSlots allTake
 rw [List.take_length, List.mem_append, List.mem_flatMap]
 refine or_congr (by simp) ?_
 constructor
 ·rintro ⟨y, h1, h2⟩
  obtain ⟨k, hk⟩ := List.getElem?_of_mem h1
  exact ⟨k, y, hk, h2⟩
 ·rintro ⟨k, y, h1, h2⟩
  exact ⟨y, List.mem_of_getElem? h1, h2⟩
theorem all_places {r : Rl} {s : Sl} : s ∈ allSlots r ↔ ∃ i, (i, s) ∈ placesL r := by
 rw [all_mem]
 constructor
 ·rintro (h | ⟨k, y, h1, h2⟩)
  ·exact ⟨-1, places_mem.2 (.inl ⟨rfl, h⟩)⟩
  ·exact ⟨k, places_mem.2 (.inr ⟨k, y, h1, rfl, h2⟩)⟩
 ·rintro ⟨i, h⟩
  rcases places_mem.1 h with ⟨_, h⟩ | ⟨k, y, h1, _, h2⟩
  ·exact .inl h
  ·exact .inr ⟨k, y, h1, h2⟩
theorem given_mem {r : Rl} {x : ByteArray} : x ∈ givenL r ↔ ∃ (k : Nat) (y : Lt), r.body[k]? = some y ∧ y.kind = 1 ∧ x ∈ patL y := by
 unfold givenL givenTake
 rw [List.take_length, List.mem_flatMap]
 constructor
 ·rintro ⟨y, h1, h2⟩
  obtain ⟨k, hk⟩ := List.getElem?_of_mem h1
  unfold givenOf at h2
  split at h2
  ·rename_i h3
   exact ⟨k, y, hk, h3, h2⟩
  ·cases h2
 ·rintro ⟨k, y, h1, h2, h3⟩
  refine ⟨y, List.mem_of_getElem? h1, ?_⟩
  unfold givenOf
  rw [if_pos h2]
  exact h3
theorem keys_mem {r : Rl} {x : ByteArray} (hx : emp x = false) : x ∈ keysTo r (placesL r).length ↔ x ∈ givenL r := by
 unfold keysTo
 rw [List.take_length, kfold, given_mem]
 constructor
 ·rintro (h | ⟨⟨i, s⟩, h1, h2, h3, h4⟩)
  ·cases h
  ·rcases places_mem.1 h1 with ⟨hi, _⟩ | ⟨k, y, hk, hi, hs⟩
   ·simp only at hi
    subst hi
    rw [hold_no1 (by omega)] at h2
    cases h2
   ·simp only at hi hs h4 h2
    subst hi
    rw [hold_of (by omega) (by simpa using hk)] at h2
    have h2 : y.kind = 1 := by simpa using h2
    refine ⟨k, y, hk, h2, ?_⟩
    rw [slotsOf_t (.inl h2)] at hs
    subst h4
    simp only [List.mem_cons, List.not_mem_nil, or_false] at hs
    unfold patL
    rcases hs with rfl | rfl | rfl <;> simp
 ·rintro ⟨k, y, hk, h2, h3⟩
  right
  have hs : ∃ s ∈ slotsOf y, s.v = x := by
   rw [slotsOf_t (.inl h2)]
   unfold patL at h3
   simp only [List.mem_cons, List.not_mem_nil, or_false] at h3
   rcases h3 with rfl | rfl | rfl
   ·exact ⟨_, by simp, rfl⟩
   ·exact ⟨_, by simp, rfl⟩
   ·exact ⟨_, by simp, rfl⟩
  obtain ⟨s, hs1, hs2⟩ := hs
  refine ⟨((k : Int), s), places_mem.2 (.inr ⟨k, y, hk, rfl, hs1⟩), ?_, by simp only [hs2]; exact hx, hs2⟩
  simp only
  rw [hold_of (by omega) (by simpa using hk), decide_eq_true h2]
theorem chk_eq (r : Rl) : chkE r = ruleE r := by
 have h : (placesL r).all (placeOk (keysTo r (placesL r).length)) = (dd (allSlots r)).all (inB (givenL r)) := by
  rw [Bool.eq_iff_iff, List.all_eq_true, List.all_eq_true]
  constructor
  ·intro h x hx
   unfold dd at hx
   rw [dfold] at hx
   rcases hx with hx | ⟨s, h1, h2, rfl⟩
   ·cases hx
   ·obtain ⟨i, hi⟩ := all_places.1 h1
    have h3 := h _ hi
    unfold placeOk at h3
    simp only [h2, Bool.false_or] at h3
    exact inB_iff.2 ((keys_mem h2).1 (inB_iff.1 h3))
  ·rintro h ⟨i, s⟩ hp
   unfold placeOk
   simp only
   cases h2 : emp s.v with
   | true => rfl
   | false =>
    have h3 := h s.v (by unfold dd; rw [dfold]; exact .inr ⟨s, all_places.2 ⟨i, hp⟩, h2, rfl⟩)
    rw [Bool.false_or]
    exact inB_iff.2 ((keys_mem h2).2 (inB_iff.1 h3))
 unfold chkE ruleE
 rw [h]
theorem beq_toList_comm (a b : ByteArray) : (a.toList == b.toList) = (b.toList == a.toList) := by
 rw [Bool.eq_iff_iff]
 simp only [beq_iff_eq]
 exact eq_comm
end Go.Proofs.YtfddkcmooommeaaGreatDoor.Gl
end
section
namespace Go.Proofs.YtfddkcmooommeaaGreatDoor.Gl
open Go.RowKit Go.Shelf
set_option linter.unusedVariables false
set_option linter.unnecessarySimpa false
set_option linter.unusedSimpArgs false
def u8C (l : List Nat) : List Value := l.map fun c => Value.int .u8 (c : Nat)
def intC (l : List Nat) : List Value := l.map fun c => Value.int .i64 (c : Nat)
def u32C (l : List Nat) : List Value := l.map fun c => Value.int .u32 (c : Nat)
theorem u8C_get {l : List Nat} {i c : Nat} (h : l[i]? = some c) : (u8C l)[i]? = some (.int .u8 (c : Nat)) := by simp [u8C, h]
theorem intC_get {l : List Nat} {i c : Nat} (h : l[i]? = some c) : (intC l)[i]? = some (.int .i64 (c : Nat)) := by simp [intC, h]
theorem u32C_get {l : List Nat} {i c : Nat} (h : l[i]? = some c) : (u32C l)[i]? = some (.int .u32 (c : Nat)) := by simp [u32C, h]
theorem u8C_len (l : List Nat) : (u8C l).length = l.length := by simp [u8C]
theorem intC_len (l : List Nat) : (intC l).length = l.length := by simp [intC]
theorem u32C_len (l : List Nat) : (u32C l).length = l.length := by simp [u32C]
theorem u8C_app (l m : List Nat) : u8C (l ++ m) = u8C l ++ u8C m := by simp [u8C]
theorem intC_app (l m : List Nat) : intC (l ++ m) = intC l ++ intC m := by simp [intC]
theorem strC_u8 (s : ByteArray) : strC s = u8C (bs s) := rfl
theorem u8C_inv {l : List Nat} {i : Nat} {v : Value} (h : (u8C l)[i]? = some v) : ∃ c : Nat, l[i]? = some c ∧ v = .int .u8 (c : Nat) := by
 simp [u8C] at h
 obtain ⟨c, h1, h2⟩ := h
 exact ⟨c, h1, h2.symm⟩
theorem emp_size {s : ByteArray} (h : emp s = true) : s.size = 0 := by
 unfold emp at h
 rw [toList_beq, beq_iff_eq] at h
 rw [← bs_length, h]
 rfl
theorem mayT_facts {t : Tm} (h : mayT t = true) : 1 ≤ t.kind ∧ t.kind ≤ 5 ∧ t.text.size ≤ 4000 ∧ t.ext.size ≤ 4000 := by
 unfold mayT at h
 split at h
 ·simp only [iriS, bs_length, Bool.and_eq_true, decide_eq_true_eq] at h
  have := emp_size h.2
  omega
 split at h
 ·simp only [word, bs_length, Bool.and_eq_true, decide_eq_true_eq] at h
  have := emp_size h.2
  omega
 split at h
 ·simp only [valS, Bool.and_eq_true, decide_eq_true_eq] at h
  have := emp_size h.2
  omega
 split at h
 ·simp only [valS, tagS, bs_length, Bool.and_eq_true, decide_eq_true_eq] at h
  omega
 split at h
 ·simp only [valS, iriS, bs_length, Bool.and_eq_true, decide_eq_true_eq] at h
  omega
 ·cases h
theorem tmEq_iff {a b : Tm} : tmEq a b = true ↔ a = b := by
 obtain ⟨k, s, e⟩ := a
 obtain ⟨k', s', e'⟩ := b
 simp only [tmEq, toList_beq, Bool.and_true, Bool.and_eq_true, beq_iff_eq, Tm.mk.injEq]
 exact ⟨fun ⟨h1, h2, h3⟩ => ⟨h1, bs_inj h2, bs_inj h3⟩, fun ⟨h1, h2, h3⟩ => ⟨h1, by rw [h2], by rw [h3]⟩⟩
def packL (t : Tm) : List Nat := [t.kind.toNat, t.text.size / 256, t.text.size % 256] ++ (bs t.text ++ bs t.ext)
theorem packL_len (t : Tm) : (packL t).length = 3 + (t.text.size + t.ext.size) := by
 simp [packL, bs_length]
 omega
theorem packL_lt {t : Tm} (h : mayT t = true) : ∀ c ∈ packL t, c < 256 := by
 obtain ⟨h1, h2, h3, h4⟩ := mayT_facts h
 intro c hc
 simp only [packL, List.mem_append, List.mem_cons, List.not_mem_nil, or_false] at hc
 rcases hc with (rfl | rfl | rfl) | hc | hc
 ·omega
 ·omega
 ·omega
 ·obtain ⟨i, hi⟩ := List.getElem?_of_mem hc; exact bs_lt _ i c hi
 ·obtain ⟨i, hi⟩ := List.getElem?_of_mem hc; exact bs_lt _ i c hi
theorem packL_inj {a b : Tm} (ha : mayT a = true) (hb : mayT b = true) (h : packL a = packL b) : a = b := by
 obtain ⟨h1, h2, h3, h4⟩ := mayT_facts ha
 obtain ⟨g1, g2, g3, g4⟩ := mayT_facts hb
 obtain ⟨k, s, e⟩ := a
 obtain ⟨k', s', e'⟩ := b
 simp only [packL, List.cons_append, List.nil_append, List.cons.injEq] at h h1 h2 h3 h4 g1 g2 g3 g4
 obtain ⟨e1, e2, e3, e4⟩ := h
 have hs : s.size = s'.size := by omega
 have h5 := List.append_inj e4 (by rw [bs_length, bs_length, hs])
 have hk : k = k' := by omega
 rw [hk, bs_inj h5.1, bs_inj h5.2]
def bytesL (ts : List Tm) : List Nat := ts.flatMap packL
def endsL (ts : List Tm) : List Nat := (List.range ts.length).map fun i => (bytesL (ts.take (i + 1))).length
theorem endsL_get {ts : List Tm} {i : Nat} (h : i < ts.length) : (endsL ts)[i]? = some (bytesL (ts.take (i + 1))).length := by simp [endsL, h]
theorem bytes_succ {ts : List Tm} {n : Nat} {t : Tm} (h : ts[n]? = some t) : bytesL (ts.take (n + 1)) = bytesL (ts.take n) ++ packL t := by
 unfold bytesL
 rw [List.take_add_one, h, List.flatMap_append]
 simp
theorem bytes_app (ts us : List Tm) : bytesL (ts ++ us) = bytesL ts ++ bytesL us := by simp [bytesL]
theorem bytes_one (t : Tm) : bytesL [t] = packL t := by simp [bytesL]
theorem bytes_get {ts : List Tm} {n : Nat} {t : Tm} (h : ts[n]? = some t) {j c : Nat} (hj : (packL t)[j]? = some c) : (bytesL ts)[(bytesL (ts.take n)).length + j]? = some c := by
 have e : ts = ts.take (n + 1) ++ ts.drop (n + 1) := (List.take_append_drop _ _).symm
 have h1 : bytesL ts = (bytesL (ts.take n) ++ packL t) ++ bytesL (ts.drop (n + 1)) := by
  rw [← bytes_succ h, ← bytes_app, List.take_append_drop]
 have hl := (List.getElem?_eq_some_iff.1 hj).1
 rw [h1, List.getElem?_append_left (by rw [List.length_append]; omega), List.getElem?_append_right (by omega), Nat.add_sub_cancel_left]
 exact hj
theorem ends_app (ts : List Tm) (t : Tm) : endsL (ts ++ [t]) = endsL ts ++ [(bytesL (ts ++ [t])).length] := by
 unfold endsL
 rw [List.length_append, List.length_singleton, List.range_succ, List.map_append]
 congr 1
 ·refine List.map_congr_left fun i hi => ?_
  rw [List.take_append_of_le_length (by have := List.mem_range.1 hi; omega)]
 ·rw [List.map_singleton, List.take_of_length_le (by simp)]
theorem bytes_le {ts : List Tm} (hm : ∀ t ∈ ts, mayT t = true) : (bytesL ts).length ≤ ts.length * 8003 := by
 induction ts with
 | nil => simp [bytesL]
 | cons t ts ih =>
  have h1 := ih fun u hu => hm u (List.mem_cons_of_mem _ hu)
  obtain ⟨_, _, h3, h4⟩ := mayT_facts (hm t List.mem_cons_self)
  have h5 : bytesL (t :: ts) = packL t ++ bytesL ts := by simp [bytesL]
  rw [h5, List.length_append, packL_len, List.length_cons]
  omega
theorem take_le (ts : List Tm) (n : Nat) : (bytesL (ts.take n)).length ≤ (bytesL ts).length := by
 have : bytesL ts = bytesL (ts.take n) ++ bytesL (ts.drop n) := by rw [← bytes_app, List.take_append_drop]
 rw [this, List.length_append]
 omega
structure Raw (ts : List Tm) (va ve : Value) (Ha He : Hp) : Prop where
 ha : SlAt 1 5 (u8C (bytesL ts)) (bytesL ts).length va Ha
 he : SlAt 1 3 (intC (endsL ts)) ts.length ve He
 may : ∀ t ∈ ts, mayT t = true
 most : ts.length ≤ 1000
abbrev dictC (lim : Nat) (va ve : Value) (bt n : Nat) : Know := .exact (.cells #[.int .i64 (lim : Nat), va, ve, .slice (some ⟨bt, 0, none⟩) n n] 103 (0, 0))
abbrev tabC (tab : List Nat) : Know := .exact (.cells (u32C tab).toArray 35 (0, 0))
theorem SlAt.split {sz : Nat} {e : TypeId} {cs : List Value} {n : Nat} {v : Value} {H : Hp} (h : SlAt sz e cs n v H) : ∃ A c, v = .slice A n c ∧ n ≤ c := by
 cases h with
 | nil h0 hc => subst h0; exact ⟨none, 0, rfl, Nat.le_refl _⟩
 | row b cap hl hc => exact ⟨some ⟨b, 0, none⟩, cap, rfl, hc⟩
theorem tab_load {w0 : World} {G : Hp} {bt p n : Nat} {tab : List Nat} (hm : (bt, tabC tab) ∈ G) (h : tab[p]? = some n) : Rd w0 G bt (0 + p * 1) (.int .u32 (n : Nat)) := by
 refine .own hm ?_
 show (u32C tab).toArray[0 + p * 1]? = _
 rw [Nat.zero_add, Nat.mul_one, List.getElem?_toArray]
 exact u32C_get h
theorem row_load {w0 : World} {G : Hp} {b i m : Nat} {cs : List Value} {e : TypeId} {v : Value} (hm : (b, Know.row cs e m) ∈ G) (h : cs[i]? = some v) : Rd w0 G b (0 + i * 1) v := by
 refine .own hm ?_
 show cs[0 + i * 1]? = _
 rw [Nat.zero_add, Nat.mul_one]
 exact h
end Go.Proofs.YtfddkcmooommeaaGreatDoor.Gl
end
section
namespace Go.Proofs.YtfddkcmooommeaaGreatDoor.Gl
open Go.RowKit Go.Shelf
set_option linter.unusedVariables false
set_option linter.unnecessarySimpa false
set_option linter.unusedSimpArgs false
attribute [-simp] List.getD_eq_getElem?_getD
theorem u32_id (n : Nat) (h : n < 4294967296) : IntKind.u32.wrap (n : Int) = (n : Int) := by rw [IntKind.wrap_u32]; omega
theorem u32_sub (n m : Nat) (h : n < 4294967296) (h2 : m ≤ n) : IntKind.u32.wrap ((n : Int) - (m : Int)) = ((n - m : Nat) : Int) := by rw [IntKind.wrap_u32]; omega
section
variable {X : Cx} {Q : Post} {fr : Fr} {ds : List Deferred} {G : Hp} {ops : Array Oper} {o : Oper} {rest : List Oper} {d : Nat}
theorem R.xor {t u : TypeId} {x y : Operand} {k : IntKind} {m n r : Int} (h : At X ops fr o (.binOp .xor t x y u) d) (hx : evO fr x = some (.int k m)) (hy : evO fr y = some (.int k n)) (hr : Go.bits .xor k m n = r)
  (K : GOps X ops Q rest ((d, .int k r) :: fr) ds G) : GOps X ops Q (o :: rest) fr ds G := R.bits (.inr (.inr (.inl rfl))) h hx hy hr K
end
theorem byte_load {w0 : World} {G : Hp} {b f i c : Nat} {p : List Nat} (h : Rds w0 G b f (u8C p)) (hx : p[i]? = some c) : Rd w0 G b (f + i * 1) (.int .u8 (c : Nat)) := by rw [Nat.mul_one]; exact h i _ (u8C_get hx)
theorem hash_succ {p : List Nat} {i c : Nat} (hx : p[i]? = some c) : IntKind.u32.wrap (Go.bits .xor .u32 (hashL (p.take i)) (c : Int) * 16777619) = hashL (p.take (i + 1)) := by
 unfold hashL
 rw [List.take_add_one, hx, List.foldl_append]
 rfl
theorem hash_range (p : List Nat) : 0 ≤ hashL p ∧ hashL p < 4294967296 := by
 unfold hashL
 rw [← List.reverse_reverse p, List.foldl_reverse]
 cases p.reverse with
 | nil => simp
 | cons c l =>
  simp only [List.foldr_cons, hstep]
  rw [IntKind.wrap_u32]
  omega
theorem hash_mask (p : List Nat) (k : Nat) (hk : k ≤ 62) : Go.bits .and .i64 (hashL p) ((2 ^ k - 1 : Nat) : Int) = ((home k p : Nat) : Int) := by
 obtain ⟨h1, h2⟩ := hash_range p
 have := and_mask (hashL p).toNat k (by omega) hk
 rw [Int.toNat_of_nonneg h1] at this
 exact this
theorem step_mask (k h j : Nat) (hk : k ≤ 20) : Go.bits .and .i64 ((((h + j) % 2 ^ k + 1 : Nat)) : Int) ((2 ^ k - 1 : Nat) : Int) = (((h + (j + 1)) % 2 ^ k : Nat) : Int) := by
 have hp : 2 ^ k ≤ 2 ^ 20 := Nat.pow_le_pow_right (by decide) hk
 have hpos : 0 < 2 ^ k := Nat.pow_pos (by decide)
 have hm := Nat.mod_lt (h + j) hpos
 rw [and_mask _ k (by omega) (by omega), Nat.mod_add_mod]
 rfl
theorem len_mask {n k : Nat} (h : n = 2 ^ k) (hk : k ≤ 20) : IntKind.i64.wrap ((n : Int) - 1) = ((2 ^ k - 1 : Nat) : Int) := by
 have hp : 2 ^ k ≤ 2 ^ 20 := Nat.pow_le_pow_right (by decide) hk
 have hpos : 0 < 2 ^ k := Nat.pow_pos (by decide)
 rw [h, wrap64_id (by omega) (by omega)]
 omega
theorem strOf_beq {l m : List Nat} (h1 : ∀ c ∈ l, c < 256) (h2 : ∀ c ∈ m, c < 256) : ((strOf l).toList == (strOf m).toList) = (l == m) := by
 rw [toList_beq, bs_strOf h1, bs_strOf h2]
theorem ends_pred {ts : List Tm} {n : Nat} (h1 : 1 ≤ n) (h2 : n ≤ ts.length) : (endsL ts)[n - 1]? = some (bytesL (ts.take n)).length := by
 rw [endsL_get (by omega), show n - 1 + 1 = n by omega]
theorem at_leaf {w0 : World} {G : Hp} {ts : List Tm} {n m ba : Nat} {t : Tm} (ht : ts[n]? = some t) (hm : (ba, Know.row (u8C (bytesL ts)) 5 m) ∈ G) :
  ∃ a f, Value.slice (cutA (some ⟨ba, 0, none⟩) (((bytesL (ts.take n)).length : Nat) : Int).toNat 1 (((bytesL (ts.take (n + 1))).length : Nat) : Int).toNat) ((((bytesL (ts.take (n + 1))).length : Nat) : Int).toNat - (((bytesL (ts.take n)).length : Nat) : Int).toNat) ((((bytesL (ts.take (n + 1))).length : Nat) : Int).toNat - (((bytesL (ts.take n)).length : Nat) : Int).toNat) = .slice (some ⟨a, f, none⟩) (packL t).length (packL t).length ∧ Rds w0 G a f (u8C (packL t)) := by
 have h1 := bytes_succ ht
 have h2 : (bytesL (ts.take (n + 1))).length = (bytesL (ts.take n)).length + (packL t).length := by rw [h1, List.length_append]
 have h3 := packL_len t
 simp only [Int.toNat_natCast, cutA]
 rw [if_neg (by omega)]
 refine ⟨ba, (bytesL (ts.take n)).length, ?_, fun j v hv => ?_⟩
 ·simp [add_none]
  omega
 ·obtain ⟨c, hc, rfl⟩ := u8C_inv hv
  exact .own hm (u8C_get (bytes_get ht hc))
theorem dict_hash (w0 : World) (G : Hp) (p : List Nat) (pb pf pc : Nat) (hrd : Rds w0 G pb pf (u8C p)) (hp : ∀ c ∈ p, c < 256) (hm : p.length ≤ 1048576) : GC Tryz.prog w0 80 #[.slice (some ⟨pb, pf, none⟩) p.length pc] (fun v G' => v = .int .u32 (hashL p) ∧ G = G') G := by
 refine GC.body (args := [.slice (some ⟨pb, pf, none⟩) p.length pc]) Tryz.func80 rfl (by kernel_rfl) rfl ?_
 refine GW.seq ?_
 refine GW.region ?_
 refine R.assign ⟨rfl, rfl, rfl, rfl⟩ rfl ?_
 refine GOps.nil ?_
 refine GW.seq ?_
 refine GW.region ?_
 refine R.assign ⟨rfl, rfl, rfl, rfl⟩ rfl ?_
 refine GOps.nil ?_
 refine GW.seq ?_
 refine GW.seq ?_
 refine GW.region ?_
 refine R.move ⟨rfl, rfl, rfl, rfl⟩ rfl ?_
 refine R.lenS ⟨rfl, rfl, rfl, rfl⟩ rfl rfl Tryz.underlying101 ?_
 refine R.move ⟨rfl, rfl, rfl, rfl⟩ rfl ?_
 refine GOps.nil ?_
 refine GW.block ?_
 refine GW.loopI (fun i : Nat => [(3, .int .u32 (hashL (p.take i))), (6, .slice (some ⟨pb, pf, none⟩) p.length pc), (7, .int .i64 p.length), (8, .int .i64 i)]) (fun i => G) (fun i => p.length - i) (fun i => i ≤ p.length) 0
  (by repeat (first | exact Keeps.nil _ | refine Keeps.cons rfl ?_)) (Hs.refl _) (by omega) ?_
 rintro i hi
 refine GW.seq ?_
 refine GW.region ?_
 refine R.lss ⟨rfl, rfl, rfl, rfl⟩ rfl rfl ?_
 refine GOps.nil ?_
 refine GW.seq ?_
 refine GW.ite rfl (fun hc1 => ?_) (fun hc1 => ?_)
 ·try simp only [dcQ] at hc1
  obtain ⟨c, hx⟩ : ∃ c, p[i]? = some c := ⟨_, List.getElem?_eq_getElem (by omega)⟩
  have hc := hp c (List.mem_of_getElem? hx)
  refine GW.skip ?_
  refine GW.seq ?_
  refine GW.block ?_
  refine GW.seq ?_
  refine GW.region ?_
  refine R.indexAddrS ⟨rfl, rfl, rfl, rfl⟩ rfl rfl Tryz.underlying101 Tryz.sizeOf5 (by omega) (by omega) ?_
  refine R.load1 ⟨rfl, rfl, rfl, rfl⟩ rfl Tryz.underlying5 rfl (byte_load hrd hx) ?_
  refine R.assign ⟨rfl, rfl, rfl, rfl⟩ rfl ?_
  refine GOps.nil ?_
  refine GW.region ?_
  refine R.move ⟨rfl, rfl, rfl, rfl⟩ rfl ?_
  refine R.move ⟨rfl, rfl, rfl, rfl⟩ rfl ?_
  refine R.conv (r := ((c : Nat) : Int)) ⟨rfl, rfl, rfl, rfl⟩ rfl Tryz.underlying5 Tryz.underlying35 (u32_id _ (by omega)) ?_
  refine R.xor ⟨rfl, rfl, rfl, rfl⟩ rfl rfl (rfl) ?_
  refine R.mul (r := hashL (p.take (i + 1))) ⟨rfl, rfl, rfl, rfl⟩ rfl rfl (hash_succ hx) ?_
  refine R.assign ⟨rfl, rfl, rfl, rfl⟩ rfl ?_
  refine GOps.nil ?_
  refine GW.region ?_
  refine R.add (r := (((i + 1) : Nat) : Int)) ⟨rfl, rfl, rfl, rfl⟩ rfl rfl (by rw [wrap64_id (by omega) (by omega)]; omega) ?_
  refine R.move ⟨rfl, rfl, rfl, rfl⟩ rfl ?_
  refine GOps.nil ?_
  exact ⟨i + 1, by omega, by omega, rfl, by repeat (first | exact Keeps.nil _ | refine Keeps.cons rfl ?_), by first | exact Hs.refl _ | exact Hs.tl _ | exact Hs.tl2 _ _⟩
 ·try simp only [dcQ] at hc1
  refine GW.exit ?_
  refine GW.seq ?_
  refine GW.region ?_
  refine R.move ⟨rfl, rfl, rfl, rfl⟩ rfl ?_
  refine R.assign ⟨rfl, rfl, rfl, rfl⟩ rfl ?_
  refine GOps.nil ?_
  refine GW.ret (Out.of (Res.one rfl rfl) (by first | exact Hs.refl _ | exact Hs.tl _ | exact Hs.tl2 _ _ | exact Hs.tl3 _ _ _ | exact (Hs.app _).trans (Hs.tl _) | exact (Hs.app _).trans ((Hs.app _).trans (Hs.tl _)) | exact Hs.sub (by repeat (first | exact List.Sublist.refl _ | apply List.Sublist.cons))) ⟨?_, rfl⟩)
  rw [List.take_of_length_le (by omega)]
theorem dict_at (w0 : World) (G : Hp) (ts : List Tm) (va ve : Value) (Ha He : Hp) (b bt lim sz : Nat) (tab : List Nat) (n : Nat) (t : Tm) (hr : Raw ts va ve Ha He) (ht : ts[n]? = some t) : GC Tryz.prog w0 71 #[.pointer (some ⟨b, 0, none⟩), .int .u32 ((n + 1 : Nat) : Int)] (fun v G' => ∃ a f, (v = .slice (some ⟨a, f, none⟩) (packL t).length (packL t).length ∧ Rds w0 ((b, dictC lim va ve bt sz) :: (bt, tabC tab) :: (Ha ++ (He ++ G))) a f (u8C (packL t))) ∧ ((b, dictC lim va ve bt sz) :: (bt, tabC tab) :: (Ha ++ (He ++ G))) = G') ((b, dictC lim va ve bt sz) :: (bt, tabC tab) :: (Ha ++ (He ++ G))) := by
 have hn : n < ts.length := (List.getElem?_eq_some_iff.1 ht).1
 have hm := hr.most
 have h3 := packL_len t
 have h2 : (bytesL (ts.take (n + 1))).length = (bytesL (ts.take n)).length + (packL t).length := by rw [bytes_succ ht, List.length_append]
 have hle := take_le ts (n + 1)
 obtain ⟨ba, capa, rfl, rfl, hca⟩ := hr.ha.row_of (by omega)
 obtain ⟨be, cape, rfl, rfl, hce⟩ := hr.he.row_of (by omega)
 refine GC.body (args := [.pointer (some ⟨b, 0, none⟩), .int .u32 ((n + 1 : Nat) : Int)]) Tryz.func71 rfl (by kernel_rfl) rfl ?_
 refine GW.seq ?_
 refine GW.region ?_
 refine R.assign ⟨rfl, rfl, rfl, rfl⟩ rfl ?_
 refine GOps.nil ?_
 refine GW.seq ?_
 refine GW.drawS 10 rfl (by kernel_rfl) ?_
 refine GA.val 0 rfl (V.move ⟨rfl, rfl, rfl, rfl⟩ rfl) rfl (by kernel_rfl) (by kernel_rfl) (by kernel_rfl) ?_
 refine GA.val 1 rfl (V.nilCheck ⟨rfl, rfl, rfl, rfl⟩ rfl) rfl (by kernel_rfl) (by kernel_rfl) (by kernel_rfl) ?_
 refine GA.val 2 rfl (V.fieldAddr ⟨rfl, rfl, rfl, rfl⟩ rfl Tryz.underlying103 rfl Tryz.sizeOf32) rfl (by kernel_rfl) (by kernel_rfl) (by kernel_rfl) ?_   -- "ends"
 refine GA.val 3 rfl (V.load1 ⟨rfl, rfl, rfl, rfl⟩ rfl Tryz.underlying32 rfl (.own' memG (by rfl))) rfl (by kernel_rfl) (by kernel_rfl) (by kernel_rfl) ?_
 refine GA.val 4 rfl (V.move ⟨rfl, rfl, rfl, rfl⟩ rfl) rfl (by kernel_rfl) (by kernel_rfl) (by kernel_rfl) ?_
 refine GA.val 5 rfl (V.sub (r := ((n : Nat) : Int)) ⟨rfl, rfl, rfl, rfl⟩ rfl rfl (by have := u32_sub (n + 1) 1 (by omega) (by omega); simpa using this)) rfl (by kernel_rfl) (by kernel_rfl) (by kernel_rfl) ?_
 refine GA.val 6 rfl (V.indexAddrS ⟨rfl, rfl, rfl, rfl⟩ rfl rfl Tryz.underlying32 Tryz.sizeOf3 (by omega) (by omega)) rfl (by kernel_rfl) (by kernel_rfl) (by kernel_rfl) ?_
 refine GA.val 7 rfl (V.load1 ⟨rfl, rfl, rfl, rfl⟩ rfl Tryz.underlying3 rfl (row_load (i := n) (by repeat (first | exact List.mem_cons_self | apply List.mem_cons_of_mem | apply List.mem_append_right | exact List.mem_append_left _ List.mem_cons_self)) (intC_get (endsL_get hn)))) rfl (by kernel_rfl) (by kernel_rfl) (by kernel_rfl) ?_
 refine GA.val 8 rfl (V.assign ⟨rfl, rfl, rfl, rfl⟩ rfl) rfl (by kernel_rfl) (by kernel_rfl) (by kernel_rfl) ?_
 refine GA.val 9 rfl (V.assign ⟨rfl, rfl, rfl, rfl⟩ rfl) rfl (by kernel_rfl) (by kernel_rfl) (by kernel_rfl) ?_
 refine GA.done (by first | exact Hs.refl _ | exact Hs.tl _ | exact Hs.tl2 _ _ | exact Hs.tl3 _ _ _ | exact Hs.app _ | exact Hs.sub (by simp)) (by kernel_rfl) ?_
 refine GW.seq ?_
 refine GW.seq ?_
 refine GW.region ?_
 refine R.move ⟨rfl, rfl, rfl, rfl⟩ rfl ?_
 refine R.gtr ⟨rfl, rfl, rfl, rfl⟩ rfl rfl ?_
 refine GOps.nil ?_
 refine GW.ite rfl (fun hc1 => ?_) (fun hc1 => ?_)
 ·try simp only [dcQ] at hc1
  refine GW.region ?_
  refine R.move ⟨rfl, rfl, rfl, rfl⟩ rfl ?_
  refine R.nilCheck ⟨rfl, rfl, rfl, rfl⟩ rfl ?_
  refine R.fieldAddr ⟨rfl, rfl, rfl, rfl⟩ rfl Tryz.underlying103 rfl Tryz.sizeOf32 ?_   -- "ends"
  refine R.load1 ⟨rfl, rfl, rfl, rfl⟩ rfl Tryz.underlying32 rfl (.own' memG (by rfl)) ?_
  refine R.move ⟨rfl, rfl, rfl, rfl⟩ rfl ?_
  refine R.sub (r := ((n - 1 : Nat) : Int)) ⟨rfl, rfl, rfl, rfl⟩ rfl rfl (by have := u32_sub (n + 1) 2 (by omega) (by omega); simpa using this) ?_
  refine R.indexAddrS ⟨rfl, rfl, rfl, rfl⟩ rfl rfl Tryz.underlying32 Tryz.sizeOf3 (by omega) (by omega) ?_
  refine R.load1 ⟨rfl, rfl, rfl, rfl⟩ rfl Tryz.underlying3 rfl (row_load (i := n - 1) (by repeat (first | exact List.mem_cons_self | apply List.mem_cons_of_mem | apply List.mem_append_right | exact List.mem_append_left _ List.mem_cons_self)) (intC_get (ends_pred (by omega) (by omega)))) ?_
  refine R.assign ⟨rfl, rfl, rfl, rfl⟩ rfl ?_
  refine GOps.nil ?_
  refine GW.seq ?_
  refine GW.region ?_
  refine R.move ⟨rfl, rfl, rfl, rfl⟩ rfl ?_
  refine R.nilCheck ⟨rfl, rfl, rfl, rfl⟩ rfl ?_
  refine R.fieldAddr ⟨rfl, rfl, rfl, rfl⟩ rfl Tryz.underlying103 rfl Tryz.sizeOf101 ?_   -- "bytes"
  refine R.load1 ⟨rfl, rfl, rfl, rfl⟩ rfl Tryz.underlying101 rfl (.own' memG (by rfl)) ?_
  refine R.move ⟨rfl, rfl, rfl, rfl⟩ rfl ?_
  refine R.move ⟨rfl, rfl, rfl, rfl⟩ rfl ?_
  refine R.move ⟨rfl, rfl, rfl, rfl⟩ rfl ?_
  refine R.slice3 ⟨rfl, rfl, rfl, rfl⟩ rfl rfl rfl rfl Tryz.underlying101 Tryz.sizeOf5 (by omega) (by omega) (by omega) (by omega) ?_
  refine R.assign ⟨rfl, rfl, rfl, rfl⟩ rfl ?_
  refine GOps.nil ?_
  obtain ⟨a, f, hv, hrd⟩ := at_leaf (w0 := w0) (G := ((b, dictC lim (.slice (some ⟨ba, 0, none⟩) (bytesL ts).length capa) (.slice (some ⟨be, 0, none⟩) ts.length cape) bt sz) :: (bt, tabC tab) :: ([(ba, .row (u8C (bytesL ts)) 5 (capa * 1))] ++ ([(be, .row (intC (endsL ts)) 3 (cape * 1))] ++ G)))) ht (m := capa * 1) (by repeat (first | exact List.mem_cons_self | apply List.mem_cons_of_mem | apply List.mem_append_right | exact List.mem_append_left _ List.mem_cons_self))
  exact GW.ret (Out.of (Res.one rfl rfl) (Hs.refl _) ⟨a, f, ⟨hv, hrd⟩, rfl⟩)
 ·try simp only [dcQ] at hc1
  obtain rfl : n = 0 := by omega
  refine GW.skip ?_
  refine GW.seq ?_
  refine GW.region ?_
  refine R.move ⟨rfl, rfl, rfl, rfl⟩ rfl ?_
  refine R.nilCheck ⟨rfl, rfl, rfl, rfl⟩ rfl ?_
  refine R.fieldAddr ⟨rfl, rfl, rfl, rfl⟩ rfl Tryz.underlying103 rfl Tryz.sizeOf101 ?_   -- "bytes"
  refine R.load1 ⟨rfl, rfl, rfl, rfl⟩ rfl Tryz.underlying101 rfl (.own' memG (by rfl)) ?_
  refine R.move ⟨rfl, rfl, rfl, rfl⟩ rfl ?_
  refine R.move ⟨rfl, rfl, rfl, rfl⟩ rfl ?_
  refine R.move ⟨rfl, rfl, rfl, rfl⟩ rfl ?_
  refine R.slice3 ⟨rfl, rfl, rfl, rfl⟩ rfl rfl rfl rfl Tryz.underlying101 Tryz.sizeOf5 (by omega) (by omega) (by omega) (by omega) ?_
  refine R.assign ⟨rfl, rfl, rfl, rfl⟩ rfl ?_
  refine GOps.nil ?_
  obtain ⟨a, f, hv, hrd⟩ := at_leaf (w0 := w0) (G := ((b, dictC lim (.slice (some ⟨ba, 0, none⟩) (bytesL ts).length capa) (.slice (some ⟨be, 0, none⟩) ts.length cape) bt sz) :: (bt, tabC tab) :: ([(ba, .row (u8C (bytesL ts)) 5 (capa * 1))] ++ ([(be, .row (intC (endsL ts)) 3 (cape * 1))] ++ G)))) ht (m := capa * 1) (by repeat (first | exact List.mem_cons_self | apply List.mem_cons_of_mem | apply List.mem_append_right | exact List.mem_append_left _ List.mem_cons_self))
  exact GW.ret (Out.of (Res.one rfl rfl) (Hs.refl _) ⟨a, f, ⟨hv, hrd⟩, rfl⟩)
end Go.Proofs.YtfddkcmooommeaaGreatDoor.Gl
end
section
namespace Go.Proofs.YtfddkcmooommeaaGreatDoor.Gl
open Go.RowKit Go.Shelf
set_option linter.unusedVariables false
set_option linter.unnecessarySimpa false
set_option linter.unusedSimpArgs false
attribute [-simp] List.getD_eq_getElem?_getD
theorem slot_to {ps : List (List Nat)} {k j m : Nat} {tab p : List Nat} (h0 : SlotTo ps k tab p j) (he : tab[(home k p + j) % 2 ^ k]? = some (m + 1)) (hne : ps[m]? ≠ some p) : SlotTo ps k tab p (j + 1) := by
 intro i hi
 rcases Nat.lt_or_ge i j with h | h
 ·exact h0 i h
 ·obtain rfl : i = j := by omega
  exact ⟨m, he, hne⟩
theorem ps_get {ts : List Tm} {mm m : Nat} {x : Tm} (h : m < mm) (hx : ts[m]? = some x) : ((ts.take mm).map packL)[m]? = some (packL x) := by
 rw [List.getElem?_map, List.getElem?_take_of_lt h, hx]
 rfl
theorem dict_slot (w0 : World) (G : Hp) (ts : List Tm) (va ve : Value) (Ha He : Hp) (b bt lim sz : Nat) (tab : List Nat) (k mm : Nat) (p : List Nat) (pb pf pc : Nat) (hr : Raw ts va ve Ha He) (hsz : tab.length = sz) (ht : TabOk ((ts.take mm).map packL) k tab) (hk : k ≤ 20) (hmm : mm ≤ ts.length) (hl : mm < 2 ^ k) (hrd : Rds w0 ((b, dictC lim va ve bt sz) :: (bt, tabC tab) :: (Ha ++ (He ++ G))) pb pf (u8C p)) (hp : ∀ c ∈ p, c < 256) (hpm : p.length ≤ 1048576) : GC Tryz.prog w0 50 #[.pointer (some ⟨b, 0, none⟩), .slice (some ⟨pb, pf, none⟩) p.length pc] (fun v G' => ∃ q : Nat, (v = .int .i64 (q : Nat) ∧ SlotIs ((ts.take mm).map packL) k tab p q) ∧ ((b, dictC lim va ve bt sz) :: (bt, tabC tab) :: (Ha ++ (He ++ G))) = G') ((b, dictC lim va ve bt sz) :: (bt, tabC tab) :: (Ha ++ (He ++ G))) := by
 have hpl : 2 ^ k ≤ 2 ^ 20 := Nat.pow_le_pow_right (by decide) hk
 have hpos : 0 < 2 ^ k := Nat.pow_pos (by decide)
 have htl0 := ht.len
 have htl : sz = 2 ^ k := hsz.symm.trans htl0
 have hm := hr.most
 have hlm : ((ts.take mm).map packL).length = mm := by rw [List.length_map, List.length_take]; omega
 obtain ⟨d0, hd0, hz⟩ := ht.ahead (by rw [hlm]; exact hl) (home k p)
 have hhr := hash_range p
 have hhl : home k p < 2 ^ k := Nat.mod_lt _ hpos
 refine GC.body (args := [.pointer (some ⟨b, 0, none⟩), .slice (some ⟨pb, pf, none⟩) p.length pc]) Tryz.func50 rfl (by kernel_rfl) rfl ?_
 refine GW.seq ?_
 refine GW.region ?_
 refine R.assign ⟨rfl, rfl, rfl, rfl⟩ rfl ?_
 refine GOps.nil ?_
 refine GW.scope 0 (fun _ _ _ => False) (by rfl) ?_ (fun _ _ _ h => h.elim)
 refine GW.seq ?_
 refine GW.region ?_
 refine R.move ⟨rfl, rfl, rfl, rfl⟩ rfl ?_
 refine R.nilCheck ⟨rfl, rfl, rfl, rfl⟩ rfl ?_
 refine R.fieldAddr ⟨rfl, rfl, rfl, rfl⟩ rfl Tryz.underlying103 rfl Tryz.sizeOf100 ?_   -- "table"
 refine R.load1 ⟨rfl, rfl, rfl, rfl⟩ rfl Tryz.underlying100 rfl (.own' memG (by rfl)) ?_
 refine R.lenS ⟨rfl, rfl, rfl, rfl⟩ rfl rfl Tryz.underlying100 ?_
 refine R.sub (r := ((2 ^ k - 1 : Nat) : Int)) ⟨rfl, rfl, rfl, rfl⟩ rfl rfl (len_mask htl hk) ?_
 refine R.assign ⟨rfl, rfl, rfl, rfl⟩ rfl ?_
 refine GOps.nil ?_
 refine GW.seq ?_
 refine GW.region ?_
 refine R.move ⟨rfl, rfl, rfl, rfl⟩ rfl ?_
 refine R.call ⟨rfl, rfl, rfl, rfl⟩ rfl (vs := [_]) rfl ((dict_hash _ _ p pb pf pc hrd hp hpm).mono ?_)
 rintro _ _ ⟨rfl, rfl⟩
 refine R.conv (r := hashL p) ⟨rfl, rfl, rfl, rfl⟩ rfl Tryz.underlying35 Tryz.underlying3 (wrap64_id (by omega) (by omega)) ?_
 refine R.move ⟨rfl, rfl, rfl, rfl⟩ rfl ?_
 refine R.and (r := (((home k p + 0) % 2 ^ k : Nat) : Int)) ⟨rfl, rfl, rfl, rfl⟩ rfl rfl (by rw [hash_mask p k (by omega), Nat.add_zero, Nat.mod_eq_of_lt hhl]) ?_
 refine R.assign ⟨rfl, rfl, rfl, rfl⟩ rfl ?_
 refine GOps.nil ?_
 refine GW.seq ?_
 refine GW.label ?_
 refine GW.seq ?_
 refine GW.block ?_
 refine GW.loopI (fun j : Nat => [(0, .pointer (some ⟨b, 0, none⟩)), (1, .slice (some ⟨pb, pf, none⟩) p.length pc), (5, .int .i64 ((2 ^ k - 1 : Nat) : Int)), (6, .int .i64 ((((home k p + j) % 2 ^ k) : Nat) : Int))]) (fun j => ((b, dictC lim va ve bt sz) :: (bt, tabC tab) :: (Ha ++ (He ++ G)))) (fun j => d0 - j) (fun j => j ≤ d0 ∧ SlotTo ((ts.take mm).map packL) k tab p j) 0
  (by repeat (first | exact Keeps.nil _ | refine Keeps.cons rfl ?_)) (Hs.refl _) (⟨Nat.zero_le _, fun i hi => absurd hi (Nat.not_lt_zero i)⟩) ?_
 rintro j ⟨hj, h0⟩
 have hq : ((home k p + j) % 2 ^ k) < 2 ^ k := Nat.mod_lt _ hpos
 obtain ⟨e, he⟩ : ∃ e, tab[((home k p + j) % 2 ^ k)]? = some e := ⟨_, List.getElem?_eq_getElem (by rw [htl0]; exact hq)⟩
 have hel : e ≤ 1000 := by have := ht.lim _ _ he; rw [hlm] at this; omega
 refine GW.seq ?_
 refine GW.block ?_
 refine GW.seq ?_
 refine GW.region ?_
 refine R.move ⟨rfl, rfl, rfl, rfl⟩ rfl ?_
 refine R.nilCheck ⟨rfl, rfl, rfl, rfl⟩ rfl ?_
 refine R.fieldAddr ⟨rfl, rfl, rfl, rfl⟩ rfl Tryz.underlying103 rfl Tryz.sizeOf100 ?_   -- "table"
 refine R.load1 ⟨rfl, rfl, rfl, rfl⟩ rfl Tryz.underlying100 rfl (.own' memG (by rfl)) ?_
 refine R.move ⟨rfl, rfl, rfl, rfl⟩ rfl ?_
 refine R.indexAddrS ⟨rfl, rfl, rfl, rfl⟩ rfl rfl Tryz.underlying100 Tryz.sizeOf35 (by omega) (by omega) ?_
 refine R.load1 ⟨rfl, rfl, rfl, rfl⟩ rfl Tryz.underlying35 rfl (tab_load (p := ((home k p + j) % 2 ^ k)) (by repeat (first | exact List.mem_cons_self | apply List.mem_cons_of_mem | apply List.mem_append_right | exact List.mem_append_left _ List.mem_cons_self)) he) ?_
 refine R.assign ⟨rfl, rfl, rfl, rfl⟩ rfl ?_
 refine GOps.nil ?_
 refine GW.seq ?_
 refine GW.drawS 11 rfl (by kernel_rfl) ?_
 refine GA.val 0 rfl (V.move ⟨rfl, rfl, rfl, rfl⟩ rfl) rfl (by kernel_rfl) (by kernel_rfl) (by kernel_rfl) ?_
 refine GA.val 1 rfl (V.eqI ⟨rfl, rfl, rfl, rfl⟩ rfl rfl) rfl (by kernel_rfl) (by kernel_rfl) (by kernel_rfl) ?_
 refine GA.val 2 rfl (V.move ⟨rfl, rfl, rfl, rfl⟩ rfl) rfl (by kernel_rfl) (by kernel_rfl) (by kernel_rfl) ?_
 refine GA.caseB 32 rfl (fun hg1 => ?_) (fun hg1 => ?_)
 ·try simp only [dcQ] at hg1
  refine GA.skip 3 rfl rfl rfl rfl rfl (by kernel_rfl) (by kernel_rfl) (by kernel_rfl) ?_
  refine GA.skip 4 rfl rfl rfl rfl rfl (by kernel_rfl) (by kernel_rfl) (by kernel_rfl) ?_
  refine GA.skip 5 rfl rfl rfl rfl rfl (by kernel_rfl) (by kernel_rfl) (by kernel_rfl) ?_
  refine GA.skip 6 rfl rfl rfl rfl rfl (by kernel_rfl) (by kernel_rfl) (by kernel_rfl) ?_
  refine GA.skip 7 rfl rfl rfl rfl rfl (by kernel_rfl) (by kernel_rfl) (by kernel_rfl) ?_
  refine GA.skip 8 rfl rfl rfl rfl rfl (by kernel_rfl) (by kernel_rfl) (by kernel_rfl) ?_
  refine GA.skip 9 rfl rfl rfl rfl rfl (by kernel_rfl) (by kernel_rfl) (by kernel_rfl) ?_
  refine GA.val 10 rfl (V.pick_t ⟨rfl, rfl, rfl, rfl⟩ rfl rfl) rfl (by kernel_rfl) (by kernel_rfl) (by kernel_rfl) ?_
  refine GA.done (by first | exact Hs.refl _ | exact Hs.tl _ | exact Hs.tl2 _ _ | exact Hs.tl3 _ _ _ | exact Hs.app _ | exact Hs.sub (by simp)) (by kernel_rfl) ?_
  refine GW.cond_t rfl ?_
  refine GW.exit ?_
  refine GW.seq ?_
  refine GW.region ?_
  refine R.move ⟨rfl, rfl, rfl, rfl⟩ rfl ?_
  refine R.assign ⟨rfl, rfl, rfl, rfl⟩ rfl ?_
  refine GOps.nil ?_
  first | exact GW.ret (Out.of (Res.one rfl rfl) (Hs.refl _) ⟨_, ⟨rfl, j, by omega, rfl, h0, .inr ⟨m, he, by rw [hps, hc2]⟩⟩, rfl⟩) | exact GW.ret (Out.of (Res.one rfl rfl) (Hs.refl _) ⟨_, ⟨rfl, j, by omega, rfl, h0, .inl (by rw [he]; congr 1; omega)⟩, rfl⟩)
 ·try simp only [dcQ] at hg1
  refine GA.val 3 rfl (V.move ⟨rfl, rfl, rfl, rfl⟩ rfl) rfl (by kernel_rfl) (by kernel_rfl) (by kernel_rfl) ?_
  refine GA.val 4 rfl (V.move ⟨rfl, rfl, rfl, rfl⟩ rfl) rfl (by kernel_rfl) (by kernel_rfl) (by kernel_rfl) ?_
  refine GA.val 7 rfl (V.move ⟨rfl, rfl, rfl, rfl⟩ rfl) rfl (by kernel_rfl) (by kernel_rfl) (by kernel_rfl) ?_
  refine GA.val 8 rfl (V.convBytes (l := p) ⟨rfl, rfl, rfl, rfl⟩ rfl Tryz.underlying101 Tryz.underlying5 Tryz.underlying9 (rfl) (hrd)) rfl (by kernel_rfl) (by kernel_rfl) (by kernel_rfl) ?_
  refine GA.one 5 (by first | exact Hs.refl _ | exact Hs.tl _ | exact Hs.tl2 _ _ | exact Hs.tl3 _ _ _ | exact Hs.app _ | exact Hs.sub (by simp)) (by kernel_rfl) rfl ?_
  obtain ⟨m, rfl⟩ : ∃ m, e = m + 1 := ⟨e - 1, by omega⟩
  have hml := ht.lim _ _ he
  rw [hlm] at hml
  obtain ⟨x, hx⟩ : ∃ x, ts[m]? = some x := ⟨_, List.getElem?_eq_getElem (by omega)⟩
  have hxm := hr.may x (List.mem_of_getElem? hx)
  have hps := ps_get (mm := mm) (by omega) hx
  refine R.call ⟨rfl, rfl, rfl, rfl⟩ rfl (vs := [_, _]) rfl ((dict_at _ _ ts va ve Ha He b bt lim sz tab m x hr hx).mono ?_)
  rintro _ _ ⟨xa, xf, ⟨rfl, hxr⟩, rfl⟩
  refine GOps.nil ?_
  refine GA.val 6 rfl (V.convBytes (l := packL x) ⟨rfl, rfl, rfl, rfl⟩ rfl Tryz.underlying101 Tryz.underlying5 Tryz.underlying9 (rfl) (hxr)) rfl (by kernel_rfl) (by kernel_rfl) (by kernel_rfl) ?_
  refine GA.val 9 rfl (V.eqS ⟨rfl, rfl, rfl, rfl⟩ rfl rfl) rfl (by kernel_rfl) (by kernel_rfl) (by kernel_rfl) ?_
  refine GA.val 10 rfl (V.pick_f ⟨rfl, rfl, rfl, rfl⟩ rfl rfl) rfl (by kernel_rfl) (by kernel_rfl) (by kernel_rfl) ?_
  refine GA.done (by first | exact Hs.refl _ | exact Hs.tl _ | exact Hs.tl2 _ _ | exact Hs.tl3 _ _ _ | exact Hs.app _ | exact Hs.sub (by simp)) (by kernel_rfl) ?_
  refine GW.ite rfl (fun hc2 => ?_) (fun hc2 => ?_)
  ·try simp only [dcQ] at hc2
   rw [strOf_beq (packL_lt hxm) hp, beq_iff_eq] at hc2
   refine GW.exit ?_
   refine GW.seq ?_
   refine GW.region ?_
   refine R.move ⟨rfl, rfl, rfl, rfl⟩ rfl ?_
   refine R.assign ⟨rfl, rfl, rfl, rfl⟩ rfl ?_
   refine GOps.nil ?_
   first | exact GW.ret (Out.of (Res.one rfl rfl) (Hs.refl _) ⟨_, ⟨rfl, j, by omega, rfl, h0, .inr ⟨m, he, by rw [hps, hc2]⟩⟩, rfl⟩) | exact GW.ret (Out.of (Res.one rfl rfl) (Hs.refl _) ⟨_, ⟨rfl, j, by omega, rfl, h0, .inl (by rw [he]; congr 1; omega)⟩, rfl⟩)
  ·try simp only [dcQ] at hc2
   rw [strOf_beq (packL_lt hxm) hp, beq_eq_false_iff_ne] at hc2
   have hjd : j < d0 := Nat.lt_of_le_of_ne hj (fun ej => by subst ej; rw [hz] at he; cases he)
   refine GW.skip ?_
   refine GW.region ?_
   refine R.move ⟨rfl, rfl, rfl, rfl⟩ rfl ?_
   refine R.add (r := (((((home k p + j) % 2 ^ k) + 1) : Nat) : Int)) ⟨rfl, rfl, rfl, rfl⟩ rfl rfl (by rw [wrap64_id (by omega) (by omega)]; omega) ?_
   refine R.move ⟨rfl, rfl, rfl, rfl⟩ rfl ?_
   refine R.and (r := (((home k p + (j + 1)) % 2 ^ k : Nat) : Int)) ⟨rfl, rfl, rfl, rfl⟩ rfl rfl (step_mask k (home k p) j hk) ?_
   refine R.assign ⟨rfl, rfl, rfl, rfl⟩ rfl ?_
   refine GOps.nil ?_
   exact ⟨j + 1, by omega, ⟨Nat.lt_of_le_of_ne hj (fun ej => by subst ej; rw [hz] at he; cases he), slot_to h0 he (fun e0 => by rw [hps] at e0; exact hc2 (Option.some.inj e0))⟩, rfl, by repeat (first | exact Keeps.nil _ | refine Keeps.cons rfl ?_), by first | exact Hs.refl _ | exact Hs.tl _ | exact Hs.tl2 _ _⟩
theorem dict_there (w0 : World) (G : Hp) (va ve : Value) (b bt lim n : Nat) (hm : (b, dictC lim va ve bt n) ∈ G) : GC Tryz.prog w0 36 #[.pointer (some ⟨b, 0, none⟩)] (fun v G' => v = .bool true ∧ G = G') G := by
 refine GC.body (args := [.pointer (some ⟨b, 0, none⟩)]) Tryz.func36 rfl (by kernel_rfl) rfl ?_
 refine GW.seq ?_
 refine GW.region ?_
 refine R.assign ⟨rfl, rfl, rfl, rfl⟩ rfl ?_
 refine GOps.nil ?_
 refine GW.seq ?_
 refine GW.region ?_
 refine R.move ⟨rfl, rfl, rfl, rfl⟩ rfl ?_
 refine R.neP ⟨rfl, rfl, rfl, rfl⟩ rfl rfl Tryz.underlying45 ?_
 refine R.move ⟨rfl, rfl, rfl, rfl⟩ rfl ?_
 refine R.move ⟨rfl, rfl, rfl, rfl⟩ rfl ?_
 refine R.nilCheck ⟨rfl, rfl, rfl, rfl⟩ rfl ?_
 refine R.fieldAddr ⟨rfl, rfl, rfl, rfl⟩ rfl Tryz.underlying103 rfl Tryz.sizeOf100 ?_   -- "table"
 refine R.load1 ⟨rfl, rfl, rfl, rfl⟩ rfl Tryz.underlying100 rfl (.own hm rfl) ?_
 refine R.neSl ⟨rfl, rfl, rfl, rfl⟩ rfl rfl Tryz.underlying100 ?_
 refine R.pick_t ⟨rfl, rfl, rfl, rfl⟩ rfl rfl ?_
 refine R.assign ⟨rfl, rfl, rfl, rfl⟩ rfl ?_
 refine GOps.nil ?_
 refine GW.ret (Out.of (Res.one rfl rfl) (by first | exact Hs.refl _ | exact Hs.tl _ | exact Hs.tl2 _ _ | exact Hs.tl3 _ _ _ | exact (Hs.app _).trans (Hs.tl _) | exact (Hs.app _).trans ((Hs.app _).trans (Hs.tl _)) | exact Hs.sub (by repeat (first | exact List.Sublist.refl _ | apply List.Sublist.cons))) ⟨?_, rfl⟩)
 rfl
end Go.Proofs.YtfddkcmooommeaaGreatDoor.Gl
end
section
namespace Go.Proofs.YtfddkcmooommeaaGreatDoor.Gl
open Go.RowKit Go.Shelf
set_option linter.unusedVariables false
set_option linter.unnecessarySimpa false
set_option linter.unusedSimpArgs false
attribute [-simp] List.getD_eq_getElem?_getD
theorem Hs.app1 (H : Hp) (x : Nat × Know) (G : Hp) : Hs (H ++ x :: G) (H ++ G) := Hs.sub (List.Sublist.append (List.Sublist.refl _) (List.sublist_cons_self x G))
section
variable {X : Cx} {Q : Post} {fr : Fr} {ds : List Deferred} {G : Hp} {ops : Array Oper} {o : Oper} {rest : List Oper} {d : Nat}
theorem V.shr {t u : TypeId} {x y : Operand} {k k' : IntKind} {m n r : Int} (h : At X ops fr o (.binOp .shr t x y u) d) (hx : evO fr x = some (.int k m)) (hy : evO fr y = some (.int k' n)) (h0 : 0 ≤ n) (hr : m.fdiv (2 ^ (min n.toNat k.bits)) = r)
  : GV X ops fr G o d (.int k r) :=
 V.bin h hx hy (fun w _ => by rw [Sem.run_bind, run_guard_int]; subst hr; simp [binOp, Op.shift, show ¬ n < 0 by omega])
end
theorem shr8 (n : Nat) : (n : Int).fdiv (2 ^ (min (8 : Int).toNat IntKind.i64.bits)) = ((n / 256 : Nat) : Int) := by
 rw [Int.fdiv_eq_ediv_of_nonneg _ (by decide)]
 rfl
theorem pack_row {t : Tm} {n : Nat} {v : Value} {H : Hp} (h : SlAt 1 5 (u8C [t.kind.toNat, t.text.size / 256, t.text.size % 256] ++ strC t.text ++ strC t.ext) n v H) : SlAt 1 5 (u8C (packL t)) n v H := by
 rw [strC_u8, strC_u8, ← u8C_app, ← u8C_app, List.append_assoc] at h
 exact h
theorem dict_pack (w0 : World) (G : Hp) (t : Tm) (hmay : mayT t = true) : GC Tryz.prog w0 49 #[.agg #[.int .i64 t.kind, .string t.text, .string t.ext]] (fun v G' => ∃ a c, (v = .slice (some ⟨a, 0, none⟩) (packL t).length c ∧ (packL t).length ≤ c) ∧ (a, .row (u8C (packL t)) 5 (c * 1)) :: G = G') G := by
 obtain ⟨h1, h2, h3, h4⟩ := mayT_facts hmay
 have hpl := packL_len t
 refine GC.body (args := [.agg #[.int .i64 t.kind, .string t.text, .string t.ext]]) Tryz.func49 rfl (by kernel_rfl) rfl ?_
 refine GW.seq ?_
 refine GW.region ?_
 refine R.box ⟨rfl, rfl, rfl, rfl⟩ rfl fun b1 => ?_
 refine R.assign ⟨rfl, rfl, rfl, rfl⟩ rfl ?_
 refine GOps.nil ?_
 refine GW.seq ?_
 refine GW.region ?_
 refine R.fieldAddr ⟨rfl, rfl, rfl, rfl⟩ rfl Tryz.underlying24 rfl Tryz.sizeOf9 ?_   -- "Text"
 refine R.load1 ⟨rfl, rfl, rfl, rfl⟩ rfl Tryz.underlying9 rfl (.own' memG (by rfl)) ?_
 refine R.lenStr ⟨rfl, rfl, rfl, rfl⟩ rfl rfl Tryz.underlying9 ?_
 refine R.assign ⟨rfl, rfl, rfl, rfl⟩ rfl ?_
 refine GOps.nil ?_
 refine GW.seq ?_
 refine GW.drawS 16 rfl (by kernel_rfl) ?_
 refine GA.val 0 rfl (V.fieldAddr ⟨rfl, rfl, rfl, rfl⟩ rfl Tryz.underlying24 rfl Tryz.sizeOf22) rfl (by kernel_rfl) (by kernel_rfl) (by kernel_rfl) ?_   -- "Kind"
 refine GA.val 1 rfl (V.load1 ⟨rfl, rfl, rfl, rfl⟩ rfl Tryz.underlying22 rfl (.own' memG (by rfl))) rfl (by kernel_rfl) (by kernel_rfl) (by kernel_rfl) ?_
 refine GA.val 2 rfl (V.conv (r := ((t.kind.toNat : Nat) : Int)) ⟨rfl, rfl, rfl, rfl⟩ rfl Tryz.underlying22 Tryz.underlying5 (by rw [IntKind.wrap_u8]; omega)) rfl (by kernel_rfl) (by kernel_rfl) (by kernel_rfl) ?_
 refine GA.val 3 rfl (V.move ⟨rfl, rfl, rfl, rfl⟩ rfl) rfl (by kernel_rfl) (by kernel_rfl) (by kernel_rfl) ?_
 refine GA.val 4 rfl (V.shr (r := ((t.text.size / 256 : Nat) : Int)) ⟨rfl, rfl, rfl, rfl⟩ rfl rfl (by omega) (shr8 _)) rfl (by kernel_rfl) (by kernel_rfl) (by kernel_rfl) ?_
 refine GA.val 5 rfl (V.conv (r := ((t.text.size / 256 : Nat) : Int)) ⟨rfl, rfl, rfl, rfl⟩ rfl Tryz.underlying3 Tryz.underlying5 (by rw [IntKind.wrap_u8]; omega)) rfl (by kernel_rfl) (by kernel_rfl) (by kernel_rfl) ?_
 refine GA.val 6 rfl (V.move ⟨rfl, rfl, rfl, rfl⟩ rfl) rfl (by kernel_rfl) (by kernel_rfl) (by kernel_rfl) ?_
 refine GA.val 7 rfl (V.conv (r := ((t.text.size % 256 : Nat) : Int)) ⟨rfl, rfl, rfl, rfl⟩ rfl Tryz.underlying3 Tryz.underlying5 (by rw [IntKind.wrap_u8]; omega)) rfl (by kernel_rfl) (by kernel_rfl) (by kernel_rfl) ?_
 refine GA.val 9 rfl (V.fieldAddr ⟨rfl, rfl, rfl, rfl⟩ rfl Tryz.underlying24 rfl Tryz.sizeOf9) rfl (by kernel_rfl) (by kernel_rfl) (by kernel_rfl) ?_   -- "Text"
 refine GA.val 10 rfl (V.load1 ⟨rfl, rfl, rfl, rfl⟩ rfl Tryz.underlying9 rfl (.own' memG (by rfl))) rfl (by kernel_rfl) (by kernel_rfl) (by kernel_rfl) ?_
 refine GA.val 12 rfl (V.fieldAddr ⟨rfl, rfl, rfl, rfl⟩ rfl Tryz.underlying24 rfl Tryz.sizeOf9) rfl (by kernel_rfl) (by kernel_rfl) (by kernel_rfl) ?_   -- "Extra"
 refine GA.val 13 rfl (V.load1 ⟨rfl, rfl, rfl, rfl⟩ rfl Tryz.underlying9 rfl (.own' memG (by rfl))) rfl (by kernel_rfl) (by kernel_rfl) (by kernel_rfl) ?_
 refine GA.one 8 (by first | exact Hs.refl _ | exact Hs.tl _ | exact Hs.tl2 _ _ | exact Hs.tl3 _ _ _ | exact Hs.app _ | exact Hs.sub (by simp)) (by kernel_rfl) rfl ?_
 refine R.buildSliceF (sz := 1) (bytes := 1) (vs := [_, _, _]) (cs := u8C [t.kind.toNat, t.text.size / 256, t.text.size % 256]) ⟨rfl, rfl, rfl, rfl⟩ rfl Tryz.underlying101 (InfoE.mk (by kernel_rfl)) rfl rfl rfl rfl rfl fun b15 => ?_
 refine GOps.nil ?_
 refine GA.one 11 (by first | exact Hs.refl _ | exact Hs.tl _ | exact Hs.tl2 _ _ | exact Hs.tl3 _ _ _ | exact Hs.app _ | exact Hs.sub (by simp)) (by kernel_rfl) rfl ?_
 refine GOps.weak (Keeps.refl _) (toRow _ rfl) ?_
 refine R.appendStr (bytes := 1) (G1 := []) (H := [(b15, .row (u8C [t.kind.toNat, t.text.size / 256, t.text.size % 256]) 5 (3 * 1))]) ⟨rfl, rfl, rfl, rfl⟩ rfl rfl rfl Tryz.underlying101 Tryz.underlying9 (InfoE.mk (by kernel_rfl)) (SlAt.row b15 3 rfl (Nat.le_refl 3)) (by omega) (rfl) (by omega) (by omega) fun v18 H18 hv18 => ?_
 refine GOps.nil ?_
 refine GA.one 14 (by first | exact Hs.refl _ | exact Hs.tl _ | exact Hs.tl2 _ _ | exact Hs.tl3 _ _ _ | exact Hs.app _ | exact Hs.sub (by simp)) (by kernel_rfl) rfl ?_
 refine R.appendStr (bytes := 1) (G1 := []) (H := H18) ⟨rfl, rfl, rfl, rfl⟩ rfl rfl rfl Tryz.underlying101 Tryz.underlying9 (InfoE.mk (by kernel_rfl)) (hv18) (by omega) (rfl) (by omega) (by omega) fun v21 H21 hv21 => ?_
 refine GOps.nil ?_
 refine GA.val 15 rfl (V.assign ⟨rfl, rfl, rfl, rfl⟩ rfl) rfl (by kernel_rfl) (by kernel_rfl) (by kernel_rfl) ?_
 refine GA.done (by first | exact Hs.refl _ | exact Hs.tl _ | exact Hs.tl2 _ _ | exact Hs.tl3 _ _ _ | exact Hs.app _ | exact Hs.sub (by simp)) (by kernel_rfl) ?_
 obtain ⟨a, c, rfl, rfl, hac⟩ := (pack_row hv21).row_of (by omega)
 rw [show 3 + t.text.size + t.ext.size = (packL t).length by omega]
 exact GW.ret (Out.of (Res.one rfl rfl) (Hs.app1 [(a, .row (u8C (packL t)) 5 (c * 1))] _ _) ⟨a, c, ⟨rfl, by omega⟩, rfl⟩)
end Go.Proofs.YtfddkcmooommeaaGreatDoor.Gl
end
section
namespace Go.Proofs.YtfddkcmooommeaaGreatDoor.Gl
open Go.RowKit Go.Shelf
set_option linter.unusedVariables false
set_option linter.unnecessarySimpa false
set_option linter.unusedSimpArgs false
attribute [-simp] List.getD_eq_getElem?_getD
theorem Hs.eq {G G' : Hp} (h : G = G') : Hs G G' := h ▸ Hs.refl _
theorem tab_zero (n : Nat) : tabC (List.replicate n 0) = .exact (.cells (List.replicate n (Value.int .u32 0)).toArray 35 (0, 0)) := by
 unfold tabC
 rw [show u32C (List.replicate n 0) = List.replicate n (Value.int .u32 0) by simp [u32C]]
theorem tab_put {tab : List Nat} {q n : Nat} (h : q < tab.length) : Know.exact (.cells (splice (u32C tab).toArray (0 + (q : Int).toNat * 1) (Value.int .u32 (n : Nat)).cells.toList) 35 (0, 0)) = tabC (tab.set q n) := by
 unfold tabC
 have : splice (u32C tab).toArray (0 + (q : Int).toNat * 1) (Value.int .u32 (n : Nat)).cells.toList = (u32C (tab.set q n)).toArray := by
  rw [show 0 + (q : Int).toNat * 1 = q by simp, show (Value.int .u32 (n : Nat)).cells.toList = [Value.int .u32 (n : Nat)] from rfl, splice_one (by rw [u32C_len]; exact h)]
  simp [u32C, List.map_set]
 rw [this]
theorem build_hs {c b bt : Nat} {x y z : Know} (R : Hp) : Hs ([(c, x)] ++ (b, y) :: (bt, z) :: R) ((b, y) :: (c, x) :: R) :=
 (Hs.sub (G' := (c, x) :: (b, y) :: R) (((List.Sublist.refl R).cons (bt, z) |>.cons_cons (b, y)).cons_cons (c, x))).trans (Hs.perm (List.Perm.swap _ _ _))
theorem pow_step (e : Nat) (h : 2 ^ (4 + e) ≤ 4096) : IntKind.i64.wrap (((2 ^ (4 + e) : Nat) : Int) * 2) = ((2 ^ (4 + (e + 1)) : Nat) : Int) := by
 have e1 : 2 ^ (4 + (e + 1)) = 2 ^ (4 + e) * 2 := by rw [← Nat.add_assoc, Nat.pow_succ]
 rw [e1, wrap64_id (by omega) (by omega)]
 rfl
theorem map_take_succ {ts : List Tm} {i : Nat} {t : Tm} (h : ts[i]? = some t) : (ts.take (i + 1)).map packL = (ts.take i).map packL ++ [packL t] := by
 rw [List.take_add_one, h, List.map_append]
 rfl
theorem not_before {ts : List Tm} {i : Nat} {t : Tm} (hd : (ts.map packL).Nodup) (h : ts[i]? = some t) : packL t ∉ (ts.take i).map packL := by
 intro hm
 obtain ⟨j, hj⟩ := List.getElem?_of_mem hm
 have hlt := (List.getElem?_eq_some_iff.1 hj).1
 rw [List.length_map, List.length_take] at hlt
 rw [List.getElem?_map, List.getElem?_take_of_lt (by omega), ← List.getElem?_map] at hj
 have := nodup_get hd hj (n := i) (by rw [List.getElem?_map, h]; rfl)
 omega
theorem dict_build (w0 : World) (G : Hp) (ts : List Tm) (va ve : Value) (Ha He : Hp) (b bt lim sz : Nat) (tab : List Nat) (m : Nat) (hr : Raw ts va ve Ha He) (hm : m = 2 * ts.length) (hd : (ts.map packL).Nodup) : GC Tryz.prog w0 51 #[.pointer (some ⟨b, 0, none⟩), .int .i64 (m : Nat)] (fun v G' => ∃ c k tab2, (v = .tuple #[] ∧ 4 ≤ k ∧ k ≤ 12 ∧ TabOk (ts.map packL) k tab2 ∧ 2 * m + 2 ≤ 2 ^ k) ∧ (b, dictC lim va ve c (2 ^ k)) :: (c, tabC tab2) :: (Ha ++ (He ++ G)) = G') ((b, dictC lim va ve bt sz) :: (bt, tabC tab) :: (Ha ++ (He ++ G))) := by
 have hmost := hr.most
 obtain ⟨Ae, ce, rfl, hce⟩ := hr.he.split
 refine GC.body (args := [.pointer (some ⟨b, 0, none⟩), .int .i64 (m : Nat)]) Tryz.func51 rfl (by kernel_rfl) rfl ?_
 refine GW.seq ?_
 refine GW.region ?_
 refine R.assign ⟨rfl, rfl, rfl, rfl⟩ rfl ?_
 refine GOps.nil ?_
 refine GW.seq ?_
 refine GW.block ?_
 refine GW.loopI (fun e : Nat => [(0, .pointer (some ⟨b, 0, none⟩)), (1, .int .i64 (m : Nat)), (4, .int .i64 (((2 ^ (4 + e)) : Nat) : Int))]) (fun e => ((b, dictC lim va (.slice Ae ts.length ce) bt sz) :: (bt, tabC tab) :: (Ha ++ (He ++ G)))) (fun e => 8 - e) (fun e => e ≤ 8) 0
  (by repeat (first | exact Keeps.nil _ | refine Keeps.cons rfl ?_)) (Hs.refl _) (Nat.zero_le _) ?_
 rintro e he
 refine GW.seq ?_
 refine GW.seq ?_
 refine GW.region ?_
 refine R.move ⟨rfl, rfl, rfl, rfl⟩ rfl ?_
 refine R.move ⟨rfl, rfl, rfl, rfl⟩ rfl ?_
 refine R.mul (r := (((2 * m) : Nat) : Int)) ⟨rfl, rfl, rfl, rfl⟩ rfl rfl (by rw [wrap64_id (by omega) (by omega)]; omega) ?_
 refine R.add (r := ((((2 * m) + 2) : Nat) : Int)) ⟨rfl, rfl, rfl, rfl⟩ rfl rfl (by rw [wrap64_id (by omega) (by omega)]; omega) ?_
 refine R.lss ⟨rfl, rfl, rfl, rfl⟩ rfl rfl ?_
 refine GOps.nil ?_
 refine GW.ite rfl (fun hc1 => ?_) (fun hc1 => ?_)
 ·try simp only [dcQ] at hc1
  have he8 : e ≠ 8 := by rintro rfl; simp at hc1; omega
  have hp4 : 2 ^ (4 + e) ≤ 2 ^ 12 := Nat.pow_le_pow_right (by decide) (by omega)
  refine GW.skip ?_
  refine GW.block ?_
  refine GW.region ?_
  refine R.move ⟨rfl, rfl, rfl, rfl⟩ rfl ?_
  refine R.mul (r := ((2 ^ (4 + (e + 1)) : Nat) : Int)) ⟨rfl, rfl, rfl, rfl⟩ rfl rfl (pow_step e (by omega)) ?_
  refine R.assign ⟨rfl, rfl, rfl, rfl⟩ rfl ?_
  refine GOps.nil ?_
  exact ⟨e + 1, by omega, by omega, rfl, by repeat (first | exact Keeps.nil _ | refine Keeps.cons rfl ?_), by first | exact Hs.refl _ | exact Hs.tl _ | exact Hs.tl2 _ _⟩
 ·try simp only [dcQ] at hc1
  have hp4 : 2 ^ (4 + e) ≤ 2 ^ 12 := Nat.pow_le_pow_right (by decide) (by omega)
  have hp0 : 0 < 2 ^ (4 + e) := Nat.pow_pos (by decide)
  refine GW.exit ?_
  refine GW.cutE (fun b15 u15 => [(0, .pointer (some ⟨b, 0, none⟩))]) (fun b15 u15 => (b, dictC lim va (.slice Ae ts.length ce) b15 (2 ^ (4 + e))) :: (b15, tabC (List.replicate (2 ^ (4 + e)) 0)) :: (Ha ++ (He ++ G))) ?_ ?_
  ·refine GW.region ?_
   refine R.move ⟨rfl, rfl, rfl, rfl⟩ rfl ?_
   refine R.move ⟨rfl, rfl, rfl, rfl⟩ rfl ?_
   refine R.makeZero (n := (2 ^ (4 + e))) (bytes := 4) (z0 := .int .u32 0) ⟨rfl, rfl, rfl, rfl⟩ (by rfl) (by rfl) Tryz.underlying100 (InfoE.mk (by kernel_rfl)) (InfoZ.mk (by kernel_rfl)) (by omega) (by omega) fun b15 => ?_
   refine R.nilCheck ⟨rfl, rfl, rfl, rfl⟩ rfl ?_
   refine R.fieldAddr ⟨rfl, rfl, rfl, rfl⟩ rfl Tryz.underlying103 rfl Tryz.sizeOf100 ?_   -- "table"
   refine R.store (G1 := [_]) rfl rfl rfl rfl rfl Tryz.sizeOf100 rfl rfl (rfl) (Nat.le_of_ble_eq_true rfl) ?_
   refine GOps.nil ?_
   exact ⟨rfl, rfl, b15, 0, by repeat (first | exact Keeps.nil _ | refine Keeps.cons rfl ?_), by rw [tab_zero]; exact build_hs _⟩
  ·intro b15 u15
   refine GW.seq ?_
   refine GW.region ?_
   refine R.move ⟨rfl, rfl, rfl, rfl⟩ rfl ?_
   refine R.nilCheck ⟨rfl, rfl, rfl, rfl⟩ rfl ?_
   refine R.fieldAddr ⟨rfl, rfl, rfl, rfl⟩ rfl Tryz.underlying103 rfl Tryz.sizeOf32 ?_   -- "ends"
   refine R.load1 ⟨rfl, rfl, rfl, rfl⟩ rfl Tryz.underlying32 rfl (.own' memG (by rfl)) ?_
   refine R.lenS ⟨rfl, rfl, rfl, rfl⟩ rfl rfl Tryz.underlying32 ?_
   refine R.move ⟨rfl, rfl, rfl, rfl⟩ rfl ?_
   refine GOps.nil ?_
   refine GW.block ?_
   refine GW.loop4 (fun (i : Nat) (tab2 : List Nat) (u1 : Unit) (u2 : Unit) => [(0, .pointer (some ⟨b, 0, none⟩)), (22, .int .i64 ts.length), (23, .int .i64 i)]) (fun (i : Nat) (tab2 : List Nat) (u1 : Unit) (u2 : Unit) => (b, dictC lim va (.slice Ae ts.length ce) b15 (2 ^ (4 + e))) :: (b15, tabC tab2) :: (Ha ++ (He ++ G))) (fun i : Nat => ts.length - i) (fun (i : Nat) (tab2 : List Nat) (u1 : Unit) (u2 : Unit) => i ≤ ts.length ∧ TabOk ((ts.take i).map packL) (4 + e) tab2) 0 (List.replicate (2 ^ (4 + e)) 0) (()) (())
    (by repeat (first | exact Keeps.nil _ | refine Keeps.cons rfl ?_)) (Hs.refl _) (⟨Nat.zero_le _, TabOk.empty _⟩) ?_
   rintro i tab2 u1 u2 ⟨hi, ht⟩
   refine GW.seq ?_
   refine GW.region ?_
   refine R.lss ⟨rfl, rfl, rfl, rfl⟩ rfl rfl ?_
   refine GOps.nil ?_
   refine GW.seq ?_
   refine GW.ite rfl (fun hc2 => ?_) (fun hc2 => ?_)
   ·try simp only [dcQ] at hc2
    obtain ⟨x, hx⟩ : ∃ x, ts[i]? = some x := ⟨_, List.getElem?_eq_getElem (by omega)⟩
    have hxm := hr.may x (List.mem_of_getElem? hx)
    have hxl := packL_len x
    have hxf := mayT_facts hxm
    refine GW.skip ?_
    refine GW.seq ?_
    refine GW.block ?_
    refine GW.seq ?_
    refine GW.region ?_
    refine R.move ⟨rfl, rfl, rfl, rfl⟩ rfl ?_
    refine R.assign ⟨rfl, rfl, rfl, rfl⟩ rfl ?_
    refine GOps.nil ?_
    refine GW.draw ((b, dictC lim va (.slice Ae ts.length ce) b15 (2 ^ (4 + e))) :: (Ha ++ (He ++ G))) 16 rfl (by kernel_rfl) ?_
    refine GA.val 0 rfl (V.move ⟨rfl, rfl, rfl, rfl⟩ rfl) rfl (by kernel_rfl) (by kernel_rfl) (by kernel_rfl) ?_
    refine GA.val 1 rfl (V.nilCheck ⟨rfl, rfl, rfl, rfl⟩ rfl) rfl (by kernel_rfl) (by kernel_rfl) (by kernel_rfl) ?_
    refine GA.val 2 rfl (V.fieldAddr ⟨rfl, rfl, rfl, rfl⟩ rfl Tryz.underlying103 rfl Tryz.sizeOf100) rfl (by kernel_rfl) (by kernel_rfl) (by kernel_rfl) ?_   -- "table"
    refine GA.val 3 rfl (V.load1 ⟨rfl, rfl, rfl, rfl⟩ rfl Tryz.underlying100 rfl (.own' memG (by rfl))) rfl (by kernel_rfl) (by kernel_rfl) (by kernel_rfl) ?_
    refine GA.val 4 rfl (V.move ⟨rfl, rfl, rfl, rfl⟩ rfl) rfl (by kernel_rfl) (by kernel_rfl) (by kernel_rfl) ?_
    refine GA.val 5 rfl (V.move ⟨rfl, rfl, rfl, rfl⟩ rfl) rfl (by kernel_rfl) (by kernel_rfl) (by kernel_rfl) ?_
    refine GA.val 6 rfl (V.move ⟨rfl, rfl, rfl, rfl⟩ rfl) rfl (by kernel_rfl) (by kernel_rfl) (by kernel_rfl) ?_
    refine GA.val 7 rfl (V.add (r := (((i + 1) : Nat) : Int)) ⟨rfl, rfl, rfl, rfl⟩ rfl rfl (by rw [wrap64_id (by omega) (by omega)]; omega)) rfl (by kernel_rfl) (by kernel_rfl) (by kernel_rfl) ?_
    refine GA.val 8 rfl (V.conv (r := ((i + 1 : Nat) : Int)) ⟨rfl, rfl, rfl, rfl⟩ rfl Tryz.underlying3 Tryz.underlying35 (u32_id _ (by omega))) rfl (by kernel_rfl) (by kernel_rfl) (by kernel_rfl) ?_
    refine GA.val 11 rfl (V.move ⟨rfl, rfl, rfl, rfl⟩ rfl) rfl (by kernel_rfl) (by kernel_rfl) (by kernel_rfl) ?_
    refine GA.val 12 rfl (V.add (r := (((i + 1) : Nat) : Int)) ⟨rfl, rfl, rfl, rfl⟩ rfl rfl (by rw [wrap64_id (by omega) (by omega)]; omega)) rfl (by kernel_rfl) (by kernel_rfl) (by kernel_rfl) ?_
    refine GA.val 13 rfl (V.conv (r := ((i + 1 : Nat) : Int)) ⟨rfl, rfl, rfl, rfl⟩ rfl Tryz.underlying3 Tryz.underlying35 (u32_id _ (by omega))) rfl (by kernel_rfl) (by kernel_rfl) (by kernel_rfl) ?_
    refine GA.one 9 (by first | exact Hs.drop2 _ _ _ | exact Hs.refl _ | exact Hs.tl _ | exact Hs.tl2 _ _ | exact Hs.tl3 _ _ _ | exact Hs.app _ | exact Hs.sub (by simp)) (by kernel_rfl) rfl ?_
    refine R.call ⟨rfl, rfl, rfl, rfl⟩ rfl (vs := [_, _]) rfl ((dict_at _ _ ts va (.slice Ae ts.length ce) Ha He b b15 lim (2 ^ (4 + e)) tab2 i x hr hx).mono ?_)
    rintro _ _ ⟨xa, xf, ⟨rfl, hxr⟩, rfl⟩
    refine GOps.nil ?_
    refine GA.one 10 (by first | exact Hs.drop2 _ _ _ | exact Hs.refl _ | exact Hs.tl _ | exact Hs.tl2 _ _ | exact Hs.tl3 _ _ _ | exact Hs.app _ | exact Hs.sub (by simp)) (by kernel_rfl) rfl ?_
    refine R.call ⟨rfl, rfl, rfl, rfl⟩ rfl (vs := [_, _]) rfl ((dict_slot _ _ ts va (.slice Ae ts.length ce) Ha He b b15 lim (2 ^ (4 + e)) tab2 (4 + e) i (packL x) xa xf _ hr ht.len ht (by omega) hi (by omega) hxr (packL_lt hxm) (by omega)).mono ?_)
    rintro _ _ ⟨q, ⟨rfl, hq⟩, rfl⟩
    have hql := hq.lt ht
    have hql2 : q < 2 ^ (4 + e) := by rw [← ht.len]; exact hql
    refine GOps.nil ?_
    refine GA.val 14 rfl (V.indexAddrS ⟨rfl, rfl, rfl, rfl⟩ rfl rfl Tryz.underlying100 Tryz.sizeOf35 (by omega) (by omega)) rfl (by kernel_rfl) (by kernel_rfl) (by kernel_rfl) ?_
    refine GA.one 15 (by first | exact Hs.drop2 _ _ _ | exact Hs.refl _ | exact Hs.tl _ | exact Hs.tl2 _ _ | exact Hs.tl3 _ _ _ | exact Hs.app _ | exact Hs.sub (by simp)) (by kernel_rfl) rfl ?_
    refine R.store (G1 := [_]) rfl rfl rfl rfl rfl Tryz.sizeOf35 rfl rfl (rfl) (by simp [u32C_len]; omega) ?_
    refine GOps.nil ?_
    refine GA.done (by first | exact Hs.drop2 _ _ _ | exact Hs.refl _ | exact Hs.tl _ | exact Hs.tl2 _ _ | exact Hs.tl3 _ _ _ | exact Hs.app _ | exact Hs.sub (by simp)) (by kernel_rfl) ?_
    refine GW.region ?_
    refine R.add (r := (((i + 1) : Nat) : Int)) ⟨rfl, rfl, rfl, rfl⟩ rfl rfl (by rw [wrap64_id (by omega) (by omega)]; omega) ?_
    refine R.move ⟨rfl, rfl, rfl, rfl⟩ rfl ?_
    refine GOps.nil ?_
    exact ⟨i + 1, tab2.set q (i + 1), (), (), by omega, ⟨by omega, by have := ht.put hq (not_before hd hx); rw [map_take_succ hx]; rw [List.length_map, List.length_take, Nat.min_eq_left (by omega)] at this; exact this⟩, rfl, by repeat (first | exact Keeps.nil _ | refine Keeps.cons rfl ?_), by first | exact Hs.refl _ | exact Hs.tl _ | exact Hs.tl2 _ _ | exact Hs.eq (by rw [tab_put hql]; rfl)⟩
   ·try simp only [dcQ] at hc2
    refine GW.exit ?_
    rw [List.take_of_length_le (by omega)] at ht
    exact Out.end_ (Res.none rfl) (Hs.refl _) ⟨b15, 4 + e, tab2, ⟨rfl, by omega, by omega, ht, by omega⟩, rfl⟩
end Go.Proofs.YtfddkcmooommeaaGreatDoor.Gl
end
