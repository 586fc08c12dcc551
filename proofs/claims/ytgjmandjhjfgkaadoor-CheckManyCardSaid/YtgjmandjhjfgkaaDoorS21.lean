import Derived.Test.YtgjmandjhjfgkaaDoorS20
namespace Go.Proofs.YtgjmandjhjfgkaaDoor.Gl
open Go.RowKit Go.Shelf
set_option linter.unusedVariables false
set_option linter.unnecessarySimpa false
set_option linter.unusedSimpArgs false
attribute [-simp] List.getD_eq_getElem?_getD



/-! ### the fixed rows -/
def kPT : Tm := ⟨1, ⟨#[104, 116, 116, 112, 58, 47, 47, 112]⟩, ByteArray.empty⟩
def kP : Sl := ⟨ByteArray.empty, kPT⟩
def kV (s : ByteArray) : Sl := ⟨s, zTm⟩
def kx : ByteArray := ⟨#[120]⟩
def ky : ByteArray := ⟨#[121]⟩
def kz : ByteArray := ⟨#[122]⟩
def kL : Lt := ⟨1, ⟨kV kx, kP, kV kz⟩, zSl, zSl⟩
def kR : Rl := ⟨⟨kV kx, kP, kV ky⟩, [kL]⟩
def kO : Rl := ⟨⟨kV kx, kP, kV kz⟩, [kL]⟩
theorem k_prog : progE [kO] = 0 := by decide +kernel
theorem k_neg : negates [kO] = false := by decide +kernel
theorem k_r : chkE kR = 5 := by decide +kernel
theorem k_o : chkE kO = 0 := by decide +kernel
theorem k_val : progV [kO] = .tuple #[.agg #[.bool true], .int .i64 0] := by unfold progV; rw [k_prog, k_neg]; rfl
theorem kL_ok : LtOk kL := by unfold LtOk PtOk SlOk; decide +kernel
theorem kR_ok : RlOk kR := ⟨by unfold PtOk SlOk; decide +kernel, fun l hl => by rw [show kR.body = [kL] from rfl, List.mem_singleton] at hl; subst hl; exact kL_ok⟩
theorem kO_ok : RlOk kO := ⟨by unfold PtOk SlOk; decide +kernel, fun l hl => by rw [show kO.body = [kL] from rfl, List.mem_singleton] at hl; subst hl; exact kL_ok⟩
theorem k_lts {w0 : World} {G : Hp} {b : Nat} {e : TypeId} (h : (b, Know.exact (.cells (LtC kL).toArray e (0, 0))) ∈ G) : LtsAt w0 G (some ⟨b, 0, none⟩) [kL] := by
  intro i x hx
  cases i with
  | zero =>
    simp at hx
    subst hx
    exact ⟨b, 0, _, rfl, rfl, .own h _ _ (fun j v hv => by simpa using hv)⟩
  | succ i => simp at hx
theorem k_rls {w0 : World} {G : Hp} {b b' : Nat} {e e' : TypeId} (h : (b, Know.exact (.cells (RlC kO.head (.slice (some ⟨b', 0, none⟩) 1 1)).toArray e (0, 0))) ∈ G) (h' : (b', Know.exact (.cells (LtC kL).toArray e' (0, 0))) ∈ G) : RlsAt w0 G (some ⟨b, 0, none⟩) [kO] := by
  intro i x hx
  cases i with
  | zero =>
    simp at hx
    subst hx
    exact ⟨b, 0, _, rfl, ⟨_, 1, rfl, by decide, by decide, k_lts h'⟩, .own h _ _ (fun j v hv => by have hv' : (RlC kO.head (.slice (some ⟨b', 0, none⟩) 1 1))[j]? = some v := hv; simpa using hv')⟩
  | succ i => simp at hx


theorem known1 (w0 : World) (G : Hp) (s : ByteArray) : GC Tryd.prog w0 12 #[.string s] (fun v G' => v = .agg (SlC (kV s)).toArray ∧ G = G') G := by
  refine GC.body (args := [.string s]) Tryd.func12 rfl (by kernel_rfl) rfl ?_
  refine GW.seq ?_
  refine GW.region ?_
  refine R.alloc ⟨rfl, rfl, rfl, rfl⟩ Tryd.zeroValue37 fun b2 => ?_
  refine GOps.nil ?_
  refine GW.seq ?_
  refine GW.region ?_
  refine R.move ⟨rfl, rfl, rfl, rfl⟩ rfl ?_
  refine R.build (vs := [(0, _)]) (cells := (SlC (kV s)).toArray) ⟨rfl, rfl, rfl, rfl⟩ rfl (fun w => run_build w 37 _ _ (by kernel_rfl)) ?_   -- build 0 type 37
  refine R.storeAll (G1 := []) rfl rfl rfl rfl rfl Tryd.sizeOf37 rfl rfl rfl rfl ?_   -- t2
  refine GOps.nil ?_
  exact GW.ret (Out.of (resCellA rfl rfl Tryd.underlying37 rfl Tryd.sizeOf37 (Rds.own (C := (SlC (kV s)).toArray) List.mem_cons_self 0 _ (fun j v hv => by simpa using hv)) rfl) (Hs.tl _) ⟨rfl, rfl⟩)

theorem law_known (w0 : World) (G : Hp) : GC Tryd.prog w0 7 #[] (fun v G' => v = .bool true ∧ G = G') G := by
  refine GC.body (args := []) Tryd.func7 rfl (by kernel_rfl) rfl ?_
  refine GW.seq ?_
  refine GW.region ?_
  refine R.assign ⟨rfl, rfl, rfl, rfl⟩ rfl ?_
  refine GOps.nil ?_
  refine GW.seq ?_
  refine GW.region ?_
  refine R.build (vs := [(0, _), (1, _)]) (cells := (TmC kPT).toArray) ⟨rfl, rfl, rfl, rfl⟩ rfl (fun w => run_build w 35 _ _ (by kernel_rfl)) ?_   -- build 0 type 35
  refine R.build (vs := [(1, _)]) (cells := (SlC kP).toArray) ⟨rfl, rfl, rfl, rfl⟩ rfl (fun w => run_build w 37 _ _ (by kernel_rfl)) ?_   -- build 1 type 37
  refine R.alloc ⟨rfl, rfl, rfl, rfl⟩ Tryd.zeroValue37 fun b1 => ?_
  refine R.storeAll (G1 := []) rfl rfl rfl rfl rfl Tryd.sizeOf37 rfl rfl rfl rfl ?_   -- t1:p
  refine GOps.nil ?_
  refine GW.seq ?_
  refine GW.region ?_
  refine R.assign ⟨rfl, rfl, rfl, rfl⟩ rfl ?_
  refine GOps.nil ?_
  refine GW.cutE (fun b3 b22 => [(1, .pointer (some ⟨b1, 0, none⟩)), (2, .func (.func 12) #[] #[]), (3, .pointer (some ⟨b3, 0, none⟩))]) (fun b3 b22 => (b3, .exact (.cells (RlC kR.head (.slice (some ⟨b22, 0, none⟩) 1 1)).toArray 46 (0, 0))) :: (b22, .exact (.cells (LtC kL).toArray 43 (0, 0))) :: (b1, .exact (.cells (SlC kP).toArray 37 (0, 0))) :: G) ?_ ?_
  · refine GW.drawS 17 rfl (by kernel_rfl) ?_
    refine GA.val 0 rfl (V.move ⟨rfl, rfl, rfl, rfl⟩ rfl) rfl (by kernel_rfl) (by kernel_rfl) (by kernel_rfl) ?_
    refine GA.val 2 rfl (V.load_own (cs := SlC kP) ⟨rfl, rfl, rfl, rfl⟩ rfl Tryd.underlying37 rfl Tryd.sizeOf37 (by repeat (first | exact List.mem_cons_self | apply List.mem_cons_of_mem | apply List.mem_append_right)) (by rfl) (by rfl)) rfl (by kernel_rfl) (by kernel_rfl) (by kernel_rfl) ?_   -- load 0 law.go:14 t1:p
    refine GA.val 3 rfl (V.move ⟨rfl, rfl, rfl, rfl⟩ rfl) rfl (by kernel_rfl) (by kernel_rfl) (by kernel_rfl) ?_
    refine GA.val 6 rfl (V.move ⟨rfl, rfl, rfl, rfl⟩ rfl) rfl (by kernel_rfl) (by kernel_rfl) (by kernel_rfl) ?_
    refine GA.val 8 rfl (V.load_own (cs := SlC kP) ⟨rfl, rfl, rfl, rfl⟩ rfl Tryd.underlying37 rfl Tryd.sizeOf37 (by repeat (first | exact List.mem_cons_self | apply List.mem_cons_of_mem | apply List.mem_append_right)) (by rfl) (by rfl)) rfl (by kernel_rfl) (by kernel_rfl) (by kernel_rfl) ?_   -- load 1 law.go:14 t1:p
    refine GA.val 9 rfl (V.move ⟨rfl, rfl, rfl, rfl⟩ rfl) rfl (by kernel_rfl) (by kernel_rfl) (by kernel_rfl) ?_
    refine GA.two 1 15 (by first | exact Hs.refl _ | exact Hs.tl _ | exact Hs.tl2 _ _ | exact Hs.tl3 _ _ _ | exact Hs.sub (by simp)) (by kernel_rfl) rfl rfl ?_ ?_
    · refine R.call ⟨rfl, rfl, rfl, rfl⟩ rfl (vs := [_]) rfl ((known1 _ _ kx).mono ?_)
      rintro _ _ ⟨rfl, rfl⟩
      refine GOps.nil ?_
      refine GA.two 4 15 (by first | exact Hs.refl _ | exact Hs.tl _ | exact Hs.tl2 _ _ | exact Hs.tl3 _ _ _ | exact Hs.sub (by simp)) (by kernel_rfl) rfl rfl ?_ ?_
      · refine R.call ⟨rfl, rfl, rfl, rfl⟩ rfl (vs := [_]) rfl ((known1 _ _ ky).mono ?_)
        rintro _ _ ⟨rfl, rfl⟩
        refine GOps.nil ?_
        refine GA.val 5 rfl (V.build (vs := [(0, _), (1, _), (2, _)]) (cells := (PtC kR.head).toArray) ⟨rfl, rfl, rfl, rfl⟩ rfl (fun w => run_build w 40 _ _ (by kernel_rfl))) rfl (by kernel_rfl) (by kernel_rfl) (by kernel_rfl) ?_   -- build 2 type 40
        refine GA.two 7 15 (by first | exact Hs.refl _ | exact Hs.tl _ | exact Hs.tl2 _ _ | exact Hs.tl3 _ _ _ | exact Hs.sub (by simp)) (by kernel_rfl) rfl rfl ?_ ?_
        · refine R.call ⟨rfl, rfl, rfl, rfl⟩ rfl (vs := [_]) rfl ((known1 _ _ kx).mono ?_)
          rintro _ _ ⟨rfl, rfl⟩
          refine GOps.nil ?_
          refine GA.two 10 15 (by first | exact Hs.refl _ | exact Hs.tl _ | exact Hs.tl2 _ _ | exact Hs.tl3 _ _ _ | exact Hs.sub (by simp)) (by kernel_rfl) rfl rfl ?_ ?_
          · refine R.call ⟨rfl, rfl, rfl, rfl⟩ rfl (vs := [_]) rfl ((known1 _ _ kz).mono ?_)
            rintro _ _ ⟨rfl, rfl⟩
            refine GOps.nil ?_
            refine GA.val 11 rfl (V.build (vs := [(0, _), (1, _), (2, _)]) (cells := (PtC kL.pat).toArray) ⟨rfl, rfl, rfl, rfl⟩ rfl (fun w => run_build w 40 _ _ (by kernel_rfl))) rfl (by kernel_rfl) (by kernel_rfl) (by kernel_rfl) ?_   -- build 3 type 40
            refine GA.val 12 rfl (V.build (vs := [(0, _), (1, _)]) (cells := (LtC kL).toArray) ⟨rfl, rfl, rfl, rfl⟩ rfl (fun w => run_build w 43 _ _ (by kernel_rfl))) rfl (by kernel_rfl) (by kernel_rfl) (by kernel_rfl) ?_   -- build 4 type 43
            refine GA.two 13 15 (by first | exact Hs.refl _ | exact Hs.tl _ | exact Hs.tl2 _ _ | exact Hs.tl3 _ _ _ | exact Hs.sub (by simp)) (by kernel_rfl) rfl rfl ?_ ?_
            · refine R.buildSliceF (sz := 21) (bytes := 288) (vs := [_]) (cs := LtC kL) ⟨rfl, rfl, rfl, rfl⟩ rfl Tryd.underlying44 (InfoE.mk (by kernel_rfl)) rfl rfl rfl rfl rfl fun b22 => ?_   -- build 5 type 44
              refine GOps.nil ?_
              refine GA.val 14 rfl (V.build (vs := [(0, _), (1, _)]) (cells := (RlC kR.head (.slice (some ⟨b22, 0, none⟩) 1 1)).toArray) ⟨rfl, rfl, rfl, rfl⟩ rfl (fun w => run_build w 46 _ _ (by kernel_rfl))) rfl (by kernel_rfl) (by kernel_rfl) (by kernel_rfl) ?_   -- build 6 type 46
              refine GA.one 15 (by first | exact Hs.refl _ | exact Hs.tl _ | exact Hs.tl2 _ _ | exact Hs.tl3 _ _ _ | exact Hs.sub (by simp)) (by kernel_rfl) rfl ?_
              refine R.alloc ⟨rfl, rfl, rfl, rfl⟩ Tryd.zeroValue46 fun b3 => ?_
              refine GOps.nil ?_
              refine GA.one 16 (by first | exact Hs.refl _ | exact Hs.tl _ | exact Hs.tl2 _ _ | exact Hs.tl3 _ _ _ | exact Hs.sub (by simp)) (by kernel_rfl) rfl ?_
              first | refine R.storeAll (G1 := []) rfl rfl rfl rfl rfl Tryd.sizeOf46 rfl rfl rfl rfl ?_ | refine R.storeAll (G1 := [_]) rfl rfl rfl rfl rfl Tryd.sizeOf46 rfl rfl rfl rfl ?_
              refine GOps.nil ?_
              refine GA.done (by first | exact Hs.refl _ | exact Hs.tl _ | exact Hs.tl2 _ _ | exact Hs.tl3 _ _ _ | exact Hs.sub (by simp)) (by kernel_rfl) ?_
              exact ⟨rfl, rfl, b3, b22, by repeat (first | exact Keeps.nil _ | refine Keeps.cons rfl ?_), by first | exact Hs.refl _ | exact Hs.perm (List.Perm.swap _ _ _)⟩
            · refine R.alloc ⟨rfl, rfl, rfl, rfl⟩ Tryd.zeroValue46 fun b3 => ?_
              refine GOps.nil ?_
              refine GA.one 13 (by first | exact Hs.refl _ | exact Hs.tl _ | exact Hs.tl2 _ _ | exact Hs.tl3 _ _ _ | exact Hs.sub (by simp)) (by kernel_rfl) rfl ?_
              refine R.buildSliceF (sz := 21) (bytes := 288) (vs := [_]) (cs := LtC kL) ⟨rfl, rfl, rfl, rfl⟩ rfl Tryd.underlying44 (InfoE.mk (by kernel_rfl)) rfl rfl rfl rfl rfl fun b22 => ?_   -- build 7 type 44
              refine GOps.nil ?_
              refine GA.val 14 rfl (V.build (vs := [(0, _), (1, _)]) (cells := (RlC kR.head (.slice (some ⟨b22, 0, none⟩) 1 1)).toArray) ⟨rfl, rfl, rfl, rfl⟩ rfl (fun w => run_build w 46 _ _ (by kernel_rfl))) rfl (by kernel_rfl) (by kernel_rfl) (by kernel_rfl) ?_   -- build 8 type 46
              refine GA.one 16 (by first | exact Hs.refl _ | exact Hs.tl _ | exact Hs.tl2 _ _ | exact Hs.tl3 _ _ _ | exact Hs.sub (by simp)) (by kernel_rfl) rfl ?_
              first | refine R.storeAll (G1 := []) rfl rfl rfl rfl rfl Tryd.sizeOf46 rfl rfl rfl rfl ?_ | refine R.storeAll (G1 := [_]) rfl rfl rfl rfl rfl Tryd.sizeOf46 rfl rfl rfl rfl ?_
              refine GOps.nil ?_
              refine GA.done (by first | exact Hs.refl _ | exact Hs.tl _ | exact Hs.tl2 _ _ | exact Hs.tl3 _ _ _ | exact Hs.sub (by simp)) (by kernel_rfl) ?_
              exact ⟨rfl, rfl, b3, b22, by repeat (first | exact Keeps.nil _ | refine Keeps.cons rfl ?_), by first | exact Hs.refl _ | exact Hs.perm (List.Perm.swap _ _ _)⟩
          · refine R.alloc ⟨rfl, rfl, rfl, rfl⟩ Tryd.zeroValue46 fun b3 => ?_
            refine GOps.nil ?_
            refine GA.one 10 (by first | exact Hs.refl _ | exact Hs.tl _ | exact Hs.tl2 _ _ | exact Hs.tl3 _ _ _ | exact Hs.sub (by simp)) (by kernel_rfl) rfl ?_
            refine R.call ⟨rfl, rfl, rfl, rfl⟩ rfl (vs := [_]) rfl ((known1 _ _ kz).mono ?_)
            rintro _ _ ⟨rfl, rfl⟩
            refine GOps.nil ?_
            refine GA.val 11 rfl (V.build (vs := [(0, _), (1, _), (2, _)]) (cells := (PtC kL.pat).toArray) ⟨rfl, rfl, rfl, rfl⟩ rfl (fun w => run_build w 40 _ _ (by kernel_rfl))) rfl (by kernel_rfl) (by kernel_rfl) (by kernel_rfl) ?_   -- build 9 type 40
            refine GA.val 12 rfl (V.build (vs := [(0, _), (1, _)]) (cells := (LtC kL).toArray) ⟨rfl, rfl, rfl, rfl⟩ rfl (fun w => run_build w 43 _ _ (by kernel_rfl))) rfl (by kernel_rfl) (by kernel_rfl) (by kernel_rfl) ?_   -- build 10 type 43
            refine GA.one 13 (by first | exact Hs.refl _ | exact Hs.tl _ | exact Hs.tl2 _ _ | exact Hs.tl3 _ _ _ | exact Hs.sub (by simp)) (by kernel_rfl) rfl ?_
            refine R.buildSliceF (sz := 21) (bytes := 288) (vs := [_]) (cs := LtC kL) ⟨rfl, rfl, rfl, rfl⟩ rfl Tryd.underlying44 (InfoE.mk (by kernel_rfl)) rfl rfl rfl rfl rfl fun b22 => ?_   -- build 11 type 44
            refine GOps.nil ?_
            refine GA.val 14 rfl (V.build (vs := [(0, _), (1, _)]) (cells := (RlC kR.head (.slice (some ⟨b22, 0, none⟩) 1 1)).toArray) ⟨rfl, rfl, rfl, rfl⟩ rfl (fun w => run_build w 46 _ _ (by kernel_rfl))) rfl (by kernel_rfl) (by kernel_rfl) (by kernel_rfl) ?_   -- build 12 type 46
            refine GA.one 16 (by first | exact Hs.refl _ | exact Hs.tl _ | exact Hs.tl2 _ _ | exact Hs.tl3 _ _ _ | exact Hs.sub (by simp)) (by kernel_rfl) rfl ?_
            first | refine R.storeAll (G1 := []) rfl rfl rfl rfl rfl Tryd.sizeOf46 rfl rfl rfl rfl ?_ | refine R.storeAll (G1 := [_]) rfl rfl rfl rfl rfl Tryd.sizeOf46 rfl rfl rfl rfl ?_
            refine GOps.nil ?_
            refine GA.done (by first | exact Hs.refl _ | exact Hs.tl _ | exact Hs.tl2 _ _ | exact Hs.tl3 _ _ _ | exact Hs.sub (by simp)) (by kernel_rfl) ?_
            exact ⟨rfl, rfl, b3, b22, by repeat (first | exact Keeps.nil _ | refine Keeps.cons rfl ?_), by first | exact Hs.refl _ | exact Hs.perm (List.Perm.swap _ _ _)⟩
        · refine R.alloc ⟨rfl, rfl, rfl, rfl⟩ Tryd.zeroValue46 fun b3 => ?_
          refine GOps.nil ?_
          refine GA.one 7 (by first | exact Hs.refl _ | exact Hs.tl _ | exact Hs.tl2 _ _ | exact Hs.tl3 _ _ _ | exact Hs.sub (by simp)) (by kernel_rfl) rfl ?_
          refine R.call ⟨rfl, rfl, rfl, rfl⟩ rfl (vs := [_]) rfl ((known1 _ _ kx).mono ?_)
          rintro _ _ ⟨rfl, rfl⟩
          refine GOps.nil ?_
          refine GA.one 10 (by first | exact Hs.refl _ | exact Hs.tl _ | exact Hs.tl2 _ _ | exact Hs.tl3 _ _ _ | exact Hs.sub (by simp)) (by kernel_rfl) rfl ?_
          refine R.call ⟨rfl, rfl, rfl, rfl⟩ rfl (vs := [_]) rfl ((known1 _ _ kz).mono ?_)
          rintro _ _ ⟨rfl, rfl⟩
          refine GOps.nil ?_
          refine GA.val 11 rfl (V.build (vs := [(0, _), (1, _), (2, _)]) (cells := (PtC kL.pat).toArray) ⟨rfl, rfl, rfl, rfl⟩ rfl (fun w => run_build w 40 _ _ (by kernel_rfl))) rfl (by kernel_rfl) (by kernel_rfl) (by kernel_rfl) ?_   -- build 13 type 40
          refine GA.val 12 rfl (V.build (vs := [(0, _), (1, _)]) (cells := (LtC kL).toArray) ⟨rfl, rfl, rfl, rfl⟩ rfl (fun w => run_build w 43 _ _ (by kernel_rfl))) rfl (by kernel_rfl) (by kernel_rfl) (by kernel_rfl) ?_   -- build 14 type 43
          refine GA.one 13 (by first | exact Hs.refl _ | exact Hs.tl _ | exact Hs.tl2 _ _ | exact Hs.tl3 _ _ _ | exact Hs.sub (by simp)) (by kernel_rfl) rfl ?_
          refine R.buildSliceF (sz := 21) (bytes := 288) (vs := [_]) (cs := LtC kL) ⟨rfl, rfl, rfl, rfl⟩ rfl Tryd.underlying44 (InfoE.mk (by kernel_rfl)) rfl rfl rfl rfl rfl fun b22 => ?_   -- build 15 type 44
          refine GOps.nil ?_
          refine GA.val 14 rfl (V.build (vs := [(0, _), (1, _)]) (cells := (RlC kR.head (.slice (some ⟨b22, 0, none⟩) 1 1)).toArray) ⟨rfl, rfl, rfl, rfl⟩ rfl (fun w => run_build w 46 _ _ (by kernel_rfl))) rfl (by kernel_rfl) (by kernel_rfl) (by kernel_rfl) ?_   -- build 16 type 46
          refine GA.one 16 (by first | exact Hs.refl _ | exact Hs.tl _ | exact Hs.tl2 _ _ | exact Hs.tl3 _ _ _ | exact Hs.sub (by simp)) (by kernel_rfl) rfl ?_
          first | refine R.storeAll (G1 := []) rfl rfl rfl rfl rfl Tryd.sizeOf46 rfl rfl rfl rfl ?_ | refine R.storeAll (G1 := [_]) rfl rfl rfl rfl rfl Tryd.sizeOf46 rfl rfl rfl rfl ?_
          refine GOps.nil ?_
          refine GA.done (by first | exact Hs.refl _ | exact Hs.tl _ | exact Hs.tl2 _ _ | exact Hs.tl3 _ _ _ | exact Hs.sub (by simp)) (by kernel_rfl) ?_
          exact ⟨rfl, rfl, b3, b22, by repeat (first | exact Keeps.nil _ | refine Keeps.cons rfl ?_), by first | exact Hs.refl _ | exact Hs.perm (List.Perm.swap _ _ _)⟩
      · refine R.alloc ⟨rfl, rfl, rfl, rfl⟩ Tryd.zeroValue46 fun b3 => ?_
        refine GOps.nil ?_
        refine GA.one 4 (by first | exact Hs.refl _ | exact Hs.tl _ | exact Hs.tl2 _ _ | exact Hs.tl3 _ _ _ | exact Hs.sub (by simp)) (by kernel_rfl) rfl ?_
        refine R.call ⟨rfl, rfl, rfl, rfl⟩ rfl (vs := [_]) rfl ((known1 _ _ ky).mono ?_)
        rintro _ _ ⟨rfl, rfl⟩
        refine GOps.nil ?_
        refine GA.val 5 rfl (V.build (vs := [(0, _), (1, _), (2, _)]) (cells := (PtC kR.head).toArray) ⟨rfl, rfl, rfl, rfl⟩ rfl (fun w => run_build w 40 _ _ (by kernel_rfl))) rfl (by kernel_rfl) (by kernel_rfl) (by kernel_rfl) ?_   -- build 17 type 40
        refine GA.one 7 (by first | exact Hs.refl _ | exact Hs.tl _ | exact Hs.tl2 _ _ | exact Hs.tl3 _ _ _ | exact Hs.sub (by simp)) (by kernel_rfl) rfl ?_
        refine R.call ⟨rfl, rfl, rfl, rfl⟩ rfl (vs := [_]) rfl ((known1 _ _ kx).mono ?_)
        rintro _ _ ⟨rfl, rfl⟩
        refine GOps.nil ?_
        refine GA.one 10 (by first | exact Hs.refl _ | exact Hs.tl _ | exact Hs.tl2 _ _ | exact Hs.tl3 _ _ _ | exact Hs.sub (by simp)) (by kernel_rfl) rfl ?_
        refine R.call ⟨rfl, rfl, rfl, rfl⟩ rfl (vs := [_]) rfl ((known1 _ _ kz).mono ?_)
        rintro _ _ ⟨rfl, rfl⟩
        refine GOps.nil ?_
        refine GA.val 11 rfl (V.build (vs := [(0, _), (1, _), (2, _)]) (cells := (PtC kL.pat).toArray) ⟨rfl, rfl, rfl, rfl⟩ rfl (fun w => run_build w 40 _ _ (by kernel_rfl))) rfl (by kernel_rfl) (by kernel_rfl) (by kernel_rfl) ?_   -- build 18 type 40
        refine GA.val 12 rfl (V.build (vs := [(0, _), (1, _)]) (cells := (LtC kL).toArray) ⟨rfl, rfl, rfl, rfl⟩ rfl (fun w => run_build w 43 _ _ (by kernel_rfl))) rfl (by kernel_rfl) (by kernel_rfl) (by kernel_rfl) ?_   -- build 19 type 43
        refine GA.one 13 (by first | exact Hs.refl _ | exact Hs.tl _ | exact Hs.tl2 _ _ | exact Hs.tl3 _ _ _ | exact Hs.sub (by simp)) (by kernel_rfl) rfl ?_
        refine R.buildSliceF (sz := 21) (bytes := 288) (vs := [_]) (cs := LtC kL) ⟨rfl, rfl, rfl, rfl⟩ rfl Tryd.underlying44 (InfoE.mk (by kernel_rfl)) rfl rfl rfl rfl rfl fun b22 => ?_   -- build 20 type 44
        refine GOps.nil ?_
        refine GA.val 14 rfl (V.build (vs := [(0, _), (1, _)]) (cells := (RlC kR.head (.slice (some ⟨b22, 0, none⟩) 1 1)).toArray) ⟨rfl, rfl, rfl, rfl⟩ rfl (fun w => run_build w 46 _ _ (by kernel_rfl))) rfl (by kernel_rfl) (by kernel_rfl) (by kernel_rfl) ?_   -- build 21 type 46
        refine GA.one 16 (by first | exact Hs.refl _ | exact Hs.tl _ | exact Hs.tl2 _ _ | exact Hs.tl3 _ _ _ | exact Hs.sub (by simp)) (by kernel_rfl) rfl ?_
        first | refine R.storeAll (G1 := []) rfl rfl rfl rfl rfl Tryd.sizeOf46 rfl rfl rfl rfl ?_ | refine R.storeAll (G1 := [_]) rfl rfl rfl rfl rfl Tryd.sizeOf46 rfl rfl rfl rfl ?_
        refine GOps.nil ?_
        refine GA.done (by first | exact Hs.refl _ | exact Hs.tl _ | exact Hs.tl2 _ _ | exact Hs.tl3 _ _ _ | exact Hs.sub (by simp)) (by kernel_rfl) ?_
        exact ⟨rfl, rfl, b3, b22, by repeat (first | exact Keeps.nil _ | refine Keeps.cons rfl ?_), by first | exact Hs.refl _ | exact Hs.perm (List.Perm.swap _ _ _)⟩
    · refine R.alloc ⟨rfl, rfl, rfl, rfl⟩ Tryd.zeroValue46 fun b3 => ?_
      refine GOps.nil ?_
      refine GA.one 1 (by first | exact Hs.refl _ | exact Hs.tl _ | exact Hs.tl2 _ _ | exact Hs.tl3 _ _ _ | exact Hs.sub (by simp)) (by kernel_rfl) rfl ?_
      refine R.call ⟨rfl, rfl, rfl, rfl⟩ rfl (vs := [_]) rfl ((known1 _ _ kx).mono ?_)
      rintro _ _ ⟨rfl, rfl⟩
      refine GOps.nil ?_
      refine GA.one 4 (by first | exact Hs.refl _ | exact Hs.tl _ | exact Hs.tl2 _ _ | exact Hs.tl3 _ _ _ | exact Hs.sub (by simp)) (by kernel_rfl) rfl ?_
      refine R.call ⟨rfl, rfl, rfl, rfl⟩ rfl (vs := [_]) rfl ((known1 _ _ ky).mono ?_)
      rintro _ _ ⟨rfl, rfl⟩
      refine GOps.nil ?_
      refine GA.val 5 rfl (V.build (vs := [(0, _), (1, _), (2, _)]) (cells := (PtC kR.head).toArray) ⟨rfl, rfl, rfl, rfl⟩ rfl (fun w => run_build w 40 _ _ (by kernel_rfl))) rfl (by kernel_rfl) (by kernel_rfl) (by kernel_rfl) ?_   -- build 22 type 40
      refine GA.one 7 (by first | exact Hs.refl _ | exact Hs.tl _ | exact Hs.tl2 _ _ | exact Hs.tl3 _ _ _ | exact Hs.sub (by simp)) (by kernel_rfl) rfl ?_
      refine R.call ⟨rfl, rfl, rfl, rfl⟩ rfl (vs := [_]) rfl ((known1 _ _ kx).mono ?_)
      rintro _ _ ⟨rfl, rfl⟩
      refine GOps.nil ?_
      refine GA.one 10 (by first | exact Hs.refl _ | exact Hs.tl _ | exact Hs.tl2 _ _ | exact Hs.tl3 _ _ _ | exact Hs.sub (by simp)) (by kernel_rfl) rfl ?_
      refine R.call ⟨rfl, rfl, rfl, rfl⟩ rfl (vs := [_]) rfl ((known1 _ _ kz).mono ?_)
      rintro _ _ ⟨rfl, rfl⟩
      refine GOps.nil ?_
      refine GA.val 11 rfl (V.build (vs := [(0, _), (1, _), (2, _)]) (cells := (PtC kL.pat).toArray) ⟨rfl, rfl, rfl, rfl⟩ rfl (fun w => run_build w 40 _ _ (by kernel_rfl))) rfl (by kernel_rfl) (by kernel_rfl) (by kernel_rfl) ?_   -- build 23 type 40
      refine GA.val 12 rfl (V.build (vs := [(0, _), (1, _)]) (cells := (LtC kL).toArray) ⟨rfl, rfl, rfl, rfl⟩ rfl (fun w => run_build w 43 _ _ (by kernel_rfl))) rfl (by kernel_rfl) (by kernel_rfl) (by kernel_rfl) ?_   -- build 24 type 43
      refine GA.one 13 (by first | exact Hs.refl _ | exact Hs.tl _ | exact Hs.tl2 _ _ | exact Hs.tl3 _ _ _ | exact Hs.sub (by simp)) (by kernel_rfl) rfl ?_
      refine R.buildSliceF (sz := 21) (bytes := 288) (vs := [_]) (cs := LtC kL) ⟨rfl, rfl, rfl, rfl⟩ rfl Tryd.underlying44 (InfoE.mk (by kernel_rfl)) rfl rfl rfl rfl rfl fun b22 => ?_   -- build 25 type 44
      refine GOps.nil ?_
      refine GA.val 14 rfl (V.build (vs := [(0, _), (1, _)]) (cells := (RlC kR.head (.slice (some ⟨b22, 0, none⟩) 1 1)).toArray) ⟨rfl, rfl, rfl, rfl⟩ rfl (fun w => run_build w 46 _ _ (by kernel_rfl))) rfl (by kernel_rfl) (by kernel_rfl) (by kernel_rfl) ?_   -- build 26 type 46
      refine GA.one 16 (by first | exact Hs.refl _ | exact Hs.tl _ | exact Hs.tl2 _ _ | exact Hs.tl3 _ _ _ | exact Hs.sub (by simp)) (by kernel_rfl) rfl ?_
      first | refine R.storeAll (G1 := []) rfl rfl rfl rfl rfl Tryd.sizeOf46 rfl rfl rfl rfl ?_ | refine R.storeAll (G1 := [_]) rfl rfl rfl rfl rfl Tryd.sizeOf46 rfl rfl rfl rfl ?_
      refine GOps.nil ?_
      refine GA.done (by first | exact Hs.refl _ | exact Hs.tl _ | exact Hs.tl2 _ _ | exact Hs.tl3 _ _ _ | exact Hs.sub (by simp)) (by kernel_rfl) ?_
      exact ⟨rfl, rfl, b3, b22, by repeat (first | exact Keeps.nil _ | refine Keeps.cons rfl ?_), by first | exact Hs.refl _ | exact Hs.perm (List.Perm.swap _ _ _)⟩
  · intro b3 b22
    refine GW.cutE (fun b4 b40 => [(3, .pointer (some ⟨b3, 0, none⟩)), (4, .pointer (some ⟨b4, 0, none⟩))]) (fun b4 b40 => (b4, .exact (.cells (RlC kO.head (.slice (some ⟨b22, 0, none⟩) 1 1)).toArray 46 (0, 0))) :: (b3, .exact (.cells (RlC kR.head (.slice (some ⟨b22, 0, none⟩) 1 1)).toArray 46 (0, 0))) :: (b22, .exact (.cells (LtC kL).toArray 43 (0, 0))) :: (b1, .exact (.cells (SlC kP).toArray 37 (0, 0))) :: G) ?_ ?_
    · refine GW.drawS 11 rfl (by kernel_rfl) ?_
      refine GA.val 0 rfl (V.move ⟨rfl, rfl, rfl, rfl⟩ rfl) rfl (by kernel_rfl) (by kernel_rfl) (by kernel_rfl) ?_
      refine GA.val 2 rfl (V.load_own (cs := SlC kP) ⟨rfl, rfl, rfl, rfl⟩ rfl Tryd.underlying37 rfl Tryd.sizeOf37 (by repeat (first | exact List.mem_cons_self | apply List.mem_cons_of_mem | apply List.mem_append_right)) (by rfl) (by rfl)) rfl (by kernel_rfl) (by kernel_rfl) (by kernel_rfl) ?_   -- load 2 law.go:15 t1:p
      refine GA.val 3 rfl (V.move ⟨rfl, rfl, rfl, rfl⟩ rfl) rfl (by kernel_rfl) (by kernel_rfl) (by kernel_rfl) ?_
      refine GA.val 6 rfl (V.fieldAddr ⟨rfl, rfl, rfl, rfl⟩ rfl Tryd.underlying46 rfl Tryd.sizeOf44) rfl (by kernel_rfl) (by kernel_rfl) (by kernel_rfl) ?_   -- "Body"
      refine GA.val 7 rfl (V.load1 ⟨rfl, rfl, rfl, rfl⟩ rfl Tryd.underlying44 rfl (.own' (by repeat (first | exact List.mem_cons_self | apply List.mem_cons_of_mem | apply List.mem_append_right)) (by rfl))) rfl (by kernel_rfl) (by kernel_rfl) (by kernel_rfl) ?_   -- load 3 law.go:15 t30
      refine GA.two 1 9 (by first | exact Hs.refl _ | exact Hs.tl _ | exact Hs.tl2 _ _ | exact Hs.tl3 _ _ _ | exact Hs.sub (by simp)) (by kernel_rfl) rfl rfl ?_ ?_
      · refine R.call ⟨rfl, rfl, rfl, rfl⟩ rfl (vs := [_]) rfl ((known1 _ _ kx).mono ?_)
        rintro _ _ ⟨rfl, rfl⟩
        refine GOps.nil ?_
        refine GA.two 4 9 (by first | exact Hs.refl _ | exact Hs.tl _ | exact Hs.tl2 _ _ | exact Hs.tl3 _ _ _ | exact Hs.sub (by simp)) (by kernel_rfl) rfl rfl ?_ ?_
        · refine R.call ⟨rfl, rfl, rfl, rfl⟩ rfl (vs := [_]) rfl ((known1 _ _ kz).mono ?_)
          rintro _ _ ⟨rfl, rfl⟩
          refine GOps.nil ?_
          refine GA.val 5 rfl (V.build (vs := [(0, _), (1, _), (2, _)]) (cells := (PtC kO.head).toArray) ⟨rfl, rfl, rfl, rfl⟩ rfl (fun w => run_build w 40 _ _ (by kernel_rfl))) rfl (by kernel_rfl) (by kernel_rfl) (by kernel_rfl) ?_   -- build 27 type 40
          refine GA.val 8 rfl (V.build (vs := [(0, _), (1, _)]) (cells := (RlC kO.head (.slice (some ⟨b22, 0, none⟩) 1 1)).toArray) ⟨rfl, rfl, rfl, rfl⟩ rfl (fun w => run_build w 46 _ _ (by kernel_rfl))) rfl (by kernel_rfl) (by kernel_rfl) (by kernel_rfl) ?_   -- build 28 type 46
          refine GA.one 9 (by first | exact Hs.refl _ | exact Hs.tl _ | exact Hs.tl2 _ _ | exact Hs.tl3 _ _ _ | exact Hs.sub (by simp)) (by kernel_rfl) rfl ?_
          refine R.alloc ⟨rfl, rfl, rfl, rfl⟩ Tryd.zeroValue46 fun b4 => ?_
          refine GOps.nil ?_
          refine GA.one 10 (by first | exact Hs.refl _ | exact Hs.tl _ | exact Hs.tl2 _ _ | exact Hs.tl3 _ _ _ | exact Hs.sub (by simp)) (by kernel_rfl) rfl ?_
          refine R.storeAll (G1 := []) rfl rfl rfl rfl rfl Tryd.sizeOf46 rfl rfl rfl rfl ?_   -- t4:o
          refine GOps.nil ?_
          refine GA.done (by first | exact Hs.refl _ | exact Hs.tl _ | exact Hs.tl2 _ _ | exact Hs.tl3 _ _ _ | exact Hs.sub (by simp)) (by kernel_rfl) ?_
          exact ⟨rfl, rfl, b4, 0, by repeat (first | exact Keeps.nil _ | refine Keeps.cons rfl ?_), by first | exact Hs.refl _ | exact Hs.perm (List.Perm.swap _ _ _)⟩
        · refine R.alloc ⟨rfl, rfl, rfl, rfl⟩ Tryd.zeroValue46 fun b4 => ?_
          refine GOps.nil ?_
          refine GA.one 4 (by first | exact Hs.refl _ | exact Hs.tl _ | exact Hs.tl2 _ _ | exact Hs.tl3 _ _ _ | exact Hs.sub (by simp)) (by kernel_rfl) rfl ?_
          refine R.call ⟨rfl, rfl, rfl, rfl⟩ rfl (vs := [_]) rfl ((known1 _ _ kz).mono ?_)
          rintro _ _ ⟨rfl, rfl⟩
          refine GOps.nil ?_
          refine GA.val 5 rfl (V.build (vs := [(0, _), (1, _), (2, _)]) (cells := (PtC kO.head).toArray) ⟨rfl, rfl, rfl, rfl⟩ rfl (fun w => run_build w 40 _ _ (by kernel_rfl))) rfl (by kernel_rfl) (by kernel_rfl) (by kernel_rfl) ?_   -- build 29 type 40
          refine GA.val 8 rfl (V.build (vs := [(0, _), (1, _)]) (cells := (RlC kO.head (.slice (some ⟨b22, 0, none⟩) 1 1)).toArray) ⟨rfl, rfl, rfl, rfl⟩ rfl (fun w => run_build w 46 _ _ (by kernel_rfl))) rfl (by kernel_rfl) (by kernel_rfl) (by kernel_rfl) ?_   -- build 30 type 46
          refine GA.one 10 (by first | exact Hs.refl _ | exact Hs.tl _ | exact Hs.tl2 _ _ | exact Hs.tl3 _ _ _ | exact Hs.sub (by simp)) (by kernel_rfl) rfl ?_
          refine R.storeAll (G1 := []) rfl rfl rfl rfl rfl Tryd.sizeOf46 rfl rfl rfl rfl ?_   -- t4:o
          refine GOps.nil ?_
          refine GA.done (by first | exact Hs.refl _ | exact Hs.tl _ | exact Hs.tl2 _ _ | exact Hs.tl3 _ _ _ | exact Hs.sub (by simp)) (by kernel_rfl) ?_
          exact ⟨rfl, rfl, b4, 0, by repeat (first | exact Keeps.nil _ | refine Keeps.cons rfl ?_), by first | exact Hs.refl _ | exact Hs.perm (List.Perm.swap _ _ _)⟩
      · refine R.alloc ⟨rfl, rfl, rfl, rfl⟩ Tryd.zeroValue46 fun b4 => ?_
        refine GOps.nil ?_
        refine GA.one 1 (by first | exact Hs.refl _ | exact Hs.tl _ | exact Hs.tl2 _ _ | exact Hs.tl3 _ _ _ | exact Hs.sub (by simp)) (by kernel_rfl) rfl ?_
        refine R.call ⟨rfl, rfl, rfl, rfl⟩ rfl (vs := [_]) rfl ((known1 _ _ kx).mono ?_)
        rintro _ _ ⟨rfl, rfl⟩
        refine GOps.nil ?_
        refine GA.one 4 (by first | exact Hs.refl _ | exact Hs.tl _ | exact Hs.tl2 _ _ | exact Hs.tl3 _ _ _ | exact Hs.sub (by simp)) (by kernel_rfl) rfl ?_
        refine R.call ⟨rfl, rfl, rfl, rfl⟩ rfl (vs := [_]) rfl ((known1 _ _ kz).mono ?_)
        rintro _ _ ⟨rfl, rfl⟩
        refine GOps.nil ?_
        refine GA.val 5 rfl (V.build (vs := [(0, _), (1, _), (2, _)]) (cells := (PtC kO.head).toArray) ⟨rfl, rfl, rfl, rfl⟩ rfl (fun w => run_build w 40 _ _ (by kernel_rfl))) rfl (by kernel_rfl) (by kernel_rfl) (by kernel_rfl) ?_   -- build 31 type 40
        refine GA.val 8 rfl (V.build (vs := [(0, _), (1, _)]) (cells := (RlC kO.head (.slice (some ⟨b22, 0, none⟩) 1 1)).toArray) ⟨rfl, rfl, rfl, rfl⟩ rfl (fun w => run_build w 46 _ _ (by kernel_rfl))) rfl (by kernel_rfl) (by kernel_rfl) (by kernel_rfl) ?_   -- build 32 type 46
        refine GA.one 10 (by first | exact Hs.refl _ | exact Hs.tl _ | exact Hs.tl2 _ _ | exact Hs.tl3 _ _ _ | exact Hs.sub (by simp)) (by kernel_rfl) rfl ?_
        refine R.storeAll (G1 := []) rfl rfl rfl rfl rfl Tryd.sizeOf46 rfl rfl rfl rfl ?_   -- t4:o
        refine GOps.nil ?_
        refine GA.done (by first | exact Hs.refl _ | exact Hs.tl _ | exact Hs.tl2 _ _ | exact Hs.tl3 _ _ _ | exact Hs.sub (by simp)) (by kernel_rfl) ?_
        exact ⟨rfl, rfl, b4, 0, by repeat (first | exact Keeps.nil _ | refine Keeps.cons rfl ?_), by first | exact Hs.refl _ | exact Hs.perm (List.Perm.swap _ _ _)⟩
    · intro b4 b40
      refine GW.seq ?_
      refine GW.region ?_
      refine R.load_own (cs := RlC kO.head (.slice (some ⟨b22, 0, none⟩) 1 1)) ⟨rfl, rfl, rfl, rfl⟩ rfl Tryd.underlying46 rfl Tryd.sizeOf46 (by repeat (first | exact List.mem_cons_self | apply List.mem_cons_of_mem | apply List.mem_append_right)) (by rfl) (by rfl) ?_   -- load 4 law.go:16 t4:o
      refine R.buildSliceF (sz := 13) (bytes := 192) (vs := [_]) (cs := RlC kO.head (.slice (some ⟨b22, 0, none⟩) 1 1)) ⟨rfl, rfl, rfl, rfl⟩ rfl Tryd.underlying22 (InfoE.mk (by kernel_rfl)) rfl rfl rfl rfl rfl fun b35 => ?_   -- build 33 type 22
      refine R.call ⟨rfl, rfl, rfl, rfl⟩ rfl (vs := [_]) rfl ((check_Program _ _ (some ⟨b35, 0, none⟩) [kO] 1 (k_rls (by repeat (first | exact List.mem_cons_self | apply List.mem_cons_of_mem | apply List.mem_append_right)) (by repeat (first | exact List.mem_cons_self | apply List.mem_cons_of_mem | apply List.mem_append_right))) (by decide) (by decide) (fun r hr => by rw [List.mem_singleton] at hr; subst hr; exact ⟨kO_ok, by decide⟩)).mono ?_)
      rintro _ _ ⟨rfl, rfl⟩
      rw [k_val]
      refine R.move ⟨rfl, rfl, rfl, rfl⟩ rfl ?_
      refine R.extract ⟨rfl, rfl, rfl, rfl⟩ rfl rfl ?_
      refine R.extract ⟨rfl, rfl, rfl, rfl⟩ rfl rfl ?_
      refine R.alloc ⟨rfl, rfl, rfl, rfl⟩ Tryd.zeroValue26 fun b5 => ?_
      refine R.storeAll (G1 := []) rfl rfl rfl rfl rfl Tryd.sizeOf26 rfl rfl rfl rfl ?_   -- t5:m
      refine R.assign ⟨rfl, rfl, rfl, rfl⟩ rfl ?_
      refine GOps.nil ?_
      refine GW.seq ?_
      refine GW.region ?_
      refine R.load_own (cs := RlC kR.head (.slice (some ⟨b22, 0, none⟩) 1 1)) ⟨rfl, rfl, rfl, rfl⟩ rfl Tryd.underlying46 rfl Tryd.sizeOf46 (by repeat (first | exact List.mem_cons_self | apply List.mem_cons_of_mem | apply List.mem_append_right)) (by rfl) (by rfl) ?_   -- load 5 law.go:17 t3:r
      refine R.call ⟨rfl, rfl, rfl, rfl⟩ rfl (vs := [_]) rfl ((check_Rule _ _ kR (some ⟨b22, 0, none⟩) 1 (k_lts (by repeat (first | exact List.mem_cons_self | apply List.mem_cons_of_mem | apply List.mem_append_right))) (by decide) kR_ok).mono ?_)
      rintro _ _ ⟨rfl, rfl⟩
      rw [k_r]
      refine R.eqI ⟨rfl, rfl, rfl, rfl⟩ rfl rfl ?_   -- eql ['t40', '5']
      refine R.move ⟨rfl, rfl, rfl, rfl⟩ rfl ?_
      refine R.load_own (cs := RlC kO.head (.slice (some ⟨b22, 0, none⟩) 1 1)) ⟨rfl, rfl, rfl, rfl⟩ rfl Tryd.underlying46 rfl Tryd.sizeOf46 (by repeat (first | exact List.mem_cons_self | apply List.mem_cons_of_mem | apply List.mem_append_right)) (by rfl) (by rfl) ?_   -- load 6 law.go:17 t4:o
      refine R.call ⟨rfl, rfl, rfl, rfl⟩ rfl (vs := [_]) rfl ((check_Rule _ _ kO (some ⟨b22, 0, none⟩) 1 (k_lts (by repeat (first | exact List.mem_cons_self | apply List.mem_cons_of_mem | apply List.mem_append_right))) (by decide) kO_ok).mono ?_)
      rintro _ _ ⟨rfl, rfl⟩
      rw [k_o]
      refine R.eqI ⟨rfl, rfl, rfl, rfl⟩ rfl rfl ?_   -- eql ['t44', '0']
      refine R.pick_t ⟨rfl, rfl, rfl, rfl⟩ rfl rfl ?_
      refine R.move ⟨rfl, rfl, rfl, rfl⟩ rfl ?_
      refine R.move ⟨rfl, rfl, rfl, rfl⟩ rfl ?_
      refine R.eqI ⟨rfl, rfl, rfl, rfl⟩ rfl rfl ?_   -- eql ['t48', '0']
      refine R.pick_t ⟨rfl, rfl, rfl, rfl⟩ rfl rfl ?_
      refine R.move ⟨rfl, rfl, rfl, rfl⟩ rfl ?_
      refine R.fieldAddr ⟨rfl, rfl, rfl, rfl⟩ rfl Tryd.underlying26 rfl Tryd.sizeOf4 ?_   -- "Equality"
      refine R.load1 ⟨rfl, rfl, rfl, rfl⟩ rfl Tryd.underlying4 rfl (.own' (by repeat (first | exact List.mem_cons_self | apply List.mem_cons_of_mem | apply List.mem_append_right)) (by rfl)) ?_   -- load 7 law.go:17 t52
      refine R.pick_t ⟨rfl, rfl, rfl, rfl⟩ rfl rfl ?_
      refine R.assign ⟨rfl, rfl, rfl, rfl⟩ rfl ?_
      refine GOps.nil ?_
      refine GW.ret (Out.of (Res.one rfl rfl) (by first | exact Hs.refl _ | exact Hs.tl _ | exact Hs.tl2 _ _ | exact Hs.tl3 _ _ _ | exact (Hs.app _).trans (Hs.tl _) | exact (Hs.app _).trans ((Hs.app _).trans (Hs.tl _)) | exact Hs.sub (by repeat (first | exact List.Sublist.refl _ | apply List.Sublist.cons))) ⟨?_, rfl⟩)
      rfl

end Go.Proofs.YtgjmandjhjfgkaaDoor.Gl
