import Derived.Test.YtgjmandjhjfgkaaDoorU1
import Derived.Test.YtgjmandjhjfgkaaDoorGd
namespace Go.Proofs.YtgjmandjhjfgkaaDoor.Gl
open Go.RowKit Go.Shelf
set_option linter.unusedVariables false
set_option linter.unnecessarySimpa false
set_option linter.unusedSimpArgs false
attribute [-simp] List.getD_eq_getElem?_getD



theorem q64 (r k : Nat) (h : r ≤ 9223372036854775807) : IntKind.i64.wrap ((r : Int).tdiv (k : Int)) = ((r / k : Nat) : Int) := by
  have := Nat.div_le_self r k
  show IntKind.i64.wrap ((r / k : Nat) : Int) = _
  generalize r / k = q at *
  exact wrap64_id (by omega) (by omega)
theorem u8w (n : Nat) (h : n < 256) : IntKind.u8.wrap (n : Int) = (n : Int) := by rw [IntKind.wrap_u8]; omega
theorem may_le {r : Nat} (h : mayR r = true) : r ≤ 1114111 := by simp [mayR] at h; omega
theorem putL_a {r : Nat} (h : r ≤ 127) : putL r = [r] := if_pos h
theorem putL_b {r : Nat} (h : ¬ r ≤ 127) (h1 : r ≤ 2047) : putL r = [192 + r / 64, 128 + r % 64] := by unfold putL; rw [if_neg h, if_pos h1]
theorem putL_c {r : Nat} (h : ¬ r ≤ 2047) (h1 : r ≤ 65535) : putL r = [224 + r / 4096, 128 + r / 64 % 64, 128 + r % 64] := by unfold putL; rw [if_neg (by omega), if_neg h, if_pos h1]
theorem putL_d {r : Nat} (h : ¬ r ≤ 65535) : putL r = [240 + r / 262144, 128 + r / 4096 % 64, 128 + r / 64 % 64, 128 + r % 64] := by unfold putL; rw [if_neg (by omega), if_neg (by omega), if_neg h]
def bytesC (l : List Nat) : Array Value := (l.map fun c => Value.int .u8 (c : Nat)).toArray


theorem ref_Put (w0 : World) (G : Hp) (r : Nat) (hr : r ≤ 1114111) : GC Tryd.prog w0 71 #[.int .i64 (r : Int)] (fun v G' => ∃ b, v = .slice (some ⟨b, 0, none⟩) (putL r).length (putL r).length ∧ G' = (b, .exact (.cells (bytesC (putL r)) 5 (0, 0))) :: G) G := by
  refine GC.body (args := [.int .i64 (r : Int)]) Tryd.func71 rfl (by kernel_rfl) rfl ?_
  refine GW.seq ?_
  refine GW.region ?_
  refine R.assign ⟨rfl, rfl, rfl, rfl⟩ rfl ?_
  refine GOps.nil ?_
  refine GW.seq ?_
  refine GW.seq ?_
  refine GW.region ?_
  refine R.move ⟨rfl, rfl, rfl, rfl⟩ rfl ?_
  refine R.leq ⟨rfl, rfl, rfl, rfl⟩ rfl rfl ?_   -- leq ['t3', '127']
  refine GOps.nil ?_
  refine GW.ite rfl (fun hc1 => ?_) (fun hc1 => ?_)
  · try simp only [decide_eq_true_eq, decide_eq_false_iff_not, Bool.not_eq_true', Bool.not_eq_false'] at hc1
    refine GW.seq ?_
    refine GW.region ?_
    refine R.move ⟨rfl, rfl, rfl, rfl⟩ rfl ?_
    refine R.conv (r := ((r : Nat) : Int)) ⟨rfl, rfl, rfl, rfl⟩ rfl Tryd.underlying3 Tryd.underlying5 (u8w _ (by omega)) ?_
    refine R.buildSliceF (sz := 1) (bytes := 1) (vs := [_]) (cs := [_]) ⟨rfl, rfl, rfl, rfl⟩ rfl Tryd.underlying38 (InfoE.mk (by kernel_rfl)) rfl rfl rfl rfl rfl fun b7 => ?_   -- build 0 type 38
    refine R.assign ⟨rfl, rfl, rfl, rfl⟩ rfl ?_
    refine GOps.nil ?_
    refine GW.ret (Out.of (Res.one rfl rfl) (Hs.refl _) ?_)
    (first | rw [putL_a (by omega)] | rw [putL_b (by omega) (by omega)] | rw [putL_c (by omega) (by omega)] | rw [putL_d (by omega)]); exact ⟨_, rfl, rfl⟩
  · try simp only [decide_eq_true_eq, decide_eq_false_iff_not, Bool.not_eq_true', Bool.not_eq_false'] at hc1
    refine GW.skip ?_
    refine GW.seq ?_
    refine GW.seq ?_
    refine GW.region ?_
    refine R.move ⟨rfl, rfl, rfl, rfl⟩ rfl ?_
    refine R.leq ⟨rfl, rfl, rfl, rfl⟩ rfl rfl ?_   -- leq ['t8', '2047']
    refine GOps.nil ?_
    refine GW.ite rfl (fun hc2 => ?_) (fun hc2 => ?_)
    · try simp only [decide_eq_true_eq, decide_eq_false_iff_not, Bool.not_eq_true', Bool.not_eq_false'] at hc2
      refine GW.seq ?_
      refine GW.region ?_
      refine R.move ⟨rfl, rfl, rfl, rfl⟩ rfl ?_
      refine R.quo (r := (((r / 64) : Nat) : Int)) ⟨rfl, rfl, rfl, rfl⟩ rfl rfl (by omega) (q64 _ _ (by omega)) ?_   -- quo ['t10', '64']
      refine R.add (r := (((192 + (r / 64)) : Nat) : Int)) ⟨rfl, rfl, rfl, rfl⟩ rfl rfl (by rw [wrap64_id (by omega) (by omega)]; omega) ?_   -- add ['192', 't11']
      refine R.conv (r := (((192 + (r / 64)) : Nat) : Int)) ⟨rfl, rfl, rfl, rfl⟩ rfl Tryd.underlying3 Tryd.underlying5 (u8w _ (by omega)) ?_
      refine R.move ⟨rfl, rfl, rfl, rfl⟩ rfl ?_
      refine R.rem (r := (((r % 64) : Nat) : Int)) ⟨rfl, rfl, rfl, rfl⟩ rfl rfl (by omega) (rfl) ?_   -- rem ['t14', '64']
      refine R.add (r := (((128 + (r % 64)) : Nat) : Int)) ⟨rfl, rfl, rfl, rfl⟩ rfl rfl (by rw [wrap64_id (by omega) (by omega)]; omega) ?_   -- add ['128', 't15']
      refine R.conv (r := (((128 + (r % 64)) : Nat) : Int)) ⟨rfl, rfl, rfl, rfl⟩ rfl Tryd.underlying3 Tryd.underlying5 (u8w _ (by omega)) ?_
      refine R.buildSliceF (sz := 1) (bytes := 1) (vs := [_, _]) (cs := [_, _]) ⟨rfl, rfl, rfl, rfl⟩ rfl Tryd.underlying38 (InfoE.mk (by kernel_rfl)) rfl rfl rfl rfl rfl fun b18 => ?_   -- build 1 type 38
      refine R.assign ⟨rfl, rfl, rfl, rfl⟩ rfl ?_
      refine GOps.nil ?_
      refine GW.ret (Out.of (Res.one rfl rfl) (Hs.refl _) ?_)
      (first | rw [putL_a (by omega)] | rw [putL_b (by omega) (by omega)] | rw [putL_c (by omega) (by omega)] | rw [putL_d (by omega)]); exact ⟨_, rfl, rfl⟩
    · try simp only [decide_eq_true_eq, decide_eq_false_iff_not, Bool.not_eq_true', Bool.not_eq_false'] at hc2
      refine GW.skip ?_
      refine GW.seq ?_
      refine GW.seq ?_
      refine GW.region ?_
      refine R.move ⟨rfl, rfl, rfl, rfl⟩ rfl ?_
      refine R.leq ⟨rfl, rfl, rfl, rfl⟩ rfl rfl ?_   -- leq ['t19', '65535']
      refine GOps.nil ?_
      refine GW.ite rfl (fun hc3 => ?_) (fun hc3 => ?_)
      · try simp only [decide_eq_true_eq, decide_eq_false_iff_not, Bool.not_eq_true', Bool.not_eq_false'] at hc3
        refine GW.seq ?_
        refine GW.region ?_
        refine R.move ⟨rfl, rfl, rfl, rfl⟩ rfl ?_
        refine R.quo (r := (((r / 4096) : Nat) : Int)) ⟨rfl, rfl, rfl, rfl⟩ rfl rfl (by omega) (q64 _ _ (by omega)) ?_   -- quo ['t21', '4096']
        refine R.add (r := (((224 + (r / 4096)) : Nat) : Int)) ⟨rfl, rfl, rfl, rfl⟩ rfl rfl (by rw [wrap64_id (by omega) (by omega)]; omega) ?_   -- add ['224', 't22']
        refine R.conv (r := (((224 + (r / 4096)) : Nat) : Int)) ⟨rfl, rfl, rfl, rfl⟩ rfl Tryd.underlying3 Tryd.underlying5 (u8w _ (by omega)) ?_
        refine R.move ⟨rfl, rfl, rfl, rfl⟩ rfl ?_
        refine R.quo (r := (((r / 64) : Nat) : Int)) ⟨rfl, rfl, rfl, rfl⟩ rfl rfl (by omega) (q64 _ _ (by omega)) ?_   -- quo ['t25', '64']
        refine R.rem (r := ((((r / 64) % 64) : Nat) : Int)) ⟨rfl, rfl, rfl, rfl⟩ rfl rfl (by omega) (rfl) ?_   -- rem ['t26', '64']
        refine R.add (r := (((128 + ((r / 64) % 64)) : Nat) : Int)) ⟨rfl, rfl, rfl, rfl⟩ rfl rfl (by rw [wrap64_id (by omega) (by omega)]; omega) ?_   -- add ['128', 't27']
        refine R.conv (r := (((128 + ((r / 64) % 64)) : Nat) : Int)) ⟨rfl, rfl, rfl, rfl⟩ rfl Tryd.underlying3 Tryd.underlying5 (u8w _ (by omega)) ?_
        refine R.move ⟨rfl, rfl, rfl, rfl⟩ rfl ?_
        refine R.rem (r := (((r % 64) : Nat) : Int)) ⟨rfl, rfl, rfl, rfl⟩ rfl rfl (by omega) (rfl) ?_   -- rem ['t30', '64']
        refine R.add (r := (((128 + (r % 64)) : Nat) : Int)) ⟨rfl, rfl, rfl, rfl⟩ rfl rfl (by rw [wrap64_id (by omega) (by omega)]; omega) ?_   -- add ['128', 't31']
        refine R.conv (r := (((128 + (r % 64)) : Nat) : Int)) ⟨rfl, rfl, rfl, rfl⟩ rfl Tryd.underlying3 Tryd.underlying5 (u8w _ (by omega)) ?_
        refine R.buildSliceF (sz := 1) (bytes := 1) (vs := [_, _, _]) (cs := [_, _, _]) ⟨rfl, rfl, rfl, rfl⟩ rfl Tryd.underlying38 (InfoE.mk (by kernel_rfl)) rfl rfl rfl rfl rfl fun b34 => ?_   -- build 2 type 38
        refine R.assign ⟨rfl, rfl, rfl, rfl⟩ rfl ?_
        refine GOps.nil ?_
        refine GW.ret (Out.of (Res.one rfl rfl) (Hs.refl _) ?_)
        (first | rw [putL_a (by omega)] | rw [putL_b (by omega) (by omega)] | rw [putL_c (by omega) (by omega)] | rw [putL_d (by omega)]); exact ⟨_, rfl, rfl⟩
      · try simp only [decide_eq_true_eq, decide_eq_false_iff_not, Bool.not_eq_true', Bool.not_eq_false'] at hc3
        refine GW.skip ?_
        refine GW.seq ?_
        refine GW.region ?_
        refine R.move ⟨rfl, rfl, rfl, rfl⟩ rfl ?_
        refine R.quo (r := (((r / 262144) : Nat) : Int)) ⟨rfl, rfl, rfl, rfl⟩ rfl rfl (by omega) (q64 _ _ (by omega)) ?_   -- quo ['t35', '262144']
        refine R.add (r := (((240 + (r / 262144)) : Nat) : Int)) ⟨rfl, rfl, rfl, rfl⟩ rfl rfl (by rw [wrap64_id (by omega) (by omega)]; omega) ?_   -- add ['240', 't36']
        refine R.conv (r := (((240 + (r / 262144)) : Nat) : Int)) ⟨rfl, rfl, rfl, rfl⟩ rfl Tryd.underlying3 Tryd.underlying5 (u8w _ (by omega)) ?_
        refine R.move ⟨rfl, rfl, rfl, rfl⟩ rfl ?_
        refine R.quo (r := (((r / 4096) : Nat) : Int)) ⟨rfl, rfl, rfl, rfl⟩ rfl rfl (by omega) (q64 _ _ (by omega)) ?_   -- quo ['t39', '4096']
        refine R.rem (r := ((((r / 4096) % 64) : Nat) : Int)) ⟨rfl, rfl, rfl, rfl⟩ rfl rfl (by omega) (rfl) ?_   -- rem ['t40', '64']
        refine R.add (r := (((128 + ((r / 4096) % 64)) : Nat) : Int)) ⟨rfl, rfl, rfl, rfl⟩ rfl rfl (by rw [wrap64_id (by omega) (by omega)]; omega) ?_   -- add ['128', 't41']
        refine R.conv (r := (((128 + ((r / 4096) % 64)) : Nat) : Int)) ⟨rfl, rfl, rfl, rfl⟩ rfl Tryd.underlying3 Tryd.underlying5 (u8w _ (by omega)) ?_
        refine R.move ⟨rfl, rfl, rfl, rfl⟩ rfl ?_
        refine R.quo (r := (((r / 64) : Nat) : Int)) ⟨rfl, rfl, rfl, rfl⟩ rfl rfl (by omega) (q64 _ _ (by omega)) ?_   -- quo ['t44', '64']
        refine R.rem (r := ((((r / 64) % 64) : Nat) : Int)) ⟨rfl, rfl, rfl, rfl⟩ rfl rfl (by omega) (rfl) ?_   -- rem ['t45', '64']
        refine R.add (r := (((128 + ((r / 64) % 64)) : Nat) : Int)) ⟨rfl, rfl, rfl, rfl⟩ rfl rfl (by rw [wrap64_id (by omega) (by omega)]; omega) ?_   -- add ['128', 't46']
        refine R.conv (r := (((128 + ((r / 64) % 64)) : Nat) : Int)) ⟨rfl, rfl, rfl, rfl⟩ rfl Tryd.underlying3 Tryd.underlying5 (u8w _ (by omega)) ?_
        refine R.move ⟨rfl, rfl, rfl, rfl⟩ rfl ?_
        refine R.rem (r := (((r % 64) : Nat) : Int)) ⟨rfl, rfl, rfl, rfl⟩ rfl rfl (by omega) (rfl) ?_   -- rem ['t49', '64']
        refine R.add (r := (((128 + (r % 64)) : Nat) : Int)) ⟨rfl, rfl, rfl, rfl⟩ rfl rfl (by rw [wrap64_id (by omega) (by omega)]; omega) ?_   -- add ['128', 't50']
        refine R.conv (r := (((128 + (r % 64)) : Nat) : Int)) ⟨rfl, rfl, rfl, rfl⟩ rfl Tryd.underlying3 Tryd.underlying5 (u8w _ (by omega)) ?_
        refine R.buildSliceF (sz := 1) (bytes := 1) (vs := [_, _, _, _]) (cs := [_, _, _, _]) ⟨rfl, rfl, rfl, rfl⟩ rfl Tryd.underlying38 (InfoE.mk (by kernel_rfl)) rfl rfl rfl rfl rfl fun b53 => ?_   -- build 3 type 38
        refine R.assign ⟨rfl, rfl, rfl, rfl⟩ rfl ?_
        refine GOps.nil ?_
        refine GW.ret (Out.of (Res.one rfl rfl) (Hs.refl _) ?_)
        (first | rw [putL_a (by omega)] | rw [putL_b (by omega) (by omega)] | rw [putL_c (by omega) (by omega)] | rw [putL_d (by omega)]); exact ⟨_, rfl, rfl⟩


theorem hdm_load {b n : Nat} {w0 : World} {G : Hp} (h : (b, Know.exact (.cells #[.int .i64 1, .int .i64 1, .int .i64 32, .int .i64 16, .int .i64 8] 3 (0, 0))) ∈ G) (h1 : 1 < n) (h2 : n ≤ 4) : Rd w0 G b (0 + (n : Int).toNat * 1) (.int .i64 (hdm n : Nat)) := by
  refine .own' h ?_
  rcases (by omega : n = 2 ∨ n = 3 ∨ n = 4) with rfl | rfl | rfl <;> rfl
theorem refStep {l : List Nat} {n i c y : Nat} (hx : l[i]? = some c) (hy : (0 < i ∧ y = c % 64) ∨ (i = 0 ∧ 1 < n ∧ y = c % hdm n) ∨ (i = 0 ∧ ¬ 1 < n ∧ y = c)) (hb : refAcc l n i < 1073741824) (hc : c < 256) :
    IntKind.i64.wrap (((64 * refAcc l n i : Nat) : Int) + (y : Int)) = ((refAcc l n (i + 1) : Nat) : Int) := by
  have e : refAcc l n (i + 1) = 64 * refAcc l n i + refC l n i := rfl
  have e2 : refC l n i = y := by
    unfold refC
    rw [getD_of hx]
    rcases hy with ⟨h1, rfl⟩ | ⟨rfl, h1, rfl⟩ | ⟨rfl, h1, rfl⟩
    · rw [if_pos h1, if_neg (by omega)]
    · rw [if_neg (by omega), if_pos ⟨rfl, h1⟩]
    · rw [if_neg (by omega), if_neg (fun h => h1 h.2)]
  have h2 := Nat.mod_le c (hdm n)
  have h3 := Nat.mod_le c 64
  rw [e, e2, wrap64_id (by omega) (by omega)]
  omega
def getV2 : Option (Nat × Nat) → Value
  | some (r, n) => .tuple #[.int .i64 (r : Int), .int .i64 (n : Int)]
  | none => .tuple #[.int .i64 0, .int .i64 0]
theorem put_eq {s : ByteArray} {r n : Nat} (hr : r ≤ 1114111) : ((strOf (putL r)).toList == (s.extract 0 n).toList) = (putL r == (bs s).take n) := by
  rw [toList_beq, bs_strOf (putL_lt hr), bs_extract]
  simp
theorem try_yes {s : ByteArray} {n i : Nat} (hi : i = n) (h1 : mayR (refAcc (bs s) n i) = true) (h2 : ((strOf (putL (refAcc (bs s) n i))).toList == (s.extract 0 n).toList) = true) : tryR (bs s) n = true := by
  subst hi
  rw [put_eq (may_le h1)] at h2
  rw [tryR, h1, h2]; rfl
theorem try_no1 {s : ByteArray} {n i : Nat} (hi : i = n) (h1 : mayR (refAcc (bs s) n i) = false) : tryR (bs s) n = false := by subst hi; rw [tryR, h1]; rfl
theorem try_no2 {s : ByteArray} {n i : Nat} (hi : i = n) (h1 : mayR (refAcc (bs s) n i) = true) (h2 : ((strOf (putL (refAcc (bs s) n i))).toList == (s.extract 0 n).toList) = false) : tryR (bs s) n = false := by
  subst hi
  rw [put_eq (may_le h1)] at h2
  rw [tryR, h1, h2]; rfl
theorem getS_none_of {s : ByteArray} {n : Nat} (hn : n ≤ 5) (h0 : ∀ k, 1 ≤ k → k < n → k ≤ s.size → tryR (bs s) k = false) (h : 4 < n ∨ s.size < n) : getS (bs s) = none := by
  cases hg : getS (bs s) with
  | none => rfl
  | some p =>
    obtain ⟨r, k⟩ := p
    obtain ⟨h1, h2, h3, h4, h5⟩ := (getS_iff (bs_getD_lt s)).1 hg
    rw [bs_length] at h3
    rw [h0 k h1 (by omega) h3] at h5
    cases h5


theorem ref_Get (w0 : World) (G : Hp) (s : ByteArray) (hm : s.size ≤ 9223372036854775807) : GC Tryd.prog w0 64 #[.string s] (fun v G' => v = getV2 (getS (bs s)) ∧ G = G') G := by
  refine GC.body (args := [.string s]) Tryd.func64 rfl (by kernel_rfl) rfl ?_
  refine GW.seq ?_
  refine GW.region ?_
  refine R.assign ⟨rfl, rfl, rfl, rfl⟩ rfl ?_
  refine R.assign ⟨rfl, rfl, rfl, rfl⟩ rfl ?_
  refine GOps.nil ?_
  refine GW.seq ?_
  refine GW.seq ?_
  refine GW.region ?_
  refine R.assign ⟨rfl, rfl, rfl, rfl⟩ rfl ?_
  refine GOps.nil ?_
  refine GW.block ?_
  -- LOOP: live 0:s, 4:n
  refine GW.loopI (fun n : Nat => [(0, .string s), (4, .int .i64 n)]) (fun n => G) (fun n => 5 - n) (fun n => 1 ≤ n ∧ n ≤ 5 ∧ ∀ k, 1 ≤ k → k < n → k ≤ s.size → tryR (bs s) k = false) 1
    (by repeat (first | exact Keeps.nil _ | refine Keeps.cons rfl ?_)) (Hs.refl _) (⟨by omega, by omega, fun k h1 h2 => absurd h2 (by omega)⟩) ?_
  rintro n ⟨hn1, hn5, h0⟩
  have hp := hdm_pos n
  refine GW.seq ?_
  refine GW.seq ?_
  refine GW.region ?_
  refine R.move ⟨rfl, rfl, rfl, rfl⟩ rfl ?_
  refine R.leq ⟨rfl, rfl, rfl, rfl⟩ rfl rfl ?_   -- leq ['t8', '4']
  refine R.move ⟨rfl, rfl, rfl, rfl⟩ rfl ?_
  refine GOps.caseB 10 rfl (fun hg1 => ?_) (fun hg1 => ?_)
  · try simp only [decide_eq_true_eq, decide_eq_false_iff_not, Bool.not_eq_true', Bool.not_eq_false'] at hg1
    refine R.move ⟨rfl, rfl, rfl, rfl⟩ rfl ?_
    refine R.move ⟨rfl, rfl, rfl, rfl⟩ rfl ?_
    refine R.lenStr ⟨rfl, rfl, rfl, rfl⟩ rfl rfl Tryd.underlying9 ?_
    refine R.leq ⟨rfl, rfl, rfl, rfl⟩ rfl rfl ?_   -- leq ['t11', 't13']
    refine R.pick_t ⟨rfl, rfl, rfl, rfl⟩ rfl rfl ?_
    refine GOps.nil ?_
    refine GW.ite rfl (fun hc2 => ?_) (fun hc2 => ?_)
    · try simp only [decide_eq_true_eq, decide_eq_false_iff_not, Bool.not_eq_true', Bool.not_eq_false'] at hc2
      refine GW.skip ?_
      refine GW.seq ?_
      refine GW.block ?_
      refine GW.seq ?_
      refine GW.region ?_
      refine R.assign ⟨rfl, rfl, rfl, rfl⟩ rfl ?_
      refine GOps.nil ?_
      refine GW.seq ?_
      refine GW.seq ?_
      refine GW.region ?_
      refine R.assign ⟨rfl, rfl, rfl, rfl⟩ rfl ?_
      refine GOps.nil ?_
      refine GW.block ?_
      -- LOOP: live 0:s, 4:n, 5:r, 6:i
      refine GW.loopI (fun i : Nat => [(0, .string s), (4, .int .i64 n), (5, .int .i64 (refAcc (bs s) n i : Nat)), (6, .int .i64 i)]) (fun i => G) (fun i => n - i) (fun i => i ≤ n) 0
        (by repeat (first | exact Keeps.nil _ | refine Keeps.cons rfl ?_)) (Hs.refl _) (by omega) ?_
      rintro i hi
      have hbd := refAcc_bound (bs_getD_lt s) n i (by omega)
      refine GW.seq ?_
      refine GW.seq ?_
      refine GW.region ?_
      refine R.move ⟨rfl, rfl, rfl, rfl⟩ rfl ?_
      refine R.move ⟨rfl, rfl, rfl, rfl⟩ rfl ?_
      refine R.lss ⟨rfl, rfl, rfl, rfl⟩ rfl rfl ?_   -- lss ['t18', 't19']
      refine GOps.nil ?_
      refine GW.ite rfl (fun hc3 => ?_) (fun hc3 => ?_)
      · try simp only [decide_eq_true_eq, decide_eq_false_iff_not, Bool.not_eq_true', Bool.not_eq_false'] at hc3
        refine GW.skip ?_
        refine GW.seq ?_
        refine GW.block ?_
        refine GW.seq ?_
        refine GW.region ?_
        refine R.move ⟨rfl, rfl, rfl, rfl⟩ rfl ?_
        refine R.move ⟨rfl, rfl, rfl, rfl⟩ rfl ?_
        refine R.indexStrA ⟨rfl, rfl, rfl, rfl⟩ rfl rfl Tryd.underlying9 (by omega) (by omega) fun c1 hx1 hb1 => ?_   -- "ref.go:33" ['t23', 't24']
        refine R.conv (r := ((c1 : Nat) : Int)) ⟨rfl, rfl, rfl, rfl⟩ rfl Tryd.underlying5 Tryd.underlying3 (wrap64_id (by omega) (by omega)) ?_
        refine R.assign ⟨rfl, rfl, rfl, rfl⟩ rfl ?_
        refine GOps.nil ?_
        refine GW.seq ?_
        refine GW.seq ?_
        refine GW.region ?_
        refine R.move ⟨rfl, rfl, rfl, rfl⟩ rfl ?_
        refine R.eqI ⟨rfl, rfl, rfl, rfl⟩ rfl rfl ?_   -- eql ['t27', '0']
        refine R.move ⟨rfl, rfl, rfl, rfl⟩ rfl ?_
        refine GOps.caseB 29 rfl (fun hg4 => ?_) (fun hg4 => ?_)
        · try simp only [decide_eq_true_eq, decide_eq_false_iff_not, Bool.not_eq_true', Bool.not_eq_false'] at hg4
          refine R.move ⟨rfl, rfl, rfl, rfl⟩ rfl ?_
          refine R.gtr ⟨rfl, rfl, rfl, rfl⟩ rfl rfl ?_   -- gtr ['t30', '1']
          refine R.pick_t ⟨rfl, rfl, rfl, rfl⟩ rfl rfl ?_
          refine GOps.nil ?_
          refine GW.ite rfl (fun hc5 => ?_) (fun hc5 => ?_)
          · try simp only [decide_eq_true_eq, decide_eq_false_iff_not, Bool.not_eq_true', Bool.not_eq_false'] at hc5
            refine GW.region ?_
            refine R.move ⟨rfl, rfl, rfl, rfl⟩ rfl ?_
            refine R.buildSliceF (sz := 1) (bytes := 8) (vs := [_, _, _, _, _]) (cs := [_, _, _, _, _]) ⟨rfl, rfl, rfl, rfl⟩ rfl Tryd.underlying96 (InfoE.mk (by kernel_rfl)) rfl rfl rfl rfl rfl fun b34 => ?_   -- build 0 type 96
            refine R.move ⟨rfl, rfl, rfl, rfl⟩ rfl ?_
            refine R.indexAddrS ⟨rfl, rfl, rfl, rfl⟩ rfl rfl Tryd.underlying96 Tryd.sizeOf3 (by omega) (by omega) ?_   -- ['t34', 't35']
            refine R.load1 ⟨rfl, rfl, rfl, rfl⟩ rfl Tryd.underlying3 rfl (hdm_load (by repeat (first | exact List.mem_cons_self | apply List.mem_cons_of_mem)) (by omega) (by omega)) ?_   -- load 0 ref.go:35
            refine R.rem (r := (((c1 % (hdm n)) : Nat) : Int)) ⟨rfl, rfl, rfl, rfl⟩ rfl rfl (by omega) (rfl) ?_   -- rem ['t33', 't37']
            refine R.assign ⟨rfl, rfl, rfl, rfl⟩ rfl ?_
            refine GOps.nil ?_
            refine GW.seq ?_
            refine GW.seq ?_
            refine GW.region ?_
            refine R.move ⟨rfl, rfl, rfl, rfl⟩ rfl ?_
            refine R.gtr ⟨rfl, rfl, rfl, rfl⟩ rfl rfl ?_   -- gtr ['t39', '0']
            refine GOps.nil ?_
            refine GW.ite rfl (fun hc6 => ?_) (fun hc6 => ?_)
            · try simp only [decide_eq_true_eq, decide_eq_false_iff_not, Bool.not_eq_true', Bool.not_eq_false'] at hc6
              refine GW.region ?_
              refine R.move ⟨rfl, rfl, rfl, rfl⟩ rfl ?_
              refine R.rem (r := ((((c1 % (hdm n)) % 64) : Nat) : Int)) ⟨rfl, rfl, rfl, rfl⟩ rfl rfl (by omega) (rfl) ?_   -- rem ['t41', '64']
              refine R.assign ⟨rfl, rfl, rfl, rfl⟩ rfl ?_
              refine GOps.nil ?_
              refine GW.region ?_
              refine R.move ⟨rfl, rfl, rfl, rfl⟩ rfl ?_
              refine R.mul (r := (((64 * (refAcc (bs s) n i)) : Nat) : Int)) ⟨rfl, rfl, rfl, rfl⟩ rfl rfl (by rw [wrap64_id (by omega) (by omega)]; omega) ?_   -- mul ['64', 't43']
              refine R.move ⟨rfl, rfl, rfl, rfl⟩ rfl ?_
              refine R.add (r := ((refAcc (bs s) n (i + 1) : Nat) : Int)) ⟨rfl, rfl, rfl, rfl⟩ rfl rfl (refStep hx1 (by first | exact .inl ⟨by omega, rfl⟩ | exact .inr (.inl ⟨by omega, by omega, rfl⟩) | exact .inr (.inr ⟨by omega, by omega, rfl⟩) | (exfalso; omega)) hbd hb1) ?_   -- add ['t44', 't45']
              refine R.assign ⟨rfl, rfl, rfl, rfl⟩ rfl ?_
              refine GOps.nil ?_
              refine GW.region ?_
              refine R.move ⟨rfl, rfl, rfl, rfl⟩ rfl ?_
              refine R.add (r := (((i + 1) : Nat) : Int)) ⟨rfl, rfl, rfl, rfl⟩ rfl rfl (by rw [wrap64_id (by omega) (by omega)]; omega) ?_   -- add ['t21', '1']
              refine R.assign ⟨rfl, rfl, rfl, rfl⟩ rfl ?_
              refine GOps.nil ?_
              exact ⟨i + 1, by omega, by omega, rfl, by repeat (first | exact Keeps.nil _ | refine Keeps.cons rfl ?_), by first | exact Hs.refl _ | exact Hs.tl _ | exact Hs.tl2 _ _⟩
            · try simp only [decide_eq_true_eq, decide_eq_false_iff_not, Bool.not_eq_true', Bool.not_eq_false'] at hc6
              refine GW.skip ?_
              refine GW.region ?_
              refine R.move ⟨rfl, rfl, rfl, rfl⟩ rfl ?_
              refine R.mul (r := (((64 * (refAcc (bs s) n i)) : Nat) : Int)) ⟨rfl, rfl, rfl, rfl⟩ rfl rfl (by rw [wrap64_id (by omega) (by omega)]; omega) ?_   -- mul ['64', 't43']
              refine R.move ⟨rfl, rfl, rfl, rfl⟩ rfl ?_
              refine R.add (r := ((refAcc (bs s) n (i + 1) : Nat) : Int)) ⟨rfl, rfl, rfl, rfl⟩ rfl rfl (refStep hx1 (by first | exact .inl ⟨by omega, rfl⟩ | exact .inr (.inl ⟨by omega, by omega, rfl⟩) | exact .inr (.inr ⟨by omega, by omega, rfl⟩) | (exfalso; omega)) hbd hb1) ?_   -- add ['t44', 't45']
              refine R.assign ⟨rfl, rfl, rfl, rfl⟩ rfl ?_
              refine GOps.nil ?_
              refine GW.region ?_
              refine R.move ⟨rfl, rfl, rfl, rfl⟩ rfl ?_
              refine R.add (r := (((i + 1) : Nat) : Int)) ⟨rfl, rfl, rfl, rfl⟩ rfl rfl (by rw [wrap64_id (by omega) (by omega)]; omega) ?_   -- add ['t21', '1']
              refine R.assign ⟨rfl, rfl, rfl, rfl⟩ rfl ?_
              refine GOps.nil ?_
              exact ⟨i + 1, by omega, by omega, rfl, by repeat (first | exact Keeps.nil _ | refine Keeps.cons rfl ?_), by first | exact Hs.refl _ | exact Hs.tl _ | exact Hs.tl2 _ _⟩
          · try simp only [decide_eq_true_eq, decide_eq_false_iff_not, Bool.not_eq_true', Bool.not_eq_false'] at hc5
            refine GW.skip ?_
            refine GW.seq ?_
            refine GW.seq ?_
            refine GW.region ?_
            refine R.move ⟨rfl, rfl, rfl, rfl⟩ rfl ?_
            refine R.gtr ⟨rfl, rfl, rfl, rfl⟩ rfl rfl ?_   -- gtr ['t39', '0']
            refine GOps.nil ?_
            refine GW.ite rfl (fun hc7 => ?_) (fun hc7 => ?_)
            · try simp only [decide_eq_true_eq, decide_eq_false_iff_not, Bool.not_eq_true', Bool.not_eq_false'] at hc7
              refine GW.region ?_
              refine R.move ⟨rfl, rfl, rfl, rfl⟩ rfl ?_
              refine R.rem (r := (((c1 % 64) : Nat) : Int)) ⟨rfl, rfl, rfl, rfl⟩ rfl rfl (by omega) (rfl) ?_   -- rem ['t41', '64']
              refine R.assign ⟨rfl, rfl, rfl, rfl⟩ rfl ?_
              refine GOps.nil ?_
              refine GW.region ?_
              refine R.move ⟨rfl, rfl, rfl, rfl⟩ rfl ?_
              refine R.mul (r := (((64 * (refAcc (bs s) n i)) : Nat) : Int)) ⟨rfl, rfl, rfl, rfl⟩ rfl rfl (by rw [wrap64_id (by omega) (by omega)]; omega) ?_   -- mul ['64', 't43']
              refine R.move ⟨rfl, rfl, rfl, rfl⟩ rfl ?_
              refine R.add (r := ((refAcc (bs s) n (i + 1) : Nat) : Int)) ⟨rfl, rfl, rfl, rfl⟩ rfl rfl (refStep hx1 (by first | exact .inl ⟨by omega, rfl⟩ | exact .inr (.inl ⟨by omega, by omega, rfl⟩) | exact .inr (.inr ⟨by omega, by omega, rfl⟩) | (exfalso; omega)) hbd hb1) ?_   -- add ['t44', 't45']
              refine R.assign ⟨rfl, rfl, rfl, rfl⟩ rfl ?_
              refine GOps.nil ?_
              refine GW.region ?_
              refine R.move ⟨rfl, rfl, rfl, rfl⟩ rfl ?_
              refine R.add (r := (((i + 1) : Nat) : Int)) ⟨rfl, rfl, rfl, rfl⟩ rfl rfl (by rw [wrap64_id (by omega) (by omega)]; omega) ?_   -- add ['t21', '1']
              refine R.assign ⟨rfl, rfl, rfl, rfl⟩ rfl ?_
              refine GOps.nil ?_
              exact ⟨i + 1, by omega, by omega, rfl, by repeat (first | exact Keeps.nil _ | refine Keeps.cons rfl ?_), by first | exact Hs.refl _ | exact Hs.tl _ | exact Hs.tl2 _ _⟩
            · try simp only [decide_eq_true_eq, decide_eq_false_iff_not, Bool.not_eq_true', Bool.not_eq_false'] at hc7
              refine GW.skip ?_
              refine GW.region ?_
              refine R.move ⟨rfl, rfl, rfl, rfl⟩ rfl ?_
              refine R.mul (r := (((64 * (refAcc (bs s) n i)) : Nat) : Int)) ⟨rfl, rfl, rfl, rfl⟩ rfl rfl (by rw [wrap64_id (by omega) (by omega)]; omega) ?_   -- mul ['64', 't43']
              refine R.move ⟨rfl, rfl, rfl, rfl⟩ rfl ?_
              refine R.add (r := ((refAcc (bs s) n (i + 1) : Nat) : Int)) ⟨rfl, rfl, rfl, rfl⟩ rfl rfl (refStep hx1 (by first | exact .inl ⟨by omega, rfl⟩ | exact .inr (.inl ⟨by omega, by omega, rfl⟩) | exact .inr (.inr ⟨by omega, by omega, rfl⟩) | (exfalso; omega)) hbd hb1) ?_   -- add ['t44', 't45']
              refine R.assign ⟨rfl, rfl, rfl, rfl⟩ rfl ?_
              refine GOps.nil ?_
              refine GW.region ?_
              refine R.move ⟨rfl, rfl, rfl, rfl⟩ rfl ?_
              refine R.add (r := (((i + 1) : Nat) : Int)) ⟨rfl, rfl, rfl, rfl⟩ rfl rfl (by rw [wrap64_id (by omega) (by omega)]; omega) ?_   -- add ['t21', '1']
              refine R.assign ⟨rfl, rfl, rfl, rfl⟩ rfl ?_
              refine GOps.nil ?_
              exact ⟨i + 1, by omega, by omega, rfl, by repeat (first | exact Keeps.nil _ | refine Keeps.cons rfl ?_), by first | exact Hs.refl _ | exact Hs.tl _ | exact Hs.tl2 _ _⟩
        · try simp only [decide_eq_true_eq, decide_eq_false_iff_not, Bool.not_eq_true', Bool.not_eq_false'] at hg4
          refine GOps.skip rfl rfl rfl ?_
          refine GOps.skip rfl rfl rfl ?_
          refine R.pick_f ⟨rfl, rfl, rfl, rfl⟩ rfl rfl ?_
          refine GOps.nil ?_
          refine GW.cond_f rfl ?_
          refine GW.skip ?_
          refine GW.seq ?_
          refine GW.seq ?_
          refine GW.region ?_
          refine R.move ⟨rfl, rfl, rfl, rfl⟩ rfl ?_
          refine R.gtr ⟨rfl, rfl, rfl, rfl⟩ rfl rfl ?_   -- gtr ['t39', '0']
          refine GOps.nil ?_
          refine GW.ite rfl (fun hc8 => ?_) (fun hc8 => ?_)
          · try simp only [decide_eq_true_eq, decide_eq_false_iff_not, Bool.not_eq_true', Bool.not_eq_false'] at hc8
            refine GW.region ?_
            refine R.move ⟨rfl, rfl, rfl, rfl⟩ rfl ?_
            refine R.rem (r := (((c1 % 64) : Nat) : Int)) ⟨rfl, rfl, rfl, rfl⟩ rfl rfl (by omega) (rfl) ?_   -- rem ['t41', '64']
            refine R.assign ⟨rfl, rfl, rfl, rfl⟩ rfl ?_
            refine GOps.nil ?_
            refine GW.region ?_
            refine R.move ⟨rfl, rfl, rfl, rfl⟩ rfl ?_
            refine R.mul (r := (((64 * (refAcc (bs s) n i)) : Nat) : Int)) ⟨rfl, rfl, rfl, rfl⟩ rfl rfl (by rw [wrap64_id (by omega) (by omega)]; omega) ?_   -- mul ['64', 't43']
            refine R.move ⟨rfl, rfl, rfl, rfl⟩ rfl ?_
            refine R.add (r := ((refAcc (bs s) n (i + 1) : Nat) : Int)) ⟨rfl, rfl, rfl, rfl⟩ rfl rfl (refStep hx1 (by first | exact .inl ⟨by omega, rfl⟩ | exact .inr (.inl ⟨by omega, by omega, rfl⟩) | exact .inr (.inr ⟨by omega, by omega, rfl⟩) | (exfalso; omega)) hbd hb1) ?_   -- add ['t44', 't45']
            refine R.assign ⟨rfl, rfl, rfl, rfl⟩ rfl ?_
            refine GOps.nil ?_
            refine GW.region ?_
            refine R.move ⟨rfl, rfl, rfl, rfl⟩ rfl ?_
            refine R.add (r := (((i + 1) : Nat) : Int)) ⟨rfl, rfl, rfl, rfl⟩ rfl rfl (by rw [wrap64_id (by omega) (by omega)]; omega) ?_   -- add ['t21', '1']
            refine R.assign ⟨rfl, rfl, rfl, rfl⟩ rfl ?_
            refine GOps.nil ?_
            exact ⟨i + 1, by omega, by omega, rfl, by repeat (first | exact Keeps.nil _ | refine Keeps.cons rfl ?_), by first | exact Hs.refl _ | exact Hs.tl _ | exact Hs.tl2 _ _⟩
          · try simp only [decide_eq_true_eq, decide_eq_false_iff_not, Bool.not_eq_true', Bool.not_eq_false'] at hc8
            refine GW.skip ?_
            refine GW.region ?_
            refine R.move ⟨rfl, rfl, rfl, rfl⟩ rfl ?_
            refine R.mul (r := (((64 * (refAcc (bs s) n i)) : Nat) : Int)) ⟨rfl, rfl, rfl, rfl⟩ rfl rfl (by rw [wrap64_id (by omega) (by omega)]; omega) ?_   -- mul ['64', 't43']
            refine R.move ⟨rfl, rfl, rfl, rfl⟩ rfl ?_
            refine R.add (r := ((refAcc (bs s) n (i + 1) : Nat) : Int)) ⟨rfl, rfl, rfl, rfl⟩ rfl rfl (refStep hx1 (by first | exact .inl ⟨by omega, rfl⟩ | exact .inr (.inl ⟨by omega, by omega, rfl⟩) | exact .inr (.inr ⟨by omega, by omega, rfl⟩) | (exfalso; omega)) hbd hb1) ?_   -- add ['t44', 't45']
            refine R.assign ⟨rfl, rfl, rfl, rfl⟩ rfl ?_
            refine GOps.nil ?_
            refine GW.region ?_
            refine R.move ⟨rfl, rfl, rfl, rfl⟩ rfl ?_
            refine R.add (r := (((i + 1) : Nat) : Int)) ⟨rfl, rfl, rfl, rfl⟩ rfl rfl (by rw [wrap64_id (by omega) (by omega)]; omega) ?_   -- add ['t21', '1']
            refine R.assign ⟨rfl, rfl, rfl, rfl⟩ rfl ?_
            refine GOps.nil ?_
            exact ⟨i + 1, by omega, by omega, rfl, by repeat (first | exact Keeps.nil _ | refine Keeps.cons rfl ?_), by first | exact Hs.refl _ | exact Hs.tl _ | exact Hs.tl2 _ _⟩
      · try simp only [decide_eq_true_eq, decide_eq_false_iff_not, Bool.not_eq_true', Bool.not_eq_false'] at hc3
        refine GW.exit ?_
        refine GW.seq ?_
        refine GW.drawS 11 rfl (by kernel_rfl) ?_
        refine GA.val 0 rfl (V.move ⟨rfl, rfl, rfl, rfl⟩ rfl) rfl (by kernel_rfl) (by kernel_rfl) (by kernel_rfl) ?_
        refine GA.one 1 (by first | exact Hs.refl _ | exact Hs.tl _ | exact Hs.tl2 _ _ | exact Hs.tl3 _ _ _ | exact Hs.sub (by simp)) (by kernel_rfl) rfl ?_
        refine R.call ⟨rfl, rfl, rfl, rfl⟩ rfl (vs := [_]) rfl ((ref_May _ _ _).mono ?_)
        rintro _ _ ⟨rfl, rfl⟩
        refine GOps.nil ?_
        refine GA.val 2 rfl (V.move ⟨rfl, rfl, rfl, rfl⟩ rfl) rfl (by kernel_rfl) (by kernel_rfl) (by kernel_rfl) ?_
        refine GA.caseB 49 rfl (fun hg9 => ?_) (fun hg9 => ?_)
        · try simp only [decide_eq_true_eq, decide_eq_false_iff_not, Bool.not_eq_true', Bool.not_eq_false'] at hg9
          refine GA.val 3 rfl (V.move ⟨rfl, rfl, rfl, rfl⟩ rfl) rfl (by kernel_rfl) (by kernel_rfl) (by kernel_rfl) ?_
          refine GA.val 6 rfl (V.move ⟨rfl, rfl, rfl, rfl⟩ rfl) rfl (by kernel_rfl) (by kernel_rfl) (by kernel_rfl) ?_
          refine GA.val 7 rfl (V.move ⟨rfl, rfl, rfl, rfl⟩ rfl) rfl (by kernel_rfl) (by kernel_rfl) (by kernel_rfl) ?_
          refine GA.val 8 rfl (V.sliceStrH ⟨rfl, rfl, rfl, rfl⟩ rfl rfl Tryd.underlying9 (by omega) (by omega)) rfl (by kernel_rfl) (by kernel_rfl) (by kernel_rfl) ?_
          refine GA.one 4 (by first | exact Hs.refl _ | exact Hs.tl _ | exact Hs.tl2 _ _ | exact Hs.tl3 _ _ _ | exact Hs.sub (by simp)) (by kernel_rfl) rfl ?_
          refine R.call ⟨rfl, rfl, rfl, rfl⟩ rfl (vs := [_]) rfl ((ref_Put _ _ _ (may_le (by assumption))).mono ?_)
          rintro _ _ ⟨bp, rfl, rfl⟩
          refine GOps.nil ?_
          refine GA.one 5 (by first | exact Hs.refl _ | exact Hs.tl _ | exact Hs.tl2 _ _ | exact Hs.tl3 _ _ _ | exact Hs.sub (by simp)) (by kernel_rfl) rfl ?_
          refine R.convBytes (l := putL (refAcc (bs s) n i)) ⟨rfl, rfl, rfl, rfl⟩ rfl Tryd.underlying38 Tryd.underlying5 Tryd.underlying9 (rfl) (.own (by repeat (first | exact List.mem_cons_self | apply List.mem_cons_of_mem)) 0 _ (fun j v hv => by simpa [bytesC] using hv)) ?_
          refine GOps.nil ?_
          refine GA.val 9 rfl (V.eqS ⟨rfl, rfl, rfl, rfl⟩ rfl rfl) rfl (by kernel_rfl) (by kernel_rfl) (by kernel_rfl) ?_   -- eql ['t52', 't55']
          refine GA.val 10 rfl (V.pick_t ⟨rfl, rfl, rfl, rfl⟩ rfl rfl) rfl (by kernel_rfl) (by kernel_rfl) (by kernel_rfl) ?_
          refine GA.done (by first | exact Hs.refl _ | exact Hs.tl _ | exact Hs.tl2 _ _ | exact Hs.tl3 _ _ _ | exact Hs.sub (by simp)) (by kernel_rfl) ?_
          refine GW.ite rfl (fun hc10 => ?_) (fun hc10 => ?_)
          · try simp only [decide_eq_true_eq, decide_eq_false_iff_not, Bool.not_eq_true', Bool.not_eq_false'] at hc10
            refine GW.seq ?_
            refine GW.region ?_
            refine R.move ⟨rfl, rfl, rfl, rfl⟩ rfl ?_
            refine R.move ⟨rfl, rfl, rfl, rfl⟩ rfl ?_
            refine R.assign ⟨rfl, rfl, rfl, rfl⟩ rfl ?_
            refine R.assign ⟨rfl, rfl, rfl, rfl⟩ rfl ?_
            refine GOps.nil ?_
            refine GW.ret (Out.of (Res.two rfl rfl rfl) (by first | exact Hs.refl _ | exact Hs.tl _ | exact Hs.tl2 _ _ | exact Hs.tl3 _ _ _) ⟨?_, rfl⟩)
            first | (rw [getS_none_of hn5 h0 (by omega)]; rfl) | (rw [(getS_iff (bs_getD_lt s)).2 ⟨hn1, by omega, by rw [bs_length]; omega, rfl, try_yes (i := i) (by omega) (by assumption) (by assumption)⟩]; rw [show i = n by omega]; rfl)
          · try simp only [decide_eq_true_eq, decide_eq_false_iff_not, Bool.not_eq_true', Bool.not_eq_false'] at hc10
            refine GW.skip ?_
            refine GW.region ?_
            refine R.move ⟨rfl, rfl, rfl, rfl⟩ rfl ?_
            refine R.add (r := (((n + 1) : Nat) : Int)) ⟨rfl, rfl, rfl, rfl⟩ rfl rfl (by rw [wrap64_id (by omega) (by omega)]; omega) ?_   -- add ['t16', '1']
            refine R.assign ⟨rfl, rfl, rfl, rfl⟩ rfl ?_
            refine GOps.nil ?_
            exact ⟨n + 1, by omega, ⟨by omega, by omega, fun k h1 h2 h3 => by (rcases (by omega : k < n ∨ k = n) with h | rfl) <;> first | exact h0 k h1 h h3 | exact try_no1 (i := i) (by omega) (by assumption) | exact try_no2 (i := i) (by omega) (by assumption) (by assumption)⟩, rfl, by repeat (first | exact Keeps.nil _ | refine Keeps.cons rfl ?_), by first | exact Hs.refl _ | exact Hs.tl _ | exact Hs.tl2 _ _⟩
        · try simp only [decide_eq_true_eq, decide_eq_false_iff_not, Bool.not_eq_true', Bool.not_eq_false'] at hg9
          refine GA.skip 3 rfl rfl rfl rfl rfl (by kernel_rfl) (by kernel_rfl) (by kernel_rfl) ?_
          refine GA.skip 4 rfl rfl rfl rfl rfl (by kernel_rfl) (by kernel_rfl) (by kernel_rfl) ?_
          refine GA.skip 5 rfl rfl rfl rfl rfl (by kernel_rfl) (by kernel_rfl) (by kernel_rfl) ?_
          refine GA.skip 6 rfl rfl rfl rfl rfl (by kernel_rfl) (by kernel_rfl) (by kernel_rfl) ?_
          refine GA.skip 7 rfl rfl rfl rfl rfl (by kernel_rfl) (by kernel_rfl) (by kernel_rfl) ?_
          refine GA.skip 8 rfl rfl rfl rfl rfl (by kernel_rfl) (by kernel_rfl) (by kernel_rfl) ?_
          refine GA.skip 9 rfl rfl rfl rfl rfl (by kernel_rfl) (by kernel_rfl) (by kernel_rfl) ?_
          refine GA.val 10 rfl (V.pick_f ⟨rfl, rfl, rfl, rfl⟩ rfl rfl) rfl (by kernel_rfl) (by kernel_rfl) (by kernel_rfl) ?_
          refine GA.done (by first | exact Hs.refl _ | exact Hs.tl _ | exact Hs.tl2 _ _ | exact Hs.tl3 _ _ _ | exact Hs.sub (by simp)) (by kernel_rfl) ?_
          refine GW.cond_f rfl ?_
          refine GW.skip ?_
          refine GW.region ?_
          refine R.move ⟨rfl, rfl, rfl, rfl⟩ rfl ?_
          refine R.add (r := (((n + 1) : Nat) : Int)) ⟨rfl, rfl, rfl, rfl⟩ rfl rfl (by rw [wrap64_id (by omega) (by omega)]; omega) ?_   -- add ['t16', '1']
          refine R.assign ⟨rfl, rfl, rfl, rfl⟩ rfl ?_
          refine GOps.nil ?_
          exact ⟨n + 1, by omega, ⟨by omega, by omega, fun k h1 h2 h3 => by (rcases (by omega : k < n ∨ k = n) with h | rfl) <;> first | exact h0 k h1 h h3 | exact try_no1 (i := i) (by omega) (by assumption) | exact try_no2 (i := i) (by omega) (by assumption) (by assumption)⟩, rfl, by repeat (first | exact Keeps.nil _ | refine Keeps.cons rfl ?_), by first | exact Hs.refl _ | exact Hs.tl _ | exact Hs.tl2 _ _⟩
    · try simp only [decide_eq_true_eq, decide_eq_false_iff_not, Bool.not_eq_true', Bool.not_eq_false'] at hc2
      refine GW.exit ?_
      refine GW.seq ?_
      refine GW.region ?_
      refine R.assign ⟨rfl, rfl, rfl, rfl⟩ rfl ?_
      refine R.assign ⟨rfl, rfl, rfl, rfl⟩ rfl ?_
      refine GOps.nil ?_
      refine GW.ret (Out.of (Res.two rfl rfl rfl) (by first | exact Hs.refl _ | exact Hs.tl _ | exact Hs.tl2 _ _ | exact Hs.tl3 _ _ _) ⟨?_, rfl⟩)
      first | (rw [getS_none_of hn5 h0 (by omega)]; rfl) | (rw [(getS_iff (bs_getD_lt s)).2 ⟨hn1, by omega, by rw [bs_length]; omega, rfl, try_yes (i := i) (by omega) (by assumption) (by assumption)⟩]; rw [show i = n by omega]; rfl)
  · try simp only [decide_eq_true_eq, decide_eq_false_iff_not, Bool.not_eq_true', Bool.not_eq_false'] at hg1
    refine GOps.skip rfl rfl rfl ?_
    refine GOps.skip rfl rfl rfl ?_
    refine GOps.skip rfl rfl rfl ?_
    refine GOps.skip rfl rfl rfl ?_
    refine R.pick_f ⟨rfl, rfl, rfl, rfl⟩ rfl rfl ?_
    refine GOps.nil ?_
    refine GW.cond_f rfl ?_
    refine GW.exit ?_
    refine GW.seq ?_
    refine GW.region ?_
    refine R.assign ⟨rfl, rfl, rfl, rfl⟩ rfl ?_
    refine R.assign ⟨rfl, rfl, rfl, rfl⟩ rfl ?_
    refine GOps.nil ?_
    refine GW.ret (Out.of (Res.two rfl rfl rfl) (by first | exact Hs.refl _ | exact Hs.tl _ | exact Hs.tl2 _ _ | exact Hs.tl3 _ _ _) ⟨?_, rfl⟩)
    first | (rw [getS_none_of hn5 h0 (by omega)]; rfl) | (rw [(getS_iff (bs_getD_lt s)).2 ⟨hn1, by omega, by rw [bs_length]; omega, rfl, try_yes (i := i) (by omega) (by assumption) (by assumption)⟩]; rw [show i = n by omega]; rfl)

end Go.Proofs.YtgjmandjhjfgkaaDoor.Gl
