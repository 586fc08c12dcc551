import Derived.Test.YtgjmandjhjfgkaaDoorS3
import Derived.Test.YtgjmandjhjfgkaaDoorGs
namespace Go.Proofs.YtgjmandjhjfgkaaDoor.Gl
open Go.RowKit Go.Shelf
set_option linter.unusedVariables false
set_option linter.unnecessarySimpa false
set_option linter.unusedSimpArgs false
attribute [-simp] List.getD_eq_getElem?_getD



/-! ### plain: the runes of a text -/
def nextAt (l : List Nat) (k : Nat) : Option (Nat × Nat) := if k < l.length then getS (l.drop k) else none
def endAt (l : List Nat) : Nat → Nat → Nat
  | 0, k => k
  | f + 1, k => match nextAt l k with
    | some (_, n) => endAt l f (k + n)
    | none => k
def validS (l : List Nat) : Bool := endAt l (l.length + 1) 0 == l.length
theorem nextAt_of {s : ByteArray} {k : Nat} {x : Option (Nat × Nat)} (h : k < (bs s).length) (hg : getS (bs (s.extract k s.size)) = x) : nextAt (bs s) k = x := by
  rw [bs_from] at hg
  unfold nextAt
  rw [if_pos h, hg]
theorem nextAt_ge {s : ByteArray} {k : Nat} (h : ¬ k < s.size) : nextAt (bs s) k = none := by unfold nextAt; rw [if_neg (by rw [bs_length]; exact h)]
theorem nextAt_facts {l : List Nat} {k r n : Nat} (h : nextAt l k = some (r, n)) : k < l.length ∧ 1 ≤ n ∧ k + n ≤ l.length ∧ sizeR r = n ∧ n ≤ 4 := by
  unfold nextAt at h
  split at h
  case isFalse => cases h
  rename_i hk
  unfold getS at h
  simp only at h
  split at h
  case isFalse => cases h
  rename_i hc
  simp only [Option.some.injEq, Prod.mk.injEq] at h
  obtain ⟨rfl, rfl⟩ := h
  have h2 := hc.2.1
  have h3 := hdM_le ((l.drop k).getD 0 0)
  rw [List.length_drop] at h2
  exact ⟨hk, by omega, by omega, hc.2.2.2.2, by omega⟩
/-- The way that still lies ahead. -/
def Ahead (l : List Nat) (k : Nat) : Prop := ∃ f, endAt l (l.length + 1) 0 = endAt l f k ∧ l.length - k < f ∧ k ≤ l.length
theorem Ahead.zero (l : List Nat) : Ahead l 0 := ⟨_, rfl, by omega, by omega⟩
theorem Ahead.next {l : List Nat} {k r n : Nat} (h : Ahead l k) (hn : nextAt l k = some (r, n)) : Ahead l (k + n) := by
  obtain ⟨f, h1, h2, h3⟩ := h
  obtain ⟨g1, g2, g3, g4, g5⟩ := nextAt_facts hn
  cases f with
  | zero => omega
  | succ f =>
    refine ⟨f, ?_, by omega, g3⟩
    rw [h1]
    simp only [endAt, hn]
theorem Ahead.stop {l : List Nat} {k : Nat} (h : Ahead l k) (hn : nextAt l k = none) : endAt l (l.length + 1) 0 = k := by
  obtain ⟨f, h1, h2, h3⟩ := h
  rw [h1]
  cases f with
  | zero => rfl
  | succ f => simp only [endAt, hn]
theorem valid_of {s : ByteArray} {k : Nat} (h : Ahead (bs s) k) (hn : nextAt (bs s) k = none) : validS (bs s) = decide ((k : Int) = (s.size : Int)) := by
  unfold validS
  rw [h.stop hn, bs_length, Bool.eq_iff_iff]
  simp
  omega


theorem utf_Runes1 (w0 : World) (l bS : Nat) (s : ByteArray) (hm : s.size ≤ 9223372036854775807) (J : Nat → Hp) (I : Nat → Prop) (S : Hp → Prop) (hc : ∀ k, Rd w0 (J k) bS 0 (.string s)) (h0 : I 0)
    (hy : ∀ k r n, I k → nextAt (bs s) k = some (r, n) → GY Tryd.prog w0 l [.int .i64 (k : Int), .int .i64 (r : Int)] (fun v G' => (v = .bool true ∧ I (k + n) ∧ J (k + n) = G') ∨ (v = .bool false ∧ S G')) (J k)) :
    GC Tryd.prog w0 66 #[.func (.yield l) #[] #[], .pointer (some ⟨bS, 0, none⟩)] (fun v G' => (∃ k, I k ∧ nextAt (bs s) k = none ∧ J k = G') ∨ S G') (J 0) := by
  refine GC.body (args := [.func (.yield l) #[] #[], .pointer (some ⟨bS, 0, none⟩)]) Tryd.func66 rfl (by kernel_rfl) rfl ?_
  refine GW.seq ?_
  refine GW.region ?_
  refine R.assign ⟨rfl, rfl, rfl, rfl⟩ rfl ?_
  refine GOps.nil ?_
  refine GW.block ?_
  -- LOOP: live 0:yield, 1, 3:at
  refine GW.loopI (fun k : Nat => [(0, .func (.yield l) #[] #[]), (1, .pointer (some ⟨bS, 0, none⟩)), (3, .int .i64 k)]) (fun k => J k) (fun k => s.size - k) (fun k => k ≤ s.size ∧ I k) 0
    (by repeat (first | exact Keeps.nil _ | refine Keeps.cons rfl ?_)) (Hs.refl _) (⟨by omega, h0⟩) ?_
  rintro k ⟨hk, hI⟩
  refine GW.seq ?_
  refine GW.seq ?_
  refine GW.region ?_
  refine R.move ⟨rfl, rfl, rfl, rfl⟩ rfl ?_
  refine R.load1 ⟨rfl, rfl, rfl, rfl⟩ rfl Tryd.underlying9 rfl (hc _) ?_   -- load 0 utf.go:89
  refine R.lenStr ⟨rfl, rfl, rfl, rfl⟩ rfl rfl Tryd.underlying9 ?_
  refine R.lss ⟨rfl, rfl, rfl, rfl⟩ rfl rfl ?_   -- lss ['t7', 't9']
  refine GOps.nil ?_
  refine GW.ite rfl (fun hc1 => ?_) (fun hc1 => ?_)
  · try simp only [decide_eq_true_eq, decide_eq_false_iff_not, Bool.not_eq_true', Bool.not_eq_false'] at hc1
    refine GW.skip ?_
    refine GW.block ?_
    refine GW.seq ?_
    refine GW.region ?_
    refine R.load1 ⟨rfl, rfl, rfl, rfl⟩ rfl Tryd.underlying9 rfl (hc _) ?_   -- load 1 utf.go:90
    refine R.move ⟨rfl, rfl, rfl, rfl⟩ rfl ?_
    refine R.sliceStrL ⟨rfl, rfl, rfl, rfl⟩ rfl rfl Tryd.underlying9 (by omega) (by omega) ?_
    refine R.call ⟨rfl, rfl, rfl, rfl⟩ rfl (vs := [_]) rfl ((utf_Get _ _ _ (by rw [size_from]; omega)).mono ?_)
    rintro _ _ ⟨rfl, rfl⟩
    rcases hg : getS (bs (s.extract (k : Int).toNat s.size)) with _ | ⟨r, n⟩
    · have hn0 : nextAt (bs s) k = none := nextAt_of (by rw [bs_length]; omega) hg
      refine R.move ⟨rfl, rfl, rfl, rfl⟩ rfl ?_
      refine R.extract ⟨rfl, rfl, rfl, rfl⟩ rfl rfl ?_
      refine R.extract ⟨rfl, rfl, rfl, rfl⟩ rfl rfl ?_
      refine R.extract ⟨rfl, rfl, rfl, rfl⟩ rfl rfl ?_
      refine R.assign ⟨rfl, rfl, rfl, rfl⟩ rfl ?_
      refine R.assign ⟨rfl, rfl, rfl, rfl⟩ rfl ?_
      refine R.assign ⟨rfl, rfl, rfl, rfl⟩ rfl ?_
      refine GOps.nil ?_
      refine GW.seq ?_
      refine GW.seq ?_
      refine GW.region ?_
      refine R.move ⟨rfl, rfl, rfl, rfl⟩ rfl ?_
      refine R.neI ⟨rfl, rfl, rfl, rfl⟩ rfl rfl ?_   -- neq ['t19', '0']
      refine R.move ⟨rfl, rfl, rfl, rfl⟩ rfl ?_
      refine GOps.skip rfl rfl rfl ?_
      refine GOps.skip rfl rfl rfl ?_
      refine GOps.skip rfl rfl rfl ?_
      refine GOps.skip rfl rfl rfl ?_
      refine GOps.skip rfl rfl rfl ?_
      refine R.pick_t ⟨rfl, rfl, rfl, rfl⟩ rfl rfl ?_
      refine GOps.nil ?_
      refine GW.cond_t rfl ?_
      first | exact GW.ret (Out.of (Res.none rfl) (Hs.refl _) (.inl ⟨k, hI, hn0, rfl⟩)) | exact GW.ret (Out.of (Res.none rfl) (Hs.refl _) (.inr hS))
    · have hn1 : nextAt (bs s) k = some (r, n) := nextAt_of (by rw [bs_length]; omega) hg
      refine R.move ⟨rfl, rfl, rfl, rfl⟩ rfl ?_
      refine R.extract ⟨rfl, rfl, rfl, rfl⟩ rfl rfl ?_
      refine R.extract ⟨rfl, rfl, rfl, rfl⟩ rfl rfl ?_
      refine R.extract ⟨rfl, rfl, rfl, rfl⟩ rfl rfl ?_
      refine R.assign ⟨rfl, rfl, rfl, rfl⟩ rfl ?_
      refine R.assign ⟨rfl, rfl, rfl, rfl⟩ rfl ?_
      refine R.assign ⟨rfl, rfl, rfl, rfl⟩ rfl ?_
      refine GOps.nil ?_
      refine GW.seq ?_
      refine GW.seq ?_
      refine GW.region ?_
      refine R.move ⟨rfl, rfl, rfl, rfl⟩ rfl ?_
      refine R.neI ⟨rfl, rfl, rfl, rfl⟩ rfl rfl ?_   -- neq ['t19', '0']
      refine R.move ⟨rfl, rfl, rfl, rfl⟩ rfl ?_
      refine R.move ⟨rfl, rfl, rfl, rfl⟩ rfl ?_
      refine R.move ⟨rfl, rfl, rfl, rfl⟩ rfl ?_
      refine R.move ⟨rfl, rfl, rfl, rfl⟩ rfl ?_
      refine R.yield ⟨rfl, rfl, rfl, rfl⟩ rfl (vs := [_, _]) rfl ((hy k r n hI hn1).mono ?_)
      rintro v G2 (⟨rfl, hI2, rfl⟩ | ⟨rfl, hS⟩)
      · refine R.not ⟨rfl, rfl, rfl, rfl⟩ rfl ?_
        refine R.pick_f ⟨rfl, rfl, rfl, rfl⟩ rfl rfl ?_
        refine GOps.nil ?_
        refine GW.cond_f rfl ?_
        refine GW.skip ?_
        refine GW.region ?_
        refine R.move ⟨rfl, rfl, rfl, rfl⟩ rfl ?_
        refine R.move ⟨rfl, rfl, rfl, rfl⟩ rfl ?_
        refine R.add (r := ((k + n : Nat) : Int)) ⟨rfl, rfl, rfl, rfl⟩ rfl rfl (by have := nextAt_facts hn1; rw [bs_length] at this; rw [wrap64_id (by omega) (by omega)]; omega) ?_   -- add ['t28', 't29']
        refine R.assign ⟨rfl, rfl, rfl, rfl⟩ rfl ?_
        refine GOps.nil ?_
        exact ⟨k + n, by have := nextAt_facts hn1; rw [bs_length] at this; omega, ⟨by have := nextAt_facts hn1; rw [bs_length] at this; omega, hI2⟩, rfl, by repeat (first | exact Keeps.nil _ | refine Keeps.cons rfl ?_), by first | exact Hs.refl _ | exact Hs.tl _ | exact Hs.tl2 _ _⟩
      · refine R.not ⟨rfl, rfl, rfl, rfl⟩ rfl ?_
        refine R.pick_f ⟨rfl, rfl, rfl, rfl⟩ rfl rfl ?_
        refine GOps.nil ?_
        refine GW.cond_t rfl ?_
        first | exact GW.ret (Out.of (Res.none rfl) (Hs.refl _) (.inl ⟨k, hI, hn0, rfl⟩)) | exact GW.ret (Out.of (Res.none rfl) (Hs.refl _) (.inr hS))
  · try simp only [decide_eq_true_eq, decide_eq_false_iff_not, Bool.not_eq_true', Bool.not_eq_false'] at hc1
    refine GW.exit ?_
    refine Out.end_ (Res.none rfl) (Hs.refl _) (.inl ⟨k, hI, nextAt_ge (by omega), rfl⟩)

theorem utf_Runes (w0 : World) (G : Hp) (s : ByteArray) : GC Tryd.prog w0 59 #[.string s] (fun v G' => ∃ b, v = .func (.func 66) #[] #[.pointer (some ⟨b, 0, none⟩)] ∧ (b, .exact (.cells #[.string s] 9 (0, 0))) :: G = G') G := by
  refine GC.body (args := [.string s]) Tryd.func59 rfl (by kernel_rfl) rfl ?_
  refine GW.seq ?_
  refine GW.region ?_
  refine R.box ⟨rfl, rfl, rfl, rfl⟩ rfl fun b1 => ?_   -- type 9
  refine R.assign ⟨rfl, rfl, rfl, rfl⟩ rfl ?_
  refine GOps.nil ?_
  refine GW.seq ?_
  refine GW.region ?_
  refine R.makeFunc (vs := []) (us := [_]) ⟨rfl, rfl, rfl, rfl⟩ rfl rfl ?_
  refine R.assign ⟨rfl, rfl, rfl, rfl⟩ rfl ?_
  refine GOps.nil ?_
  exact GW.ret (Out.of (Res.one rfl rfl) (Hs.refl _) ⟨_, rfl, rfl⟩)

theorem utf_Valid (w0 : World) (G : Hp) (s : ByteArray) (hm : s.size ≤ 9223372036854775807) : GC Tryd.prog w0 58 #[.string s] (fun v G' => v = .bool (validS (bs s)) ∧ G = G') G := by
  refine GC.body (args := [.string s]) Tryd.func58 rfl (by kernel_rfl) rfl ?_
  refine GW.seq ?_
  refine GW.region ?_
  refine R.assign ⟨rfl, rfl, rfl, rfl⟩ rfl ?_
  refine GOps.nil ?_
  refine GW.seq ?_
  refine GW.region ?_
  refine R.alloc ⟨rfl, rfl, rfl, rfl⟩ Tryd.zeroValue3 fun b3 => ?_
  refine R.storeAll (G1 := []) rfl rfl rfl rfl rfl Tryd.sizeOf3 rfl rfl rfl rfl ?_   -- t3:end
  refine GOps.nil ?_
  refine GW.seq ?_
  refine GW.seq ?_
  refine GW.region ?_
  refine R.move ⟨rfl, rfl, rfl, rfl⟩ rfl ?_
  refine R.call ⟨rfl, rfl, rfl, rfl⟩ rfl (vs := [_]) rfl ((utf_Runes _ _ _).mono ?_)
  rintro _ _ ⟨bS, rfl, rfl⟩
  refine GOps.nil ?_
  refine GW.block ?_
  refine GW.rangeFunc rfl fun D0 l0 r0 hp0 ha0 hb0 hfr0 => ?_
  refine GC.mono (utf_Runes1 w0 l0 bS s hm (fun k => (l0, lrec r0 .ready none) :: (D0, .exact (.deferred (some []))) :: (bS, .exact (.cells #[.string s] 9 (0, 0))) :: (b3, .exact (.cells #[.int .i64 (k : Int)] 3 (0, 0))) :: G) (Ahead (bs s)) (fun _ => False) (fun k => .own' (by repeat (first | exact List.mem_cons_self | apply List.mem_cons_of_mem)) rfl) (Ahead.zero _) ?_) ?_
  · intro k r n hI hn
    refine GY.intro hfr0 (by rw [hp0]; rfl) (by rw [hp0]; rfl) ?_
    rw [hp0, ha0, hb0]
    refine GW.seq ?_
    refine GW.region ?_
    refine R.assign ⟨rfl, rfl, rfl, rfl⟩ rfl ?_
    refine GOps.nil ?_
    refine GW.region ?_
    refine R.assign ⟨rfl, rfl, rfl, rfl⟩ rfl ?_
    refine GOps.nil ?_
    refine ⟨_, Hs.refl _, ?_⟩
    refine GW.block ?_
    refine GW.region ?_
    refine R.move ⟨rfl, rfl, rfl, rfl⟩ rfl ?_
    refine R.move ⟨rfl, rfl, rfl, rfl⟩ rfl ?_
    refine R.call ⟨rfl, rfl, rfl, rfl⟩ rfl (vs := [_]) rfl ((utf_size _ _ _).mono ?_)
    rintro _ _ ⟨rfl, rfl⟩
    refine R.add (r := ((k + n : Nat) : Int)) ⟨rfl, rfl, rfl, rfl⟩ rfl rfl (by have := nextAt_facts hn; rw [bs_length] at this; rw [this.2.2.2.1, wrap64_id (by omega) (by omega)]; omega) ?_   -- add ['t10', 't12']
    refine R.storeAll (G1 := [_, _, _]) rfl rfl rfl rfl rfl Tryd.sizeOf3 rfl rfl rfl rfl ?_   -- t3:end
    refine GOps.nil ?_
    exact ⟨_, Hs.refl _, .inl ⟨rfl, hI.next hn, rfl⟩⟩
  · rintro _ _ (⟨k, hI, hn, rfl⟩ | hF)
    · refine ⟨.ready, none, _, by simp, Hs.refl _, ?_⟩
      show GW _ _ _ _ _ _
      refine GW.seq ?_
      refine GW.region ?_
      refine R.load1 ⟨rfl, rfl, rfl, rfl⟩ rfl Tryd.underlying3 rfl (.own' (by repeat (first | exact List.mem_cons_self | apply List.mem_cons_of_mem | apply List.mem_append_right)) (by rfl)) ?_   -- load 0 utf.go:105 t3:end
      refine R.move ⟨rfl, rfl, rfl, rfl⟩ rfl ?_
      refine R.lenStr ⟨rfl, rfl, rfl, rfl⟩ rfl rfl Tryd.underlying9 ?_
      refine R.eqI ⟨rfl, rfl, rfl, rfl⟩ rfl rfl ?_   -- eql ['t14', 't16']
      refine R.assign ⟨rfl, rfl, rfl, rfl⟩ rfl ?_
      refine GOps.nil ?_
      refine GW.ret (Out.of1 (Res.one rfl rfl) (by first | exact Hs.refl _ | exact Hs.tl _ | exact Hs.tl2 _ _ | exact Hs.tl3 _ _ _ | exact (Hs.app _).trans (Hs.tl _) | exact (Hs.app _).trans ((Hs.app _).trans (Hs.tl _))) ⟨?_, rfl⟩)
      rw [valid_of hI hn]
    · exact hF.elim

end Go.Proofs.YtgjmandjhjfgkaaDoor.Gl
