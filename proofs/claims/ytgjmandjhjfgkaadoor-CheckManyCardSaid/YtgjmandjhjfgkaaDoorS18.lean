import Derived.Test.YtgjmandjhjfgkaaDoorS17
import Derived.Laws.StructEq
namespace Go.Proofs.YtgjmandjhjfgkaaDoor.Gl
open Go.RowKit Go.Shelf
set_option linter.unusedVariables false
set_option linter.unnecessarySimpa false
set_option linter.unusedSimpArgs false
attribute [-simp] List.getD_eq_getElem?_getD



theorem Ext.trans {F F' F'' : Hp} (h : Ext F F') (h' : Ext F' F'') : Ext F F'' := ⟨fun y hy => h'.1 y (h.1 y hy), fun L => (h'.2 L).trans (h.2 L)⟩
/-! ### plain: what is given -/
def entsL : Nat → List ByteArray → List MapEntry
  | _, [] => []
  | n, k :: ks => { key := .string k, val := .agg #[.bool true], born := n } :: entsL (n + 1) ks
def entriesOf (ks : List ByteArray) : Array MapEntry := (entsL 0 ks).toArray
def emap (ks : List ByteArray) : Know := .exact (.map (entriesOf ks) ks.length)
theorem entsL_snoc (k : ByteArray) : ∀ (ks : List ByteArray) (n : Nat), entsL n (ks ++ [k]) = entsL n ks ++ [{ key := .string k, val := .agg #[.bool true], born := n + ks.length }]
  | [], n => rfl
  | x :: ks, n => by
    simp only [List.cons_append, entsL, entsL_snoc k ks (n + 1), List.length_cons]
    rw [show n + 1 + ks.length = n + (ks.length + 1) by omega]
theorem emap_push (ks : List ByteArray) (k : ByteArray) : Know.exact (.map ((entriesOf ks).push { key := .string k, val := .agg #[.bool true], born := ks.length }) (ks.length + 1)) = emap (ks ++ [k]) := by
  unfold emap entriesOf
  rw [entsL_snoc, List.length_append]
  simp
theorem entsL_get : ∀ (ks : List ByteArray) (n j : Nat) (k : ByteArray), ks[j]? = some k → (entsL n ks)[j]? = some { key := .string k, val := .agg #[.bool true], born := n + j }
  | [], n, j, k, h => by simp at h
  | x :: ks, n, 0, k, h => by
    simp at h
    subst h
    rfl
  | x :: ks, n, j + 1, k, h => by
    have := entsL_get ks (n + 1) j k (by simpa using h)
    simp only [entsL, List.getElem?_cons_succ, this]
    rw [show n + 1 + j = n + (j + 1) by omega]
theorem emap_old {ks : List ByteArray} {j : Nat} {k : ByteArray} (h : ks[j]? = some k) : Know.exact (.map ((entriesOf ks).modify j fun e => { e with key := .string k, val := .agg #[.bool true] }) ks.length) = emap ks := by
  have e : (entriesOf ks).modify j (fun e => { e with key := .string k, val := .agg #[.bool true] }) = entriesOf ks := by
    apply Array.ext_getElem?
    intro i
    rw [Array.getElem?_modify]
    by_cases hi : j = i
    · subst hi
      rw [if_pos rfl]
      have := entsL_get ks 0 j k h
      unfold entriesOf
      rw [List.getElem?_toArray, this]
      rfl
    · rw [if_neg hi]
  unfold emap
  rw [e]
theorem ents_same {ks : List ByteArray} {j : Nat} {k : ByteArray} (h : ks[j]? = some k) : Instr.sameBits 10000 ((((entriesOf ks)[j]?).map (·.key)).getD (.string k)) (.string k) = true := by
  have := entsL_get ks 0 j k h
  unfold entriesOf
  rw [List.getElem?_toArray, this]
  simp [Instr.sameBits, beq_toListBytes]
theorem find_ents (k : ByteArray) : ∀ (ks : List ByteArray) (n i : Nat), (inB ks k = false ∧ Instr.findNow .string (.string k) (entsL n ks) i = some none) ∨ (inB ks k = true ∧ ∃ j, ks[j]? = some k ∧ Instr.findNow .string (.string k) (entsL n ks) i = some (some (i + j, .agg #[.bool true])))
  | [], n, i => .inl ⟨rfl, rfl⟩
  | x :: ks, n, i => by
    have ih := find_ents k ks (n + 1) (i + 1)
    simp only [entsL, Instr.findNow, Instr.sameNow, beq_toListBytes, inB, List.any_cons, eqB]
    by_cases h : (k.toList == x.toList) = true
    · right
      have hx : x = k := by
        rw [toList_beq, beq_iff_eq] at h
        exact (bs_inj h).symm
      subst hx
      refine ⟨by simp, 0, rfl, by simp⟩
    · have h' : (k.toList == x.toList) = false := by simpa using h
      have h2 : (x.toList == k.toList) = false := by
        rw [toList_beq] at h' ⊢
        simp only [beq_eq_false_iff_ne, ne_eq] at h' ⊢
        exact fun e => h' e.symm
      rw [h', h2]
      rcases ih with ⟨h3, h4⟩ | ⟨h3, j, h4, h5⟩
      · left
        exact ⟨by simpa [inB, eqB] using h3, h4⟩
      · right
        refine ⟨by simpa [inB, eqB] using h3, j + 1, by simpa using h4, ?_⟩
        simp only [h5]
        rw [show i + 1 + j = i + (j + 1) by omega]
theorem find_no {ks : List ByteArray} {k : ByteArray} (h : inB ks k = false) : Instr.findNow .string (.string k) (entriesOf ks).toList 0 = some none := by
  rcases find_ents k ks 0 0 with ⟨_, h2⟩ | ⟨h2, _⟩
  · exact h2
  · rw [h] at h2; cases h2
theorem find_yes {ks : List ByteArray} {k : ByteArray} (h : inB ks k = true) : ∃ j, ks[j]? = some k ∧ Instr.findNow .string (.string k) (entriesOf ks).toList 0 = some (some (j, .agg #[.bool true])) := by
  rcases find_ents k ks 0 0 with ⟨h2, _⟩ | ⟨_, j, h2, h3⟩
  · rw [h] at h2; cases h2
  · exact ⟨j, h2, by rw [Nat.zero_add] at h3; exact h3⟩
theorem find_any (ks : List ByteArray) (k : ByteArray) : ∃ rr, Instr.findNow .string (.string k) (entriesOf ks).toList 0 = some rr ∧ hit (.agg #[.bool false]) rr = .agg #[.bool (inB ks k)] := by
  cases h : inB ks k with
  | false => exact ⟨_, find_no h, rfl⟩
  | true => obtain ⟨j, _, h2⟩ := find_yes h; exact ⟨_, h2, rfl⟩
def holdsAt (r : Rl) (i : Int) : Bool := decide (0 ≤ i) && (match r.body[i.toNat]? with | some l => decide (l.kind = 1) | none => false)
theorem hold_no1 {r : Rl} {i : Int} (h : ¬ 0 ≤ i) : holdsAt r i = false := by unfold holdsAt; rw [decide_eq_false h]; rfl
theorem hold_of {r : Rl} {i : Int} {y : Lt} (h : 0 ≤ i) (hy : r.body[i.toNat]? = some y) : holdsAt r i = decide (y.kind = 1) := by unfold holdsAt; rw [decide_eq_true h, hy]; rfl
def kStep (r : Rl) (ks : List ByteArray) (p : Int × Sl) : List ByteArray := bif (holdsAt r p.1 && !emp p.2.v) then (bif inB ks p.2.v then ks else ks ++ [p.2.v]) else ks
def keysTo (r : Rl) (j : Nat) : List ByteArray := ((placesL r).take j).foldl (kStep r) []
theorem keysTo_succ {r : Rl} {j : Nat} {p : Int × Sl} (h : (placesL r)[j]? = some p) : keysTo r (j + 1) = kStep r (keysTo r j) p := by
  unfold keysTo
  rw [List.take_add_one, h, List.foldl_append]
  rfl
theorem key_new {r : Rl} {j : Nat} {i : Int} {s : Sl} {ks : List ByteArray} (hI : ks = keysTo r j) (h : (placesL r)[j]? = some (i, s)) (hc : (holdsAt r i && !emp s.v) = true) (hk : inB ks s.v = false) : ks ++ [s.v] = keysTo r (j + 1) := by
  rw [keysTo_succ h, ← hI, kStep, hc, hk]; rfl
theorem key_old {r : Rl} {j : Nat} {i : Int} {s : Sl} {ks : List ByteArray} (hI : ks = keysTo r j) (h : (placesL r)[j]? = some (i, s)) (hc : (holdsAt r i && !emp s.v) = true) (hk : inB ks s.v = true) : ks = keysTo r (j + 1) := by
  rw [keysTo_succ h, ← hI, kStep, hc, hk]; rfl
theorem key_not {r : Rl} {j : Nat} {i : Int} {s : Sl} {ks : List ByteArray} (hI : ks = keysTo r j) (h : (placesL r)[j]? = some (i, s)) (hc : (holdsAt r i && !emp s.v) = false) : ks = keysTo r (j + 1) := by
  rw [keysTo_succ h, ← hI, kStep, hc]; rfl
def placeOk (ks : List ByteArray) (p : Int × Sl) : Bool := emp p.2.v || inB ks p.2.v
theorem place_ok {ks : List ByteArray} {i : Int} {s : Sl} (h : (!emp s.v && !(inB ks s.v)) = false) : placeOk ks (i, s) = true := by
  unfold placeOk
  show (emp s.v || inB ks s.v) = true
  generalize emp s.v = a at *
  generalize inB ks s.v = b at *
  cases a <;> cases b <;> first | rfl | cases h
theorem place_bad {ks : List ByteArray} {i : Int} {s : Sl} (h : (!emp s.v && !(inB ks s.v)) = true) : placeOk ks (i, s) = false := by
  unfold placeOk
  show (emp s.v || inB ks s.v) = false
  generalize emp s.v = a at *
  generalize inB ks s.v = b at *
  cases a <;> cases b <;> first | rfl | cases h
def chkE (r : Rl) : Int := bif mayRl r then (bif (placesL r).all (placeOk (keysTo r (placesL r).length)) then 0 else 5) else 2
theorem plFrom_inv : ∀ (ls : List Lt) (n j : Nat) (i : Int) (s : Sl), (plFrom n ls)[j]? = some (i, s) → ∃ k y, i = ((n + k : Nat) : Int) ∧ ls[k]? = some y
  | [], n, j, i, s, h => by simp [plFrom] at h
  | l :: ls, n, j, i, s, h => by
    rw [plFrom] at h
    rcases Nat.lt_or_ge j ((slotsOf l).map (fun s => ((n : Int), s))).length with hj | hj
    · rw [List.getElem?_append_left hj, List.getElem?_map, Option.map_eq_some_iff] at h
      obtain ⟨t, _, h2⟩ := h
      cases h2
      exact ⟨0, l, rfl, rfl⟩
    · rw [List.getElem?_append_right hj] at h
      obtain ⟨k, y, h1, h2⟩ := plFrom_inv ls (n + 1) _ i s h
      exact ⟨k + 1, y, by rw [h1]; omega, by simpa using h2⟩
theorem places_inv {r : Rl} {j : Nat} {i : Int} {s : Sl} (h : (placesL r)[j]? = some (i, s)) : ∃ y, 0 ≤ i → r.body[i.toNat]? = some y := by
  unfold placesL at h
  rcases Nat.lt_or_ge j (hdL r).length with hj | hj
  · rw [List.getElem?_append_left hj] at h
    refine ⟨⟨0, ⟨s, s, s⟩, s, s⟩, fun h0 => ?_⟩
    have hj3 : j < 3 := hj
    rcases (by omega : j = 0 ∨ j = 1 ∨ j = 2) with rfl | rfl | rfl <;>
    · simp [hdL] at h
      omega
  · rw [List.getElem?_append_right hj] at h
    obtain ⟨k, y, h1, h2⟩ := plFrom_inv _ _ _ _ _ h
    refine ⟨y, fun _ => ?_⟩
    rw [h1]
    simpa using h2


theorem check_Rule (w0 : World) (G : Hp) (r : Rl) (A : Option Addr) (c : Nat) (hl : LtsAt w0 G A r.body) (hm : r.body.length ≤ 1048576) (h : RlOk r) : GC Tryd.prog w0 13 #[.agg (RlC r.head (.slice A r.body.length c)).toArray] (fun v G' => v = .int .i64 (chkE r) ∧ G = G') G := by
  refine GC.body (args := [.agg (RlC r.head (.slice A r.body.length c)).toArray]) Tryd.func13 rfl (by kernel_rfl) rfl ?_
  refine GW.seq ?_
  refine GW.region ?_
  refine R.box ⟨rfl, rfl, rfl, rfl⟩ rfl fun b1 => ?_   -- type 46
  refine R.alloc ⟨rfl, rfl, rfl, rfl⟩ Tryd.zeroValue27 fun b2 => ?_
  refine GOps.nil ?_
  refine GW.seq ?_
  refine GW.seq ?_
  refine GW.region ?_
  refine R.load_own (cs := RlC r.head (.slice A r.body.length c)) ⟨rfl, rfl, rfl, rfl⟩ rfl Tryd.underlying46 rfl Tryd.sizeOf46 (by repeat (first | exact List.mem_cons_self | apply List.mem_cons_of_mem | apply List.mem_append_right)) (by rfl) (by rfl) ?_   -- load 0 check.go:47 t1:r
  refine R.call ⟨rfl, rfl, rfl, rfl⟩ rfl (vs := [_]) rfl ((rules_May _ _ r A c ((hl.mono (sub_cons _)).mono (sub_cons _)) hm h).mono ?_)
  rintro _ _ ⟨rfl, rfl⟩
  refine R.not ⟨rfl, rfl, rfl, rfl⟩ rfl ?_
  refine GOps.nil ?_
  refine GW.ite rfl (fun hc1 => ?_) (fun hc1 => ?_)
  · try simp only [decide_eq_true_eq, decide_eq_false_iff_not, Bool.not_eq_true', Bool.not_eq_false'] at hc1
    refine GW.seq ?_
    refine GW.region ?_
    refine R.storeAll (G1 := []) rfl rfl rfl rfl rfl Tryd.sizeOf27 rfl rfl rfl rfl ?_   -- t2
    refine GOps.nil ?_
    refine GW.ret (Out.of (resCell rfl rfl Tryd.underlying27 rfl (.own' (by repeat (first | exact List.mem_cons_self | apply List.mem_cons_of_mem | apply List.mem_append_right)) rfl)) (by first | exact Hs.refl _ | exact Hs.tl _ | exact Hs.tl2 _ _ | exact Hs.tl3 _ _ _ | exact (Hs.app _).trans (Hs.tl _) | exact (Hs.app _).trans ((Hs.app _).trans (Hs.tl _))) ⟨?_, rfl⟩)
    unfold chkE; first | (rw [show mayRl r = false from hc1]; rfl) | (rw [show mayRl r = true from hc1, ← hI, hbad]; rfl) | (rw [show mayRl r = true from hc1, ← hI, all_of_take (placeOk ks) (placesL r) _ (Nat.le_refl _) hI2]; rfl)
  · try simp only [decide_eq_true_eq, decide_eq_false_iff_not, Bool.not_eq_true', Bool.not_eq_false'] at hc1
    refine GW.skip ?_
    refine GW.seq ?_
    refine GW.region ?_
    refine R.makeMap ⟨rfl, rfl, rfl, rfl⟩ fun b11 => ?_
    refine R.alloc ⟨rfl, rfl, rfl, rfl⟩ Tryd.zeroValue54 fun b3 => ?_
    refine R.storeAll (G1 := []) rfl rfl rfl rfl rfl Tryd.sizeOf54 rfl rfl rfl rfl ?_   -- t3:given
    refine GOps.nil ?_
    refine GW.seq ?_
    refine GW.seq ?_
    refine GW.region ?_
    refine R.load_own (cs := RlC r.head (.slice A r.body.length c)) ⟨rfl, rfl, rfl, rfl⟩ rfl Tryd.underlying46 rfl Tryd.sizeOf46 (by repeat (first | exact List.mem_cons_self | apply List.mem_cons_of_mem | apply List.mem_append_right)) (by rfl) (by rfl) ?_   -- load 1 check.go:51 t1:r
    refine R.call ⟨rfl, rfl, rfl, rfl⟩ rfl (vs := [_]) rfl ((check_places _ _ r A c).mono ?_)
    rintro _ _ ⟨bP, rfl, rfl⟩
    refine GOps.nil ?_
    refine GW.block ?_
    refine GW.rangeFunc rfl fun D0 l0 r0 hp0 ha0 hb0 hfr0 => ?_
    refine GC.mono (places1 w0 l0 bP r A c (fun ks => [(l0, lrec r0 .ready none), (D0, .exact (.deferred (some []))), (bP, .exact (.cells (RlC r.head (.slice A r.body.length c)).toArray 46 (0, 0))), (b3, .exact (.cells #[.map (some b11)] 54 (0, 0))), (b11, emap ks), (b2, .exact (.cells #[.int .i64 0] 27 (0, 0))), (b1, .exact (.cells (RlC r.head (.slice A r.body.length c)).toArray 46 (0, 0)))]) (fun j ks => ks = keysTo r j) (fun _ => False) G [] hm (fun ks => .own (by repeat (first | exact List.mem_cons_self | apply List.mem_cons_of_mem | apply List.mem_append_right)) 0 _ (fun j v hv => by simpa using hv)) hl rfl ?_) ?_
    · intro F' j ks i s hF hI hn; obtain ⟨y, hyb⟩ := places_inv hn; show GY _ _ _ _ _ ((l0, lrec r0 .ready none) :: (D0, .exact (.deferred (some []))) :: (bP, .exact (.cells (RlC r.head (.slice A r.body.length c)).toArray 46 (0, 0))) :: (b3, .exact (.cells #[.map (some b11)] 54 (0, 0))) :: (b11, emap ks) :: (b2, .exact (.cells #[.int .i64 0] 27 (0, 0))) :: (b1, .exact (.cells (RlC r.head (.slice A r.body.length c)).toArray 46 (0, 0))) :: F')
      refine GY.intro hfr0 (by rw [hp0]; rfl) (by rw [hp0]; rfl) ?_
      rw [hp0, ha0, hb0]
      refine GW.seq ?_
      refine GW.region ?_
      refine R.assign ⟨rfl, rfl, rfl, rfl⟩ rfl ?_
      refine GOps.nil ?_
      refine GW.region ?_
      refine R.alloc ⟨rfl, rfl, rfl, rfl⟩ Tryd.zeroValue37 fun b5 => ?_
      refine R.storeAll (G1 := []) rfl rfl rfl rfl rfl Tryd.sizeOf37 rfl rfl rfl rfl ?_   -- t5:s
      refine GOps.nil ?_
      refine ⟨_, Hs.perm (List.Perm.swap _ _ _), ?_⟩
      refine GW.block ?_
      refine GW.cutS 31 (holdsAt r i && !emp s.v) [(3, .pointer (some ⟨b3, 0, none⟩)), (5, .pointer (some ⟨b5, 0, none⟩))] ?_ ?_
      · refine R.move ⟨rfl, rfl, rfl, rfl⟩ rfl ?_
        refine R.geq ⟨rfl, rfl, rfl, rfl⟩ rfl rfl ?_   -- geq ['t16', '0']
        refine R.move ⟨rfl, rfl, rfl, rfl⟩ rfl ?_
        refine GOps.caseB 18 rfl (fun hg2 => ?_) (fun hg2 => ?_)
        · try simp only [decide_eq_true_eq, decide_eq_false_iff_not, Bool.not_eq_true', Bool.not_eq_false'] at hg2
          · have hyl := hyb (by omega)
            have hlt : i.toNat < r.body.length := (List.getElem?_eq_some_iff.1 hyl).1
            obtain ⟨bb, oo, cs, rfl, rfl, hrd⟩ := hl i.toNat y hyl
            refine R.fieldAddr ⟨rfl, rfl, rfl, rfl⟩ rfl Tryd.underlying46 rfl Tryd.sizeOf44 ?_   -- "Body"
            refine R.load1 ⟨rfl, rfl, rfl, rfl⟩ rfl Tryd.underlying44 rfl (.own' (by repeat (first | exact List.mem_cons_self | apply List.mem_cons_of_mem | apply List.mem_append_right)) (by rfl)) ?_   -- load 2 check.go:52 t19
            refine R.move ⟨rfl, rfl, rfl, rfl⟩ rfl ?_
            refine R.indexAddrS ⟨rfl, rfl, rfl, rfl⟩ rfl rfl Tryd.underlying44 Tryd.sizeOf43 (by omega) (by omega) ?_   -- ['t20', 't21']
            refine R.fieldAddr ⟨rfl, rfl, rfl, rfl⟩ rfl Tryd.underlying43 rfl Tryd.sizeOf41 ?_   -- "Kind"
            refine R.load1 ⟨rfl, rfl, rfl, rfl⟩ rfl Tryd.underlying41 rfl (Rd.mono (fun z hz => by repeat (first | exact hF.1 z hz | apply List.mem_cons_of_mem)) (hrd 0 _ rfl)) ?_   -- load 3 check.go:52
            refine R.eqI ⟨rfl, rfl, rfl, rfl⟩ rfl rfl ?_   -- eql ['t24', '1']
            refine R.pick_t ⟨rfl, rfl, rfl, rfl⟩ rfl rfl ?_
            refine R.move ⟨rfl, rfl, rfl, rfl⟩ rfl ?_
            refine GOps.caseB 27 rfl (fun hg3 => ?_) (fun hg3 => ?_)
            · try simp only [decide_eq_true_eq, decide_eq_false_iff_not, Bool.not_eq_true', Bool.not_eq_false'] at hg3
              refine R.fieldAddr ⟨rfl, rfl, rfl, rfl⟩ rfl Tryd.underlying37 rfl Tryd.sizeOf9 ?_   -- "Var"
              refine R.load1 ⟨rfl, rfl, rfl, rfl⟩ rfl Tryd.underlying9 rfl (.own' (by repeat (first | exact List.mem_cons_self | apply List.mem_cons_of_mem | apply List.mem_append_right)) (by rfl)) ?_   -- load 4 check.go:52 t28
              refine R.neS ⟨rfl, rfl, rfl, rfl⟩ rfl rfl ?_   -- neq ['t29', 'const']
              refine R.pick_t ⟨rfl, rfl, rfl, rfl⟩ rfl rfl ?_
              refine GOps.nil ?_
              exact ⟨rfl, rfl, by repeat (first | exact Keeps.nil _ | refine Keeps.cons rfl ?_), by first | exact Hs.refl _ | exact Hs.tl _, vbs (by first | (rw [hold_no1 (by omega)]; rfl) | (rw [hold_of (by omega) hyl, decide_eq_false (by assumption)]; rfl) | (rw [hold_of (by omega) hyl, decide_eq_true (by assumption)]; rfl))⟩
            · try simp only [decide_eq_true_eq, decide_eq_false_iff_not, Bool.not_eq_true', Bool.not_eq_false'] at hg3
              refine GOps.skip rfl rfl rfl ?_
              refine GOps.skip rfl rfl rfl ?_
              refine GOps.skip rfl rfl rfl ?_
              refine R.pick_f ⟨rfl, rfl, rfl, rfl⟩ rfl rfl ?_
              refine GOps.nil ?_
              exact ⟨rfl, rfl, by repeat (first | exact Keeps.nil _ | refine Keeps.cons rfl ?_), by first | exact Hs.refl _ | exact Hs.tl _, vbs (by first | (rw [hold_no1 (by omega)]; rfl) | (rw [hold_of (by omega) hyl, decide_eq_false (by assumption)]; rfl) | (rw [hold_of (by omega) hyl, decide_eq_true (by assumption)]; rfl))⟩
        · try simp only [decide_eq_true_eq, decide_eq_false_iff_not, Bool.not_eq_true', Bool.not_eq_false'] at hg2
          refine GOps.skip rfl rfl rfl ?_
          refine GOps.skip rfl rfl rfl ?_
          refine GOps.skip rfl rfl rfl ?_
          refine GOps.skip rfl rfl rfl ?_
          refine GOps.skip rfl rfl rfl ?_
          refine GOps.skip rfl rfl rfl ?_
          refine GOps.skip rfl rfl rfl ?_
          refine R.pick_f ⟨rfl, rfl, rfl, rfl⟩ rfl rfl ?_
          refine R.move ⟨rfl, rfl, rfl, rfl⟩ rfl ?_
          refine GOps.skip rfl rfl rfl ?_
          refine GOps.skip rfl rfl rfl ?_
          refine GOps.skip rfl rfl rfl ?_
          refine R.pick_f ⟨rfl, rfl, rfl, rfl⟩ rfl rfl ?_
          refine GOps.nil ?_
          exact ⟨rfl, rfl, by repeat (first | exact Keeps.nil _ | refine Keeps.cons rfl ?_), by first | exact Hs.refl _ | exact Hs.tl _, vbs (by first | (rw [hold_no1 (by omega)]; rfl) | (rw [hold_of (by omega) hyl, decide_eq_false (by assumption)]; rfl) | (rw [hold_of (by omega) hyl, decide_eq_true (by assumption)]; rfl))⟩
      · refine GW.ite rfl (fun hc4 => ?_) (fun hc4 => ?_)
        · try simp only [decide_eq_true_eq, decide_eq_false_iff_not, Bool.not_eq_true', Bool.not_eq_false'] at hc4
          refine GW.region ?_
          refine R.load1 ⟨rfl, rfl, rfl, rfl⟩ rfl Tryd.underlying54 rfl (.own' (by repeat (first | exact List.mem_cons_self | apply List.mem_cons_of_mem | apply List.mem_append_right)) (by rfl)) ?_   -- load 5 check.go:53 t3:given
          refine R.fieldAddr ⟨rfl, rfl, rfl, rfl⟩ rfl Tryd.underlying37 rfl Tryd.sizeOf9 ?_   -- "Var"
          refine R.load1 ⟨rfl, rfl, rfl, rfl⟩ rfl Tryd.underlying9 rfl (.own' (by repeat (first | exact List.mem_cons_self | apply List.mem_cons_of_mem | apply List.mem_append_right)) (by rfl)) ?_   -- load 6 check.go:53 t33
          cases hk : inB ks s.v
          · refine R.build (vs := [(0, _)]) (cells := #[.bool true]) ⟨rfl, rfl, rfl, rfl⟩ rfl (fun w => run_build w 58 _ _ (by kernel_rfl)) ?_   -- build 0 type 58
            refine R.putNew (key := .string s.v) (v := .agg #[.bool true]) (G1 := [_, _, _, _, _]) (.inl rfl) rfl rfl rfl rfl rfl Tryd.underlying54 Tryd.underlying9 rfl rfl (find_no hk) ?_
            rw [emap_push]
            refine GOps.nil ?_
            first | exact ⟨_, Hs.swapDrop _ _ _, .inl ⟨rfl, ks ++ [s.v], key_new hI hn (by assumption) hk, rfl⟩⟩ | exact ⟨_, Hs.swapDrop _ _ _, .inl ⟨rfl, ks, key_old hI hn (by assumption) hk, rfl⟩⟩ | exact ⟨_, Hs.swapDrop _ _ _, .inl ⟨rfl, ks, key_not hI hn (by assumption), rfl⟩⟩
          · obtain ⟨jk, hjk, hfk⟩ := find_yes hk
            refine R.build (vs := [(0, _)]) (cells := #[.bool true]) ⟨rfl, rfl, rfl, rfl⟩ rfl (fun w => run_build w 58 _ _ (by kernel_rfl)) ?_   -- build 1 type 58
            refine R.putOld (key := .string s.v) (v := .agg #[.bool true]) (G1 := [_, _, _, _, _]) (.inl rfl) rfl rfl rfl rfl rfl Tryd.underlying54 Tryd.underlying9 rfl rfl (hfk) (ents_same hjk) ?_
            rw [emap_old hjk]
            refine GOps.nil ?_
            first | exact ⟨_, Hs.swapDrop _ _ _, .inl ⟨rfl, ks ++ [s.v], key_new hI hn (by assumption) hk, rfl⟩⟩ | exact ⟨_, Hs.swapDrop _ _ _, .inl ⟨rfl, ks, key_old hI hn (by assumption) hk, rfl⟩⟩ | exact ⟨_, Hs.swapDrop _ _ _, .inl ⟨rfl, ks, key_not hI hn (by assumption), rfl⟩⟩
        · try simp only [decide_eq_true_eq, decide_eq_false_iff_not, Bool.not_eq_true', Bool.not_eq_false'] at hc4
          refine GW.skip ?_
          first | exact ⟨_, Hs.swapDrop _ _ _, .inl ⟨rfl, ks ++ [s.v], key_new hI hn (by assumption) hk, rfl⟩⟩ | exact ⟨_, Hs.swapDrop _ _ _, .inl ⟨rfl, ks, key_old hI hn (by assumption) hk, rfl⟩⟩ | exact ⟨_, Hs.swapDrop _ _ _, .inl ⟨rfl, ks, key_not hI hn (by assumption), rfl⟩⟩
    · rintro _ _ (⟨ks, F', hI, hF, rfl⟩ | hF)
      · refine ⟨.ready, none, _, by simp, Hs.refl _, ?_⟩
        show GW _ _ _ _ _ ((D0, .exact (.deferred (some []))) :: (bP, .exact (.cells (RlC r.head (.slice A r.body.length c)).toArray 46 (0, 0))) :: (b3, .exact (.cells #[.map (some b11)] 54 (0, 0))) :: (b11, emap ks) :: (b2, .exact (.cells #[.int .i64 0] 27 (0, 0))) :: (b1, .exact (.cells (RlC r.head (.slice A r.body.length c)).toArray 46 (0, 0))) :: F')
        refine GW.seq ?_
        refine GW.seq ?_
        refine GW.region ?_
        refine R.load_own (cs := RlC r.head (.slice A r.body.length c)) ⟨rfl, rfl, rfl, rfl⟩ rfl Tryd.underlying46 rfl Tryd.sizeOf46 (by repeat (first | exact List.mem_cons_self | apply List.mem_cons_of_mem | apply List.mem_append_right)) (by rfl) (by rfl) ?_   -- load 7 check.go:56 t1:r
        refine R.call ⟨rfl, rfl, rfl, rfl⟩ rfl (vs := [_]) rfl ((check_places _ _ r A c).mono ?_)
        rintro _ _ ⟨bQ, rfl, rfl⟩
        refine GOps.nil ?_
        refine GW.block ?_
        refine GW.rangeFunc rfl fun D1 l1 r1 hp1 ha1 hb1 hfr1 => ?_
        refine GC.mono (places1 w0 l1 bQ r A c (fun _ : Unit => [(l1, lrec r1 .ready none), (D1, .exact (.deferred (some []))), (bQ, .exact (.cells (RlC r.head (.slice A r.body.length c)).toArray 46 (0, 0))), (D0, .exact (.deferred (some []))), (bP, .exact (.cells (RlC r.head (.slice A r.body.length c)).toArray 46 (0, 0))), (b3, .exact (.cells #[.map (some b11)] 54 (0, 0))), (b11, emap ks), (b2, .exact (.cells #[.int .i64 0] 27 (0, 0))), (b1, .exact (.cells (RlC r.head (.slice A r.body.length c)).toArray 46 (0, 0)))]) (fun j _ => ((placesL r).take j).all (placeOk ks) = true) (fun G' => ∃ F'', G' = (l1, lrec r1 .done (some .ret)) :: (D1, .exact (.deferred (some []))) :: (bQ, .exact (.cells (RlC r.head (.slice A r.body.length c)).toArray 46 (0, 0))) :: (D0, .exact (.deferred (some []))) :: (bP, .exact (.cells (RlC r.head (.slice A r.body.length c)).toArray 46 (0, 0))) :: (b3, .exact (.cells #[.map (some b11)] 54 (0, 0))) :: (b11, emap ks) :: (b2, .exact (.cells #[.int .i64 5] 27 (0, 0))) :: (b1, .exact (.cells (RlC r.head (.slice A r.body.length c)).toArray 46 (0, 0))) :: F'' ∧ (placesL r).all (placeOk ks) = false ∧ Ext G F'') F' () hm (fun _ => .own (by repeat (first | exact List.mem_cons_self | apply List.mem_cons_of_mem | apply List.mem_append_right)) 0 _ (fun j v hv => by simpa using hv)) (hl.mono hF.1) rfl ?_) ?_
        · intro F'' j _ i s hF2 hI2 hn; show GY _ _ _ _ _ ((l1, lrec r1 .ready none) :: (D1, .exact (.deferred (some []))) :: (bQ, .exact (.cells (RlC r.head (.slice A r.body.length c)).toArray 46 (0, 0))) :: (D0, .exact (.deferred (some []))) :: (bP, .exact (.cells (RlC r.head (.slice A r.body.length c)).toArray 46 (0, 0))) :: (b3, .exact (.cells #[.map (some b11)] 54 (0, 0))) :: (b11, emap ks) :: (b2, .exact (.cells #[.int .i64 0] 27 (0, 0))) :: (b1, .exact (.cells (RlC r.head (.slice A r.body.length c)).toArray 46 (0, 0))) :: F'')
          refine GY.intro hfr1 (by rw [hp1]; rfl) (by rw [hp1]; rfl) ?_
          rw [hp1, ha1, hb1]
          refine GW.region ?_
          refine R.alloc ⟨rfl, rfl, rfl, rfl⟩ Tryd.zeroValue37 fun b7 => ?_
          refine R.storeAll (G1 := []) rfl rfl rfl rfl rfl Tryd.sizeOf37 rfl rfl rfl rfl ?_   -- t7:s
          refine GOps.nil ?_
          refine ⟨_, Hs.perm (List.Perm.swap _ _ _), ?_⟩
          refine GW.block ?_
          refine GW.cutS 50 (!emp s.v && !(inB ks s.v)) [(2, .pointer (some ⟨b2, 0, none⟩))] ?_ ?_
          · refine R.fieldAddr ⟨rfl, rfl, rfl, rfl⟩ rfl Tryd.underlying37 rfl Tryd.sizeOf9 ?_   -- "Var"
            refine R.load1 ⟨rfl, rfl, rfl, rfl⟩ rfl Tryd.underlying9 rfl (.own' (by repeat (first | exact List.mem_cons_self | apply List.mem_cons_of_mem | apply List.mem_append_right)) (by rfl)) ?_   -- load 8 check.go:57 t40
            refine R.neS ⟨rfl, rfl, rfl, rfl⟩ rfl rfl ?_   -- neq ['t41', 'const']
            refine R.move ⟨rfl, rfl, rfl, rfl⟩ rfl ?_
            refine GOps.caseB 43 rfl (fun hg5 => ?_) (fun hg5 => ?_)
            · try simp only [decide_eq_true_eq, decide_eq_false_iff_not, Bool.not_eq_true', Bool.not_eq_false'] at hg5
              refine R.load1 ⟨rfl, rfl, rfl, rfl⟩ rfl Tryd.underlying54 rfl (.own' (by repeat (first | exact List.mem_cons_self | apply List.mem_cons_of_mem | apply List.mem_append_right)) (by rfl)) ?_   -- load 9 check.go:57 t3:given
              refine R.fieldAddr ⟨rfl, rfl, rfl, rfl⟩ rfl Tryd.underlying37 rfl Tryd.sizeOf9 ?_   -- "Var"
              refine R.load1 ⟨rfl, rfl, rfl, rfl⟩ rfl Tryd.underlying9 rfl (.own' (by repeat (first | exact List.mem_cons_self | apply List.mem_cons_of_mem | apply List.mem_append_right)) (by rfl)) ?_   -- load 10 check.go:57 t45
              · obtain ⟨rr, hrr, hrv⟩ := find_any ks s.v
                refine R.lookup (r := rr) (v := .agg #[.bool (inB ks s.v)]) ⟨rfl, rfl, rfl, rfl⟩ rfl rfl Tryd.underlying54 Tryd.underlying9 rfl Tryd.zeroValue58 (by repeat (first | exact List.mem_cons_self | apply List.mem_cons_of_mem | apply List.mem_append_right)) (hrr) (hrv) ?_
                refine R.field1 ⟨rfl, rfl, rfl, rfl⟩ rfl Tryd.underlying58 rfl Tryd.underlying4 rfl rfl ?_
                refine R.not ⟨rfl, rfl, rfl, rfl⟩ rfl ?_
                refine R.pick_t ⟨rfl, rfl, rfl, rfl⟩ rfl rfl ?_
                refine GOps.nil ?_
                exact ⟨rfl, rfl, by repeat (first | exact Keeps.nil _ | refine Keeps.cons rfl ?_), by first | exact Hs.refl _ | exact Hs.tl _, vbs (by first | (rw [show emp s.v = false from hg5]; rfl) | (rw [show emp s.v = true from hg5]; rfl))⟩
            · try simp only [decide_eq_true_eq, decide_eq_false_iff_not, Bool.not_eq_true', Bool.not_eq_false'] at hg5
              refine GOps.skip rfl rfl rfl ?_
              refine GOps.skip rfl rfl rfl ?_
              refine GOps.skip rfl rfl rfl ?_
              refine GOps.skip rfl rfl rfl ?_
              refine GOps.skip rfl rfl rfl ?_
              refine GOps.skip rfl rfl rfl ?_
              refine R.pick_f ⟨rfl, rfl, rfl, rfl⟩ rfl rfl ?_
              refine GOps.nil ?_
              exact ⟨rfl, rfl, by repeat (first | exact Keeps.nil _ | refine Keeps.cons rfl ?_), by first | exact Hs.refl _ | exact Hs.tl _, vbs (by first | (rw [show emp s.v = false from hg5]; rfl) | (rw [show emp s.v = true from hg5]; rfl))⟩
          · refine GW.ite rfl (fun hc6 => ?_) (fun hc6 => ?_)
            · try simp only [decide_eq_true_eq, decide_eq_false_iff_not, Bool.not_eq_true', Bool.not_eq_false'] at hc6
              refine GW.seq ?_
              refine GW.region ?_
              refine R.storeAll (G1 := [_, _, _, _, _, _, _, _]) rfl rfl rfl rfl rfl Tryd.sizeOf27 rfl rfl rfl rfl ?_   -- t2
              refine GOps.nil ?_
              refine GW.ret ?_
              exact ⟨_, Hs.swapDrop _ _ _, .inr ⟨rfl, F'', rfl, all_of_get _ _ j _ hn (place_bad (by assumption)), hF.trans hF2⟩⟩
            · try simp only [decide_eq_true_eq, decide_eq_false_iff_not, Bool.not_eq_true', Bool.not_eq_false'] at hc6
              refine GW.skip ?_
              exact ⟨_, Hs.swapDrop _ _ _, .inl ⟨rfl, (), all_take_succ _ _ j _ hn hI2 (place_ok (by assumption)), rfl⟩⟩
        · rintro _ _ (⟨_, F'', hI2, hF2, rfl⟩ | ⟨F'', rfl, hbad, hF2⟩)
          · refine ⟨.ready, none, _, by simp, Hs.refl _, ?_⟩
            show GW _ _ _ _ _ ((D1, .exact (.deferred (some []))) :: (bQ, .exact (.cells (RlC r.head (.slice A r.body.length c)).toArray 46 (0, 0))) :: (D0, .exact (.deferred (some []))) :: (bP, .exact (.cells (RlC r.head (.slice A r.body.length c)).toArray 46 (0, 0))) :: (b3, .exact (.cells #[.map (some b11)] 54 (0, 0))) :: (b11, emap ks) :: (b2, .exact (.cells #[.int .i64 0] 27 (0, 0))) :: (b1, .exact (.cells (RlC r.head (.slice A r.body.length c)).toArray 46 (0, 0))) :: F'')
            have hE := hF.trans hF2
            refine GW.seq ?_
            refine GW.region ?_
            refine R.storeAll (G1 := [_, _, _, _, _, _]) rfl rfl rfl rfl rfl Tryd.sizeOf27 rfl rfl rfl rfl ?_   -- t2
            refine GOps.nil ?_
            refine GW.weak (Keeps.refl _) (G' := (D1, .exact (.deferred (some []))) :: (D0, .exact (.deferred (some []))) :: (b2, _) :: G) ((hE.2 [(D1, _), (bQ, _), (D0, _), (bP, _), (b3, _), (b11, _), (b2, _), (b1, _)]).trans (Hs.sub (by repeat (first | exact List.Sublist.refl _ | apply List.Sublist.cons_cons | apply List.Sublist.cons)))) ?_
            refine GW.ret (Out.of2 (resCell rfl rfl Tryd.underlying27 rfl (.own' (by repeat (first | exact List.mem_cons_self | apply List.mem_cons_of_mem | apply List.mem_append_right)) rfl)) (Hs.tl _) ⟨?_, rfl⟩)
            unfold chkE; first | (rw [show mayRl r = false from hc1]; rfl) | (rw [show mayRl r = true from hc1, ← hI, hbad]; rfl) | (rw [show mayRl r = true from hc1, ← hI, all_of_take (placeOk ks) (placesL r) _ (Nat.le_refl _) hI2]; rfl)
          · have hE := hF2
            refine ⟨.done, some .ret, _, by simp, Hs.refl _, ?_⟩
            show GW _ .ret _ _ _ _
            refine GW.weak (Keeps.refl _) (G' := (D1, .exact (.deferred (some []))) :: (D0, .exact (.deferred (some []))) :: (b2, _) :: G) ((hE.2 [(D1, _), (bQ, _), (D0, _), (bP, _), (b3, _), (b11, _), (b2, _), (b1, _)]).trans (Hs.sub (by repeat (first | exact List.Sublist.refl _ | apply List.Sublist.cons_cons | apply List.Sublist.cons)))) ?_
            refine GW.ret (Out.of2 (resCell rfl rfl Tryd.underlying27 rfl (.own' (by repeat (first | exact List.mem_cons_self | apply List.mem_cons_of_mem | apply List.mem_append_right)) rfl)) (Hs.tl _) ⟨?_, rfl⟩)
            unfold chkE; first | (rw [show mayRl r = false from hc1]; rfl) | (rw [show mayRl r = true from hc1, ← hI, hbad]; rfl) | (rw [show mayRl r = true from hc1, ← hI, all_of_take (placeOk ks) (placesL r) _ (Nat.le_refl _) hI2]; rfl)
      · exact hF.elim

end Go.Proofs.YtgjmandjhjfgkaaDoor.Gl
