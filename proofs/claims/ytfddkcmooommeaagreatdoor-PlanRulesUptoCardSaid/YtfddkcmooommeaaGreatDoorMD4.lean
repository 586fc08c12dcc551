/- Part 4 of the proof: W5 W6 X1 X2 X3 Gz X4 X5 X6 X7 X8 X9 XA. -/
import Derived.Test.YtfddkcmooommeaaGreatDoorMD3
section
namespace Go.Proofs.YtfddkcmooommeaaGreatDoor.Gl
open Go.RowKit Go.Shelf
set_option linter.unusedVariables false
set_option linter.unnecessarySimpa false
set_option linter.unusedSimpArgs false
attribute [-simp] List.getD_eq_getElem?_getD
theorem row_rds {w0 : World} {G : Hp} {b m : Nat} {cs : List Value} {e : TypeId} (hm : (b, Know.row cs e m) ∈ G) : Rds w0 G b 0 cs := fun j v hv => .own hm (by show cs[0 + j]? = _; rw [Nat.zero_add]; exact hv)
theorem int_hs (x y p q : Nat × Know) (H H2 G : Hp) : Hs (x :: y :: p :: q :: (H ++ (H2 ++ G))) (p :: q :: (H ++ (H2 ++ (x :: y :: G)))) := Hs.perm (by
 have h1 : (H ++ (H2 ++ (x :: y :: G))).Perm (x :: y :: (H ++ (H2 ++ G))) := by
  rw [← List.append_assoc, ← List.append_assoc]
  exact (List.perm_middle.trans ((List.perm_middle).cons x))
 exact ((h1.cons q).cons p).trans (((List.Perm.swap x q _).cons p).trans ((List.Perm.swap x p _).trans ((((List.Perm.swap y q _).cons p).trans (List.Perm.swap y p _)).cons x))))
theorem int_out (x y p q : Nat × Know) (H H2 G : Hp) : Hs (p :: q :: (H ++ (H2 ++ (x :: y :: G)))) (p :: q :: (H ++ (H2 ++ G))) :=
 Hs.sub ((((((List.Sublist.refl G).cons y).cons x).append_left H2).append_left H).cons_cons q |>.cons_cons p)
theorem new_hs (c y r s p q u : Nat × Know) (G : Hp) : Hs ([c, y] ++ u :: ([p] ++ ([q] ++ (r :: s :: G)))) (y :: u :: ([p] ++ ([q] ++ G))) :=
 Hs.sub ((((((List.Sublist.refl G).cons s).cons r).cons_cons q).cons_cons p |>.cons_cons u).cons_cons y |>.cons c)
theorem u8C_one (l : List Nat) : (u8C l).all (·.oneCell') = true := by
 rw [List.all_eq_true]
 intro v hv
 obtain ⟨c, _, rfl⟩ := List.mem_map.1 hv
 rfl
theorem int_found (w0 : World) (G : Hp) (ts : List Tm) (va ve : Value) (Ha He : Hp) (b bt lim k : Nat) (tab : List Nat) (t : Tm) (hr : Raw ts va ve Ha He) (ht : TabOk (ts.map packL) k tab) (hk : k ≤ 12) (h2 : 2 * ts.length ≤ 2 ^ k) (h4 : 4 ≤ k) (hmay : mayT t = true) (n : Nat) (hn : ts[n]? = some t) (hd : (ts.map packL).Nodup) : GC Tryz.prog w0 29 #[.pointer (some ⟨b, 0, none⟩), .agg #[.int .i64 t.kind, .string t.text, .string t.ext]] (fun v G' => v = .tuple #[.int .u32 ((n + 1 : Nat) : Int), .int .i64 0] ∧ ((b, dictC lim va ve bt (2 ^ k)) :: (bt, tabC tab) :: (Ha ++ (He ++ G))) = G') ((b, dictC lim va ve bt (2 ^ k)) :: (bt, tabC tab) :: (Ha ++ (He ++ G))) := by
 have hmost := hr.most
 obtain ⟨m1, m2, m3, m4⟩ := mayT_facts hmay
 have hpl := packL_len t
 have hp4 : 2 ^ k ≤ 2 ^ 12 := Nat.pow_le_pow_right (by decide) hk
 have hp0 : 2 ^ 4 ≤ 2 ^ k := Nat.pow_le_pow_right (by decide) h4
 have htl := ht.len
 obtain ⟨Ae, ce, rfl, hce⟩ := hr.he.split
 have htk : TabOk ((ts.take ts.length).map packL) k tab := by rw [List.take_length]; exact ht
 have hnl : n < ts.length := (List.getElem?_eq_some_iff.1 hn).1
 refine GC.body (args := [.pointer (some ⟨b, 0, none⟩), .agg #[.int .i64 t.kind, .string t.text, .string t.ext]]) Tryz.func29 rfl (by kernel_rfl) rfl ?_
 refine GW.seq ?_
 refine GW.region ?_
 refine R.box ⟨rfl, rfl, rfl, rfl⟩ rfl fun b3 => ?_
 refine R.assign ⟨rfl, rfl, rfl, rfl⟩ rfl ?_
 refine R.assign ⟨rfl, rfl, rfl, rfl⟩ rfl ?_
 refine GOps.nil ?_
 refine GW.seq ?_
 refine GW.block ?_
 refine GW.seq ?_
 refine GW.region ?_
 refine R.move ⟨rfl, rfl, rfl, rfl⟩ rfl ?_
 refine R.call ⟨rfl, rfl, rfl, rfl⟩ rfl (vs := [_]) rfl ((dict_there _ _ va (.slice Ae ts.length ce) b bt lim (2 ^ k) (by repeat (first | exact List.mem_cons_self | apply List.mem_cons_of_mem | apply List.mem_append_right | exact List.mem_append_left _ List.mem_cons_self))).mono ?_)
 rintro _ _ ⟨rfl, rfl⟩
 refine R.not ⟨rfl, rfl, rfl, rfl⟩ rfl ?_
 refine R.assign ⟨rfl, rfl, rfl, rfl⟩ rfl ?_
 refine GOps.nil ?_
 refine GW.ite rfl (fun hc1 => ?_) (fun hc1 => ?_)
 ·try simp only [dcQ] at hc1
  exfalso; simp at hc1
 ·try simp only [dcQ] at hc1
  refine GW.seq ?_
  refine GW.region ?_
  refine R.load_own (cs := _) ⟨rfl, rfl, rfl, rfl⟩ rfl Tryz.underlying24 rfl Tryz.sizeOf24 memG (by rfl) (by rfl) ?_
  refine R.call ⟨rfl, rfl, rfl, rfl⟩ rfl (vs := [_]) rfl ((term_May _ _ t (by omega) (by omega)).mono ?_)
  rintro _ _ ⟨rfl, rfl⟩
  refine R.not ⟨rfl, rfl, rfl, rfl⟩ rfl ?_
  refine R.assign ⟨rfl, rfl, rfl, rfl⟩ rfl ?_
  refine GOps.nil ?_
  refine GW.ite rfl (fun hc2 => ?_) (fun hc2 => ?_)
  ·try simp only [dcQ] at hc2
   exfalso; simp [hmay] at hc2
  ·try simp only [dcQ] at hc2
   refine GW.skip ?_
   refine GW.seq ?_
   refine GW.region ?_
   refine R.load_own ⟨rfl, rfl, rfl, rfl⟩ rfl Tryz.underlying24 rfl Tryz.sizeOf24 memG (by rfl) (by rfl) ?_
   refine R.call ⟨rfl, rfl, rfl, rfl⟩ rfl (vs := [_]) rfl ((dict_pack _ _ t hmay).mono ?_)
   rintro _ _ ⟨pa, pc, ⟨rfl, hpc⟩, rfl⟩
   refine R.assign ⟨rfl, rfl, rfl, rfl⟩ rfl ?_
   refine GOps.nil ?_
   refine GW.seq ?_
   refine GW.region ?_
   refine R.move ⟨rfl, rfl, rfl, rfl⟩ rfl ?_
   refine R.move ⟨rfl, rfl, rfl, rfl⟩ rfl ?_
   refine GOps.weak (Keeps.refl _) (int_hs _ _ _ _ _ _ _) ?_
   refine R.call ⟨rfl, rfl, rfl, rfl⟩ rfl (vs := [_, _]) rfl ((dict_slot _ ((pa, .row (u8C (packL t)) 5 (pc * 1)) :: (b3, .exact (.cells (Value.agg #[.int .i64 t.kind, .string t.text, .string t.ext]).cells 24 (0, 0))) :: G) ts va (.slice Ae ts.length ce) Ha He b bt lim (2 ^ k) tab k ts.length (packL t) pa 0 pc hr htl htk (by omega) (Nat.le_refl _) (by omega) (row_rds (by repeat (first | exact List.mem_cons_self | apply List.mem_cons_of_mem | apply List.mem_append_right | exact List.mem_append_left _ List.mem_cons_self))) (packL_lt hmay) (by omega)).mono ?_)
   rintro _ _ ⟨q, ⟨rfl, hq⟩, rfl⟩
   rw [List.take_length] at hq
   have hql := hq.lt ht
   have hql2 : q < 2 ^ k := by rw [← htl]; exact hql
   have hqe := hq.found ht hd (n := n) (by rw [List.getElem?_map, hn]; rfl)
   refine R.assign ⟨rfl, rfl, rfl, rfl⟩ rfl ?_
   refine GOps.nil ?_
   refine GW.seq ?_
   refine GW.block ?_
   refine GW.seq ?_
   refine GW.region ?_
   refine R.move ⟨rfl, rfl, rfl, rfl⟩ rfl ?_
   refine R.nilCheck ⟨rfl, rfl, rfl, rfl⟩ rfl ?_
   refine R.fieldAddr ⟨rfl, rfl, rfl, rfl⟩ rfl Tryz.underlying103 rfl Tryz.sizeOf100 ?_   -- "table"
   refine R.load1 ⟨rfl, rfl, rfl, rfl⟩ rfl Tryz.underlying100 rfl (.own' memG (by rfl)) ?_
   refine R.move ⟨rfl, rfl, rfl, rfl⟩ rfl ?_
   refine R.indexAddrS ⟨rfl, rfl, rfl, rfl⟩ rfl rfl Tryz.underlying100 Tryz.sizeOf35 (by omega) (by omega) ?_
   refine R.load1 ⟨rfl, rfl, rfl, rfl⟩ rfl Tryz.underlying35 rfl (tab_load (p := q) (by repeat (first | exact List.mem_cons_self | apply List.mem_cons_of_mem | apply List.mem_append_right | exact List.mem_append_left _ List.mem_cons_self)) hqe) ?_
   refine R.gtr ⟨rfl, rfl, rfl, rfl⟩ rfl rfl ?_
   refine R.assign ⟨rfl, rfl, rfl, rfl⟩ rfl ?_
   refine GOps.nil ?_
   refine GW.ite rfl (fun hc3 => ?_) (fun hc3 => ?_)
   ·try simp only [dcQ] at hc3
    refine GW.seq ?_
    refine GW.region ?_
    refine R.move ⟨rfl, rfl, rfl, rfl⟩ rfl ?_
    refine R.nilCheck ⟨rfl, rfl, rfl, rfl⟩ rfl ?_
    refine R.fieldAddr ⟨rfl, rfl, rfl, rfl⟩ rfl Tryz.underlying103 rfl Tryz.sizeOf100 ?_   -- "table"
    refine R.load1 ⟨rfl, rfl, rfl, rfl⟩ rfl Tryz.underlying100 rfl (.own' memG (by rfl)) ?_
    refine R.move ⟨rfl, rfl, rfl, rfl⟩ rfl ?_
    refine R.indexAddrS ⟨rfl, rfl, rfl, rfl⟩ rfl rfl Tryz.underlying100 Tryz.sizeOf35 (by omega) (by omega) ?_
    refine R.load1 ⟨rfl, rfl, rfl, rfl⟩ rfl Tryz.underlying35 rfl (tab_load (p := q) (by repeat (first | exact List.mem_cons_self | apply List.mem_cons_of_mem | apply List.mem_append_right | exact List.mem_append_left _ List.mem_cons_self)) hqe) ?_
    refine R.assign ⟨rfl, rfl, rfl, rfl⟩ rfl ?_
    refine R.assign ⟨rfl, rfl, rfl, rfl⟩ rfl ?_
    refine GOps.nil ?_
    exact GW.ret (Out.of (Res.two rfl rfl rfl) (int_out _ _ _ _ _ _ _) ⟨rfl, rfl⟩)
   ·try simp only [dcQ] at hc3
    exfalso; omega
theorem int_full (w0 : World) (G : Hp) (ts : List Tm) (va ve : Value) (Ha He : Hp) (b bt lim k : Nat) (tab : List Nat) (t : Tm) (hr : Raw ts va ve Ha He) (ht : TabOk (ts.map packL) k tab) (hk : k ≤ 12) (h2 : 2 * ts.length ≤ 2 ^ k) (h4 : 4 ≤ k) (hmay : mayT t = true) (hn : packL t ∉ ts.map packL) (hl : lim ≤ ts.length) : GC Tryz.prog w0 29 #[.pointer (some ⟨b, 0, none⟩), .agg #[.int .i64 t.kind, .string t.text, .string t.ext]] (fun v G' => v = .tuple #[.int .u32 0, .int .i64 9] ∧ ((b, dictC lim va ve bt (2 ^ k)) :: (bt, tabC tab) :: (Ha ++ (He ++ G))) = G') ((b, dictC lim va ve bt (2 ^ k)) :: (bt, tabC tab) :: (Ha ++ (He ++ G))) := by
 have hmost := hr.most
 obtain ⟨m1, m2, m3, m4⟩ := mayT_facts hmay
 have hpl := packL_len t
 have hp4 : 2 ^ k ≤ 2 ^ 12 := Nat.pow_le_pow_right (by decide) hk
 have hp0 : 2 ^ 4 ≤ 2 ^ k := Nat.pow_le_pow_right (by decide) h4
 have htl := ht.len
 obtain ⟨Ae, ce, rfl, hce⟩ := hr.he.split
 have htk : TabOk ((ts.take ts.length).map packL) k tab := by rw [List.take_length]; exact ht
 refine GC.body (args := [.pointer (some ⟨b, 0, none⟩), .agg #[.int .i64 t.kind, .string t.text, .string t.ext]]) Tryz.func29 rfl (by kernel_rfl) rfl ?_
 refine GW.seq ?_
 refine GW.region ?_
 refine R.box ⟨rfl, rfl, rfl, rfl⟩ rfl fun b3 => ?_
 refine R.assign ⟨rfl, rfl, rfl, rfl⟩ rfl ?_
 refine R.assign ⟨rfl, rfl, rfl, rfl⟩ rfl ?_
 refine GOps.nil ?_
 refine GW.seq ?_
 refine GW.block ?_
 refine GW.seq ?_
 refine GW.region ?_
 refine R.move ⟨rfl, rfl, rfl, rfl⟩ rfl ?_
 refine R.call ⟨rfl, rfl, rfl, rfl⟩ rfl (vs := [_]) rfl ((dict_there _ _ va (.slice Ae ts.length ce) b bt lim (2 ^ k) (by repeat (first | exact List.mem_cons_self | apply List.mem_cons_of_mem | apply List.mem_append_right | exact List.mem_append_left _ List.mem_cons_self))).mono ?_)
 rintro _ _ ⟨rfl, rfl⟩
 refine R.not ⟨rfl, rfl, rfl, rfl⟩ rfl ?_
 refine R.assign ⟨rfl, rfl, rfl, rfl⟩ rfl ?_
 refine GOps.nil ?_
 refine GW.ite rfl (fun hc1 => ?_) (fun hc1 => ?_)
 ·try simp only [dcQ] at hc1
  exfalso; simp at hc1
 ·try simp only [dcQ] at hc1
  refine GW.seq ?_
  refine GW.region ?_
  refine R.load_own (cs := _) ⟨rfl, rfl, rfl, rfl⟩ rfl Tryz.underlying24 rfl Tryz.sizeOf24 memG (by rfl) (by rfl) ?_
  refine R.call ⟨rfl, rfl, rfl, rfl⟩ rfl (vs := [_]) rfl ((term_May _ _ t (by omega) (by omega)).mono ?_)
  rintro _ _ ⟨rfl, rfl⟩
  refine R.not ⟨rfl, rfl, rfl, rfl⟩ rfl ?_
  refine R.assign ⟨rfl, rfl, rfl, rfl⟩ rfl ?_
  refine GOps.nil ?_
  refine GW.ite rfl (fun hc2 => ?_) (fun hc2 => ?_)
  ·try simp only [dcQ] at hc2
   exfalso; simp [hmay] at hc2
  ·try simp only [dcQ] at hc2
   refine GW.skip ?_
   refine GW.seq ?_
   refine GW.region ?_
   refine R.load_own ⟨rfl, rfl, rfl, rfl⟩ rfl Tryz.underlying24 rfl Tryz.sizeOf24 memG (by rfl) (by rfl) ?_
   refine R.call ⟨rfl, rfl, rfl, rfl⟩ rfl (vs := [_]) rfl ((dict_pack _ _ t hmay).mono ?_)
   rintro _ _ ⟨pa, pc, ⟨rfl, hpc⟩, rfl⟩
   refine R.assign ⟨rfl, rfl, rfl, rfl⟩ rfl ?_
   refine GOps.nil ?_
   refine GW.seq ?_
   refine GW.region ?_
   refine R.move ⟨rfl, rfl, rfl, rfl⟩ rfl ?_
   refine R.move ⟨rfl, rfl, rfl, rfl⟩ rfl ?_
   refine GOps.weak (Keeps.refl _) (int_hs _ _ _ _ _ _ _) ?_
   refine R.call ⟨rfl, rfl, rfl, rfl⟩ rfl (vs := [_, _]) rfl ((dict_slot _ ((pa, .row (u8C (packL t)) 5 (pc * 1)) :: (b3, .exact (.cells (Value.agg #[.int .i64 t.kind, .string t.text, .string t.ext]).cells 24 (0, 0))) :: G) ts va (.slice Ae ts.length ce) Ha He b bt lim (2 ^ k) tab k ts.length (packL t) pa 0 pc hr htl htk (by omega) (Nat.le_refl _) (by omega) (row_rds (by repeat (first | exact List.mem_cons_self | apply List.mem_cons_of_mem | apply List.mem_append_right | exact List.mem_append_left _ List.mem_cons_self))) (packL_lt hmay) (by omega)).mono ?_)
   rintro _ _ ⟨q, ⟨rfl, hq⟩, rfl⟩
   rw [List.take_length] at hq
   have hql := hq.lt ht
   have hql2 : q < 2 ^ k := by rw [← htl]; exact hql
   have hqe : tab[q]? = some 0 := hq.free hn
   refine R.assign ⟨rfl, rfl, rfl, rfl⟩ rfl ?_
   refine GOps.nil ?_
   refine GW.seq ?_
   refine GW.block ?_
   refine GW.seq ?_
   refine GW.region ?_
   refine R.move ⟨rfl, rfl, rfl, rfl⟩ rfl ?_
   refine R.nilCheck ⟨rfl, rfl, rfl, rfl⟩ rfl ?_
   refine R.fieldAddr ⟨rfl, rfl, rfl, rfl⟩ rfl Tryz.underlying103 rfl Tryz.sizeOf100 ?_   -- "table"
   refine R.load1 ⟨rfl, rfl, rfl, rfl⟩ rfl Tryz.underlying100 rfl (.own' memG (by rfl)) ?_
   refine R.move ⟨rfl, rfl, rfl, rfl⟩ rfl ?_
   refine R.indexAddrS ⟨rfl, rfl, rfl, rfl⟩ rfl rfl Tryz.underlying100 Tryz.sizeOf35 (by omega) (by omega) ?_
   refine R.load1 ⟨rfl, rfl, rfl, rfl⟩ rfl Tryz.underlying35 rfl (tab_load (p := q) (by repeat (first | exact List.mem_cons_self | apply List.mem_cons_of_mem | apply List.mem_append_right | exact List.mem_append_left _ List.mem_cons_self)) hqe) ?_
   refine R.gtr ⟨rfl, rfl, rfl, rfl⟩ rfl rfl ?_
   refine R.assign ⟨rfl, rfl, rfl, rfl⟩ rfl ?_
   refine GOps.nil ?_
   refine GW.ite rfl (fun hc3 => ?_) (fun hc3 => ?_)
   ·try simp only [dcQ] at hc3
    exfalso; omega
   ·try simp only [dcQ] at hc3
    refine GW.seq ?_
    refine GW.drawS 11 rfl (by kernel_rfl) ?_
    refine GA.val 0 rfl (V.move ⟨rfl, rfl, rfl, rfl⟩ rfl) rfl (by kernel_rfl) (by kernel_rfl) (by kernel_rfl) ?_
    refine GA.val 1 rfl (V.nilCheck ⟨rfl, rfl, rfl, rfl⟩ rfl) rfl (by kernel_rfl) (by kernel_rfl) (by kernel_rfl) ?_
    refine GA.val 2 rfl (V.fieldAddr ⟨rfl, rfl, rfl, rfl⟩ rfl Tryz.underlying103 rfl Tryz.sizeOf32) rfl (by kernel_rfl) (by kernel_rfl) (by kernel_rfl) ?_   -- "ends"
    refine GA.val 3 rfl (V.load1 ⟨rfl, rfl, rfl, rfl⟩ rfl Tryz.underlying32 rfl (.own' memG (by rfl))) rfl (by kernel_rfl) (by kernel_rfl) (by kernel_rfl) ?_
    refine GA.val 4 rfl (V.lenS ⟨rfl, rfl, rfl, rfl⟩ rfl rfl Tryz.underlying32) rfl (by kernel_rfl) (by kernel_rfl) (by kernel_rfl) ?_
    refine GA.val 5 rfl (V.move ⟨rfl, rfl, rfl, rfl⟩ rfl) rfl (by kernel_rfl) (by kernel_rfl) (by kernel_rfl) ?_
    refine GA.val 6 rfl (V.nilCheck ⟨rfl, rfl, rfl, rfl⟩ rfl) rfl (by kernel_rfl) (by kernel_rfl) (by kernel_rfl) ?_
    refine GA.val 7 rfl (V.fieldAddr ⟨rfl, rfl, rfl, rfl⟩ rfl Tryz.underlying103 rfl Tryz.sizeOf3) rfl (by kernel_rfl) (by kernel_rfl) (by kernel_rfl) ?_   -- "limit"
    refine GA.val 8 rfl (V.load1 ⟨rfl, rfl, rfl, rfl⟩ rfl Tryz.underlying3 rfl (.own' memG (by rfl))) rfl (by kernel_rfl) (by kernel_rfl) (by kernel_rfl) ?_
    refine GA.val 9 rfl (V.geq ⟨rfl, rfl, rfl, rfl⟩ rfl rfl) rfl (by kernel_rfl) (by kernel_rfl) (by kernel_rfl) ?_
    refine GA.val 10 rfl (V.assign ⟨rfl, rfl, rfl, rfl⟩ rfl) rfl (by kernel_rfl) (by kernel_rfl) (by kernel_rfl) ?_
    refine GA.done (by first | exact Hs.refl _ | exact Hs.tl _ | exact Hs.tl2 _ _ | exact Hs.tl3 _ _ _ | exact Hs.app _ | exact Hs.sub (by simp)) (by kernel_rfl) ?_
    refine GW.ite rfl (fun hc4 => ?_) (fun hc4 => ?_)
    ·try simp only [dcQ] at hc4
     refine GW.seq ?_
     refine GW.region ?_
     refine R.assign ⟨rfl, rfl, rfl, rfl⟩ rfl ?_
     refine R.assign ⟨rfl, rfl, rfl, rfl⟩ rfl ?_
     refine GOps.nil ?_
     exact GW.ret (Out.of (Res.two rfl rfl rfl) (int_out _ _ _ _ _ _ _) ⟨rfl, rfl⟩)
    ·try simp only [dcQ] at hc4
     exfalso; omega
theorem int_new (w0 : World) (G : Hp) (ts : List Tm) (va ve : Value) (Ha He : Hp) (b bt lim k : Nat) (tab : List Nat) (t : Tm) (hr : Raw ts va ve Ha He) (ht : TabOk (ts.map packL) k tab) (hk : k ≤ 12) (h2 : 2 * ts.length ≤ 2 ^ k) (h4 : 4 ≤ k) (hmay : mayT t = true) (hn : packL t ∉ ts.map packL) (hl : ts.length < lim) (hlim : lim ≤ 1000) (hd : (ts.map packL).Nodup) : GC Tryz.prog w0 29 #[.pointer (some ⟨b, 0, none⟩), .agg #[.int .i64 t.kind, .string t.text, .string t.ext]] (fun v G' => ∃ va2 ve2 Ha2 He2 bt2 k2 tab2, (v = .tuple #[.int .u32 ((ts.length + 1 : Nat) : Int), .int .i64 0] ∧ Raw (ts ++ [t]) va2 ve2 Ha2 He2 ∧ TabOk ((ts ++ [t]).map packL) k2 tab2 ∧ k2 ≤ 12 ∧ 2 * (ts ++ [t]).length ≤ 2 ^ k2 ∧ 4 ≤ k2) ∧ (b, dictC lim va2 ve2 bt2 (2 ^ k2)) :: (bt2, tabC tab2) :: (Ha2 ++ (He2 ++ G)) = G') ((b, dictC lim va ve bt (2 ^ k)) :: (bt, tabC tab) :: (Ha ++ (He ++ G))) := by
 have hmost := hr.most
 obtain ⟨m1, m2, m3, m4⟩ := mayT_facts hmay
 have hpl := packL_len t
 have hp4 : 2 ^ k ≤ 2 ^ 12 := Nat.pow_le_pow_right (by decide) hk
 have hp0 : 2 ^ 4 ≤ 2 ^ k := Nat.pow_le_pow_right (by decide) h4
 have htl := ht.len
 obtain ⟨Ae, ce, rfl, hce⟩ := hr.he.split
 have htk : TabOk ((ts.take ts.length).map packL) k tab := by rw [List.take_length]; exact ht
 have hbl := bytes_le hr.may
 have hl2 : (ts ++ [t]).length = ts.length + 1 := by simp
 have may2 : ∀ u ∈ (ts ++ [t]), mayT u = true := fun u hu => by rcases List.mem_append.1 hu with h | h; exact hr.may u h; rw [List.mem_singleton.1 h]; exact hmay
 have hd2 : ((ts ++ [t]).map packL).Nodup := by rw [List.map_append]; exact List.nodup_append.2 ⟨hd, by simp, fun a ha b hb e => by simp at hb; subst hb; subst e; exact hn ha⟩
 refine GC.body (args := [.pointer (some ⟨b, 0, none⟩), .agg #[.int .i64 t.kind, .string t.text, .string t.ext]]) Tryz.func29 rfl (by kernel_rfl) rfl ?_
 refine GW.seq ?_
 refine GW.region ?_
 refine R.box ⟨rfl, rfl, rfl, rfl⟩ rfl fun b3 => ?_
 refine R.assign ⟨rfl, rfl, rfl, rfl⟩ rfl ?_
 refine R.assign ⟨rfl, rfl, rfl, rfl⟩ rfl ?_
 refine GOps.nil ?_
 refine GW.seq ?_
 refine GW.block ?_
 refine GW.seq ?_
 refine GW.region ?_
 refine R.move ⟨rfl, rfl, rfl, rfl⟩ rfl ?_
 refine R.call ⟨rfl, rfl, rfl, rfl⟩ rfl (vs := [_]) rfl ((dict_there _ _ va (.slice Ae ts.length ce) b bt lim (2 ^ k) (by repeat (first | exact List.mem_cons_self | apply List.mem_cons_of_mem | apply List.mem_append_right | exact List.mem_append_left _ List.mem_cons_self))).mono ?_)
 rintro _ _ ⟨rfl, rfl⟩
 refine R.not ⟨rfl, rfl, rfl, rfl⟩ rfl ?_
 refine R.assign ⟨rfl, rfl, rfl, rfl⟩ rfl ?_
 refine GOps.nil ?_
 refine GW.ite rfl (fun hc1 => ?_) (fun hc1 => ?_)
 ·try simp only [dcQ] at hc1
  exfalso; simp at hc1
 ·try simp only [dcQ] at hc1
  refine GW.seq ?_
  refine GW.region ?_
  refine R.load_own (cs := _) ⟨rfl, rfl, rfl, rfl⟩ rfl Tryz.underlying24 rfl Tryz.sizeOf24 memG (by rfl) (by rfl) ?_
  refine R.call ⟨rfl, rfl, rfl, rfl⟩ rfl (vs := [_]) rfl ((term_May _ _ t (by omega) (by omega)).mono ?_)
  rintro _ _ ⟨rfl, rfl⟩
  refine R.not ⟨rfl, rfl, rfl, rfl⟩ rfl ?_
  refine R.assign ⟨rfl, rfl, rfl, rfl⟩ rfl ?_
  refine GOps.nil ?_
  refine GW.ite rfl (fun hc2 => ?_) (fun hc2 => ?_)
  ·try simp only [dcQ] at hc2
   exfalso; simp [hmay] at hc2
  ·try simp only [dcQ] at hc2
   refine GW.skip ?_
   refine GW.seq ?_
   refine GW.region ?_
   refine R.load_own ⟨rfl, rfl, rfl, rfl⟩ rfl Tryz.underlying24 rfl Tryz.sizeOf24 memG (by rfl) (by rfl) ?_
   refine R.call ⟨rfl, rfl, rfl, rfl⟩ rfl (vs := [_]) rfl ((dict_pack _ _ t hmay).mono ?_)
   rintro _ _ ⟨pa, pc, ⟨rfl, hpc⟩, rfl⟩
   refine R.assign ⟨rfl, rfl, rfl, rfl⟩ rfl ?_
   refine GOps.nil ?_
   refine GW.seq ?_
   refine GW.region ?_
   refine R.move ⟨rfl, rfl, rfl, rfl⟩ rfl ?_
   refine R.move ⟨rfl, rfl, rfl, rfl⟩ rfl ?_
   refine GOps.weak (Keeps.refl _) (int_hs _ _ _ _ _ _ _) ?_
   refine R.call ⟨rfl, rfl, rfl, rfl⟩ rfl (vs := [_, _]) rfl ((dict_slot _ ((pa, .row (u8C (packL t)) 5 (pc * 1)) :: (b3, .exact (.cells (Value.agg #[.int .i64 t.kind, .string t.text, .string t.ext]).cells 24 (0, 0))) :: G) ts va (.slice Ae ts.length ce) Ha He b bt lim (2 ^ k) tab k ts.length (packL t) pa 0 pc hr htl htk (by omega) (Nat.le_refl _) (by omega) (row_rds (by repeat (first | exact List.mem_cons_self | apply List.mem_cons_of_mem | apply List.mem_append_right | exact List.mem_append_left _ List.mem_cons_self))) (packL_lt hmay) (by omega)).mono ?_)
   rintro _ _ ⟨q, ⟨rfl, hq⟩, rfl⟩
   rw [List.take_length] at hq
   have hql := hq.lt ht
   have hql2 : q < 2 ^ k := by rw [← htl]; exact hql
   have hqe : tab[q]? = some 0 := hq.free hn
   refine R.assign ⟨rfl, rfl, rfl, rfl⟩ rfl ?_
   refine GOps.nil ?_
   refine GW.seq ?_
   refine GW.block ?_
   refine GW.seq ?_
   refine GW.region ?_
   refine R.move ⟨rfl, rfl, rfl, rfl⟩ rfl ?_
   refine R.nilCheck ⟨rfl, rfl, rfl, rfl⟩ rfl ?_
   refine R.fieldAddr ⟨rfl, rfl, rfl, rfl⟩ rfl Tryz.underlying103 rfl Tryz.sizeOf100 ?_   -- "table"
   refine R.load1 ⟨rfl, rfl, rfl, rfl⟩ rfl Tryz.underlying100 rfl (.own' memG (by rfl)) ?_
   refine R.move ⟨rfl, rfl, rfl, rfl⟩ rfl ?_
   refine R.indexAddrS ⟨rfl, rfl, rfl, rfl⟩ rfl rfl Tryz.underlying100 Tryz.sizeOf35 (by omega) (by omega) ?_
   refine R.load1 ⟨rfl, rfl, rfl, rfl⟩ rfl Tryz.underlying35 rfl (tab_load (p := q) (by repeat (first | exact List.mem_cons_self | apply List.mem_cons_of_mem | apply List.mem_append_right | exact List.mem_append_left _ List.mem_cons_self)) hqe) ?_
   refine R.gtr ⟨rfl, rfl, rfl, rfl⟩ rfl rfl ?_
   refine R.assign ⟨rfl, rfl, rfl, rfl⟩ rfl ?_
   refine GOps.nil ?_
   refine GW.ite rfl (fun hc3 => ?_) (fun hc3 => ?_)
   ·try simp only [dcQ] at hc3
    exfalso; omega
   ·try simp only [dcQ] at hc3
    refine GW.seq ?_
    refine GW.drawS 11 rfl (by kernel_rfl) ?_
    refine GA.val 0 rfl (V.move ⟨rfl, rfl, rfl, rfl⟩ rfl) rfl (by kernel_rfl) (by kernel_rfl) (by kernel_rfl) ?_
    refine GA.val 1 rfl (V.nilCheck ⟨rfl, rfl, rfl, rfl⟩ rfl) rfl (by kernel_rfl) (by kernel_rfl) (by kernel_rfl) ?_
    refine GA.val 2 rfl (V.fieldAddr ⟨rfl, rfl, rfl, rfl⟩ rfl Tryz.underlying103 rfl Tryz.sizeOf32) rfl (by kernel_rfl) (by kernel_rfl) (by kernel_rfl) ?_   -- "ends"
    refine GA.val 3 rfl (V.load1 ⟨rfl, rfl, rfl, rfl⟩ rfl Tryz.underlying32 rfl (.own' memG (by rfl))) rfl (by kernel_rfl) (by kernel_rfl) (by kernel_rfl) ?_
    refine GA.val 4 rfl (V.lenS ⟨rfl, rfl, rfl, rfl⟩ rfl rfl Tryz.underlying32) rfl (by kernel_rfl) (by kernel_rfl) (by kernel_rfl) ?_
    refine GA.val 5 rfl (V.move ⟨rfl, rfl, rfl, rfl⟩ rfl) rfl (by kernel_rfl) (by kernel_rfl) (by kernel_rfl) ?_
    refine GA.val 6 rfl (V.nilCheck ⟨rfl, rfl, rfl, rfl⟩ rfl) rfl (by kernel_rfl) (by kernel_rfl) (by kernel_rfl) ?_
    refine GA.val 7 rfl (V.fieldAddr ⟨rfl, rfl, rfl, rfl⟩ rfl Tryz.underlying103 rfl Tryz.sizeOf3) rfl (by kernel_rfl) (by kernel_rfl) (by kernel_rfl) ?_   -- "limit"
    refine GA.val 8 rfl (V.load1 ⟨rfl, rfl, rfl, rfl⟩ rfl Tryz.underlying3 rfl (.own' memG (by rfl))) rfl (by kernel_rfl) (by kernel_rfl) (by kernel_rfl) ?_
    refine GA.val 9 rfl (V.geq ⟨rfl, rfl, rfl, rfl⟩ rfl rfl) rfl (by kernel_rfl) (by kernel_rfl) (by kernel_rfl) ?_
    refine GA.val 10 rfl (V.assign ⟨rfl, rfl, rfl, rfl⟩ rfl) rfl (by kernel_rfl) (by kernel_rfl) (by kernel_rfl) ?_
    refine GA.done (by first | exact Hs.refl _ | exact Hs.tl _ | exact Hs.tl2 _ _ | exact Hs.tl3 _ _ _ | exact Hs.app _ | exact Hs.sub (by simp)) (by kernel_rfl) ?_
    refine GW.ite rfl (fun hc4 => ?_) (fun hc4 => ?_)
    ·try simp only [dcQ] at hc4
     exfalso; omega
    ·try simp only [dcQ] at hc4
     refine GW.skip ?_
     refine GW.seq ?_
     refine GW.region ?_
     refine R.move ⟨rfl, rfl, rfl, rfl⟩ rfl ?_
     refine R.move ⟨rfl, rfl, rfl, rfl⟩ rfl ?_
     refine R.nilCheck ⟨rfl, rfl, rfl, rfl⟩ rfl ?_
     refine R.fieldAddr ⟨rfl, rfl, rfl, rfl⟩ rfl Tryz.underlying103 rfl Tryz.sizeOf101 ?_   -- "bytes"
     refine R.load1 ⟨rfl, rfl, rfl, rfl⟩ rfl Tryz.underlying101 rfl (.own' memG (by rfl)) ?_
     refine R.move ⟨rfl, rfl, rfl, rfl⟩ rfl ?_
     refine R.append (sz := 1) (bytes := 1) (G1 := [_, _]) (H := Ha) (news := u8C (packL t)) ⟨rfl, rfl, rfl, rfl⟩ rfl rfl rfl Tryz.underlying101 (InfoE.mk (by kernel_rfl)) (hr.ha) (rfl) (by rw [u8C_len, Nat.mul_one]) (row_rds (by repeat (first | exact List.mem_cons_self | apply List.mem_cons_of_mem | apply List.mem_append_right | exact List.mem_append_left _ List.mem_cons_self))) (by omega) (u8C_one _) (by omega) (by omega) fun v55 H55 hv55 => ?_
     have hv55' : SlAt 1 5 (u8C (bytesL (ts ++ [t]))) (bytesL (ts ++ [t])).length v55 H55 := by rw [bytes_app, bytes_one, u8C_app, List.length_append]; exact hv55
     have hbl2 : (bytesL (ts ++ [t])).length = (bytesL ts).length + (packL t).length := by rw [bytes_app, bytes_one, List.length_append]
     obtain ⟨ba, ca, rfl, rfl, hca⟩ := hv55'.row_of (by omega)
     refine R.nilCheck ⟨rfl, rfl, rfl, rfl⟩ rfl ?_
     refine R.fieldAddr ⟨rfl, rfl, rfl, rfl⟩ rfl Tryz.underlying103 rfl Tryz.sizeOf101 ?_   -- "bytes"
     refine R.store (G1 := []) rfl rfl rfl rfl rfl Tryz.sizeOf101 rfl rfl (rfl) (Nat.le_of_ble_eq_true rfl) ?_
     refine GOps.nil ?_
     refine GW.seq ?_
     refine GW.draw (G) 15 rfl (by kernel_rfl) ?_
     refine GA.val 0 rfl (V.move ⟨rfl, rfl, rfl, rfl⟩ rfl) rfl (by kernel_rfl) (by kernel_rfl) (by kernel_rfl) ?_
     refine GA.val 1 rfl (V.move ⟨rfl, rfl, rfl, rfl⟩ rfl) rfl (by kernel_rfl) (by kernel_rfl) (by kernel_rfl) ?_
     refine GA.val 2 rfl (V.nilCheck ⟨rfl, rfl, rfl, rfl⟩ rfl) rfl (by kernel_rfl) (by kernel_rfl) (by kernel_rfl) ?_
     refine GA.val 3 rfl (V.fieldAddr ⟨rfl, rfl, rfl, rfl⟩ rfl Tryz.underlying103 rfl Tryz.sizeOf32) rfl (by kernel_rfl) (by kernel_rfl) (by kernel_rfl) ?_   -- "ends"
     refine GA.val 5 rfl (V.move ⟨rfl, rfl, rfl, rfl⟩ rfl) rfl (by kernel_rfl) (by kernel_rfl) (by kernel_rfl) ?_
     refine GA.val 6 rfl (V.nilCheck ⟨rfl, rfl, rfl, rfl⟩ rfl) rfl (by kernel_rfl) (by kernel_rfl) (by kernel_rfl) ?_
     refine GA.val 7 rfl (V.fieldAddr ⟨rfl, rfl, rfl, rfl⟩ rfl Tryz.underlying103 rfl Tryz.sizeOf101) rfl (by kernel_rfl) (by kernel_rfl) (by kernel_rfl) ?_   -- "bytes"
     refine GA.two 4 8 (by first | exact Hs.sub (by repeat (first | exact List.Sublist.refl _ | apply List.Sublist.cons | refine List.Sublist.trans ?_ (List.sublist_append_right _ _))) | exact Hs.refl _ | exact Hs.tl _ | exact Hs.tl2 _ _ | exact Hs.tl3 _ _ _ | exact Hs.app _ | exact Hs.sub (by simp)) (by kernel_rfl) rfl rfl ?_ ?_
     ·refine R.load1 ⟨rfl, rfl, rfl, rfl⟩ rfl Tryz.underlying32 rfl (.own' memG (by rfl)) ?_
      refine GOps.nil ?_
      refine GA.one 8 (by first | exact Hs.sub (by repeat (first | exact List.Sublist.refl _ | apply List.Sublist.cons | refine List.Sublist.trans ?_ (List.sublist_append_right _ _))) | exact Hs.refl _ | exact Hs.tl _ | exact Hs.tl2 _ _ | exact Hs.tl3 _ _ _ | exact Hs.app _ | exact Hs.sub (by simp)) (by kernel_rfl) rfl ?_
      refine R.load1 ⟨rfl, rfl, rfl, rfl⟩ rfl Tryz.underlying101 rfl (.own' memG (by rfl)) ?_
      refine GOps.nil ?_
      refine GA.val 9 rfl (V.lenS ⟨rfl, rfl, rfl, rfl⟩ rfl rfl Tryz.underlying101) rfl (by kernel_rfl) (by kernel_rfl) (by kernel_rfl) ?_
      refine GA.one 10 (by first | exact Hs.sub (by repeat (first | exact List.Sublist.refl _ | apply List.Sublist.cons | refine List.Sublist.trans ?_ (List.sublist_append_right _ _))) | exact Hs.refl _ | exact Hs.tl _ | exact Hs.tl2 _ _ | exact Hs.tl3 _ _ _ | exact Hs.app _ | exact Hs.sub (by simp)) (by kernel_rfl) rfl ?_
      refine R.buildSliceF (sz := 1) (bytes := 8) (vs := [_]) (cs := [_]) ⟨rfl, rfl, rfl, rfl⟩ rfl Tryz.underlying32 (InfoE.mk (by kernel_rfl)) rfl rfl rfl rfl rfl fun b68 => ?_
      refine GOps.nil ?_
      refine GA.one 11 (by first | exact Hs.sub (by repeat (first | exact List.Sublist.refl _ | apply List.Sublist.cons | refine List.Sublist.trans ?_ (List.sublist_append_right _ _))) | exact Hs.refl _ | exact Hs.tl _ | exact Hs.tl2 _ _ | exact Hs.tl3 _ _ _ | exact Hs.app _ | exact Hs.sub (by simp)) (by kernel_rfl) rfl ?_
      refine R.append (sz := 1) (bytes := 8) (G1 := [_, _, _, _]) (H := He) (news := [.int .i64 (((bytesL (ts ++ [t])).length : Nat) : Int)]) ⟨rfl, rfl, rfl, rfl⟩ rfl rfl rfl Tryz.underlying32 (InfoE.mk (by kernel_rfl)) (hr.he) (rfl) (rfl) (.own (by repeat (first | exact List.mem_cons_self | apply List.mem_cons_of_mem | apply List.mem_append_right | exact List.mem_append_left _ List.mem_cons_self)) 0 _ (fun j v hv => by simpa using hv)) (by omega) (by rfl) (by omega) (by omega) fun v69 H69 hv69 => ?_
      have hv69' : SlAt 1 3 (intC (endsL (ts ++ [t]))) (ts ++ [t]).length v69 H69 := by rw [ends_app, intC_app, hl2]; exact hv69
      obtain ⟨be, cc, rfl, rfl, hcc⟩ := hv69'.row_of (by omega)
      have hr2 : Raw (ts ++ [t]) (.slice (some ⟨ba, 0, none⟩) (bytesL (ts ++ [t])).length ca) (.slice (some ⟨be, 0, none⟩) (ts ++ [t]).length cc) [(ba, .row (u8C (bytesL (ts ++ [t]))) 5 (ca * 1))] [(be, .row (intC (endsL (ts ++ [t]))) 3 (cc * 1))] := ⟨hv55', hv69', may2, by omega⟩
      have ht2 : TabOk ((ts ++ [t]).map packL) k (tab.set q (ts.length + 1)) := by have := ht.put hq hn; rw [List.length_map] at this; rw [List.map_append]; exact this
      refine GOps.nil ?_
      refine GA.val 12 rfl (V.nilCheck ⟨rfl, rfl, rfl, rfl⟩ rfl) rfl (by kernel_rfl) (by kernel_rfl) (by kernel_rfl) ?_
      refine GA.val 13 rfl (V.fieldAddr ⟨rfl, rfl, rfl, rfl⟩ rfl Tryz.underlying103 rfl Tryz.sizeOf32) rfl (by kernel_rfl) (by kernel_rfl) (by kernel_rfl) ?_   -- "ends"
      refine GA.one 14 (by first | exact Hs.sub (by repeat (first | exact List.Sublist.refl _ | apply List.Sublist.cons | refine List.Sublist.trans ?_ (List.sublist_append_right _ _))) | exact Hs.refl _ | exact Hs.tl _ | exact Hs.tl2 _ _ | exact Hs.tl3 _ _ _ | exact Hs.app _ | exact Hs.sub (by simp)) (by kernel_rfl) rfl ?_
      refine R.store (G1 := [_]) rfl rfl rfl rfl rfl Tryz.sizeOf32 rfl rfl (rfl) (Nat.le_of_ble_eq_true rfl) ?_
      refine GOps.nil ?_
      refine GA.done (by first | exact Hs.sub (by repeat (first | exact List.Sublist.refl _ | apply List.Sublist.cons | refine List.Sublist.trans ?_ (List.sublist_append_right _ _))) | exact Hs.refl _ | exact Hs.tl _ | exact Hs.tl2 _ _ | exact Hs.tl3 _ _ _ | exact Hs.app _ | exact Hs.sub (by simp)) (by kernel_rfl) ?_
      refine GW.seq ?_
      refine GW.region ?_
      refine R.move ⟨rfl, rfl, rfl, rfl⟩ rfl ?_
      refine R.nilCheck ⟨rfl, rfl, rfl, rfl⟩ rfl ?_
      refine R.fieldAddr ⟨rfl, rfl, rfl, rfl⟩ rfl Tryz.underlying103 rfl Tryz.sizeOf32 ?_   -- "ends"
      refine R.load1 ⟨rfl, rfl, rfl, rfl⟩ rfl Tryz.underlying32 rfl (.own' memG (by rfl)) ?_
      refine R.lenS ⟨rfl, rfl, rfl, rfl⟩ rfl rfl Tryz.underlying32 ?_
      refine R.conv (r := ((ts.length + 1 : Nat) : Int)) ⟨rfl, rfl, rfl, rfl⟩ rfl Tryz.underlying3 Tryz.underlying35 (by rw [hl2]; exact u32_id _ (by omega)) ?_
      refine R.assign ⟨rfl, rfl, rfl, rfl⟩ rfl ?_
      refine GOps.nil ?_
      refine GW.seq ?_
      refine GW.cutE (fun u v => [(0, .pointer (some ⟨b, 0, none⟩)), (8, .int .u32 ((ts.length + 1 : Nat) : Int))]) (fun u v => (b, dictC lim (.slice (some ⟨ba, 0, none⟩) (bytesL (ts ++ [t])).length ca) (.slice (some ⟨be, 0, none⟩) (ts ++ [t]).length cc) bt (2 ^ k)) :: (bt, tabC (tab.set q (ts.length + 1))) :: ([(ba, .row (u8C (bytesL (ts ++ [t]))) 5 (ca * 1))] ++ ([(be, .row (intC (endsL (ts ++ [t]))) 3 (cc * 1))] ++ G))) ?_ ?_
      ·refine GW.region ?_
       refine R.move ⟨rfl, rfl, rfl, rfl⟩ rfl ?_
       refine R.nilCheck ⟨rfl, rfl, rfl, rfl⟩ rfl ?_
       refine R.fieldAddr ⟨rfl, rfl, rfl, rfl⟩ rfl Tryz.underlying103 rfl Tryz.sizeOf100 ?_   -- "table"
       refine R.load1 ⟨rfl, rfl, rfl, rfl⟩ rfl Tryz.underlying100 rfl (.own' memG (by rfl)) ?_
       refine R.move ⟨rfl, rfl, rfl, rfl⟩ rfl ?_
       refine R.move ⟨rfl, rfl, rfl, rfl⟩ rfl ?_
       refine R.indexAddrS ⟨rfl, rfl, rfl, rfl⟩ rfl rfl Tryz.underlying100 Tryz.sizeOf35 (by omega) (by omega) ?_
       refine R.store (G1 := [_, _]) rfl rfl rfl rfl rfl Tryz.sizeOf35 rfl rfl (rfl) (by simp [u32C_len]; omega) ?_
       refine GOps.nil ?_
       exact ⟨rfl, rfl, 0, 0, by repeat (first | exact Keeps.nil _ | refine Keeps.cons rfl ?_), by rw [tab_put hql]; exact new_hs _ _ _ _ _ _ _ _⟩
      ·intro u v
       refine GW.seq ?_
       refine GW.drawS 12 rfl (by kernel_rfl) ?_
       refine GA.val 0 rfl (V.move ⟨rfl, rfl, rfl, rfl⟩ rfl) rfl (by kernel_rfl) (by kernel_rfl) (by kernel_rfl) ?_
       refine GA.val 1 rfl (V.nilCheck ⟨rfl, rfl, rfl, rfl⟩ rfl) rfl (by kernel_rfl) (by kernel_rfl) (by kernel_rfl) ?_
       refine GA.val 2 rfl (V.fieldAddr ⟨rfl, rfl, rfl, rfl⟩ rfl Tryz.underlying103 rfl Tryz.sizeOf32) rfl (by kernel_rfl) (by kernel_rfl) (by kernel_rfl) ?_   -- "ends"
       refine GA.val 3 rfl (V.load1 ⟨rfl, rfl, rfl, rfl⟩ rfl Tryz.underlying32 rfl (.own' memG (by rfl))) rfl (by kernel_rfl) (by kernel_rfl) (by kernel_rfl) ?_
       refine GA.val 4 rfl (V.lenS ⟨rfl, rfl, rfl, rfl⟩ rfl rfl Tryz.underlying32) rfl (by kernel_rfl) (by kernel_rfl) (by kernel_rfl) ?_
       refine GA.val 5 rfl (V.mul (r := ((2 * (ts ++ [t]).length : Nat) : Int)) ⟨rfl, rfl, rfl, rfl⟩ rfl rfl (by rw [wrap64_id (by omega) (by omega)]; omega)) rfl (by kernel_rfl) (by kernel_rfl) (by kernel_rfl) ?_
       refine GA.val 6 rfl (V.move ⟨rfl, rfl, rfl, rfl⟩ rfl) rfl (by kernel_rfl) (by kernel_rfl) (by kernel_rfl) ?_
       refine GA.val 7 rfl (V.nilCheck ⟨rfl, rfl, rfl, rfl⟩ rfl) rfl (by kernel_rfl) (by kernel_rfl) (by kernel_rfl) ?_
       refine GA.val 8 rfl (V.fieldAddr ⟨rfl, rfl, rfl, rfl⟩ rfl Tryz.underlying103 rfl Tryz.sizeOf100) rfl (by kernel_rfl) (by kernel_rfl) (by kernel_rfl) ?_   -- "table"
       refine GA.val 9 rfl (V.load1 ⟨rfl, rfl, rfl, rfl⟩ rfl Tryz.underlying100 rfl (.own' memG (by rfl))) rfl (by kernel_rfl) (by kernel_rfl) (by kernel_rfl) ?_
       refine GA.val 10 rfl (V.lenS ⟨rfl, rfl, rfl, rfl⟩ rfl rfl Tryz.underlying100) rfl (by kernel_rfl) (by kernel_rfl) (by kernel_rfl) ?_
       refine GA.val 11 rfl (V.gtr ⟨rfl, rfl, rfl, rfl⟩ rfl rfl) rfl (by kernel_rfl) (by kernel_rfl) (by kernel_rfl) ?_
       refine GA.done (by first | exact Hs.refl _ | exact Hs.tl _ | exact Hs.tl2 _ _ | exact Hs.tl3 _ _ _ | exact Hs.app _ | exact Hs.sub (by simp)) (by kernel_rfl) ?_
       refine GW.ite rfl (fun hc5 => ?_) (fun hc5 => ?_)
       ·try simp only [dcQ] at hc5
        refine GW.region ?_
        refine R.move ⟨rfl, rfl, rfl, rfl⟩ rfl ?_
        refine R.move ⟨rfl, rfl, rfl, rfl⟩ rfl ?_
        refine R.nilCheck ⟨rfl, rfl, rfl, rfl⟩ rfl ?_
        refine R.fieldAddr ⟨rfl, rfl, rfl, rfl⟩ rfl Tryz.underlying103 rfl Tryz.sizeOf32 ?_   -- "ends"
        refine R.load1 ⟨rfl, rfl, rfl, rfl⟩ rfl Tryz.underlying32 rfl (.own' memG (by rfl)) ?_
        refine R.lenS ⟨rfl, rfl, rfl, rfl⟩ rfl rfl Tryz.underlying32 ?_
        refine R.mul (r := ((2 * (ts ++ [t]).length : Nat) : Int)) ⟨rfl, rfl, rfl, rfl⟩ rfl rfl (by rw [wrap64_id (by omega) (by omega)]; omega) ?_
        refine R.call ⟨rfl, rfl, rfl, rfl⟩ rfl (vs := [_, _]) rfl ((dict_build _ G (ts ++ [t]) (.slice (some ⟨ba, 0, none⟩) (bytesL (ts ++ [t])).length ca) (.slice (some ⟨be, 0, none⟩) (ts ++ [t]).length cc) [(ba, .row (u8C (bytesL (ts ++ [t]))) 5 (ca * 1))] [(be, .row (intC (endsL (ts ++ [t]))) 3 (cc * 1))] b bt lim (2 ^ k) (tab.set q (ts.length + 1)) (2 * (ts ++ [t]).length) hr2 rfl hd2).mono ?_)
        rintro _ _ ⟨c, k2, tab2, ⟨rfl, hk4, hk12, htt, hroom⟩, rfl⟩
        refine GOps.nil ?_
        refine GW.seq ?_
        refine GW.region ?_
        refine R.move ⟨rfl, rfl, rfl, rfl⟩ rfl ?_
        refine R.assign ⟨rfl, rfl, rfl, rfl⟩ rfl ?_
        refine R.assign ⟨rfl, rfl, rfl, rfl⟩ rfl ?_
        refine GOps.nil ?_
        first | exact GW.ret (Out.of (Res.two rfl rfl rfl) (Hs.refl _) ⟨_, _, _, _, c, k2, tab2, ⟨rfl, hr2, htt, hk12, by omega, hk4⟩, rfl⟩) | exact GW.ret (Out.of (Res.two rfl rfl rfl) (Hs.refl _) ⟨_, _, _, _, bt, k, _, ⟨rfl, hr2, ht2, hk, by omega, h4⟩, rfl⟩)
       ·try simp only [dcQ] at hc5
        refine GW.skip ?_
        refine GW.seq ?_
        refine GW.region ?_
        refine R.move ⟨rfl, rfl, rfl, rfl⟩ rfl ?_
        refine R.assign ⟨rfl, rfl, rfl, rfl⟩ rfl ?_
        refine R.assign ⟨rfl, rfl, rfl, rfl⟩ rfl ?_
        refine GOps.nil ?_
        first | exact GW.ret (Out.of (Res.two rfl rfl rfl) (Hs.refl _) ⟨_, _, _, _, c, k2, tab2, ⟨rfl, hr2, htt, hk12, by omega, hk4⟩, rfl⟩) | exact GW.ret (Out.of (Res.two rfl rfl rfl) (Hs.refl _) ⟨_, _, _, _, bt, k, _, ⟨rfl, hr2, ht2, hk, by omega, h4⟩, rfl⟩)
     ·refine R.load1 ⟨rfl, rfl, rfl, rfl⟩ rfl Tryz.underlying101 rfl (.own' memG (by rfl)) ?_
      refine GOps.nil ?_
      refine GA.val 9 rfl (V.lenS ⟨rfl, rfl, rfl, rfl⟩ rfl rfl Tryz.underlying101) rfl (by kernel_rfl) (by kernel_rfl) (by kernel_rfl) ?_
      refine GA.two 4 10 (by first | exact Hs.sub (by repeat (first | exact List.Sublist.refl _ | apply List.Sublist.cons | refine List.Sublist.trans ?_ (List.sublist_append_right _ _))) | exact Hs.refl _ | exact Hs.tl _ | exact Hs.tl2 _ _ | exact Hs.tl3 _ _ _ | exact Hs.app _ | exact Hs.sub (by simp)) (by kernel_rfl) rfl rfl ?_ ?_
      ·refine R.load1 ⟨rfl, rfl, rfl, rfl⟩ rfl Tryz.underlying32 rfl (.own' memG (by rfl)) ?_
       refine GOps.nil ?_
       refine GA.one 10 (by first | exact Hs.sub (by repeat (first | exact List.Sublist.refl _ | apply List.Sublist.cons | refine List.Sublist.trans ?_ (List.sublist_append_right _ _))) | exact Hs.refl _ | exact Hs.tl _ | exact Hs.tl2 _ _ | exact Hs.tl3 _ _ _ | exact Hs.app _ | exact Hs.sub (by simp)) (by kernel_rfl) rfl ?_
       refine R.buildSliceF (sz := 1) (bytes := 8) (vs := [_]) (cs := [_]) ⟨rfl, rfl, rfl, rfl⟩ rfl Tryz.underlying32 (InfoE.mk (by kernel_rfl)) rfl rfl rfl rfl rfl fun b68 => ?_
       refine GOps.nil ?_
       refine GA.one 11 (by first | exact Hs.sub (by repeat (first | exact List.Sublist.refl _ | apply List.Sublist.cons | refine List.Sublist.trans ?_ (List.sublist_append_right _ _))) | exact Hs.refl _ | exact Hs.tl _ | exact Hs.tl2 _ _ | exact Hs.tl3 _ _ _ | exact Hs.app _ | exact Hs.sub (by simp)) (by kernel_rfl) rfl ?_
       refine R.append (sz := 1) (bytes := 8) (G1 := [_, _, _, _]) (H := He) (news := [.int .i64 (((bytesL (ts ++ [t])).length : Nat) : Int)]) ⟨rfl, rfl, rfl, rfl⟩ rfl rfl rfl Tryz.underlying32 (InfoE.mk (by kernel_rfl)) (hr.he) (rfl) (rfl) (.own (by repeat (first | exact List.mem_cons_self | apply List.mem_cons_of_mem | apply List.mem_append_right | exact List.mem_append_left _ List.mem_cons_self)) 0 _ (fun j v hv => by simpa using hv)) (by omega) (by rfl) (by omega) (by omega) fun v69 H69 hv69 => ?_
       have hv69' : SlAt 1 3 (intC (endsL (ts ++ [t]))) (ts ++ [t]).length v69 H69 := by rw [ends_app, intC_app, hl2]; exact hv69
       obtain ⟨be, cc, rfl, rfl, hcc⟩ := hv69'.row_of (by omega)
       have hr2 : Raw (ts ++ [t]) (.slice (some ⟨ba, 0, none⟩) (bytesL (ts ++ [t])).length ca) (.slice (some ⟨be, 0, none⟩) (ts ++ [t]).length cc) [(ba, .row (u8C (bytesL (ts ++ [t]))) 5 (ca * 1))] [(be, .row (intC (endsL (ts ++ [t]))) 3 (cc * 1))] := ⟨hv55', hv69', may2, by omega⟩
       have ht2 : TabOk ((ts ++ [t]).map packL) k (tab.set q (ts.length + 1)) := by have := ht.put hq hn; rw [List.length_map] at this; rw [List.map_append]; exact this
       refine GOps.nil ?_
       refine GA.val 12 rfl (V.nilCheck ⟨rfl, rfl, rfl, rfl⟩ rfl) rfl (by kernel_rfl) (by kernel_rfl) (by kernel_rfl) ?_
       refine GA.val 13 rfl (V.fieldAddr ⟨rfl, rfl, rfl, rfl⟩ rfl Tryz.underlying103 rfl Tryz.sizeOf32) rfl (by kernel_rfl) (by kernel_rfl) (by kernel_rfl) ?_   -- "ends"
       refine GA.one 14 (by first | exact Hs.sub (by repeat (first | exact List.Sublist.refl _ | apply List.Sublist.cons | refine List.Sublist.trans ?_ (List.sublist_append_right _ _))) | exact Hs.refl _ | exact Hs.tl _ | exact Hs.tl2 _ _ | exact Hs.tl3 _ _ _ | exact Hs.app _ | exact Hs.sub (by simp)) (by kernel_rfl) rfl ?_
       refine R.store (G1 := [_]) rfl rfl rfl rfl rfl Tryz.sizeOf32 rfl rfl (rfl) (Nat.le_of_ble_eq_true rfl) ?_
       refine GOps.nil ?_
       refine GA.done (by first | exact Hs.sub (by repeat (first | exact List.Sublist.refl _ | apply List.Sublist.cons | refine List.Sublist.trans ?_ (List.sublist_append_right _ _))) | exact Hs.refl _ | exact Hs.tl _ | exact Hs.tl2 _ _ | exact Hs.tl3 _ _ _ | exact Hs.app _ | exact Hs.sub (by simp)) (by kernel_rfl) ?_
       refine GW.seq ?_
       refine GW.region ?_
       refine R.move ⟨rfl, rfl, rfl, rfl⟩ rfl ?_
       refine R.nilCheck ⟨rfl, rfl, rfl, rfl⟩ rfl ?_
       refine R.fieldAddr ⟨rfl, rfl, rfl, rfl⟩ rfl Tryz.underlying103 rfl Tryz.sizeOf32 ?_   -- "ends"
       refine R.load1 ⟨rfl, rfl, rfl, rfl⟩ rfl Tryz.underlying32 rfl (.own' memG (by rfl)) ?_
       refine R.lenS ⟨rfl, rfl, rfl, rfl⟩ rfl rfl Tryz.underlying32 ?_
       refine R.conv (r := ((ts.length + 1 : Nat) : Int)) ⟨rfl, rfl, rfl, rfl⟩ rfl Tryz.underlying3 Tryz.underlying35 (by rw [hl2]; exact u32_id _ (by omega)) ?_
       refine R.assign ⟨rfl, rfl, rfl, rfl⟩ rfl ?_
       refine GOps.nil ?_
       refine GW.seq ?_
       refine GW.cutE (fun u v => [(0, .pointer (some ⟨b, 0, none⟩)), (8, .int .u32 ((ts.length + 1 : Nat) : Int))]) (fun u v => (b, dictC lim (.slice (some ⟨ba, 0, none⟩) (bytesL (ts ++ [t])).length ca) (.slice (some ⟨be, 0, none⟩) (ts ++ [t]).length cc) bt (2 ^ k)) :: (bt, tabC (tab.set q (ts.length + 1))) :: ([(ba, .row (u8C (bytesL (ts ++ [t]))) 5 (ca * 1))] ++ ([(be, .row (intC (endsL (ts ++ [t]))) 3 (cc * 1))] ++ G))) ?_ ?_
       ·refine GW.region ?_
        refine R.move ⟨rfl, rfl, rfl, rfl⟩ rfl ?_
        refine R.nilCheck ⟨rfl, rfl, rfl, rfl⟩ rfl ?_
        refine R.fieldAddr ⟨rfl, rfl, rfl, rfl⟩ rfl Tryz.underlying103 rfl Tryz.sizeOf100 ?_   -- "table"
        refine R.load1 ⟨rfl, rfl, rfl, rfl⟩ rfl Tryz.underlying100 rfl (.own' memG (by rfl)) ?_
        refine R.move ⟨rfl, rfl, rfl, rfl⟩ rfl ?_
        refine R.move ⟨rfl, rfl, rfl, rfl⟩ rfl ?_
        refine R.indexAddrS ⟨rfl, rfl, rfl, rfl⟩ rfl rfl Tryz.underlying100 Tryz.sizeOf35 (by omega) (by omega) ?_
        refine R.store (G1 := [_, _]) rfl rfl rfl rfl rfl Tryz.sizeOf35 rfl rfl (rfl) (by simp [u32C_len]; omega) ?_
        refine GOps.nil ?_
        exact ⟨rfl, rfl, 0, 0, by repeat (first | exact Keeps.nil _ | refine Keeps.cons rfl ?_), by rw [tab_put hql]; exact new_hs _ _ _ _ _ _ _ _⟩
       ·intro u v
        refine GW.seq ?_
        refine GW.drawS 12 rfl (by kernel_rfl) ?_
        refine GA.val 0 rfl (V.move ⟨rfl, rfl, rfl, rfl⟩ rfl) rfl (by kernel_rfl) (by kernel_rfl) (by kernel_rfl) ?_
        refine GA.val 1 rfl (V.nilCheck ⟨rfl, rfl, rfl, rfl⟩ rfl) rfl (by kernel_rfl) (by kernel_rfl) (by kernel_rfl) ?_
        refine GA.val 2 rfl (V.fieldAddr ⟨rfl, rfl, rfl, rfl⟩ rfl Tryz.underlying103 rfl Tryz.sizeOf32) rfl (by kernel_rfl) (by kernel_rfl) (by kernel_rfl) ?_   -- "ends"
        refine GA.val 3 rfl (V.load1 ⟨rfl, rfl, rfl, rfl⟩ rfl Tryz.underlying32 rfl (.own' memG (by rfl))) rfl (by kernel_rfl) (by kernel_rfl) (by kernel_rfl) ?_
        refine GA.val 4 rfl (V.lenS ⟨rfl, rfl, rfl, rfl⟩ rfl rfl Tryz.underlying32) rfl (by kernel_rfl) (by kernel_rfl) (by kernel_rfl) ?_
        refine GA.val 5 rfl (V.mul (r := ((2 * (ts ++ [t]).length : Nat) : Int)) ⟨rfl, rfl, rfl, rfl⟩ rfl rfl (by rw [wrap64_id (by omega) (by omega)]; omega)) rfl (by kernel_rfl) (by kernel_rfl) (by kernel_rfl) ?_
        refine GA.val 6 rfl (V.move ⟨rfl, rfl, rfl, rfl⟩ rfl) rfl (by kernel_rfl) (by kernel_rfl) (by kernel_rfl) ?_
        refine GA.val 7 rfl (V.nilCheck ⟨rfl, rfl, rfl, rfl⟩ rfl) rfl (by kernel_rfl) (by kernel_rfl) (by kernel_rfl) ?_
        refine GA.val 8 rfl (V.fieldAddr ⟨rfl, rfl, rfl, rfl⟩ rfl Tryz.underlying103 rfl Tryz.sizeOf100) rfl (by kernel_rfl) (by kernel_rfl) (by kernel_rfl) ?_   -- "table"
        refine GA.val 9 rfl (V.load1 ⟨rfl, rfl, rfl, rfl⟩ rfl Tryz.underlying100 rfl (.own' memG (by rfl))) rfl (by kernel_rfl) (by kernel_rfl) (by kernel_rfl) ?_
        refine GA.val 10 rfl (V.lenS ⟨rfl, rfl, rfl, rfl⟩ rfl rfl Tryz.underlying100) rfl (by kernel_rfl) (by kernel_rfl) (by kernel_rfl) ?_
        refine GA.val 11 rfl (V.gtr ⟨rfl, rfl, rfl, rfl⟩ rfl rfl) rfl (by kernel_rfl) (by kernel_rfl) (by kernel_rfl) ?_
        refine GA.done (by first | exact Hs.refl _ | exact Hs.tl _ | exact Hs.tl2 _ _ | exact Hs.tl3 _ _ _ | exact Hs.app _ | exact Hs.sub (by simp)) (by kernel_rfl) ?_
        refine GW.ite rfl (fun hc6 => ?_) (fun hc6 => ?_)
        ·try simp only [dcQ] at hc6
         refine GW.region ?_
         refine R.move ⟨rfl, rfl, rfl, rfl⟩ rfl ?_
         refine R.move ⟨rfl, rfl, rfl, rfl⟩ rfl ?_
         refine R.nilCheck ⟨rfl, rfl, rfl, rfl⟩ rfl ?_
         refine R.fieldAddr ⟨rfl, rfl, rfl, rfl⟩ rfl Tryz.underlying103 rfl Tryz.sizeOf32 ?_   -- "ends"
         refine R.load1 ⟨rfl, rfl, rfl, rfl⟩ rfl Tryz.underlying32 rfl (.own' memG (by rfl)) ?_
         refine R.lenS ⟨rfl, rfl, rfl, rfl⟩ rfl rfl Tryz.underlying32 ?_
         refine R.mul (r := ((2 * (ts ++ [t]).length : Nat) : Int)) ⟨rfl, rfl, rfl, rfl⟩ rfl rfl (by rw [wrap64_id (by omega) (by omega)]; omega) ?_
         refine R.call ⟨rfl, rfl, rfl, rfl⟩ rfl (vs := [_, _]) rfl ((dict_build _ G (ts ++ [t]) (.slice (some ⟨ba, 0, none⟩) (bytesL (ts ++ [t])).length ca) (.slice (some ⟨be, 0, none⟩) (ts ++ [t]).length cc) [(ba, .row (u8C (bytesL (ts ++ [t]))) 5 (ca * 1))] [(be, .row (intC (endsL (ts ++ [t]))) 3 (cc * 1))] b bt lim (2 ^ k) (tab.set q (ts.length + 1)) (2 * (ts ++ [t]).length) hr2 rfl hd2).mono ?_)
         rintro _ _ ⟨c, k2, tab2, ⟨rfl, hk4, hk12, htt, hroom⟩, rfl⟩
         refine GOps.nil ?_
         refine GW.seq ?_
         refine GW.region ?_
         refine R.move ⟨rfl, rfl, rfl, rfl⟩ rfl ?_
         refine R.assign ⟨rfl, rfl, rfl, rfl⟩ rfl ?_
         refine R.assign ⟨rfl, rfl, rfl, rfl⟩ rfl ?_
         refine GOps.nil ?_
         first | exact GW.ret (Out.of (Res.two rfl rfl rfl) (Hs.refl _) ⟨_, _, _, _, c, k2, tab2, ⟨rfl, hr2, htt, hk12, by omega, hk4⟩, rfl⟩) | exact GW.ret (Out.of (Res.two rfl rfl rfl) (Hs.refl _) ⟨_, _, _, _, bt, k, _, ⟨rfl, hr2, ht2, hk, by omega, h4⟩, rfl⟩)
        ·try simp only [dcQ] at hc6
         refine GW.skip ?_
         refine GW.seq ?_
         refine GW.region ?_
         refine R.move ⟨rfl, rfl, rfl, rfl⟩ rfl ?_
         refine R.assign ⟨rfl, rfl, rfl, rfl⟩ rfl ?_
         refine R.assign ⟨rfl, rfl, rfl, rfl⟩ rfl ?_
         refine GOps.nil ?_
         first | exact GW.ret (Out.of (Res.two rfl rfl rfl) (Hs.refl _) ⟨_, _, _, _, c, k2, tab2, ⟨rfl, hr2, htt, hk12, by omega, hk4⟩, rfl⟩) | exact GW.ret (Out.of (Res.two rfl rfl rfl) (Hs.refl _) ⟨_, _, _, _, bt, k, _, ⟨rfl, hr2, ht2, hk, by omega, h4⟩, rfl⟩)
      ·refine R.buildSliceF (sz := 1) (bytes := 8) (vs := [_]) (cs := [_]) ⟨rfl, rfl, rfl, rfl⟩ rfl Tryz.underlying32 (InfoE.mk (by kernel_rfl)) rfl rfl rfl rfl rfl fun b68 => ?_
       refine GOps.nil ?_
       refine GA.one 4 (by first | exact Hs.sub (by repeat (first | exact List.Sublist.refl _ | apply List.Sublist.cons | refine List.Sublist.trans ?_ (List.sublist_append_right _ _))) | exact Hs.refl _ | exact Hs.tl _ | exact Hs.tl2 _ _ | exact Hs.tl3 _ _ _ | exact Hs.app _ | exact Hs.sub (by simp)) (by kernel_rfl) rfl ?_
       refine R.load1 ⟨rfl, rfl, rfl, rfl⟩ rfl Tryz.underlying32 rfl (.own' memG (by rfl)) ?_
       refine GOps.nil ?_
       refine GA.one 11 (by first | exact Hs.sub (by repeat (first | exact List.Sublist.refl _ | apply List.Sublist.cons | refine List.Sublist.trans ?_ (List.sublist_append_right _ _))) | exact Hs.refl _ | exact Hs.tl _ | exact Hs.tl2 _ _ | exact Hs.tl3 _ _ _ | exact Hs.app _ | exact Hs.sub (by simp)) (by kernel_rfl) rfl ?_
       refine R.append (sz := 1) (bytes := 8) (G1 := [_, _, _, _]) (H := He) (news := [.int .i64 (((bytesL (ts ++ [t])).length : Nat) : Int)]) ⟨rfl, rfl, rfl, rfl⟩ rfl rfl rfl Tryz.underlying32 (InfoE.mk (by kernel_rfl)) (hr.he) (rfl) (rfl) (.own (by repeat (first | exact List.mem_cons_self | apply List.mem_cons_of_mem | apply List.mem_append_right | exact List.mem_append_left _ List.mem_cons_self)) 0 _ (fun j v hv => by simpa using hv)) (by omega) (by rfl) (by omega) (by omega) fun v69 H69 hv69 => ?_
       have hv69' : SlAt 1 3 (intC (endsL (ts ++ [t]))) (ts ++ [t]).length v69 H69 := by rw [ends_app, intC_app, hl2]; exact hv69
       obtain ⟨be, cc, rfl, rfl, hcc⟩ := hv69'.row_of (by omega)
       have hr2 : Raw (ts ++ [t]) (.slice (some ⟨ba, 0, none⟩) (bytesL (ts ++ [t])).length ca) (.slice (some ⟨be, 0, none⟩) (ts ++ [t]).length cc) [(ba, .row (u8C (bytesL (ts ++ [t]))) 5 (ca * 1))] [(be, .row (intC (endsL (ts ++ [t]))) 3 (cc * 1))] := ⟨hv55', hv69', may2, by omega⟩
       have ht2 : TabOk ((ts ++ [t]).map packL) k (tab.set q (ts.length + 1)) := by have := ht.put hq hn; rw [List.length_map] at this; rw [List.map_append]; exact this
       refine GOps.nil ?_
       refine GA.val 12 rfl (V.nilCheck ⟨rfl, rfl, rfl, rfl⟩ rfl) rfl (by kernel_rfl) (by kernel_rfl) (by kernel_rfl) ?_
       refine GA.val 13 rfl (V.fieldAddr ⟨rfl, rfl, rfl, rfl⟩ rfl Tryz.underlying103 rfl Tryz.sizeOf32) rfl (by kernel_rfl) (by kernel_rfl) (by kernel_rfl) ?_   -- "ends"
       refine GA.one 14 (by first | exact Hs.sub (by repeat (first | exact List.Sublist.refl _ | apply List.Sublist.cons | refine List.Sublist.trans ?_ (List.sublist_append_right _ _))) | exact Hs.refl _ | exact Hs.tl _ | exact Hs.tl2 _ _ | exact Hs.tl3 _ _ _ | exact Hs.app _ | exact Hs.sub (by simp)) (by kernel_rfl) rfl ?_
       refine R.store (G1 := [_]) rfl rfl rfl rfl rfl Tryz.sizeOf32 rfl rfl (rfl) (Nat.le_of_ble_eq_true rfl) ?_
       refine GOps.nil ?_
       refine GA.done (by first | exact Hs.sub (by repeat (first | exact List.Sublist.refl _ | apply List.Sublist.cons | refine List.Sublist.trans ?_ (List.sublist_append_right _ _))) | exact Hs.refl _ | exact Hs.tl _ | exact Hs.tl2 _ _ | exact Hs.tl3 _ _ _ | exact Hs.app _ | exact Hs.sub (by simp)) (by kernel_rfl) ?_
       refine GW.seq ?_
       refine GW.region ?_
       refine R.move ⟨rfl, rfl, rfl, rfl⟩ rfl ?_
       refine R.nilCheck ⟨rfl, rfl, rfl, rfl⟩ rfl ?_
       refine R.fieldAddr ⟨rfl, rfl, rfl, rfl⟩ rfl Tryz.underlying103 rfl Tryz.sizeOf32 ?_   -- "ends"
       refine R.load1 ⟨rfl, rfl, rfl, rfl⟩ rfl Tryz.underlying32 rfl (.own' memG (by rfl)) ?_
       refine R.lenS ⟨rfl, rfl, rfl, rfl⟩ rfl rfl Tryz.underlying32 ?_
       refine R.conv (r := ((ts.length + 1 : Nat) : Int)) ⟨rfl, rfl, rfl, rfl⟩ rfl Tryz.underlying3 Tryz.underlying35 (by rw [hl2]; exact u32_id _ (by omega)) ?_
       refine R.assign ⟨rfl, rfl, rfl, rfl⟩ rfl ?_
       refine GOps.nil ?_
       refine GW.seq ?_
       refine GW.cutE (fun u v => [(0, .pointer (some ⟨b, 0, none⟩)), (8, .int .u32 ((ts.length + 1 : Nat) : Int))]) (fun u v => (b, dictC lim (.slice (some ⟨ba, 0, none⟩) (bytesL (ts ++ [t])).length ca) (.slice (some ⟨be, 0, none⟩) (ts ++ [t]).length cc) bt (2 ^ k)) :: (bt, tabC (tab.set q (ts.length + 1))) :: ([(ba, .row (u8C (bytesL (ts ++ [t]))) 5 (ca * 1))] ++ ([(be, .row (intC (endsL (ts ++ [t]))) 3 (cc * 1))] ++ G))) ?_ ?_
       ·refine GW.region ?_
        refine R.move ⟨rfl, rfl, rfl, rfl⟩ rfl ?_
        refine R.nilCheck ⟨rfl, rfl, rfl, rfl⟩ rfl ?_
        refine R.fieldAddr ⟨rfl, rfl, rfl, rfl⟩ rfl Tryz.underlying103 rfl Tryz.sizeOf100 ?_   -- "table"
        refine R.load1 ⟨rfl, rfl, rfl, rfl⟩ rfl Tryz.underlying100 rfl (.own' memG (by rfl)) ?_
        refine R.move ⟨rfl, rfl, rfl, rfl⟩ rfl ?_
        refine R.move ⟨rfl, rfl, rfl, rfl⟩ rfl ?_
        refine R.indexAddrS ⟨rfl, rfl, rfl, rfl⟩ rfl rfl Tryz.underlying100 Tryz.sizeOf35 (by omega) (by omega) ?_
        refine R.store (G1 := [_, _]) rfl rfl rfl rfl rfl Tryz.sizeOf35 rfl rfl (rfl) (by simp [u32C_len]; omega) ?_
        refine GOps.nil ?_
        exact ⟨rfl, rfl, 0, 0, by repeat (first | exact Keeps.nil _ | refine Keeps.cons rfl ?_), by rw [tab_put hql]; exact new_hs _ _ _ _ _ _ _ _⟩
       ·intro u v
        refine GW.seq ?_
        refine GW.drawS 12 rfl (by kernel_rfl) ?_
        refine GA.val 0 rfl (V.move ⟨rfl, rfl, rfl, rfl⟩ rfl) rfl (by kernel_rfl) (by kernel_rfl) (by kernel_rfl) ?_
        refine GA.val 1 rfl (V.nilCheck ⟨rfl, rfl, rfl, rfl⟩ rfl) rfl (by kernel_rfl) (by kernel_rfl) (by kernel_rfl) ?_
        refine GA.val 2 rfl (V.fieldAddr ⟨rfl, rfl, rfl, rfl⟩ rfl Tryz.underlying103 rfl Tryz.sizeOf32) rfl (by kernel_rfl) (by kernel_rfl) (by kernel_rfl) ?_   -- "ends"
        refine GA.val 3 rfl (V.load1 ⟨rfl, rfl, rfl, rfl⟩ rfl Tryz.underlying32 rfl (.own' memG (by rfl))) rfl (by kernel_rfl) (by kernel_rfl) (by kernel_rfl) ?_
        refine GA.val 4 rfl (V.lenS ⟨rfl, rfl, rfl, rfl⟩ rfl rfl Tryz.underlying32) rfl (by kernel_rfl) (by kernel_rfl) (by kernel_rfl) ?_
        refine GA.val 5 rfl (V.mul (r := ((2 * (ts ++ [t]).length : Nat) : Int)) ⟨rfl, rfl, rfl, rfl⟩ rfl rfl (by rw [wrap64_id (by omega) (by omega)]; omega)) rfl (by kernel_rfl) (by kernel_rfl) (by kernel_rfl) ?_
        refine GA.val 6 rfl (V.move ⟨rfl, rfl, rfl, rfl⟩ rfl) rfl (by kernel_rfl) (by kernel_rfl) (by kernel_rfl) ?_
        refine GA.val 7 rfl (V.nilCheck ⟨rfl, rfl, rfl, rfl⟩ rfl) rfl (by kernel_rfl) (by kernel_rfl) (by kernel_rfl) ?_
        refine GA.val 8 rfl (V.fieldAddr ⟨rfl, rfl, rfl, rfl⟩ rfl Tryz.underlying103 rfl Tryz.sizeOf100) rfl (by kernel_rfl) (by kernel_rfl) (by kernel_rfl) ?_   -- "table"
        refine GA.val 9 rfl (V.load1 ⟨rfl, rfl, rfl, rfl⟩ rfl Tryz.underlying100 rfl (.own' memG (by rfl))) rfl (by kernel_rfl) (by kernel_rfl) (by kernel_rfl) ?_
        refine GA.val 10 rfl (V.lenS ⟨rfl, rfl, rfl, rfl⟩ rfl rfl Tryz.underlying100) rfl (by kernel_rfl) (by kernel_rfl) (by kernel_rfl) ?_
        refine GA.val 11 rfl (V.gtr ⟨rfl, rfl, rfl, rfl⟩ rfl rfl) rfl (by kernel_rfl) (by kernel_rfl) (by kernel_rfl) ?_
        refine GA.done (by first | exact Hs.refl _ | exact Hs.tl _ | exact Hs.tl2 _ _ | exact Hs.tl3 _ _ _ | exact Hs.app _ | exact Hs.sub (by simp)) (by kernel_rfl) ?_
        refine GW.ite rfl (fun hc7 => ?_) (fun hc7 => ?_)
        ·try simp only [dcQ] at hc7
         refine GW.region ?_
         refine R.move ⟨rfl, rfl, rfl, rfl⟩ rfl ?_
         refine R.move ⟨rfl, rfl, rfl, rfl⟩ rfl ?_
         refine R.nilCheck ⟨rfl, rfl, rfl, rfl⟩ rfl ?_
         refine R.fieldAddr ⟨rfl, rfl, rfl, rfl⟩ rfl Tryz.underlying103 rfl Tryz.sizeOf32 ?_   -- "ends"
         refine R.load1 ⟨rfl, rfl, rfl, rfl⟩ rfl Tryz.underlying32 rfl (.own' memG (by rfl)) ?_
         refine R.lenS ⟨rfl, rfl, rfl, rfl⟩ rfl rfl Tryz.underlying32 ?_
         refine R.mul (r := ((2 * (ts ++ [t]).length : Nat) : Int)) ⟨rfl, rfl, rfl, rfl⟩ rfl rfl (by rw [wrap64_id (by omega) (by omega)]; omega) ?_
         refine R.call ⟨rfl, rfl, rfl, rfl⟩ rfl (vs := [_, _]) rfl ((dict_build _ G (ts ++ [t]) (.slice (some ⟨ba, 0, none⟩) (bytesL (ts ++ [t])).length ca) (.slice (some ⟨be, 0, none⟩) (ts ++ [t]).length cc) [(ba, .row (u8C (bytesL (ts ++ [t]))) 5 (ca * 1))] [(be, .row (intC (endsL (ts ++ [t]))) 3 (cc * 1))] b bt lim (2 ^ k) (tab.set q (ts.length + 1)) (2 * (ts ++ [t]).length) hr2 rfl hd2).mono ?_)
         rintro _ _ ⟨c, k2, tab2, ⟨rfl, hk4, hk12, htt, hroom⟩, rfl⟩
         refine GOps.nil ?_
         refine GW.seq ?_
         refine GW.region ?_
         refine R.move ⟨rfl, rfl, rfl, rfl⟩ rfl ?_
         refine R.assign ⟨rfl, rfl, rfl, rfl⟩ rfl ?_
         refine R.assign ⟨rfl, rfl, rfl, rfl⟩ rfl ?_
         refine GOps.nil ?_
         first | exact GW.ret (Out.of (Res.two rfl rfl rfl) (Hs.refl _) ⟨_, _, _, _, c, k2, tab2, ⟨rfl, hr2, htt, hk12, by omega, hk4⟩, rfl⟩) | exact GW.ret (Out.of (Res.two rfl rfl rfl) (Hs.refl _) ⟨_, _, _, _, bt, k, _, ⟨rfl, hr2, ht2, hk, by omega, h4⟩, rfl⟩)
        ·try simp only [dcQ] at hc7
         refine GW.skip ?_
         refine GW.seq ?_
         refine GW.region ?_
         refine R.move ⟨rfl, rfl, rfl, rfl⟩ rfl ?_
         refine R.assign ⟨rfl, rfl, rfl, rfl⟩ rfl ?_
         refine R.assign ⟨rfl, rfl, rfl, rfl⟩ rfl ?_
         refine GOps.nil ?_
         first | exact GW.ret (Out.of (Res.two rfl rfl rfl) (Hs.refl _) ⟨_, _, _, _, c, k2, tab2, ⟨rfl, hr2, htt, hk12, by omega, hk4⟩, rfl⟩) | exact GW.ret (Out.of (Res.two rfl rfl rfl) (Hs.refl _) ⟨_, _, _, _, bt, k, _, ⟨rfl, hr2, ht2, hk, by omega, h4⟩, rfl⟩)
end Go.Proofs.YtfddkcmooommeaaGreatDoor.Gl
end
section
namespace Go.Proofs.YtfddkcmooommeaaGreatDoor.Gl
open Go.RowKit Go.Shelf
set_option linter.unusedVariables false
set_option linter.unnecessarySimpa false
set_option linter.unusedSimpArgs false
attribute [-simp] List.getD_eq_getElem?_getD
def Dic (ts : List Tm) (lim b : Nat) (H : Hp) : Prop := ∃ va ve Ha He bt k tab, H = (b, dictC lim va ve bt (2 ^ k)) :: (bt, tabC tab) :: (Ha ++ He) ∧ Raw ts va ve Ha He ∧ TabOk (ts.map packL) k tab ∧ k ≤ 12 ∧ 4 ≤ k ∧ 2 * ts.length ≤ 2 ^ k ∧ ts.Nodup ∧ ts.length ≤ lim ∧ lim ≤ 1000
theorem gg_eq (x y : Nat × Know) (Ha He G : Hp) : (x :: y :: (Ha ++ He)) ++ G = x :: y :: (Ha ++ (He ++ G)) := by simp
def idxT (ts : List Tm) (t : Tm) : Option Nat := ts.findIdx? (fun u => tmEq u t)
theorem idxT_some {ts : List Tm} {t : Tm} {n : Nat} (h : idxT ts t = some n) : ts[n]? = some t := by
 unfold idxT at h
 obtain ⟨hn, h1, _⟩ := List.findIdx?_eq_some_iff_getElem.1 h
 rw [List.getElem?_eq_getElem hn, tmEq_iff.1 h1]
theorem idxT_none {ts : List Tm} {t : Tm} (h : idxT ts t = none) : t ∉ ts := by
 unfold idxT at h
 rw [List.findIdx?_eq_none_iff] at h
 intro hm
 have := h t hm
 rw [tmEq_iff.2 rfl] at this
 cases this
theorem map_nodup {ts : List Tm} (hd : ts.Nodup) (hm : ∀ t ∈ ts, mayT t = true) : (ts.map packL).Nodup := by
 unfold List.Nodup
 rw [List.pairwise_map]
 exact hd.imp_of_mem (fun ha hb hne e => hne (packL_inj (hm _ ha) (hm _ hb) e))
theorem map_not {ts : List Tm} {t : Tm} (hm : ∀ t ∈ ts, mayT t = true) (ht : mayT t = true) (hn : t ∉ ts) : packL t ∉ ts.map packL := by
 intro h
 obtain ⟨u, hu, e⟩ := List.mem_map.1 h
 exact hn (packL_inj (hm u hu) ht e ▸ hu)
def internF (lim : Nat) (ts : List Tm) (t : Tm) : Nat × Int × List Tm :=
 match idxT ts t with
 | some n => (n + 1, 0, ts)
 | none => if lim ≤ ts.length then (0, 9, ts) else (ts.length + 1, 0, ts ++ [t])
theorem dict_Intern (w0 : World) (G H : Hp) (ts : List Tm) (lim b : Nat) (t : Tm) (hD : Dic ts lim b H) (hmay : mayT t = true) : GC Tryz.prog w0 29 #[.pointer (some ⟨b, 0, none⟩), .agg #[.int .i64 t.kind, .string t.text, .string t.ext]] (fun v G' => ∃ H', (v = .tuple #[.int .u32 ((internF lim ts t).1 : Nat), .int .i64 (internF lim ts t).2.1] ∧ Dic (internF lim ts t).2.2 lim b H') ∧ H' ++ G = G') (H ++ G) := by
 obtain ⟨va, ve, Ha, He, bt, k, tab, rfl, hr, ht, hk, h4, h2, hd, hl, hlim⟩ := hD
 rw [gg_eq]
 have hd2 := map_nodup hd hr.may
 unfold internF
 cases e : idxT ts t with
 | some n =>
  refine (int_found w0 G ts va ve Ha He b bt lim k tab t hr ht hk h2 h4 hmay n (idxT_some e) hd2).mono ?_
  rintro v G' ⟨rfl, rfl⟩
  exact ⟨_, ⟨rfl, va, ve, Ha, He, bt, k, tab, rfl, hr, ht, hk, h4, h2, hd, hl, hlim⟩, gg_eq _ _ _ _ _⟩
 | none =>
  have hn := idxT_none e
  have hn2 := map_not hr.may hmay hn
  by_cases hf : lim ≤ ts.length
  ·simp only [if_pos hf]
   refine (int_full w0 G ts va ve Ha He b bt lim k tab t hr ht hk h2 h4 hmay hn2 hf).mono ?_
   rintro v G' ⟨rfl, rfl⟩
   exact ⟨_, ⟨rfl, va, ve, Ha, He, bt, k, tab, rfl, hr, ht, hk, h4, h2, hd, hl, hlim⟩, gg_eq _ _ _ _ _⟩
  ·simp only [if_neg hf]
   refine (int_new w0 G ts va ve Ha He b bt lim k tab t hr ht hk h2 h4 hmay hn2 (by omega) hlim hd2).mono ?_
   rintro v G' ⟨va2, ve2, Ha2, He2, bt2, k2, tab2, ⟨rfl, hr2, ht2, hk2, h22, h42⟩, rfl⟩
   refine ⟨_, ⟨rfl, va2, ve2, Ha2, He2, bt2, k2, tab2, rfl, hr2, ht2, hk2, h42, h22, ?_, by rw [List.length_append, List.length_singleton]; omega, hlim⟩, gg_eq _ _ _ _ _⟩
   exact List.nodup_append.2 ⟨hd, by simp, fun a ha u hu e2 => by simp at hu; subst hu; subst e2; exact hn ha⟩
theorem Dic.new (lim b bt : Nat) (h : lim ≤ 1000) : Dic [] lim b [(b, dictC lim (.slice none 0 0) (.slice none 0 0) bt (2 ^ 4)), (bt, tabC (List.replicate (2 ^ 4) 0))] :=
 ⟨_, _, [], [], bt, 4, _, rfl, ⟨.nil rfl rfl, .nil rfl rfl, by simp, by simp⟩, TabOk.empty 4, by decide, by decide, by simp, by simp, by simp, h⟩
theorem dict_New (w0 : World) (G : Hp) (lim : Nat) (hl : lim ≤ 1000) : GC Tryz.prog w0 11 #[.int .i64 (lim : Nat)] (fun v G' => ∃ b H, (v = .pointer (some ⟨b, 0, none⟩) ∧ Dic [] lim b H) ∧ H ++ G = G') G := by
 refine GC.body (args := [.int .i64 (lim : Nat)]) Tryz.func11 rfl (by kernel_rfl) rfl ?_
 refine GW.seq ?_
 refine GW.region ?_
 refine R.assign ⟨rfl, rfl, rfl, rfl⟩ rfl ?_
 refine GOps.nil ?_
 refine GW.seq ?_
 refine GW.seq ?_
 refine GW.region ?_
 refine R.move ⟨rfl, rfl, rfl, rfl⟩ rfl ?_
 refine R.lss ⟨rfl, rfl, rfl, rfl⟩ rfl rfl ?_
 refine R.move ⟨rfl, rfl, rfl, rfl⟩ rfl ?_
 refine GOps.caseB 5 rfl (fun hg1 => ?_) (fun hg1 => ?_)
 ·try simp only [dcQ] at hg1
  refine GOps.skip rfl rfl rfl ?_
  refine GOps.skip rfl rfl rfl ?_
  refine R.pick_t ⟨rfl, rfl, rfl, rfl⟩ rfl rfl ?_
  refine GOps.nil ?_
  refine GW.cond_t rfl ?_
  refine GW.seq ?_
  refine GW.region ?_
  refine R.assign ⟨rfl, rfl, rfl, rfl⟩ rfl ?_
  refine GOps.nil ?_
  first | (exfalso; omega) | exact GW.ret (Out.of (Res.one rfl rfl) (Hs.refl _) ⟨b12, _, ⟨rfl, Dic.new lim b12 b10 hl⟩, rfl⟩)
 ·try simp only [dcQ] at hg1
  refine R.move ⟨rfl, rfl, rfl, rfl⟩ rfl ?_
  refine R.gtr ⟨rfl, rfl, rfl, rfl⟩ rfl rfl ?_
  refine R.pick_f ⟨rfl, rfl, rfl, rfl⟩ rfl rfl ?_
  refine GOps.nil ?_
  refine GW.ite rfl (fun hc2 => ?_) (fun hc2 => ?_)
  ·try simp only [dcQ] at hc2
   refine GW.seq ?_
   refine GW.region ?_
   refine R.assign ⟨rfl, rfl, rfl, rfl⟩ rfl ?_
   refine GOps.nil ?_
   first | (exfalso; omega) | exact GW.ret (Out.of (Res.one rfl rfl) (Hs.refl _) ⟨b12, _, ⟨rfl, Dic.new lim b12 b10 hl⟩, rfl⟩)
  ·try simp only [dcQ] at hc2
   refine GW.skip ?_
   refine GW.seq ?_
   refine GW.region ?_
   refine R.move ⟨rfl, rfl, rfl, rfl⟩ rfl ?_
   refine R.makeZero (n := 16) (bytes := 4) (z0 := .int .u32 0) ⟨rfl, rfl, rfl, rfl⟩ (by rfl) (by rfl) Tryz.underlying100 (InfoE.mk (by kernel_rfl)) (InfoZ.mk (by kernel_rfl)) (by omega) (by omega) fun b10 => ?_
   refine R.build (vs := [(0, _), (3, _)]) (cells := #[.int .i64 (lim : Nat), .slice none 0 0, .slice none 0 0, .slice (some ⟨b10, 0, none⟩) 16 16]) ⟨rfl, rfl, rfl, rfl⟩ rfl (fun w => run_build w 103 _ _ (by kernel_rfl)) ?_
   refine R.box ⟨rfl, rfl, rfl, rfl⟩ rfl fun b12 => ?_
   refine R.assign ⟨rfl, rfl, rfl, rfl⟩ rfl ?_
   refine GOps.nil ?_
   first | (exfalso; omega) | exact GW.ret (Out.of (Res.one rfl rfl) (Hs.refl _) ⟨b12, _, ⟨rfl, Dic.new lim b12 b10 hl⟩, rfl⟩)
theorem int_zero (w0 : World) (G : Hp) (va ve : Value) (b bt lim n : Nat) (hm : (b, dictC lim va ve bt n) ∈ G) : GC Tryz.prog w0 29 #[.pointer (some ⟨b, 0, none⟩), .agg #[.int .i64 0, .string (ByteArray.mk #[]), .string (ByteArray.mk #[])]] (fun v G' => v = .tuple #[.int .u32 0, .int .i64 2] ∧ G = G') G := by
 refine GC.body (args := [.pointer (some ⟨b, 0, none⟩), .agg #[.int .i64 0, .string (ByteArray.mk #[]), .string (ByteArray.mk #[])]]) Tryz.func29 rfl (by kernel_rfl) rfl ?_
 refine GW.seq ?_
 refine GW.region ?_
 refine R.box ⟨rfl, rfl, rfl, rfl⟩ rfl fun b3 => ?_
 refine R.assign ⟨rfl, rfl, rfl, rfl⟩ rfl ?_
 refine R.assign ⟨rfl, rfl, rfl, rfl⟩ rfl ?_
 refine GOps.nil ?_
 refine GW.seq ?_
 refine GW.block ?_
 refine GW.seq ?_
 refine GW.region ?_
 refine R.move ⟨rfl, rfl, rfl, rfl⟩ rfl ?_
 refine R.call ⟨rfl, rfl, rfl, rfl⟩ rfl (vs := [_]) rfl ((dict_there _ _ va ve b bt lim n (List.mem_cons_of_mem _ hm)).mono ?_)
 rintro _ _ ⟨rfl, rfl⟩
 refine R.not ⟨rfl, rfl, rfl, rfl⟩ rfl ?_
 refine R.assign ⟨rfl, rfl, rfl, rfl⟩ rfl ?_
 refine GOps.nil ?_
 refine GW.ite rfl (fun hc1 => ?_) (fun hc1 => ?_)
 ·try simp only [dcQ] at hc1
  exfalso; simp at hc1
 ·try simp only [dcQ] at hc1
  refine GW.seq ?_
  refine GW.region ?_
  refine R.load_own (cs := _) ⟨rfl, rfl, rfl, rfl⟩ rfl Tryz.underlying24 rfl Tryz.sizeOf24 memG (by rfl) (by rfl) ?_
  refine R.call ⟨rfl, rfl, rfl, rfl⟩ rfl (vs := [_]) rfl ((term_May _ _ ⟨0, ByteArray.mk #[], ByteArray.mk #[]⟩ (by decide) (by decide)).mono ?_)
  rintro _ _ ⟨rfl, rfl⟩
  refine R.not ⟨rfl, rfl, rfl, rfl⟩ rfl ?_
  refine R.assign ⟨rfl, rfl, rfl, rfl⟩ rfl ?_
  refine GOps.nil ?_
  refine GW.ite rfl (fun hc2 => ?_) (fun hc2 => ?_)
  ·try simp only [dcQ] at hc2
   refine GW.seq ?_
   refine GW.region ?_
   refine R.assign ⟨rfl, rfl, rfl, rfl⟩ rfl ?_
   refine R.assign ⟨rfl, rfl, rfl, rfl⟩ rfl ?_
   refine GOps.nil ?_
   exact GW.ret (Out.of (Res.two rfl rfl rfl) (Hs.tl _) ⟨rfl, rfl⟩)
  ·try simp only [dcQ] at hc2
   exfalso; revert hc2; decide
theorem dict_Len (w0 : World) (G : Hp) (A : Option Addr) (m c : Nat) (va : Value) (b bt lim n : Nat) (hm : (b, dictC lim va (.slice A m c) bt n) ∈ G) : GC Tryz.prog w0 14 #[.pointer (some ⟨b, 0, none⟩)] (fun v G' => v = .int .i64 (m : Nat) ∧ G = G') G := by
 refine GC.body (args := [.pointer (some ⟨b, 0, none⟩)]) Tryz.func14 rfl (by kernel_rfl) rfl ?_
 refine GW.seq ?_
 refine GW.region ?_
 refine R.assign ⟨rfl, rfl, rfl, rfl⟩ rfl ?_
 refine GOps.nil ?_
 refine GW.seq ?_
 refine GW.seq ?_
 refine GW.region ?_
 refine R.move ⟨rfl, rfl, rfl, rfl⟩ rfl ?_
 refine R.call ⟨rfl, rfl, rfl, rfl⟩ rfl (vs := [_]) rfl ((dict_there _ _ va (.slice A m c) b bt lim n hm).mono ?_)
 rintro _ _ ⟨rfl, rfl⟩
 refine R.not ⟨rfl, rfl, rfl, rfl⟩ rfl ?_
 refine GOps.nil ?_
 refine GW.ite rfl (fun hc1 => ?_) (fun hc1 => ?_)
 ·try simp only [dcQ] at hc1
  exfalso; simp at hc1
 ·try simp only [dcQ] at hc1
  refine GW.skip ?_
  refine GW.seq ?_
  refine GW.region ?_
  refine R.move ⟨rfl, rfl, rfl, rfl⟩ rfl ?_
  refine R.nilCheck ⟨rfl, rfl, rfl, rfl⟩ rfl ?_
  refine R.fieldAddr ⟨rfl, rfl, rfl, rfl⟩ rfl Tryz.underlying103 rfl Tryz.sizeOf32 ?_   -- "ends"
  refine R.load1 ⟨rfl, rfl, rfl, rfl⟩ rfl Tryz.underlying32 rfl (.own hm rfl) ?_
  refine R.lenS ⟨rfl, rfl, rfl, rfl⟩ rfl rfl Tryz.underlying32 ?_
  refine R.assign ⟨rfl, rfl, rfl, rfl⟩ rfl ?_
  refine GOps.nil ?_
  refine GW.ret (Out.of (Res.one rfl rfl) (by first | exact Hs.refl _ | exact Hs.tl _ | exact Hs.tl2 _ _ | exact Hs.tl3 _ _ _ | exact (Hs.app _).trans (Hs.tl _) | exact (Hs.app _).trans ((Hs.app _).trans (Hs.tl _)) | exact Hs.sub (by repeat (first | exact List.Sublist.refl _ | apply List.Sublist.cons))) ⟨?_, rfl⟩)
  rfl
end Go.Proofs.YtfddkcmooommeaaGreatDoor.Gl
end
section
namespace Go.Proofs.YtfddkcmooommeaaGreatDoor.Gl
open Go.RowKit Go.Shelf
set_option linter.unusedVariables false
set_option linter.unnecessarySimpa false
set_option linter.unusedSimpArgs false
attribute [-simp] List.getD_eq_getElem?_getD
def idxN (xs : List ByteArray) (s : ByteArray) : Option Nat := xs.findIdx? (fun x => s.toList == x.toList)
def idxB (xs : List ByteArray) (s : ByteArray) : Int := match idxN xs s with
 | some n => (n : Nat)
 | none => -1
theorem idxB_of {xs : List ByteArray} {s x : ByteArray} {i : Nat} (h0 : (xs.take i).any (fun x => s.toList == x.toList) = false) (hx : xs[i]? = some x) (he : (s.toList == x.toList) = true) : idxB xs s = (i : Nat) := by
 have hi := (List.getElem?_eq_some_iff.1 hx).1
 have : idxN xs s = some i := by
  unfold idxN
  rw [List.findIdx?_eq_some_iff_getElem]
  refine ⟨hi, ?_, fun j hj => ?_⟩
  ·rw [List.getElem?_eq_getElem hi] at hx
   rw [Option.some.inj hx]; exact he
  ·rw [List.any_eq_false] at h0
   exact h0 _ (List.mem_of_getElem? (i := j) (by rw [List.getElem?_take_of_lt hj, List.getElem?_eq_getElem (by omega)]))
 unfold idxB
 rw [this]
theorem idxB_no {xs : List ByteArray} {s : ByteArray} (h0 : xs.any (fun x => s.toList == x.toList) = false) : idxB xs s = -1 := by
 have : idxN xs s = none := by
  unfold idxN
  rw [List.findIdx?_eq_none_iff]
  intro x hx
  rw [List.any_eq_false] at h0
  have := h0 x hx
  simpa using this
 unfold idxB
 rw [this]
theorem idxB_in (xs : List ByteArray) (s : ByteArray) : decide (idxB xs s ≥ 0) = inB xs s := by
 unfold idxB inB
 cases e : idxN xs s with
 | some n =>
  unfold idxN at e
  obtain ⟨hn, h1, _⟩ := List.findIdx?_eq_some_iff_getElem.1 e
  have : xs.any (eqB s) = true := List.any_eq_true.2 ⟨_, List.getElem_mem hn, by unfold eqB; rw [toList_beq] at h1 ⊢; rw [beq_iff_eq] at h1 ⊢; exact h1.symm⟩
  rw [this]
  simp
 | none =>
  unfold idxN at e
  rw [List.findIdx?_eq_none_iff] at e
  have : xs.any (eqB s) = false := by
   rw [List.any_eq_false]
   intro x hx
   have h1 := e x hx
   unfold eqB
   rw [toList_beq] at h1 ⊢
   simp only [beq_eq_false_iff_ne, ne_eq, beq_iff_eq] at h1 ⊢
   exact fun e => h1 e.symm
  rw [this]
  simp
theorem str_load {w0 : World} {G : Hp} {A : Option Addr} {xs : List ByteArray} {i : Nat} {x : ByteArray} (h : StAt w0 G A xs) (hx : xs[i]? = some x) : ∃ b o, A = some ⟨b, o, none⟩ ∧ Rd w0 G b (o + i * 1) (.string x) := by
 obtain ⟨b, o, cs, hA, rfl, h3⟩ := h i x hx
 exact ⟨b, o, hA, h3 0 _ rfl⟩
def slotsR (r : Rl) : List Sl := (placesL r).map (·.2)
theorem slots_from : ∀ (n : Nat) (ls : List Lt), (plFrom n ls).map (·.2) = ls.flatMap slotsOf
 | n, [] => rfl
 | n, l :: ls => by
  simp only [plFrom, List.map_append, List.map_map, List.flatMap_cons, slots_from (n + 1) ls]
  congr 1
  have : ((fun p : Int × Sl => p.2) ∘ fun s => ((n : Int), s)) = id := rfl
  rw [this, List.map_id]
theorem slotsR_eq (r : Rl) : slotsR r = allSlots r := by
 unfold slotsR placesL allSlots allTake
 rw [List.map_append, slots_from, List.take_length]
 rfl
theorem placesL_le (r : Rl) : (placesL r).length ≤ 3 + r.body.length * 3 := by
 have h : (placesL r).length = (allSlots r).length := by rw [← slotsR_eq]; unfold slotsR; rw [List.length_map]
 have := allTake_len r r.body.length
 unfold allSlots at h
 omega
theorem StAt.mono {w0 : World} {G G' : Hp} {A : Option Addr} {xs : List ByteArray} (h : StAt w0 G A xs) (hs : ∀ y ∈ G, y ∈ G') : StAt w0 G' A xs := fun i x hx => by obtain ⟨b, o, cs, h1, h2, h3⟩ := h i x hx; exact ⟨b, o, cs, h1, h2, h3.mono hs⟩
def varsTo (r : Rl) (j : Nat) : List ByteArray := dd ((slotsR r).take j)
theorem varsTo_succ {r : Rl} {j : Nat} {i : Int} {s : Sl} (h : (placesL r)[j]? = some (i, s)) : varsTo r (j + 1) = ddStep (varsTo r j) s := dd_succ (by unfold slotsR; rw [List.getElem?_map, h]; rfl)
theorem varsTo_yes {r : Rl} {j : Nat} {i : Int} {s : Sl} {v : Value} {H : Hp} (h : (placesL r)[j]? = some (i, s)) (h1 : emp s.v = false) (h2 : inB (varsTo r j) s.v = false) (hS : SlAt 1 9 ((varsTo r j).map Value.string ++ [.string s.v]) ((varsTo r j).length + 1) v H) :
  SlAt 1 9 ((varsTo r (j + 1)).map Value.string) (varsTo r (j + 1)).length v H := by rw [varsTo_succ h, ddStep_yes h1 h2]; exact hS.snoc
theorem varsTo_no1 {r : Rl} {j : Nat} {i : Int} {s : Sl} {v : Value} {H : Hp} (h : (placesL r)[j]? = some (i, s)) (h1 : emp s.v = true) (hS : SlAt 1 9 ((varsTo r j).map Value.string) (varsTo r j).length v H) :
  SlAt 1 9 ((varsTo r (j + 1)).map Value.string) (varsTo r (j + 1)).length v H := by rw [varsTo_succ h, ddStep_no1 h1]; exact hS
theorem varsTo_no2 {r : Rl} {j : Nat} {i : Int} {s : Sl} {v : Value} {H : Hp} (h : (placesL r)[j]? = some (i, s)) (h2 : inB (varsTo r j) s.v = true) (hS : SlAt 1 9 ((varsTo r j).map Value.string) (varsTo r j).length v H) :
  SlAt 1 9 ((varsTo r (j + 1)).map Value.string) (varsTo r (j + 1)).length v H := by rw [varsTo_succ h, ddStep_no2 h2]; exact hS
theorem dd_take_le (q : List Sl) (j : Nat) : (dd (q.take j)).length ≤ j := by
 have := dd_len (q.take j)
 rw [List.length_take] at this
 omega
theorem sl_Index (w0 : World) (G : Hp) (A : Option Addr) (xs : List ByteArray) (c : Nat) (s : ByteArray) (hx : StAt w0 G A xs) (hm : xs.length ≤ 100000000) : GC Tryz.prog w0 86 #[.slice A xs.length c, .string s] (fun v G' => v = .int .i64 (idxB xs s) ∧ G = G') G := by
 refine GC.body (args := [.slice A xs.length c, .string s]) Tryz.func86 rfl (by kernel_rfl) rfl ?_
 refine GW.seq ?_
 refine GW.region ?_
 refine R.assign ⟨rfl, rfl, rfl, rfl⟩ rfl ?_
 refine GOps.nil ?_
 refine GW.seq ?_
 refine GW.seq ?_
 refine GW.region ?_
 refine R.move ⟨rfl, rfl, rfl, rfl⟩ rfl ?_
 refine R.lenS ⟨rfl, rfl, rfl, rfl⟩ rfl rfl Tryz.underlying61 ?_
 refine R.move ⟨rfl, rfl, rfl, rfl⟩ rfl ?_
 refine GOps.nil ?_
 refine GW.block ?_
 refine GW.loopI (fun i : Nat => [(0, .slice A xs.length c), (1, .string s), (7, .int .i64 xs.length), (8, .int .i64 i)]) (fun i => G) (fun i => xs.length - i) (fun i => i ≤ xs.length ∧ (xs.take i).any (fun x => s.toList == x.toList) = false) 0
  (by repeat (first | exact Keeps.nil _ | refine Keeps.cons rfl ?_)) (Hs.refl _) (⟨by omega, by simp⟩) ?_
 rintro i ⟨hi, h0⟩
 refine GW.seq ?_
 refine GW.region ?_
 refine R.lss ⟨rfl, rfl, rfl, rfl⟩ rfl rfl ?_
 refine GOps.nil ?_
 refine GW.seq ?_
 refine GW.ite rfl (fun hc1 => ?_) (fun hc1 => ?_)
 ·try simp only [dcQ] at hc1
  obtain ⟨x, hxi⟩ : ∃ x, xs[i]? = some x := ⟨_, List.getElem?_eq_getElem (by omega)⟩
  obtain ⟨xb, xo, rfl, hrd⟩ := str_load hx hxi
  refine GW.skip ?_
  refine GW.seq ?_
  refine GW.block ?_
  refine GW.seq ?_
  refine GW.region ?_
  refine R.move ⟨rfl, rfl, rfl, rfl⟩ rfl ?_
  refine R.assign ⟨rfl, rfl, rfl, rfl⟩ rfl ?_
  refine GOps.nil ?_
  refine GW.seq ?_
  refine GW.region ?_
  refine R.move ⟨rfl, rfl, rfl, rfl⟩ rfl ?_
  refine R.move ⟨rfl, rfl, rfl, rfl⟩ rfl ?_
  refine R.move ⟨rfl, rfl, rfl, rfl⟩ rfl ?_
  refine R.indexAddrS ⟨rfl, rfl, rfl, rfl⟩ rfl rfl Tryz.underlying61 Tryz.sizeOf9 (by omega) (by omega) ?_
  refine R.load1 ⟨rfl, rfl, rfl, rfl⟩ rfl Tryz.underlying9 rfl (hrd) ?_
  refine R.eqS ⟨rfl, rfl, rfl, rfl⟩ rfl rfl ?_
  refine GOps.nil ?_
  refine GW.ite rfl (fun hc2 => ?_) (fun hc2 => ?_)
  ·try simp only [dcQ] at hc2
   refine GW.seq ?_
   refine GW.region ?_
   refine R.move ⟨rfl, rfl, rfl, rfl⟩ rfl ?_
   refine R.assign ⟨rfl, rfl, rfl, rfl⟩ rfl ?_
   refine GOps.nil ?_
   refine GW.ret (Out.of (Res.one rfl rfl) (by first | exact Hs.refl _ | exact Hs.tl _ | exact Hs.tl2 _ _ | exact Hs.tl3 _ _ _ | exact (Hs.app _).trans (Hs.tl _) | exact (Hs.app _).trans ((Hs.app _).trans (Hs.tl _)) | exact Hs.sub (by repeat (first | exact List.Sublist.refl _ | apply List.Sublist.cons))) ⟨?_, rfl⟩)
   first | rw [idxB_of h0 hxi (by assumption)] | rw [idxB_no (by rwa [List.take_of_length_le (by omega)] at h0)]
  ·try simp only [dcQ] at hc2
   refine GW.skip ?_
   refine GW.region ?_
   refine R.add (r := (((i + 1) : Nat) : Int)) ⟨rfl, rfl, rfl, rfl⟩ rfl rfl (by rw [wrap64_id (by omega) (by omega)]; omega) ?_
   refine R.move ⟨rfl, rfl, rfl, rfl⟩ rfl ?_
   refine GOps.nil ?_
   exact ⟨i + 1, by omega, ⟨by omega, any_take_succ _ xs i x hxi h0 (by assumption)⟩, rfl, by repeat (first | exact Keeps.nil _ | refine Keeps.cons rfl ?_), by first | exact Hs.refl _ | exact Hs.tl _ | exact Hs.tl2 _ _⟩
 ·try simp only [dcQ] at hc1
  refine GW.exit ?_
  refine GW.seq ?_
  refine GW.region ?_
  refine R.assign ⟨rfl, rfl, rfl, rfl⟩ rfl ?_
  refine GOps.nil ?_
  refine GW.ret (Out.of (Res.one rfl rfl) (by first | exact Hs.refl _ | exact Hs.tl _ | exact Hs.tl2 _ _ | exact Hs.tl3 _ _ _ | exact (Hs.app _).trans (Hs.tl _) | exact (Hs.app _).trans ((Hs.app _).trans (Hs.tl _)) | exact Hs.sub (by repeat (first | exact List.Sublist.refl _ | apply List.Sublist.cons))) ⟨?_, rfl⟩)
  first | rw [idxB_of h0 hxi (by assumption)] | rw [idxB_no (by rwa [List.take_of_length_le (by omega)] at h0)]
theorem sl_Contains (w0 : World) (G : Hp) (A : Option Addr) (xs : List ByteArray) (c : Nat) (s : ByteArray) (hx : StAt w0 G A xs) (hm : xs.length ≤ 100000000) : GC Tryz.prog w0 76 #[.slice A xs.length c, .string s] (fun v G' => v = .bool (inB xs s) ∧ G = G') G := by
 refine GC.body (args := [.slice A xs.length c, .string s]) Tryz.func76 rfl (by kernel_rfl) rfl ?_
 refine GW.seq ?_
 refine GW.region ?_
 refine R.assign ⟨rfl, rfl, rfl, rfl⟩ rfl ?_
 refine GOps.nil ?_
 refine GW.seq ?_
 refine GW.region ?_
 refine R.move ⟨rfl, rfl, rfl, rfl⟩ rfl ?_
 refine R.move ⟨rfl, rfl, rfl, rfl⟩ rfl ?_
 refine R.call ⟨rfl, rfl, rfl, rfl⟩ rfl (vs := [_, _]) rfl ((sl_Index _ _ A xs c s hx hm).mono ?_)
 rintro _ _ ⟨rfl, rfl⟩
 refine R.geq ⟨rfl, rfl, rfl, rfl⟩ rfl rfl ?_
 refine R.assign ⟨rfl, rfl, rfl, rfl⟩ rfl ?_
 refine GOps.nil ?_
 refine GW.ret (Out.of (Res.one rfl rfl) (by first | exact Hs.refl _ | exact Hs.tl _ | exact Hs.tl2 _ _ | exact Hs.tl3 _ _ _ | exact (Hs.app _).trans (Hs.tl _) | exact (Hs.app _).trans ((Hs.app _).trans (Hs.tl _)) | exact Hs.sub (by repeat (first | exact List.Sublist.refl _ | apply List.Sublist.cons))) ⟨?_, rfl⟩)
 rw [idxB_in]
theorem check_Vars (w0 : World) (G : Hp) (r : Rl) (A : Option Addr) (c : Nat) (hl : LtsAt w0 G A r.body) (hm : r.body.length ≤ 100000) : GC Tryz.prog w0 54 #[.agg (RlC r.head (.slice A r.body.length c)).toArray] (fun v G' => ∃ H, SlAt 1 9 ((dd (allSlots r)).map Value.string) (dd (allSlots r)).length v H ∧ H ++ G = G') G := by
 refine GC.body (args := [.agg (RlC r.head (.slice A r.body.length c)).toArray]) Tryz.func54 rfl (by kernel_rfl) rfl ?_
 refine GW.seq ?_
 refine GW.region ?_
 refine R.box ⟨rfl, rfl, rfl, rfl⟩ rfl fun b1 => ?_
 refine R.assign ⟨rfl, rfl, rfl, rfl⟩ rfl ?_
 refine GOps.nil ?_
 refine GW.seq ?_
 refine GW.region ?_
 refine R.alloc ⟨rfl, rfl, rfl, rfl⟩ Tryz.zeroValue61 fun b3 => ?_
 refine GOps.nil ?_
 refine GW.seq ?_
 refine GW.seq ?_
 refine GW.region ?_
 refine R.load_own (cs := RlC r.head (.slice A r.body.length c)) ⟨rfl, rfl, rfl, rfl⟩ rfl Tryz.underlying31 rfl Tryz.sizeOf31 memG (by rfl) (by rfl) ?_
 refine R.call ⟨rfl, rfl, rfl, rfl⟩ rfl (vs := [_]) rfl ((check_places _ _ r A c).mono ?_)
 rintro _ _ ⟨bP, rfl, rfl⟩
 refine GOps.nil ?_
 refine GW.block ?_
 refine GW.rangeFunc rfl fun D0 l0 r0 hp0 ha0 hb0 hfr0 => ?_
 refine GC.mono (places1 w0 l0 bP r A c (fun x : Value × Hp => (l0, lrec r0 .ready none) :: (D0, .exact (.deferred (some []))) :: (bP, .exact (.cells (RlC r.head (.slice A r.body.length c)).toArray 31 (0, 0))) :: (b3, .exact (.cells #[x.1] 61 (0, 0))) :: (b1, .exact (.cells (RlC r.head (.slice A r.body.length c)).toArray 31 (0, 0))) :: x.2) (fun j x => SlAt 1 9 ((varsTo r j).map Value.string) (varsTo r j).length x.1 x.2) (fun _ => False) G (.slice none 0 0, []) (by omega) (fun x => .own (by repeat (first | exact List.mem_cons_self | apply List.mem_cons_of_mem | apply List.mem_append_right | exact List.mem_append_left _ List.mem_cons_self)) 0 _ (fun j v hv => by simpa using hv)) hl (.nil rfl rfl) ?_) ?_
 ·intro F' j x i s hF hI hn; obtain ⟨va, Ho⟩ := x; simp only at hI; have hjl : (varsTo r j).length ≤ j := dd_take_le (slotsR r) j; have hjn := (List.getElem?_eq_some_iff.1 hn).1; have hpl := placesL_le r; show GY _ _ _ _ _ ((l0, lrec r0 .ready none) :: (D0, .exact (.deferred (some []))) :: (bP, .exact (.cells (RlC r.head (.slice A r.body.length c)).toArray 31 (0, 0))) :: (b3, .exact (.cells #[va] 61 (0, 0))) :: (b1, .exact (.cells (RlC r.head (.slice A r.body.length c)).toArray 31 (0, 0))) :: (Ho ++ F'))
  refine GY.intro hfr0 (by rw [hp0]; rfl) (by rw [hp0]; rfl) ?_
  rw [hp0, ha0, hb0]
  refine GW.region ?_
  refine R.alloc ⟨rfl, rfl, rfl, rfl⟩ Tryz.zeroValue26 fun b5 => ?_
  refine R.storeAll (G1 := []) rfl rfl rfl rfl rfl Tryz.sizeOf26 rfl rfl rfl rfl ?_
  refine GOps.nil ?_
  refine ⟨_, Hs.perm (List.Perm.swap _ _ _), ?_⟩
  refine GW.block ?_
  refine GW.seq ?_
  refine GW.region ?_
  refine R.fieldAddr ⟨rfl, rfl, rfl, rfl⟩ rfl Tryz.underlying26 rfl Tryz.sizeOf9 ?_   -- "Var"
  refine R.load1 ⟨rfl, rfl, rfl, rfl⟩ rfl Tryz.underlying9 rfl (.own' memG (by rfl)) ?_
  refine R.neS ⟨rfl, rfl, rfl, rfl⟩ rfl rfl ?_
  refine R.move ⟨rfl, rfl, rfl, rfl⟩ rfl ?_
  refine GOps.caseB 13 rfl (fun hg1 => ?_) (fun hg1 => ?_)
  ·try simp only [dcQ] at hg1
   refine R.load1 ⟨rfl, rfl, rfl, rfl⟩ rfl Tryz.underlying61 rfl (.own' memG (by rfl)) ?_
   refine R.fieldAddr ⟨rfl, rfl, rfl, rfl⟩ rfl Tryz.underlying26 rfl Tryz.sizeOf9 ?_   -- "Var"
   refine R.load1 ⟨rfl, rfl, rfl, rfl⟩ rfl Tryz.underlying9 rfl (.own' memG (by rfl)) ?_
   obtain ⟨Ao, co, rfl, hSt⟩ := hI.strs w0 F'
   refine R.call ⟨rfl, rfl, rfl, rfl⟩ rfl (vs := [_, _]) rfl ((sl_Contains _ _ Ao (varsTo r j) co s.v (StAt.mono hSt (fun y hy => by repeat (first | exact hy | apply List.mem_cons_of_mem))) (by omega)).mono ?_)
   rintro _ _ ⟨rfl, rfl⟩
   refine R.not ⟨rfl, rfl, rfl, rfl⟩ rfl ?_
   refine R.pick_t ⟨rfl, rfl, rfl, rfl⟩ rfl rfl ?_
   refine GOps.nil ?_
   refine GW.ite rfl (fun hc2 => ?_) (fun hc2 => ?_)
   ·try simp only [dcQ] at hc2
    refine GW.region ?_
    refine R.load1 ⟨rfl, rfl, rfl, rfl⟩ rfl Tryz.underlying61 rfl (.own' memG (by rfl)) ?_
    refine R.fieldAddr ⟨rfl, rfl, rfl, rfl⟩ rfl Tryz.underlying26 rfl Tryz.sizeOf9 ?_   -- "Var"
    refine R.load1 ⟨rfl, rfl, rfl, rfl⟩ rfl Tryz.underlying9 rfl (.own' memG (by rfl)) ?_
    refine R.buildSliceF (sz := 1) (bytes := 16) (vs := [_]) (cs := [.string s.v]) ⟨rfl, rfl, rfl, rfl⟩ rfl Tryz.underlying61 (InfoE.mk (by kernel_rfl)) rfl rfl rfl rfl rfl fun b23 => ?_
    refine R.append (sz := 1) (bytes := 16) (G1 := [_, _, _, _, _, _, _]) (H := Ho) (news := [.string s.v]) ⟨rfl, rfl, rfl, rfl⟩ rfl rfl rfl Tryz.underlying61 (InfoE.mk (by kernel_rfl)) (hI) (rfl) (rfl) (.own (by repeat (first | exact List.mem_cons_self | apply List.mem_cons_of_mem | apply List.mem_append_right | exact List.mem_append_left _ List.mem_cons_self)) 0 _ (fun j v hv => by simpa using hv)) (by omega) (by rfl) (by omega) (by omega) fun v24 H24 hv24 => ?_
    obtain ⟨A24, c24, rfl, hc24⟩ := hv24.split
    refine R.storeAll (G1 := [_, _, _, _, _]) rfl rfl rfl rfl rfl Tryz.sizeOf61 rfl rfl rfl rfl ?_
    refine GOps.nil ?_
    first | exact ⟨_, Hs.sub (by repeat (first | exact List.Sublist.refl _ | apply List.Sublist.cons_cons | apply List.Sublist.cons)), .inl ⟨rfl, (.slice A24 _ c24, H24), varsTo_yes hn (by assumption) (by assumption) hv24, rfl⟩⟩ | exact ⟨_, Hs.sub (by repeat (first | exact List.Sublist.refl _ | apply List.Sublist.cons_cons | apply List.Sublist.cons)), .inl ⟨rfl, (_, Ho), varsTo_no1 hn (by assumption) hI, rfl⟩⟩ | exact ⟨_, Hs.sub (by repeat (first | exact List.Sublist.refl _ | apply List.Sublist.cons_cons | apply List.Sublist.cons)), .inl ⟨rfl, (_, Ho), varsTo_no2 hn (by assumption) hI, rfl⟩⟩
   ·try simp only [dcQ] at hc2
    refine GW.skip ?_
    first | exact ⟨_, Hs.sub (by repeat (first | exact List.Sublist.refl _ | apply List.Sublist.cons_cons | apply List.Sublist.cons)), .inl ⟨rfl, (.slice A24 _ c24, H24), varsTo_yes hn (by assumption) (by assumption) hv24, rfl⟩⟩ | exact ⟨_, Hs.sub (by repeat (first | exact List.Sublist.refl _ | apply List.Sublist.cons_cons | apply List.Sublist.cons)), .inl ⟨rfl, (_, Ho), varsTo_no1 hn (by assumption) hI, rfl⟩⟩ | exact ⟨_, Hs.sub (by repeat (first | exact List.Sublist.refl _ | apply List.Sublist.cons_cons | apply List.Sublist.cons)), .inl ⟨rfl, (_, Ho), varsTo_no2 hn (by assumption) hI, rfl⟩⟩
  ·try simp only [dcQ] at hg1
   refine GOps.skip rfl rfl rfl ?_
   refine GOps.skip rfl rfl rfl ?_
   refine GOps.skip rfl rfl rfl ?_
   refine GOps.skip rfl rfl rfl ?_
   refine GOps.skip rfl rfl rfl ?_
   refine R.pick_f ⟨rfl, rfl, rfl, rfl⟩ rfl rfl ?_
   refine GOps.nil ?_
   refine GW.cond_f rfl ?_
   refine GW.skip ?_
   first | exact ⟨_, Hs.sub (by repeat (first | exact List.Sublist.refl _ | apply List.Sublist.cons_cons | apply List.Sublist.cons)), .inl ⟨rfl, (.slice A24 _ c24, H24), varsTo_yes hn (by assumption) (by assumption) hv24, rfl⟩⟩ | exact ⟨_, Hs.sub (by repeat (first | exact List.Sublist.refl _ | apply List.Sublist.cons_cons | apply List.Sublist.cons)), .inl ⟨rfl, (_, Ho), varsTo_no1 hn (by assumption) hI, rfl⟩⟩ | exact ⟨_, Hs.sub (by repeat (first | exact List.Sublist.refl _ | apply List.Sublist.cons_cons | apply List.Sublist.cons)), .inl ⟨rfl, (_, Ho), varsTo_no2 hn (by assumption) hI, rfl⟩⟩
 ·rintro _ _ (⟨x, F', hI, hF, rfl⟩ | hF)
  ·obtain ⟨va, Ho⟩ := x
   refine ⟨.ready, none, _, by simp, Hs.refl _, ?_⟩
   show GW _ _ _ _ _ ((D0, .exact (.deferred (some []))) :: (bP, .exact (.cells (RlC r.head (.slice A r.body.length c)).toArray 31 (0, 0))) :: (b3, .exact (.cells #[va] 61 (0, 0))) :: (b1, .exact (.cells (RlC r.head (.slice A r.body.length c)).toArray 31 (0, 0))) :: (Ho ++ F'))
   refine GW.seq ?_
   refine GW.region ?_
   refine R.load1 ⟨rfl, rfl, rfl, rfl⟩ rfl Tryz.underlying61 rfl (.own' memG (by rfl)) ?_
   refine R.assign ⟨rfl, rfl, rfl, rfl⟩ rfl ?_
   refine GOps.nil ?_
   rw [show varsTo r (placesL r).length = dd (allSlots r) by unfold varsTo; rw [List.take_of_length_le (by unfold slotsR; rw [List.length_map]; exact Nat.le_refl _), slotsR_eq]] at hI
   exact GW.ret (Out.of1 (Res.one rfl rfl) ((Hs.tl3 _ _ _).trans (hF.2 Ho)) ⟨Ho, hI, rfl⟩)
  ·exact hF.elim
end Go.Proofs.YtfddkcmooommeaaGreatDoor.Gl
end
section
namespace Go.Proofs.YtfddkcmooommeaaGreatDoor.Gl
open Go.RowKit Go.Shelf
set_option linter.unusedVariables false
set_option linter.unnecessarySimpa false
set_option linter.unusedSimpArgs false
attribute [-simp] List.getD_eq_getElem?_getD
structure Pl where
 var : Int
 id : Nat
structure Rw where
 p0 : Pl
 p1 : Pl
 p2 : Pl
structure St where
 kind : Int
 row : Rw
 a : Pl
 b : Pl
def PlC (p : Pl) : List Value := [.int .i64 p.var, .int .u32 (p.id : Nat)]
def RwC (r : Rw) : List Value := [.int .i64 r.p0.var, .int .u32 (r.p0.id : Nat), .int .i64 r.p1.var, .int .u32 (r.p1.id : Nat), .int .i64 r.p2.var, .int .u32 (r.p2.id : Nat)]
def StC (s : St) : List Value := [.int .i64 s.kind, .int .i64 s.row.p0.var, .int .u32 (s.row.p0.id : Nat), .int .i64 s.row.p1.var, .int .u32 (s.row.p1.id : Nat), .int .i64 s.row.p2.var, .int .u32 (s.row.p2.id : Nat), .int .i64 s.a.var, .int .u32 (s.a.id : Nat), .int .i64 s.b.var, .int .u32 (s.b.id : Nat)]
def zPl : Pl := ⟨0, 0⟩
def zRw : Rw := ⟨zPl, zPl, zPl⟩
abbrev mkC (bD : Nat) (A : Option Addr) (n c : Nat) (bad : Int) : Know := .exact (.cells #[.pointer (some ⟨bD, 0, none⟩), .slice A n c, .int .i64 bad] 97 (0, 0))
def placeF (lim : Nat) (vars : List ByteArray) (q : List Tm × Int) (s : Sl) : Pl × (List Tm × Int) :=
 bif emp s.v then (⟨-1, (internF lim q.1 s.t).1⟩, ((internF lim q.1 s.t).2.2, if q.2 = 0 then (internF lim q.1 s.t).2.1 else q.2)) else (⟨idxB vars s.v, 0⟩, q)
theorem placeF_var {lim : Nat} {vars : List ByteArray} {q : List Tm × Int} {s : Sl} (h : emp s.v = false) : placeF lim vars q s = (⟨idxB vars s.v, 0⟩, q) := by unfold placeF; rw [h]; rfl
theorem placeF_t0 {lim : Nat} {vars : List ByteArray} {q : List Tm × Int} {s : Sl} (h : emp s.v = true) (hb : q.2 = 0) : placeF lim vars q s = (⟨-1, (internF lim q.1 s.t).1⟩, ((internF lim q.1 s.t).2.2, (internF lim q.1 s.t).2.1)) := by unfold placeF; rw [h, if_pos hb]; rfl
theorem placeF_t1 {lim : Nat} {vars : List ByteArray} {q : List Tm × Int} {s : Sl} (h : emp s.v = true) (hb : ¬ q.2 = 0) : placeF lim vars q s = (⟨-1, (internF lim q.1 s.t).1⟩, ((internF lim q.1 s.t).2.2, q.2)) := by unfold placeF; rw [h, if_neg hb]; rfl
def rowStep (lim : Nat) (vars : List ByteArray) (a : List Pl × (List Tm × Int)) (s : Sl) : List Pl × (List Tm × Int) := (a.1 ++ [(placeF lim vars a.2 s).1], (placeF lim vars a.2 s).2)
def sl3 (p : Pt) : List Sl := [p.s0, p.s1, p.s2]
def rowTo (lim : Nat) (vars : List ByteArray) (q : List Tm × Int) (p : Pt) (k : Nat) : List Pl × (List Tm × Int) := ((sl3 p).take k).foldl (rowStep lim vars) ([], q)
theorem rowTo_succ {lim : Nat} {vars : List ByteArray} {q : List Tm × Int} {p : Pt} {k : Nat} {s : Sl} (h : (sl3 p)[k]? = some s) : rowTo lim vars q p (k + 1) = rowStep lim vars (rowTo lim vars q p k) s := by
 unfold rowTo
 rw [List.take_add_one, h, List.foldl_append]
 rfl
def rowF (lim : Nat) (vars : List ByteArray) (q : List Tm × Int) (p : Pt) : Rw × (List Tm × Int) :=
 (⟨(placeF lim vars q p.s0).1, (placeF lim vars (placeF lim vars q p.s0).2 p.s1).1, (placeF lim vars (placeF lim vars (placeF lim vars q p.s0).2 p.s1).2 p.s2).1⟩, (placeF lim vars (placeF lim vars (placeF lim vars q p.s0).2 p.s1).2 p.s2).2)
theorem rowTo_3 (lim : Nat) (vars : List ByteArray) (q : List Tm × Int) (p : Pt) : rowTo lim vars q p 3 = ([(rowF lim vars q p).1.p0, (rowF lim vars q p).1.p1, (rowF lim vars q p).1.p2], (rowF lim vars q p).2) := rfl
def stepF (lim : Nat) (vars : List ByteArray) (q : List Tm × Int) (l : Lt) : St × (List Tm × Int) :=
 if l.kind = 1 then (⟨1, (rowF lim vars q l.pat).1, zPl, zPl⟩, (rowF lim vars q l.pat).2)
 else if l.kind = 2 then (⟨2, (rowF lim vars q l.pat).1, zPl, zPl⟩, (rowF lim vars q l.pat).2)
 else (⟨if l.kind = 3 then 3 else 4, zRw, (placeF lim vars q l.a).1, (placeF lim vars (placeF lim vars q l.a).2 l.b).1⟩, (placeF lim vars (placeF lim vars q l.a).2 l.b).2)
def padC : List Pl → Array Value
 | [] => #[.int .i64 0, .int .u32 0, .int .i64 0, .int .u32 0, .int .i64 0, .int .u32 0]
 | [x] => #[.int .i64 x.var, .int .u32 (x.id : Nat), .int .i64 0, .int .u32 0, .int .i64 0, .int .u32 0]
 | [x, y] => #[.int .i64 x.var, .int .u32 (x.id : Nat), .int .i64 y.var, .int .u32 (y.id : Nat), .int .i64 0, .int .u32 0]
 | x :: y :: z :: _ => #[.int .i64 x.var, .int .u32 (x.id : Nat), .int .i64 y.var, .int .u32 (y.id : Nat), .int .i64 z.var, .int .u32 (z.id : Nat)]
theorem pad_put {out : List Pl} {k : Nat} (p : Pl) (h : out.length = k) (h3 : k < 3) : splice (padC out) (0 + (k : Int).toNat * 2) (Value.agg (PlC p).toArray).cells.toList = padC (out ++ [p]) := by
 subst h
 rcases out with _ | ⟨x, _ | ⟨y, _ | ⟨z, l⟩⟩⟩
 ·rfl
 ·rfl
 ·rfl
 ·simp at h3; omega
theorem pad_size (out : List Pl) : (padC out).size = 6 := by
 rcases out with _ | ⟨x, _ | ⟨y, _ | ⟨z, l⟩⟩⟩ <;> rfl
theorem pt_index {p : Pt} {k : Nat} (h : k < 3) : ∃ s, (sl3 p)[k]? = some s ∧ s ∈ sl3 p ∧ ((PtC p).toArray.extract (k * 4) (k * 4 + 4)) = (SlC s).toArray := by
 rcases k with _ | _ | _ | k
 ·exact ⟨p.s0, rfl, by simp [sl3], rfl⟩
 ·exact ⟨p.s1, rfl, by simp [sl3], rfl⟩
 ·exact ⟨p.s2, rfl, by simp [sl3], rfl⟩
 ·omega
theorem Hs.mid3 (x y z : Nat × Know) (H G : Hp) : Hs (x :: y :: z :: (H ++ G)) (x :: y :: z :: G) := Hs.sub (((((List.sublist_append_right H G).cons_cons z).cons_cons y).cons_cons x))
theorem pm1 (x : Nat × Know) (H G : Hp) : (H ++ x :: G).Perm (x :: (H ++ G)) := List.perm_middle
theorem pm2 (x y : Nat × Know) (H G : Hp) : (H ++ x :: y :: G).Perm (x :: y :: (H ++ G)) := (pm1 x H _).trans ((pm1 y H G).cons x)
theorem pm3 (x y z : Nat × Know) (H G : Hp) : (H ++ x :: y :: z :: G).Perm (x :: y :: z :: (H ++ G)) := (pm1 x H _).trans ((pm2 y z H G).cons x)
theorem Hs.toD3 (x y z : Nat × Know) (H G : Hp) : Hs (x :: y :: z :: (H ++ G)) (H ++ (x :: y :: z :: G)) := Hs.perm (pm3 x y z H G)
theorem Hs.fromD3 (x y z : Nat × Know) (H G : Hp) : Hs (H ++ (x :: y :: z :: G)) (x :: y :: z :: (H ++ G)) := Hs.perm (pm3 x y z H G).symm
theorem Hs.toM2 (x y m : Nat × Know) (H G : Hp) : Hs (x :: y :: m :: (H ++ G)) (m :: (H ++ (x :: y :: G))) := Hs.perm (((pm2 x y H G).cons m).trans ((List.Perm.swap x m _).trans ((List.Perm.swap y m _).cons x)))
theorem Hs.fromM2 (x y m : Nat × Know) (H G : Hp) : Hs (m :: (H ++ (x :: y :: G))) (x :: y :: m :: (H ++ G)) := Hs.perm (((pm2 x y H G).cons m).trans ((List.Perm.swap x m _).trans ((List.Perm.swap y m _).cons x))).symm
theorem Hs.toM3 (x y z m : Nat × Know) (H G : Hp) : Hs (x :: y :: z :: m :: (H ++ G)) (m :: (H ++ (x :: y :: z :: G))) := Hs.perm (((pm3 x y z H G).cons m).trans ((List.Perm.swap x m _).trans (((List.Perm.swap y m _).trans ((List.Perm.swap z m _).cons y)).cons x)))
theorem Hs.fromM3 (x y z m : Nat × Know) (H G : Hp) : Hs (m :: (H ++ (x :: y :: z :: G))) (x :: y :: z :: m :: (H ++ G)) := Hs.perm (((pm3 x y z H G).cons m).trans ((List.Perm.swap x m _).trans (((List.Perm.swap y m _).trans ((List.Perm.swap z m _).cons y)).cons x))).symm
theorem plan_place (w0 : World) (G : Hp) (HD : Hp) (ts : List Tm) (lim bD bM c : Nat) (A : Option Addr) (vars : List ByteArray) (bad : Int) (hD : Dic ts lim bD HD) (hv : StAt w0 G A vars) (hm : vars.length ≤ 100000000) (s : Sl) (hs : emp s.v = true → mayT s.t = true) : GC Tryz.prog w0 55 #[.pointer (some ⟨bM, 0, none⟩), .agg (SlC s).toArray] (fun v G' => ∃ HD', (v = .agg (PlC (placeF lim vars (ts, bad) s).1).toArray ∧ Dic (placeF lim vars (ts, bad) s).2.1 lim bD HD') ∧ (bM, mkC bD A vars.length c (placeF lim vars (ts, bad) s).2.2) :: (HD' ++ G) = G') ((bM, mkC bD A vars.length c bad) :: (HD ++ G)) := by
 refine GC.body (args := [.pointer (some ⟨bM, 0, none⟩), .agg (SlC s).toArray]) Tryz.func55 rfl (by kernel_rfl) rfl ?_
 refine GW.seq ?_
 refine GW.region ?_
 refine R.box ⟨rfl, rfl, rfl, rfl⟩ rfl fun b3 => ?_
 refine R.alloc ⟨rfl, rfl, rfl, rfl⟩ Tryz.zeroValue37 fun b4 => ?_
 refine GOps.nil ?_
 refine GW.seq ?_
 refine GW.seq ?_
 refine GW.region ?_
 refine R.fieldAddr ⟨rfl, rfl, rfl, rfl⟩ rfl Tryz.underlying26 rfl Tryz.sizeOf9 ?_   -- "Var"
 refine R.load1 ⟨rfl, rfl, rfl, rfl⟩ rfl Tryz.underlying9 rfl (.own' memG (by rfl)) ?_
 refine R.neS ⟨rfl, rfl, rfl, rfl⟩ rfl rfl ?_
 refine GOps.nil ?_
 refine GW.ite rfl (fun hc1 => ?_) (fun hc1 => ?_)
 ·try simp only [dcQ] at hc1
  replace hc1 : emp s.v = false := hc1
  refine GW.seq ?_
  refine GW.draw ((b3, .exact (.cells (Value.agg (SlC s).toArray).cells 26 (0, 0))) :: (bM, mkC bD A vars.length c bad) :: (HD ++ G)) 9 rfl (by kernel_rfl) ?_
  refine GA.val 0 rfl (V.move ⟨rfl, rfl, rfl, rfl⟩ rfl) rfl (by kernel_rfl) (by kernel_rfl) (by kernel_rfl) ?_
  refine GA.val 1 rfl (V.nilCheck ⟨rfl, rfl, rfl, rfl⟩ rfl) rfl (by kernel_rfl) (by kernel_rfl) (by kernel_rfl) ?_
  refine GA.val 2 rfl (V.fieldAddr ⟨rfl, rfl, rfl, rfl⟩ rfl Tryz.underlying97 rfl Tryz.sizeOf61) rfl (by kernel_rfl) (by kernel_rfl) (by kernel_rfl) ?_   -- "vars"
  refine GA.val 3 rfl (V.load1 ⟨rfl, rfl, rfl, rfl⟩ rfl Tryz.underlying61 rfl (.own' memG (by rfl))) rfl (by kernel_rfl) (by kernel_rfl) (by kernel_rfl) ?_
  refine GA.val 4 rfl (V.fieldAddr ⟨rfl, rfl, rfl, rfl⟩ rfl Tryz.underlying26 rfl Tryz.sizeOf9) rfl (by kernel_rfl) (by kernel_rfl) (by kernel_rfl) ?_   -- "Var"
  refine GA.val 5 rfl (V.load1 ⟨rfl, rfl, rfl, rfl⟩ rfl Tryz.underlying9 rfl (.own' memG (by rfl))) rfl (by kernel_rfl) (by kernel_rfl) (by kernel_rfl) ?_
  refine GA.one 6 (by first | exact Hs.mid3 _ _ _ _ _ | exact Hs.refl _ | exact Hs.tl _ | exact Hs.tl2 _ _ | exact Hs.tl3 _ _ _ | exact Hs.app _ | exact Hs.sub (by simp)) (by kernel_rfl) rfl ?_
  refine R.call ⟨rfl, rfl, rfl, rfl⟩ rfl (vs := [_, _]) rfl ((sl_Index _ _ A vars c s.v (hv.mono (fun y hy => by repeat (first | exact hy | apply List.mem_cons_of_mem | apply List.mem_append_right))) hm).mono ?_)
  rintro _ _ ⟨rfl, rfl⟩
  refine GOps.nil ?_
  refine GA.val 7 rfl (V.build (vs := [(0, _)]) (cells := (PlC ⟨idxB vars s.v, 0⟩).toArray) ⟨rfl, rfl, rfl, rfl⟩ rfl (fun w => run_build w 37 _ _ (by kernel_rfl))) rfl (by kernel_rfl) (by kernel_rfl) (by kernel_rfl) ?_
  refine GA.one 8 (by first | exact Hs.mid3 _ _ _ _ _ | exact Hs.refl _ | exact Hs.tl _ | exact Hs.tl2 _ _ | exact Hs.tl3 _ _ _ | exact Hs.app _ | exact Hs.sub (by simp)) (by kernel_rfl) rfl ?_
  refine R.storeAll (G1 := []) rfl rfl rfl rfl rfl Tryz.sizeOf37 rfl rfl rfl rfl ?_
  refine GOps.nil ?_
  refine GA.done (by first | exact Hs.mid3 _ _ _ _ _ | exact Hs.refl _ | exact Hs.tl _ | exact Hs.tl2 _ _ | exact Hs.tl3 _ _ _ | exact Hs.app _ | exact Hs.sub (by simp)) (by kernel_rfl) ?_
  first | (rw [placeF_var hc1]; exact GW.ret (Out.of (resCellA rfl rfl Tryz.underlying37 rfl Tryz.sizeOf37 (Rds.own (C := (PlC ⟨idxB vars s.v, 0⟩).toArray) (by repeat (first | exact List.mem_cons_self | apply List.mem_cons_of_mem | apply List.mem_append_right | exact List.mem_append_left _ List.mem_cons_self)) 0 (PlC ⟨idxB vars s.v, 0⟩) (fun j v hv => by simpa using hv)) rfl) (Hs.tl2 _ _) ⟨HD, ⟨rfl, hD⟩, rfl⟩)) | (rw [placeF_t0 hc1 (by assumption)]; exact GW.ret (Out.of (resCellA rfl rfl Tryz.underlying37 rfl Tryz.sizeOf37 (Rds.own (C := (PlC ⟨-1, (internF lim ts s.t).1⟩).toArray) (by repeat (first | exact List.mem_cons_self | apply List.mem_cons_of_mem | apply List.mem_append_right | exact List.mem_append_left _ List.mem_cons_self)) 0 (PlC ⟨-1, (internF lim ts s.t).1⟩) (fun j v hv => by simpa using hv)) rfl) (Hs.tl2 _ _) ⟨HD2, ⟨rfl, hD2⟩, rfl⟩)) | (rw [placeF_t1 hc1 (by assumption)]; exact GW.ret (Out.of (resCellA rfl rfl Tryz.underlying37 rfl Tryz.sizeOf37 (Rds.own (C := (PlC ⟨-1, (internF lim ts s.t).1⟩).toArray) (by repeat (first | exact List.mem_cons_self | apply List.mem_cons_of_mem | apply List.mem_append_right | exact List.mem_append_left _ List.mem_cons_self)) 0 (PlC ⟨-1, (internF lim ts s.t).1⟩) (fun j v hv => by simpa using hv)) rfl) (Hs.tl2 _ _) ⟨HD2, ⟨rfl, hD2⟩, rfl⟩))
 ·try simp only [dcQ] at hc1
  replace hc1 : emp s.v = true := hc1
  refine GW.skip ?_
  refine GW.seq ?_
  refine GW.draw ((b4, .exact (.cells #[.int .i64 0, .int .u32 0] 37 (0, 0))) :: (b3, .exact (.cells (Value.agg (SlC s).toArray).cells 26 (0, 0))) :: (bM, mkC bD A vars.length c bad) :: G) 12 rfl (by kernel_rfl) ?_
  refine GA.val 0 rfl (V.move ⟨rfl, rfl, rfl, rfl⟩ rfl) rfl (by kernel_rfl) (by kernel_rfl) (by kernel_rfl) ?_
  refine GA.val 1 rfl (V.nilCheck ⟨rfl, rfl, rfl, rfl⟩ rfl) rfl (by kernel_rfl) (by kernel_rfl) (by kernel_rfl) ?_
  refine GA.val 2 rfl (V.fieldAddr ⟨rfl, rfl, rfl, rfl⟩ rfl Tryz.underlying97 rfl Tryz.sizeOf45) rfl (by kernel_rfl) (by kernel_rfl) (by kernel_rfl) ?_   -- "d"
  refine GA.val 3 rfl (V.load1 ⟨rfl, rfl, rfl, rfl⟩ rfl Tryz.underlying45 rfl (.own' memG (by rfl))) rfl (by kernel_rfl) (by kernel_rfl) (by kernel_rfl) ?_
  refine GA.val 4 rfl (V.fieldAddr ⟨rfl, rfl, rfl, rfl⟩ rfl Tryz.underlying26 rfl Tryz.sizeOf24) rfl (by kernel_rfl) (by kernel_rfl) (by kernel_rfl) ?_   -- "Term"
  refine GA.val 5 rfl (V.load_own (cs := TmC s.t) ⟨rfl, rfl, rfl, rfl⟩ rfl Tryz.underlying24 rfl Tryz.sizeOf24 memG (by rfl) (by rfl)) rfl (by kernel_rfl) (by kernel_rfl) (by kernel_rfl) ?_
  refine GA.one 6 (by first | exact Hs.mid3 _ _ _ _ _ | exact Hs.refl _ | exact Hs.tl _ | exact Hs.tl2 _ _ | exact Hs.tl3 _ _ _ | exact Hs.app _ | exact Hs.sub (by simp)) (by kernel_rfl) rfl ?_
  refine GOps.weak (Keeps.refl _) (Hs.toD3 _ _ _ _ _) ?_
  refine R.call ⟨rfl, rfl, rfl, rfl⟩ rfl (vs := [_, _]) rfl ((dict_Intern _ _ HD ts lim bD s.t hD (hs hc1)).mono ?_)
  rintro _ _ ⟨HD2, ⟨rfl, hD2⟩, rfl⟩
  refine GOps.weak (Keeps.refl _) (Hs.fromD3 _ _ _ _ _) ?_
  refine GOps.nil ?_
  refine GA.val 7 rfl (V.move ⟨rfl, rfl, rfl, rfl⟩ rfl) rfl (by kernel_rfl) (by kernel_rfl) (by kernel_rfl) ?_
  refine GA.val 8 rfl (V.extract ⟨rfl, rfl, rfl, rfl⟩ rfl rfl) rfl (by kernel_rfl) (by kernel_rfl) (by kernel_rfl) ?_
  refine GA.val 9 rfl (V.extract ⟨rfl, rfl, rfl, rfl⟩ rfl rfl) rfl (by kernel_rfl) (by kernel_rfl) (by kernel_rfl) ?_
  refine GA.val 10 rfl (V.assign ⟨rfl, rfl, rfl, rfl⟩ rfl) rfl (by kernel_rfl) (by kernel_rfl) (by kernel_rfl) ?_
  refine GA.val 11 rfl (V.assign ⟨rfl, rfl, rfl, rfl⟩ rfl) rfl (by kernel_rfl) (by kernel_rfl) (by kernel_rfl) ?_
  refine GA.done (by first | exact Hs.mid3 _ _ _ _ _ | exact Hs.refl _ | exact Hs.tl _ | exact Hs.tl2 _ _ | exact Hs.tl3 _ _ _ | exact Hs.app _ | exact Hs.sub (by simp)) (by kernel_rfl) ?_
  refine GW.seq ?_
  refine GW.seq ?_
  refine GW.region ?_
  refine R.move ⟨rfl, rfl, rfl, rfl⟩ rfl ?_
  refine R.nilCheck ⟨rfl, rfl, rfl, rfl⟩ rfl ?_
  refine R.fieldAddr ⟨rfl, rfl, rfl, rfl⟩ rfl Tryz.underlying97 rfl Tryz.sizeOf42 ?_   -- "bad"
  refine R.load1 ⟨rfl, rfl, rfl, rfl⟩ rfl Tryz.underlying42 rfl (.own' memG (by rfl)) ?_
  refine R.eqI ⟨rfl, rfl, rfl, rfl⟩ rfl rfl ?_
  refine GOps.nil ?_
  refine GW.ite rfl (fun hc2 => ?_) (fun hc2 => ?_)
  ·try simp only [dcQ] at hc2
   refine GW.region ?_
   refine R.move ⟨rfl, rfl, rfl, rfl⟩ rfl ?_
   refine R.move ⟨rfl, rfl, rfl, rfl⟩ rfl ?_
   refine R.nilCheck ⟨rfl, rfl, rfl, rfl⟩ rfl ?_
   refine R.fieldAddr ⟨rfl, rfl, rfl, rfl⟩ rfl Tryz.underlying97 rfl Tryz.sizeOf42 ?_   -- "bad"
   refine R.store (G1 := [_, _]) rfl rfl rfl rfl rfl Tryz.sizeOf42 rfl rfl (rfl) (Nat.le_of_ble_eq_true rfl) ?_
   refine GOps.nil ?_
   refine GW.seq ?_
   refine GW.region ?_
   refine R.move ⟨rfl, rfl, rfl, rfl⟩ rfl ?_
   refine R.build (vs := [(0, _), (1, _)]) (cells := (PlC ⟨-1, (internF lim ts s.t).1⟩).toArray) ⟨rfl, rfl, rfl, rfl⟩ rfl (fun w => run_build w 37 _ _ (by kernel_rfl)) ?_
   refine R.storeAll (G1 := []) rfl rfl rfl rfl rfl Tryz.sizeOf37 rfl rfl rfl rfl ?_
   refine GOps.nil ?_
   first | (rw [placeF_var hc1]; exact GW.ret (Out.of (resCellA rfl rfl Tryz.underlying37 rfl Tryz.sizeOf37 (Rds.own (C := (PlC ⟨idxB vars s.v, 0⟩).toArray) (by repeat (first | exact List.mem_cons_self | apply List.mem_cons_of_mem | apply List.mem_append_right | exact List.mem_append_left _ List.mem_cons_self)) 0 (PlC ⟨idxB vars s.v, 0⟩) (fun j v hv => by simpa using hv)) rfl) (Hs.tl2 _ _) ⟨HD, ⟨rfl, hD⟩, rfl⟩)) | (rw [placeF_t0 hc1 (by assumption)]; exact GW.ret (Out.of (resCellA rfl rfl Tryz.underlying37 rfl Tryz.sizeOf37 (Rds.own (C := (PlC ⟨-1, (internF lim ts s.t).1⟩).toArray) (by repeat (first | exact List.mem_cons_self | apply List.mem_cons_of_mem | apply List.mem_append_right | exact List.mem_append_left _ List.mem_cons_self)) 0 (PlC ⟨-1, (internF lim ts s.t).1⟩) (fun j v hv => by simpa using hv)) rfl) (Hs.tl2 _ _) ⟨HD2, ⟨rfl, hD2⟩, rfl⟩)) | (rw [placeF_t1 hc1 (by assumption)]; exact GW.ret (Out.of (resCellA rfl rfl Tryz.underlying37 rfl Tryz.sizeOf37 (Rds.own (C := (PlC ⟨-1, (internF lim ts s.t).1⟩).toArray) (by repeat (first | exact List.mem_cons_self | apply List.mem_cons_of_mem | apply List.mem_append_right | exact List.mem_append_left _ List.mem_cons_self)) 0 (PlC ⟨-1, (internF lim ts s.t).1⟩) (fun j v hv => by simpa using hv)) rfl) (Hs.tl2 _ _) ⟨HD2, ⟨rfl, hD2⟩, rfl⟩))
  ·try simp only [dcQ] at hc2
   refine GW.skip ?_
   refine GW.seq ?_
   refine GW.region ?_
   refine R.move ⟨rfl, rfl, rfl, rfl⟩ rfl ?_
   refine R.build (vs := [(0, _), (1, _)]) (cells := (PlC ⟨-1, (internF lim ts s.t).1⟩).toArray) ⟨rfl, rfl, rfl, rfl⟩ rfl (fun w => run_build w 37 _ _ (by kernel_rfl)) ?_
   refine R.storeAll (G1 := []) rfl rfl rfl rfl rfl Tryz.sizeOf37 rfl rfl rfl rfl ?_
   refine GOps.nil ?_
   first | (rw [placeF_var hc1]; exact GW.ret (Out.of (resCellA rfl rfl Tryz.underlying37 rfl Tryz.sizeOf37 (Rds.own (C := (PlC ⟨idxB vars s.v, 0⟩).toArray) (by repeat (first | exact List.mem_cons_self | apply List.mem_cons_of_mem | apply List.mem_append_right | exact List.mem_append_left _ List.mem_cons_self)) 0 (PlC ⟨idxB vars s.v, 0⟩) (fun j v hv => by simpa using hv)) rfl) (Hs.tl2 _ _) ⟨HD, ⟨rfl, hD⟩, rfl⟩)) | (rw [placeF_t0 hc1 (by assumption)]; exact GW.ret (Out.of (resCellA rfl rfl Tryz.underlying37 rfl Tryz.sizeOf37 (Rds.own (C := (PlC ⟨-1, (internF lim ts s.t).1⟩).toArray) (by repeat (first | exact List.mem_cons_self | apply List.mem_cons_of_mem | apply List.mem_append_right | exact List.mem_append_left _ List.mem_cons_self)) 0 (PlC ⟨-1, (internF lim ts s.t).1⟩) (fun j v hv => by simpa using hv)) rfl) (Hs.tl2 _ _) ⟨HD2, ⟨rfl, hD2⟩, rfl⟩)) | (rw [placeF_t1 hc1 (by assumption)]; exact GW.ret (Out.of (resCellA rfl rfl Tryz.underlying37 rfl Tryz.sizeOf37 (Rds.own (C := (PlC ⟨-1, (internF lim ts s.t).1⟩).toArray) (by repeat (first | exact List.mem_cons_self | apply List.mem_cons_of_mem | apply List.mem_append_right | exact List.mem_append_left _ List.mem_cons_self)) 0 (PlC ⟨-1, (internF lim ts s.t).1⟩) (fun j v hv => by simpa using hv)) rfl) (Hs.tl2 _ _) ⟨HD2, ⟨rfl, hD2⟩, rfl⟩))
end Go.Proofs.YtfddkcmooommeaaGreatDoor.Gl
end
section
namespace Go.Proofs.YtfddkcmooommeaaGreatDoor.Gl
open Go.RowKit Go.Shelf
set_option linter.unusedVariables false
set_option linter.unnecessarySimpa false
set_option linter.unusedSimpArgs false
attribute [-simp] List.getD_eq_getElem?_getD
def stepSl (l : Lt) : List Sl := if l.kind = 1 ∨ l.kind = 2 then sl3 l.pat else [l.a, l.b]
theorem stepF_1 {lim : Nat} {vars : List ByteArray} {q : List Tm × Int} {l : Lt} (h : l.kind = 1) : stepF lim vars q l = (⟨1, (rowF lim vars q l.pat).1, zPl, zPl⟩, (rowF lim vars q l.pat).2) := by unfold stepF; rw [if_pos h]
theorem stepF_2 {lim : Nat} {vars : List ByteArray} {q : List Tm × Int} {l : Lt} (h1 : ¬ l.kind = 1) (h : l.kind = 2) : stepF lim vars q l = (⟨2, (rowF lim vars q l.pat).1, zPl, zPl⟩, (rowF lim vars q l.pat).2) := by unfold stepF; rw [if_neg h1, if_pos h]
theorem stepF_3 {lim : Nat} {vars : List ByteArray} {q : List Tm × Int} {l : Lt} (h1 : ¬ l.kind = 1) (h2 : ¬ l.kind = 2) (h : l.kind = 3) : stepF lim vars q l = (⟨3, zRw, (placeF lim vars q l.a).1, (placeF lim vars (placeF lim vars q l.a).2 l.b).1⟩, (placeF lim vars (placeF lim vars q l.a).2 l.b).2) := by unfold stepF; rw [if_neg h1, if_neg h2, if_pos h]
theorem stepF_4 {lim : Nat} {vars : List ByteArray} {q : List Tm × Int} {l : Lt} (h1 : ¬ l.kind = 1) (h2 : ¬ l.kind = 2) (h : ¬ l.kind = 3) : stepF lim vars q l = (⟨4, zRw, (placeF lim vars q l.a).1, (placeF lim vars (placeF lim vars q l.a).2 l.b).1⟩, (placeF lim vars (placeF lim vars q l.a).2 l.b).2) := by unfold stepF; rw [if_neg h1, if_neg h2, if_neg h]
theorem Hs.padTl {b4 : Nat} {C D : Array Value} (h : C = D) (x : Nat × Know) (R : Hp) : Hs ([x] ++ (b4, .exact (.cells C 38 (0, 0))) :: R) ((b4, .exact (.cells D 38 (0, 0))) :: R) := h ▸ Hs.tl x
theorem Hs.gj2 (x y m : Nat × Know) (H G : Hp) : Hs (x :: y :: m :: (H ++ G)) (y :: G) := Hs.sub ((((List.sublist_append_right H G).cons m).cons_cons y).cons x)
theorem plan_row (w0 : World) (G : Hp) (HD : Hp) (ts : List Tm) (lim bD bM c : Nat) (A : Option Addr) (vars : List ByteArray) (bad : Int) (hD : Dic ts lim bD HD) (hv : StAt w0 G A vars) (hm : vars.length ≤ 100000000) (p : Pt) (hp : ∀ s ∈ sl3 p, emp s.v = true → mayT s.t = true) : GC Tryz.prog w0 32 #[.pointer (some ⟨bM, 0, none⟩), .agg (PtC p).toArray] (fun v G' => ∃ HD', (v = .agg (RwC (rowF lim vars (ts, bad) p).1).toArray ∧ Dic (rowF lim vars (ts, bad) p).2.1 lim bD HD') ∧ (bM, mkC bD A vars.length c (rowF lim vars (ts, bad) p).2.2) :: (HD' ++ G) = G') ((bM, mkC bD A vars.length c bad) :: (HD ++ G)) := by
 refine GC.body (args := [.pointer (some ⟨bM, 0, none⟩), .agg (PtC p).toArray]) Tryz.func32 rfl (by kernel_rfl) rfl ?_
 refine GW.seq ?_
 refine GW.region ?_
 refine R.box ⟨rfl, rfl, rfl, rfl⟩ rfl fun b3 => ?_
 refine R.alloc ⟨rfl, rfl, rfl, rfl⟩ Tryz.zeroValue38 fun b4 => ?_
 refine GOps.nil ?_
 refine GW.seq ?_
 refine GW.seq ?_
 refine GW.region ?_
 refine R.load_own (cs := PtC p) ⟨rfl, rfl, rfl, rfl⟩ rfl Tryz.underlying28 rfl Tryz.sizeOf28 memG (by rfl) (by rfl) ?_
 refine R.move ⟨rfl, rfl, rfl, rfl⟩ rfl ?_
 refine GOps.nil ?_
 refine GW.block ?_
 refine GW.loop4 (fun (k : Nat) (a : List Pl × (List Tm × Int)) (HD2 : Hp) (u1 : Unit) => [(0, .pointer (some ⟨bM, 0, none⟩)), (4, .pointer (some ⟨b4, 0, none⟩)), (7, .agg (PtC p).toArray), (8, .int .i64 k)]) (fun (k : Nat) (a : List Pl × (List Tm × Int)) (HD2 : Hp) (u1 : Unit) => (b4, .exact (.cells (padC a.1) 38 (0, 0))) :: (b3, .exact (.cells (Value.agg (PtC p).toArray).cells 28 (0, 0))) :: (bM, mkC bD A vars.length c a.2.2) :: (HD2 ++ G)) (fun k : Nat => 3 - k) (fun (k : Nat) (a : List Pl × (List Tm × Int)) (HD2 : Hp) (u1 : Unit) => k ≤ 3 ∧ a = rowTo lim vars (ts, bad) p k ∧ a.1.length = k ∧ Dic a.2.1 lim bD HD2) 0 (([], (ts, bad))) (HD) (())
  (by repeat (first | exact Keeps.nil _ | refine Keeps.cons rfl ?_)) (Hs.refl _) (⟨by omega, rfl, rfl, hD⟩) ?_
 rintro k a HD2 u1 ⟨hk, ha, hal, hD2⟩
 refine GW.seq ?_
 refine GW.region ?_
 refine R.lss ⟨rfl, rfl, rfl, rfl⟩ rfl rfl ?_
 refine GOps.nil ?_
 refine GW.seq ?_
 refine GW.ite rfl (fun hc1 => ?_) (fun hc1 => ?_)
 ·try simp only [dcQ] at hc1
  obtain ⟨s, hs, hsm, hse⟩ := pt_index (p := p) (k := k) (by omega)
  refine GW.skip ?_
  refine GW.seq ?_
  refine GW.block ?_
  refine GW.seq ?_
  refine GW.region ?_
  refine R.move ⟨rfl, rfl, rfl, rfl⟩ rfl ?_
  refine R.indexArr (es := (SlC s).toArray) ⟨rfl, rfl, rfl, rfl⟩ rfl rfl Tryz.underlying28 Tryz.underlying26 rfl Tryz.sizeOf26 (by omega) (by omega) (hse) ?_
  refine R.alloc ⟨rfl, rfl, rfl, rfl⟩ Tryz.zeroValue26 fun b6 => ?_
  refine R.assign ⟨rfl, rfl, rfl, rfl⟩ rfl ?_
  refine R.storeAll (G1 := []) rfl rfl rfl rfl rfl Tryz.sizeOf26 rfl rfl rfl rfl ?_
  refine GOps.nil ?_
  refine GW.region ?_
  refine R.move ⟨rfl, rfl, rfl, rfl⟩ rfl ?_
  refine R.move ⟨rfl, rfl, rfl, rfl⟩ rfl ?_
  refine R.load_own (cs := SlC s) ⟨rfl, rfl, rfl, rfl⟩ rfl Tryz.underlying26 rfl Tryz.sizeOf26 memG (by rfl) (by rfl) ?_
  refine GOps.weak (Keeps.refl _) (Hs.toM3 _ _ _ _ _ _) ?_
  refine R.call ⟨rfl, rfl, rfl, rfl⟩ rfl (vs := [_, _]) rfl ((plan_place _ _ HD2 a.2.1 lim bD bM c A vars a.2.2 hD2 (hv.mono (fun y hy => by repeat (first | exact hy | apply List.mem_cons_of_mem | apply List.mem_append_right))) hm s (hp s hsm)).mono ?_)
  rintro _ _ ⟨HD3, ⟨rfl, hD3⟩, rfl⟩
  refine GOps.weak (Keeps.refl _) (Hs.fromM3 _ _ _ _ _ _) ?_
  refine R.indexAddrA ⟨rfl, rfl, rfl, rfl⟩ rfl rfl Tryz.underlying38 Tryz.sizeOf37 (by omega) (by omega) ?_
  refine R.store (G1 := [_]) rfl rfl rfl rfl rfl Tryz.sizeOf37 rfl rfl (rfl) (by rw [pad_size]; omega) ?_
  refine GOps.nil ?_
  refine GW.region ?_
  refine R.add (r := (((k + 1) : Nat) : Int)) ⟨rfl, rfl, rfl, rfl⟩ rfl rfl (by rw [wrap64_id (by omega) (by omega)]; omega) ?_
  refine R.move ⟨rfl, rfl, rfl, rfl⟩ rfl ?_
  refine GOps.nil ?_
  exact ⟨k + 1, rowStep lim vars a s, HD3, (), by omega, ⟨by omega, by rw [rowTo_succ hs, ← ha], by show (a.1 ++ [_]).length = k + 1; rw [List.length_append, hal]; rfl, hD3⟩, rfl, by repeat (first | exact Keeps.nil _ | refine Keeps.cons rfl ?_), by first | exact Hs.refl _ | exact Hs.tl _ | exact Hs.tl2 _ _ | exact Hs.padTl (pad_put _ hal (by omega)) _ _⟩
 ·try simp only [dcQ] at hc1
  obtain rfl : k = 3 := by omega
  rw [rowTo_3] at ha
  subst ha
  refine GW.exit ?_
  refine GW.seq ?_
  refine GW.region ?_
  refine R.load_own (cs := RwC (rowF lim vars (ts, bad) p).1) ⟨rfl, rfl, rfl, rfl⟩ rfl Tryz.underlying38 rfl Tryz.sizeOf38 memG (by rfl) (by rfl) ?_
  refine R.storeAll (G1 := []) rfl rfl rfl rfl rfl Tryz.sizeOf38 rfl rfl rfl rfl ?_
  refine GOps.nil ?_
  exact GW.ret (Out.of (resCellA rfl rfl Tryz.underlying38 rfl Tryz.sizeOf38 (Rds.own (C := (RwC (rowF lim vars (ts, bad) p).1).toArray) (by repeat (first | exact List.mem_cons_self | apply List.mem_cons_of_mem | apply List.mem_append_right | exact List.mem_append_left _ List.mem_cons_self)) 0 (RwC (rowF lim vars (ts, bad) p).1) (fun j v hv => by simpa using hv)) rfl) (Hs.tl2 _ _) ⟨HD2, ⟨rfl, hD2⟩, rfl⟩)
theorem plan_step (w0 : World) (G : Hp) (HD : Hp) (ts : List Tm) (lim bD bM c : Nat) (A : Option Addr) (vars : List ByteArray) (bad : Int) (hD : Dic ts lim bD HD) (hv : StAt w0 G A vars) (hm : vars.length ≤ 100000000) (l : Lt) (hp : ∀ s ∈ stepSl l, emp s.v = true → mayT s.t = true) : GC Tryz.prog w0 56 #[.pointer (some ⟨bM, 0, none⟩), .agg (LtC l).toArray] (fun v G' => ∃ HD', (v = .agg (StC (stepF lim vars (ts, bad) l).1).toArray ∧ Dic (stepF lim vars (ts, bad) l).2.1 lim bD HD') ∧ (bM, mkC bD A vars.length c (stepF lim vars (ts, bad) l).2.2) :: (HD' ++ G) = G') ((bM, mkC bD A vars.length c bad) :: (HD ++ G)) := by
 refine GC.body (args := [.pointer (some ⟨bM, 0, none⟩), .agg (LtC l).toArray]) Tryz.func56 rfl (by kernel_rfl) rfl ?_
 refine GW.seq ?_
 refine GW.region ?_
 refine R.box ⟨rfl, rfl, rfl, rfl⟩ rfl fun b3 => ?_
 refine R.alloc ⟨rfl, rfl, rfl, rfl⟩ Tryz.zeroValue50 fun b4 => ?_
 refine GOps.nil ?_
 refine GW.seq ?_
 refine GW.seq ?_
 refine GW.region ?_
 refine R.fieldAddr ⟨rfl, rfl, rfl, rfl⟩ rfl Tryz.underlying89 rfl Tryz.sizeOf87 ?_   -- "Kind"
 refine R.load1 ⟨rfl, rfl, rfl, rfl⟩ rfl Tryz.underlying87 rfl (.own' memG (by rfl)) ?_
 refine GOps.nil ?_
 refine GW.block ?_
 refine GW.seq ?_
 refine GW.region ?_
 refine R.eqI ⟨rfl, rfl, rfl, rfl⟩ rfl rfl ?_
 refine R.assign ⟨rfl, rfl, rfl, rfl⟩ rfl ?_
 refine GOps.nil ?_
 refine GW.ite rfl (fun hc1 => ?_) (fun hc1 => ?_)
 ·try simp only [dcQ] at hc1
  refine GW.seq ?_
  refine GW.region ?_
  refine R.move ⟨rfl, rfl, rfl, rfl⟩ rfl ?_
  refine R.fieldAddr ⟨rfl, rfl, rfl, rfl⟩ rfl Tryz.underlying89 rfl Tryz.sizeOf28 ?_   -- "Pattern"
  refine R.load_own (cs := PtC l.pat) ⟨rfl, rfl, rfl, rfl⟩ rfl Tryz.underlying28 rfl Tryz.sizeOf28 memG (by rfl) (by rfl) ?_
  refine GOps.weak (Keeps.refl _) (Hs.toM2 _ _ _ _ _) ?_
  refine R.call ⟨rfl, rfl, rfl, rfl⟩ rfl (vs := [_, _]) rfl ((plan_row _ _ HD ts lim bD bM c A vars bad hD (hv.mono (fun y hy => by repeat (first | exact hy | apply List.mem_cons_of_mem | apply List.mem_append_right))) hm l.pat (fun s hs => hp s (by unfold stepSl; rw [if_pos (by omega)]; exact hs))).mono ?_)
  rintro _ _ ⟨HD2, ⟨rfl, hD2⟩, rfl⟩
  refine GOps.weak (Keeps.refl _) (Hs.fromM2 _ _ _ _ _) ?_
  refine R.build (vs := [(0, _), (1, _)]) (cells := (StC ⟨1, (rowF lim vars (ts, bad) l.pat).1, zPl, zPl⟩).toArray) ⟨rfl, rfl, rfl, rfl⟩ rfl (fun w => run_build w 50 _ _ (by kernel_rfl)) ?_
  refine R.storeAll (G1 := []) rfl rfl rfl rfl rfl Tryz.sizeOf50 rfl rfl rfl rfl ?_
  refine GOps.nil ?_
  first | (rw [stepF_1 (by assumption)]; exact GW.ret (Out.of (resCellA rfl rfl Tryz.underlying50 rfl Tryz.sizeOf50 (Rds.own (C := (StC ⟨1, (rowF lim vars (ts, bad) l.pat).1, zPl, zPl⟩).toArray) (by repeat (first | exact List.mem_cons_self | apply List.mem_cons_of_mem | apply List.mem_append_right | exact List.mem_append_left _ List.mem_cons_self)) 0 (StC ⟨1, (rowF lim vars (ts, bad) l.pat).1, zPl, zPl⟩) (fun j v hv => by simpa using hv)) rfl) (Hs.tl2 _ _) ⟨HD2, ⟨rfl, hD2⟩, rfl⟩)) | (rw [stepF_2 (by assumption) (by assumption)]; exact GW.ret (Out.of (resCellA rfl rfl Tryz.underlying50 rfl Tryz.sizeOf50 (Rds.own (C := (StC ⟨2, (rowF lim vars (ts, bad) l.pat).1, zPl, zPl⟩).toArray) (by repeat (first | exact List.mem_cons_self | apply List.mem_cons_of_mem | apply List.mem_append_right | exact List.mem_append_left _ List.mem_cons_self)) 0 (StC ⟨2, (rowF lim vars (ts, bad) l.pat).1, zPl, zPl⟩) (fun j v hv => by simpa using hv)) rfl) (Hs.tl2 _ _) ⟨HD2, ⟨rfl, hD2⟩, rfl⟩)) | (rw [stepF_3 (by assumption) (by assumption) (by assumption)]; exact GW.ret (Out.of (resCellA rfl rfl Tryz.underlying50 rfl Tryz.sizeOf50 (Rds.own (C := (StC ⟨3, zRw, (placeF lim vars (ts, bad) l.a).1, (placeF lim vars (placeF lim vars (ts, bad) l.a).2 l.b).1⟩).toArray) (by repeat (first | exact List.mem_cons_self | apply List.mem_cons_of_mem | apply List.mem_append_right | exact List.mem_append_left _ List.mem_cons_self)) 0 (StC ⟨3, zRw, (placeF lim vars (ts, bad) l.a).1, (placeF lim vars (placeF lim vars (ts, bad) l.a).2 l.b).1⟩) (fun j v hv => by simpa using hv)) rfl) (Hs.tl2 _ _) ⟨HD3, ⟨rfl, hD3⟩, rfl⟩)) | (rw [stepF_4 (by assumption) (by assumption) (by assumption)]; exact GW.ret (Out.of (resCellA rfl rfl Tryz.underlying50 rfl Tryz.sizeOf50 (Rds.own (C := (StC ⟨4, zRw, (placeF lim vars (ts, bad) l.a).1, (placeF lim vars (placeF lim vars (ts, bad) l.a).2 l.b).1⟩).toArray) (by repeat (first | exact List.mem_cons_self | apply List.mem_cons_of_mem | apply List.mem_append_right | exact List.mem_append_left _ List.mem_cons_self)) 0 (StC ⟨4, zRw, (placeF lim vars (ts, bad) l.a).1, (placeF lim vars (placeF lim vars (ts, bad) l.a).2 l.b).1⟩) (fun j v hv => by simpa using hv)) rfl) (Hs.tl2 _ _) ⟨HD3, ⟨rfl, hD3⟩, rfl⟩))
 ·try simp only [dcQ] at hc1
  refine GW.seq ?_
  refine GW.region ?_
  refine R.eqI ⟨rfl, rfl, rfl, rfl⟩ rfl rfl ?_
  refine R.assign ⟨rfl, rfl, rfl, rfl⟩ rfl ?_
  refine GOps.nil ?_
  refine GW.ite rfl (fun hc2 => ?_) (fun hc2 => ?_)
  ·try simp only [dcQ] at hc2
   refine GW.seq ?_
   refine GW.region ?_
   refine R.move ⟨rfl, rfl, rfl, rfl⟩ rfl ?_
   refine R.fieldAddr ⟨rfl, rfl, rfl, rfl⟩ rfl Tryz.underlying89 rfl Tryz.sizeOf28 ?_   -- "Pattern"
   refine R.load_own (cs := PtC l.pat) ⟨rfl, rfl, rfl, rfl⟩ rfl Tryz.underlying28 rfl Tryz.sizeOf28 memG (by rfl) (by rfl) ?_
   refine GOps.weak (Keeps.refl _) (Hs.toM2 _ _ _ _ _) ?_
   refine R.call ⟨rfl, rfl, rfl, rfl⟩ rfl (vs := [_, _]) rfl ((plan_row _ _ HD ts lim bD bM c A vars bad hD (hv.mono (fun y hy => by repeat (first | exact hy | apply List.mem_cons_of_mem | apply List.mem_append_right))) hm l.pat (fun s hs => hp s (by unfold stepSl; rw [if_pos (by omega)]; exact hs))).mono ?_)
   rintro _ _ ⟨HD2, ⟨rfl, hD2⟩, rfl⟩
   refine GOps.weak (Keeps.refl _) (Hs.fromM2 _ _ _ _ _) ?_
   refine R.build (vs := [(0, _), (1, _)]) (cells := (StC ⟨2, (rowF lim vars (ts, bad) l.pat).1, zPl, zPl⟩).toArray) ⟨rfl, rfl, rfl, rfl⟩ rfl (fun w => run_build w 50 _ _ (by kernel_rfl)) ?_
   refine R.storeAll (G1 := []) rfl rfl rfl rfl rfl Tryz.sizeOf50 rfl rfl rfl rfl ?_
   refine GOps.nil ?_
   first | (rw [stepF_1 (by assumption)]; exact GW.ret (Out.of (resCellA rfl rfl Tryz.underlying50 rfl Tryz.sizeOf50 (Rds.own (C := (StC ⟨1, (rowF lim vars (ts, bad) l.pat).1, zPl, zPl⟩).toArray) (by repeat (first | exact List.mem_cons_self | apply List.mem_cons_of_mem | apply List.mem_append_right | exact List.mem_append_left _ List.mem_cons_self)) 0 (StC ⟨1, (rowF lim vars (ts, bad) l.pat).1, zPl, zPl⟩) (fun j v hv => by simpa using hv)) rfl) (Hs.tl2 _ _) ⟨HD2, ⟨rfl, hD2⟩, rfl⟩)) | (rw [stepF_2 (by assumption) (by assumption)]; exact GW.ret (Out.of (resCellA rfl rfl Tryz.underlying50 rfl Tryz.sizeOf50 (Rds.own (C := (StC ⟨2, (rowF lim vars (ts, bad) l.pat).1, zPl, zPl⟩).toArray) (by repeat (first | exact List.mem_cons_self | apply List.mem_cons_of_mem | apply List.mem_append_right | exact List.mem_append_left _ List.mem_cons_self)) 0 (StC ⟨2, (rowF lim vars (ts, bad) l.pat).1, zPl, zPl⟩) (fun j v hv => by simpa using hv)) rfl) (Hs.tl2 _ _) ⟨HD2, ⟨rfl, hD2⟩, rfl⟩)) | (rw [stepF_3 (by assumption) (by assumption) (by assumption)]; exact GW.ret (Out.of (resCellA rfl rfl Tryz.underlying50 rfl Tryz.sizeOf50 (Rds.own (C := (StC ⟨3, zRw, (placeF lim vars (ts, bad) l.a).1, (placeF lim vars (placeF lim vars (ts, bad) l.a).2 l.b).1⟩).toArray) (by repeat (first | exact List.mem_cons_self | apply List.mem_cons_of_mem | apply List.mem_append_right | exact List.mem_append_left _ List.mem_cons_self)) 0 (StC ⟨3, zRw, (placeF lim vars (ts, bad) l.a).1, (placeF lim vars (placeF lim vars (ts, bad) l.a).2 l.b).1⟩) (fun j v hv => by simpa using hv)) rfl) (Hs.tl2 _ _) ⟨HD3, ⟨rfl, hD3⟩, rfl⟩)) | (rw [stepF_4 (by assumption) (by assumption) (by assumption)]; exact GW.ret (Out.of (resCellA rfl rfl Tryz.underlying50 rfl Tryz.sizeOf50 (Rds.own (C := (StC ⟨4, zRw, (placeF lim vars (ts, bad) l.a).1, (placeF lim vars (placeF lim vars (ts, bad) l.a).2 l.b).1⟩).toArray) (by repeat (first | exact List.mem_cons_self | apply List.mem_cons_of_mem | apply List.mem_append_right | exact List.mem_append_left _ List.mem_cons_self)) 0 (StC ⟨4, zRw, (placeF lim vars (ts, bad) l.a).1, (placeF lim vars (placeF lim vars (ts, bad) l.a).2 l.b).1⟩) (fun j v hv => by simpa using hv)) rfl) (Hs.tl2 _ _) ⟨HD3, ⟨rfl, hD3⟩, rfl⟩))
  ·try simp only [dcQ] at hc2
   refine GW.seq ?_
   refine GW.region ?_
   refine R.eqI ⟨rfl, rfl, rfl, rfl⟩ rfl rfl ?_
   refine R.assign ⟨rfl, rfl, rfl, rfl⟩ rfl ?_
   refine GOps.nil ?_
   refine GW.ite rfl (fun hc3 => ?_) (fun hc3 => ?_)
   ·try simp only [dcQ] at hc3
    refine GW.seq ?_
    refine GW.draw ((b3, .exact (.cells (Value.agg (LtC l).toArray).cells 89 (0, 0))) :: G) 10 rfl (by kernel_rfl) ?_
    refine GA.val 0 rfl (V.move ⟨rfl, rfl, rfl, rfl⟩ rfl) rfl (by kernel_rfl) (by kernel_rfl) (by kernel_rfl) ?_
    refine GA.val 1 rfl (V.fieldAddr ⟨rfl, rfl, rfl, rfl⟩ rfl Tryz.underlying89 rfl Tryz.sizeOf26) rfl (by kernel_rfl) (by kernel_rfl) (by kernel_rfl) ?_   -- "A"
    refine GA.val 2 rfl (V.load_own (cs := SlC l.a) ⟨rfl, rfl, rfl, rfl⟩ rfl Tryz.underlying26 rfl Tryz.sizeOf26 memG (by rfl) (by rfl)) rfl (by kernel_rfl) (by kernel_rfl) (by kernel_rfl) ?_
    refine GA.val 4 rfl (V.move ⟨rfl, rfl, rfl, rfl⟩ rfl) rfl (by kernel_rfl) (by kernel_rfl) (by kernel_rfl) ?_
    refine GA.val 5 rfl (V.fieldAddr ⟨rfl, rfl, rfl, rfl⟩ rfl Tryz.underlying89 rfl Tryz.sizeOf26) rfl (by kernel_rfl) (by kernel_rfl) (by kernel_rfl) ?_   -- "B"
    refine GA.val 6 rfl (V.load_own (cs := SlC l.b) ⟨rfl, rfl, rfl, rfl⟩ rfl Tryz.underlying26 rfl Tryz.sizeOf26 memG (by rfl) (by rfl)) rfl (by kernel_rfl) (by kernel_rfl) (by kernel_rfl) ?_
    refine GA.one 3 (by first | exact Hs.gj2 _ _ _ _ _ | exact Hs.refl _ | exact Hs.tl _ | exact Hs.tl2 _ _ | exact Hs.tl3 _ _ _ | exact Hs.app _ | exact Hs.sub (by simp)) (by kernel_rfl) rfl ?_
    refine GOps.weak (Keeps.refl _) (Hs.toM2 _ _ _ _ _) ?_
    refine R.call ⟨rfl, rfl, rfl, rfl⟩ rfl (vs := [_, _]) rfl ((plan_place _ _ HD ts lim bD bM c A vars bad hD (hv.mono (fun y hy => by repeat (first | exact hy | apply List.mem_cons_of_mem | apply List.mem_append_right))) hm l.a (hp l.a (by unfold stepSl; rw [if_neg (by omega)]; simp))).mono ?_)
    rintro _ _ ⟨HD2, ⟨rfl, hD2⟩, rfl⟩
    refine GOps.weak (Keeps.refl _) (Hs.fromM2 _ _ _ _ _) ?_
    refine GOps.nil ?_
    refine GA.one 7 (by first | exact Hs.gj2 _ _ _ _ _ | exact Hs.refl _ | exact Hs.tl _ | exact Hs.tl2 _ _ | exact Hs.tl3 _ _ _ | exact Hs.app _ | exact Hs.sub (by simp)) (by kernel_rfl) rfl ?_
    refine GOps.weak (Keeps.refl _) (Hs.toM2 _ _ _ _ _) ?_
    refine R.call ⟨rfl, rfl, rfl, rfl⟩ rfl (vs := [_, _]) rfl ((plan_place _ _ HD2 (placeF lim vars (ts, bad) l.a).2.1 lim bD bM c A vars (placeF lim vars (ts, bad) l.a).2.2 hD2 (hv.mono (fun y hy => by repeat (first | exact hy | apply List.mem_cons_of_mem | apply List.mem_append_right))) hm l.b (hp l.b (by unfold stepSl; rw [if_neg (by omega)]; simp))).mono ?_)
    rintro _ _ ⟨HD3, ⟨rfl, hD3⟩, rfl⟩
    refine GOps.weak (Keeps.refl _) (Hs.fromM2 _ _ _ _ _) ?_
    refine GOps.nil ?_
    refine GA.val 8 rfl (V.build (vs := [(0, _), (2, _), (3, _)]) (cells := (StC ⟨3, zRw, (placeF lim vars (ts, bad) l.a).1, (placeF lim vars (placeF lim vars (ts, bad) l.a).2 l.b).1⟩).toArray) ⟨rfl, rfl, rfl, rfl⟩ rfl (fun w => run_build w 50 _ _ (by kernel_rfl))) rfl (by kernel_rfl) (by kernel_rfl) (by kernel_rfl) ?_
    refine GA.one 9 (by first | exact Hs.gj2 _ _ _ _ _ | exact Hs.refl _ | exact Hs.tl _ | exact Hs.tl2 _ _ | exact Hs.tl3 _ _ _ | exact Hs.app _ | exact Hs.sub (by simp)) (by kernel_rfl) rfl ?_
    refine R.storeAll (G1 := []) rfl rfl rfl rfl rfl Tryz.sizeOf50 rfl rfl rfl rfl ?_
    refine GOps.nil ?_
    refine GA.done (by first | exact Hs.gj2 _ _ _ _ _ | exact Hs.refl _ | exact Hs.tl _ | exact Hs.tl2 _ _ | exact Hs.tl3 _ _ _ | exact Hs.app _ | exact Hs.sub (by simp)) (by kernel_rfl) ?_
    first | (rw [stepF_1 (by assumption)]; exact GW.ret (Out.of (resCellA rfl rfl Tryz.underlying50 rfl Tryz.sizeOf50 (Rds.own (C := (StC ⟨1, (rowF lim vars (ts, bad) l.pat).1, zPl, zPl⟩).toArray) (by repeat (first | exact List.mem_cons_self | apply List.mem_cons_of_mem | apply List.mem_append_right | exact List.mem_append_left _ List.mem_cons_self)) 0 (StC ⟨1, (rowF lim vars (ts, bad) l.pat).1, zPl, zPl⟩) (fun j v hv => by simpa using hv)) rfl) (Hs.tl2 _ _) ⟨HD2, ⟨rfl, hD2⟩, rfl⟩)) | (rw [stepF_2 (by assumption) (by assumption)]; exact GW.ret (Out.of (resCellA rfl rfl Tryz.underlying50 rfl Tryz.sizeOf50 (Rds.own (C := (StC ⟨2, (rowF lim vars (ts, bad) l.pat).1, zPl, zPl⟩).toArray) (by repeat (first | exact List.mem_cons_self | apply List.mem_cons_of_mem | apply List.mem_append_right | exact List.mem_append_left _ List.mem_cons_self)) 0 (StC ⟨2, (rowF lim vars (ts, bad) l.pat).1, zPl, zPl⟩) (fun j v hv => by simpa using hv)) rfl) (Hs.tl2 _ _) ⟨HD2, ⟨rfl, hD2⟩, rfl⟩)) | (rw [stepF_3 (by assumption) (by assumption) (by assumption)]; exact GW.ret (Out.of (resCellA rfl rfl Tryz.underlying50 rfl Tryz.sizeOf50 (Rds.own (C := (StC ⟨3, zRw, (placeF lim vars (ts, bad) l.a).1, (placeF lim vars (placeF lim vars (ts, bad) l.a).2 l.b).1⟩).toArray) (by repeat (first | exact List.mem_cons_self | apply List.mem_cons_of_mem | apply List.mem_append_right | exact List.mem_append_left _ List.mem_cons_self)) 0 (StC ⟨3, zRw, (placeF lim vars (ts, bad) l.a).1, (placeF lim vars (placeF lim vars (ts, bad) l.a).2 l.b).1⟩) (fun j v hv => by simpa using hv)) rfl) (Hs.tl2 _ _) ⟨HD3, ⟨rfl, hD3⟩, rfl⟩)) | (rw [stepF_4 (by assumption) (by assumption) (by assumption)]; exact GW.ret (Out.of (resCellA rfl rfl Tryz.underlying50 rfl Tryz.sizeOf50 (Rds.own (C := (StC ⟨4, zRw, (placeF lim vars (ts, bad) l.a).1, (placeF lim vars (placeF lim vars (ts, bad) l.a).2 l.b).1⟩).toArray) (by repeat (first | exact List.mem_cons_self | apply List.mem_cons_of_mem | apply List.mem_append_right | exact List.mem_append_left _ List.mem_cons_self)) 0 (StC ⟨4, zRw, (placeF lim vars (ts, bad) l.a).1, (placeF lim vars (placeF lim vars (ts, bad) l.a).2 l.b).1⟩) (fun j v hv => by simpa using hv)) rfl) (Hs.tl2 _ _) ⟨HD3, ⟨rfl, hD3⟩, rfl⟩))
   ·try simp only [dcQ] at hc3
    refine GW.skip ?_
    refine GW.seq ?_
    refine GW.draw ((b3, .exact (.cells (Value.agg (LtC l).toArray).cells 89 (0, 0))) :: G) 10 rfl (by kernel_rfl) ?_
    refine GA.val 0 rfl (V.move ⟨rfl, rfl, rfl, rfl⟩ rfl) rfl (by kernel_rfl) (by kernel_rfl) (by kernel_rfl) ?_
    refine GA.val 1 rfl (V.fieldAddr ⟨rfl, rfl, rfl, rfl⟩ rfl Tryz.underlying89 rfl Tryz.sizeOf26) rfl (by kernel_rfl) (by kernel_rfl) (by kernel_rfl) ?_   -- "A"
    refine GA.val 2 rfl (V.load_own (cs := SlC l.a) ⟨rfl, rfl, rfl, rfl⟩ rfl Tryz.underlying26 rfl Tryz.sizeOf26 memG (by rfl) (by rfl)) rfl (by kernel_rfl) (by kernel_rfl) (by kernel_rfl) ?_
    refine GA.val 4 rfl (V.move ⟨rfl, rfl, rfl, rfl⟩ rfl) rfl (by kernel_rfl) (by kernel_rfl) (by kernel_rfl) ?_
    refine GA.val 5 rfl (V.fieldAddr ⟨rfl, rfl, rfl, rfl⟩ rfl Tryz.underlying89 rfl Tryz.sizeOf26) rfl (by kernel_rfl) (by kernel_rfl) (by kernel_rfl) ?_   -- "B"
    refine GA.val 6 rfl (V.load_own (cs := SlC l.b) ⟨rfl, rfl, rfl, rfl⟩ rfl Tryz.underlying26 rfl Tryz.sizeOf26 memG (by rfl) (by rfl)) rfl (by kernel_rfl) (by kernel_rfl) (by kernel_rfl) ?_
    refine GA.one 3 (by first | exact Hs.gj2 _ _ _ _ _ | exact Hs.refl _ | exact Hs.tl _ | exact Hs.tl2 _ _ | exact Hs.tl3 _ _ _ | exact Hs.app _ | exact Hs.sub (by simp)) (by kernel_rfl) rfl ?_
    refine GOps.weak (Keeps.refl _) (Hs.toM2 _ _ _ _ _) ?_
    refine R.call ⟨rfl, rfl, rfl, rfl⟩ rfl (vs := [_, _]) rfl ((plan_place _ _ HD ts lim bD bM c A vars bad hD (hv.mono (fun y hy => by repeat (first | exact hy | apply List.mem_cons_of_mem | apply List.mem_append_right))) hm l.a (hp l.a (by unfold stepSl; rw [if_neg (by omega)]; simp))).mono ?_)
    rintro _ _ ⟨HD2, ⟨rfl, hD2⟩, rfl⟩
    refine GOps.weak (Keeps.refl _) (Hs.fromM2 _ _ _ _ _) ?_
    refine GOps.nil ?_
    refine GA.one 7 (by first | exact Hs.gj2 _ _ _ _ _ | exact Hs.refl _ | exact Hs.tl _ | exact Hs.tl2 _ _ | exact Hs.tl3 _ _ _ | exact Hs.app _ | exact Hs.sub (by simp)) (by kernel_rfl) rfl ?_
    refine GOps.weak (Keeps.refl _) (Hs.toM2 _ _ _ _ _) ?_
    refine R.call ⟨rfl, rfl, rfl, rfl⟩ rfl (vs := [_, _]) rfl ((plan_place _ _ HD2 (placeF lim vars (ts, bad) l.a).2.1 lim bD bM c A vars (placeF lim vars (ts, bad) l.a).2.2 hD2 (hv.mono (fun y hy => by repeat (first | exact hy | apply List.mem_cons_of_mem | apply List.mem_append_right))) hm l.b (hp l.b (by unfold stepSl; rw [if_neg (by omega)]; simp))).mono ?_)
    rintro _ _ ⟨HD3, ⟨rfl, hD3⟩, rfl⟩
    refine GOps.weak (Keeps.refl _) (Hs.fromM2 _ _ _ _ _) ?_
    refine GOps.nil ?_
    refine GA.val 8 rfl (V.build (vs := [(0, _), (2, _), (3, _)]) (cells := (StC ⟨4, zRw, (placeF lim vars (ts, bad) l.a).1, (placeF lim vars (placeF lim vars (ts, bad) l.a).2 l.b).1⟩).toArray) ⟨rfl, rfl, rfl, rfl⟩ rfl (fun w => run_build w 50 _ _ (by kernel_rfl))) rfl (by kernel_rfl) (by kernel_rfl) (by kernel_rfl) ?_
    refine GA.one 9 (by first | exact Hs.gj2 _ _ _ _ _ | exact Hs.refl _ | exact Hs.tl _ | exact Hs.tl2 _ _ | exact Hs.tl3 _ _ _ | exact Hs.app _ | exact Hs.sub (by simp)) (by kernel_rfl) rfl ?_
    refine R.storeAll (G1 := []) rfl rfl rfl rfl rfl Tryz.sizeOf50 rfl rfl rfl rfl ?_
    refine GOps.nil ?_
    refine GA.done (by first | exact Hs.gj2 _ _ _ _ _ | exact Hs.refl _ | exact Hs.tl _ | exact Hs.tl2 _ _ | exact Hs.tl3 _ _ _ | exact Hs.app _ | exact Hs.sub (by simp)) (by kernel_rfl) ?_
    first | (rw [stepF_1 (by assumption)]; exact GW.ret (Out.of (resCellA rfl rfl Tryz.underlying50 rfl Tryz.sizeOf50 (Rds.own (C := (StC ⟨1, (rowF lim vars (ts, bad) l.pat).1, zPl, zPl⟩).toArray) (by repeat (first | exact List.mem_cons_self | apply List.mem_cons_of_mem | apply List.mem_append_right | exact List.mem_append_left _ List.mem_cons_self)) 0 (StC ⟨1, (rowF lim vars (ts, bad) l.pat).1, zPl, zPl⟩) (fun j v hv => by simpa using hv)) rfl) (Hs.tl2 _ _) ⟨HD2, ⟨rfl, hD2⟩, rfl⟩)) | (rw [stepF_2 (by assumption) (by assumption)]; exact GW.ret (Out.of (resCellA rfl rfl Tryz.underlying50 rfl Tryz.sizeOf50 (Rds.own (C := (StC ⟨2, (rowF lim vars (ts, bad) l.pat).1, zPl, zPl⟩).toArray) (by repeat (first | exact List.mem_cons_self | apply List.mem_cons_of_mem | apply List.mem_append_right | exact List.mem_append_left _ List.mem_cons_self)) 0 (StC ⟨2, (rowF lim vars (ts, bad) l.pat).1, zPl, zPl⟩) (fun j v hv => by simpa using hv)) rfl) (Hs.tl2 _ _) ⟨HD2, ⟨rfl, hD2⟩, rfl⟩)) | (rw [stepF_3 (by assumption) (by assumption) (by assumption)]; exact GW.ret (Out.of (resCellA rfl rfl Tryz.underlying50 rfl Tryz.sizeOf50 (Rds.own (C := (StC ⟨3, zRw, (placeF lim vars (ts, bad) l.a).1, (placeF lim vars (placeF lim vars (ts, bad) l.a).2 l.b).1⟩).toArray) (by repeat (first | exact List.mem_cons_self | apply List.mem_cons_of_mem | apply List.mem_append_right | exact List.mem_append_left _ List.mem_cons_self)) 0 (StC ⟨3, zRw, (placeF lim vars (ts, bad) l.a).1, (placeF lim vars (placeF lim vars (ts, bad) l.a).2 l.b).1⟩) (fun j v hv => by simpa using hv)) rfl) (Hs.tl2 _ _) ⟨HD3, ⟨rfl, hD3⟩, rfl⟩)) | (rw [stepF_4 (by assumption) (by assumption) (by assumption)]; exact GW.ret (Out.of (resCellA rfl rfl Tryz.underlying50 rfl Tryz.sizeOf50 (Rds.own (C := (StC ⟨4, zRw, (placeF lim vars (ts, bad) l.a).1, (placeF lim vars (placeF lim vars (ts, bad) l.a).2 l.b).1⟩).toArray) (by repeat (first | exact List.mem_cons_self | apply List.mem_cons_of_mem | apply List.mem_append_right | exact List.mem_append_left _ List.mem_cons_self)) 0 (StC ⟨4, zRw, (placeF lim vars (ts, bad) l.a).1, (placeF lim vars (placeF lim vars (ts, bad) l.a).2 l.b).1⟩) (fun j v hv => by simpa using hv)) rfl) (Hs.tl2 _ _) ⟨HD3, ⟨rfl, hD3⟩, rfl⟩))
end Go.Proofs.YtfddkcmooommeaaGreatDoor.Gl
end
section
namespace Go.Proofs.YtfddkcmooommeaaGreatDoor.Gl
open Go.RowKit Go.Shelf
set_option linter.unusedVariables false
set_option linter.unnecessarySimpa false
set_option linter.unusedSimpArgs false
def spliceL (cs : List Value) (f : Nat) (vs : List Value) : List Value := cs.take f ++ vs ++ cs.drop (f + vs.length)
theorem spliceL_get {cs vs : List Value} {f j : Nat} (h : f + vs.length ≤ cs.length) : (spliceL cs f vs)[j]? = if j < f then cs[j]? else if j < f + vs.length then vs[j - f]? else cs[j]? := by
 unfold spliceL
 split
 ·rename_i hj
  rw [List.append_assoc, List.getElem?_append_left (by rw [List.length_take]; omega), List.getElem?_take_of_lt hj]
 ·rename_i hj
  split
  ·rename_i hj2
   rw [List.append_assoc, List.getElem?_append_right (by rw [List.length_take]; omega), List.getElem?_append_left (by rw [List.length_take]; omega), List.length_take, Nat.min_eq_left (by omega)]
  ·rename_i hj2
   rw [List.getElem?_append_right (by rw [List.length_append, List.length_take]; omega), List.length_append, List.length_take, Nat.min_eq_left (by omega), List.getElem?_drop]
   congr 1
   omega
theorem splice_get {C : Array Value} {vs : List Value} {f j : Nat} (h : f + vs.length ≤ C.size) : (splice C f vs)[j]? = if j < f then C[j]? else if j < f + vs.length then vs[j - f]? else C[j]? := by
 have := spliceL_get (cs := C.toList) (vs := vs) (f := f) (j := j) (by simpa using h)
 unfold splice
 rw [List.getElem?_toArray]
 simpa [spliceL] using this
section
variable {X : Cx} {Q : Post} {fr : Fr} {ds : List Deferred} {G : Hp} {ops : Array Oper} {o : Oper} {rest : List Oper} {d : Nat}
theorem R.storeRow {t : TypeId} {x y : Operand} {b f n m : Nat} {v : Value} {G1 G2 : Hp} {cs : List Value} {e : TypeId} (ho : o.op = .store t x y) (hd : o.dst = none) (hon : wantedO ops fr o = some true)
  (hx : evO fr x = some (.pointer (some ⟨b, f, none⟩))) (hy : evO fr y = some v) (hz : ∀ w, (sizeOf t).run X.P w = .ok n w) (hn : v.cells.size = n) (h1 : v.cells.toList.all (·.oneCell') = true)
  (hG : G = G1 ++ (b, .row cs e m) :: G2) (hl : f + n ≤ cs.length) (K : GOps X ops Q rest fr ds (G1 ++ (b, .row (spliceL cs f v.cells.toList) e m) :: G2)) : GOps X ops Q (o :: rest) fr ds G := by
 subst hG
 have hvl : v.cells.toList.length = n := by simpa using hn
 exact GOps.unit hon hd (fun c => by rw [ho]; simp) (fun ρ w hρ hw => by
  have hb := (hw.own b _ (List.mem_append_right _ List.mem_cons_self)).2
  obtain ⟨C, hC, hsz, hh⟩ := hb
  have hcl : cs.length ≤ C.size := by
   rcases Nat.lt_or_ge C.size cs.length with h | h
   ·have := hh C.size cs[C.size] (List.getElem?_eq_getElem h)
    rw [Array.getElem?_eq_none (Nat.le_refl _)] at this
    cases this
   ·exact h
  have hst := run_storeVar_at (P := X.P) hz hn hC (show f + n ≤ C.size by omega) h1
  refine ⟨w.setRow b (splice C f v.cells.toList), by simp [execOp, ho, hρ _ _ hx, hρ _ _ hy, Instr.storeAt, run_sureAddr, hst], ?_⟩
  refine Sat.turn hw rfl rfl rfl (by simp [World.setRow]) (fun j hj => ?_) ?_
  ·simp only [World.setRow, Array.getElem?_modify]
   rw [if_neg (fun e => hj e.symm)]
  ·rw [setRow_heap w b C _ e (0, 0) hC]
   refine ⟨_, rfl, ?_, fun j u hu => ?_⟩
   ·rw [← hsz]
    simp only [splice, List.size_toArray, List.length_append, List.length_take, List.length_drop, Array.length_toList]
    rw [Array.length_toList] at hvl
    omega
   ·rw [spliceL_get (by rw [hvl]; exact hl)] at hu
    rw [splice_get (by rw [hvl]; omega)]
    split at hu
    ·rename_i hj; rw [if_pos hj]; exact hh j u hu
    ·rename_i hj
     rw [if_neg hj]
     split at hu
     ·rename_i hj2; rw [if_pos hj2]; exact hu
     ·rename_i hj2; rw [if_neg hj2]; exact hh j u hu) K
theorem GOps.valU {G' : Hp} {v : Value} (hw : wantedO ops fr o = some true) (hd : o.dst = none) (hnd : ∀ c, o.op ≠ .defer c)
  (hrun : ∀ (ρ : Operand → Value) w, (∀ x v, evO fr x = some v → ρ x = v) → Sat X.w0 G w → ∃ w', (execOp ρ o).run X.P w = .ok (.value v) w' ∧ Sat X.w0 G' w')
  (h : GOps X ops Q rest fr ds G') : GOps X ops Q (o :: rest) fr ds G := fun n a w hf hs => by
 simp only [wpListIn, wanted_of hf hw, if_true]
 obtain ⟨w', hr, hs'⟩ := hrun a.eval w (fun x v hx => hf.eval hx) hs
 refine ⟨fun _ _ => trivial, ?_⟩
 rw [Oper.semAt_eq _ _ _ hnd, hr, Oper.uponIn_value, hd]
 exact h n _ w' hf hs'
theorem R.clearRow {t e : TypeId} {x : Operand} {sz b f n c m : Nat} {A : Option Addr} {G1 G2 : Hp} {cs : List Value} {ats : Array TypeId} {z : Value} (ho : o.op = .call { callee := .builtin .clear, args := #[x], argTypes := ats }) (hats : ats = #[t]) (hd : o.dst = none) (hon : wantedO ops fr o = some true)
  (hx : evO fr x = some (.slice A n c)) (hu : X.P.underlying t = some (.slice e)) (hz : ∀ w, (zeroValue e).run X.P w = .ok z w) (hzc : z.cells.size = sz) (hz1 : z.cells.toList.all (·.oneCell') = true)
  (hG : G = G1 ++ (b, .row cs e m) :: G2) (hA : n = 0 ∨ (A = some ⟨b, f, none⟩ ∧ f + n * sz ≤ cs.length)) (hf : f ≤ cs.length) (K : GOps X ops Q rest fr ds (G1 ++ (b, .row (cs.take f) e m) :: G2)) : GOps X ops Q (o :: rest) fr ds G := by
 subst hG hats
 have keep : ∀ {w : World}, Sat X.w0 (G1 ++ (b, .row cs e m) :: G2) w → Sat X.w0 (G1 ++ (b, .row (cs.take f) e m) :: G2) w := fun hw => Sat.weakKnow hw (fun y hy => by
  obtain ⟨C, hC, hsz, hh⟩ := hy
  refine ⟨C, hC, hsz, fun j v hv => hh j v ?_⟩
  rw [List.getElem?_take] at hv
  split at hv
  ·exact hv
  ·cases hv)
 rcases Nat.eq_zero_or_pos n with h0 | h0
 ·subst h0
  refine GOps.valU (v := .tuple #[]) hon hd (fun c => by rw [ho]; simp) (fun ρ w hρ hw => ⟨w, ?_, keep hw⟩) K
  simp only [execOp, ho, resolve, invoke, builtin, List.map_toArray, List.map_cons, List.map_nil, hρ _ _ hx, Sem.run_bind, Sem.run_pure, Result.andThen_ok]
  cases A <;> simp [Builtin.clear_, run_underlying hu]
 ·rcases hA with rfl | ⟨rfl, hfit⟩
  ·omega
  ·refine GOps.valU (v := .tuple #[]) hon hd (fun c => by rw [ho]; simp) (fun ρ w hρ hw => ?_) K
   have hb := (hw.own b _ (List.mem_append_right _ List.mem_cons_self)).2
   obtain ⟨C, hC, hsz, hh⟩ := hb
   have hcl : cs.length ≤ C.size := by
    rcases Nat.lt_or_ge C.size cs.length with h | h
    ·have := hh C.size cs[C.size] (List.getElem?_eq_getElem h)
     rw [Array.getElem?_eq_none (Nat.le_refl _)] at this
     cases this
    ·exact h
   have hzl : (Builtin.zeroCells z.cells n).toList.length = n * sz := by rw [Array.length_toList, size_zeroCells, hzc]
   have hst := run_storeCells_at (P := X.P) b f e (Builtin.zeroCells z.cells n).toList 0 C w hC (by rw [hzl]; omega) (fun v hv => by
    have hm : v ∈ z.cells.toList := by
     simp only [Builtin.zeroCells, Array.toList_map, List.mem_map] at hv
     obtain ⟨i, hi, rfl⟩ := hv
     have hpos : 0 < z.cells.size := by
      rcases Nat.eq_zero_or_pos z.cells.size with h | h
      ·simp [h] at hi
      ·exact h
     rw [getElem!_pos z.cells _ (Nat.mod_lt _ hpos)]
     exact Array.mem_toList_iff.2 (Array.getElem_mem _)
    exact (List.all_eq_true.1 hz1) v hm)
   simp only [Nat.add_zero, hzl] at hst
   refine ⟨_, by
    simp only [execOp, ho, resolve, invoke, builtin, List.map_toArray, List.map_cons, List.map_nil, hρ _ _ hx, Sem.run_bind, Sem.run_pure, Result.andThen_ok]
    have : (Builtin.clear_ #[t] o.type #[.slice (some ⟨b, f, none⟩) n c]).run X.P w = .ok (.tuple #[]) (w.setRow b (C.toList.take f ++ (Builtin.zeroCells z.cells n).toList ++ C.toList.drop (f + n * sz)).toArray) := by
     obtain ⟨k, rfl⟩ : ∃ k, n = k + 1 := ⟨n - 1, by omega⟩
     simp [Builtin.clear_, run_underlying hu, hz, hst]
    rw [this]; rfl, ?_⟩
   refine Sat.turn hw rfl rfl rfl (by simp [World.setRow]) (fun j hj => ?_) ?_
   ·simp only [World.setRow, Array.getElem?_modify]
    rw [if_neg (fun e => hj e.symm)]
   ·rw [setRow_heap w b C _ e (0, 0) hC]
    refine ⟨_, rfl, ?_, fun j u hu2 => ?_⟩
    ·rw [← hsz]
     simp only [List.size_toArray, List.length_append, List.length_take, List.length_drop, Array.length_toList, hzl]
     rw [Array.length_toList] at hzl
     omega
    ·rw [List.getElem?_take] at hu2
     split at hu2
     ·rename_i hj
      rw [List.getElem?_toArray, List.append_assoc, List.getElem?_append_left (by rw [List.length_take, Array.length_toList]; omega), List.getElem?_take_of_lt hj, Array.getElem?_toList]
      exact hh j u hu2
     ·cases hu2
theorem R.appendNil {t e : TypeId} {x y : Operand} {ats : Array TypeId} {A : Option Addr} {n c : Nat} {sz bytes : Nat} (h : At X ops fr o (.call { callee := .builtin .append, args := #[x, y], argTypes := ats }) d) (hats : ats = #[t, t])
  (hx : evO fr x = some (.slice A n c)) (hy : evO fr y = some (.slice none 0 0)) (hu : X.P.underlying t = some (.slice e)) (hi : InfoE X.P e sz bytes) (hc : n ≤ c)
  (K : GOps X ops Q rest ((d, .slice A n c) :: fr) ds G) : GOps X ops Q (o :: rest) fr ds G := by
 obtain ⟨i, z, hi1, hz, hzs, hs1, hb1⟩ := hi.ex
 subst hats
 exact R.val h (by simp) (fun ρ w hρ hw => by
  simp only [execOp, h.op, resolve, invoke, builtin, List.map_toArray, List.map_cons, List.map_nil, hρ _ _ hx, hρ _ _ hy, Sem.run_bind, Sem.run_pure, Result.andThen_ok]
  have : (Builtin.append_ #[t, t] o.type #[.slice A n c, .slice none 0 0]).run X.P w = .ok (.slice A n c) w := by
   cases A <;> simp [Builtin.append_, run_underlying hu, sizeOf, typeInfo, hi1, Builtin.lenOf, Builtin.firstCells, hc, storeCells, loadCells]
  rw [this]; rfl) K
theorem R.sliceSL {t e : TypeId} {x y : Operand} {k : IntKind} {A : Option Addr} {n c z : Nat} {i : Int} (h : At X ops fr o (.slice t x (some y) none none) d) (hx : evO fr x = some (.slice A n c)) (hy : evO fr y = some (.int k i)) (hu : X.P.underlying t = some (.slice e)) (hz : ∀ w, (sizeOf e).run X.P w = .ok z w)
  (h0 : 0 ≤ i) (h1 : i ≤ n) (h2 : n ≤ c) (K : GOps X ops Q rest ((d, .slice (cutA A i.toNat z c) (n - i.toNat) (c - i.toNat)) :: fr) ds G) : GOps X ops Q (o :: rest) fr ds G :=
 R.val h (by simp) (fun ρ w hρ hw => by
  simp only [execOp, h.op, Option.map_some, Option.map_none, hρ _ _ hx, hρ _ _ hy, Instr.sliceAt, Sem.run_bind, run_und hu, Result.andThen_ok, Instr.slice, Instr.sliceBounds, Sem.run_pure, Go.run_sliceBound w k i n _ h0 h1, hz]
  rfl) K
end
end Go.Proofs.YtfddkcmooommeaaGreatDoor.Gl
end
section
namespace Go.Proofs.YtfddkcmooommeaaGreatDoor.Gl
open Go.RowKit Go.Shelf
set_option linter.unusedVariables false
set_option linter.unnecessarySimpa false
set_option linter.unusedSimpArgs false
attribute [-simp] List.getD_eq_getElem?_getD
def stsC (ss : List St) : List Value := ss.flatMap StC
theorem stC_len (s : St) : (StC s).length = 11 := rfl
theorem stsC_len (ss : List St) : (stsC ss).length = ss.length * 11 := by
 induction ss with
 | nil => rfl
 | cons s ss ih =>
  have : stsC (s :: ss) = StC s ++ stsC ss := rfl
  rw [this, List.length_append, ih, stC_len, List.length_cons]
  omega
theorem sts_get : ∀ (ss : List St) (i : Nat) (s : St), ss[i]? = some s → ∀ (j : Nat) v, (StC s)[j]? = some v → (stsC ss)[i * 11 + j]? = some v
 | [], i, s, h, _, _, _ => by simp at h
 | t :: ss, 0, s, h, j, v, hv => by
  simp at h
  subst h
  have hj := (List.getElem?_eq_some_iff.1 hv).1
  show (StC t ++ stsC ss)[0 * 11 + j]? = some v
  rw [Nat.zero_mul, Nat.zero_add, List.getElem?_append_left hj]
  exact hv
 | t :: ss, i + 1, s, h, j, v, hv => by
  have ih := sts_get ss i s (by simpa using h) j v hv
  show (StC t ++ stsC ss)[(i + 1) * 11 + j]? = some v
  rw [List.getElem?_append_right (by rw [stC_len]; omega), stC_len, show (i + 1) * 11 + j - 11 = i * 11 + j by omega]
  exact ih
theorem sts_app (a b : List St) : stsC (a ++ b) = stsC a ++ stsC b := List.flatMap_append
theorem sts_one (s : St) : stsC [s] = StC s := by simp [stsC]
theorem sts_take : ∀ (ss : List St) (i : Nat), (stsC ss).take (i * 11) = stsC (ss.take i)
 | [], i => by simp [stsC]
 | s :: ss, 0 => by simp [stsC]
 | s :: ss, i + 1 => by
  show (StC s ++ stsC ss).take ((i + 1) * 11) = StC s ++ stsC (ss.take i)
  rw [List.take_append, stC_len, show (i + 1) * 11 - 11 = i * 11 by omega, sts_take ss i, List.take_of_length_le (by rw [stC_len]; omega)]
theorem sts_drop : ∀ (ss : List St) (i : Nat), (stsC ss).drop (i * 11) = stsC (ss.drop i)
 | [], i => by simp [stsC]
 | s :: ss, 0 => by simp [stsC]
 | s :: ss, i + 1 => by
  show (StC s ++ stsC ss).drop ((i + 1) * 11) = stsC (ss.drop i)
  rw [List.drop_append, stC_len, show (i + 1) * 11 - 11 = i * 11 by omega, sts_drop ss i, List.drop_eq_nil_of_le (by rw [stC_len]; omega)]
  rfl
theorem sts_put {ss : List St} {i : Nat} (x : St) (h : i < ss.length) : spliceL (stsC ss) (0 + (i : Int).toNat * 11) (Value.agg (StC x).toArray).cells.toList = stsC (ss.set i x) := by
 rw [show 0 + (i : Int).toNat * 11 = i * 11 by simp]
 unfold spliceL
 have e : (Value.agg (StC x).toArray).cells.toList = StC x := rfl
 rw [e, stC_len, sts_take, show i * 11 + 11 = (i + 1) * 11 by omega, sts_drop, List.set_eq_take_append_cons_drop, if_pos h, sts_app]
 show stsC (ss.take i) ++ StC x ++ stsC (ss.drop (i + 1)) = stsC (ss.take i) ++ (StC x ++ stsC (ss.drop (i + 1)))
 rw [List.append_assoc]
def StsAt (w0 : World) (G : Hp) (A : Option Addr) (ss : List St) : Prop := RowAt w0 G 11 (fun s cs => cs = StC s) A ss
theorem st_load {w0 : World} {G : Hp} {b m i : Nat} {ss : List St} {x : St} (hm : (b, Know.row (stsC ss) 50 m) ∈ G) (hx : ss[i]? = some x) : Rds w0 G b (0 + i * 11) (StC x) := fun j v hv => .own hm (by show (stsC ss)[0 + i * 11 + j]? = _; rw [Nat.zero_add]; exact sts_get ss i x hx j v hv)
theorem sts_at {w0 : World} {G : Hp} {b m : Nat} {ss : List St} (hm : (b, Know.row (stsC ss) 50 m) ∈ G) : StsAt w0 G (some ⟨b, 0, none⟩) ss := fun i x hx => ⟨b, 0, _, rfl, rfl, st_load hm hx⟩
theorem del_start {p : St → Bool} {ss : List St} {i : Nat} {x : St} (hx : ss[i]? = some x) (h0 : (ss.take i).any p = false) (hp : p x = true) : ss.take i = (ss.take (i + 1)).filter (fun x => !p x) := by
 rw [List.take_add_one, hx, List.filter_append]
 rw [List.any_eq_false] at h0
 have h1 : (ss.take i).filter (fun x => !p x) = ss.take i := List.filter_eq_self.2 (fun a ha => by have := h0 a ha; simpa using this)
 simp [h1, hp]
theorem del_yes {p : St → Bool} {ss cur : List St} {i j : Nat} {x : St} (hx : ss[j]? = some x) (hp : p x = false) (hij : i < j) (hl : cur.length = ss.length) (h1 : cur.take i = (ss.take j).filter (fun x => !p x)) : (cur.set i x).take (i + 1) = (ss.take (j + 1)).filter (fun x => !p x) := by
 have hj := (List.getElem?_eq_some_iff.1 hx).1
 rw [List.take_add_one (l := ss), hx, List.filter_append, ← h1, List.take_add_one, List.take_set_of_le (Nat.le_refl i), List.getElem?_set_self (by omega)]
 simp [hp]
theorem del_no {p : St → Bool} {ss cur : List St} {i j : Nat} {x : St} (hx : ss[j]? = some x) (hp : p x = true) (h1 : cur.take i = (ss.take j).filter (fun x => !p x)) : cur.take i = (ss.take (j + 1)).filter (fun x => !p x) := by
 rw [List.take_add_one, hx, List.filter_append, ← h1]
 simp [hp]
theorem drop_next {ss cur : List St} {j : Nat} (h : cur.drop j = ss.drop j) : cur.drop (j + 1) = ss.drop (j + 1) := by
 rw [← List.drop_drop, ← List.drop_drop, h]
theorem drop_set {ss cur : List St} {i j : Nat} {x : St} (h : cur.drop j = ss.drop j) (hij : i < j) : (cur.set i x).drop (j + 1) = ss.drop (j + 1) := by
 rw [List.drop_set_of_lt (by omega)]
 exact drop_next h
theorem drop_get {ss cur : List St} {j : Nat} {x : St} (h : cur.drop j = ss.drop j) (hx : ss[j]? = some x) : cur[j]? = some x := by
 have h1 : (cur.drop j)[0]? = (ss.drop j)[0]? := by rw [h]
 rw [List.getElem?_drop, List.getElem?_drop, Nat.add_zero] at h1
 rw [h1]; exact hx
theorem filter_none {p : St → Bool} {ss : List St} (h : ss.any p = false) : ss.filter (fun x => !p x) = ss := by
 rw [List.any_eq_false] at h
 exact List.filter_eq_self.2 (fun a ha => by have := h a ha; simpa using this)
theorem del_clear (b i cp : Nat) (cur : List St) {n : Nat} (hi : i ≤ n) (hl : cur.length = n) (hn : n ≤ cp) : n - (i : Int).toNat = 0 ∨ (cutA (some ⟨b, 0, none⟩) (i : Int).toNat 11 cp = some ⟨b, i * 11, none⟩ ∧ i * 11 + (n - (i : Int).toNat) * 11 ≤ (stsC cur).length) := by
 rw [stsC_len, hl]
 by_cases h : cp = i
 ·left; simp; omega
 ·right
  unfold cutA
  simp only [Int.toNat_natCast]
  rw [if_neg h]
  refine ⟨by simp [add_none], by omega⟩
theorem Hs.rowEq {b m : Nat} {cs ds : List Value} (h : cs = ds) (x : Nat × Know) (R : Hp) : Hs ([x] ++ (b, .row cs 50 m) :: R) ((b, .row ds 50 m) :: R) := h ▸ Hs.tl x
theorem idx_St (w0 : World) (G : Hp) (A : Option Addr) (ss : List St) (cp k : Nat) (cap : Array Value) (p : St → Bool) (hs : StsAt w0 G A ss) (hlen : ss.length ≤ 100000) (hf : ∀ o ∈ ss, ∀ G1 : Hp, (∀ y ∈ G, y ∈ G1) → GC Tryz.prog w0 k (#[] ++ #[Value.agg (StC o).toArray] ++ cap) (fun v G' => v = .bool (p o) ∧ G1 = G') G1) : GC Tryz.prog w0 90 #[.slice A ss.length cp, .func (.func k) #[] cap] (fun v G' => ((∃ (i : Nat) (x : St), v = .int .i64 (i : Nat) ∧ ss[i]? = some x ∧ (ss.take i).any p = false ∧ p x = true) ∨ (v = .int .i64 (-1) ∧ ss.any p = false)) ∧ G = G') G := by
 refine GC.body (args := [.slice A ss.length cp, .func (.func k) #[] cap]) Tryz.func90 rfl (by kernel_rfl) rfl ?_
 refine GW.seq ?_
 refine GW.region ?_
 refine R.assign ⟨rfl, rfl, rfl, rfl⟩ rfl ?_
 refine GOps.nil ?_
 refine GW.seq ?_
 refine GW.seq ?_
 refine GW.region ?_
 refine R.move ⟨rfl, rfl, rfl, rfl⟩ rfl ?_
 refine R.lenS ⟨rfl, rfl, rfl, rfl⟩ rfl rfl Tryz.underlying39 ?_
 refine R.move ⟨rfl, rfl, rfl, rfl⟩ rfl ?_
 refine GOps.nil ?_
 refine GW.block ?_
 refine GW.loopI (fun i : Nat => [(0, .slice A ss.length cp), (1, .func (.func k) #[] cap), (7, .int .i64 ss.length), (8, .int .i64 i)]) (fun i => G) (fun i => ss.length - i) (fun i => i ≤ ss.length ∧ (ss.take i).any p = false) 0
  (by repeat (first | exact Keeps.nil _ | refine Keeps.cons rfl ?_)) (Hs.refl _) (⟨by omega, by simp⟩) ?_
 rintro i ⟨hi, h0⟩
 refine GW.seq ?_
 refine GW.region ?_
 refine R.lss ⟨rfl, rfl, rfl, rfl⟩ rfl rfl ?_
 refine GOps.nil ?_
 refine GW.seq ?_
 refine GW.ite rfl (fun hc1 => ?_) (fun hc1 => ?_)
 ·try simp only [dcQ] at hc1
  obtain ⟨x, hx⟩ : ∃ x, ss[i]? = some x := ⟨_, List.getElem?_eq_getElem (by omega)⟩
  obtain ⟨xb, xo, cs, rfl, rfl, hrd⟩ := hs i x hx
  refine GW.skip ?_
  refine GW.seq ?_
  refine GW.block ?_
  refine GW.seq ?_
  refine GW.region ?_
  refine R.move ⟨rfl, rfl, rfl, rfl⟩ rfl ?_
  refine R.assign ⟨rfl, rfl, rfl, rfl⟩ rfl ?_
  refine GOps.nil ?_
  refine GW.seq ?_
  refine GW.region ?_
  refine R.move ⟨rfl, rfl, rfl, rfl⟩ rfl ?_
  refine R.move ⟨rfl, rfl, rfl, rfl⟩ rfl ?_
  refine R.move ⟨rfl, rfl, rfl, rfl⟩ rfl ?_
  refine R.indexAddrS ⟨rfl, rfl, rfl, rfl⟩ rfl rfl Tryz.underlying39 Tryz.sizeOf50 (by omega) (by omega) ?_
  refine R.loadA ⟨rfl, rfl, rfl, rfl⟩ rfl Tryz.underlying50 rfl Tryz.sizeOf50 (hrd) (by rfl) ?_
  refine R.call ⟨rfl, rfl, rfl, rfl⟩ rfl (vs := [_]) rfl ((hf x (List.mem_of_getElem? hx) _ (fun y hy => hy)).mono ?_)
  rintro _ _ ⟨rfl, rfl⟩
  refine GOps.nil ?_
  refine GW.ite rfl (fun hc2 => ?_) (fun hc2 => ?_)
  ·try simp only [dcQ] at hc2
   refine GW.seq ?_
   refine GW.region ?_
   refine R.move ⟨rfl, rfl, rfl, rfl⟩ rfl ?_
   refine R.assign ⟨rfl, rfl, rfl, rfl⟩ rfl ?_
   refine GOps.nil ?_
   first | exact GW.ret (Out.of (Res.one rfl rfl) (Hs.refl _) ⟨.inl ⟨i, x, rfl, hx, h0, by assumption⟩, rfl⟩) | exact GW.ret (Out.of (Res.one rfl rfl) (Hs.refl _) ⟨.inr ⟨rfl, any_of_take p ss i (by omega) h0⟩, rfl⟩)
  ·try simp only [dcQ] at hc2
   refine GW.skip ?_
   refine GW.region ?_
   refine R.add (r := (((i + 1) : Nat) : Int)) ⟨rfl, rfl, rfl, rfl⟩ rfl rfl (by rw [wrap64_id (by omega) (by omega)]; omega) ?_
   refine R.move ⟨rfl, rfl, rfl, rfl⟩ rfl ?_
   refine GOps.nil ?_
   exact ⟨i + 1, by omega, ⟨by omega, any_take_succ p ss i x hx h0 (by assumption)⟩, rfl, by repeat (first | exact Keeps.nil _ | refine Keeps.cons rfl ?_), by first | exact Hs.refl _ | exact Hs.tl _ | exact Hs.tl2 _ _⟩
 ·try simp only [dcQ] at hc1
  refine GW.exit ?_
  refine GW.seq ?_
  refine GW.region ?_
  refine R.assign ⟨rfl, rfl, rfl, rfl⟩ rfl ?_
  refine GOps.nil ?_
  first | exact GW.ret (Out.of (Res.one rfl rfl) (Hs.refl _) ⟨.inl ⟨i, x, rfl, hx, h0, by assumption⟩, rfl⟩) | exact GW.ret (Out.of (Res.one rfl rfl) (Hs.refl _) ⟨.inr ⟨rfl, any_of_take p ss i (by omega) h0⟩, rfl⟩)
theorem del_row (w0 : World) (G : Hp) (b m : Nat) (ss : List St) (cp k : Nat) (cap : Array Value) (p : St → Bool) (hcp : ss.length ≤ cp) (hlen : ss.length ≤ 100000) (hf : ∀ o ∈ ss, ∀ G1 : Hp, (∀ y ∈ G, y ∈ G1) → GC Tryz.prog w0 k (#[] ++ #[Value.agg (StC o).toArray] ++ cap) (fun v G' => v = .bool (p o) ∧ G1 = G') G1) : GC Tryz.prog w0 64 #[.slice (some ⟨b, 0, none⟩) ss.length cp, .func (.func k) #[] cap] (fun v G' => v = .slice (some ⟨b, 0, none⟩) (ss.filter (fun x => !p x)).length cp ∧ (b, .row (stsC (ss.filter (fun x => !p x))) 50 m) :: G = G') ((b, .row (stsC ss) 50 m) :: G) := by
 refine GC.body (args := [.slice (some ⟨b, 0, none⟩) ss.length cp, .func (.func k) #[] cap]) Tryz.func64 rfl (by kernel_rfl) rfl ?_
 refine GW.seq ?_
 refine GW.region ?_
 refine R.assign ⟨rfl, rfl, rfl, rfl⟩ rfl ?_
 refine GOps.nil ?_
 refine GW.seq ?_
 refine GW.region ?_
 refine R.move ⟨rfl, rfl, rfl, rfl⟩ rfl ?_
 refine R.move ⟨rfl, rfl, rfl, rfl⟩ rfl ?_
 refine R.call ⟨rfl, rfl, rfl, rfl⟩ rfl (vs := [_, _]) rfl ((idx_St _ _ _ ss cp k cap p (sts_at List.mem_cons_self) hlen (fun o ho G1 h1 => hf o ho G1 (fun y hy => h1 y (List.mem_cons_of_mem _ hy)))).mono ?_)
 rintro _ _ ⟨⟨i0, x0, rfl, hx0, h00, hp0⟩ | ⟨rfl, hnone⟩, rfl⟩
 ·have hi0 := (List.getElem?_eq_some_iff.1 hx0).1
  refine R.assign ⟨rfl, rfl, rfl, rfl⟩ rfl ?_
  refine GOps.nil ?_
  refine GW.seq ?_
  refine GW.seq ?_
  refine GW.region ?_
  refine R.move ⟨rfl, rfl, rfl, rfl⟩ rfl ?_
  refine R.eqI ⟨rfl, rfl, rfl, rfl⟩ rfl rfl ?_
  refine GOps.nil ?_
  refine GW.ite rfl (fun hc1 => ?_) (fun hc1 => ?_)
  ·try simp only [dcQ] at hc1
   exfalso; omega
  ·try simp only [dcQ] at hc1
   refine GW.skip ?_
   refine GW.seq ?_
   refine GW.seq ?_
   refine GW.region ?_
   refine R.move ⟨rfl, rfl, rfl, rfl⟩ rfl ?_
   refine R.add (r := ((i0 + 1 : Nat) : Int)) ⟨rfl, rfl, rfl, rfl⟩ rfl rfl (by rw [wrap64_id (by omega) (by omega)]; omega) ?_
   refine R.assign ⟨rfl, rfl, rfl, rfl⟩ rfl ?_
   refine GOps.nil ?_
   refine GW.block ?_
   refine GW.loop4 (fun (j : Nat) (cur : List St) (i : Nat) (u1 : Unit) => [(0, .slice (some ⟨b, 0, none⟩) ss.length cp), (1, .func (.func k) #[] cap), (5, .int .i64 (i : Nat)), (6, .int .i64 j)]) (fun (j : Nat) (cur : List St) (i : Nat) (u1 : Unit) => (b, .row (stsC cur) 50 m) :: G) (fun j : Nat => ss.length - j) (fun (j : Nat) (cur : List St) (i : Nat) (u1 : Unit) => i < j ∧ j ≤ ss.length ∧ cur.length = ss.length ∧ cur.take i = (ss.take j).filter (fun x => !p x) ∧ cur.drop j = ss.drop j) (i0 + 1) (ss) (i0) (())
    (by repeat (first | exact Keeps.nil _ | refine Keeps.cons rfl ?_)) (Hs.refl _) (⟨by omega, by omega, rfl, del_start hx0 h00 hp0, rfl⟩) ?_
   rintro j cur i u1 ⟨hij, hjl, hcl, hct, hcd⟩
   refine GW.seq ?_
   refine GW.seq ?_
   refine GW.region ?_
   refine R.move ⟨rfl, rfl, rfl, rfl⟩ rfl ?_
   refine R.move ⟨rfl, rfl, rfl, rfl⟩ rfl ?_
   refine R.lenS ⟨rfl, rfl, rfl, rfl⟩ rfl rfl Tryz.underlying39 ?_
   refine R.lss ⟨rfl, rfl, rfl, rfl⟩ rfl rfl ?_
   refine GOps.nil ?_
   refine GW.ite rfl (fun hc2 => ?_) (fun hc2 => ?_)
   ·try simp only [dcQ] at hc2
    obtain ⟨x, hx⟩ : ∃ x, ss[j]? = some x := ⟨_, List.getElem?_eq_getElem (by omega)⟩
    refine GW.skip ?_
    refine GW.seq ?_
    refine GW.block ?_
    refine GW.seq ?_
    refine GW.region ?_
    refine R.move ⟨rfl, rfl, rfl, rfl⟩ rfl ?_
    refine R.move ⟨rfl, rfl, rfl, rfl⟩ rfl ?_
    refine R.indexAddrS ⟨rfl, rfl, rfl, rfl⟩ rfl rfl Tryz.underlying39 Tryz.sizeOf50 (by omega) (by omega) ?_
    refine R.loadA ⟨rfl, rfl, rfl, rfl⟩ rfl Tryz.underlying50 rfl Tryz.sizeOf50 (st_load (i := j) List.mem_cons_self (drop_get hcd hx)) (by rfl) ?_
    refine R.alloc ⟨rfl, rfl, rfl, rfl⟩ Tryz.zeroValue50 fun b7 => ?_
    refine R.storeAll (G1 := []) rfl rfl rfl rfl rfl Tryz.sizeOf50 rfl rfl rfl rfl ?_
    refine GOps.nil ?_
    refine GW.seq ?_
    refine GW.region ?_
    refine R.move ⟨rfl, rfl, rfl, rfl⟩ rfl ?_
    refine R.load_own (cs := StC x) ⟨rfl, rfl, rfl, rfl⟩ rfl Tryz.underlying50 rfl Tryz.sizeOf50 memG (by rfl) (by rfl) ?_
    refine R.call ⟨rfl, rfl, rfl, rfl⟩ rfl (vs := [_]) rfl ((hf x (List.mem_of_getElem? hx) _ (fun y hy => by repeat (first | exact hy | apply List.mem_cons_of_mem))).mono ?_)
    rintro _ _ ⟨rfl, rfl⟩
    refine R.not ⟨rfl, rfl, rfl, rfl⟩ rfl ?_
    refine GOps.nil ?_
    refine GW.ite rfl (fun hc3 => ?_) (fun hc3 => ?_)
    ·try simp only [dcQ] at hc3
     refine GW.seq ?_
     refine GW.region ?_
     refine R.move ⟨rfl, rfl, rfl, rfl⟩ rfl ?_
     refine R.move ⟨rfl, rfl, rfl, rfl⟩ rfl ?_
     refine R.load_own (cs := StC x) ⟨rfl, rfl, rfl, rfl⟩ rfl Tryz.underlying50 rfl Tryz.sizeOf50 memG (by rfl) (by rfl) ?_
     refine R.indexAddrS ⟨rfl, rfl, rfl, rfl⟩ rfl rfl Tryz.underlying39 Tryz.sizeOf50 (by omega) (by omega) ?_
     refine R.storeRow (G1 := [_]) rfl rfl rfl rfl rfl Tryz.sizeOf50 rfl rfl (rfl) (by rw [stsC_len]; omega) ?_
     refine GOps.nil ?_
     refine GW.region ?_
     refine R.move ⟨rfl, rfl, rfl, rfl⟩ rfl ?_
     refine R.add (r := ((i + 1 : Nat) : Int)) ⟨rfl, rfl, rfl, rfl⟩ rfl rfl (by rw [wrap64_id (by omega) (by omega)]; omega) ?_
     refine R.assign ⟨rfl, rfl, rfl, rfl⟩ rfl ?_
     refine GOps.nil ?_
     refine GW.region ?_
     refine R.move ⟨rfl, rfl, rfl, rfl⟩ rfl ?_
     refine R.add (r := (((j + 1) : Nat) : Int)) ⟨rfl, rfl, rfl, rfl⟩ rfl rfl (by rw [wrap64_id (by omega) (by omega)]; omega) ?_
     refine R.assign ⟨rfl, rfl, rfl, rfl⟩ rfl ?_
     refine GOps.nil ?_
     first | exact ⟨j + 1, cur.set i x, i + 1, (), by omega, ⟨by omega, by omega, by rw [List.length_set]; exact hcl, del_yes hx (by assumption) hij hcl hct, drop_set hcd hij⟩, rfl, by repeat (first | exact Keeps.nil _ | refine Keeps.cons rfl ?_), Hs.rowEq (sts_put x (by omega)) _ _⟩ | exact ⟨j + 1, cur, i, (), by omega, ⟨by omega, by omega, hcl, del_no hx (by assumption) hct, drop_next hcd⟩, rfl, by repeat (first | exact Keeps.nil _ | refine Keeps.cons rfl ?_), Hs.tl _⟩
    ·try simp only [dcQ] at hc3
     refine GW.skip ?_
     refine GW.region ?_
     refine R.move ⟨rfl, rfl, rfl, rfl⟩ rfl ?_
     refine R.add (r := (((j + 1) : Nat) : Int)) ⟨rfl, rfl, rfl, rfl⟩ rfl rfl (by rw [wrap64_id (by omega) (by omega)]; omega) ?_
     refine R.assign ⟨rfl, rfl, rfl, rfl⟩ rfl ?_
     refine GOps.nil ?_
     first | exact ⟨j + 1, cur.set i x, i + 1, (), by omega, ⟨by omega, by omega, by rw [List.length_set]; exact hcl, del_yes hx (by assumption) hij hcl hct, drop_set hcd hij⟩, rfl, by repeat (first | exact Keeps.nil _ | refine Keeps.cons rfl ?_), Hs.rowEq (sts_put x (by omega)) _ _⟩ | exact ⟨j + 1, cur, i, (), by omega, ⟨by omega, by omega, hcl, del_no hx (by assumption) hct, drop_next hcd⟩, rfl, by repeat (first | exact Keeps.nil _ | refine Keeps.cons rfl ?_), Hs.tl _⟩
   ·try simp only [dcQ] at hc2
    obtain rfl : j = ss.length := by omega
    rw [List.take_length] at hct
    have hil : (ss.filter (fun x => !p x)).length = i := by rw [← hct, List.length_take]; omega
    refine GW.exit ?_
    refine GW.seq ?_
    refine GW.region ?_
    refine R.move ⟨rfl, rfl, rfl, rfl⟩ rfl ?_
    refine R.move ⟨rfl, rfl, rfl, rfl⟩ rfl ?_
    refine R.sliceSL ⟨rfl, rfl, rfl, rfl⟩ rfl rfl Tryz.underlying39 Tryz.sizeOf50 (by omega) (by omega) (by omega) ?_
    refine R.clearRow (sz := 11) (G1 := []) rfl rfl rfl rfl rfl Tryz.underlying39 Tryz.zeroValue50 rfl rfl rfl (del_clear _ _ _ _ (by omega) hcl hcp) (by rw [stsC_len]; omega) ?_
    refine GOps.nil ?_
    refine GW.seq ?_
    refine GW.region ?_
    refine R.move ⟨rfl, rfl, rfl, rfl⟩ rfl ?_
    refine R.move ⟨rfl, rfl, rfl, rfl⟩ rfl ?_
    refine R.sliceSH (m := i) ⟨rfl, rfl, rfl, rfl⟩ rfl rfl Tryz.underlying39 Tryz.sizeOf50 (fun a h => by cases h; rfl) (by omega) (by omega) (rfl) ?_
    refine R.assign ⟨rfl, rfl, rfl, rfl⟩ rfl ?_
    refine GOps.nil ?_
    first | exact GW.ret (Out.of (Res.one rfl rfl) (Hs.refl _) ⟨by rw [filter_none hnone], by rw [filter_none hnone]⟩) | exact GW.ret (Out.of (Res.one rfl rfl) (Hs.refl _) ⟨by rw [hil], by rw [← hct, ← sts_take]; rfl⟩)
 ·refine R.assign ⟨rfl, rfl, rfl, rfl⟩ rfl ?_
  refine GOps.nil ?_
  refine GW.seq ?_
  refine GW.seq ?_
  refine GW.region ?_
  refine R.move ⟨rfl, rfl, rfl, rfl⟩ rfl ?_
  refine R.eqI ⟨rfl, rfl, rfl, rfl⟩ rfl rfl ?_
  refine GOps.nil ?_
  refine GW.cond_t rfl ?_
  refine GW.seq ?_
  refine GW.region ?_
  refine R.move ⟨rfl, rfl, rfl, rfl⟩ rfl ?_
  refine R.assign ⟨rfl, rfl, rfl, rfl⟩ rfl ?_
  refine GOps.nil ?_
  first | exact GW.ret (Out.of (Res.one rfl rfl) (Hs.refl _) ⟨by rw [filter_none hnone], by rw [filter_none hnone]⟩) | exact GW.ret (Out.of (Res.one rfl rfl) (Hs.refl _) ⟨by rw [hil], by rw [← hct, ← sts_take]; rfl⟩)
end Go.Proofs.YtfddkcmooommeaaGreatDoor.Gl
end
section
namespace Go.Proofs.YtfddkcmooommeaaGreatDoor.Gl
open Go.RowKit Go.Shelf
set_option linter.unusedVariables false
set_option linter.unnecessarySimpa false
set_option linter.unusedSimpArgs false
attribute [-simp] List.getD_eq_getElem?_getD
theorem SlAt.sts {ss : List St} {v : Value} {H : Hp} (w0 : World) (G : Hp) (h : SlAt 11 50 (stsC ss) ss.length v H) : ∃ A c, v = .slice A ss.length c ∧ StsAt w0 (H ++ G) A ss ∧ ss.length ≤ c := by
 generalize hn : ss.length = n at h
 cases h with
 | nil h0 hc =>
  subst h0
  rw [List.length_eq_zero_iff] at hn
  subst hn
  exact ⟨none, 0, rfl, fun i x hx => by simp at hx, Nat.le_refl _⟩
 | row b cap hl hc => exact ⟨some ⟨b, 0, none⟩, cap, rfl, sts_at (List.mem_append_left _ List.mem_cons_self), hc⟩
def boolC (l : List Bool) : List Value := l.map Value.bool
theorem bool_load {w0 : World} {G : Hp} {b i : Nat} {l : List Bool} {x : Bool} (hm : (b, Know.exact (.cells (boolC l).toArray 4 (0, 0))) ∈ G) (h : l[i]? = some x) : Rd w0 G b (0 + i * 1) (.bool x) := by
 refine .own hm ?_
 show (boolC l).toArray[0 + i * 1]? = _
 rw [Nat.zero_add, Nat.mul_one, List.getElem?_toArray]
 simp [boolC, h]
def placesSt (s : St) : List Pl := if s.kind = 1 ∨ s.kind = 2 then [s.row.p0, s.row.p1, s.row.p2] else [s.a, s.b]
def plsC (l : List Pl) : List Value := l.flatMap PlC
theorem pls_get : ∀ (l : List Pl) (i : Nat) (p : Pl), l[i]? = some p → ∀ (j : Nat) v, (PlC p)[j]? = some v → (plsC l)[i * 2 + j]? = some v
 | [], i, s, h, _, _, _ => by simp at h
 | t :: l, 0, s, h, j, v, hv => by
  simp at h
  subst h
  have hj := (List.getElem?_eq_some_iff.1 hv).1
  show (PlC t ++ plsC l)[0 * 2 + j]? = some v
  rw [Nat.zero_mul, Nat.zero_add, List.getElem?_append_left hj]
  exact hv
 | t :: l, i + 1, s, h, j, v, hv => by
  have ih := pls_get l i s (by simpa using h) j v hv
  show (PlC t ++ plsC l)[(i + 1) * 2 + j]? = some v
  rw [List.getElem?_append_right (by show 2 ≤ _; omega), show (i + 1) * 2 + j - (PlC t).length = i * 2 + j by show (i + 1) * 2 + j - 2 = _; omega]
  exact ih
theorem pl_load {w0 : World} {G : Hp} {b o i : Nat} {l : List Pl} {x : Pl} (h : Rds w0 G b o (plsC l)) (hx : l[i]? = some x) : Rds w0 G b (o + i * 2) (PlC x) := fun j v hv => by
 have := h (i * 2 + j) v (pls_get l i x hx j v hv)
 rwa [← Nat.add_assoc] at this
theorem places_row {w0 : World} {G : Hp} {b : Nat} {s : St} (hm : (b, Know.exact (.cells (Value.agg (StC s).toArray).cells 50 (0, 0))) ∈ G) : Rds w0 G b (0 + 1) (plsC [s.row.p0, s.row.p1, s.row.p2]) := fun j v hv => by
 refine .own hm ?_
 show (StC s).toArray[0 + 1 + j]? = some v
 rw [Nat.zero_add, Nat.add_comm, List.getElem?_toArray]
 show (Value.int .i64 s.kind :: (plsC [s.row.p0, s.row.p1, s.row.p2] ++ (PlC s.a ++ PlC s.b)))[j + 1]? = some v
 rw [List.getElem?_cons_succ, List.getElem?_append_left (List.getElem?_eq_some_iff.1 hv).1]
 exact hv
theorem placesSt_r {s : St} (h : s.kind = 1 ∨ s.kind = 2) : placesSt s = [s.row.p0, s.row.p1, s.row.p2] := by unfold placesSt; rw [if_pos h]
theorem placesSt_ab {s : St} (h1 : ¬ s.kind = 1) (h2 : ¬ s.kind = 2) : placesSt s = [s.a, s.b] := by unfold placesSt; rw [if_neg (by omega)]
theorem placesSt_len (s : St) : (placesSt s).length ≤ 3 := by unfold placesSt; split <;> simp
def okPl (kn : List Bool) (p : Pl) : Bool := !(decide (p.var ≥ 0) && !(kn.getD p.var.toNat false))
def readyF (kn : List Bool) (s : St) : Bool := (placesSt s).all (okPl kn)
theorem okPl_neg {kn : List Bool} {p : Pl} (h : ¬ p.var ≥ 0) : okPl kn p = true := by unfold okPl; rw [decide_eq_false h]; rfl
theorem okPl_pos {kn : List Bool} {p : Pl} {x : Bool} (h : p.var ≥ 0) (hx : kn[p.var.toNat]? = some x) : okPl kn p = x := by unfold okPl; rw [decide_eq_true h, List.getD, hx]; cases x <;> rfl
theorem del_nil (w0 : World) (G : Hp) (k : Nat) (cap : Array Value) : GC Tryz.prog w0 64 #[.slice none 0 0, .func (.func k) #[] cap] (fun v G' => v = .slice none 0 0 ∧ G = G') G := by
 refine GC.body (args := [.slice none 0 0, .func (.func k) #[] cap]) Tryz.func64 rfl (by kernel_rfl) rfl ?_
 refine GW.seq ?_
 refine GW.region ?_
 refine R.assign ⟨rfl, rfl, rfl, rfl⟩ rfl ?_
 refine GOps.nil ?_
 refine GW.seq ?_
 refine GW.region ?_
 refine R.move ⟨rfl, rfl, rfl, rfl⟩ rfl ?_
 refine R.move ⟨rfl, rfl, rfl, rfl⟩ rfl ?_
 refine R.call ⟨rfl, rfl, rfl, rfl⟩ rfl (vs := [_, _]) rfl ((idx_St _ _ none [] 0 k cap (fun _ => true) (fun i x h => by simp at h) (by simp) (fun o ho => by simp at ho)).mono ?_)
 rintro _ _ ⟨⟨i0, x0, rfl, hx0, h00, hp0⟩ | ⟨rfl, hnone⟩, rfl⟩
 ·exfalso; simp at hx0
 ·refine R.assign ⟨rfl, rfl, rfl, rfl⟩ rfl ?_
  refine GOps.nil ?_
  refine GW.seq ?_
  refine GW.seq ?_
  refine GW.region ?_
  refine R.move ⟨rfl, rfl, rfl, rfl⟩ rfl ?_
  refine R.eqI ⟨rfl, rfl, rfl, rfl⟩ rfl rfl ?_
  refine GOps.nil ?_
  refine GW.cond_t rfl ?_
  refine GW.seq ?_
  refine GW.region ?_
  refine R.move ⟨rfl, rfl, rfl, rfl⟩ rfl ?_
  refine R.assign ⟨rfl, rfl, rfl, rfl⟩ rfl ?_
  refine GOps.nil ?_
  exact GW.ret (Out.of (Res.one rfl rfl) (Hs.refl _) ⟨rfl, rfl⟩)
theorem del_St (w0 : World) (G : Hp) (v : Value) (H : Hp) (ss : List St) (k : Nat) (cap : Array Value) (p : St → Bool) (h : SlAt 11 50 (stsC ss) ss.length v H) (hlen : ss.length ≤ 100000)
  (hf : ∀ o ∈ ss, ∀ G1 : Hp, (∀ y ∈ G, y ∈ G1) → GC Tryz.prog w0 k (#[] ++ #[Value.agg (StC o).toArray] ++ cap) (fun v G' => v = .bool (p o) ∧ G1 = G') G1) :
  GC Tryz.prog w0 64 #[v, .func (.func k) #[] cap] (fun v' G' => ∃ H', SlAt 11 50 (stsC (ss.filter fun x => !p x)) (ss.filter fun x => !p x).length v' H' ∧ H' ++ G = G') (H ++ G) := by
 generalize hn : ss.length = n at h
 cases h with
 | nil h0 hc =>
  subst h0
  rw [List.length_eq_zero_iff] at hn
  subst hn
  refine (del_nil w0 G k cap).mono ?_
  rintro v' G' ⟨rfl, rfl⟩
  exact ⟨[], .nil rfl rfl, rfl⟩
 | row b cp hl hc =>
  subst hn
  refine (del_row w0 G b (cp * 11) ss cp k cap p hc hlen hf).mono ?_
  rintro v' G' ⟨rfl, rfl⟩
  exact ⟨_, .row b cp (stsC_len _) (Nat.le_trans (List.length_filter_le _ _) hc), rfl⟩
theorem plan_places (w0 : World) (G : Hp) (s : St) : GC Tryz.prog w0 62 #[.agg (StC s).toArray] (fun v G' => ∃ b o H, (v = .slice (some ⟨b, o, none⟩) (placesSt s).length (placesSt s).length ∧ Rds w0 (H ++ G) b o (plsC (placesSt s))) ∧ H ++ G = G') G := by
 refine GC.body (args := [.agg (StC s).toArray]) Tryz.func62 rfl (by kernel_rfl) rfl ?_
 refine GW.seq ?_
 refine GW.region ?_
 refine R.box ⟨rfl, rfl, rfl, rfl⟩ rfl fun b1 => ?_
 refine R.assign ⟨rfl, rfl, rfl, rfl⟩ rfl ?_
 refine GOps.nil ?_
 refine GW.seq ?_
 refine GW.seq ?_
 refine GW.region ?_
 refine R.fieldAddr ⟨rfl, rfl, rfl, rfl⟩ rfl Tryz.underlying50 rfl Tryz.sizeOf48 ?_   -- "Kind"
 refine R.load1 ⟨rfl, rfl, rfl, rfl⟩ rfl Tryz.underlying48 rfl (.own' memG (by rfl)) ?_
 refine R.eqI ⟨rfl, rfl, rfl, rfl⟩ rfl rfl ?_
 refine R.move ⟨rfl, rfl, rfl, rfl⟩ rfl ?_
 refine GOps.caseB 6 rfl (fun hg1 => ?_) (fun hg1 => ?_)
 ·try simp only [dcQ] at hg1
  refine GOps.skip rfl rfl rfl ?_
  refine GOps.skip rfl rfl rfl ?_
  refine GOps.skip rfl rfl rfl ?_
  refine R.pick_t ⟨rfl, rfl, rfl, rfl⟩ rfl rfl ?_
  refine GOps.nil ?_
  refine GW.cond_t rfl ?_
  refine GW.seq ?_
  refine GW.region ?_
  refine R.fieldAddr ⟨rfl, rfl, rfl, rfl⟩ rfl Tryz.underlying50 rfl Tryz.sizeOf38 ?_   -- "Row"
  refine R.sliceArr ⟨rfl, rfl, rfl, rfl⟩ rfl Tryz.underlying38 Tryz.sizeOf37 ?_
  refine R.assign ⟨rfl, rfl, rfl, rfl⟩ rfl ?_
  refine GOps.nil ?_
  first | (rw [placesSt_r (by omega)]; exact GW.ret (Out.of (Res.one rfl rfl) (Hs.refl _) ⟨b1, _, [(b1, _)], ⟨rfl, places_row List.mem_cons_self⟩, rfl⟩)) | (rw [placesSt_ab (by omega) (by omega)]; exact GW.ret (Out.of (Res.one rfl rfl) (Hs.refl _) ⟨b17, 0, [(b17, _), (b1, _)], ⟨rfl, Rds.own List.mem_cons_self 0 _ (fun j v hv => by simpa using hv)⟩, rfl⟩))
 ·try simp only [dcQ] at hg1
  refine R.fieldAddr ⟨rfl, rfl, rfl, rfl⟩ rfl Tryz.underlying50 rfl Tryz.sizeOf48 ?_   -- "Kind"
  refine R.load1 ⟨rfl, rfl, rfl, rfl⟩ rfl Tryz.underlying48 rfl (.own' memG (by rfl)) ?_
  refine R.eqI ⟨rfl, rfl, rfl, rfl⟩ rfl rfl ?_
  refine R.pick_f ⟨rfl, rfl, rfl, rfl⟩ rfl rfl ?_
  refine GOps.nil ?_
  refine GW.ite rfl (fun hc2 => ?_) (fun hc2 => ?_)
  ·try simp only [dcQ] at hc2
   refine GW.seq ?_
   refine GW.region ?_
   refine R.fieldAddr ⟨rfl, rfl, rfl, rfl⟩ rfl Tryz.underlying50 rfl Tryz.sizeOf38 ?_   -- "Row"
   refine R.sliceArr ⟨rfl, rfl, rfl, rfl⟩ rfl Tryz.underlying38 Tryz.sizeOf37 ?_
   refine R.assign ⟨rfl, rfl, rfl, rfl⟩ rfl ?_
   refine GOps.nil ?_
   first | (rw [placesSt_r (by omega)]; exact GW.ret (Out.of (Res.one rfl rfl) (Hs.refl _) ⟨b1, _, [(b1, _)], ⟨rfl, places_row List.mem_cons_self⟩, rfl⟩)) | (rw [placesSt_ab (by omega) (by omega)]; exact GW.ret (Out.of (Res.one rfl rfl) (Hs.refl _) ⟨b17, 0, [(b17, _), (b1, _)], ⟨rfl, Rds.own List.mem_cons_self 0 _ (fun j v hv => by simpa using hv)⟩, rfl⟩))
  ·try simp only [dcQ] at hc2
   refine GW.skip ?_
   refine GW.seq ?_
   refine GW.region ?_
   refine R.fieldAddr ⟨rfl, rfl, rfl, rfl⟩ rfl Tryz.underlying50 rfl Tryz.sizeOf37 ?_   -- "A"
   refine R.load_own (cs := PlC s.a) ⟨rfl, rfl, rfl, rfl⟩ rfl Tryz.underlying37 rfl Tryz.sizeOf37 memG (by rfl) (by rfl) ?_
   refine R.fieldAddr ⟨rfl, rfl, rfl, rfl⟩ rfl Tryz.underlying50 rfl Tryz.sizeOf37 ?_   -- "B"
   refine R.load_own (cs := PlC s.b) ⟨rfl, rfl, rfl, rfl⟩ rfl Tryz.underlying37 rfl Tryz.sizeOf37 memG (by rfl) (by rfl) ?_
   refine R.buildSliceF (sz := 2) (bytes := 16) (vs := [_, _]) (cs := plsC [s.a, s.b]) ⟨rfl, rfl, rfl, rfl⟩ rfl Tryz.underlying51 (InfoE.mk (by kernel_rfl)) rfl rfl rfl rfl rfl fun b17 => ?_
   refine R.assign ⟨rfl, rfl, rfl, rfl⟩ rfl ?_
   refine GOps.nil ?_
   first | (rw [placesSt_r (by omega)]; exact GW.ret (Out.of (Res.one rfl rfl) (Hs.refl _) ⟨b1, _, [(b1, _)], ⟨rfl, places_row List.mem_cons_self⟩, rfl⟩)) | (rw [placesSt_ab (by omega) (by omega)]; exact GW.ret (Out.of (Res.one rfl rfl) (Hs.refl _) ⟨b17, 0, [(b17, _), (b1, _)], ⟨rfl, Rds.own List.mem_cons_self 0 _ (fun j v hv => by simpa using hv)⟩, rfl⟩))
theorem steps_ready (w0 : World) (G : Hp) (s : St) (kn : List Bool) (bK bk : Nat) (hK : (bK, Know.exact (.cells #[.slice (some ⟨bk, 0, none⟩) kn.length kn.length] 47 (0, 0))) ∈ G) (hk : (bk, Know.exact (.cells (boolC kn).toArray 4 (0, 0))) ∈ G) (hb : ∀ p ∈ placesSt s, p.var < kn.length) : GC Tryz.prog w0 61 (#[] ++ #[Value.agg (StC s).toArray] ++ #[.pointer (some ⟨bK, 0, none⟩)]) (fun v G' => v = .bool (readyF kn s) ∧ G = G') G := by
 refine GC.body (args := [.agg (StC s).toArray, .pointer (some ⟨bK, 0, none⟩)]) Tryz.func61 rfl (by kernel_rfl) rfl ?_
 refine GW.seq ?_
 refine GW.region ?_
 refine R.box ⟨rfl, rfl, rfl, rfl⟩ rfl fun b2 => ?_
 refine R.assign ⟨rfl, rfl, rfl, rfl⟩ rfl ?_
 refine GOps.nil ?_
 refine GW.seq ?_
 refine GW.seq ?_
 refine GW.region ?_
 refine R.load_own (cs := StC s) ⟨rfl, rfl, rfl, rfl⟩ rfl Tryz.underlying50 rfl Tryz.sizeOf50 memG (by rfl) (by rfl) ?_
 refine R.call ⟨rfl, rfl, rfl, rfl⟩ rfl (vs := [_]) rfl ((plan_places _ _ s).mono ?_)
 rintro _ _ ⟨pb, po, H, ⟨rfl, hpr⟩, rfl⟩
 have hpl := placesSt_len s
 refine R.lenS ⟨rfl, rfl, rfl, rfl⟩ rfl rfl Tryz.underlying51 ?_
 refine R.move ⟨rfl, rfl, rfl, rfl⟩ rfl ?_
 refine GOps.nil ?_
 refine GW.block ?_
 refine GW.loopI (fun i : Nat => [(1, .pointer (some ⟨bK, 0, none⟩)), (7, .slice (some ⟨pb, po, none⟩) (placesSt s).length (placesSt s).length), (8, .int .i64 (placesSt s).length), (9, .int .i64 i)]) (fun i => H ++ (b2, .exact (.cells (Value.agg (StC s).toArray).cells 50 (0, 0))) :: G) (fun i => (placesSt s).length - i) (fun i => i ≤ (placesSt s).length ∧ ((placesSt s).take i).all (okPl kn) = true) 0
  (by repeat (first | exact Keeps.nil _ | refine Keeps.cons rfl ?_)) (Hs.refl _) (⟨by omega, by simp⟩) ?_
 rintro i ⟨hi, h0⟩
 refine GW.seq ?_
 refine GW.region ?_
 refine R.lss ⟨rfl, rfl, rfl, rfl⟩ rfl rfl ?_
 refine GOps.nil ?_
 refine GW.seq ?_
 refine GW.ite rfl (fun hc1 => ?_) (fun hc1 => ?_)
 ·try simp only [dcQ] at hc1
  obtain ⟨x, hx⟩ : ∃ x, (placesSt s)[i]? = some x := ⟨_, List.getElem?_eq_getElem (by omega)⟩
  have hxb := hb x (List.mem_of_getElem? hx)
  refine GW.skip ?_
  refine GW.seq ?_
  refine GW.block ?_
  refine GW.seq ?_
  refine GW.region ?_
  refine R.indexAddrS ⟨rfl, rfl, rfl, rfl⟩ rfl rfl Tryz.underlying51 Tryz.sizeOf37 (by omega) (by omega) ?_
  refine R.loadA ⟨rfl, rfl, rfl, rfl⟩ rfl Tryz.underlying37 rfl Tryz.sizeOf37 (pl_load (i := i) hpr hx) (by rfl) ?_
  refine R.alloc ⟨rfl, rfl, rfl, rfl⟩ Tryz.zeroValue37 fun b5 => ?_
  refine R.storeAll (G1 := []) rfl rfl rfl rfl rfl Tryz.sizeOf37 rfl rfl rfl rfl ?_
  refine GOps.nil ?_
  refine GW.seq ?_
  refine GW.region ?_
  refine R.fieldAddr ⟨rfl, rfl, rfl, rfl⟩ rfl Tryz.underlying37 rfl Tryz.sizeOf3 ?_   -- "Var"
  refine R.load1 ⟨rfl, rfl, rfl, rfl⟩ rfl Tryz.underlying3 rfl (.own' memG (by rfl)) ?_
  refine R.geq ⟨rfl, rfl, rfl, rfl⟩ rfl rfl ?_
  refine R.move ⟨rfl, rfl, rfl, rfl⟩ rfl ?_
  refine GOps.caseB 16 rfl (fun hg2 => ?_) (fun hg2 => ?_)
  ·try simp only [dcQ] at hg2
   ·obtain ⟨y, hkx⟩ : ∃ y, kn[x.var.toNat]? = some y := ⟨_, List.getElem?_eq_getElem (by omega)⟩
    refine R.load1 ⟨rfl, rfl, rfl, rfl⟩ rfl Tryz.underlying47 rfl (.own' (List.mem_cons_of_mem _ (List.mem_append_right _ (List.mem_cons_of_mem _ hK))) rfl) ?_
    refine R.fieldAddr ⟨rfl, rfl, rfl, rfl⟩ rfl Tryz.underlying37 rfl Tryz.sizeOf3 ?_   -- "Var"
    refine R.load1 ⟨rfl, rfl, rfl, rfl⟩ rfl Tryz.underlying3 rfl (.own' memG (by rfl)) ?_
    refine R.indexAddrS ⟨rfl, rfl, rfl, rfl⟩ rfl rfl Tryz.underlying47 Tryz.sizeOf4 (by omega) (by omega) ?_
    refine R.load1 ⟨rfl, rfl, rfl, rfl⟩ rfl Tryz.underlying4 rfl (bool_load (i := x.var.toNat) (List.mem_cons_of_mem _ (List.mem_append_right _ (List.mem_cons_of_mem _ hk))) hkx) ?_
    refine R.not ⟨rfl, rfl, rfl, rfl⟩ rfl ?_
    refine R.pick_t ⟨rfl, rfl, rfl, rfl⟩ rfl rfl ?_
    refine GOps.nil ?_
    refine GW.ite rfl (fun hc3 => ?_) (fun hc3 => ?_)
    ·try simp only [dcQ] at hc3
     refine GW.seq ?_
     refine GW.region ?_
     refine R.assign ⟨rfl, rfl, rfl, rfl⟩ rfl ?_
     refine GOps.nil ?_
     first | exact GW.ret (Out.of (Res.one rfl rfl) ((Hs.tl _).trans ((Hs.app _).trans (Hs.tl _))) ⟨by unfold readyF; rw [all_of_get (okPl kn) (placesSt s) i x hx (by rw [okPl_pos (by omega) hkx]; assumption)], rfl⟩) | exact GW.ret (Out.of (Res.one rfl rfl) ((Hs.app _).trans (Hs.tl _)) ⟨by unfold readyF; rw [all_of_take (okPl kn) (placesSt s) i (by omega) h0], rfl⟩)
    ·try simp only [dcQ] at hc3
     refine GW.skip ?_
     refine GW.region ?_
     refine R.add (r := (((i + 1) : Nat) : Int)) ⟨rfl, rfl, rfl, rfl⟩ rfl rfl (by rw [wrap64_id (by omega) (by omega)]; omega) ?_
     refine R.move ⟨rfl, rfl, rfl, rfl⟩ rfl ?_
     refine GOps.nil ?_
     exact ⟨i + 1, by omega, ⟨by omega, all_take_succ (okPl kn) (placesSt s) i x hx h0 (by first | exact okPl_neg (by omega) | (rw [okPl_pos (by omega) hkx]; assumption))⟩, rfl, by repeat (first | exact Keeps.nil _ | refine Keeps.cons rfl ?_), by first | exact Hs.refl _ | exact Hs.tl _ | exact Hs.tl2 _ _⟩
  ·try simp only [dcQ] at hg2
   refine GOps.skip rfl rfl rfl ?_
   refine GOps.skip rfl rfl rfl ?_
   refine GOps.skip rfl rfl rfl ?_
   refine GOps.skip rfl rfl rfl ?_
   refine GOps.skip rfl rfl rfl ?_
   refine GOps.skip rfl rfl rfl ?_
   refine R.pick_f ⟨rfl, rfl, rfl, rfl⟩ rfl rfl ?_
   refine GOps.nil ?_
   refine GW.cond_f rfl ?_
   refine GW.skip ?_
   refine GW.region ?_
   refine R.add (r := (((i + 1) : Nat) : Int)) ⟨rfl, rfl, rfl, rfl⟩ rfl rfl (by rw [wrap64_id (by omega) (by omega)]; omega) ?_
   refine R.move ⟨rfl, rfl, rfl, rfl⟩ rfl ?_
   refine GOps.nil ?_
   exact ⟨i + 1, by omega, ⟨by omega, all_take_succ (okPl kn) (placesSt s) i x hx h0 (by first | exact okPl_neg (by omega) | (rw [okPl_pos (by omega) hkx]; assumption))⟩, rfl, by repeat (first | exact Keeps.nil _ | refine Keeps.cons rfl ?_), by first | exact Hs.refl _ | exact Hs.tl _ | exact Hs.tl2 _ _⟩
 ·try simp only [dcQ] at hc1
  refine GW.exit ?_
  refine GW.seq ?_
  refine GW.region ?_
  refine R.assign ⟨rfl, rfl, rfl, rfl⟩ rfl ?_
  refine GOps.nil ?_
  first | exact GW.ret (Out.of (Res.one rfl rfl) ((Hs.tl _).trans ((Hs.app _).trans (Hs.tl _))) ⟨by unfold readyF; rw [all_of_get (okPl kn) (placesSt s) i x hx (by rw [okPl_pos (by omega) hkx]; assumption)], rfl⟩) | exact GW.ret (Out.of (Res.one rfl rfl) ((Hs.app _).trans (Hs.tl _)) ⟨by unfold readyF; rw [all_of_take (okPl kn) (placesSt s) i (by omega) h0], rfl⟩)
end Go.Proofs.YtfddkcmooommeaaGreatDoor.Gl
end
section
namespace Go.Proofs.YtfddkcmooommeaaGreatDoor.Gl
open Go.RowKit Go.Shelf
set_option linter.unusedVariables false
set_option linter.unnecessarySimpa false
set_option linter.unusedSimpArgs false
attribute [-simp] List.getD_eq_getElem?_getD
theorem flush_yes {kn : List Bool} {out wait : List St} {i : Nat} {x : St} {v : Value} {H : Hp} (hx : wait[i]? = some x) (hr : readyF kn x = true) (h : SlAt 11 50 (stsC (out ++ (wait.take i).filter (readyF kn)) ++ StC x) ((out ++ (wait.take i).filter (readyF kn)).length + 1) v H) : SlAt 11 50 (stsC (out ++ (wait.take (i + 1)).filter (readyF kn))) (out ++ (wait.take (i + 1)).filter (readyF kn)).length v H := by
 have e : (out ++ (wait.take (i + 1)).filter (readyF kn)) = (out ++ (wait.take i).filter (readyF kn)) ++ [x] := by rw [List.take_add_one, hx, List.filter_append, ← List.append_assoc]; simp [hr]
 rw [e, sts_app, sts_one, List.length_append]
 exact h
theorem flush_no {kn : List Bool} {out wait : List St} {i : Nat} {x : St} {v : Value} {H : Hp} (hx : wait[i]? = some x) (hr : readyF kn x = false) (h : SlAt 11 50 (stsC (out ++ (wait.take i).filter (readyF kn))) (out ++ (wait.take i).filter (readyF kn)).length v H) : SlAt 11 50 (stsC (out ++ (wait.take (i + 1)).filter (readyF kn))) (out ++ (wait.take (i + 1)).filter (readyF kn)).length v H := by
 have e : (out ++ (wait.take (i + 1)).filter (readyF kn)) = (out ++ (wait.take i).filter (readyF kn)) := by rw [List.take_add_one, hx, List.filter_append]; simp [hr]
 rw [e]
 exact h
theorem out_len {kn : List Bool} {out wait : List St} {i : Nat} (hi : i ≤ wait.length) : (out ++ (wait.take i).filter (readyF kn)).length ≤ out.length + wait.length := by
 have := List.length_filter_le (readyF kn) (wait.take i)
 rw [List.length_take] at this
 rw [List.length_append]
 omega
theorem steps_flush (w0 : World) (G : Hp) (vw vo : Value) (Hw Ho : Hp) (wait out : List St) (bW bR bO : Nat) (kn : List Bool) (bK bk : Nat) (hK : (bK, Know.exact (.cells #[.slice (some ⟨bk, 0, none⟩) kn.length kn.length] 47 (0, 0))) ∈ G) (hk : (bk, Know.exact (.cells (boolC kn).toArray 4 (0, 0))) ∈ G) (hR : (bR, Know.exact (.cells #[.func (.func 61) #[] #[.pointer (some ⟨bK, 0, none⟩)]] 133 (0, 0))) ∈ G) (hw : SlAt 11 50 (stsC wait) wait.length vw Hw) (ho : SlAt 11 50 (stsC out) out.length vo Ho) (hwl : wait.length ≤ 10000) (hol : out.length ≤ 10000)
  (hb : ∀ s ∈ wait, ∀ p ∈ placesSt s, p.var < kn.length) : GC Tryz.prog w0 63 (#[] ++ #[] ++ #[.pointer (some ⟨bW, 0, none⟩), .pointer (some ⟨bR, 0, none⟩), .pointer (some ⟨bO, 0, none⟩)]) (fun v G' => ∃ vw' Hw' vo' Ho', (v = .tuple #[] ∧ SlAt 11 50 (stsC (wait.filter fun s => !readyF kn s)) (wait.filter fun s => !readyF kn s).length vw' Hw' ∧ SlAt 11 50 (stsC (out ++ wait.filter (readyF kn))) (out ++ wait.filter (readyF kn)).length vo' Ho') ∧ (bW, .exact (.cells #[vw'] 39 (0, 0))) :: (bO, .exact (.cells #[vo'] 39 (0, 0))) :: (Hw' ++ (Ho' ++ G)) = G') ((bW, .exact (.cells #[vw] 39 (0, 0))) :: (bO, .exact (.cells #[vo] 39 (0, 0))) :: (Hw ++ (Ho ++ G))) := by
 obtain ⟨Aw, cw, rfl, hws, hcw⟩ := hw.sts w0 []
 rw [List.append_nil] at hws
 refine GC.body (args := [.pointer (some ⟨bW, 0, none⟩), .pointer (some ⟨bR, 0, none⟩), .pointer (some ⟨bO, 0, none⟩)]) Tryz.func63 rfl (by kernel_rfl) rfl ?_
 refine GW.seq ?_
 refine GW.seq ?_
 refine GW.region ?_
 refine R.load1 ⟨rfl, rfl, rfl, rfl⟩ rfl Tryz.underlying39 rfl (.own' memG (by rfl)) ?_
 refine R.lenS ⟨rfl, rfl, rfl, rfl⟩ rfl rfl Tryz.underlying39 ?_
 refine R.move ⟨rfl, rfl, rfl, rfl⟩ rfl ?_
 refine GOps.nil ?_
 refine GW.block ?_
 refine GW.loop4 (fun (i : Nat) (vo' : Value) (Ho' : Hp) (u1 : Unit) => [(0, .pointer (some ⟨bW, 0, none⟩)), (1, .pointer (some ⟨bR, 0, none⟩)), (2, .pointer (some ⟨bO, 0, none⟩)), (5, .slice Aw wait.length cw), (6, .int .i64 wait.length), (7, .int .i64 i)]) (fun (i : Nat) (vo' : Value) (Ho' : Hp) (u1 : Unit) => (bW, .exact (.cells #[.slice Aw wait.length cw] 39 (0, 0))) :: (bO, .exact (.cells #[vo'] 39 (0, 0))) :: (Hw ++ (Ho' ++ G))) (fun i : Nat => wait.length - i) (fun (i : Nat) (vo' : Value) (Ho' : Hp) (u1 : Unit) => i ≤ wait.length ∧ SlAt 11 50 (stsC (out ++ (wait.take i).filter (readyF kn))) (out ++ (wait.take i).filter (readyF kn)).length vo' Ho') 0 (vo) (Ho) (())
  (by repeat (first | exact Keeps.nil _ | refine Keeps.cons rfl ?_)) (Hs.refl _) (⟨by omega, by simpa using ho⟩) ?_
 rintro i vo' Ho' u1 ⟨hi, ho'⟩
 refine GW.seq ?_
 refine GW.region ?_
 refine R.lss ⟨rfl, rfl, rfl, rfl⟩ rfl rfl ?_
 refine GOps.nil ?_
 refine GW.seq ?_
 refine GW.ite rfl (fun hc1 => ?_) (fun hc1 => ?_)
 ·try simp only [dcQ] at hc1
  obtain ⟨x, hx⟩ : ∃ x, wait[i]? = some x := ⟨_, List.getElem?_eq_getElem (by omega)⟩
  obtain ⟨xb, xo, cs, rfl, rfl, hrd⟩ := hws i x hx
  have hol2 := out_len (kn := kn) (out := out) (wait := wait) (i := i) (by omega)
  refine GW.skip ?_
  refine GW.seq ?_
  refine GW.block ?_
  refine GW.seq ?_
  refine GW.region ?_
  refine R.indexAddrS ⟨rfl, rfl, rfl, rfl⟩ rfl rfl Tryz.underlying39 Tryz.sizeOf50 (by omega) (by omega) ?_
  refine R.loadA ⟨rfl, rfl, rfl, rfl⟩ rfl Tryz.underlying50 rfl Tryz.sizeOf50 (hrd.mono (fun y hy => List.mem_cons_of_mem _ (List.mem_cons_of_mem _ (List.mem_append_left _ hy)))) (by rfl) ?_
  refine R.alloc ⟨rfl, rfl, rfl, rfl⟩ Tryz.zeroValue50 fun b4 => ?_
  refine R.storeAll (G1 := []) rfl rfl rfl rfl rfl Tryz.sizeOf50 rfl rfl rfl rfl ?_
  refine GOps.nil ?_
  refine GW.seq ?_
  refine GW.region ?_
  refine R.load1 ⟨rfl, rfl, rfl, rfl⟩ rfl Tryz.underlying133 rfl (.own' (List.mem_cons_of_mem _ (List.mem_cons_of_mem _ (List.mem_cons_of_mem _ (List.mem_append_right _ (List.mem_append_right _ hR))))) rfl) ?_
  refine R.load_own (cs := StC x) ⟨rfl, rfl, rfl, rfl⟩ rfl Tryz.underlying50 rfl Tryz.sizeOf50 memG (by rfl) (by rfl) ?_
  refine R.call ⟨rfl, rfl, rfl, rfl⟩ rfl (vs := [_]) rfl ((steps_ready _ _ x kn bK bk (List.mem_cons_of_mem _ (List.mem_cons_of_mem _ (List.mem_cons_of_mem _ (List.mem_append_right _ (List.mem_append_right _ hK))))) (List.mem_cons_of_mem _ (List.mem_cons_of_mem _ (List.mem_cons_of_mem _ (List.mem_append_right _ (List.mem_append_right _ hk))))) (hb x (List.mem_of_getElem? hx))).mono ?_)
  rintro _ _ ⟨rfl, rfl⟩
  refine GOps.nil ?_
  refine GW.ite rfl (fun hc2 => ?_) (fun hc2 => ?_)
  ·try simp only [dcQ] at hc2
   refine GW.region ?_
   refine R.load1 ⟨rfl, rfl, rfl, rfl⟩ rfl Tryz.underlying39 rfl (.own' memG (by rfl)) ?_
   refine R.load_own (cs := StC x) ⟨rfl, rfl, rfl, rfl⟩ rfl Tryz.underlying50 rfl Tryz.sizeOf50 memG (by rfl) (by rfl) ?_
   refine R.buildSliceF (sz := 11) (bytes := 88) (vs := [_]) (cs := StC x) ⟨rfl, rfl, rfl, rfl⟩ rfl Tryz.underlying39 (InfoE.mk (by kernel_rfl)) rfl rfl rfl rfl rfl fun b16 => ?_
   refine R.append (sz := 11) (bytes := 88) (G1 := [_, _, _, _] ++ Hw) (H := Ho') (news := StC x) ⟨rfl, rfl, rfl, rfl⟩ rfl rfl rfl Tryz.underlying39 (InfoE.mk (by kernel_rfl)) (ho') (rfl) (rfl) (.own (by repeat (first | exact List.mem_cons_self | apply List.mem_cons_of_mem | apply List.mem_append_right | exact List.mem_append_left _ List.mem_cons_self)) 0 _ (fun j v hv => by simpa using hv)) (by omega) (by rfl) (by omega) (by omega) fun v17 H17 hv17 => ?_
   obtain ⟨A17, c17, rfl, hc17⟩ := hv17.split
   refine R.storeAll (G1 := [_, _, _]) rfl rfl rfl rfl rfl Tryz.sizeOf39 rfl rfl rfl rfl ?_
   refine GOps.nil ?_
   refine GW.region ?_
   refine R.add (r := (((i + 1) : Nat) : Int)) ⟨rfl, rfl, rfl, rfl⟩ rfl rfl (by rw [wrap64_id (by omega) (by omega)]; omega) ?_
   refine R.move ⟨rfl, rfl, rfl, rfl⟩ rfl ?_
   refine GOps.nil ?_
   first | exact ⟨i + 1, .slice A17 _ c17, H17, (), by omega, ⟨by omega, flush_yes hx (by assumption) hv17⟩, rfl, by repeat (first | exact Keeps.nil _ | refine Keeps.cons rfl ?_), Hs.tl2 _ _⟩ | exact ⟨i + 1, vo', Ho', (), by omega, ⟨by omega, flush_no hx (by assumption) ho'⟩, rfl, by repeat (first | exact Keeps.nil _ | refine Keeps.cons rfl ?_), Hs.tl _⟩
  ·try simp only [dcQ] at hc2
   refine GW.skip ?_
   refine GW.region ?_
   refine R.add (r := (((i + 1) : Nat) : Int)) ⟨rfl, rfl, rfl, rfl⟩ rfl rfl (by rw [wrap64_id (by omega) (by omega)]; omega) ?_
   refine R.move ⟨rfl, rfl, rfl, rfl⟩ rfl ?_
   refine GOps.nil ?_
   first | exact ⟨i + 1, .slice A17 _ c17, H17, (), by omega, ⟨by omega, flush_yes hx (by assumption) hv17⟩, rfl, by repeat (first | exact Keeps.nil _ | refine Keeps.cons rfl ?_), Hs.tl2 _ _⟩ | exact ⟨i + 1, vo', Ho', (), by omega, ⟨by omega, flush_no hx (by assumption) ho'⟩, rfl, by repeat (first | exact Keeps.nil _ | refine Keeps.cons rfl ?_), Hs.tl _⟩
 ·try simp only [dcQ] at hc1
  rw [List.take_of_length_le (by omega)] at ho'
  refine GW.exit ?_
  refine GW.region ?_
  refine R.load1 ⟨rfl, rfl, rfl, rfl⟩ rfl Tryz.underlying39 rfl (.own' memG (by rfl)) ?_
  refine R.load1 ⟨rfl, rfl, rfl, rfl⟩ rfl Tryz.underlying133 rfl (.own' (List.mem_cons_of_mem _ (List.mem_cons_of_mem _ (List.mem_append_right _ (List.mem_append_right _ hR)))) rfl) ?_
  refine GOps.weak (Keeps.refl _) (Hs.perm (pm2 _ _ _ _)) ?_
  refine R.call ⟨rfl, rfl, rfl, rfl⟩ rfl (vs := [_, _]) rfl ((del_St _ _ (.slice Aw wait.length cw) Hw wait 61 #[.pointer (some ⟨bK, 0, none⟩)] (readyF kn) hw (by omega) (fun o ho G1 h1 => steps_ready _ _ o kn bK bk (h1 _ (List.mem_cons_of_mem _ (List.mem_cons_of_mem _ (List.mem_append_right _ hK)))) (h1 _ (List.mem_cons_of_mem _ (List.mem_cons_of_mem _ (List.mem_append_right _ hk)))) (hb o ho))).mono ?_)
  rintro v21 _ ⟨Hw2, hw2, rfl⟩
  refine GOps.weak (Keeps.refl _) (Hs.perm (pm2 _ _ _ _).symm) ?_
  obtain ⟨A21, c21, rfl, hc21⟩ := hw2.split
  refine R.storeAll (G1 := []) rfl rfl rfl rfl rfl Tryz.sizeOf39 rfl rfl rfl rfl ?_
  refine GOps.nil ?_
  exact Out.end_ (Res.none rfl) (Hs.refl _) ⟨.slice A21 _ c21, Hw2, vo', Ho', ⟨rfl, hw2, ho'⟩, rfl⟩
end Go.Proofs.YtfddkcmooommeaaGreatDoor.Gl
end
section
namespace Go.Proofs.YtfddkcmooommeaaGreatDoor.Gl
open Go.RowKit Go.Shelf
set_option linter.unusedVariables false
set_option linter.unnecessarySimpa false
set_option linter.unusedSimpArgs false
attribute [-simp] List.getD_eq_getElem?_getD
def zC (xs : List Int) : List Value := xs.map fun z => Value.int .i64 z
def IntsAt (w0 : World) (G : Hp) (A : Option Addr) (xs : List Int) : Prop := RowAt w0 G 1 (fun z cs => cs = [.int .i64 z]) A xs
theorem IntsAt.mono {w0 : World} {G G' : Hp} {A : Option Addr} {xs : List Int} (h : IntsAt w0 G A xs) (hs : ∀ y ∈ G, y ∈ G') : IntsAt w0 G' A xs := fun i x hx => by obtain ⟨b, o, cs, h1, h2, h3⟩ := h i x hx; exact ⟨b, o, cs, h1, h2, h3.mono hs⟩
theorem int_at {w0 : World} {G : Hp} {A : Option Addr} {xs : List Int} {i : Nat} {z : Int} (h : IntsAt w0 G A xs) (hx : xs[i]? = some z) : ∃ b o, A = some ⟨b, o, none⟩ ∧ Rd w0 G b (o + i * 1) (.int .i64 z) := by
 obtain ⟨b, o, cs, hA, rfl, h3⟩ := h i z hx
 exact ⟨b, o, hA, h3 0 _ rfl⟩
theorem SlAt.ints {xs : List Int} {v : Value} {H : Hp} (w0 : World) (G : Hp) (h : SlAt 1 3 (zC xs) xs.length v H) : ∃ A c, v = .slice A xs.length c ∧ IntsAt w0 (H ++ G) A xs ∧ xs.length ≤ c := by
 generalize hn : xs.length = n at h
 cases h with
 | nil h0 hc =>
  subst h0
  rw [List.length_eq_zero_iff] at hn
  subst hn
  exact ⟨none, 0, rfl, fun i x hx => by simp at hx, Nat.le_refl _⟩
 | row b cap hl hc =>
  refine ⟨some ⟨b, 0, none⟩, cap, rfl, fun i x hx => ⟨b, 0, _, rfl, rfl, fun j v hv => ?_⟩, hc⟩
  refine .own (List.mem_append_left _ List.mem_cons_self) ?_
  cases j with
  | zero =>
   simp at hv
   subst hv
   show (zC xs)[0 + i * 1 + 0]? = _
   rw [show 0 + i * 1 + 0 = i by omega]
   simp [zC, hx]
  | succ j => simp at hv
theorem exact_ints {w0 : World} {G : Hp} {b : Nat} {ns : List Nat} (h : (b, Know.exact (.cells (intC ns).toArray 3 (0, 0))) ∈ G) : IntsAt w0 G (some ⟨b, 0, none⟩) (ns.map fun n : Nat => (n : Int)) := by
 intro i x hx
 rw [List.getElem?_map, Option.map_eq_some_iff] at hx
 obtain ⟨n, hn, rfl⟩ := hx
 refine ⟨b, 0, _, rfl, rfl, fun j v hv => ?_⟩
 refine .own h ?_
 cases j with
 | zero =>
  simp at hv
  subst hv
  show (intC ns).toArray[0 + i * 1 + 0]? = _
  rw [show 0 + i * 1 + 0 = i by omega, List.getElem?_toArray]
  exact intC_get hn
 | succ j => simp at hv
def upL (n i : Nat) : List Nat := (List.range n).map fun j => if j < i then j else 0
theorem upL_len (n i : Nat) : (upL n i).length = n := by simp [upL]
theorem upL_all (n : Nat) : upL n n = List.range n := by
 unfold upL
 conv => rhs; rw [← List.map_id (List.range n)]
 refine List.map_congr_left fun j hj => ?_
 rw [if_pos (List.mem_range.1 hj)]
 rfl
theorem upL_set {n i : Nat} (h : i < n) : (upL n i).set i i = upL n (i + 1) := by
 apply List.ext_getElem?
 intro j
 rw [List.getElem?_set, upL_len]
 split
 ·rename_i e
  subst e
  simp [upL, h]
 ·rename_i e
  unfold upL
  rcases Nat.lt_or_ge j n with hj | hj
  ·simp only [List.getElem?_map, List.getElem?_range hj, Option.map_some]
   congr 1
   by_cases h1 : j < i
   ·rw [if_pos h1, if_pos (by omega)]
   ·rw [if_neg h1, if_neg (by omega)]
  ·rw [List.getElem?_eq_none (by simpa using hj), List.getElem?_eq_none (by simpa using hj)]
theorem upL_put {n i : Nat} (h : i < n) : splice (intC (upL n i)).toArray (0 + (i : Int).toNat * 1) (Value.int .i64 (i : Nat)).cells.toList = (intC (upL n (i + 1))).toArray := by
 rw [show 0 + (i : Int).toNat * 1 = i by simp, show (Value.int .i64 (i : Nat)).cells.toList = [Value.int .i64 (i : Nat)] from rfl, splice_one (by rw [intC_len, upL_len]; exact h), ← upL_set h]
 simp [intC, List.map_set]
theorem upL_zero (n : Nat) : (intC (upL n 0)).toArray = (List.replicate n (Value.int .i64 0)).toArray := by
 congr 1
 apply List.ext_getElem?
 intro j
 rcases Nat.lt_or_ge j n with hj | hj
 ·simp [intC, upL, hj]
 ·rw [List.getElem?_eq_none (by rw [intC_len, upL_len]; exact hj), List.getElem?_eq_none (by simpa using hj)]
theorem Hs.cellsEq {b : Nat} {e : TypeId} {C D : Array Value} (h : C = D) (R : Hp) : Hs ((b, .exact (.cells C e (0, 0))) :: R) ((b, .exact (.cells D e (0, 0))) :: R) := h ▸ Hs.refl _
theorem take_eq_succ {xs ys : List Int} {i : Nat} {x y : Int} (h : xs.take i = ys.take i) (hx : xs[i]? = some x) (hy : ys[i]? = some y) (he : x = y) : xs.take (i + 1) = ys.take (i + 1) := by
 rw [List.take_add_one, List.take_add_one, h, hx, hy, he]
theorem plan_upTo (w0 : World) (G : Hp) (n : Nat) (hn : n ≤ 100000) : GC Tryz.prog w0 60 #[.int .i64 (n : Nat)] (fun v G' => ∃ b, v = .slice (some ⟨b, 0, none⟩) n n ∧ (b, .exact (.cells (intC (List.range n)).toArray 3 (0, 0))) :: G = G') G := by
 refine GC.body (args := [.int .i64 (n : Nat)]) Tryz.func60 rfl (by kernel_rfl) rfl ?_
 refine GW.seq ?_
 refine GW.region ?_
 refine R.assign ⟨rfl, rfl, rfl, rfl⟩ rfl ?_
 refine GOps.nil ?_
 refine GW.seq ?_
 refine GW.region ?_
 refine R.move ⟨rfl, rfl, rfl, rfl⟩ rfl ?_
 refine R.makeZero (n := n) (bytes := 8) (z0 := .int .i64 0) ⟨rfl, rfl, rfl, rfl⟩ (by rfl) (by rfl) Tryz.underlying32 (InfoE.mk (by kernel_rfl)) (InfoZ.mk (by kernel_rfl)) (by omega) (by omega) fun b6 => ?_
 refine R.assign ⟨rfl, rfl, rfl, rfl⟩ rfl ?_
 refine GOps.nil ?_
 refine GW.seq ?_
 refine GW.seq ?_
 refine GW.region ?_
 refine R.move ⟨rfl, rfl, rfl, rfl⟩ rfl ?_
 refine R.lenS ⟨rfl, rfl, rfl, rfl⟩ rfl rfl Tryz.underlying32 ?_
 refine R.move ⟨rfl, rfl, rfl, rfl⟩ rfl ?_
 refine GOps.nil ?_
 refine GW.block ?_
 refine GW.loopI (fun i : Nat => [(3, .slice (some ⟨b6, 0, none⟩) n n), (8, .int .i64 n), (9, .int .i64 i)]) (fun i => (b6, .exact (.cells (intC (upL n i)).toArray 3 (0, 0))) :: G) (fun i => n - i) (fun i => i ≤ n) 0
  (by repeat (first | exact Keeps.nil _ | refine Keeps.cons rfl ?_)) (Hs.cellsEq (upL_zero n).symm _) (Nat.zero_le _) ?_
 rintro i hi
 refine GW.seq ?_
 refine GW.region ?_
 refine R.lss ⟨rfl, rfl, rfl, rfl⟩ rfl rfl ?_
 refine GOps.nil ?_
 refine GW.seq ?_
 refine GW.ite rfl (fun hc1 => ?_) (fun hc1 => ?_)
 ·try simp only [dcQ] at hc1
  refine GW.skip ?_
  refine GW.seq ?_
  refine GW.block ?_
  refine GW.seq ?_
  refine GW.region ?_
  refine R.move ⟨rfl, rfl, rfl, rfl⟩ rfl ?_
  refine R.assign ⟨rfl, rfl, rfl, rfl⟩ rfl ?_
  refine GOps.nil ?_
  refine GW.region ?_
  refine R.move ⟨rfl, rfl, rfl, rfl⟩ rfl ?_
  refine R.move ⟨rfl, rfl, rfl, rfl⟩ rfl ?_
  refine R.move ⟨rfl, rfl, rfl, rfl⟩ rfl ?_
  refine R.indexAddrS ⟨rfl, rfl, rfl, rfl⟩ rfl rfl Tryz.underlying32 Tryz.sizeOf3 (by omega) (by omega) ?_
  refine R.store (G1 := []) rfl rfl rfl rfl rfl Tryz.sizeOf3 rfl rfl (rfl) (by simp [intC_len, upL_len]; omega) ?_
  refine GOps.nil ?_
  refine GW.region ?_
  refine R.add (r := (((i + 1) : Nat) : Int)) ⟨rfl, rfl, rfl, rfl⟩ rfl rfl (by rw [wrap64_id (by omega) (by omega)]; omega) ?_
  refine R.move ⟨rfl, rfl, rfl, rfl⟩ rfl ?_
  refine GOps.nil ?_
  exact ⟨i + 1, by omega, by omega, rfl, by repeat (first | exact Keeps.nil _ | refine Keeps.cons rfl ?_), by first | exact Hs.refl _ | exact Hs.tl _ | exact Hs.tl2 _ _ | exact Hs.cellsEq (upL_put (by omega)) _⟩
 ·try simp only [dcQ] at hc1
  refine GW.exit ?_
  refine GW.seq ?_
  refine GW.region ?_
  refine R.move ⟨rfl, rfl, rfl, rfl⟩ rfl ?_
  refine R.assign ⟨rfl, rfl, rfl, rfl⟩ rfl ?_
  refine GOps.nil ?_
  obtain rfl : i = n := by omega
  rw [upL_all]
  exact GW.ret (Out.of (Res.one rfl rfl) (Hs.refl _) ⟨b6, rfl, rfl⟩)
theorem sl_EqInt (w0 : World) (G : Hp) (A B : Option Addr) (xs ys : List Int) (c e : Nat) (hx : IntsAt w0 G A xs) (hy : IntsAt w0 G B ys) (hm : xs.length ≤ 100000) (hm2 : ys.length ≤ 100000) : GC Tryz.prog w0 59 #[.slice A xs.length c, .slice B ys.length e] (fun v G' => v = .bool (decide (xs = ys)) ∧ G = G') G := by
 refine GC.body (args := [.slice A xs.length c, .slice B ys.length e]) Tryz.func59 rfl (by kernel_rfl) rfl ?_
 refine GW.seq ?_
 refine GW.region ?_
 refine R.assign ⟨rfl, rfl, rfl, rfl⟩ rfl ?_
 refine GOps.nil ?_
 refine GW.seq ?_
 refine GW.seq ?_
 refine GW.region ?_
 refine R.move ⟨rfl, rfl, rfl, rfl⟩ rfl ?_
 refine R.lenS ⟨rfl, rfl, rfl, rfl⟩ rfl rfl Tryz.underlying32 ?_
 refine R.move ⟨rfl, rfl, rfl, rfl⟩ rfl ?_
 refine R.lenS ⟨rfl, rfl, rfl, rfl⟩ rfl rfl Tryz.underlying32 ?_
 refine R.neI ⟨rfl, rfl, rfl, rfl⟩ rfl rfl ?_
 refine GOps.nil ?_
 refine GW.ite rfl (fun hc1 => ?_) (fun hc1 => ?_)
 ·try simp only [dcQ] at hc1
  have hne : xs ≠ ys := fun e0 => by subst e0; omega
  refine GW.seq ?_
  refine GW.region ?_
  refine R.assign ⟨rfl, rfl, rfl, rfl⟩ rfl ?_
  refine GOps.nil ?_
  refine GW.ret (Out.of (Res.one rfl rfl) (by first | exact Hs.refl _ | exact Hs.tl _ | exact Hs.tl2 _ _ | exact Hs.tl3 _ _ _ | exact (Hs.app _).trans (Hs.tl _) | exact (Hs.app _).trans ((Hs.app _).trans (Hs.tl _)) | exact Hs.sub (by repeat (first | exact List.Sublist.refl _ | apply List.Sublist.cons))) ⟨?_, rfl⟩)
  first | rw [decide_eq_false hne] | rw [decide_eq_true heq]
 ·try simp only [dcQ] at hc1
  refine GW.skip ?_
  refine GW.seq ?_
  refine GW.seq ?_
  refine GW.region ?_
  refine R.move ⟨rfl, rfl, rfl, rfl⟩ rfl ?_
  refine R.lenS ⟨rfl, rfl, rfl, rfl⟩ rfl rfl Tryz.underlying32 ?_
  refine R.move ⟨rfl, rfl, rfl, rfl⟩ rfl ?_
  refine GOps.nil ?_
  refine GW.block ?_
  refine GW.loopI (fun i : Nat => [(0, .slice A xs.length c), (1, .slice B ys.length e), (12, .int .i64 xs.length), (13, .int .i64 i)]) (fun i => G) (fun i => xs.length - i) (fun i => i ≤ xs.length ∧ xs.take i = ys.take i) 0
   (by repeat (first | exact Keeps.nil _ | refine Keeps.cons rfl ?_)) (Hs.refl _) (⟨by omega, by simp⟩) ?_
  rintro i ⟨hi, h0⟩
  refine GW.seq ?_
  refine GW.region ?_
  refine R.lss ⟨rfl, rfl, rfl, rfl⟩ rfl rfl ?_
  refine GOps.nil ?_
  refine GW.seq ?_
  refine GW.ite rfl (fun hc2 => ?_) (fun hc2 => ?_)
  ·try simp only [dcQ] at hc2
   obtain ⟨x, hxi⟩ : ∃ x, xs[i]? = some x := ⟨_, List.getElem?_eq_getElem (by omega)⟩
   obtain ⟨y, hyi⟩ : ∃ y, ys[i]? = some y := ⟨_, List.getElem?_eq_getElem (by omega)⟩
   obtain ⟨xb, xo, rfl, hrx⟩ := int_at hx hxi
   obtain ⟨yb, yo, rfl, hry⟩ := int_at hy hyi
   refine GW.skip ?_
   refine GW.seq ?_
   refine GW.block ?_
   refine GW.seq ?_
   refine GW.region ?_
   refine R.move ⟨rfl, rfl, rfl, rfl⟩ rfl ?_
   refine R.assign ⟨rfl, rfl, rfl, rfl⟩ rfl ?_
   refine GOps.nil ?_
   refine GW.seq ?_
   refine GW.drawS 9 rfl (by kernel_rfl) ?_
   refine GA.val 0 rfl (V.move ⟨rfl, rfl, rfl, rfl⟩ rfl) rfl (by kernel_rfl) (by kernel_rfl) (by kernel_rfl) ?_
   refine GA.val 1 rfl (V.move ⟨rfl, rfl, rfl, rfl⟩ rfl) rfl (by kernel_rfl) (by kernel_rfl) (by kernel_rfl) ?_
   refine GA.val 2 rfl (V.indexAddrS ⟨rfl, rfl, rfl, rfl⟩ rfl rfl Tryz.underlying32 Tryz.sizeOf3 (by omega) (by omega)) rfl (by kernel_rfl) (by kernel_rfl) (by kernel_rfl) ?_
   refine GA.val 3 rfl (V.load1 ⟨rfl, rfl, rfl, rfl⟩ rfl Tryz.underlying3 rfl (hrx)) rfl (by kernel_rfl) (by kernel_rfl) (by kernel_rfl) ?_
   refine GA.val 4 rfl (V.move ⟨rfl, rfl, rfl, rfl⟩ rfl) rfl (by kernel_rfl) (by kernel_rfl) (by kernel_rfl) ?_
   refine GA.val 5 rfl (V.move ⟨rfl, rfl, rfl, rfl⟩ rfl) rfl (by kernel_rfl) (by kernel_rfl) (by kernel_rfl) ?_
   refine GA.val 6 rfl (V.indexAddrS ⟨rfl, rfl, rfl, rfl⟩ rfl rfl Tryz.underlying32 Tryz.sizeOf3 (by omega) (by omega)) rfl (by kernel_rfl) (by kernel_rfl) (by kernel_rfl) ?_
   refine GA.val 7 rfl (V.load1 ⟨rfl, rfl, rfl, rfl⟩ rfl Tryz.underlying3 rfl (hry)) rfl (by kernel_rfl) (by kernel_rfl) (by kernel_rfl) ?_
   refine GA.val 8 rfl (V.neI ⟨rfl, rfl, rfl, rfl⟩ rfl rfl) rfl (by kernel_rfl) (by kernel_rfl) (by kernel_rfl) ?_
   refine GA.done (by first | exact Hs.refl _ | exact Hs.tl _ | exact Hs.tl2 _ _ | exact Hs.tl3 _ _ _ | exact Hs.app _ | exact Hs.sub (by simp)) (by kernel_rfl) ?_
   refine GW.ite rfl (fun hc3 => ?_) (fun hc3 => ?_)
   ·try simp only [dcQ] at hc3
    have hne : xs ≠ ys := fun e0 => by subst e0; rw [hxi] at hyi; have := Option.some.inj hyi; omega
    refine GW.seq ?_
    refine GW.region ?_
    refine R.assign ⟨rfl, rfl, rfl, rfl⟩ rfl ?_
    refine GOps.nil ?_
    refine GW.ret (Out.of (Res.one rfl rfl) (by first | exact Hs.refl _ | exact Hs.tl _ | exact Hs.tl2 _ _ | exact Hs.tl3 _ _ _ | exact (Hs.app _).trans (Hs.tl _) | exact (Hs.app _).trans ((Hs.app _).trans (Hs.tl _)) | exact Hs.sub (by repeat (first | exact List.Sublist.refl _ | apply List.Sublist.cons))) ⟨?_, rfl⟩)
    first | rw [decide_eq_false hne] | rw [decide_eq_true heq]
   ·try simp only [dcQ] at hc3
    refine GW.skip ?_
    refine GW.region ?_
    refine R.add (r := (((i + 1) : Nat) : Int)) ⟨rfl, rfl, rfl, rfl⟩ rfl rfl (by rw [wrap64_id (by omega) (by omega)]; omega) ?_
    refine R.move ⟨rfl, rfl, rfl, rfl⟩ rfl ?_
    refine GOps.nil ?_
    exact ⟨i + 1, by omega, ⟨by omega, take_eq_succ h0 hxi hyi (by omega)⟩, rfl, by repeat (first | exact Keeps.nil _ | refine Keeps.cons rfl ?_), by first | exact Hs.refl _ | exact Hs.tl _ | exact Hs.tl2 _ _⟩
  ·try simp only [dcQ] at hc2
   have heq : xs = ys := by rwa [List.take_of_length_le (by omega), List.take_of_length_le (by omega)] at h0
   refine GW.exit ?_
   refine GW.seq ?_
   refine GW.region ?_
   refine R.assign ⟨rfl, rfl, rfl, rfl⟩ rfl ?_
   refine GOps.nil ?_
   refine GW.ret (Out.of (Res.one rfl rfl) (by first | exact Hs.refl _ | exact Hs.tl _ | exact Hs.tl2 _ _ | exact Hs.tl3 _ _ _ | exact (Hs.app _).trans (Hs.tl _) | exact (Hs.app _).trans ((Hs.app _).trans (Hs.tl _)) | exact Hs.sub (by repeat (first | exact List.Sublist.refl _ | apply List.Sublist.cons))) ⟨?_, rfl⟩)
   first | rw [decide_eq_false hne] | rw [decide_eq_true heq]
theorem sl_Values (w0 : World) (G : Hp) (A : Option Addr) (n c : Nat) : GC Tryz.prog w0 58 #[.slice A n c] (fun v G' => ∃ b, v = .func (.func 89) #[] #[.pointer (some ⟨b, 0, none⟩)] ∧ (b, .exact (.cells #[.slice A n c] 32 (0, 0))) :: G = G') G := by
 refine GC.body (args := [.slice A n c]) Tryz.func58 rfl (by kernel_rfl) rfl ?_
 refine GW.seq ?_
 refine GW.region ?_
 refine R.box ⟨rfl, rfl, rfl, rfl⟩ rfl fun b1 => ?_
 refine R.assign ⟨rfl, rfl, rfl, rfl⟩ rfl ?_
 refine GOps.nil ?_
 refine GW.seq ?_
 refine GW.region ?_
 refine R.makeFunc (vs := []) (us := [_]) ⟨rfl, rfl, rfl, rfl⟩ rfl rfl ?_
 refine R.assign ⟨rfl, rfl, rfl, rfl⟩ rfl ?_
 refine GOps.nil ?_
 exact GW.ret (Out.of (Res.one rfl rfl) (Hs.refl _) ⟨b1, rfl, rfl⟩)
theorem values1 {σ : Type} (w0 : World) (l b1 : Nat) (A : Option Addr) (xs : List Int) (c : Nat) (L : σ → Hp) (I : Nat → σ → Prop) (F : Hp) (x0 : σ) (hm : xs.length ≤ 100000)
  (hR : ∀ x, Rd w0 (L x ++ F) b1 0 (.slice A xs.length c)) (hx : IntsAt w0 F A xs) (h0 : I 0 x0)
  (hy : ∀ j x z, I j x → xs[j]? = some z → GY Tryz.prog w0 l [.int .i64 z] (fun v G' => v = .bool true ∧ ∃ x', I (j + 1) x' ∧ L x' ++ F = G') (L x ++ F)) :
  GC Tryz.prog w0 89 #[.func (.yield l) #[] #[], .pointer (some ⟨b1, 0, none⟩)] (fun v G' => ∃ x, I xs.length x ∧ L x ++ F = G') (L x0 ++ F) := by
 refine GC.body (args := [.func (.yield l) #[] #[], .pointer (some ⟨b1, 0, none⟩)]) Tryz.func89 rfl (by kernel_rfl) rfl ?_
 refine GW.seq ?_
 refine GW.region ?_
 refine R.load1 ⟨rfl, rfl, rfl, rfl⟩ rfl Tryz.underlying32 rfl (hR x0) ?_
 refine R.lenS ⟨rfl, rfl, rfl, rfl⟩ rfl rfl Tryz.underlying32 ?_
 refine R.move ⟨rfl, rfl, rfl, rfl⟩ rfl ?_
 refine GOps.nil ?_
 refine GW.block ?_
 refine GW.loop4 (fun (i : Nat) (x : σ) (u1 : Unit) (u2 : Unit) => [(0, .func (.yield l) #[] #[]), (5, .slice A xs.length c), (6, .int .i64 xs.length), (7, .int .i64 i)]) (fun (i : Nat) (x : σ) (u1 : Unit) (u2 : Unit) => L x ++ F) (fun i : Nat => xs.length - i) (fun (i : Nat) (x : σ) (u1 : Unit) (u2 : Unit) => i ≤ xs.length ∧ I i x) 0 (x0) (()) (())
  (by repeat (first | exact Keeps.nil _ | refine Keeps.cons rfl ?_)) (Hs.refl _) (⟨by omega, h0⟩) ?_
 rintro i x u1 u2 ⟨hi, hI⟩
 refine GW.seq ?_
 refine GW.region ?_
 refine R.lss ⟨rfl, rfl, rfl, rfl⟩ rfl rfl ?_
 refine GOps.nil ?_
 refine GW.seq ?_
 refine GW.ite rfl (fun hc1 => ?_) (fun hc1 => ?_)
 ·try simp only [dcQ] at hc1
  obtain ⟨z, hz⟩ : ∃ z, xs[i]? = some z := ⟨_, List.getElem?_eq_getElem (by omega)⟩
  obtain ⟨zb, zo, rfl, hrz⟩ := int_at hx hz
  refine GW.skip ?_
  refine GW.seq ?_
  refine GW.block ?_
  refine GW.seq ?_
  refine GW.region ?_
  refine R.indexAddrS ⟨rfl, rfl, rfl, rfl⟩ rfl rfl Tryz.underlying32 Tryz.sizeOf3 (by omega) (by omega) ?_
  refine R.load1 ⟨rfl, rfl, rfl, rfl⟩ rfl Tryz.underlying3 rfl (hrz.mono (fun y hy => List.mem_append_right _ hy)) ?_
  refine R.assign ⟨rfl, rfl, rfl, rfl⟩ rfl ?_
  refine GOps.nil ?_
  refine GW.seq ?_
  refine GW.region ?_
  refine R.move ⟨rfl, rfl, rfl, rfl⟩ rfl ?_
  refine R.move ⟨rfl, rfl, rfl, rfl⟩ rfl ?_
  refine R.yield ⟨rfl, rfl, rfl, rfl⟩ rfl (vs := [_]) rfl ((hy i x z hI hz).mono ?_)
  rintro v G2 ⟨rfl, x', hI', rfl⟩
  refine R.not ⟨rfl, rfl, rfl, rfl⟩ rfl ?_
  refine GOps.nil ?_
  refine GW.ite rfl (fun hc2 => ?_) (fun hc2 => ?_)
  ·try simp only [dcQ] at hc2
   exfalso; simp at hc2
  ·try simp only [dcQ] at hc2
   refine GW.skip ?_
   refine GW.region ?_
   refine R.add (r := (((i + 1) : Nat) : Int)) ⟨rfl, rfl, rfl, rfl⟩ rfl rfl (by rw [wrap64_id (by omega) (by omega)]; omega) ?_
   refine R.move ⟨rfl, rfl, rfl, rfl⟩ rfl ?_
   refine GOps.nil ?_
   exact ⟨i + 1, x', (), (), by omega, ⟨by omega, hI'⟩, rfl, by repeat (first | exact Keeps.nil _ | refine Keeps.cons rfl ?_), by first | exact Hs.refl _ | exact Hs.tl _ | exact Hs.tl2 _ _⟩
 ·try simp only [dcQ] at hc1
  refine GW.exit ?_
  obtain rfl : i = xs.length := by omega
  refine Out.end_ (Res.none rfl) (Hs.refl _) ⟨x, hI, rfl⟩
end Go.Proofs.YtfddkcmooommeaaGreatDoor.Gl
end
section
namespace Go.Proofs.YtfddkcmooommeaaGreatDoor.Gl
open Go.RowKit Go.Shelf
set_option linter.unusedVariables false
set_option linter.unnecessarySimpa false
set_option linter.unusedSimpArgs false
attribute [-simp] List.getD_eq_getElem?_getD
theorem zC_succ {xs : List Int} {j : Nat} {z : Int} {v : Value} {H : Hp} (h : xs[j]? = some z) (hS : SlAt 1 3 (zC (xs.take j) ++ [.int .i64 z]) (j + 1) v H) : SlAt 1 3 (zC (xs.take (j + 1))) (j + 1) v H := by
 rw [List.take_add_one, h]
 unfold zC at hS ⊢
 rw [List.map_append]
 exact hS
theorem sl_AppendSeq (w0 : World) (G : Hp) (A : Option Addr) (xs : List Int) (c b1 : Nat) (hb1 : (b1, Know.exact (.cells #[.slice A xs.length c] 32 (0, 0))) ∈ G) (hx : IntsAt w0 G A xs) (hm : xs.length ≤ 100000) : GC Tryz.prog w0 108 #[.slice none 0 0, .func (.func 89) #[] #[.pointer (some ⟨b1, 0, none⟩)]] (fun v G' => ∃ H, (SlAt 1 3 (zC xs) xs.length v H ∧ (xs.length = 0 → v = .slice none 0 0 ∧ H = [])) ∧ H ++ G = G') G := by
 refine GC.body (args := [.slice none 0 0, .func (.func 89) #[] #[.pointer (some ⟨b1, 0, none⟩)]]) Tryz.func108 rfl (by kernel_rfl) rfl ?_
 refine GW.seq ?_
 refine GW.region ?_
 refine R.box ⟨rfl, rfl, rfl, rfl⟩ rfl fun b2 => ?_
 refine R.assign ⟨rfl, rfl, rfl, rfl⟩ rfl ?_
 refine GOps.nil ?_
 refine GW.seq ?_
 refine GW.seq ?_
 refine GW.region ?_
 refine R.move ⟨rfl, rfl, rfl, rfl⟩ rfl ?_
 refine GOps.nil ?_
 refine GW.block ?_
 refine GW.rangeFunc rfl fun D0 l0 r0 hp0 ha0 hb0 hfr0 => ?_
 refine GC.mono (values1 w0 l0 b1 A xs c (fun x : Value × Hp => (l0, lrec r0 .ready none) :: (D0, .exact (.deferred (some []))) :: (b2, .exact (.cells #[x.1] 32 (0, 0))) :: x.2) (fun j x => SlAt 1 3 (zC (xs.take j)) j x.1 x.2 ∧ (j = 0 → x.1 = .slice none 0 0 ∧ x.2 = [])) G (.slice none 0 0, []) hm (fun x => .own (List.mem_cons_of_mem _ (List.mem_cons_of_mem _ (List.mem_cons_of_mem _ (List.mem_append_right _ hb1)))) rfl) hx ⟨.nil rfl rfl, fun _ => ⟨rfl, rfl⟩⟩ ?_) ?_
 ·rintro j x z ⟨hI, _⟩ hz; obtain ⟨va, Ho⟩ := x; simp only at hI; have hjn := (List.getElem?_eq_some_iff.1 hz).1; show GY _ _ _ _ _ ((l0, lrec r0 .ready none) :: (D0, .exact (.deferred (some []))) :: (b2, .exact (.cells #[va] 32 (0, 0))) :: (Ho ++ G))
  refine GY.intro hfr0 (by rw [hp0]; rfl) (by rw [hp0]; rfl) ?_
  rw [hp0, ha0, hb0]
  refine GW.region ?_
  refine R.assign ⟨rfl, rfl, rfl, rfl⟩ rfl ?_
  refine GOps.nil ?_
  refine ⟨_, Hs.refl _, ?_⟩
  refine GW.block ?_
  refine GW.region ?_
  refine R.load1 ⟨rfl, rfl, rfl, rfl⟩ rfl Tryz.underlying32 rfl (.own' memG (by rfl)) ?_
  refine R.move ⟨rfl, rfl, rfl, rfl⟩ rfl ?_
  refine R.buildSliceF (sz := 1) (bytes := 8) (vs := [_]) (cs := [.int .i64 z]) ⟨rfl, rfl, rfl, rfl⟩ rfl Tryz.underlying32 (InfoE.mk (by kernel_rfl)) rfl rfl rfl rfl rfl fun b10 => ?_
  refine R.append (sz := 1) (bytes := 8) (G1 := [_, _, _, _]) (H := Ho) (news := [.int .i64 z]) ⟨rfl, rfl, rfl, rfl⟩ rfl rfl rfl Tryz.underlying32 (InfoE.mk (by kernel_rfl)) (hI) (rfl) (rfl) (.own (by repeat (first | exact List.mem_cons_self | apply List.mem_cons_of_mem | apply List.mem_append_right | exact List.mem_append_left _ List.mem_cons_self)) 0 _ (fun j v hv => by simpa using hv)) (by omega) (by rfl) (by omega) (by omega) fun v11 H11 hv11 => ?_
  obtain ⟨A11, c11, rfl, hc11⟩ := hv11.split
  refine R.storeAll (G1 := [_, _, _]) rfl rfl rfl rfl rfl Tryz.sizeOf32 rfl rfl rfl rfl ?_
  refine GOps.nil ?_
  exact ⟨_, Hs.sub (by repeat (first | exact List.Sublist.refl _ | apply List.Sublist.cons_cons | apply List.Sublist.cons)), rfl, (.slice A11 _ c11, H11), ⟨zC_succ hz hv11, fun e => absurd e (Nat.succ_ne_zero j)⟩, rfl⟩
 ·rintro _ _ ⟨x, hI, rfl⟩
  ·obtain ⟨va, Ho⟩ := x
   refine ⟨.ready, none, _, by simp, Hs.refl _, ?_⟩
   show GW _ _ _ _ _ ((D0, .exact (.deferred (some []))) :: (b2, .exact (.cells #[va] 32 (0, 0))) :: (Ho ++ G))
   refine GW.seq ?_
   refine GW.region ?_
   refine R.load1 ⟨rfl, rfl, rfl, rfl⟩ rfl Tryz.underlying32 rfl (.own' memG (by rfl)) ?_
   refine R.assign ⟨rfl, rfl, rfl, rfl⟩ rfl ?_
   refine GOps.nil ?_
   simp only [List.take_length] at hI
   exact GW.ret (Out.of1 (Res.one rfl rfl) (Hs.tl _) ⟨Ho, hI, rfl⟩)
theorem sl_Collect (w0 : World) (G : Hp) (A : Option Addr) (xs : List Int) (c b1 : Nat) (hb1 : (b1, Know.exact (.cells #[.slice A xs.length c] 32 (0, 0))) ∈ G) (hx : IntsAt w0 G A xs) (hm : xs.length ≤ 100000) : GC Tryz.prog w0 87 #[.func (.func 89) #[] #[.pointer (some ⟨b1, 0, none⟩)]] (fun v G' => ∃ H, (SlAt 1 3 (zC xs) xs.length v H ∧ (xs.length = 0 → v = .slice none 0 0 ∧ H = [])) ∧ H ++ G = G') G := by
 refine GC.body (args := [.func (.func 89) #[] #[.pointer (some ⟨b1, 0, none⟩)]]) Tryz.func87 rfl (by kernel_rfl) rfl ?_
 refine GW.seq ?_
 refine GW.region ?_
 refine R.assign ⟨rfl, rfl, rfl, rfl⟩ rfl ?_
 refine GOps.nil ?_
 refine GW.seq ?_
 refine GW.region ?_
 refine R.move ⟨rfl, rfl, rfl, rfl⟩ rfl ?_
 refine R.call ⟨rfl, rfl, rfl, rfl⟩ rfl (vs := [_, _]) rfl ((sl_AppendSeq _ _ A xs c b1 hb1 hx hm).mono ?_)
 rintro v4 _ ⟨H4, h4, rfl⟩
 refine R.assign ⟨rfl, rfl, rfl, rfl⟩ rfl ?_
 refine GOps.nil ?_
 exact GW.ret (Out.of (Res.one rfl rfl) (Hs.refl _) ⟨H4, h4, rfl⟩)
theorem len64_0 (w0 : World) (G : Hp) : GC Tryz.prog w0 135 #[.int .u64 0] (fun v G' => ∃ z, v = .int .i64 z ∧ G = G') G := by
 refine GC.body (args := [.int .u64 0]) Tryz.func135 rfl (by kernel_rfl) rfl ?_
 refine GW.seq ?_
 refine GW.region ?_
 refine R.assign ⟨rfl, rfl, rfl, rfl⟩ rfl ?_
 refine GOps.nil ?_
 refine GW.seq ?_
 refine GW.seq ?_
 refine GW.region ?_
 refine R.move ⟨rfl, rfl, rfl, rfl⟩ rfl ?_
 refine R.geq ⟨rfl, rfl, rfl, rfl⟩ rfl rfl ?_
 refine GOps.nil ?_
 refine GW.cond_f rfl ?_
 refine GW.skip ?_
 refine GW.seq ?_
 refine GW.seq ?_
 refine GW.region ?_
 refine R.move ⟨rfl, rfl, rfl, rfl⟩ rfl ?_
 refine R.geq ⟨rfl, rfl, rfl, rfl⟩ rfl rfl ?_
 refine GOps.nil ?_
 refine GW.cond_f rfl ?_
 refine GW.skip ?_
 refine GW.seq ?_
 refine GW.seq ?_
 refine GW.region ?_
 refine R.move ⟨rfl, rfl, rfl, rfl⟩ rfl ?_
 refine R.geq ⟨rfl, rfl, rfl, rfl⟩ rfl rfl ?_
 refine GOps.nil ?_
 refine GW.cond_f rfl ?_
 refine GW.skip ?_
 refine GW.seq ?_
 refine GW.region ?_
 refine R.move ⟨rfl, rfl, rfl, rfl⟩ rfl ?_
 refine R.move ⟨rfl, rfl, rfl, rfl⟩ rfl ?_
 refine R.conv (r := 0) ⟨rfl, rfl, rfl, rfl⟩ rfl Tryz.underlying192 Tryz.underlying5 (rfl) ?_
 refine R.indexStrA ⟨rfl, rfl, rfl, rfl⟩ rfl rfl Tryz.underlying9 (by decide) (by decide +kernel) fun c1 hx1 hb1 => ?_   -- "bits.go:350" ['const', 't21']
 refine R.conv (r := _) ⟨rfl, rfl, rfl, rfl⟩ rfl Tryz.underlying5 Tryz.underlying3 (rfl) ?_
 refine R.add (r := _) ⟨rfl, rfl, rfl, rfl⟩ rfl rfl (rfl) ?_
 refine R.assign ⟨rfl, rfl, rfl, rfl⟩ rfl ?_
 refine GOps.nil ?_
 exact GW.ret (Out.of (Res.one rfl rfl) (Hs.refl _) ⟨_, rfl, rfl⟩)
theorem len_0 (w0 : World) (G : Hp) : GC Tryz.prog w0 110 #[.int .u64 0] (fun v G' => ∃ z, v = .int .i64 z ∧ G = G') G := by
 refine GC.body (args := [.int .u64 0]) Tryz.func110 rfl (by kernel_rfl) rfl ?_
 refine GW.seq ?_
 refine GW.region ?_
 refine R.assign ⟨rfl, rfl, rfl, rfl⟩ rfl ?_
 refine GOps.nil ?_
 refine GW.seq ?_
 refine GW.ite rfl (fun hc1 => ?_) (fun hc1 => ?_)
 ·try simp only [dcQ] at hc1
  exfalso; cases hc1
 ·try simp only [dcQ] at hc1
  refine GW.skip ?_
  refine GW.seq ?_
  refine GW.region ?_
  refine R.move ⟨rfl, rfl, rfl, rfl⟩ rfl ?_
  refine R.call ⟨rfl, rfl, rfl, rfl⟩ rfl (vs := [_]) rfl ((len64_0 _ _).mono ?_)
  rintro _ _ ⟨z, rfl, rfl⟩
  refine R.assign ⟨rfl, rfl, rfl, rfl⟩ rfl ?_
  refine GOps.nil ?_
  exact GW.ret (Out.of (Res.one rfl rfl) (Hs.refl _) ⟨_, rfl, rfl⟩)
theorem ins_0 (w0 : World) (G : Hp) : GC Tryz.prog w0 125 #[.slice none 0 0, .int .i64 0, .int .i64 0] (fun v G' => v = .tuple #[] ∧ G = G') G := by
 refine GC.body (args := [.slice none 0 0, .int .i64 0, .int .i64 0]) Tryz.func125 rfl (by kernel_rfl) rfl ?_
 refine GW.seq ?_
 refine GW.region ?_
 refine R.move ⟨rfl, rfl, rfl, rfl⟩ rfl ?_
 refine R.add (r := 1) ⟨rfl, rfl, rfl, rfl⟩ rfl rfl (rfl) ?_
 refine R.assign ⟨rfl, rfl, rfl, rfl⟩ rfl ?_
 refine GOps.nil ?_
 refine GW.block ?_
 refine GW.loopI (fun i : Nat => [(0, .slice none 0 0), (1, .int .i64 0), (2, .int .i64 0), (6, .int .i64 1)]) (fun i => G) (fun i => 1 - i) (fun i => i = 0) 0
  (by repeat (first | exact Keeps.nil _ | refine Keeps.cons rfl ?_)) (Hs.refl _) (rfl) ?_
 rintro i hi
 refine GW.seq ?_
 refine GW.seq ?_
 refine GW.region ?_
 refine R.move ⟨rfl, rfl, rfl, rfl⟩ rfl ?_
 refine R.move ⟨rfl, rfl, rfl, rfl⟩ rfl ?_
 refine R.lss ⟨rfl, rfl, rfl, rfl⟩ rfl rfl ?_
 refine GOps.nil ?_
 refine GW.ite rfl (fun hc1 => ?_) (fun hc1 => ?_)
 ·try simp only [dcQ] at hc1
  exfalso; omega
 ·try simp only [dcQ] at hc1
  refine GW.exit ?_
  exact Out.end_ (Res.none rfl) (Hs.refl _) ⟨rfl, rfl⟩
theorem pdq_0 (w0 : World) (G : Hp) (z : Int) : GC Tryz.prog w0 109 #[.slice none 0 0, .int .i64 0, .int .i64 0, .int .i64 z] (fun v G' => v = .tuple #[] ∧ G = G') G := by
 refine GC.body (args := [.slice none 0 0, .int .i64 0, .int .i64 0, .int .i64 z]) Tryz.func109 rfl (by kernel_rfl) rfl ?_
 refine GW.seq ?_
 refine GW.region ?_
 refine R.assign ⟨rfl, rfl, rfl, rfl⟩ rfl ?_
 refine GOps.nil ?_
 refine GW.seq ?_
 refine GW.region ?_
 refine R.assign ⟨rfl, rfl, rfl, rfl⟩ rfl ?_
 refine GOps.nil ?_
 refine GW.block ?_
 refine GW.loopI (fun i : Nat => [(0, .slice none 0 0), (1, .int .i64 0), (2, .int .i64 0), (3, .int .i64 z), (8, .bool true), (9, .bool true)]) (fun i => G) (fun i => 1 - i) (fun i => i = 0) 0
  (by repeat (first | exact Keeps.nil _ | refine Keeps.cons rfl ?_)) (Hs.refl _) (rfl) ?_
 rintro i hi
 refine GW.block ?_
 refine GW.seq ?_
 refine GW.region ?_
 refine R.move ⟨rfl, rfl, rfl, rfl⟩ rfl ?_
 refine R.move ⟨rfl, rfl, rfl, rfl⟩ rfl ?_
 refine R.sub (r := 0) ⟨rfl, rfl, rfl, rfl⟩ rfl rfl (rfl) ?_
 refine R.assign ⟨rfl, rfl, rfl, rfl⟩ rfl ?_
 refine GOps.nil ?_
 refine GW.seq ?_
 refine GW.seq ?_
 refine GW.region ?_
 refine R.move ⟨rfl, rfl, rfl, rfl⟩ rfl ?_
 refine R.leq ⟨rfl, rfl, rfl, rfl⟩ rfl rfl ?_
 refine GOps.nil ?_
 refine GW.cond_t rfl ?_
 refine GW.seq ?_
 refine GW.region ?_
 refine R.move ⟨rfl, rfl, rfl, rfl⟩ rfl ?_
 refine R.move ⟨rfl, rfl, rfl, rfl⟩ rfl ?_
 refine R.move ⟨rfl, rfl, rfl, rfl⟩ rfl ?_
 refine R.call ⟨rfl, rfl, rfl, rfl⟩ rfl (vs := [_, _, _]) rfl ((ins_0 _ _).mono ?_)
 rintro _ _ ⟨rfl, rfl⟩
 refine GOps.nil ?_
 exact GW.ret (Out.of (Res.none rfl) (Hs.refl _) ⟨rfl, rfl⟩)
theorem sort_0 (w0 : World) (G : Hp) : GC Tryz.prog w0 88 #[.slice none 0 0] (fun v G' => v = .tuple #[] ∧ G = G') G := by
 refine GC.body (args := [.slice none 0 0]) Tryz.func88 rfl (by kernel_rfl) rfl ?_
 refine GW.seq ?_
 refine GW.region ?_
 refine R.move ⟨rfl, rfl, rfl, rfl⟩ rfl ?_
 refine R.lenS ⟨rfl, rfl, rfl, rfl⟩ rfl rfl Tryz.underlying32 ?_
 refine R.assign ⟨rfl, rfl, rfl, rfl⟩ rfl ?_
 refine GOps.nil ?_
 refine GW.region ?_
 refine R.move ⟨rfl, rfl, rfl, rfl⟩ rfl ?_
 refine R.move ⟨rfl, rfl, rfl, rfl⟩ rfl ?_
 refine R.move ⟨rfl, rfl, rfl, rfl⟩ rfl ?_
 refine R.conv (r := 0) ⟨rfl, rfl, rfl, rfl⟩ rfl Tryz.underlying3 Tryz.underlying149 (rfl) ?_
 refine R.call ⟨rfl, rfl, rfl, rfl⟩ rfl (vs := [_]) rfl ((len_0 _ _).mono ?_)
 rintro _ _ ⟨z, rfl, rfl⟩
 refine R.call ⟨rfl, rfl, rfl, rfl⟩ rfl (vs := [_, _, _, _]) rfl ((pdq_0 _ _ z).mono ?_)
 rintro _ _ ⟨rfl, rfl⟩
 refine GOps.nil ?_
 refine Out.end_ (Res.none rfl) (Hs.refl _) ⟨rfl, rfl⟩
theorem sorted_0 (w0 : World) (G : Hp) (b1 : Nat) (hb1 : (b1, Know.exact (.cells #[.slice none 0 0] 32 (0, 0))) ∈ G) : GC Tryz.prog w0 57 #[.func (.func 89) #[] #[.pointer (some ⟨b1, 0, none⟩)]] (fun v G' => v = .slice none 0 0 ∧ G = G') G := by
 refine GC.body (args := [.func (.func 89) #[] #[.pointer (some ⟨b1, 0, none⟩)]]) Tryz.func57 rfl (by kernel_rfl) rfl ?_
 refine GW.seq ?_
 refine GW.region ?_
 refine R.assign ⟨rfl, rfl, rfl, rfl⟩ rfl ?_
 refine GOps.nil ?_
 refine GW.seq ?_
 refine GW.region ?_
 refine R.move ⟨rfl, rfl, rfl, rfl⟩ rfl ?_
 refine R.call ⟨rfl, rfl, rfl, rfl⟩ rfl (vs := [_]) rfl ((sl_Collect _ _ none [] 0 b1 hb1 (fun i x h => by simp at h) (by simp)).mono ?_)
 rintro v5 _ ⟨H5, h5, rfl⟩
 obtain ⟨rfl, rfl⟩ := h5.2 rfl
 refine R.assign ⟨rfl, rfl, rfl, rfl⟩ rfl ?_
 refine GOps.nil ?_
 refine GW.seq ?_
 refine GW.region ?_
 refine R.move ⟨rfl, rfl, rfl, rfl⟩ rfl ?_
 refine R.call ⟨rfl, rfl, rfl, rfl⟩ rfl (vs := [_]) rfl ((sort_0 _ _).mono ?_)
 rintro _ _ ⟨rfl, rfl⟩
 refine GOps.nil ?_
 refine GW.seq ?_
 refine GW.region ?_
 refine R.move ⟨rfl, rfl, rfl, rfl⟩ rfl ?_
 refine R.assign ⟨rfl, rfl, rfl, rfl⟩ rfl ?_
 refine GOps.nil ?_
 exact GW.ret (Out.of (Res.one rfl rfl) (Hs.refl _) ⟨rfl, rfl⟩)
end Go.Proofs.YtfddkcmooommeaaGreatDoor.Gl
end
section
namespace Go.Proofs.YtfddkcmooommeaaGreatDoor.Gl
open Go.RowKit Go.Shelf
set_option linter.unusedVariables false
set_option linter.unnecessarySimpa false
set_option linter.unusedSimpArgs false
attribute [-simp] List.getD_eq_getElem?_getD
theorem GW.cutX {X : Cx} {x y : Code} {Q : Post} {fr : Fr} {ds : List Deferred} {G : Hp} {α : Type} (FR : α → Fr) (GG : α → Hp) (I : α → Prop) (h1 : GW X x (fun e fr1 ds1 G1 => e = .normal ∧ ds1 = ds ∧ ∃ a, I a ∧ Keeps fr1 (FR a) ∧ Hs G1 (GG a)) fr ds G)
  (h2 : ∀ a, I a → GW X y Q (FR a) ds (GG a)) : GW X (.seq x y) Q fr ds G := by
 refine GW.seq (h1.mono ?_)
 rintro e fr1 ds1 G1 ⟨rfl, rfl, a, hI, hk, hs⟩
 exact GW.weak hk hs (h2 a hI)
structure BS where
 m : List St
 w : List St
 n : List St
 ts : List Tm
 bad : Int
def bodyStep (lim : Nat) (vars : List ByteArray) (a : BS) (l : Lt) : BS :=
 if (stepF lim vars (a.ts, a.bad) l).1.kind = 1 then ⟨a.m ++ [(stepF lim vars (a.ts, a.bad) l).1], a.w, a.n, (stepF lim vars (a.ts, a.bad) l).2.1, (stepF lim vars (a.ts, a.bad) l).2.2⟩
 else if (stepF lim vars (a.ts, a.bad) l).1.kind = 2 then ⟨a.m, a.w, a.n ++ [(stepF lim vars (a.ts, a.bad) l).1], (stepF lim vars (a.ts, a.bad) l).2.1, (stepF lim vars (a.ts, a.bad) l).2.2⟩
 else ⟨a.m, a.w ++ [(stepF lim vars (a.ts, a.bad) l).1], a.n, (stepF lim vars (a.ts, a.bad) l).2.1, (stepF lim vars (a.ts, a.bad) l).2.2⟩
def bodyTo (lim : Nat) (vars : List ByteArray) (ts : List Tm) (bad : Int) (body : List Lt) (i : Nat) : BS := (body.take i).foldl (bodyStep lim vars) ⟨[], [], [], ts, bad⟩
theorem bodyTo_succ {lim : Nat} {vars : List ByteArray} {ts : List Tm} {bad : Int} {body : List Lt} {i : Nat} {l : Lt} (h : body[i]? = some l) : bodyTo lim vars ts bad body (i + 1) = bodyStep lim vars (bodyTo lim vars ts bad body i) l := by
 unfold bodyTo
 rw [List.take_add_one, h, List.foldl_append]
 rfl
theorem bodyStep_1 {lim : Nat} {vars : List ByteArray} {a : BS} {l : Lt} (h : (stepF lim vars (a.ts, a.bad) l).1.kind = 1) : bodyStep lim vars a l = ⟨a.m ++ [(stepF lim vars (a.ts, a.bad) l).1], a.w, a.n, (stepF lim vars (a.ts, a.bad) l).2.1, (stepF lim vars (a.ts, a.bad) l).2.2⟩ := by unfold bodyStep; rw [if_pos h]
theorem bodyStep_2 {lim : Nat} {vars : List ByteArray} {a : BS} {l : Lt} (h1 : ¬ (stepF lim vars (a.ts, a.bad) l).1.kind = 1) (h : (stepF lim vars (a.ts, a.bad) l).1.kind = 2) : bodyStep lim vars a l = ⟨a.m, a.w, a.n ++ [(stepF lim vars (a.ts, a.bad) l).1], (stepF lim vars (a.ts, a.bad) l).2.1, (stepF lim vars (a.ts, a.bad) l).2.2⟩ := by unfold bodyStep; rw [if_neg h1, if_pos h]
theorem bodyStep_3 {lim : Nat} {vars : List ByteArray} {a : BS} {l : Lt} (h1 : ¬ (stepF lim vars (a.ts, a.bad) l).1.kind = 1) (h : ¬ (stepF lim vars (a.ts, a.bad) l).1.kind = 2) : bodyStep lim vars a l = ⟨a.m, a.w ++ [(stepF lim vars (a.ts, a.bad) l).1], a.n, (stepF lim vars (a.ts, a.bad) l).2.1, (stepF lim vars (a.ts, a.bad) l).2.2⟩ := by unfold bodyStep; rw [if_neg h1, if_neg h]
theorem idxB_lt' (xs : List ByteArray) (s : ByteArray) : idxB xs s < xs.length := by
 unfold idxB
 cases e : idxN xs s with
 | some i =>
  unfold idxN at e
  obtain ⟨hi, _⟩ := List.findIdx?_eq_some_iff_getElem.1 e
  simp only
  omega
 | none => simp only; omega
theorem placeF_lt (lim : Nat) (vars : List ByteArray) (q : List Tm × Int) (s : Sl) : (placeF lim vars q s).1.var < vars.length := by
 cases h : emp s.v with
 | true =>
  unfold placeF
  rw [h]
  simp only [cond_true]
  omega
 | false =>
  rw [placeF_var h]
  exact idxB_lt' _ _
theorem stepF_places {lim : Nat} {vars : List ByteArray} {q : List Tm × Int} {l : Lt} : ∀ p ∈ placesSt (stepF lim vars q l).1, p.var < vars.length := by
 intro p hp
 by_cases h1 : l.kind = 1
 ·rw [stepF_1 h1, placesSt_r (.inl rfl)] at hp
  simp only [List.mem_cons, List.not_mem_nil, or_false] at hp
  rcases hp with rfl | rfl | rfl <;> exact placeF_lt _ _ _ _
 by_cases h2 : l.kind = 2
 ·rw [stepF_2 h1 h2, placesSt_r (.inr rfl)] at hp
  simp only [List.mem_cons, List.not_mem_nil, or_false] at hp
  rcases hp with rfl | rfl | rfl <;> exact placeF_lt _ _ _ _
 by_cases h3 : l.kind = 3
 ·rw [stepF_3 h1 h2 h3, placesSt_ab (by simp) (by simp)] at hp
  simp only [List.mem_cons, List.not_mem_nil, or_false] at hp
  rcases hp with rfl | rfl <;> exact placeF_lt _ _ _ _
 ·rw [stepF_4 h1 h2 h3, placesSt_ab (by simp) (by simp)] at hp
  simp only [List.mem_cons, List.not_mem_nil, or_false] at hp
  rcases hp with rfl | rfl <;> exact placeF_lt _ _ _ _
structure BOk (nv i : Nat) (a : BS) : Prop where
 len : a.m.length ≤ i ∧ a.w.length ≤ i ∧ a.n.length ≤ i
 m1 : ∀ s ∈ a.m, s.kind = 1
 pl : ∀ s ∈ a.m ++ (a.w ++ a.n), ∀ p ∈ placesSt s, p.var < nv
theorem BOk.zero (nv : Nat) (ts : List Tm) (bad : Int) : BOk nv 0 ⟨[], [], [], ts, bad⟩ := ⟨by simp, by simp, by simp⟩
theorem BOk.step {lim : Nat} {vars : List ByteArray} {a : BS} {l : Lt} {i : Nat} (h : BOk vars.length i a) : BOk vars.length (i + 1) (bodyStep lim vars a l) := by
 have hs : ∀ p ∈ placesSt (stepF lim vars (a.ts, a.bad) l).1, p.var < vars.length := stepF_places
 obtain ⟨⟨l1, l2, l3⟩, hm, hp⟩ := h
 by_cases h1 : (stepF lim vars (a.ts, a.bad) l).1.kind = 1
 ·rw [bodyStep_1 h1]
  refine ⟨⟨by simp; omega, by simp; omega, by simp; omega⟩, fun s hs1 => ?_, fun s hs1 => ?_⟩
  ·rcases List.mem_append.1 hs1 with h | h
   ·exact hm s h
   ·rw [List.mem_singleton.1 h]; exact h1
  ·simp only [List.append_assoc, List.mem_append, List.mem_singleton, List.singleton_append, List.mem_cons] at hs1
   rcases hs1 with h | rfl | h | h
   ·exact hp s (List.mem_append_left _ h)
   ·exact hs
   ·exact hp s (List.mem_append_right _ (List.mem_append_left _ h))
   ·exact hp s (List.mem_append_right _ (List.mem_append_right _ h))
 by_cases h2 : (stepF lim vars (a.ts, a.bad) l).1.kind = 2
 ·rw [bodyStep_2 h1 h2]
  refine ⟨⟨by simp; omega, by simp; omega, by simp; omega⟩, hm, fun s hs1 => ?_⟩
  simp only [List.mem_append, List.mem_singleton] at hs1
  rcases hs1 with h | h | h | rfl
  ·exact hp s (List.mem_append_left _ h)
  ·exact hp s (List.mem_append_right _ (List.mem_append_left _ h))
  ·exact hp s (List.mem_append_right _ (List.mem_append_right _ h))
  ·exact hs
 ·rw [bodyStep_3 h1 h2]
  refine ⟨⟨by simp; omega, by simp; omega, by simp; omega⟩, hm, fun s hs1 => ?_⟩
  simp only [List.mem_append, List.mem_singleton] at hs1
  rcases hs1 with h | (h | rfl) | h
  ·exact hp s (List.mem_append_left _ h)
  ·exact hp s (List.mem_append_right _ (List.mem_append_left _ h))
  ·exact hs
  ·exact hp s (List.mem_append_right _ (List.mem_append_right _ h))
theorem BOk.all {lim : Nat} {vars : List ByteArray} {ts : List Tm} {bad : Int} {body : List Lt} : ∀ (i : Nat), i ≤ body.length → BOk vars.length i (bodyTo lim vars ts bad body i)
 | 0, _ => BOk.zero _ _ _
 | i + 1, h => by
  rw [bodyTo_succ (List.getElem?_eq_getElem (show i < body.length by omega))]
  exact (BOk.all i (by omega)).step
structure RS where
 kn : List Bool
 w : List St
 o : List St
def zSt : St := ⟨0, zRw, zPl, zPl⟩
def flushR (q : RS) : RS := ⟨q.kn, q.w.filter (fun s => !readyF q.kn s), q.o ++ q.w.filter (readyF q.kn)⟩
def markP (kn : List Bool) (p : Pl) : List Bool := if p.var ≥ 0 then kn.set p.var.toNat true else kn
def row3 (r : Rw) : List Pl := [r.p0, r.p1, r.p2]
def markTo (kn : List Bool) (r : Rw) (k : Nat) : List Bool := ((row3 r).take k).foldl markP kn
def takeR (ms : List St) (q : RS) (z : Int) : RS := flushR ⟨markTo q.kn (ms.getD z.toNat zSt).row 3, q.w, q.o ++ [ms.getD z.toNat zSt]⟩
def runTo (ms : List St) (q : RS) (ord : List Int) (i : Nat) : RS := (ord.take i).foldl (takeR ms) (flushR q)
theorem runTo_succ {ms : List St} {q : RS} {ord : List Int} {i : Nat} {z : Int} (h : ord[i]? = some z) : runTo ms q ord (i + 1) = takeR ms (runTo ms q ord i) z := by
 unfold runTo
 rw [List.take_add_one, h, List.foldl_append]
 rfl
theorem markTo_succ {kn : List Bool} {r : Rw} {k : Nat} {p : Pl} (h : (row3 r)[k]? = some p) : markTo kn r (k + 1) = markP (markTo kn r k) p := by
 unfold markTo
 rw [List.take_add_one, h, List.foldl_append]
 rfl
theorem markP_len (kn : List Bool) (p : Pl) : (markP kn p).length = kn.length := by
 unfold markP
 split <;> simp
theorem markTo_len (kn : List Bool) (r : Rw) (k : Nat) : (markTo kn r k).length = kn.length := by
 unfold markTo
 generalize (row3 r).take k = l
 induction l generalizing kn with
 | nil => rfl
 | cons p l ih => rw [List.foldl_cons, ih, markP_len]
structure ROk (nv b : Nat) (q : RS) : Prop where
 kn : q.kn.length = nv
 w : ∀ s ∈ q.w, ∀ p ∈ placesSt s, p.var < nv
 wl : q.w.length ≤ b
theorem ROk.flush {nv b : Nat} {q : RS} (h : ROk nv b q) : ROk nv b (flushR q) :=
 ⟨h.kn, fun s hs => h.w s (List.mem_filter.1 hs).1, Nat.le_trans (List.length_filter_le _ _) h.wl⟩
theorem ROk.take {nv b : Nat} {q : RS} {ms : List St} {z : Int} (h : ROk nv b q) : ROk nv b (takeR ms q z) :=
 ROk.flush ⟨by rw [markTo_len]; exact h.kn, h.w, h.wl⟩
theorem flush_size (q : RS) : (flushR q).w.length + (flushR q).o.length = q.w.length + q.o.length := by
 unfold flushR
 simp only [List.length_append]
 have : ∀ l : List St, (l.filter (fun s => !readyF q.kn s)).length + (l.filter (readyF q.kn)).length = l.length := by
  intro l
  induction l with
  | nil => rfl
  | cons s l ih =>
   simp only [List.filter_cons]
   cases readyF q.kn s <;> simp <;> omega
 have := this q.w
 omega
theorem take_size (ms : List St) (q : RS) (z : Int) : (takeR ms q z).w.length + (takeR ms q z).o.length = q.w.length + q.o.length + 1 := by
 unfold takeR
 rw [flush_size]
 simp
 omega
theorem run_ok {nv b : Nat} {q : RS} {ms : List St} {ord : List Int} (h : ROk nv b q) : ∀ i, ROk nv b (runTo ms q ord i) ∧ (i ≤ ord.length → (runTo ms q ord i).w.length + (runTo ms q ord i).o.length = q.w.length + q.o.length + i)
 | 0 => ⟨h.flush, fun _ => by show (flushR q).w.length + (flushR q).o.length = _; rw [flush_size]; rfl⟩
 | i + 1 => by
  obtain ⟨h1, h2⟩ := run_ok (ms := ms) (ord := ord) h i
  rcases Nat.lt_or_ge i ord.length with hi | hi
  ·rw [runTo_succ (List.getElem?_eq_getElem hi)]
   refine ⟨h1.take, fun _ => ?_⟩
   rw [take_size, h2 (by omega)]
   omega
  ·have e : runTo ms q ord (i + 1) = runTo ms q ord i := by
    unfold runTo
    rw [List.take_of_length_le (by omega), List.take_of_length_le hi]
   rw [e]
   exact ⟨h1, fun h => by omega⟩
def ordF (n : Nat) (order srt : List Int) : List Int := if srt.length = n ∧ srt = (List.range n).map (fun k : Nat => (k : Int)) then order else (List.range n).map (fun k : Nat => (k : Int))
def planSteps (lim : Nat) (vars : List ByteArray) (ts : List Tm) (bad : Int) (body : List Lt) (order srt : List Int) : List St × (List Tm × Int) :=
 let a := bodyTo lim vars ts bad body body.length
 let ord := ordF a.m.length order srt
 ((runTo a.m ⟨List.replicate vars.length false, a.w ++ a.n, []⟩ ord ord.length).o, (a.ts, a.bad))
end Go.Proofs.YtfddkcmooommeaaGreatDoor.Gl
end
section
namespace Go.Proofs.YtfddkcmooommeaaGreatDoor.Gl
open Go.RowKit Go.Shelf
set_option linter.unusedVariables false
set_option linter.unnecessarySimpa false
set_option linter.unusedSimpArgs false
attribute [-simp] List.getD_eq_getElem?_getD
theorem GC.post {P : Program} {w0 : World} {f : FuncId} {args : Array Value} {R R' : Value → Hp → Prop} {G : Hp} (h : GC P w0 f args R G) (hr : ∀ v G1, R v G1 → ∃ G2, Hs G1 G2 ∧ R' v G2) : GC P w0 f args R' G :=
 ⟨h.1, fun n W hw => (h.2 n W hw).mono fun _ _ ⟨v, G', e, hs, hR⟩ => by
  obtain ⟨G2, h1, h2⟩ := hr _ _ hR
  exact ⟨v, G2, e, h1 _ _ hs, h2⟩⟩
theorem GC.pre {P : Program} {w0 : World} {f : FuncId} {args : Array Value} {R : Value → Hp → Prop} {G G' : Hp} (hs : Hs G G') (h : GC P w0 f args R G') : GC P w0 f args R G := ⟨h.1, fun n W hw => h.2 n W (hs _ _ hw)⟩
abbrev knC (kn : List Bool) : Know := .exact (.cells (boolC kn).toArray 4 (0, 0))
abbrev slC1 (v : Value) : Know := .exact (.cells #[v] 39 (0, 0))
abbrev can (bk bW bO : Nat) (kn : List Bool) (vw vo : Value) (Hw Ho R : Hp) : Hp := (bk, knC kn) :: (bW, slC1 vw) :: (bO, slC1 vo) :: (Hw ++ (Ho ++ R))
theorem can_in (k w o : Nat × Know) (W O R : Hp) : (k :: w :: o :: (W ++ (O ++ R))).Perm (w :: o :: (W ++ (O ++ (k :: R)))) := by
 have h : (W ++ (O ++ (k :: R))).Perm (k :: (W ++ (O ++ R))) := by
  rw [← List.append_assoc, ← List.append_assoc]
  exact List.perm_middle
 exact (List.Perm.swap w k _).trans (((List.Perm.swap o k _).trans (h.symm.cons o)).cons w)
theorem flush_can (w0 : World) (R : Hp) (vw vo : Value) (Hw Ho : Hp) (wait out : List St) (bW bR bO bK bk n : Nat) (kn : List Bool) (hn : kn.length = n)
  (hK : (bK, Know.exact (.cells #[.slice (some ⟨bk, 0, none⟩) n n] 47 (0, 0))) ∈ R) (hR : (bR, Know.exact (.cells #[.func (.func 61) #[] #[.pointer (some ⟨bK, 0, none⟩)]] 133 (0, 0))) ∈ R)
  (hw : SlAt 11 50 (stsC wait) wait.length vw Hw) (ho : SlAt 11 50 (stsC out) out.length vo Ho) (hwl : wait.length ≤ 10000) (hol : out.length ≤ 10000)
  (hb : ∀ s ∈ wait, ∀ p ∈ placesSt s, p.var < n) :
  GC Tryz.prog w0 63 (#[] ++ #[] ++ #[.pointer (some ⟨bW, 0, none⟩), .pointer (some ⟨bR, 0, none⟩), .pointer (some ⟨bO, 0, none⟩)]) (fun v G' => ∃ vw' Hw' vo' Ho', (v = .tuple #[] ∧ SlAt 11 50 (stsC (wait.filter fun s => !readyF kn s)) (wait.filter fun s => !readyF kn s).length vw' Hw' ∧ SlAt 11 50 (stsC (out ++ wait.filter (readyF kn))) (out ++ wait.filter (readyF kn)).length vo' Ho') ∧ can bk bW bO kn vw' vo' Hw' Ho' R = G') (can bk bW bO kn vw vo Hw Ho R) := by
 subst hn
 refine GC.pre (Hs.perm (can_in _ _ _ _ _ _).symm) ?_
 refine (steps_flush w0 ((bk, knC kn) :: R) vw vo Hw Ho wait out bW bR bO kn bK bk (List.mem_cons_of_mem _ hK) List.mem_cons_self (List.mem_cons_of_mem _ hR) hw ho hwl hol hb).post ?_
 rintro v G1 ⟨vw', Hw', vo', Ho', h1, rfl⟩
 exact ⟨_, Hs.perm (can_in _ _ _ _ _ _), vw', Hw', vo', Ho', h1, rfl⟩
theorem can_new (a b k o w m : Nat × Know) (D M W X G : Hp) : (a :: b :: k :: o :: w :: m :: (D ++ (M ++ (W ++ (X ++ G))))).Perm (k :: w :: o :: (W ++ ([] ++ (a :: b :: m :: (D ++ (M ++ (X ++ G))))))) := by
 have h : (W ++ (a :: b :: m :: (D ++ (M ++ (X ++ G))))).Perm (a :: b :: m :: (D ++ (M ++ (W ++ (X ++ G))))) := by
  refine (pm3 a b m W _).trans (((List.Perm.cons m ?_).cons b).cons a)
  rw [← List.append_assoc D M, ← List.append_assoc D M (W ++ (X ++ G)), ← List.append_assoc W (D ++ M), ← List.append_assoc (D ++ M) W]
  exact List.Perm.append_right _ List.perm_append_comm
 rw [List.nil_append]
 have h1 : (a :: b :: k :: o :: w :: m :: (D ++ (M ++ (W ++ (X ++ G))))).Perm (k :: w :: o :: a :: b :: m :: (D ++ (M ++ (W ++ (X ++ G))))) := by
  have e1 : (a :: b :: k :: o :: w :: m :: (D ++ (M ++ (W ++ (X ++ G))))) = [a, b] ++ (k :: o :: w :: (m :: (D ++ (M ++ (W ++ (X ++ G)))))) := rfl
  rw [e1]
  refine (pm3 k o w [a, b] _).trans ?_
  exact (List.Perm.swap w o _).cons k
 exact h1.trans (((h.symm.cons o).cons w).cons k)
theorem can_end (k w o a b m : Nat × Know) (W O D M X G : Hp) : Hs (k :: w :: o :: (W ++ (O ++ (a :: b :: m :: (D ++ (M ++ (X ++ G))))))) (m :: (D ++ (O ++ G))) := by
 refine (Hs.sub (G' := O ++ (m :: (D ++ G))) ?_).trans (Hs.perm ?_)
 ·have h1 : (m :: (D ++ G)).Sublist (a :: b :: m :: (D ++ (M ++ (X ++ G)))) := ((((List.sublist_append_right X G).trans (List.sublist_append_right M _)).append_left D).cons_cons m |>.cons b).cons a
  exact ((((h1.append_left O).trans (List.sublist_append_right W _)).cons o).cons w).cons k
 ·refine List.Perm.trans ?_ (pm1 m O (D ++ G)).symm
  refine List.Perm.cons m ?_
  rw [← List.append_assoc, ← List.append_assoc]
  exact List.Perm.append_right _ List.perm_append_comm
theorem Hs.toRest (k w o : Nat × Know) (W O R : Hp) : Hs (k :: w :: o :: (W ++ (O ++ R))) R := Hs.sub ((((List.sublist_append_right O R).trans (List.sublist_append_right W _)).cons o |>.cons w).cons k)
theorem ord_deep (x p q r : Nat × Know) (A B C G : Hp) : Hs (x :: p :: q :: r :: (A ++ (B ++ (C ++ G)))) (p :: q :: r :: (A ++ (B ++ (C ++ ([x] ++ G))))) := Hs.perm (by
 have h : (A ++ (B ++ (C ++ (x :: G)))).Perm (x :: (A ++ (B ++ (C ++ G)))) := by
  have h0 := @List.perm_middle _ x (A ++ (B ++ C)) G
  simp only [List.append_assoc] at h0
  exact h0
 exact ((h.cons r).cons q |>.cons p).trans (pm3' x p q r _))
 where pm3' (x p q r : Nat × Know) (l : Hp) : (p :: q :: r :: x :: l).Perm (x :: p :: q :: r :: l) := pm1 x [p, q, r] l
theorem sub1 (x : Nat × Know) (H R : Hp) : R.Sublist (H ++ x :: R) := (List.sublist_cons_self x R).trans (List.sublist_append_right H _)
theorem Hs.asc (x1 x2 x3 x4 x5 x6 : Nat × Know) (A B E : Hp) : Hs (x1 :: x2 :: x3 :: x4 :: x5 :: x6 :: (A ++ (B ++ E))) (x1 :: x2 :: x3 :: x4 :: x5 :: x6 :: ((A ++ B) ++ E)) := Hs.eq (by rw [List.append_assoc])
theorem Hs.asc' (x1 x2 x3 x4 x5 x6 : Nat × Know) (A B E : Hp) : Hs (x1 :: x2 :: x3 :: x4 :: x5 :: x6 :: ((A ++ B) ++ E)) (x1 :: x2 :: x3 :: x4 :: x5 :: x6 :: (A ++ (B ++ E))) := Hs.eq (by rw [List.append_assoc])
theorem Hs.asc2 (x1 x2 x3 x4 x5 x6 : Nat × Know) (A B C E : Hp) : Hs (x1 :: x2 :: x3 :: x4 :: x5 :: x6 :: (A ++ (B ++ (C ++ E)))) (x1 :: x2 :: x3 :: x4 :: x5 :: x6 :: ((A ++ (B ++ C)) ++ E)) := Hs.eq (by simp only [List.append_assoc])
theorem Hs.asc2' (x1 x2 x3 x4 x5 x6 : Nat × Know) (A B C E : Hp) : Hs (x1 :: x2 :: x3 :: x4 :: x5 :: x6 :: ((A ++ (B ++ C)) ++ E)) (x1 :: x2 :: x3 :: x4 :: x5 :: x6 :: (A ++ (B ++ (C ++ E)))) := Hs.eq (by simp only [List.append_assoc])
theorem Hs.asc3 (x1 x2 x3 : Nat × Know) (A B E : Hp) : Hs (x1 :: x2 :: x3 :: (A ++ (B ++ E))) (x1 :: x2 :: x3 :: ((A ++ B) ++ E)) := Hs.eq (by rw [List.append_assoc])
theorem Hs.asc3' (x1 x2 x3 : Nat × Know) (A B E : Hp) : Hs (x1 :: x2 :: x3 :: ((A ++ B) ++ E)) (x1 :: x2 :: x3 :: (A ++ (B ++ E))) := Hs.eq (by rw [List.append_assoc])
theorem Hs.drop3 (x1 x2 x3 y : Nat × Know) (A B C G : Hp) : Hs (x1 :: x2 :: x3 :: (A ++ (B ++ (C ++ ([y] ++ G))))) (x1 :: x2 :: x3 :: (A ++ (B ++ (C ++ G)))) := Hs.sub ((((((List.sublist_cons_self y G).append_left C).append_left B).append_left A).cons_cons x3).cons_cons x2 |>.cons_cons x1)
theorem stsC_one (l : List St) : (stsC l).all (·.oneCell') = true := by
 rw [List.all_eq_true]
 intro v hv
 unfold stsC at hv
 obtain ⟨s, _, hs⟩ := List.mem_flatMap.1 hv
 simp only [StC, List.mem_cons, List.not_mem_nil, or_false] at hs
 rcases hs with rfl | rfl | rfl | rfl | rfl | rfl | rfl | rfl | rfl | rfl | rfl <;> rfl
theorem Hs.kn {bk : Nat} {C : Array Value} {kn : List Bool} {R : Hp} (h : C = (boolC kn).toArray) : Hs ((bk, .exact (.cells C 4 (0, 0))) :: R) ((bk, knC kn) :: R) := h ▸ Hs.refl _
theorem kn_zero (n : Nat) : (List.replicate n (Value.bool false)).toArray = (boolC (List.replicate n false)).toArray := by simp [boolC]
theorem getD_some {ms : List St} {i : Nat} (h : i < ms.length) : ms[i]? = some (ms.getD i zSt) := by rw [List.getD, List.getElem?_eq_getElem h]; rfl
theorem rw_index {r : Rw} {k : Nat} (h : k < 3) : ∃ p, (row3 r)[k]? = some p ∧ p ∈ row3 r ∧ ((RwC r).toArray.extract (k * 2) (k * 2 + 2)) = (PlC p).toArray := by
 rcases k with _ | _ | _ | k
 ·exact ⟨r.p0, rfl, by simp [row3], rfl⟩
 ·exact ⟨r.p1, rfl, by simp [row3], rfl⟩
 ·exact ⟨r.p2, rfl, by simp [row3], rfl⟩
 ·omega
theorem row_in {w0 : World} {G : Hp} {b o : Nat} {s : St} (h : Rds w0 G b o (StC s)) : Rds w0 G b (o + 1) (RwC s.row) := fun j v hv => by
 have := h (j + 1) v (by
  show (Value.int .i64 s.kind :: (RwC s.row ++ (PlC s.a ++ PlC s.b)))[j + 1]? = some v
  rw [List.getElem?_cons_succ, List.getElem?_append_left (List.getElem?_eq_some_iff.1 hv).1]
  exact hv)
 rwa [show o + (j + 1) = o + 1 + j by omega] at this
theorem mark_put {kn : List Bool} {i : Nat} (h : i < kn.length) : splice (boolC kn).toArray (0 + i * 1) (Value.bool true).cells.toList = (boolC (kn.set i true)).toArray := by
 rw [show 0 + i * 1 = i by omega, show (Value.bool true).cells.toList = [Value.bool true] from rfl, splice_one (by simpa [boolC] using h)]
 simp [boolC, List.map_set]
theorem eq_up (w0 : World) (G : Hp) (A : Option Addr) (xs : List Int) (c b n : Nat) (hx : IntsAt w0 G A xs) (hb : (b, Know.exact (.cells (intC (List.range n)).toArray 3 (0, 0))) ∈ G) (hm : xs.length ≤ 100000) (hm2 : n ≤ 100000) :
  GC Tryz.prog w0 59 #[.slice A xs.length c, .slice (some ⟨b, 0, none⟩) n n] (fun v G' => v = .bool (decide (xs = (List.range n).map (fun k : Nat => (k : Int)))) ∧ G = G') G := by
 have h := sl_EqInt w0 G A (some ⟨b, 0, none⟩) xs ((List.range n).map (fun k : Nat => (k : Int))) c n hx (exact_ints hb) hm (by simpa using hm2)
 simpa using h
theorem ordF_range {n : Nat} {order srt : List Int} (h : ∀ z ∈ order, z ∈ srt) : ∀ z ∈ ordF n order srt, 0 ≤ z ∧ z < n := by
 intro z hz
 unfold ordF at hz
 split at hz
 ·rename_i he
  have := h z hz
  rw [he.2] at this
  obtain ⟨k, hk, rfl⟩ := List.mem_map.1 this
  have := List.mem_range.1 hk
  omega
 ·obtain ⟨k, hk, rfl⟩ := List.mem_map.1 hz
  have := List.mem_range.1 hk
  omega
theorem ordF_yes {n : Nat} {order srt : List Int} (h1 : srt.length = n) (h2 : srt = (List.range n).map (fun k : Nat => (k : Int))) : ordF n order srt = order := by unfold ordF; rw [if_pos ⟨h1, h2⟩]
theorem ordF_eq {n : Nat} {srt : List Int} (e : srt.length = n) (h : srt = (List.range srt.length).map (fun k : Nat => (k : Int))) : srt = (List.range n).map (fun k : Nat => (k : Int)) := by rw [← e]; exact h
theorem ordF_no {n : Nat} {order srt : List Int} (h : ¬ (srt.length = n ∧ srt = (List.range n).map (fun k : Nat => (k : Int)))) : ordF n order srt = (List.range n).map (fun k : Nat => (k : Int)) := by unfold ordF; rw [if_neg h]
end Go.Proofs.YtfddkcmooommeaaGreatDoor.Gl
end
