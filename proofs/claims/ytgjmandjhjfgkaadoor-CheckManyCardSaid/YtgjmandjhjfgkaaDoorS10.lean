import Derived.Test.YtgjmandjhjfgkaaDoorS9
import Derived.Test.YtgjmandjhjfgkaaDoorGu
namespace Go.Proofs.YtgjmandjhjfgkaaDoor.Gl
open Go.RowKit Go.Shelf
set_option linter.unusedVariables false
set_option linter.unnecessarySimpa false
set_option linter.unusedSimpArgs false
attribute [-simp] List.getD_eq_getElem?_getD



/-! ### plain: terms -/
def emp (s : ByteArray) : Bool := s.toList == (ByteArray.mk #[]).toList
def xsd : ByteArray := ⟨#[104, 116, 116, 112, 58, 47, 47, 119, 119, 119, 46, 119, 51, 46, 111, 114, 103, 47, 50, 48, 48, 49, 47, 88, 77, 76, 83, 99, 104, 101, 109, 97, 35, 115, 116, 114, 105, 110, 103]⟩
def isXsd (s : ByteArray) : Bool := s.toList == xsd.toList
def valS (s : ByteArray) : Bool := decide (s.size ≤ 4000) && validS (bs s)
def mayT (t : Tm) : Bool :=
  if t.kind = 1 then iriS (bs t.text) && emp t.ext else if t.kind = 2 then word 64 (bs t.text) && emp t.ext else if t.kind = 3 then valS t.text && emp t.ext
  else if t.kind = 4 then valS t.text && tagS (bs t.ext) else if t.kind = 5 then valS t.text && (iriS (bs t.ext) && !isXsd t.ext) else false
def kindF (k : Int) : Value := if k = 1 then .func (.func 47) #[] #[] else if k = 2 then .func (.func 49) #[] #[] else if k = 3 then .func (.func 51) #[] #[] else if k = 4 then .func (.func 53) #[] #[] else if k = 5 then .func (.func 55) #[] #[] else .nilFunc
def kindR (k : Int) : Option (Nat × Value) := if k = 1 then some (0, .func (.func 47) #[] #[]) else if k = 2 then some (1, .func (.func 49) #[] #[]) else if k = 3 then some (2, .func (.func 51) #[] #[]) else if k = 4 then some (3, .func (.func 53) #[] #[]) else if k = 5 then some (4, .func (.func 55) #[] #[]) else none
theorem kind_cases (k : Int) : (k = 1 ∧ kindF k = .func (.func 47) #[] #[]) ∨ (k = 2 ∧ kindF k = .func (.func 49) #[] #[]) ∨ (k = 3 ∧ kindF k = .func (.func 51) #[] #[]) ∨ (k = 4 ∧ kindF k = .func (.func 53) #[] #[]) ∨ (k = 5 ∧ kindF k = .func (.func 55) #[] #[]) ∨ ((k ≠ 1 ∧ k ≠ 2 ∧ k ≠ 3 ∧ k ≠ 4 ∧ k ≠ 5) ∧ kindF k = .nilFunc) := by
  by_cases h1 : k = 1
  · subst h1; exact .inl ⟨rfl, rfl⟩
  by_cases h2 : k = 2
  · subst h2; exact .inr (.inl ⟨rfl, rfl⟩)
  by_cases h3 : k = 3
  · subst h3; exact .inr (.inr (.inl ⟨rfl, rfl⟩))
  by_cases h4 : k = 4
  · subst h4; exact .inr (.inr (.inr (.inl ⟨rfl, rfl⟩)))
  by_cases h5 : k = 5
  · subst h5; exact .inr (.inr (.inr (.inr (.inl ⟨rfl, rfl⟩))))
  · exact .inr (.inr (.inr (.inr (.inr ⟨⟨h1, h2, h3, h4, h5⟩, by simp [kindF, h1, h2, h3, h4, h5]⟩))))
def KM : Array MapEntry := #[{ key := .int .i64 1, val := .func (.func 47) #[] #[], born := 0 }, { key := .int .i64 2, val := .func (.func 49) #[] #[], born := 1 }, { key := .int .i64 3, val := .func (.func 51) #[] #[], born := 2 }, { key := .int .i64 4, val := .func (.func 53) #[] #[], born := 3 }, { key := .int .i64 5, val := .func (.func 55) #[] #[], born := 4 }]
theorem kind_find (k : Int) : Instr.findNow (.int .i64) (.int .i64 k) KM.toList 0 = some (kindR k) := by
  by_cases h1 : k = 1
  · subst h1; rfl
  by_cases h2 : k = 2
  · subst h2; rfl
  by_cases h3 : k = 3
  · subst h3; rfl
  by_cases h4 : k = 4
  · subst h4; rfl
  by_cases h5 : k = 5
  · subst h5; rfl
  · have e : ∀ n : Int, k ≠ n → (k == n) = false := fun n h => by simpa using h
    simp [kindR, h1, h2, h3, h4, h5, KM, Instr.findNow, Instr.sameNow, e]
theorem kind_val (k : Int) : hit Value.nilFunc (kindR k) = kindF k := by
  unfold kindR kindF hit
  repeat' split
  all_goals simp_all


theorem kinds1 (w0 : World) (G : Hp) (t : Tm) (h1 : t.text.size ≤ 1048576) (h2 : t.ext.size ≤ 1048576) : GC Tryd.prog w0 47 #[.agg #[.int .i64 t.kind, .string t.text, .string t.ext]] (fun v G' => v = .bool (iriS (bs t.text) && emp t.ext) ∧ G = G') G := by
  refine GC.body (args := [.agg #[.int .i64 t.kind, .string t.text, .string t.ext]]) Tryd.func47 rfl (by kernel_rfl) rfl ?_
  refine GW.seq ?_
  refine GW.region ?_
  refine R.box ⟨rfl, rfl, rfl, rfl⟩ rfl fun b1 => ?_   -- type 35
  refine R.assign ⟨rfl, rfl, rfl, rfl⟩ rfl ?_
  refine GOps.nil ?_
  refine GW.seq ?_
  refine GW.region ?_
  refine R.fieldAddr ⟨rfl, rfl, rfl, rfl⟩ rfl Tryd.underlying35 rfl Tryd.sizeOf9 ?_   -- "Text"
  refine R.load1 ⟨rfl, rfl, rfl, rfl⟩ rfl Tryd.underlying9 rfl (.own' (by repeat (first | exact List.mem_cons_self | apply List.mem_cons_of_mem | apply List.mem_append_right)) (by rfl)) ?_   -- load 0 term.go:62 t3
  refine R.call ⟨rfl, rfl, rfl, rfl⟩ rfl (vs := [_]) rfl ((term_iri _ _ _ (by omega)).mono ?_)
  rintro _ _ ⟨rfl, rfl⟩
  refine R.move ⟨rfl, rfl, rfl, rfl⟩ rfl ?_
  refine GOps.caseB 6 rfl (fun hg1 => ?_) (fun hg1 => ?_)
  · try simp only [decide_eq_true_eq, decide_eq_false_iff_not, Bool.not_eq_true', Bool.not_eq_false'] at hg1
    refine R.fieldAddr ⟨rfl, rfl, rfl, rfl⟩ rfl Tryd.underlying35 rfl Tryd.sizeOf9 ?_   -- "Extra"
    refine R.load1 ⟨rfl, rfl, rfl, rfl⟩ rfl Tryd.underlying9 rfl (.own' (by repeat (first | exact List.mem_cons_self | apply List.mem_cons_of_mem | apply List.mem_append_right)) (by rfl)) ?_   -- load 1 term.go:62 t7
    refine R.eqS ⟨rfl, rfl, rfl, rfl⟩ rfl rfl ?_   -- eql ['t8', 'const']
    refine R.pick_t ⟨rfl, rfl, rfl, rfl⟩ rfl rfl ?_
    refine R.assign ⟨rfl, rfl, rfl, rfl⟩ rfl ?_
    refine GOps.nil ?_
    refine GW.ret (Out.of (Res.one rfl rfl) (by first | exact Hs.refl _ | exact Hs.tl _ | exact Hs.tl2 _ _ | exact Hs.tl3 _ _ _ | exact (Hs.app _).trans (Hs.tl _) | exact (Hs.app _).trans ((Hs.app _).trans (Hs.tl _))) ⟨?_, rfl⟩)
    refine vb ?_; first | (rw [show iriS (bs t.text) = false from hg1]; rfl) | (rw [show iriS (bs t.text) = true from hg1, show iriS (bs t.ext) = true from hg2]; rfl) | (rw [show iriS (bs t.text) = true from hg1, show iriS (bs t.ext) = false from hg2]; rfl) | (rw [show iriS (bs t.text) = true from hg1]; rfl)
  · try simp only [decide_eq_true_eq, decide_eq_false_iff_not, Bool.not_eq_true', Bool.not_eq_false'] at hg1
    refine GOps.skip rfl rfl rfl ?_
    refine GOps.skip rfl rfl rfl ?_
    refine GOps.skip rfl rfl rfl ?_
    refine R.pick_f ⟨rfl, rfl, rfl, rfl⟩ rfl rfl ?_
    refine R.assign ⟨rfl, rfl, rfl, rfl⟩ rfl ?_
    refine GOps.nil ?_
    refine GW.ret (Out.of (Res.one rfl rfl) (by first | exact Hs.refl _ | exact Hs.tl _ | exact Hs.tl2 _ _ | exact Hs.tl3 _ _ _ | exact (Hs.app _).trans (Hs.tl _) | exact (Hs.app _).trans ((Hs.app _).trans (Hs.tl _))) ⟨?_, rfl⟩)
    refine vb ?_; first | (rw [show iriS (bs t.text) = false from hg1]; rfl) | (rw [show iriS (bs t.text) = true from hg1, show iriS (bs t.ext) = true from hg2]; rfl) | (rw [show iriS (bs t.text) = true from hg1, show iriS (bs t.ext) = false from hg2]; rfl) | (rw [show iriS (bs t.text) = true from hg1]; rfl)

theorem kinds2 (w0 : World) (G : Hp) (t : Tm) (h1 : t.text.size ≤ 1048576) (h2 : t.ext.size ≤ 1048576) : GC Tryd.prog w0 49 #[.agg #[.int .i64 t.kind, .string t.text, .string t.ext]] (fun v G' => v = .bool (word 64 (bs t.text) && emp t.ext) ∧ G = G') G := by
  refine GC.body (args := [.agg #[.int .i64 t.kind, .string t.text, .string t.ext]]) Tryd.func49 rfl (by kernel_rfl) rfl ?_
  refine GW.seq ?_
  refine GW.region ?_
  refine R.box ⟨rfl, rfl, rfl, rfl⟩ rfl fun b1 => ?_   -- type 35
  refine R.assign ⟨rfl, rfl, rfl, rfl⟩ rfl ?_
  refine GOps.nil ?_
  refine GW.seq ?_
  refine GW.region ?_
  refine R.fieldAddr ⟨rfl, rfl, rfl, rfl⟩ rfl Tryd.underlying35 rfl Tryd.sizeOf9 ?_   -- "Text"
  refine R.load1 ⟨rfl, rfl, rfl, rfl⟩ rfl Tryd.underlying9 rfl (.own' (by repeat (first | exact List.mem_cons_self | apply List.mem_cons_of_mem | apply List.mem_append_right)) (by rfl)) ?_   -- load 0 term.go:63 t3
  refine R.call ⟨rfl, rfl, rfl, rfl⟩ rfl (vs := [_]) rfl ((term_blank _ _ _ (by omega)).mono ?_)
  rintro _ _ ⟨rfl, rfl⟩
  refine R.move ⟨rfl, rfl, rfl, rfl⟩ rfl ?_
  refine GOps.caseB 6 rfl (fun hg1 => ?_) (fun hg1 => ?_)
  · try simp only [decide_eq_true_eq, decide_eq_false_iff_not, Bool.not_eq_true', Bool.not_eq_false'] at hg1
    refine R.fieldAddr ⟨rfl, rfl, rfl, rfl⟩ rfl Tryd.underlying35 rfl Tryd.sizeOf9 ?_   -- "Extra"
    refine R.load1 ⟨rfl, rfl, rfl, rfl⟩ rfl Tryd.underlying9 rfl (.own' (by repeat (first | exact List.mem_cons_self | apply List.mem_cons_of_mem | apply List.mem_append_right)) (by rfl)) ?_   -- load 1 term.go:63 t7
    refine R.eqS ⟨rfl, rfl, rfl, rfl⟩ rfl rfl ?_   -- eql ['t8', 'const']
    refine R.pick_t ⟨rfl, rfl, rfl, rfl⟩ rfl rfl ?_
    refine R.assign ⟨rfl, rfl, rfl, rfl⟩ rfl ?_
    refine GOps.nil ?_
    refine GW.ret (Out.of (Res.one rfl rfl) (by first | exact Hs.refl _ | exact Hs.tl _ | exact Hs.tl2 _ _ | exact Hs.tl3 _ _ _ | exact (Hs.app _).trans (Hs.tl _) | exact (Hs.app _).trans ((Hs.app _).trans (Hs.tl _))) ⟨?_, rfl⟩)
    refine vb ?_; first | (rw [show word 64 (bs t.text) = false from hg1]; rfl) | (rw [show word 64 (bs t.text) = true from hg1, show iriS (bs t.ext) = true from hg2]; rfl) | (rw [show word 64 (bs t.text) = true from hg1, show iriS (bs t.ext) = false from hg2]; rfl) | (rw [show word 64 (bs t.text) = true from hg1]; rfl)
  · try simp only [decide_eq_true_eq, decide_eq_false_iff_not, Bool.not_eq_true', Bool.not_eq_false'] at hg1
    refine GOps.skip rfl rfl rfl ?_
    refine GOps.skip rfl rfl rfl ?_
    refine GOps.skip rfl rfl rfl ?_
    refine R.pick_f ⟨rfl, rfl, rfl, rfl⟩ rfl rfl ?_
    refine R.assign ⟨rfl, rfl, rfl, rfl⟩ rfl ?_
    refine GOps.nil ?_
    refine GW.ret (Out.of (Res.one rfl rfl) (by first | exact Hs.refl _ | exact Hs.tl _ | exact Hs.tl2 _ _ | exact Hs.tl3 _ _ _ | exact (Hs.app _).trans (Hs.tl _) | exact (Hs.app _).trans ((Hs.app _).trans (Hs.tl _))) ⟨?_, rfl⟩)
    refine vb ?_; first | (rw [show word 64 (bs t.text) = false from hg1]; rfl) | (rw [show word 64 (bs t.text) = true from hg1, show iriS (bs t.ext) = true from hg2]; rfl) | (rw [show word 64 (bs t.text) = true from hg1, show iriS (bs t.ext) = false from hg2]; rfl) | (rw [show word 64 (bs t.text) = true from hg1]; rfl)

theorem kinds3 (w0 : World) (G : Hp) (t : Tm) (h1 : t.text.size ≤ 1048576) (h2 : t.ext.size ≤ 1048576) : GC Tryd.prog w0 51 #[.agg #[.int .i64 t.kind, .string t.text, .string t.ext]] (fun v G' => v = .bool (valS t.text && emp t.ext) ∧ G = G') G := by
  refine GC.body (args := [.agg #[.int .i64 t.kind, .string t.text, .string t.ext]]) Tryd.func51 rfl (by kernel_rfl) rfl ?_
  refine GW.seq ?_
  refine GW.region ?_
  refine R.box ⟨rfl, rfl, rfl, rfl⟩ rfl fun b1 => ?_   -- type 35
  refine R.assign ⟨rfl, rfl, rfl, rfl⟩ rfl ?_
  refine GOps.nil ?_
  refine GW.seq ?_
  refine GW.region ?_
  refine R.fieldAddr ⟨rfl, rfl, rfl, rfl⟩ rfl Tryd.underlying35 rfl Tryd.sizeOf9 ?_   -- "Text"
  refine R.load1 ⟨rfl, rfl, rfl, rfl⟩ rfl Tryd.underlying9 rfl (.own' (by repeat (first | exact List.mem_cons_self | apply List.mem_cons_of_mem | apply List.mem_append_right)) (by rfl)) ?_   -- load 0 term.go:64 t3
  refine R.call ⟨rfl, rfl, rfl, rfl⟩ rfl (vs := [_]) rfl ((term_value _ _ _ (by omega)).mono ?_)
  rintro _ _ ⟨rfl, rfl⟩
  refine R.move ⟨rfl, rfl, rfl, rfl⟩ rfl ?_
  refine GOps.caseB 6 rfl (fun hg1 => ?_) (fun hg1 => ?_)
  · try simp only [decide_eq_true_eq, decide_eq_false_iff_not, Bool.not_eq_true', Bool.not_eq_false'] at hg1
    refine R.fieldAddr ⟨rfl, rfl, rfl, rfl⟩ rfl Tryd.underlying35 rfl Tryd.sizeOf9 ?_   -- "Extra"
    refine R.load1 ⟨rfl, rfl, rfl, rfl⟩ rfl Tryd.underlying9 rfl (.own' (by repeat (first | exact List.mem_cons_self | apply List.mem_cons_of_mem | apply List.mem_append_right)) (by rfl)) ?_   -- load 1 term.go:64 t7
    refine R.eqS ⟨rfl, rfl, rfl, rfl⟩ rfl rfl ?_   -- eql ['t8', 'const']
    refine R.pick_t ⟨rfl, rfl, rfl, rfl⟩ rfl rfl ?_
    refine R.assign ⟨rfl, rfl, rfl, rfl⟩ rfl ?_
    refine GOps.nil ?_
    refine GW.ret (Out.of (Res.one rfl rfl) (by first | exact Hs.refl _ | exact Hs.tl _ | exact Hs.tl2 _ _ | exact Hs.tl3 _ _ _ | exact (Hs.app _).trans (Hs.tl _) | exact (Hs.app _).trans ((Hs.app _).trans (Hs.tl _))) ⟨?_, rfl⟩)
    refine vb ?_; first | (rw [show valS t.text = false from hg1]; rfl) | (rw [show valS t.text = true from hg1, show iriS (bs t.ext) = true from hg2]; rfl) | (rw [show valS t.text = true from hg1, show iriS (bs t.ext) = false from hg2]; rfl) | (rw [show valS t.text = true from hg1]; rfl)
  · try simp only [decide_eq_true_eq, decide_eq_false_iff_not, Bool.not_eq_true', Bool.not_eq_false'] at hg1
    refine GOps.skip rfl rfl rfl ?_
    refine GOps.skip rfl rfl rfl ?_
    refine GOps.skip rfl rfl rfl ?_
    refine R.pick_f ⟨rfl, rfl, rfl, rfl⟩ rfl rfl ?_
    refine R.assign ⟨rfl, rfl, rfl, rfl⟩ rfl ?_
    refine GOps.nil ?_
    refine GW.ret (Out.of (Res.one rfl rfl) (by first | exact Hs.refl _ | exact Hs.tl _ | exact Hs.tl2 _ _ | exact Hs.tl3 _ _ _ | exact (Hs.app _).trans (Hs.tl _) | exact (Hs.app _).trans ((Hs.app _).trans (Hs.tl _))) ⟨?_, rfl⟩)
    refine vb ?_; first | (rw [show valS t.text = false from hg1]; rfl) | (rw [show valS t.text = true from hg1, show iriS (bs t.ext) = true from hg2]; rfl) | (rw [show valS t.text = true from hg1, show iriS (bs t.ext) = false from hg2]; rfl) | (rw [show valS t.text = true from hg1]; rfl)

theorem kinds4 (w0 : World) (G : Hp) (t : Tm) (h1 : t.text.size ≤ 1048576) (h2 : t.ext.size ≤ 1048576) : GC Tryd.prog w0 53 #[.agg #[.int .i64 t.kind, .string t.text, .string t.ext]] (fun v G' => v = .bool (valS t.text && tagS (bs t.ext)) ∧ G = G') G := by
  refine GC.body (args := [.agg #[.int .i64 t.kind, .string t.text, .string t.ext]]) Tryd.func53 rfl (by kernel_rfl) rfl ?_
  refine GW.seq ?_
  refine GW.region ?_
  refine R.box ⟨rfl, rfl, rfl, rfl⟩ rfl fun b1 => ?_   -- type 35
  refine R.assign ⟨rfl, rfl, rfl, rfl⟩ rfl ?_
  refine GOps.nil ?_
  refine GW.seq ?_
  refine GW.region ?_
  refine R.fieldAddr ⟨rfl, rfl, rfl, rfl⟩ rfl Tryd.underlying35 rfl Tryd.sizeOf9 ?_   -- "Text"
  refine R.load1 ⟨rfl, rfl, rfl, rfl⟩ rfl Tryd.underlying9 rfl (.own' (by repeat (first | exact List.mem_cons_self | apply List.mem_cons_of_mem | apply List.mem_append_right)) (by rfl)) ?_   -- load 0 term.go:65 t3
  refine R.call ⟨rfl, rfl, rfl, rfl⟩ rfl (vs := [_]) rfl ((term_value _ _ _ (by omega)).mono ?_)
  rintro _ _ ⟨rfl, rfl⟩
  refine R.move ⟨rfl, rfl, rfl, rfl⟩ rfl ?_
  refine GOps.caseB 6 rfl (fun hg1 => ?_) (fun hg1 => ?_)
  · try simp only [decide_eq_true_eq, decide_eq_false_iff_not, Bool.not_eq_true', Bool.not_eq_false'] at hg1
    refine R.fieldAddr ⟨rfl, rfl, rfl, rfl⟩ rfl Tryd.underlying35 rfl Tryd.sizeOf9 ?_   -- "Extra"
    refine R.load1 ⟨rfl, rfl, rfl, rfl⟩ rfl Tryd.underlying9 rfl (.own' (by repeat (first | exact List.mem_cons_self | apply List.mem_cons_of_mem | apply List.mem_append_right)) (by rfl)) ?_   -- load 1 term.go:65 t7
    refine R.call ⟨rfl, rfl, rfl, rfl⟩ rfl (vs := [_]) rfl ((term_tag _ _ _ (by omega)).mono ?_)
    rintro _ _ ⟨rfl, rfl⟩
    refine R.pick_t ⟨rfl, rfl, rfl, rfl⟩ rfl rfl ?_
    refine R.assign ⟨rfl, rfl, rfl, rfl⟩ rfl ?_
    refine GOps.nil ?_
    refine GW.ret (Out.of (Res.one rfl rfl) (by first | exact Hs.refl _ | exact Hs.tl _ | exact Hs.tl2 _ _ | exact Hs.tl3 _ _ _ | exact (Hs.app _).trans (Hs.tl _) | exact (Hs.app _).trans ((Hs.app _).trans (Hs.tl _))) ⟨?_, rfl⟩)
    refine vb ?_; first | (rw [show valS t.text = false from hg1]; rfl) | (rw [show valS t.text = true from hg1, show iriS (bs t.ext) = true from hg2]; rfl) | (rw [show valS t.text = true from hg1, show iriS (bs t.ext) = false from hg2]; rfl) | (rw [show valS t.text = true from hg1]; rfl)
  · try simp only [decide_eq_true_eq, decide_eq_false_iff_not, Bool.not_eq_true', Bool.not_eq_false'] at hg1
    refine GOps.skip rfl rfl rfl ?_
    refine GOps.skip rfl rfl rfl ?_
    refine GOps.skip rfl rfl rfl ?_
    refine R.pick_f ⟨rfl, rfl, rfl, rfl⟩ rfl rfl ?_
    refine R.assign ⟨rfl, rfl, rfl, rfl⟩ rfl ?_
    refine GOps.nil ?_
    refine GW.ret (Out.of (Res.one rfl rfl) (by first | exact Hs.refl _ | exact Hs.tl _ | exact Hs.tl2 _ _ | exact Hs.tl3 _ _ _ | exact (Hs.app _).trans (Hs.tl _) | exact (Hs.app _).trans ((Hs.app _).trans (Hs.tl _))) ⟨?_, rfl⟩)
    refine vb ?_; first | (rw [show valS t.text = false from hg1]; rfl) | (rw [show valS t.text = true from hg1, show iriS (bs t.ext) = true from hg2]; rfl) | (rw [show valS t.text = true from hg1, show iriS (bs t.ext) = false from hg2]; rfl) | (rw [show valS t.text = true from hg1]; rfl)

theorem kinds5 (w0 : World) (G : Hp) (t : Tm) (h1 : t.text.size ≤ 1048576) (h2 : t.ext.size ≤ 1048576) : GC Tryd.prog w0 55 #[.agg #[.int .i64 t.kind, .string t.text, .string t.ext]] (fun v G' => v = .bool (valS t.text && (iriS (bs t.ext) && !isXsd t.ext)) ∧ G = G') G := by
  refine GC.body (args := [.agg #[.int .i64 t.kind, .string t.text, .string t.ext]]) Tryd.func55 rfl (by kernel_rfl) rfl ?_
  refine GW.seq ?_
  refine GW.region ?_
  refine R.box ⟨rfl, rfl, rfl, rfl⟩ rfl fun b1 => ?_   -- type 35
  refine R.assign ⟨rfl, rfl, rfl, rfl⟩ rfl ?_
  refine GOps.nil ?_
  refine GW.seq ?_
  refine GW.region ?_
  refine R.fieldAddr ⟨rfl, rfl, rfl, rfl⟩ rfl Tryd.underlying35 rfl Tryd.sizeOf9 ?_   -- "Text"
  refine R.load1 ⟨rfl, rfl, rfl, rfl⟩ rfl Tryd.underlying9 rfl (.own' (by repeat (first | exact List.mem_cons_self | apply List.mem_cons_of_mem | apply List.mem_append_right)) (by rfl)) ?_   -- load 0 term.go:66 t3
  refine R.call ⟨rfl, rfl, rfl, rfl⟩ rfl (vs := [_]) rfl ((term_value _ _ _ (by omega)).mono ?_)
  rintro _ _ ⟨rfl, rfl⟩
  refine R.move ⟨rfl, rfl, rfl, rfl⟩ rfl ?_
  refine GOps.caseB 6 rfl (fun hg1 => ?_) (fun hg1 => ?_)
  · try simp only [decide_eq_true_eq, decide_eq_false_iff_not, Bool.not_eq_true', Bool.not_eq_false'] at hg1
    refine R.fieldAddr ⟨rfl, rfl, rfl, rfl⟩ rfl Tryd.underlying35 rfl Tryd.sizeOf9 ?_   -- "Extra"
    refine R.load1 ⟨rfl, rfl, rfl, rfl⟩ rfl Tryd.underlying9 rfl (.own' (by repeat (first | exact List.mem_cons_self | apply List.mem_cons_of_mem | apply List.mem_append_right)) (by rfl)) ?_   -- load 1 term.go:66 t7
    refine R.call ⟨rfl, rfl, rfl, rfl⟩ rfl (vs := [_]) rfl ((term_iri _ _ _ (by omega)).mono ?_)
    rintro _ _ ⟨rfl, rfl⟩
    refine R.pick_t ⟨rfl, rfl, rfl, rfl⟩ rfl rfl ?_
    refine R.move ⟨rfl, rfl, rfl, rfl⟩ rfl ?_
    refine GOps.caseB 11 rfl (fun hg2 => ?_) (fun hg2 => ?_)
    · try simp only [decide_eq_true_eq, decide_eq_false_iff_not, Bool.not_eq_true', Bool.not_eq_false'] at hg2
      refine R.fieldAddr ⟨rfl, rfl, rfl, rfl⟩ rfl Tryd.underlying35 rfl Tryd.sizeOf9 ?_   -- "Extra"
      refine R.load1 ⟨rfl, rfl, rfl, rfl⟩ rfl Tryd.underlying9 rfl (.own' (by repeat (first | exact List.mem_cons_self | apply List.mem_cons_of_mem | apply List.mem_append_right)) (by rfl)) ?_   -- load 2 term.go:66 t12
      refine R.neS ⟨rfl, rfl, rfl, rfl⟩ rfl rfl ?_   -- neq ['t13', 'const']
      refine R.pick_t ⟨rfl, rfl, rfl, rfl⟩ rfl rfl ?_
      refine R.assign ⟨rfl, rfl, rfl, rfl⟩ rfl ?_
      refine GOps.nil ?_
      refine GW.ret (Out.of (Res.one rfl rfl) (by first | exact Hs.refl _ | exact Hs.tl _ | exact Hs.tl2 _ _ | exact Hs.tl3 _ _ _ | exact (Hs.app _).trans (Hs.tl _) | exact (Hs.app _).trans ((Hs.app _).trans (Hs.tl _))) ⟨?_, rfl⟩)
      refine vb ?_; first | (rw [show valS t.text = false from hg1]; rfl) | (rw [show valS t.text = true from hg1, show iriS (bs t.ext) = true from hg2]; rfl) | (rw [show valS t.text = true from hg1, show iriS (bs t.ext) = false from hg2]; rfl) | (rw [show valS t.text = true from hg1]; rfl)
    · try simp only [decide_eq_true_eq, decide_eq_false_iff_not, Bool.not_eq_true', Bool.not_eq_false'] at hg2
      refine GOps.skip rfl rfl rfl ?_
      refine GOps.skip rfl rfl rfl ?_
      refine GOps.skip rfl rfl rfl ?_
      refine R.pick_f ⟨rfl, rfl, rfl, rfl⟩ rfl rfl ?_
      refine R.assign ⟨rfl, rfl, rfl, rfl⟩ rfl ?_
      refine GOps.nil ?_
      refine GW.ret (Out.of (Res.one rfl rfl) (by first | exact Hs.refl _ | exact Hs.tl _ | exact Hs.tl2 _ _ | exact Hs.tl3 _ _ _ | exact (Hs.app _).trans (Hs.tl _) | exact (Hs.app _).trans ((Hs.app _).trans (Hs.tl _))) ⟨?_, rfl⟩)
      refine vb ?_; first | (rw [show valS t.text = false from hg1]; rfl) | (rw [show valS t.text = true from hg1, show iriS (bs t.ext) = true from hg2]; rfl) | (rw [show valS t.text = true from hg1, show iriS (bs t.ext) = false from hg2]; rfl) | (rw [show valS t.text = true from hg1]; rfl)
  · try simp only [decide_eq_true_eq, decide_eq_false_iff_not, Bool.not_eq_true', Bool.not_eq_false'] at hg1
    refine GOps.skip rfl rfl rfl ?_
    refine GOps.skip rfl rfl rfl ?_
    refine GOps.skip rfl rfl rfl ?_
    refine R.pick_f ⟨rfl, rfl, rfl, rfl⟩ rfl rfl ?_
    refine R.move ⟨rfl, rfl, rfl, rfl⟩ rfl ?_
    refine GOps.skip rfl rfl rfl ?_
    refine GOps.skip rfl rfl rfl ?_
    refine GOps.skip rfl rfl rfl ?_
    refine R.pick_f ⟨rfl, rfl, rfl, rfl⟩ rfl rfl ?_
    refine R.assign ⟨rfl, rfl, rfl, rfl⟩ rfl ?_
    refine GOps.nil ?_
    refine GW.ret (Out.of (Res.one rfl rfl) (by first | exact Hs.refl _ | exact Hs.tl _ | exact Hs.tl2 _ _ | exact Hs.tl3 _ _ _ | exact (Hs.app _).trans (Hs.tl _) | exact (Hs.app _).trans ((Hs.app _).trans (Hs.tl _))) ⟨?_, rfl⟩)
    refine vb ?_; first | (rw [show valS t.text = false from hg1]; rfl) | (rw [show valS t.text = true from hg1, show iriS (bs t.ext) = true from hg2]; rfl) | (rw [show valS t.text = true from hg1, show iriS (bs t.ext) = false from hg2]; rfl) | (rw [show valS t.text = true from hg1]; rfl)

theorem term_kinds (w0 : World) (G : Hp) : GC Tryd.prog w0 41 #[] (fun v G' => ∃ b, v = .map (some b) ∧ (b, .exact (.map KM 5)) :: G = G') G := by
  refine GC.body (args := []) Tryd.func41 rfl (by kernel_rfl) rfl ?_
  refine GW.seq ?_
  refine GW.region ?_
  refine R.assign ⟨rfl, rfl, rfl, rfl⟩ rfl ?_
  refine GOps.nil ?_
  refine GW.seq ?_
  refine GW.region ?_
  refine R.makeMap ⟨rfl, rfl, rfl, rfl⟩ fun b1 => ?_
  refine R.putNew (G1 := []) (.inr rfl) rfl rfl rfl rfl rfl Tryd.underlying75 Tryd.underlying33 rfl rfl (rfl) ?_
  refine R.putNew (G1 := []) (.inr rfl) rfl rfl rfl rfl rfl Tryd.underlying75 Tryd.underlying33 rfl rfl (rfl) ?_
  refine R.putNew (G1 := []) (.inr rfl) rfl rfl rfl rfl rfl Tryd.underlying75 Tryd.underlying33 rfl rfl (rfl) ?_
  refine R.putNew (G1 := []) (.inr rfl) rfl rfl rfl rfl rfl Tryd.underlying75 Tryd.underlying33 rfl rfl (rfl) ?_
  refine R.putNew (G1 := []) (.inr rfl) rfl rfl rfl rfl rfl Tryd.underlying75 Tryd.underlying33 rfl rfl (rfl) ?_
  refine R.move ⟨rfl, rfl, rfl, rfl⟩ rfl ?_
  refine R.assign ⟨rfl, rfl, rfl, rfl⟩ rfl ?_
  refine GOps.nil ?_
  exact GW.ret (Out.of (Res.one rfl rfl) (Hs.refl _) ⟨_, rfl, rfl⟩)

theorem term_May (w0 : World) (G : Hp) (t : Tm) (h1 : t.text.size ≤ 1048576) (h2 : t.ext.size ≤ 1048576) : GC Tryd.prog w0 38 #[.agg #[.int .i64 t.kind, .string t.text, .string t.ext]] (fun v G' => v = .bool (mayT t) ∧ G = G') G := by
  refine GC.body (args := [.agg #[.int .i64 t.kind, .string t.text, .string t.ext]]) Tryd.func38 rfl (by kernel_rfl) rfl ?_
  refine GW.seq ?_
  refine GW.region ?_
  refine R.box ⟨rfl, rfl, rfl, rfl⟩ rfl fun b1 => ?_   -- type 35
  refine R.assign ⟨rfl, rfl, rfl, rfl⟩ rfl ?_
  refine GOps.nil ?_
  refine GW.seq ?_
  refine GW.drawS 5 rfl (by kernel_rfl) ?_
  refine GA.val 1 rfl (V.fieldAddr ⟨rfl, rfl, rfl, rfl⟩ rfl Tryd.underlying35 rfl Tryd.sizeOf33) rfl (by kernel_rfl) (by kernel_rfl) (by kernel_rfl) ?_   -- "Kind"
  refine GA.val 2 rfl (V.load1 ⟨rfl, rfl, rfl, rfl⟩ rfl Tryd.underlying33 rfl (.own' (by repeat (first | exact List.mem_cons_self | apply List.mem_cons_of_mem | apply List.mem_append_right)) (by rfl))) rfl (by kernel_rfl) (by kernel_rfl) (by kernel_rfl) ?_   -- load 0 term.go:72 t5
  refine GA.one 0 (by first | exact Hs.refl _ | exact Hs.tl _ | exact Hs.tl2 _ _ | exact Hs.tl3 _ _ _ | exact Hs.sub (by simp)) (by kernel_rfl) rfl ?_
  refine R.call ⟨rfl, rfl, rfl, rfl⟩ rfl (vs := []) rfl ((term_kinds _ _).mono ?_)
  rintro _ _ ⟨bk, rfl, rfl⟩
  refine GOps.nil ?_
  refine GA.one 3 (by first | exact Hs.refl _ | exact Hs.tl _ | exact Hs.tl2 _ _ | exact Hs.tl3 _ _ _ | exact Hs.sub (by simp)) (by kernel_rfl) rfl ?_
  refine R.lookup (r := kindR t.kind) (v := kindF t.kind) ⟨rfl, rfl, rfl, rfl⟩ rfl rfl Tryd.underlying75 Tryd.underlying33 rfl Tryd.zeroValue73 (by repeat (first | exact List.mem_cons_self | apply List.mem_cons_of_mem | apply List.mem_append_right)) (kind_find _) (kind_val _) ?_
  refine GOps.nil ?_
  refine GA.val 4 rfl (V.assign ⟨rfl, rfl, rfl, rfl⟩ rfl) rfl (by kernel_rfl) (by kernel_rfl) (by kernel_rfl) ?_
  refine GA.done (by first | exact Hs.refl _ | exact Hs.tl _ | exact Hs.tl2 _ _ | exact Hs.tl3 _ _ _ | exact Hs.sub (by simp)) (by kernel_rfl) ?_
  refine GW.seq ?_
  refine GW.region ?_
  refine R.move ⟨rfl, rfl, rfl, rfl⟩ rfl ?_
  rcases kind_cases t.kind with ⟨hk, e⟩ | ⟨hk, e⟩ | ⟨hk, e⟩ | ⟨hk, e⟩ | ⟨hk, e⟩ | ⟨hk, e⟩
  · rw [e]
    refine R.neFn ⟨rfl, rfl, rfl, rfl⟩ rfl rfl Tryd.underlying73 ?_   -- neq ['t8', 'const']
    refine R.move ⟨rfl, rfl, rfl, rfl⟩ rfl ?_
    refine R.move ⟨rfl, rfl, rfl, rfl⟩ rfl ?_
    refine R.load_own ⟨rfl, rfl, rfl, rfl⟩ rfl Tryd.underlying35 rfl Tryd.sizeOf35 (by repeat (first | exact List.mem_cons_self | apply List.mem_cons_of_mem | apply List.mem_append_right)) (by rfl) (by rfl) ?_   -- load 1 term.go:73 t1:t
    refine R.call ⟨rfl, rfl, rfl, rfl⟩ rfl (vs := [_]) rfl ((kinds1 _ _ _ h1 h2).mono ?_)
    rintro _ _ ⟨rfl, rfl⟩
    refine R.pick_t ⟨rfl, rfl, rfl, rfl⟩ rfl rfl ?_
    refine R.assign ⟨rfl, rfl, rfl, rfl⟩ rfl ?_
    refine GOps.nil ?_
    refine GW.ret (Out.of (Res.one rfl rfl) (by first | exact Hs.refl _ | exact Hs.tl _ | exact Hs.tl2 _ _ | exact Hs.tl3 _ _ _ | exact (Hs.app _).trans (Hs.tl _) | exact (Hs.app _).trans ((Hs.app _).trans (Hs.tl _))) ⟨?_, rfl⟩)
    refine vb ?_; unfold mayT; simp_all
  · rw [e]
    refine R.neFn ⟨rfl, rfl, rfl, rfl⟩ rfl rfl Tryd.underlying73 ?_   -- neq ['t8', 'const']
    refine R.move ⟨rfl, rfl, rfl, rfl⟩ rfl ?_
    refine R.move ⟨rfl, rfl, rfl, rfl⟩ rfl ?_
    refine R.load_own ⟨rfl, rfl, rfl, rfl⟩ rfl Tryd.underlying35 rfl Tryd.sizeOf35 (by repeat (first | exact List.mem_cons_self | apply List.mem_cons_of_mem | apply List.mem_append_right)) (by rfl) (by rfl) ?_   -- load 2 term.go:73 t1:t
    refine R.call ⟨rfl, rfl, rfl, rfl⟩ rfl (vs := [_]) rfl ((kinds2 _ _ _ h1 h2).mono ?_)
    rintro _ _ ⟨rfl, rfl⟩
    refine R.pick_t ⟨rfl, rfl, rfl, rfl⟩ rfl rfl ?_
    refine R.assign ⟨rfl, rfl, rfl, rfl⟩ rfl ?_
    refine GOps.nil ?_
    refine GW.ret (Out.of (Res.one rfl rfl) (by first | exact Hs.refl _ | exact Hs.tl _ | exact Hs.tl2 _ _ | exact Hs.tl3 _ _ _ | exact (Hs.app _).trans (Hs.tl _) | exact (Hs.app _).trans ((Hs.app _).trans (Hs.tl _))) ⟨?_, rfl⟩)
    refine vb ?_; unfold mayT; simp_all
  · rw [e]
    refine R.neFn ⟨rfl, rfl, rfl, rfl⟩ rfl rfl Tryd.underlying73 ?_   -- neq ['t8', 'const']
    refine R.move ⟨rfl, rfl, rfl, rfl⟩ rfl ?_
    refine R.move ⟨rfl, rfl, rfl, rfl⟩ rfl ?_
    refine R.load_own ⟨rfl, rfl, rfl, rfl⟩ rfl Tryd.underlying35 rfl Tryd.sizeOf35 (by repeat (first | exact List.mem_cons_self | apply List.mem_cons_of_mem | apply List.mem_append_right)) (by rfl) (by rfl) ?_   -- load 3 term.go:73 t1:t
    refine R.call ⟨rfl, rfl, rfl, rfl⟩ rfl (vs := [_]) rfl ((kinds3 _ _ _ h1 h2).mono ?_)
    rintro _ _ ⟨rfl, rfl⟩
    refine R.pick_t ⟨rfl, rfl, rfl, rfl⟩ rfl rfl ?_
    refine R.assign ⟨rfl, rfl, rfl, rfl⟩ rfl ?_
    refine GOps.nil ?_
    refine GW.ret (Out.of (Res.one rfl rfl) (by first | exact Hs.refl _ | exact Hs.tl _ | exact Hs.tl2 _ _ | exact Hs.tl3 _ _ _ | exact (Hs.app _).trans (Hs.tl _) | exact (Hs.app _).trans ((Hs.app _).trans (Hs.tl _))) ⟨?_, rfl⟩)
    refine vb ?_; unfold mayT; simp_all
  · rw [e]
    refine R.neFn ⟨rfl, rfl, rfl, rfl⟩ rfl rfl Tryd.underlying73 ?_   -- neq ['t8', 'const']
    refine R.move ⟨rfl, rfl, rfl, rfl⟩ rfl ?_
    refine R.move ⟨rfl, rfl, rfl, rfl⟩ rfl ?_
    refine R.load_own ⟨rfl, rfl, rfl, rfl⟩ rfl Tryd.underlying35 rfl Tryd.sizeOf35 (by repeat (first | exact List.mem_cons_self | apply List.mem_cons_of_mem | apply List.mem_append_right)) (by rfl) (by rfl) ?_   -- load 4 term.go:73 t1:t
    refine R.call ⟨rfl, rfl, rfl, rfl⟩ rfl (vs := [_]) rfl ((kinds4 _ _ _ h1 h2).mono ?_)
    rintro _ _ ⟨rfl, rfl⟩
    refine R.pick_t ⟨rfl, rfl, rfl, rfl⟩ rfl rfl ?_
    refine R.assign ⟨rfl, rfl, rfl, rfl⟩ rfl ?_
    refine GOps.nil ?_
    refine GW.ret (Out.of (Res.one rfl rfl) (by first | exact Hs.refl _ | exact Hs.tl _ | exact Hs.tl2 _ _ | exact Hs.tl3 _ _ _ | exact (Hs.app _).trans (Hs.tl _) | exact (Hs.app _).trans ((Hs.app _).trans (Hs.tl _))) ⟨?_, rfl⟩)
    refine vb ?_; unfold mayT; simp_all
  · rw [e]
    refine R.neFn ⟨rfl, rfl, rfl, rfl⟩ rfl rfl Tryd.underlying73 ?_   -- neq ['t8', 'const']
    refine R.move ⟨rfl, rfl, rfl, rfl⟩ rfl ?_
    refine R.move ⟨rfl, rfl, rfl, rfl⟩ rfl ?_
    refine R.load_own ⟨rfl, rfl, rfl, rfl⟩ rfl Tryd.underlying35 rfl Tryd.sizeOf35 (by repeat (first | exact List.mem_cons_self | apply List.mem_cons_of_mem | apply List.mem_append_right)) (by rfl) (by rfl) ?_   -- load 5 term.go:73 t1:t
    refine R.call ⟨rfl, rfl, rfl, rfl⟩ rfl (vs := [_]) rfl ((kinds5 _ _ _ h1 h2).mono ?_)
    rintro _ _ ⟨rfl, rfl⟩
    refine R.pick_t ⟨rfl, rfl, rfl, rfl⟩ rfl rfl ?_
    refine R.assign ⟨rfl, rfl, rfl, rfl⟩ rfl ?_
    refine GOps.nil ?_
    refine GW.ret (Out.of (Res.one rfl rfl) (by first | exact Hs.refl _ | exact Hs.tl _ | exact Hs.tl2 _ _ | exact Hs.tl3 _ _ _ | exact (Hs.app _).trans (Hs.tl _) | exact (Hs.app _).trans ((Hs.app _).trans (Hs.tl _))) ⟨?_, rfl⟩)
    refine vb ?_; unfold mayT; simp_all
  · rw [e]
    refine R.neNil ⟨rfl, rfl, rfl, rfl⟩ rfl rfl Tryd.underlying73 ?_   -- neq ['t8', 'const']
    refine R.move ⟨rfl, rfl, rfl, rfl⟩ rfl ?_
    refine GOps.skip rfl rfl rfl ?_
    refine GOps.skip rfl rfl rfl ?_
    refine GOps.skip rfl rfl rfl ?_
    refine R.pick_f ⟨rfl, rfl, rfl, rfl⟩ rfl rfl ?_
    refine R.assign ⟨rfl, rfl, rfl, rfl⟩ rfl ?_
    refine GOps.nil ?_
    refine GW.ret (Out.of (Res.one rfl rfl) (by first | exact Hs.refl _ | exact Hs.tl _ | exact Hs.tl2 _ _ | exact Hs.tl3 _ _ _ | exact (Hs.app _).trans (Hs.tl _) | exact (Hs.app _).trans ((Hs.app _).trans (Hs.tl _))) ⟨?_, rfl⟩)
    refine vb ?_; unfold mayT; simp_all

theorem ref_MayT (w0 : World) (G : Hp) (t : Tm) (h1 : t.text.size ≤ 1048576) (h2 : t.ext.size ≤ 1048576) : GC Tryd.prog w0 39 #[.agg #[.int .i64 t.kind, .string t.text, .string t.ext]] (fun v G' => v = .bool (mayT t) ∧ G = G') G := by
  refine GC.body (args := [.agg #[.int .i64 t.kind, .string t.text, .string t.ext]]) Tryd.func39 rfl (by kernel_rfl) rfl ?_
  refine GW.seq ?_
  refine GW.region ?_
  refine R.box ⟨rfl, rfl, rfl, rfl⟩ rfl fun b1 => ?_   -- type 35
  refine R.assign ⟨rfl, rfl, rfl, rfl⟩ rfl ?_
  refine GOps.nil ?_
  refine GW.cutS 3 (valS t.text) [(1, .pointer (some ⟨b1, 0, none⟩))] ?_ ?_
  · refine R.fieldAddr ⟨rfl, rfl, rfl, rfl⟩ rfl Tryd.underlying35 rfl Tryd.sizeOf9 ?_   -- "Text"
    refine R.load1 ⟨rfl, rfl, rfl, rfl⟩ rfl Tryd.underlying9 rfl (.own' (by repeat (first | exact List.mem_cons_self | apply List.mem_cons_of_mem | apply List.mem_append_right)) (by rfl)) ?_   -- load 0 ref.go:81 t4
    refine R.lenStr ⟨rfl, rfl, rfl, rfl⟩ rfl rfl Tryd.underlying9 ?_
    refine R.leq ⟨rfl, rfl, rfl, rfl⟩ rfl rfl ?_   -- leq ['t6', '4000']
    refine R.move ⟨rfl, rfl, rfl, rfl⟩ rfl ?_
    refine GOps.caseB 8 rfl (fun hg1 => ?_) (fun hg1 => ?_)
    · try simp only [decide_eq_true_eq, decide_eq_false_iff_not, Bool.not_eq_true', Bool.not_eq_false'] at hg1
      refine R.fieldAddr ⟨rfl, rfl, rfl, rfl⟩ rfl Tryd.underlying35 rfl Tryd.sizeOf9 ?_   -- "Text"
      refine R.load1 ⟨rfl, rfl, rfl, rfl⟩ rfl Tryd.underlying9 rfl (.own' (by repeat (first | exact List.mem_cons_self | apply List.mem_cons_of_mem | apply List.mem_append_right)) (by rfl)) ?_   -- load 1 ref.go:81 t9
      refine R.call ⟨rfl, rfl, rfl, rfl⟩ rfl (vs := [_]) rfl ((ref_Valid _ _ _ (by omega)).mono ?_)
      rintro _ _ ⟨rfl, rfl⟩
      refine R.pick_t ⟨rfl, rfl, rfl, rfl⟩ rfl rfl ?_
      refine R.assign ⟨rfl, rfl, rfl, rfl⟩ rfl ?_
      refine GOps.nil ?_
      exact ⟨rfl, rfl, by repeat (first | exact Keeps.nil _ | refine Keeps.cons rfl ?_), by first | exact Hs.refl _ | exact Hs.tl _, vbs (by unfold valS; first | (rw [decide_eq_true (show t.text.size ≤ 4000 by omega)]; rfl) | (rw [decide_eq_false (show ¬ t.text.size ≤ 4000 by omega)]; rfl))⟩
    · try simp only [decide_eq_true_eq, decide_eq_false_iff_not, Bool.not_eq_true', Bool.not_eq_false'] at hg1
      refine GOps.skip rfl rfl rfl ?_
      refine GOps.skip rfl rfl rfl ?_
      refine GOps.skip rfl rfl rfl ?_
      refine R.pick_f ⟨rfl, rfl, rfl, rfl⟩ rfl rfl ?_
      refine R.assign ⟨rfl, rfl, rfl, rfl⟩ rfl ?_
      refine GOps.nil ?_
      exact ⟨rfl, rfl, by repeat (first | exact Keeps.nil _ | refine Keeps.cons rfl ?_), by first | exact Hs.refl _ | exact Hs.tl _, vbs (by unfold valS; first | (rw [decide_eq_true (show t.text.size ≤ 4000 by omega)]; rfl) | (rw [decide_eq_false (show ¬ t.text.size ≤ 4000 by omega)]; rfl))⟩
  · refine GW.seq ?_
    refine GW.seq ?_
    refine GW.region ?_
    refine R.fieldAddr ⟨rfl, rfl, rfl, rfl⟩ rfl Tryd.underlying35 rfl Tryd.sizeOf33 ?_   -- "Kind"
    refine R.load1 ⟨rfl, rfl, rfl, rfl⟩ rfl Tryd.underlying33 rfl (.own' (by repeat (first | exact List.mem_cons_self | apply List.mem_cons_of_mem | apply List.mem_append_right)) (by rfl)) ?_   -- load 2 ref.go:82 t13
    refine GOps.nil ?_
    refine GW.block ?_
    refine GW.seq ?_
    refine GW.region ?_
    refine R.eqI ⟨rfl, rfl, rfl, rfl⟩ rfl rfl ?_   -- eql ['t14', '1']
    refine R.assign ⟨rfl, rfl, rfl, rfl⟩ rfl ?_
    refine GOps.nil ?_
    refine GW.ite rfl (fun hc2 => ?_) (fun hc2 => ?_)
    · try simp only [decide_eq_true_eq, decide_eq_false_iff_not, Bool.not_eq_true', Bool.not_eq_false'] at hc2
      refine GW.seq ?_
      refine GW.region ?_
      refine R.fieldAddr ⟨rfl, rfl, rfl, rfl⟩ rfl Tryd.underlying35 rfl Tryd.sizeOf9 ?_   -- "Text"
      refine R.load1 ⟨rfl, rfl, rfl, rfl⟩ rfl Tryd.underlying9 rfl (.own' (by repeat (first | exact List.mem_cons_self | apply List.mem_cons_of_mem | apply List.mem_append_right)) (by rfl)) ?_   -- load 3 ref.go:84 t17
      refine R.call ⟨rfl, rfl, rfl, rfl⟩ rfl (vs := [_]) rfl ((ref_IRI _ _ _ (by omega)).mono ?_)
      rintro _ _ ⟨rfl, rfl⟩
      refine R.move ⟨rfl, rfl, rfl, rfl⟩ rfl ?_
      refine GOps.caseB 20 rfl (fun hg3 => ?_) (fun hg3 => ?_)
      · try simp only [decide_eq_true_eq, decide_eq_false_iff_not, Bool.not_eq_true', Bool.not_eq_false'] at hg3
        refine R.fieldAddr ⟨rfl, rfl, rfl, rfl⟩ rfl Tryd.underlying35 rfl Tryd.sizeOf9 ?_   -- "Extra"
        refine R.load1 ⟨rfl, rfl, rfl, rfl⟩ rfl Tryd.underlying9 rfl (.own' (by repeat (first | exact List.mem_cons_self | apply List.mem_cons_of_mem | apply List.mem_append_right)) (by rfl)) ?_   -- load 4 ref.go:84 t21
        refine R.eqS ⟨rfl, rfl, rfl, rfl⟩ rfl rfl ?_   -- eql ['t22', 'const']
        refine R.pick_t ⟨rfl, rfl, rfl, rfl⟩ rfl rfl ?_
        refine R.assign ⟨rfl, rfl, rfl, rfl⟩ rfl ?_
        refine GOps.nil ?_
        refine GW.ret (Out.of (Res.one rfl rfl) (by first | exact Hs.refl _ | exact Hs.tl _ | exact Hs.tl2 _ _ | exact Hs.tl3 _ _ _ | exact (Hs.app _).trans (Hs.tl _) | exact (Hs.app _).trans ((Hs.app _).trans (Hs.tl _))) ⟨?_, rfl⟩)
        refine vb ?_; unfold mayT emp isXsd xsd; simp_all
      · try simp only [decide_eq_true_eq, decide_eq_false_iff_not, Bool.not_eq_true', Bool.not_eq_false'] at hg3
        refine GOps.skip rfl rfl rfl ?_
        refine GOps.skip rfl rfl rfl ?_
        refine GOps.skip rfl rfl rfl ?_
        refine R.pick_f ⟨rfl, rfl, rfl, rfl⟩ rfl rfl ?_
        refine R.assign ⟨rfl, rfl, rfl, rfl⟩ rfl ?_
        refine GOps.nil ?_
        refine GW.ret (Out.of (Res.one rfl rfl) (by first | exact Hs.refl _ | exact Hs.tl _ | exact Hs.tl2 _ _ | exact Hs.tl3 _ _ _ | exact (Hs.app _).trans (Hs.tl _) | exact (Hs.app _).trans ((Hs.app _).trans (Hs.tl _))) ⟨?_, rfl⟩)
        refine vb ?_; unfold mayT emp isXsd xsd; simp_all
    · try simp only [decide_eq_true_eq, decide_eq_false_iff_not, Bool.not_eq_true', Bool.not_eq_false'] at hc2
      refine GW.seq ?_
      refine GW.region ?_
      refine R.eqI ⟨rfl, rfl, rfl, rfl⟩ rfl rfl ?_   -- eql ['t14', '2']
      refine R.assign ⟨rfl, rfl, rfl, rfl⟩ rfl ?_
      refine GOps.nil ?_
      refine GW.ite rfl (fun hc4 => ?_) (fun hc4 => ?_)
      · try simp only [decide_eq_true_eq, decide_eq_false_iff_not, Bool.not_eq_true', Bool.not_eq_false'] at hc4
        refine GW.seq ?_
        refine GW.region ?_
        refine R.fieldAddr ⟨rfl, rfl, rfl, rfl⟩ rfl Tryd.underlying35 rfl Tryd.sizeOf9 ?_   -- "Text"
        refine R.load1 ⟨rfl, rfl, rfl, rfl⟩ rfl Tryd.underlying9 rfl (.own' (by repeat (first | exact List.mem_cons_self | apply List.mem_cons_of_mem | apply List.mem_append_right)) (by rfl)) ?_   -- load 5 ref.go:86 t27
        refine R.call ⟨rfl, rfl, rfl, rfl⟩ rfl (vs := [_, _]) rfl ((ref_Word _ _ _ 64 (by omega)).mono ?_)
        rintro _ _ ⟨rfl, rfl⟩
        refine R.move ⟨rfl, rfl, rfl, rfl⟩ rfl ?_
        refine GOps.caseB 30 rfl (fun hg5 => ?_) (fun hg5 => ?_)
        · try simp only [decide_eq_true_eq, decide_eq_false_iff_not, Bool.not_eq_true', Bool.not_eq_false'] at hg5
          refine R.fieldAddr ⟨rfl, rfl, rfl, rfl⟩ rfl Tryd.underlying35 rfl Tryd.sizeOf9 ?_   -- "Extra"
          refine R.load1 ⟨rfl, rfl, rfl, rfl⟩ rfl Tryd.underlying9 rfl (.own' (by repeat (first | exact List.mem_cons_self | apply List.mem_cons_of_mem | apply List.mem_append_right)) (by rfl)) ?_   -- load 6 ref.go:86 t31
          refine R.eqS ⟨rfl, rfl, rfl, rfl⟩ rfl rfl ?_   -- eql ['t32', 'const']
          refine R.pick_t ⟨rfl, rfl, rfl, rfl⟩ rfl rfl ?_
          refine R.assign ⟨rfl, rfl, rfl, rfl⟩ rfl ?_
          refine GOps.nil ?_
          refine GW.ret (Out.of (Res.one rfl rfl) (by first | exact Hs.refl _ | exact Hs.tl _ | exact Hs.tl2 _ _ | exact Hs.tl3 _ _ _ | exact (Hs.app _).trans (Hs.tl _) | exact (Hs.app _).trans ((Hs.app _).trans (Hs.tl _))) ⟨?_, rfl⟩)
          refine vb ?_; unfold mayT emp isXsd xsd; simp_all
        · try simp only [decide_eq_true_eq, decide_eq_false_iff_not, Bool.not_eq_true', Bool.not_eq_false'] at hg5
          refine GOps.skip rfl rfl rfl ?_
          refine GOps.skip rfl rfl rfl ?_
          refine GOps.skip rfl rfl rfl ?_
          refine R.pick_f ⟨rfl, rfl, rfl, rfl⟩ rfl rfl ?_
          refine R.assign ⟨rfl, rfl, rfl, rfl⟩ rfl ?_
          refine GOps.nil ?_
          refine GW.ret (Out.of (Res.one rfl rfl) (by first | exact Hs.refl _ | exact Hs.tl _ | exact Hs.tl2 _ _ | exact Hs.tl3 _ _ _ | exact (Hs.app _).trans (Hs.tl _) | exact (Hs.app _).trans ((Hs.app _).trans (Hs.tl _))) ⟨?_, rfl⟩)
          refine vb ?_; unfold mayT emp isXsd xsd; simp_all
      · try simp only [decide_eq_true_eq, decide_eq_false_iff_not, Bool.not_eq_true', Bool.not_eq_false'] at hc4
        refine GW.seq ?_
        refine GW.region ?_
        refine R.eqI ⟨rfl, rfl, rfl, rfl⟩ rfl rfl ?_   -- eql ['t14', '3']
        refine R.assign ⟨rfl, rfl, rfl, rfl⟩ rfl ?_
        refine GOps.nil ?_
        refine GW.ite rfl (fun hc6 => ?_) (fun hc6 => ?_)
        · try simp only [decide_eq_true_eq, decide_eq_false_iff_not, Bool.not_eq_true', Bool.not_eq_false'] at hc6
          refine GW.seq ?_
          refine GW.region ?_
          refine R.move ⟨rfl, rfl, rfl, rfl⟩ rfl ?_
          refine R.move ⟨rfl, rfl, rfl, rfl⟩ rfl ?_
          refine GOps.caseB 38 rfl (fun hg7 => ?_) (fun hg7 => ?_)
          · try simp only [decide_eq_true_eq, decide_eq_false_iff_not, Bool.not_eq_true', Bool.not_eq_false'] at hg7
            refine R.fieldAddr ⟨rfl, rfl, rfl, rfl⟩ rfl Tryd.underlying35 rfl Tryd.sizeOf9 ?_   -- "Extra"
            refine R.load1 ⟨rfl, rfl, rfl, rfl⟩ rfl Tryd.underlying9 rfl (.own' (by repeat (first | exact List.mem_cons_self | apply List.mem_cons_of_mem | apply List.mem_append_right)) (by rfl)) ?_   -- load 7 ref.go:88 t39
            refine R.eqS ⟨rfl, rfl, rfl, rfl⟩ rfl rfl ?_   -- eql ['t40', 'const']
            refine R.pick_t ⟨rfl, rfl, rfl, rfl⟩ rfl rfl ?_
            refine R.assign ⟨rfl, rfl, rfl, rfl⟩ rfl ?_
            refine GOps.nil ?_
            refine GW.ret (Out.of (Res.one rfl rfl) (by first | exact Hs.refl _ | exact Hs.tl _ | exact Hs.tl2 _ _ | exact Hs.tl3 _ _ _ | exact (Hs.app _).trans (Hs.tl _) | exact (Hs.app _).trans ((Hs.app _).trans (Hs.tl _))) ⟨?_, rfl⟩)
            refine vb ?_; unfold mayT emp isXsd xsd; simp_all
          · try simp only [decide_eq_true_eq, decide_eq_false_iff_not, Bool.not_eq_true', Bool.not_eq_false'] at hg7
            refine GOps.skip rfl rfl rfl ?_
            refine GOps.skip rfl rfl rfl ?_
            refine GOps.skip rfl rfl rfl ?_
            refine R.pick_f ⟨rfl, rfl, rfl, rfl⟩ rfl rfl ?_
            refine R.assign ⟨rfl, rfl, rfl, rfl⟩ rfl ?_
            refine GOps.nil ?_
            refine GW.ret (Out.of (Res.one rfl rfl) (by first | exact Hs.refl _ | exact Hs.tl _ | exact Hs.tl2 _ _ | exact Hs.tl3 _ _ _ | exact (Hs.app _).trans (Hs.tl _) | exact (Hs.app _).trans ((Hs.app _).trans (Hs.tl _))) ⟨?_, rfl⟩)
            refine vb ?_; unfold mayT emp isXsd xsd; simp_all
        · try simp only [decide_eq_true_eq, decide_eq_false_iff_not, Bool.not_eq_true', Bool.not_eq_false'] at hc6
          refine GW.seq ?_
          refine GW.region ?_
          refine R.eqI ⟨rfl, rfl, rfl, rfl⟩ rfl rfl ?_   -- eql ['t14', '4']
          refine R.assign ⟨rfl, rfl, rfl, rfl⟩ rfl ?_
          refine GOps.nil ?_
          refine GW.ite rfl (fun hc8 => ?_) (fun hc8 => ?_)
          · try simp only [decide_eq_true_eq, decide_eq_false_iff_not, Bool.not_eq_true', Bool.not_eq_false'] at hc8
            refine GW.seq ?_
            refine GW.region ?_
            refine R.move ⟨rfl, rfl, rfl, rfl⟩ rfl ?_
            refine R.move ⟨rfl, rfl, rfl, rfl⟩ rfl ?_
            refine GOps.caseB 46 rfl (fun hg9 => ?_) (fun hg9 => ?_)
            · try simp only [decide_eq_true_eq, decide_eq_false_iff_not, Bool.not_eq_true', Bool.not_eq_false'] at hg9
              refine R.fieldAddr ⟨rfl, rfl, rfl, rfl⟩ rfl Tryd.underlying35 rfl Tryd.sizeOf9 ?_   -- "Extra"
              refine R.load1 ⟨rfl, rfl, rfl, rfl⟩ rfl Tryd.underlying9 rfl (.own' (by repeat (first | exact List.mem_cons_self | apply List.mem_cons_of_mem | apply List.mem_append_right)) (by rfl)) ?_   -- load 8 ref.go:90 t47
              refine R.call ⟨rfl, rfl, rfl, rfl⟩ rfl (vs := [_]) rfl ((ref_tag _ _ _ (by omega)).mono ?_)
              rintro _ _ ⟨rfl, rfl⟩
              refine R.pick_t ⟨rfl, rfl, rfl, rfl⟩ rfl rfl ?_
              refine R.assign ⟨rfl, rfl, rfl, rfl⟩ rfl ?_
              refine GOps.nil ?_
              refine GW.ret (Out.of (Res.one rfl rfl) (by first | exact Hs.refl _ | exact Hs.tl _ | exact Hs.tl2 _ _ | exact Hs.tl3 _ _ _ | exact (Hs.app _).trans (Hs.tl _) | exact (Hs.app _).trans ((Hs.app _).trans (Hs.tl _))) ⟨?_, rfl⟩)
              refine vb ?_; unfold mayT emp isXsd xsd; simp_all
            · try simp only [decide_eq_true_eq, decide_eq_false_iff_not, Bool.not_eq_true', Bool.not_eq_false'] at hg9
              refine GOps.skip rfl rfl rfl ?_
              refine GOps.skip rfl rfl rfl ?_
              refine GOps.skip rfl rfl rfl ?_
              refine R.pick_f ⟨rfl, rfl, rfl, rfl⟩ rfl rfl ?_
              refine R.assign ⟨rfl, rfl, rfl, rfl⟩ rfl ?_
              refine GOps.nil ?_
              refine GW.ret (Out.of (Res.one rfl rfl) (by first | exact Hs.refl _ | exact Hs.tl _ | exact Hs.tl2 _ _ | exact Hs.tl3 _ _ _ | exact (Hs.app _).trans (Hs.tl _) | exact (Hs.app _).trans ((Hs.app _).trans (Hs.tl _))) ⟨?_, rfl⟩)
              refine vb ?_; unfold mayT emp isXsd xsd; simp_all
          · try simp only [decide_eq_true_eq, decide_eq_false_iff_not, Bool.not_eq_true', Bool.not_eq_false'] at hc8
            refine GW.seq ?_
            refine GW.region ?_
            refine R.eqI ⟨rfl, rfl, rfl, rfl⟩ rfl rfl ?_   -- eql ['t14', '5']
            refine R.assign ⟨rfl, rfl, rfl, rfl⟩ rfl ?_
            refine GOps.nil ?_
            refine GW.ite rfl (fun hc10 => ?_) (fun hc10 => ?_)
            · try simp only [decide_eq_true_eq, decide_eq_false_iff_not, Bool.not_eq_true', Bool.not_eq_false'] at hc10
              refine GW.seq ?_
              refine GW.region ?_
              refine R.move ⟨rfl, rfl, rfl, rfl⟩ rfl ?_
              refine R.move ⟨rfl, rfl, rfl, rfl⟩ rfl ?_
              refine GOps.caseB 54 rfl (fun hg11 => ?_) (fun hg11 => ?_)
              · try simp only [decide_eq_true_eq, decide_eq_false_iff_not, Bool.not_eq_true', Bool.not_eq_false'] at hg11
                refine R.fieldAddr ⟨rfl, rfl, rfl, rfl⟩ rfl Tryd.underlying35 rfl Tryd.sizeOf9 ?_   -- "Extra"
                refine R.load1 ⟨rfl, rfl, rfl, rfl⟩ rfl Tryd.underlying9 rfl (.own' (by repeat (first | exact List.mem_cons_self | apply List.mem_cons_of_mem | apply List.mem_append_right)) (by rfl)) ?_   -- load 9 ref.go:92 t55
                refine R.call ⟨rfl, rfl, rfl, rfl⟩ rfl (vs := [_]) rfl ((ref_IRI _ _ _ (by omega)).mono ?_)
                rintro _ _ ⟨rfl, rfl⟩
                refine R.pick_t ⟨rfl, rfl, rfl, rfl⟩ rfl rfl ?_
                refine R.move ⟨rfl, rfl, rfl, rfl⟩ rfl ?_
                refine GOps.caseB 59 rfl (fun hg12 => ?_) (fun hg12 => ?_)
                · try simp only [decide_eq_true_eq, decide_eq_false_iff_not, Bool.not_eq_true', Bool.not_eq_false'] at hg12
                  refine R.fieldAddr ⟨rfl, rfl, rfl, rfl⟩ rfl Tryd.underlying35 rfl Tryd.sizeOf9 ?_   -- "Extra"
                  refine R.load1 ⟨rfl, rfl, rfl, rfl⟩ rfl Tryd.underlying9 rfl (.own' (by repeat (first | exact List.mem_cons_self | apply List.mem_cons_of_mem | apply List.mem_append_right)) (by rfl)) ?_   -- load 10 ref.go:92 t60
                  refine R.neS ⟨rfl, rfl, rfl, rfl⟩ rfl rfl ?_   -- neq ['t61', 'const']
                  refine R.pick_t ⟨rfl, rfl, rfl, rfl⟩ rfl rfl ?_
                  refine R.assign ⟨rfl, rfl, rfl, rfl⟩ rfl ?_
                  refine GOps.nil ?_
                  refine GW.ret (Out.of (Res.one rfl rfl) (by first | exact Hs.refl _ | exact Hs.tl _ | exact Hs.tl2 _ _ | exact Hs.tl3 _ _ _ | exact (Hs.app _).trans (Hs.tl _) | exact (Hs.app _).trans ((Hs.app _).trans (Hs.tl _))) ⟨?_, rfl⟩)
                  refine vb ?_; unfold mayT emp isXsd xsd; simp_all
                · try simp only [decide_eq_true_eq, decide_eq_false_iff_not, Bool.not_eq_true', Bool.not_eq_false'] at hg12
                  refine GOps.skip rfl rfl rfl ?_
                  refine GOps.skip rfl rfl rfl ?_
                  refine GOps.skip rfl rfl rfl ?_
                  refine R.pick_f ⟨rfl, rfl, rfl, rfl⟩ rfl rfl ?_
                  refine R.assign ⟨rfl, rfl, rfl, rfl⟩ rfl ?_
                  refine GOps.nil ?_
                  refine GW.ret (Out.of (Res.one rfl rfl) (by first | exact Hs.refl _ | exact Hs.tl _ | exact Hs.tl2 _ _ | exact Hs.tl3 _ _ _ | exact (Hs.app _).trans (Hs.tl _) | exact (Hs.app _).trans ((Hs.app _).trans (Hs.tl _))) ⟨?_, rfl⟩)
                  refine vb ?_; unfold mayT emp isXsd xsd; simp_all
              · try simp only [decide_eq_true_eq, decide_eq_false_iff_not, Bool.not_eq_true', Bool.not_eq_false'] at hg11
                refine GOps.skip rfl rfl rfl ?_
                refine GOps.skip rfl rfl rfl ?_
                refine GOps.skip rfl rfl rfl ?_
                refine R.pick_f ⟨rfl, rfl, rfl, rfl⟩ rfl rfl ?_
                refine R.move ⟨rfl, rfl, rfl, rfl⟩ rfl ?_
                refine GOps.skip rfl rfl rfl ?_
                refine GOps.skip rfl rfl rfl ?_
                refine GOps.skip rfl rfl rfl ?_
                refine R.pick_f ⟨rfl, rfl, rfl, rfl⟩ rfl rfl ?_
                refine R.assign ⟨rfl, rfl, rfl, rfl⟩ rfl ?_
                refine GOps.nil ?_
                refine GW.ret (Out.of (Res.one rfl rfl) (by first | exact Hs.refl _ | exact Hs.tl _ | exact Hs.tl2 _ _ | exact Hs.tl3 _ _ _ | exact (Hs.app _).trans (Hs.tl _) | exact (Hs.app _).trans ((Hs.app _).trans (Hs.tl _))) ⟨?_, rfl⟩)
                refine vb ?_; unfold mayT emp isXsd xsd; simp_all
            · try simp only [decide_eq_true_eq, decide_eq_false_iff_not, Bool.not_eq_true', Bool.not_eq_false'] at hc10
              refine GW.skip ?_
              refine GW.seq ?_
              refine GW.region ?_
              refine R.assign ⟨rfl, rfl, rfl, rfl⟩ rfl ?_
              refine GOps.nil ?_
              refine GW.ret (Out.of (Res.one rfl rfl) (by first | exact Hs.refl _ | exact Hs.tl _ | exact Hs.tl2 _ _ | exact Hs.tl3 _ _ _ | exact (Hs.app _).trans (Hs.tl _) | exact (Hs.app _).trans ((Hs.app _).trans (Hs.tl _))) ⟨?_, rfl⟩)
              refine vb ?_; unfold mayT emp isXsd xsd; simp_all

end Go.Proofs.YtgjmandjhjfgkaaDoor.Gl
