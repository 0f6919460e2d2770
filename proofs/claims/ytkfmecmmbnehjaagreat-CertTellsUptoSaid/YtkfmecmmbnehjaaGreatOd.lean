/-
What comes in: programs, owners, instructions. No condition.
-/
import Derived.Test.YtkfmecmmbnehjaaGreatOc
namespace Go.Proofs.YtkfmecmmbnehjaaGreat
set_option linter.unusedSimpArgs false
set_option linter.unusedVariables false

def byte (x : Int) : Bool := decide (0 ≤ x) && decide (x ≤ 255)

structure WfI (i : Ins) : Prop where
  op : -9223372036854775808 ≤ i.op ∧ i.op < 9223372036854775808
  d : -9223372036854775808 ≤ i.d ∧ i.d < 9223372036854775808
  a : -9223372036854775808 ≤ i.a ∧ i.a < 9223372036854775808
  b : -9223372036854775808 ≤ i.b ∧ i.b < 9223372036854775808
  imm : -9223372036854775808 ≤ i.imm ∧ i.imm < 9223372036854775808

theorem ty_i64 {l : List V} (h : TyV Tryz.prog 3 l) : ∃ n : Int, l = [.s (.int .i64 n)] ∧ -9223372036854775808 ≤ n ∧ n < 9223372036854775808 := by
  obtain ⟨n, e, hw⟩ := h.int_inv Tryz.underlying3
  exact ⟨n, e, wf_i64 hw⟩
theorem ty_u8 {l : List V} (h : TyV Tryz.prog 5 l) : ∃ n : Int, l = [u8v n] ∧ byte n = true := by
  obtain ⟨n, e, hw⟩ := h.int_inv Tryz.underlying5
  have := wf_u8 hw
  exact ⟨n, e, by simp only [byte, Bool.and_eq_true, decide_eq_true_eq]; omega⟩
theorem ty_ins {l : List V} (h : TyV Tryz.prog 49 l) : ∃ i : Ins, .agg l = i.v ∧ WfI i := by
  obtain ⟨ls, rfl, hl, hf⟩ := h.struct_inv Tryz.underlying49
  match ls, hl with
  | [c0, c1, c2, c3, c4], _ =>
    obtain ⟨n0, rfl, h0⟩ := ty_i64 (hf 0 _ _ rfl rfl)
    obtain ⟨n1, rfl, h1⟩ := ty_i64 (hf 1 _ _ rfl rfl)
    obtain ⟨n2, rfl, h2⟩ := ty_i64 (hf 2 _ _ rfl rfl)
    obtain ⟨n3, rfl, h3⟩ := ty_i64 (hf 3 _ _ rfl rfl)
    obtain ⟨n4, rfl, h4⟩ := ty_i64 (hf 4 _ _ rfl rfl)
    exact ⟨⟨n0, n1, n2, n3, n4⟩, rfl, ⟨h0, h1, h2, h3, h4⟩⟩
theorem ty_list {α : Type} {f : V → Option α} {Q : α → Prop} {t e : TypeId} {sz : Nat} (ht : Tryz.prog.underlying t = some (.slice e)) (hsz : Tryz.prog.cellsOf e = sz) (hx : ∀ x : V, TyV Tryz.prog e x.cells → FormV Tryz.prog e x → ∃ a, f x = some a ∧ Q a)
    {l : List V} (h : TyV Tryz.prog t l) : ∃ y m c, l = [y] ∧ lOf sz y = some m ∧ m.mapM f = some c ∧ (∀ a ∈ c, Q a) ∧ c.length ≤ maxLen := by
  subst hsz
  rcases h.slice_inv ht with rfl | ⟨m, rfl, hm, h1, h2⟩
  · exact ⟨_, [], [], rfl, rfl, by simp, fun a ha => (by cases ha), Nat.zero_le _⟩
  · have : ∀ m : List V, (∀ x ∈ m, TyV Tryz.prog e x.cells) → (∀ x ∈ m, FormV Tryz.prog e x) → ∃ c, m.mapM f = some c ∧ (∀ a ∈ c, Q a) ∧ c.length = m.length := by
      intro m
      induction m with
      | nil => intro _ _; exact ⟨[], by simp, fun a ha => (by cases ha), rfl⟩
      | cons x m ih =>
        intro h1 h2
        obtain ⟨a, ha, hq⟩ := hx x (h1 x (by simp)) (h2 x (by simp))
        obtain ⟨c, hc, hqc, hl⟩ := ih (fun y hy => h1 y (by simp [hy])) (fun y hy => h2 y (by simp [hy]))
        refine ⟨a :: c, by rw [mapM_cons', ha, hc]; rfl, fun b hb => ?_, by simp [hl]⟩
        rcases List.mem_cons.1 hb with rfl | hb
        · exact hq
        · exact hqc b hb
    obtain ⟨c, hc, hq, hl⟩ := this m h1 h2
    exact ⟨_, m, c, rfl, by simp [lOf], hc, hq, by rw [hl]; exact hm⟩
theorem insOf_ty (x : V) (h : TyV Tryz.prog 49 x.cells) (ha : FormV Tryz.prog 49 x) : ∃ i, insOf x = some i ∧ WfI i := by
  obtain ⟨i, e, hw⟩ := ty_ins h
  refine ⟨i, ?_, hw⟩
  rw [ha.1 isAgg_49, e]; rfl
theorem u8Of_ty (x : V) (h : TyV Tryz.prog 5 x.cells) (ha : FormV Tryz.prog 5 x) : ∃ b, u8Of x = some b ∧ byte b = true := by
  obtain ⟨n, e, hw⟩ := ty_u8 h
  have := ha.2 isAgg_5
  rw [this] at e
  simp only [List.cons.injEq, and_true] at e
  subst e
  exact ⟨n, rfl, hw⟩
/-- a program that came in -/
theorem ty_prg (x : V) (h : TyV Tryz.prog 28 x.cells) (ha : FormV Tryz.prog 28 x) : ∃ p, prgOf x = some p ∧ p.data.all byte = true ∧ (∀ i ∈ p.code, WfI i) ∧ p.code.length ≤ maxLen ∧ p.data.length ≤ maxLen := by
  obtain ⟨ls, e, hl, hf⟩ := h.struct_inv Tryz.underlying28
  match ls, hl with
  | [c0, c1, c2], _ =>
    obtain ⟨y0, m0, p0, rfl, h1, h2, h3, h4⟩ := ty_list (sz := 5) Tryz.underlying25 (by kernel_rfl) insOf_ty (hf 0 _ _ rfl rfl)
    obtain ⟨n1, rfl, h5⟩ := ty_i64 (hf 1 _ _ rfl rfl)
    obtain ⟨y2, m2, p2, rfl, h6, h7, h8, h9⟩ := ty_list (sz := 1) Tryz.underlying26 (by kernel_rfl) u8Of_ty (hf 2 _ _ rfl rfl)
    have hx := ha.1 isAgg_28
    rw [e] at hx
    subst hx
    refine ⟨⟨p0, n1, p2⟩, ?_, List.all_eq_true.2 h8, h3, h4, h9⟩
    simp only [List.flatten_cons, List.flatten_nil, List.cons_append, List.nil_append, prgOf, h1, h2, h6, h7, Option.bind_some]

end Go.Proofs.YtkfmecmmbnehjaaGreat
