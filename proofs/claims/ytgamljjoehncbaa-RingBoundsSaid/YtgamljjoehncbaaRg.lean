/-
What comes in at the laws of chapter 15: lists of numbers and of words. No condition.
-/
import Derived.Test.YtgamljjoehncbaaRd
import Derived.Test.YtgamljjoehncbaaRf
namespace Go.Proofs.Ytgamljjoehncbaa
set_option linter.unusedSimpArgs false
set_option linter.unusedVariables false

theorem ty_list {α : Type} {f : V → Option α} {Q : α → Prop} {t e : TypeId} {sz : Nat} (ht : Try.prog.underlying t = some (.slice e)) (hsz : Try.prog.cellsOf e = sz) (hx : ∀ x : V, TyV Try.prog e x.cells → FormV Try.prog e x → ∃ a, f x = some a ∧ Q a)
    {l : List V} (h : TyV Try.prog t l) : ∃ y m c, l = [y] ∧ lOf sz y = some m ∧ m.mapM f = some c ∧ (∀ a ∈ c, Q a) ∧ c.length ≤ maxLen := by
  subst hsz
  rcases h.slice_inv ht with rfl | ⟨m, rfl, hm, h1, h2⟩
  · exact ⟨_, [], [], rfl, rfl, by simp, fun a ha => (by cases ha), Nat.zero_le _⟩
  · have : ∀ m : List V, (∀ x ∈ m, TyV Try.prog e x.cells) → (∀ x ∈ m, FormV Try.prog e x) → ∃ c, m.mapM f = some c ∧ (∀ a ∈ c, Q a) ∧ c.length = m.length := by
      intro m
      induction m with
      | nil => intro _ _; exact ⟨[], by simp, fun a ha => (by cases ha), rfl⟩
      | cons x m ih =>
        intro h1 h2
        obtain ⟨a, ha, hq⟩ := hx x (h1 x (by simp)) (h2 x (by simp))
        obtain ⟨c, hc, hqc, hl⟩ := ih (fun y hy => h1 y (by simp [hy])) (fun y hy => h2 y (by simp [hy]))
        refine ⟨a :: c, by rw [mapM_cons', ha, hc]; rfl, fun b hb => ?_, by simp [hl]⟩
        rcases List.mem_cons.1 hb with rfl | hb
        · exact hq
        · exact hqc b hb
    obtain ⟨c, hc, hq, hl⟩ := this m h1 h2
    exact ⟨_, m, c, rfl, by simp [lOf], hc, hq, by rw [hl]; exact hm⟩
theorem i64Of_ty (x : V) (h : TyV Try.prog 3 x.cells) (ha : FormV Try.prog 3 x) : ∃ b, i64Of x = some b ∧ True := by
  obtain ⟨n, e, _⟩ := h.int_inv Try.underlying3
  have := ha.2 isAgg_3
  rw [this] at e
  simp only [List.cons.injEq, and_true] at e
  exact ⟨n, by rw [e]; rfl, trivial⟩
theorem u32Of_ty (x : V) (h : TyV Try.prog 22 x.cells) (ha : FormV Try.prog 22 x) : ∃ b, u32Of x = some b ∧ True := by
  obtain ⟨n, e, _⟩ := h.int_inv Try.underlying22
  have := ha.2 isAgg_22
  rw [this] at e
  simp only [List.cons.injEq, and_true] at e
  exact ⟨n, by rw [e]; rfl, trivial⟩
theorem ints_ty (x : V) (h : TyV Try.prog 36 x.cells) (ha : FormV Try.prog 36 x) : ∃ m c, lOf 1 x = some m ∧ m.mapM i64Of = some c := by
  obtain ⟨y, m, c, e, h1, h2, _⟩ := ty_list (sz := 1) Try.underlying36 (by kernel_rfl) i64Of_ty h
  have := ha.2 isAgg_36
  rw [this] at e
  simp only [List.cons.injEq, and_true] at e
  exact ⟨m, c, by rw [e]; exact h1, h2⟩
theorem words_ty (x : V) (h : TyV Try.prog 33 x.cells) (ha : FormV Try.prog 33 x) : ∃ m c, lOf 1 x = some m ∧ m.mapM u32Of = some c := by
  obtain ⟨y, m, c, e, h1, h2, _⟩ := ty_list (sz := 1) Try.underlying33 (by kernel_rfl) u32Of_ty h
  have := ha.2 isAgg_33
  rw [this] at e
  simp only [List.cons.injEq, and_true] at e
  exact ⟨m, c, by rw [e]; exact h1, h2⟩
theorem plays_ok {n : Int} {x y : V} (hx : ∃ m c, lOf 1 x = some m ∧ m.mapM i64Of = some c) (hy : ∃ m c, lOf 1 y = some m ∧ m.mapM u32Of = some c) : spPlays.fn [.s (.int .i64 n), x, y] = some (.s (.bool true)) := by
  obtain ⟨m, c, h1, h2⟩ := hx
  obtain ⟨m', c', h3, h4⟩ := hy
  simp only [spPlays, h1, h2, h3, h4, Option.bind_some]
theorem order_ok {n t : Int} {y : V} (hy : ∃ m c, lOf 1 y = some m ∧ m.mapM u32Of = some c) : spOrder.fn [.s (.int .i64 n), y, .s (.int .i64 t)] = some (.s (.bool true)) := by
  obtain ⟨m', c', h3, h4⟩ := hy
  simp only [spOrder, h3, h4, Option.bind_some]
theorem apart_ok {y : V} (hy : ∃ m c, lOf 1 y = some m ∧ m.mapM u32Of = some c) : spApart.fn [y] = some (.s (.bool true)) := by
  obtain ⟨m', c', h3, h4⟩ := hy
  simp only [spApart, h3, h4, Option.bind_some]
theorem bounds_ok {n w : Int} (h : 0 ≤ w ∧ w < 4294967296) : spBounds.fn [.s (.int .i64 n), .s (.int .u32 w)] = some (.s (.bool true)) := by
  simp only [spBounds, if_pos h]
end Go.Proofs.Ytgamljjoehncbaa
