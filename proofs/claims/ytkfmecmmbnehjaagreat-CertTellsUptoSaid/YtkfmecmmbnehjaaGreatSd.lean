/-
The cells of a block, one instruction behind the other, and the blocks of a split: what split.With computes. No condition.
-/
import Derived.Test.YtkfmecmmbnehjaaGreatSc
import Derived.Test.YtkfmecmmbnehjaaGreatSb
import Derived.Test.YtkfmecmmbnehjaaGreatEd
import Derived.Test.YtkfmecmmbnehjaaGreatBg
import Derived.Test.YtkfmecmmbnehjaaGreatL0
namespace Go.Proofs.YtkfmecmmbnehjaaGreat
set_option linter.unusedSimpArgs false
set_option linter.unusedVariables false

def iCells (f : Ins → List Int → Int → Int → List Cell) (code : List Ins) (o : List Int) (base n : Nat) : List Cell :=
  (List.range n).flatMap fun j => match code[base + j]? with
    | some i => f i o ((base + j : Nat) : Int) (j : Int)
    | none => []
theorem iCells_succ (f : Ins → List Int → Int → Int → List Cell) {code : List Ins} (o : List Int) {base n : Nat} {i : Ins} (h : code[base + n]? = some i) : iCells f code o base (n + 1) = iCells f code o base n ++ f i o ((base + n : Nat) : Int) (n : Int) := by
  unfold iCells
  rw [List.range_succ, List.flatMap_append]
  congr 1
  simp only [List.flatMap_cons, List.flatMap_nil, List.append_nil, h]
theorem aCells_len (i : Ins) (o : List Int) (pc off : Int) : (aCells i o pc off).length ≤ 3 := by
  have := sent_len i o
  unfold aCells
  (repeat' split) <;> simp <;> omega
theorem eCells_len (i : Ins) (o : List Int) (pc off : Int) : (eCells i o pc off).length ≤ 3 := by
  have := sent_len i o
  unfold eCells
  (repeat' split) <;> simp <;> omega
theorem iCells_len {f : Ins → List Int → Int → Int → List Cell} (hf : ∀ i o pc off, (f i o pc off).length ≤ 3) (code : List Ins) (o : List Int) (base n : Nat) : (iCells f code o base n).length ≤ 3 * n := by
  induction n with
  | zero => simp [iCells]
  | succ n ih =>
    unfold iCells at ih ⊢
    rw [List.range_succ, List.flatMap_append, List.length_append]
    have : (List.flatMap (fun j => match code[base + j]? with
      | some i => f i o ((base + j : Nat) : Int) (j : Int)
      | none => []) [n]).length ≤ 3 := by
      simp only [List.flatMap_cons, List.flatMap_nil, List.append_nil]
      split
      · exact hf _ _ _ _
      · simp
    omega

def sbAt (p : Prg) (o : List Int) (b : Blk4) : SB := ⟨b.from_, b.to_, b.next, b.taken, iCells aCells p.code o b.from_.toNat (b.to_ - b.from_).toNat, iCells eCells p.code o b.from_.toNat (b.to_ - b.from_).toNat⟩
def splitL (p : Prg) (o : List Int) : List SB := (cutL p).map (sbAt p o)
theorem splitL_len (p : Prg) (o : List Int) : (splitL p o).length = (cutL p).length := by simp [splitL]
/-- a block of which the cells are written no more -/
def SB.w (b : SB) : V := .agg [.s (.int .i64 b.from_), .s (.int .i64 b.to_), .s (.int .i64 b.next), .s (.int .i64 b.taken), .lst true 9 (b.a.map Cell.v), .lst true 9 (b.e.map Cell.v)]
def wD (p : Prg) (o : List Int) (k : Nat) : List V := ((splitL p o).take k).map SB.w ++ ((cutL p).drop k).map Blk4.v
theorem wD_zero (p : Prg) (o : List Int) : wD p o 0 = (cutL p).map Blk4.v := by simp [wD]
theorem wD_len {p : Prg} {o : List Int} {k : Nat} (h : k ≤ (cutL p).length) : (wD p o k).length = (cutL p).length := by
  have := splitL_len p o
  simp only [wD, List.length_append, List.length_map, List.length_take, List.length_drop]; omega
theorem wD_get {p : Prg} {o : List Int} {k : Nat} {b : Blk4} (h : (cutL p)[k]? = some b) : (wD p o k)[k]? = some b.v := by
  have hk : k < (cutL p).length := (List.getElem?_eq_some_iff.1 h).1
  have hs := splitL_len p o
  have hl : (((splitL p o).take k).map SB.w).length = k := by rw [List.length_map, List.length_take]; omega
  rw [wD, List.getElem?_append_right (by omega), hl, Nat.sub_self, List.getElem?_map, List.getElem?_drop, Nat.add_zero, h]; rfl
theorem wD_set {p : Prg} {o : List Int} {k : Nat} {b : Blk4} (h : (cutL p)[k]? = some b) : (wD p o k).set k (sbAt p o b).w = wD p o (k + 1) := by
  have hk : k < (cutL p).length := (List.getElem?_eq_some_iff.1 h).1
  have hs := splitL_len p o
  have hl : (((splitL p o).take k).map SB.w).length = k := by rw [List.length_map, List.length_take]; omega
  have hd : (cutL p).drop k = b :: (cutL p).drop (k + 1) := by
    rw [List.drop_eq_getElem_cons hk]
    congr 1
    exact (List.getElem?_eq_some_iff.1 h).2
  have hsk : (splitL p o)[k]? = some (sbAt p o b) := by rw [splitL, List.getElem?_map, h]; rfl
  unfold wD
  rw [List.set_append_right _ _ (by omega), hl, Nat.sub_self, hd, List.map_cons, List.set_cons_zero, List.take_add_one, hsk, List.map_append, List.append_assoc]
  rfl
theorem wD_full (p : Prg) (o : List Int) : wD p o (cutL p).length = (splitL p o).map SB.w := by
  rw [wD, List.drop_length, ← splitL_len p o, List.take_length]; simp
def isSw : V → Bool
  | .sw .. => true
  | _ => false
theorem frz_no {b ver sz : Nat} {l : List V} {x : V} (h : isSw x = false) : frz b ver sz l x = x := by
  cases x <;> first | rfl | (simp [isSw] at h)
theorem wD_sw (p : Prg) (o : List Int) (k : Nat) : ∀ x ∈ flat (wD p o k), isSw x = false := by
  intro x hx
  unfold flat wD at hx
  obtain ⟨y, hy, hx⟩ := List.mem_flatMap.1 hx
  rcases List.mem_append.1 hy with hy | hy <;> obtain ⟨b, _, rfl⟩ := List.mem_map.1 hy <;> simp only [SB.w, Blk4.v, V.cells, List.mem_cons, List.not_mem_nil, or_false] at hx <;> rcases hx with rfl | rfl | rfl | rfl | rfl | rfl <;> rfl
theorem wD_six (p : Prg) (o : List Int) (k : Nat) : ∀ x ∈ wD p o k, x.cells.length = 6 := by
  intro x hx
  unfold wD at hx
  rcases List.mem_append.1 hx with hy | hy <;> obtain ⟨b, _, rfl⟩ := List.mem_map.1 hy <;> rfl
theorem six_set {L : List V} {k : Nat} {X : V} (h : ∀ x ∈ L, x.cells.length = 6) (hX : X.cells.length = 6) : ∀ x ∈ L.set k X, x.cells.length = 6 := by
  intro x hx
  rcases List.mem_or_eq_of_mem_set hx with h1 | rfl
  · exact h x h1
  · exact hX
theorem frz_set {b ver sz : Nat} {l : List V} : ∀ (L : List V) (k : Nat) (X X' : V), X'.cells = X.cells.map (frz b ver sz l) → (∀ x ∈ flat L, isSw x = false) → flat (L.set k X') = (flat (L.set k X)).map (frz b ver sz l) := by
  intro L
  have id : ∀ L : List V, (∀ x ∈ flat L, isSw x = false) → (flat L).map (frz b ver sz l) = flat L := fun L h => by
    conv => rhs; rw [← List.map_id (flat L)]
    exact List.map_congr_left fun x hx => frz_no (h x hx)
  induction L with
  | nil => intro k X X' _ _; rfl
  | cons y L ih =>
    intro k X X' hX hL
    have h1 : ∀ x ∈ y.cells, isSw x = false := fun x hx => hL x (List.mem_append_left _ hx)
    have h2 : ∀ x ∈ flat L, isSw x = false := fun x hx => hL x (List.mem_append_right _ hx)
    cases k with
    | zero =>
      show X'.cells ++ flat L = (X.cells ++ flat L).map _
      rw [List.map_append, id L h2, hX]
    | succ k =>
      show y.cells ++ flat (L.set k X') = (y.cells ++ flat (L.set k X)).map _
      have : y.cells.map (frz b ver sz l) = y.cells := by
        conv => rhs; rw [← List.map_id y.cells]
        exact List.map_congr_left fun x hx => frz_no (h1 x hx)
      rw [List.map_append, this, ih k X X' hX h2]
theorem w_clo (l : List SB) : ∀ x ∈ flat (l.map SB.w), x.clo true = true := by
  intro x hx
  unfold flat at hx
  obtain ⟨y, hy, hx⟩ := List.mem_flatMap.1 hx
  obtain ⟨b, _, rfl⟩ := List.mem_map.1 hy
  simp only [SB.w, V.cells, List.mem_cons, List.not_mem_nil, or_false] at hx
  rcases hx with rfl | rfl | rfl | rfl | rfl | rfl <;> rfl
theorem w_unfr (l : List SB) : (l.map SB.w).map V.unfr = l.map SB.v := by
  rw [List.map_map]; rfl
def blkW (b : Blk4) (x y : V) : V := .agg [.s (.int .i64 b.from_), .s (.int .i64 b.to_), .s (.int .i64 b.next), .s (.int .i64 b.taken), x, y]
theorem set_get {L : List V} {k : Nat} (h : k < L.length) (X : V) : (L.set k X)[k]? = some X := by
  rw [List.getElem?_set_self h]
/-- the cells of a block are seen as lists, in both cells of the row -/
theorem Gh.seal {env : Nat → V} {st : Nat → Blk} {b1 b2 r v1 v2 e1 e2 vr er : Nat} {l1 l2 L : List V} {k : Nat} {b : Blk4} (h1 : st b1 = ⟨v1, .row 9 e1 l1⟩) (h2 : st b2 = ⟨v2, .row 9 e2 l2⟩) (h12 : b1 ≠ b2) (hr1 : b1 ≠ r) (hr2 : b2 ≠ r)
    (hr : st r = ⟨vr, .rowV 6 er (L.set k (blkW b (.sw b1 v1 l1.length) (.sw b2 v2 l2.length)))⟩) (hL : ∀ x ∈ flat L, isSw x = false) (h6 : ∀ x ∈ L, x.cells.length = 6) :
    ∃ st', Gh ⟨env, st⟩ ⟨env, st'⟩ ∧ st' r = ⟨vr, .rowV 6 er (L.set k (blkW b (.lst true 9 l1) (.lst true 9 l2)))⟩ ∧ ∀ x, x ≠ b1 → x ≠ b2 → x ≠ r → st' x = st x := by
  have g1 := Gh.freeze (env := env) (cells' := L.set k (blkW b (.lst true 9 l1) (.sw b2 v2 l2.length))) h1 hr hr1 (by simp) (six_set h6 rfl) (frz_set L k _ _ (by
    simp only [blkW, V.cells, List.map_cons, List.map_nil, frz, and_self, if_true]
    rw [if_neg (by rintro ⟨rfl, _⟩; exact h12 rfl)]) hL)
  obtain ⟨st1, hst1⟩ : ∃ st1, upd (upd st b1 ⟨v1, .gone⟩) r ⟨vr, .rowV 6 er (L.set k (blkW b (.lst true 9 l1) (.sw b2 v2 l2.length)))⟩ = st1 := ⟨_, rfl⟩
  rw [hst1] at g1
  have k1 : st1 b2 = ⟨v2, .row 9 e2 l2⟩ := by rw [← hst1]; simp only [upd]; rw [if_neg hr2, if_neg (Ne.symm h12), h2]
  have k2 : st1 r = ⟨vr, .rowV 6 er (L.set k (blkW b (.lst true 9 l1) (.sw b2 v2 l2.length)))⟩ := by rw [← hst1]; simp [upd]
  have g2 := Gh.freeze (env := env) (cells' := L.set k (blkW b (.lst true 9 l1) (.lst true 9 l2))) k1 k2 hr2 (by simp) (six_set h6 rfl) (frz_set L k _ _ (by
    simp only [blkW, V.cells, List.map_cons, List.map_nil, frz, and_self, if_true]) hL)
  refine ⟨_, g1.trans g2, by simp [upd], fun x hx1 hx2 hx3 => ?_⟩
  simp only [upd]
  rw [if_neg hx3, if_neg hx2, ← hst1]
  simp only [upd]
  rw [if_neg hx3, if_neg hx1]

end Go.Proofs.YtkfmecmmbnehjaaGreat
