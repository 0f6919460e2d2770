/-
SplitBehind: the plain law. No condition.
-/
import Derived.Test.YtalcmfmhifcaeaaSg
import Derived.Test.YtalcmfmhifcaeaaBm
namespace Go.Proofs.Ytalcmfmhifcaeaa
set_option linter.unusedSimpArgs false
set_option linter.unusedVariables false

def oneP (p : Prg) (i : Ins) : Prg := ⟨[i], p.size, p.data⟩
theorem behind_right {p : Prg} {i : Ins} (hp : rightP p = true) (hq : rightP (bothP p (oneP p i)) = true) (ht : ¬ (0 ≤ rT (p.code.length + 1) p.code.length i ∧ rT (p.code.length + 1) p.code.length i < p.code.length)) : rightP (oneP p i) = true := by
  have hl : (bothP p (oneP p i)).code.length = p.code.length + 1 := both_len _ _
  have hi : (bothP p (oneP p i)).code[p.code.length]? = some i := by
    have := both_ge p (oneP p i) 0
    rw [Nat.add_zero] at this
    rw [this]; rfl
  have hr := right_at hq hi
  have hf := right_fit hr.1
  rw [hl] at hr
  have hbr : brB i = true → 0 ≤ ((0 : Nat) : Int) + i.imm ∧ ((0 : Nat) : Int) + i.imm < 1 := fun hb => by
    have h1 := hr.2 hb
    have h0 := hf.m0
    have h2 := hf.m1
    have hb2 : form i.op = 6 ∨ form i.op = 7 := by simpa [brB] using hb
    have : rT (p.code.length + 1) p.code.length i = (p.code.length : Int) + i.imm := by
      unfold rT
      rw [if_pos ⟨hb2, by omega, by omega, by omega, by omega⟩]
    rw [this] at ht
    omega
  simp only [rightP, headB, Bool.and_eq_true, decide_eq_true_eq, Bool.not_eq_true'] at hp ⊢
  obtain ⟨⟨⟨⟨⟨⟨p1, p2⟩, p3⟩, p4⟩, p5⟩, p6⟩, p7⟩ := hp
  refine ⟨⟨⟨⟨⟨⟨?_, ?_⟩, p3⟩, p4⟩, p5⟩, ?_⟩, ?_⟩
  · show (1 : Int) ≤ (([i] : List Ins).length : Int)
    simp
  · show (([i] : List Ins).length : Int) ≤ 2000
    simp
  · show ([i] : List Ins).all rightB = true
    simp [hr.1]
  · unfold targsB
    rw [List.any_eq_false]
    intro k hk
    have hk' : k < 1 := by simpa [oneP] using hk
    obtain rfl : k = 0 := by omega
    unfold badAt
    show ¬ (match ([i] : List Ins)[0]? with
      | some x => badI ([i] : List Ins).length 0 x
      | none => false) = true
    simp only [List.getElem?_cons_zero]
    rw [badI_right fun hb => by have := hbr hb; simpa using this]; simp
theorem iCells_congr (f : Ins → List Int → Int → Int → List Cell) {c c' : List Ins} (o : List Int) {F : Nat} : ∀ n : Nat, (∀ j, j < n → c[F + j]? = c'[F + j]?) → iCells f c o F n = iCells f c' o F n
  | 0, _ => rfl
  | n + 1, h => by
    have ih := iCells_congr f o n fun j hj => h j (by omega)
    unfold iCells at ih ⊢
    rw [List.range_succ, List.flatMap_append, List.flatMap_append, ih]
    congr 1
    simp only [List.flatMap_cons, List.flatMap_nil, h n (by omega)]
theorem behind_split {p : Prg} {i : Ins} (hp : rightP p = true) (hq : rightP (bothP p (oneP p i)) = true) (hm : rightP (oneP p i) = true) (hx : ∃ x, p.code[p.code.length - 1]? = some x ∧ form x.op = 8) (o : List Int) :
    (cutL (bothP p (oneP p i))).length = (cutL p).length + 1 ∧ (splitL (bothP p (oneP p i)) o).take (cutL p).length = splitL p o := by
  have hh : endAt p (p.code.length - 1) = true := by
    obtain ⟨x, hx1, hx2⟩ := hx
    unfold endAt; rw [hx1]; simp [endB, hx2]
  have hml := more_len hp hm hh
  have h1 : (leadL (oneP p i)).length = 1 := by
    have a1 := leadL_len (oneP p i)
    have a2 := List.length_pos_iff.2 (leadL_ne hm)
    have a3 : (oneP p i).code.length = 1 := rfl
    omega
  have hN := cutL_leads p
  have hNq := cutL_leads (bothP p (oneP p i))
  have hcl : (cutL (bothP p (oneP p i))).length = (cutL p).length + 1 := by omega
  refine ⟨hcl, List.ext_getElem? fun k => ?_⟩
  rw [List.getElem?_take]
  by_cases hk : k < (cutL p).length
  · rw [if_pos hk]
    have q1 : (cutL (bothP p (oneP p i)))[k]? = some (blkAt p (leadL p) k) := by
      rw [cut_at (by omega), more1 hp hm hx (by omega)]
    have q2 : (cutL p)[k]? = some (blkAt p (leadL p) k) := cut_at (by omega)
    rw [splitL_at q1, splitL_at q2]
    congr 1
    obtain ⟨b1, b2, b3, b4⟩ := blk_bd q2
    unfold sbAt
    rw [b1, b2, show ((bdAt p k : Nat) : Int).toNat = bdAt p k by omega, show (((bdAt p (k + 1) : Nat) : Int) - ((bdAt p k : Nat) : Int)).toNat = bdAt p (k + 1) - bdAt p k by omega]
    rw [iCells_congr aCells o (bdAt p (k + 1) - bdAt p k) fun j hj => both_lt (oneP p i) (by omega), iCells_congr eCells o (bdAt p (k + 1) - bdAt p k) fun j hj => both_lt (oneP p i) (by omega)]
  · rw [if_neg hk, List.getElem?_eq_none (by rw [splitL_len]; omega)]
theorem scal_ins3 (l : List Ins) : (l.map Ins.v).all V.scal = true := by
  rw [List.all_eq_true]; intro x hx; obtain ⟨b, _, rfl⟩ := List.mem_map.1 hx; rfl
end Go.Proofs.Ytalcmfmhifcaeaa
