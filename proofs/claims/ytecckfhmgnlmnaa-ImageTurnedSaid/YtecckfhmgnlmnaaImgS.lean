/-
image.Read by the plain reckoning. No condition.
-/
import Derived.Test.YtecckfhmgnlmnaaImgR
namespace Go.Proofs.Ytecckfhmgnlmnaa
set_option linter.unusedSimpArgs false

/-- the word from a place on -/
def wordAt (l : List Int) (k : Nat) : Int := getW (l.getD k 0) (l.getD (k + 1) 0) (l.getD (k + 2) 0) (l.getD (k + 3) 0)
def magicB (l : List Int) : Bool := (strOfNums (l.take 4)).toList == (ByteArray.mk #[83, 82, 73, 1]).toList
def sizesB (x y z : Int) : Bool := decide (1 ≤ x) && decide (x ≤ 2000) && decide (0 ≤ y) && decide (y ≤ 65536) && decide (z ≤ y)
def insAt (l : List Int) (k : Nat) : Ins := (decT (wordAt l (16 + 4 * k))).1
def insOkAt (l : List Int) (k : Nat) : Bool := (decT (wordAt l (16 + 4 * k))).2
/-- which program bytes are, or why none -/
def readX (l : List Int) : Option Prg × Int :=
  if l.length < 16 then (none, 2) else if magicB l = false then (none, 2) else
  if sizesB (wordAt l 4) (wordAt l 8) (wordAt l 12) = false then (none, 2) else if (l.length : Int) ≠ 16 + 4 * wordAt l 4 + wordAt l 12 then (none, 2) else
  if (List.range (wordAt l 4).toNat).all (insOkAt l) = false then (none, 3) else
  if targsB ⟨(List.range (wordAt l 4).toNat).map (insAt l), wordAt l 8, l.drop (16 + 4 * (wordAt l 4).toNat)⟩ = true then (none, 4) else
  (some ⟨(List.range (wordAt l 4).toNat).map (insAt l), wordAt l 8, l.drop (16 + 4 * (wordAt l 4).toNat)⟩, 0)
def optV : Option Prg → V
  | none => .agg [.s (.slice none 0 0), .s (.int .i64 0), .s (.slice none 0 0)]
  | some p => .agg [.lst true 5 (p.code.map Ins.v), .s (.int .i64 p.size), .lst true 1 (p.data.map u8v)]
def spRead : Spec := ⟨[], fun xs => match xs with
  | [x] => (lOf 1 x).bind fun l => (l.mapM u8Of).bind fun l => if l.all byte = true ∧ l.length ≤ 100000000 then some (.tup [optV (readX l).1, .s (.int .i64 (readX l).2)]) else none
  | _ => none⟩

def cImg11 : Orc := upd (upd (upd cImg10 22 (some spGet)) 23 (some spSizes)) 19 (some spBytes)
theorem cImg11_ok : ∀ g sp, cImg11 g = some sp → Impl Try.prog g sp := orc_upd (orc_upd (orc_upd cImg10_ok get_impl) sizes_impl) rbytes_impl
theorem cImg11_at : cImg11 22 = some spGet ∧ cImg11 23 = some spSizes ∧ cImg11 24 = some spDecode ∧ cImg11 16 = some spTargets := ⟨rfl, rfl, rfl, rfl⟩
theorem spGet_mv : spGet.mv = [] := rfl
theorem spDecode_mv : spDecode.mv = [] := rfl
theorem byte_get {l : List Int} (h : l.all byte = true) (k : Nat) : 0 ≤ l.getD k 0 ∧ l.getD k 0 ≤ 255 := by
  rw [List.getD_eq_getElem?_getD]
  cases hk : l[k]? with
  | none => simp
  | some b =>
    have := List.all_eq_true.1 h b (List.mem_of_getElem? hk)
    simpa [byte] using this
theorem wordAt_bd {l : List Int} (h : l.all byte = true) (k : Nat) : 0 ≤ wordAt l k ∧ wordAt l k < 4294967296 := by
  have h0 := byte_get h k
  have h1 := byte_get h (k + 1)
  have h2 := byte_get h (k + 2)
  have h3 := byte_get h (k + 3)
  unfold wordAt getW
  omega
theorem spGet_fn {l : List Int} (h : l.all byte = true) (hl : l.length ≤ 100000000) {k : Nat} (hk : k + 4 ≤ l.length) : spGet.fn [.lst false 1 (l.map u8v), .s (.int .i64 k)] = some (.tup [.s (.int .u32 (wordAt l k)), .s (.bool true)]) := by
  have e : getT l k = .tup [.s (.int .u32 (wordAt l k)), .s (.bool true)] := by
    unfold getT
    rw [if_neg (by omega)]
    simp [wordAt]
  have hc : l.length ≤ 1000000000 ∧ -1000000000 ≤ (k : Int) ∧ (k : Int) ≤ 1000000000 := by omega
  have hm := mapM_of (f := u8Of) (g := u8v) (fun _ => rfl) l
  simp only [spGet, lOf, if_true, Option.bind_some, hm]
  rw [if_pos ⟨h, hc⟩, e]

theorem decT_v {w : Int} (h : 0 ≤ w ∧ w < 4294967296) : spDecode.fn [.s (.int .u32 w)] = some (.tup [(decT w).1.v, .s (.bool (decT w).2)]) := by
  simp [spDecode, h]

/-- the instructions that are read so far stand in the program's box -/
def readI (l : List Int) (X Y : Int) (s : S) : Prop :=
  s.env 0 = .lst false 1 (l.map u8v) ∧ s.env 2 = .ptr 2 1 0 ∧ s.st 2 = ⟨1, .box [.s (.slice none 0 0), .s (.int .i64 0), .s (.slice none 0 0)]⟩ ∧ s.env 8 = .ptr 8 1 0 ∧ s.env 66 = .s (.int .i64 X) ∧
  s.env 4 = .ptr 4 1 0 ∧ s.st 4 = ⟨1, .box [.s (.int .i64 X), .s (.int .i64 Y), .s (.int .i64 (wordAt l 12))]⟩ ∧
  ∃ k : Nat, s.env 67 = .s (.int .i64 k) ∧ (k : Int) ≤ X ∧ (List.range k).all (insOkAt l) = true ∧
    ((k = 0 ∧ s.st 8 = ⟨1, .box [.s (.slice none 0 0), .s (.int .i64 Y), .s (.slice none 0 0)]⟩) ∨
    ∃ v, s.st 8 = ⟨1, .box [.sw 90 v k, .s (.int .i64 Y), .s (.slice none 0 0)]⟩ ∧ s.st 90 = ⟨v, .row 5 41 (((List.range k).map (insAt l)).map Ins.v)⟩)

set_option maxHeartbeats 4000000 in
theorem read_impl : Impl Try.prog 11 spRead := by
  refine impl_walk2 mixed cImg11_ok eqT_ok Try.func11 rfl Try.ntmps11 (by kernel_rfl) ?_
  intro xs r h
  unfold spRead at h
  simp only at h
  (try split at h) <;> try (cases (show none = some r from h); done)
  rename_i x
  obtain ⟨l1, hl1, h3⟩ := Option.bind_eq_some_iff.1 h
  obtain ⟨l, h2, h4⟩ := Option.bind_eq_some_iff.1 h3
  have e := mapM_eq (fun _ _ => u8Of_eq) h2
  clear h h3
  subst e
  split at h4
  case isFalse => cases h4
  rename_i hc
  cases h4
  obtain ⟨hb, hlen⟩ := hc
  refine ⟨_, lst_args hl1 _, by simp, ?_⟩
  by_cases c1 : l.length < 16
  · have g1 : decide ((l.length : Int) < 16) = true := by simp; omega
    have hr : readX l = (none, 2) := by unfold readX; rw [if_pos c1]
    rw [hr]
    simp only [go_sem, Nat.reduceEqDiff, Nat.reduceLT, Nat.reduceLeDiff, Nat.reduceAdd, Nat.reduceSub, Nat.reduceMul, Nat.reduceBEq, ↓reduceIte, reduceCtorEq, Int.reduceLT, Int.reduceToNat, UInt8.reduceToNat, Int.reduceLE, Int.reduceBEq, Int.reduceBNe, Int.reduceAdd, Int.reduceSub, Int.reduceMul, Int.reduceNeg, g1, List.length_map]
    repeat' (first | (refine AG_of ?_ ?_ <;> intro h <;> simp only [go_sem, Nat.reduceEqDiff, Nat.reduceLT, Nat.reduceLeDiff, Nat.reduceAdd, Nat.reduceSub, Nat.reduceMul, Nat.reduceBEq, ↓reduceIte, reduceCtorEq, Int.reduceLT, Int.reduceToNat, UInt8.reduceToNat, Int.reduceLE, Int.reduceBEq, Int.reduceBNe, Int.reduceAdd, Int.reduceSub, Int.reduceMul, Int.reduceNeg, g1, List.length_map, h]) | (refine AB_of ?_ ?_ <;> intro h <;> simp only [go_sem, Nat.reduceEqDiff, Nat.reduceLT, Nat.reduceLeDiff, Nat.reduceAdd, Nat.reduceSub, Nat.reduceMul, Nat.reduceBEq, ↓reduceIte, reduceCtorEq, Int.reduceLT, Int.reduceToNat, UInt8.reduceToNat, Int.reduceLE, Int.reduceBEq, Int.reduceBNe, Int.reduceAdd, Int.reduceSub, Int.reduceMul, Int.reduceNeg, g1, List.length_map, h]) | (refine A_draw_of [] [] (by kernel_rfl) ?_ <;> simp only [go_sem, Nat.reduceEqDiff, Nat.reduceLT, Nat.reduceLeDiff, Nat.reduceAdd, Nat.reduceSub, Nat.reduceMul, Nat.reduceBEq, ↓reduceIte, reduceCtorEq, Int.reduceLT, Int.reduceToNat, UInt8.reduceToNat, Int.reduceLE, Int.reduceBEq, Int.reduceBNe, Int.reduceAdd, Int.reduceSub, Int.reduceMul, Int.reduceNeg, g1, List.length_map]))
    all_goals (first | refine fin_ret ?_ | refine fin_normal ?_)
    all_goals simp only [resOf, Try.results11, Try.ntmps11, go_sem, Nat.reduceEqDiff, Nat.reduceLT, Nat.reduceLeDiff, Nat.reduceAdd, Nat.reduceSub, Nat.reduceMul, Nat.reduceBEq, ↓reduceIte, reduceCtorEq, Int.reduceLT, Int.reduceToNat, UInt8.reduceToNat, Int.reduceLE, Int.reduceBEq, Int.reduceBNe, Int.reduceAdd, Int.reduceSub, Int.reduceMul, Int.reduceNeg]
    all_goals rfl
  have g1 : decide ((l.length : Int) < 16) = false := by simp; omega
  have t4 : List.take 4 (l.map u8v) = (l.take 4).map u8v := List.map_take.symm
  have a4 := u8_all (l.take 4)
  have n4 := u8_nums (l.take 4)
  have b4 : (4 : Int) ≤ l.length := by omega
  cases c2 : magicB l
  · have hr : readX l = (none, 2) := by unfold readX; rw [if_neg c1, if_pos c2]
    have m4 : ((strOfNums (l.take 4)).toList == (ByteArray.mk #[83, 82, 73, 1]).toList) = false := c2
    rw [hr]
    simp only [go_sem, Nat.reduceEqDiff, Nat.reduceLT, Nat.reduceLeDiff, Nat.reduceAdd, Nat.reduceSub, Nat.reduceMul, Nat.reduceBEq, ↓reduceIte, reduceCtorEq, Int.reduceLT, Int.reduceToNat, UInt8.reduceToNat, Int.reduceLE, Int.reduceBEq, Int.reduceBNe, Int.reduceAdd, Int.reduceSub, Int.reduceMul, Int.reduceNeg, g1, t4, a4, n4, b4, m4, List.length_map]
    repeat' (first | (refine AG_of ?_ ?_ <;> intro h <;> simp only [go_sem, Nat.reduceEqDiff, Nat.reduceLT, Nat.reduceLeDiff, Nat.reduceAdd, Nat.reduceSub, Nat.reduceMul, Nat.reduceBEq, ↓reduceIte, reduceCtorEq, Int.reduceLT, Int.reduceToNat, UInt8.reduceToNat, Int.reduceLE, Int.reduceBEq, Int.reduceBNe, Int.reduceAdd, Int.reduceSub, Int.reduceMul, Int.reduceNeg, g1, t4, a4, n4, b4, m4, List.length_map, h]) | (refine AB_of ?_ ?_ <;> intro h <;> simp only [go_sem, Nat.reduceEqDiff, Nat.reduceLT, Nat.reduceLeDiff, Nat.reduceAdd, Nat.reduceSub, Nat.reduceMul, Nat.reduceBEq, ↓reduceIte, reduceCtorEq, Int.reduceLT, Int.reduceToNat, UInt8.reduceToNat, Int.reduceLE, Int.reduceBEq, Int.reduceBNe, Int.reduceAdd, Int.reduceSub, Int.reduceMul, Int.reduceNeg, g1, t4, a4, n4, b4, m4, List.length_map, h]) | (refine A_draw_of [] [] (by kernel_rfl) ?_ <;> simp only [go_sem, Nat.reduceEqDiff, Nat.reduceLT, Nat.reduceLeDiff, Nat.reduceAdd, Nat.reduceSub, Nat.reduceMul, Nat.reduceBEq, ↓reduceIte, reduceCtorEq, Int.reduceLT, Int.reduceToNat, UInt8.reduceToNat, Int.reduceLE, Int.reduceBEq, Int.reduceBNe, Int.reduceAdd, Int.reduceSub, Int.reduceMul, Int.reduceNeg, g1, t4, a4, n4, b4, m4, List.length_map]))
    all_goals (first | refine fin_ret ?_ | refine fin_normal ?_)
    all_goals simp only [resOf, Try.results11, Try.ntmps11, go_sem, Nat.reduceEqDiff, Nat.reduceLT, Nat.reduceLeDiff, Nat.reduceAdd, Nat.reduceSub, Nat.reduceMul, Nat.reduceBEq, ↓reduceIte, reduceCtorEq, Int.reduceLT, Int.reduceToNat, UInt8.reduceToNat, Int.reduceLE, Int.reduceBEq, Int.reduceBNe, Int.reduceAdd, Int.reduceSub, Int.reduceMul, Int.reduceNeg]
    all_goals rfl
  have m4 : ((strOfNums (l.take 4)).toList == (ByteArray.mk #[83, 82, 73, 1]).toList) = true := c2
  obtain ⟨x0, x1⟩ := wordAt_bd hb 4
  obtain ⟨y0, y1⟩ := wordAt_bd hb 8
  obtain ⟨z0, z1⟩ := wordAt_bd hb 12
  have G1 := spGet_fn hb hlen (k := 4) (by omega)
  have G2 := spGet_fn hb hlen (k := 8) (by omega)
  have G3 := spGet_fn hb hlen (k := 12) (by omega)
  simp only [Int.cast_ofNat_Int] at G1 G2 G3
  have W1 : IntKind.i64.wrap (wordAt l 4) = wordAt l 4 := w_i64 (by omega) (by omega)
  have W2 : IntKind.i64.wrap (wordAt l 8) = wordAt l 8 := w_i64 (by omega) (by omega)
  have W3 : IntKind.i64.wrap (wordAt l 12) = wordAt l 12 := w_i64 (by omega) (by omega)
  have hs : spSizes.fn [.s (.int .i64 (wordAt l 4)), .s (.int .i64 (wordAt l 8)), .s (.int .i64 (wordAt l 12))] = some (.s (.bool (sizesB (wordAt l 4) (wordAt l 8) (wordAt l 12)))) := rfl
  simp only [go_sem, Nat.reduceEqDiff, Nat.reduceLT, Nat.reduceLeDiff, Nat.reduceAdd, Nat.reduceSub, Nat.reduceMul, Nat.reduceBEq, ↓reduceIte, reduceCtorEq, Int.reduceLT, Int.reduceToNat, UInt8.reduceToNat, Int.reduceLE, Int.reduceBEq, Int.reduceBNe, Int.reduceAdd, Int.reduceSub, Int.reduceMul, Int.reduceNeg, g1, t4, a4, n4, b4, m4, List.length_map]
  repeat' (first | (refine AG_of ?_ ?_ <;> intro h <;> simp only [go_sem, Nat.reduceEqDiff, Nat.reduceLT, Nat.reduceLeDiff, Nat.reduceAdd, Nat.reduceSub, Nat.reduceMul, Nat.reduceBEq, ↓reduceIte, reduceCtorEq, Int.reduceLT, Int.reduceToNat, UInt8.reduceToNat, Int.reduceLE, Int.reduceBEq, Int.reduceBNe, Int.reduceAdd, Int.reduceSub, Int.reduceMul, Int.reduceNeg, g1, t4, a4, n4, b4, m4, List.length_map, h]) | (refine AB_of ?_ ?_ <;> intro h <;> simp only [go_sem, Nat.reduceEqDiff, Nat.reduceLT, Nat.reduceLeDiff, Nat.reduceAdd, Nat.reduceSub, Nat.reduceMul, Nat.reduceBEq, ↓reduceIte, reduceCtorEq, Int.reduceLT, Int.reduceToNat, UInt8.reduceToNat, Int.reduceLE, Int.reduceBEq, Int.reduceBNe, Int.reduceAdd, Int.reduceSub, Int.reduceMul, Int.reduceNeg, g1, t4, a4, n4, b4, m4, List.length_map, h]) | (refine A_draw_of [] [] (by kernel_rfl) ?_ <;> simp only [go_sem, Nat.reduceEqDiff, Nat.reduceLT, Nat.reduceLeDiff, Nat.reduceAdd, Nat.reduceSub, Nat.reduceMul, Nat.reduceBEq, ↓reduceIte, reduceCtorEq, Int.reduceLT, Int.reduceToNat, UInt8.reduceToNat, Int.reduceLE, Int.reduceBEq, Int.reduceBNe, Int.reduceAdd, Int.reduceSub, Int.reduceMul, Int.reduceNeg, g1, t4, a4, n4, b4, m4, List.length_map]))
  refine A_round ?_
  simp only [go_sem, Nat.reduceEqDiff, Nat.reduceLT, Nat.reduceLeDiff, Nat.reduceAdd, Nat.reduceSub, Nat.reduceMul, Nat.reduceBEq, ↓reduceIte, reduceCtorEq, Int.reduceLT, Int.reduceToNat, UInt8.reduceToNat, Int.reduceLE, Int.reduceBEq, Int.reduceBNe, Int.reduceAdd, Int.reduceSub, Int.reduceMul, Int.reduceNeg, cImg11_at, spGet_mv, G1, W1]
  repeat' (first | (refine AG_of ?_ ?_ <;> intro h <;> simp only [go_sem, Nat.reduceEqDiff, Nat.reduceLT, Nat.reduceLeDiff, Nat.reduceAdd, Nat.reduceSub, Nat.reduceMul, Nat.reduceBEq, ↓reduceIte, reduceCtorEq, Int.reduceLT, Int.reduceToNat, UInt8.reduceToNat, Int.reduceLE, Int.reduceBEq, Int.reduceBNe, Int.reduceAdd, Int.reduceSub, Int.reduceMul, Int.reduceNeg, cImg11_at, spGet_mv, G1, W1, h]) | (refine AB_of ?_ ?_ <;> intro h <;> simp only [go_sem, Nat.reduceEqDiff, Nat.reduceLT, Nat.reduceLeDiff, Nat.reduceAdd, Nat.reduceSub, Nat.reduceMul, Nat.reduceBEq, ↓reduceIte, reduceCtorEq, Int.reduceLT, Int.reduceToNat, UInt8.reduceToNat, Int.reduceLE, Int.reduceBEq, Int.reduceBNe, Int.reduceAdd, Int.reduceSub, Int.reduceMul, Int.reduceNeg, cImg11_at, spGet_mv, G1, W1, h]) | (refine A_draw_of [] [] (by kernel_rfl) ?_ <;> simp only [go_sem, Nat.reduceEqDiff, Nat.reduceLT, Nat.reduceLeDiff, Nat.reduceAdd, Nat.reduceSub, Nat.reduceMul, Nat.reduceBEq, ↓reduceIte, reduceCtorEq, Int.reduceLT, Int.reduceToNat, UInt8.reduceToNat, Int.reduceLE, Int.reduceBEq, Int.reduceBNe, Int.reduceAdd, Int.reduceSub, Int.reduceMul, Int.reduceNeg, cImg11_at, spGet_mv, G1, W1]))
  refine A_round ?_
  simp only [go_sem, Nat.reduceEqDiff, Nat.reduceLT, Nat.reduceLeDiff, Nat.reduceAdd, Nat.reduceSub, Nat.reduceMul, Nat.reduceBEq, ↓reduceIte, reduceCtorEq, Int.reduceLT, Int.reduceToNat, UInt8.reduceToNat, Int.reduceLE, Int.reduceBEq, Int.reduceBNe, Int.reduceAdd, Int.reduceSub, Int.reduceMul, Int.reduceNeg, cImg11_at, spGet_mv, G2, W2]
  repeat' (first | (refine AG_of ?_ ?_ <;> intro h <;> simp only [go_sem, Nat.reduceEqDiff, Nat.reduceLT, Nat.reduceLeDiff, Nat.reduceAdd, Nat.reduceSub, Nat.reduceMul, Nat.reduceBEq, ↓reduceIte, reduceCtorEq, Int.reduceLT, Int.reduceToNat, UInt8.reduceToNat, Int.reduceLE, Int.reduceBEq, Int.reduceBNe, Int.reduceAdd, Int.reduceSub, Int.reduceMul, Int.reduceNeg, cImg11_at, spGet_mv, G2, W2, h]) | (refine AB_of ?_ ?_ <;> intro h <;> simp only [go_sem, Nat.reduceEqDiff, Nat.reduceLT, Nat.reduceLeDiff, Nat.reduceAdd, Nat.reduceSub, Nat.reduceMul, Nat.reduceBEq, ↓reduceIte, reduceCtorEq, Int.reduceLT, Int.reduceToNat, UInt8.reduceToNat, Int.reduceLE, Int.reduceBEq, Int.reduceBNe, Int.reduceAdd, Int.reduceSub, Int.reduceMul, Int.reduceNeg, cImg11_at, spGet_mv, G2, W2, h]) | (refine A_draw_of [] [] (by kernel_rfl) ?_ <;> simp only [go_sem, Nat.reduceEqDiff, Nat.reduceLT, Nat.reduceLeDiff, Nat.reduceAdd, Nat.reduceSub, Nat.reduceMul, Nat.reduceBEq, ↓reduceIte, reduceCtorEq, Int.reduceLT, Int.reduceToNat, UInt8.reduceToNat, Int.reduceLE, Int.reduceBEq, Int.reduceBNe, Int.reduceAdd, Int.reduceSub, Int.reduceMul, Int.reduceNeg, cImg11_at, spGet_mv, G2, W2]))
  refine A_round ?_
  simp only [go_sem, Nat.reduceEqDiff, Nat.reduceLT, Nat.reduceLeDiff, Nat.reduceAdd, Nat.reduceSub, Nat.reduceMul, Nat.reduceBEq, ↓reduceIte, reduceCtorEq, Int.reduceLT, Int.reduceToNat, UInt8.reduceToNat, Int.reduceLE, Int.reduceBEq, Int.reduceBNe, Int.reduceAdd, Int.reduceSub, Int.reduceMul, Int.reduceNeg, cImg11_at, spGet_mv, G3, W3]
  repeat' (first | (refine AG_of ?_ ?_ <;> intro h <;> simp only [go_sem, Nat.reduceEqDiff, Nat.reduceLT, Nat.reduceLeDiff, Nat.reduceAdd, Nat.reduceSub, Nat.reduceMul, Nat.reduceBEq, ↓reduceIte, reduceCtorEq, Int.reduceLT, Int.reduceToNat, UInt8.reduceToNat, Int.reduceLE, Int.reduceBEq, Int.reduceBNe, Int.reduceAdd, Int.reduceSub, Int.reduceMul, Int.reduceNeg, cImg11_at, spGet_mv, G3, W3, h]) | (refine AB_of ?_ ?_ <;> intro h <;> simp only [go_sem, Nat.reduceEqDiff, Nat.reduceLT, Nat.reduceLeDiff, Nat.reduceAdd, Nat.reduceSub, Nat.reduceMul, Nat.reduceBEq, ↓reduceIte, reduceCtorEq, Int.reduceLT, Int.reduceToNat, UInt8.reduceToNat, Int.reduceLE, Int.reduceBEq, Int.reduceBNe, Int.reduceAdd, Int.reduceSub, Int.reduceMul, Int.reduceNeg, cImg11_at, spGet_mv, G3, W3, h]) | (refine A_draw_of [] [] (by kernel_rfl) ?_ <;> simp only [go_sem, Nat.reduceEqDiff, Nat.reduceLT, Nat.reduceLeDiff, Nat.reduceAdd, Nat.reduceSub, Nat.reduceMul, Nat.reduceBEq, ↓reduceIte, reduceCtorEq, Int.reduceLT, Int.reduceToNat, UInt8.reduceToNat, Int.reduceLE, Int.reduceBEq, Int.reduceBNe, Int.reduceAdd, Int.reduceSub, Int.reduceMul, Int.reduceNeg, cImg11_at, spGet_mv, G3, W3]))
  refine A_round ?_
  cases c3 : sizesB (wordAt l 4) (wordAt l 8) (wordAt l 12)
  · have hr : readX l = (none, 2) := by unfold readX; rw [if_neg c1, if_neg (by simp [c2]), if_pos c3]
    rw [hr]
    rw [c3] at hs
    simp only [go_sem, Nat.reduceEqDiff, Nat.reduceLT, Nat.reduceLeDiff, Nat.reduceAdd, Nat.reduceSub, Nat.reduceMul, Nat.reduceBEq, ↓reduceIte, reduceCtorEq, Int.reduceLT, Int.reduceToNat, UInt8.reduceToNat, Int.reduceLE, Int.reduceBEq, Int.reduceBNe, Int.reduceAdd, Int.reduceSub, Int.reduceMul, Int.reduceNeg, cImg11_at, spSizes_mv, hs]
    repeat' (first | (refine AG_of ?_ ?_ <;> intro h <;> simp only [go_sem, Nat.reduceEqDiff, Nat.reduceLT, Nat.reduceLeDiff, Nat.reduceAdd, Nat.reduceSub, Nat.reduceMul, Nat.reduceBEq, ↓reduceIte, reduceCtorEq, Int.reduceLT, Int.reduceToNat, UInt8.reduceToNat, Int.reduceLE, Int.reduceBEq, Int.reduceBNe, Int.reduceAdd, Int.reduceSub, Int.reduceMul, Int.reduceNeg, cImg11_at, spSizes_mv, hs, h]) | (refine AB_of ?_ ?_ <;> intro h <;> simp only [go_sem, Nat.reduceEqDiff, Nat.reduceLT, Nat.reduceLeDiff, Nat.reduceAdd, Nat.reduceSub, Nat.reduceMul, Nat.reduceBEq, ↓reduceIte, reduceCtorEq, Int.reduceLT, Int.reduceToNat, UInt8.reduceToNat, Int.reduceLE, Int.reduceBEq, Int.reduceBNe, Int.reduceAdd, Int.reduceSub, Int.reduceMul, Int.reduceNeg, cImg11_at, spSizes_mv, hs, h]) | (refine A_draw_of [] [] (by kernel_rfl) ?_ <;> simp only [go_sem, Nat.reduceEqDiff, Nat.reduceLT, Nat.reduceLeDiff, Nat.reduceAdd, Nat.reduceSub, Nat.reduceMul, Nat.reduceBEq, ↓reduceIte, reduceCtorEq, Int.reduceLT, Int.reduceToNat, UInt8.reduceToNat, Int.reduceLE, Int.reduceBEq, Int.reduceBNe, Int.reduceAdd, Int.reduceSub, Int.reduceMul, Int.reduceNeg, cImg11_at, spSizes_mv, hs]))
    all_goals (first | refine fin_ret ?_ | refine fin_normal ?_)
    all_goals simp only [resOf, Try.results11, Try.ntmps11, go_sem, Nat.reduceEqDiff, Nat.reduceLT, Nat.reduceLeDiff, Nat.reduceAdd, Nat.reduceSub, Nat.reduceMul, Nat.reduceBEq, ↓reduceIte, reduceCtorEq, Int.reduceLT, Int.reduceToNat, UInt8.reduceToNat, Int.reduceLE, Int.reduceBEq, Int.reduceBNe, Int.reduceAdd, Int.reduceSub, Int.reduceMul, Int.reduceNeg]
    all_goals rfl
  rw [c3] at hs
  have c3' := c3
  simp only [sizesB, Bool.and_eq_true, decide_eq_true_eq] at c3'
  obtain ⟨⟨⟨⟨s1, s2⟩, s3⟩, s4⟩, s5⟩ := c3'
  have V1 : IntKind.i64.wrap (4 * wordAt l 4) = 4 * wordAt l 4 := w_i64 (by omega) (by omega)
  have V2 : IntKind.i64.wrap (16 + 4 * wordAt l 4) = 16 + 4 * wordAt l 4 := w_i64 (by omega) (by omega)
  have V3 : IntKind.i64.wrap (16 + 4 * wordAt l 4 + wordAt l 12) = 16 + 4 * wordAt l 4 + wordAt l 12 := w_i64 (by omega) (by omega)
  by_cases c4 : (l.length : Int) = 16 + 4 * wordAt l 4 + wordAt l 12
  case neg =>
    have hr : readX l = (none, 2) := by unfold readX; rw [if_neg c1, if_neg (by simp [c2]), if_neg (by simp [c3]), if_pos c4]
    rw [hr]
    have g4 : ((l.length : Int) != 16 + 4 * wordAt l 4 + wordAt l 12) = true := by simp [c4]
    simp only [go_sem, Nat.reduceEqDiff, Nat.reduceLT, Nat.reduceLeDiff, Nat.reduceAdd, Nat.reduceSub, Nat.reduceMul, Nat.reduceBEq, ↓reduceIte, reduceCtorEq, Int.reduceLT, Int.reduceToNat, UInt8.reduceToNat, Int.reduceLE, Int.reduceBEq, Int.reduceBNe, Int.reduceAdd, Int.reduceSub, Int.reduceMul, Int.reduceNeg, cImg11_at, spSizes_mv, hs, V1, V2, V3, g4, List.length_map]
    repeat' (first | (refine AG_of ?_ ?_ <;> intro h <;> simp only [go_sem, Nat.reduceEqDiff, Nat.reduceLT, Nat.reduceLeDiff, Nat.reduceAdd, Nat.reduceSub, Nat.reduceMul, Nat.reduceBEq, ↓reduceIte, reduceCtorEq, Int.reduceLT, Int.reduceToNat, UInt8.reduceToNat, Int.reduceLE, Int.reduceBEq, Int.reduceBNe, Int.reduceAdd, Int.reduceSub, Int.reduceMul, Int.reduceNeg, cImg11_at, spSizes_mv, hs, V1, V2, V3, g4, List.length_map, h]) | (refine AB_of ?_ ?_ <;> intro h <;> simp only [go_sem, Nat.reduceEqDiff, Nat.reduceLT, Nat.reduceLeDiff, Nat.reduceAdd, Nat.reduceSub, Nat.reduceMul, Nat.reduceBEq, ↓reduceIte, reduceCtorEq, Int.reduceLT, Int.reduceToNat, UInt8.reduceToNat, Int.reduceLE, Int.reduceBEq, Int.reduceBNe, Int.reduceAdd, Int.reduceSub, Int.reduceMul, Int.reduceNeg, cImg11_at, spSizes_mv, hs, V1, V2, V3, g4, List.length_map, h]) | (refine A_draw_of [] [] (by kernel_rfl) ?_ <;> simp only [go_sem, Nat.reduceEqDiff, Nat.reduceLT, Nat.reduceLeDiff, Nat.reduceAdd, Nat.reduceSub, Nat.reduceMul, Nat.reduceBEq, ↓reduceIte, reduceCtorEq, Int.reduceLT, Int.reduceToNat, UInt8.reduceToNat, Int.reduceLE, Int.reduceBEq, Int.reduceBNe, Int.reduceAdd, Int.reduceSub, Int.reduceMul, Int.reduceNeg, cImg11_at, spSizes_mv, hs, V1, V2, V3, g4, List.length_map]))
    all_goals (first | refine fin_ret ?_ | refine fin_normal ?_)
    all_goals simp only [resOf, Try.results11, Try.ntmps11, go_sem, Nat.reduceEqDiff, Nat.reduceLT, Nat.reduceLeDiff, Nat.reduceAdd, Nat.reduceSub, Nat.reduceMul, Nat.reduceBEq, ↓reduceIte, reduceCtorEq, Int.reduceLT, Int.reduceToNat, UInt8.reduceToNat, Int.reduceLE, Int.reduceBEq, Int.reduceBNe, Int.reduceAdd, Int.reduceSub, Int.reduceMul, Int.reduceNeg]
    all_goals rfl
  have g4 : ((l.length : Int) != 16 + 4 * wordAt l 4 + wordAt l 12) = false := by simp [c4]
  simp only [go_sem, Nat.reduceEqDiff, Nat.reduceLT, Nat.reduceLeDiff, Nat.reduceAdd, Nat.reduceSub, Nat.reduceMul, Nat.reduceBEq, ↓reduceIte, reduceCtorEq, Int.reduceLT, Int.reduceToNat, UInt8.reduceToNat, Int.reduceLE, Int.reduceBEq, Int.reduceBNe, Int.reduceAdd, Int.reduceSub, Int.reduceMul, Int.reduceNeg, cImg11_at, spSizes_mv, hs, V1, V2, V3, g4, List.length_map]
  repeat' (first | (refine AG_of ?_ ?_ <;> intro h <;> simp only [go_sem, Nat.reduceEqDiff, Nat.reduceLT, Nat.reduceLeDiff, Nat.reduceAdd, Nat.reduceSub, Nat.reduceMul, Nat.reduceBEq, ↓reduceIte, reduceCtorEq, Int.reduceLT, Int.reduceToNat, UInt8.reduceToNat, Int.reduceLE, Int.reduceBEq, Int.reduceBNe, Int.reduceAdd, Int.reduceSub, Int.reduceMul, Int.reduceNeg, cImg11_at, spSizes_mv, hs, V1, V2, V3, g4, List.length_map, h]) | (refine AB_of ?_ ?_ <;> intro h <;> simp only [go_sem, Nat.reduceEqDiff, Nat.reduceLT, Nat.reduceLeDiff, Nat.reduceAdd, Nat.reduceSub, Nat.reduceMul, Nat.reduceBEq, ↓reduceIte, reduceCtorEq, Int.reduceLT, Int.reduceToNat, UInt8.reduceToNat, Int.reduceLE, Int.reduceBEq, Int.reduceBNe, Int.reduceAdd, Int.reduceSub, Int.reduceMul, Int.reduceNeg, cImg11_at, spSizes_mv, hs, V1, V2, V3, g4, List.length_map, h]) | (refine A_draw_of [] [] (by kernel_rfl) ?_ <;> simp only [go_sem, Nat.reduceEqDiff, Nat.reduceLT, Nat.reduceLeDiff, Nat.reduceAdd, Nat.reduceSub, Nat.reduceMul, Nat.reduceBEq, ↓reduceIte, reduceCtorEq, Int.reduceLT, Int.reduceToNat, UInt8.reduceToNat, Int.reduceLE, Int.reduceBEq, Int.reduceBNe, Int.reduceAdd, Int.reduceSub, Int.reduceMul, Int.reduceNeg, cImg11_at, spSizes_mv, hs, V1, V2, V3, g4, List.length_map]))
  clear G1 G2 G3 W1 W2 W3 V1 V2 V3 t4 a4 n4 b4 m4 g1 hs
  obtain ⟨N, hN⟩ : ∃ N : Nat, wordAt l 4 = N := ⟨(wordAt l 4).toNat, by omega⟩
  refine A_loop (readI l (wordAt l 4) (wordAt l 8)) (fun s => N - (numOf (s.env 67)).toNat) ?_ ?_
  · refine ⟨by simp [upd, init, V.unfr], by simp [upd], by simp [upd, init], by simp [upd, init], by simp [upd], by simp [upd, init], by simp [upd, init], 0, by simp [upd], by omega, rfl, .inl ⟨rfl, by simp [upd, init]⟩⟩
  intro s hs
  obtain ⟨e0, e2, t2, e8, e66, e4, t4, k, e67, hk, hall, hbox⟩ := hs
  rcases Nat.lt_or_ge k N with hlt | hge
  · have g0 : decide ((k : Int) < wordAt l 4) = true := by simp; omega
    have n2 : IntKind.i64.wrap ((k : Int) + 1) = (k + 1 : Nat) := by rw [w_i64 (by omega) (by omega)]; omega
    have n3 : IntKind.i64.wrap (4 * (k : Int)) = 4 * k := w_i64 (by omega) (by omega)
    have n4 : IntKind.i64.wrap (16 + 4 * (k : Int)) = (16 + 4 * k : Nat) := by rw [w_i64 (by omega) (by omega)]; omega
    have G := spGet_fn hb hlen (k := 16 + 4 * k) (by omega)
    have D := decT_v (wordAt_bd hb (16 + 4 * k))
    have hr2 : List.range (k + 1) = List.range k ++ [k] := List.range_succ
    obtain ⟨op, d, a, b, imm, hi⟩ : ∃ op d a b imm, insAt l k = ⟨op, d, a, b, imm⟩ := ⟨_, _, _, _, _, rfl⟩
    have hi' : (decT (wordAt l (16 + 4 * k))).1 = ⟨op, d, a, b, imm⟩ := hi
    have ho' : (decT (wordAt l (16 + 4 * k))).2 = insOkAt l k := rfl
    rw [hi', ho'] at D
    simp only [Ins.v] at D
    cases ho : insOkAt l k
    · have hr : readX l = (none, 3) := by
        have : (List.range (wordAt l 4).toNat).all (insOkAt l) = false := by
          rw [List.all_eq_false]
          exact ⟨k, by simp; omega, by simp [ho]⟩
        unfold readX
        rw [if_neg c1, if_neg (by simp [c2]), if_neg (by simp [c3]), if_neg (by simp [c4]), if_pos this]
      rw [hr]
      rw [ho] at D
      simp only [go_sem, Nat.reduceEqDiff, Nat.reduceLT, Nat.reduceLeDiff, Nat.reduceAdd, Nat.reduceSub, Nat.reduceMul, Nat.reduceBEq, ↓reduceIte, reduceCtorEq, Int.reduceLT, Int.reduceToNat, UInt8.reduceToNat, Int.reduceLE, Int.reduceBEq, Int.reduceBNe, Int.reduceAdd, Int.reduceSub, Int.reduceMul, Int.reduceNeg, e0, e2, t2, e8, e66, e4, t4, e67, g0, n2, n3, n4, G, D, cImg11_at, spGet_mv, spDecode_mv]
      repeat' (first | (refine AG_of ?_ ?_ <;> intro h <;> simp only [go_sem, Nat.reduceEqDiff, Nat.reduceLT, Nat.reduceLeDiff, Nat.reduceAdd, Nat.reduceSub, Nat.reduceMul, Nat.reduceBEq, ↓reduceIte, reduceCtorEq, Int.reduceLT, Int.reduceToNat, UInt8.reduceToNat, Int.reduceLE, Int.reduceBEq, Int.reduceBNe, Int.reduceAdd, Int.reduceSub, Int.reduceMul, Int.reduceNeg, e0, e2, t2, e8, e66, e4, t4, e67, g0, n2, n3, n4, G, D, cImg11_at, spGet_mv, spDecode_mv, h]) | (refine AB_of ?_ ?_ <;> intro h <;> simp only [go_sem, Nat.reduceEqDiff, Nat.reduceLT, Nat.reduceLeDiff, Nat.reduceAdd, Nat.reduceSub, Nat.reduceMul, Nat.reduceBEq, ↓reduceIte, reduceCtorEq, Int.reduceLT, Int.reduceToNat, UInt8.reduceToNat, Int.reduceLE, Int.reduceBEq, Int.reduceBNe, Int.reduceAdd, Int.reduceSub, Int.reduceMul, Int.reduceNeg, e0, e2, t2, e8, e66, e4, t4, e67, g0, n2, n3, n4, G, D, cImg11_at, spGet_mv, spDecode_mv, h]) | (refine A_draw_of [] [] (by kernel_rfl) ?_ <;> simp only [go_sem, Nat.reduceEqDiff, Nat.reduceLT, Nat.reduceLeDiff, Nat.reduceAdd, Nat.reduceSub, Nat.reduceMul, Nat.reduceBEq, ↓reduceIte, reduceCtorEq, Int.reduceLT, Int.reduceToNat, UInt8.reduceToNat, Int.reduceLE, Int.reduceBEq, Int.reduceBNe, Int.reduceAdd, Int.reduceSub, Int.reduceMul, Int.reduceNeg, e0, e2, t2, e8, e66, e4, t4, e67, g0, n2, n3, n4, G, D, cImg11_at, spGet_mv, spDecode_mv]))
      all_goals (first | refine fin_ret ?_ | refine fin_normal ?_)
      all_goals simp only [resOf, Try.results11, Try.ntmps11, go_sem, Nat.reduceEqDiff, Nat.reduceLT, Nat.reduceLeDiff, Nat.reduceAdd, Nat.reduceSub, Nat.reduceMul, Nat.reduceBEq, ↓reduceIte, reduceCtorEq, Int.reduceLT, Int.reduceToNat, UInt8.reduceToNat, Int.reduceLE, Int.reduceBEq, Int.reduceBNe, Int.reduceAdd, Int.reduceSub, Int.reduceMul, Int.reduceNeg, e2, t2]
      all_goals rfl
    · rw [ho] at D
      have hall2 : (List.range (k + 1)).all (insOkAt l) = true := by rw [hr2, List.all_append, hall]; simp [ho]
      have f1 : (k + 1) * 40 ≤ 140737488355328 := by omega
      have hlk : ((List.range k).map (insAt l)).length = k := by simp
      rcases hbox with ⟨hk0, t8⟩ | ⟨v, t8, t90⟩
      ·
        simp only [go_sem, Nat.reduceEqDiff, Nat.reduceLT, Nat.reduceLeDiff, Nat.reduceAdd, Nat.reduceSub, Nat.reduceMul, Nat.reduceBEq, ↓reduceIte, reduceCtorEq, Int.reduceLT, Int.reduceToNat, UInt8.reduceToNat, Int.reduceLE, Int.reduceBEq, Int.reduceBNe, Int.reduceAdd, Int.reduceSub, Int.reduceMul, Int.reduceNeg, e0, e2, t2, e8, e66, e4, t4, e67, t8, g0, n2, n3, n4, G, D, cImg11_at, spGet_mv, spDecode_mv, f1, List.length_map, List.length_range]
        repeat' (first | (refine AG_of ?_ ?_ <;> intro h <;> simp only [go_sem, Nat.reduceEqDiff, Nat.reduceLT, Nat.reduceLeDiff, Nat.reduceAdd, Nat.reduceSub, Nat.reduceMul, Nat.reduceBEq, ↓reduceIte, reduceCtorEq, Int.reduceLT, Int.reduceToNat, UInt8.reduceToNat, Int.reduceLE, Int.reduceBEq, Int.reduceBNe, Int.reduceAdd, Int.reduceSub, Int.reduceMul, Int.reduceNeg, e0, e2, t2, e8, e66, e4, t4, e67, t8, g0, n2, n3, n4, G, D, cImg11_at, spGet_mv, spDecode_mv, f1, List.length_map, List.length_range, h]) | (refine AB_of ?_ ?_ <;> intro h <;> simp only [go_sem, Nat.reduceEqDiff, Nat.reduceLT, Nat.reduceLeDiff, Nat.reduceAdd, Nat.reduceSub, Nat.reduceMul, Nat.reduceBEq, ↓reduceIte, reduceCtorEq, Int.reduceLT, Int.reduceToNat, UInt8.reduceToNat, Int.reduceLE, Int.reduceBEq, Int.reduceBNe, Int.reduceAdd, Int.reduceSub, Int.reduceMul, Int.reduceNeg, e0, e2, t2, e8, e66, e4, t4, e67, t8, g0, n2, n3, n4, G, D, cImg11_at, spGet_mv, spDecode_mv, f1, List.length_map, List.length_range, h]) | (refine A_draw_of [] [] (by kernel_rfl) ?_ <;> simp only [go_sem, Nat.reduceEqDiff, Nat.reduceLT, Nat.reduceLeDiff, Nat.reduceAdd, Nat.reduceSub, Nat.reduceMul, Nat.reduceBEq, ↓reduceIte, reduceCtorEq, Int.reduceLT, Int.reduceToNat, UInt8.reduceToNat, Int.reduceLE, Int.reduceBEq, Int.reduceBNe, Int.reduceAdd, Int.reduceSub, Int.reduceMul, Int.reduceNeg, e0, e2, t2, e8, e66, e4, t4, e67, t8, g0, n2, n3, n4, G, D, cImg11_at, spGet_mv, spDecode_mv, f1, List.length_map, List.length_range]))
        refine ⟨⟨by simp [upd, e0], by simp [upd, e2], by simp [upd, t2], by simp [upd, e8], by simp [upd, e66], by simp [upd, e4], by simp [upd, t4], k + 1, by simp [upd], by omega, hall2, .inr ⟨(s.st 90).ver + 1, by simp [upd, hk0], ?_⟩⟩, by simp [upd, numOf, e67]; omega⟩
        subst hk0
        simp [upd, hi, Ins.v]
      ·
        simp only [go_sem, Nat.reduceEqDiff, Nat.reduceLT, Nat.reduceLeDiff, Nat.reduceAdd, Nat.reduceSub, Nat.reduceMul, Nat.reduceBEq, ↓reduceIte, reduceCtorEq, Int.reduceLT, Int.reduceToNat, UInt8.reduceToNat, Int.reduceLE, Int.reduceBEq, Int.reduceBNe, Int.reduceAdd, Int.reduceSub, Int.reduceMul, Int.reduceNeg, e0, e2, t2, e8, e66, e4, t4, e67, t8, t90, g0, n2, n3, n4, G, D, cImg11_at, spGet_mv, spDecode_mv, f1, List.length_map, List.length_range]
        repeat' (first | (refine AG_of ?_ ?_ <;> intro h <;> simp only [go_sem, Nat.reduceEqDiff, Nat.reduceLT, Nat.reduceLeDiff, Nat.reduceAdd, Nat.reduceSub, Nat.reduceMul, Nat.reduceBEq, ↓reduceIte, reduceCtorEq, Int.reduceLT, Int.reduceToNat, UInt8.reduceToNat, Int.reduceLE, Int.reduceBEq, Int.reduceBNe, Int.reduceAdd, Int.reduceSub, Int.reduceMul, Int.reduceNeg, e0, e2, t2, e8, e66, e4, t4, e67, t8, t90, g0, n2, n3, n4, G, D, cImg11_at, spGet_mv, spDecode_mv, f1, List.length_map, List.length_range, h]) | (refine AB_of ?_ ?_ <;> intro h <;> simp only [go_sem, Nat.reduceEqDiff, Nat.reduceLT, Nat.reduceLeDiff, Nat.reduceAdd, Nat.reduceSub, Nat.reduceMul, Nat.reduceBEq, ↓reduceIte, reduceCtorEq, Int.reduceLT, Int.reduceToNat, UInt8.reduceToNat, Int.reduceLE, Int.reduceBEq, Int.reduceBNe, Int.reduceAdd, Int.reduceSub, Int.reduceMul, Int.reduceNeg, e0, e2, t2, e8, e66, e4, t4, e67, t8, t90, g0, n2, n3, n4, G, D, cImg11_at, spGet_mv, spDecode_mv, f1, List.length_map, List.length_range, h]) | (refine A_draw_of [] [] (by kernel_rfl) ?_ <;> simp only [go_sem, Nat.reduceEqDiff, Nat.reduceLT, Nat.reduceLeDiff, Nat.reduceAdd, Nat.reduceSub, Nat.reduceMul, Nat.reduceBEq, ↓reduceIte, reduceCtorEq, Int.reduceLT, Int.reduceToNat, UInt8.reduceToNat, Int.reduceLE, Int.reduceBEq, Int.reduceBNe, Int.reduceAdd, Int.reduceSub, Int.reduceMul, Int.reduceNeg, e0, e2, t2, e8, e66, e4, t4, e67, t8, t90, g0, n2, n3, n4, G, D, cImg11_at, spGet_mv, spDecode_mv, f1, List.length_map, List.length_range]))
        refine ⟨⟨by simp [upd, e0], by simp [upd, e2], by simp [upd, t2], by simp [upd, e8], by simp [upd, e66], by simp [upd, e4], by simp [upd, t4], k + 1, by simp [upd], by omega, hall2, .inr ⟨v + 1, by simp [upd], ?_⟩⟩, by simp [upd, numOf, e67]; omega⟩
        simp [upd, hi, Ins.v, hr2]
  · have hkN : k = N := by omega
    subst hkN
    have g0 : decide ((k : Int) < wordAt l 4) = false := by simp; omega
    have hN2 : (wordAt l 4).toNat = k := by omega
    rcases hbox with ⟨hk0, _⟩ | ⟨v, t8, t90⟩
    · omega
    have n5 : IntKind.i64.wrap ((l.length : Int) - wordAt l 12) = (16 + 4 * k : Nat) := by rw [w_i64 (by omega) (by omega)]; omega
    have b5 : ((16 + 4 * k : Nat) : Int) ≤ l.length := by omega
    have z5 := Int.natCast_nonneg (16 + 4 * k)
    have d5 : List.take (l.length - (16 + 4 * k)) (List.drop (16 + 4 * k) (l.map u8v)) = (l.drop (16 + 4 * k)).map u8v := by
      rw [← List.map_drop, List.take_of_length_le (by simp)]
    have sc := scal_u8 (l.drop (16 + 4 * k))
    have f1 : (l.length - (16 + 4 * k)) * 1 ≤ 140737488355328 := by omega
    have ld : ((l.drop (16 + 4 * k)).map u8v).length = l.length - (16 + 4 * k) := by simp
    obtain ⟨c, hC⟩ : ∃ c, (List.range k).map (insAt l) = c := ⟨_, rfl⟩
    have hcl : c.length = k := by rw [← hC]; simp
    have lk : (c.map Ins.v).length = k := by simp [hcl]
    rw [hC] at t90
    let q : Prg := ⟨c, wordAt l 8, l.drop (16 + 4 * k)⟩
    have ht : spTargets.fn [.agg [.lst false 5 (c.map Ins.v), .s (.int .i64 (wordAt l 8)), .lst false 1 ((l.drop (16 + 4 * k)).map u8v)]] = some (.s (.int .i64 (targs q))) := by
      have := prgOf_v q
      unfold Prg.v at this
      simp only [spTargets]
      rw [show prgOf _ = some q from this, Option.bind_some, if_pos (by show c.length ≤ _; omega)]
    simp only [go_sem, Nat.reduceEqDiff, Nat.reduceLT, Nat.reduceLeDiff, Nat.reduceAdd, Nat.reduceSub, Nat.reduceMul, Nat.reduceBEq, ↓reduceIte, reduceCtorEq, Int.reduceLT, Int.reduceToNat, UInt8.reduceToNat, Int.reduceLE, Int.reduceBEq, Int.reduceBNe, Int.reduceAdd, Int.reduceSub, Int.reduceMul, Int.reduceNeg, e0, e2, t2, e8, e66, e4, t4, e67, t8, t90, g0]
    repeat' (first | (refine AG_of ?_ ?_ <;> intro h <;> simp only [go_sem, Nat.reduceEqDiff, Nat.reduceLT, Nat.reduceLeDiff, Nat.reduceAdd, Nat.reduceSub, Nat.reduceMul, Nat.reduceBEq, ↓reduceIte, reduceCtorEq, Int.reduceLT, Int.reduceToNat, UInt8.reduceToNat, Int.reduceLE, Int.reduceBEq, Int.reduceBNe, Int.reduceAdd, Int.reduceSub, Int.reduceMul, Int.reduceNeg, e0, e2, t2, e8, e66, e4, t4, e67, t8, t90, g0, h]) | (refine AB_of ?_ ?_ <;> intro h <;> simp only [go_sem, Nat.reduceEqDiff, Nat.reduceLT, Nat.reduceLeDiff, Nat.reduceAdd, Nat.reduceSub, Nat.reduceMul, Nat.reduceBEq, ↓reduceIte, reduceCtorEq, Int.reduceLT, Int.reduceToNat, UInt8.reduceToNat, Int.reduceLE, Int.reduceBEq, Int.reduceBNe, Int.reduceAdd, Int.reduceSub, Int.reduceMul, Int.reduceNeg, e0, e2, t2, e8, e66, e4, t4, e67, t8, t90, g0, h]))
    refine A_draw_of [102] [102] (by kernel_rfl) ?_
    cases hq : targsB q
    ·
      have hr : readX l = (some q, 0) := by
        unfold readX
        rw [if_neg c1, if_neg (by simp [c2]), if_neg (by simp [c3]), if_neg (by simp [c4]), hN2, hC, if_neg (by simp [hall]), if_neg (by simp [q] at hq; simp [hq])]
      rw [hr]
      have hz : targs q = 0 := by unfold targs; rw [hq]; rfl
      rw [hz] at ht
      simp only [go_sem, Nat.reduceEqDiff, Nat.reduceLT, Nat.reduceLeDiff, Nat.reduceAdd, Nat.reduceSub, Nat.reduceMul, Nat.reduceBEq, ↓reduceIte, reduceCtorEq, Int.reduceLT, Int.reduceToNat, UInt8.reduceToNat, Int.reduceLE, Int.reduceBEq, Int.reduceBNe, Int.reduceAdd, Int.reduceSub, Int.reduceMul, Int.reduceNeg, e0, e2, t2, e8, e66, e4, t4, e67, t8, t90, n5, b5, z5, d5, sc, f1, ld, lk, ht, cImg11_at, spTargets_mv, List.length_map, Int.toNat_natCast]
      repeat' (first | (refine AG_of ?_ ?_ <;> intro h <;> simp only [go_sem, Nat.reduceEqDiff, Nat.reduceLT, Nat.reduceLeDiff, Nat.reduceAdd, Nat.reduceSub, Nat.reduceMul, Nat.reduceBEq, ↓reduceIte, reduceCtorEq, Int.reduceLT, Int.reduceToNat, UInt8.reduceToNat, Int.reduceLE, Int.reduceBEq, Int.reduceBNe, Int.reduceAdd, Int.reduceSub, Int.reduceMul, Int.reduceNeg, e0, e2, t2, e8, e66, e4, t4, e67, t8, t90, n5, b5, z5, d5, sc, f1, ld, lk, ht, cImg11_at, spTargets_mv, List.length_map, Int.toNat_natCast, h]) | (refine AB_of ?_ ?_ <;> intro h <;> simp only [go_sem, Nat.reduceEqDiff, Nat.reduceLT, Nat.reduceLeDiff, Nat.reduceAdd, Nat.reduceSub, Nat.reduceMul, Nat.reduceBEq, ↓reduceIte, reduceCtorEq, Int.reduceLT, Int.reduceToNat, UInt8.reduceToNat, Int.reduceLE, Int.reduceBEq, Int.reduceBNe, Int.reduceAdd, Int.reduceSub, Int.reduceMul, Int.reduceNeg, e0, e2, t2, e8, e66, e4, t4, e67, t8, t90, n5, b5, z5, d5, sc, f1, ld, lk, ht, cImg11_at, spTargets_mv, List.length_map, Int.toNat_natCast, h]) | (refine A_draw_of [] [] (by kernel_rfl) ?_ <;> simp only [go_sem, Nat.reduceEqDiff, Nat.reduceLT, Nat.reduceLeDiff, Nat.reduceAdd, Nat.reduceSub, Nat.reduceMul, Nat.reduceBEq, ↓reduceIte, reduceCtorEq, Int.reduceLT, Int.reduceToNat, UInt8.reduceToNat, Int.reduceLE, Int.reduceBEq, Int.reduceBNe, Int.reduceAdd, Int.reduceSub, Int.reduceMul, Int.reduceNeg, e0, e2, t2, e8, e66, e4, t4, e67, t8, t90, n5, b5, z5, d5, sc, f1, ld, lk, ht, cImg11_at, spTargets_mv, List.length_map, Int.toNat_natCast]))
      all_goals (first | refine fin_ret ?_ | refine fin_normal ?_)
      all_goals simp only [resOf, Try.results11, Try.ntmps11, go_sem, Nat.reduceEqDiff, Nat.reduceLT, Nat.reduceLeDiff, Nat.reduceAdd, Nat.reduceSub, Nat.reduceMul, Nat.reduceBEq, ↓reduceIte, reduceCtorEq, Int.reduceLT, Int.reduceToNat, UInt8.reduceToNat, Int.reduceLE, Int.reduceBEq, Int.reduceBNe, Int.reduceAdd, Int.reduceSub, Int.reduceMul, Int.reduceNeg, e2, t2, ld, lk, t90]
      all_goals rfl
    ·
      have hr : readX l = (none, 4) := by
        unfold readX
        rw [if_neg c1, if_neg (by simp [c2]), if_neg (by simp [c3]), if_neg (by simp [c4]), hN2, hC, if_neg (by simp [hall]), if_pos (by simp [q] at hq; simp [hq])]
      rw [hr]
      have hz : targs q = 4 := by unfold targs; rw [hq]; rfl
      rw [hz] at ht
      simp only [go_sem, Nat.reduceEqDiff, Nat.reduceLT, Nat.reduceLeDiff, Nat.reduceAdd, Nat.reduceSub, Nat.reduceMul, Nat.reduceBEq, ↓reduceIte, reduceCtorEq, Int.reduceLT, Int.reduceToNat, UInt8.reduceToNat, Int.reduceLE, Int.reduceBEq, Int.reduceBNe, Int.reduceAdd, Int.reduceSub, Int.reduceMul, Int.reduceNeg, e0, e2, t2, e8, e66, e4, t4, e67, t8, t90, n5, b5, z5, d5, sc, f1, ld, lk, ht, cImg11_at, spTargets_mv, List.length_map, Int.toNat_natCast]
      repeat' (first | (refine AG_of ?_ ?_ <;> intro h <;> simp only [go_sem, Nat.reduceEqDiff, Nat.reduceLT, Nat.reduceLeDiff, Nat.reduceAdd, Nat.reduceSub, Nat.reduceMul, Nat.reduceBEq, ↓reduceIte, reduceCtorEq, Int.reduceLT, Int.reduceToNat, UInt8.reduceToNat, Int.reduceLE, Int.reduceBEq, Int.reduceBNe, Int.reduceAdd, Int.reduceSub, Int.reduceMul, Int.reduceNeg, e0, e2, t2, e8, e66, e4, t4, e67, t8, t90, n5, b5, z5, d5, sc, f1, ld, lk, ht, cImg11_at, spTargets_mv, List.length_map, Int.toNat_natCast, h]) | (refine AB_of ?_ ?_ <;> intro h <;> simp only [go_sem, Nat.reduceEqDiff, Nat.reduceLT, Nat.reduceLeDiff, Nat.reduceAdd, Nat.reduceSub, Nat.reduceMul, Nat.reduceBEq, ↓reduceIte, reduceCtorEq, Int.reduceLT, Int.reduceToNat, UInt8.reduceToNat, Int.reduceLE, Int.reduceBEq, Int.reduceBNe, Int.reduceAdd, Int.reduceSub, Int.reduceMul, Int.reduceNeg, e0, e2, t2, e8, e66, e4, t4, e67, t8, t90, n5, b5, z5, d5, sc, f1, ld, lk, ht, cImg11_at, spTargets_mv, List.length_map, Int.toNat_natCast, h]) | (refine A_draw_of [] [] (by kernel_rfl) ?_ <;> simp only [go_sem, Nat.reduceEqDiff, Nat.reduceLT, Nat.reduceLeDiff, Nat.reduceAdd, Nat.reduceSub, Nat.reduceMul, Nat.reduceBEq, ↓reduceIte, reduceCtorEq, Int.reduceLT, Int.reduceToNat, UInt8.reduceToNat, Int.reduceLE, Int.reduceBEq, Int.reduceBNe, Int.reduceAdd, Int.reduceSub, Int.reduceMul, Int.reduceNeg, e0, e2, t2, e8, e66, e4, t4, e67, t8, t90, n5, b5, z5, d5, sc, f1, ld, lk, ht, cImg11_at, spTargets_mv, List.length_map, Int.toNat_natCast]))
      all_goals (first | refine fin_ret ?_ | refine fin_normal ?_)
      all_goals simp only [resOf, Try.results11, Try.ntmps11, go_sem, Nat.reduceEqDiff, Nat.reduceLT, Nat.reduceLeDiff, Nat.reduceAdd, Nat.reduceSub, Nat.reduceMul, Nat.reduceBEq, ↓reduceIte, reduceCtorEq, Int.reduceLT, Int.reduceToNat, UInt8.reduceToNat, Int.reduceLE, Int.reduceBEq, Int.reduceBNe, Int.reduceAdd, Int.reduceSub, Int.reduceMul, Int.reduceNeg, e2, t2, ld, lk, t90]
      all_goals rfl
end Go.Proofs.Ytecckfhmgnlmnaa
