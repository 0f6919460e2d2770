/-
split.With and split.Of by the plain reckoning. No condition.
-/
import Derived.Test.YtkfmecmmbnehjaaGreatSd
namespace Go.Proofs.YtkfmecmmbnehjaaGreat
set_option linter.unusedSimpArgs false
set_option linter.unusedVariables false

def spAL : Spec := ⟨spA.mv, fun xs => (spA.fn xs).map (asLst0 9)⟩
def spEL : Spec := ⟨spE.mv, fun xs => (spE.fn xs).map (asLst0 9)⟩
theorem spAL_mv : spAL.mv = [] := rfl
theorem spEL_mv : spEL.mv = [] := rfl
theorem asLst0_own (l : List Cell) : asLst0 9 (ownC l) = .lst true 9 (l.map Cell.v) := by
  cases l <;> rfl
theorem spAL_v {o : List Int} (ho : o.length = 16) (op d a b imm pc off : Int) : spAL.fn [.agg [.s (.int .i64 op), .s (.int .i64 d), .s (.int .i64 a), .s (.int .i64 b), .s (.int .i64 imm)], .agg (o.map iv), .s (.int .i64 pc), .s (.int .i64 off)] = some (.lst true 9 ((aCells ⟨op, d, a, b, imm⟩ o pc off).map Cell.v)) := by
  simp only [spAL, spA_v ho, Option.map_some, asLst0_own]
theorem spEL_v {o : List Int} (ho : o.length = 16) (op d a b imm pc off : Int) : spEL.fn [.agg [.s (.int .i64 op), .s (.int .i64 d), .s (.int .i64 a), .s (.int .i64 b), .s (.int .i64 imm)], .agg (o.map iv), .s (.int .i64 pc), .s (.int .i64 off)] = some (.lst true 9 ((eCells ⟨op, d, a, b, imm⟩ o pc off).map Cell.v)) := by
  simp only [spEL, spE_v ho, Option.map_some, asLst0_own]

def noS : V := .agg (.s (.slice none 0 0) :: z16)
def swV (p : Prg) (o : List Int) : V := if closedB p o = true then .tup [.agg (.lst true 6 ((splitL p o).map SB.v) :: o.map iv), .s (.int .i64 0)] else .tup [noS, .s (.int .i64 1)]
def spSpW : Spec := ⟨[], fun xs => match xs with
  | [x, y] => (prgOf x).bind fun p => (ownOf y).bind fun o => some (swV p o)
  | _ => none⟩
theorem spSpW_mv : spSpW.mv = [] := rfl
theorem spSpW_v {o : List Int} (ho : o.length = 16) (p : Prg) : spSpW.fn [p.v, .agg (o.map iv)] = some (swV p o) := by
  have : ownOf (.agg (o.map iv)) = some o := ownOf_v ho
  simp only [spSpW, prgOf_v, this, Option.bind_some]
def cW1 : Orc := upd (upd (upd (upd cB3 48 (some spCut1)) 49 (some spAL)) 50 (some spEL)) 47 (some spClosed)
theorem cW1_ok : ∀ g sp, cW1 g = some sp → Impl Tryz.prog g sp := orc_upd (orc_upd (orc_upd (orc_upd cB3_ok cut1_impl) (impl_lst0 9 emitA_impl)) (impl_lst0 9 emitE_impl)) closed_impl
theorem cW1_at : cW1 48 = some spCut1 ∧ cW1 49 = some spAL ∧ cW1 50 = some spEL ∧ cW1 47 = some spClosed := ⟨rfl, rfl, rfl, rfl⟩
theorem spCut1_mv : spCut1.mv = [] := rfl
theorem spCut1_v {p : Prg} (h : rightP p = true) : spCut1.fn [p.v] = some (.own 6 24 ((cutL p).map Blk4.v)) := by
  simp only [spCut1, prgOf_v, Option.bind_some, if_pos h]

theorem cloL_iv (k : Bool) (o : List Int) : V.cloL k (o.map iv) = true := by
  induction o with
  | nil => rfl
  | cons a o ih => simp only [List.map_cons, V.cloL, ih, iv, V.clo, Bool.and_self]
attribute [go_sem high] cloL_iv
structure swE (p : Prg) (o : List Int) (N : Nat) (s : S) : Prop where
  e2 : s.env 2 = .ptr 2 1 0
  t2 : s.st 2 = ⟨1, .box (prgB p)⟩
  e3 : s.env 3 = .ptr 3 1 0
  t3 : s.st 3 = ⟨1, .box (o.map iv)⟩
  e4 : s.env 4 = .ptr 4 1 0
  t4 : s.st 4 = ⟨1, .box (.s (.slice none 0 0) :: z16)⟩
  e6 : s.env 6 = .ptr 6 1 0
  t6 : s.st 6 = ⟨1, .box (.sw 17 1 N :: o.map iv)⟩
  e22 : s.env 22 = .s (.int .i64 N)
def swI (p : Prg) (o : List Int) (s : S) : Prop := swE p o (cutL p).length s ∧
  ∃ k : Nat, s.env 23 = .s (.int .i64 k) ∧ k ≤ (cutL p).length ∧ ((k = 0 ∧ s.st 17 = ⟨1, .row 6 24 (wD p o 0)⟩) ∨ s.st 17 = ⟨1, .rowV 6 24 (wD p o k)⟩)
def swJ (p : Prg) (o : List Int) (k : Nat) (b : Blk4) (F n : Nat) (C : List V) (s : S) : Prop := swE p o (cutL p).length s ∧ s.env 23 = .s (.int .i64 k) ∧ s.env 8 = .rp 17 1 6 k 0 ∧ s.env 40 = .lst false 5 C ∧ s.env 41 = .s (.int .i64 n) ∧
  ∃ j : Nat, s.env 42 = .s (.int .i64 j) ∧ j ≤ n ∧ ((j = 0 ∧ s.st 17 = ⟨1, .rowV 6 24 ((wD p o k).set k (blkW b (.s (.slice none 0 0)) (.s (.slice none 0 0))))⟩) ∨
    ∃ v w A E, s.st 17 = ⟨1, .rowV 6 24 ((wD p o k).set k (blkW b (.sw 62 v A.length) (.sw 80 w E.length)))⟩ ∧ s.st 62 = ⟨v, .row 9 51 A⟩ ∧ s.st 80 = ⟨w, .row 9 51 E⟩ ∧
      A = (iCells aCells p.code o F j).map Cell.v ∧ E = (iCells eCells p.code o F j).map Cell.v)
theorem closed_right {p : Prg} {o : List Int} (h : closedB p o = true) : rightP p = true := by
  unfold closedB at h
  simp only [Bool.and_eq_true] at h
  exact h.1.1.1
theorem toAt_le (p : Prg) (i : Nat) : toAt p (leadL p) i ≤ p.code.length := by
  unfold toAt
  split
  · rename_i h
    rw [List.getD_eq_getElem?_getD, List.getElem?_eq_getElem h]
    have := (lead_bd (List.getElem_mem h)).2
    simp only [Option.getD_some]
    omega
  · omega
theorem toAt_gt {p : Prg} {i : Nat} (h : i < (leadL p).length) : (leadL p)[i] < toAt p (leadL p) i := by
  unfold toAt
  split
  · rename_i h2
    rw [List.getD_eq_getElem?_getD, List.getElem?_eq_getElem h2]
    exact inc_get (leadL_inc p) (List.getElem?_eq_getElem h) (List.getElem?_eq_getElem h2) (by omega)
  · exact (lead_bd (List.getElem_mem h)).2
/-- where a block stands in the code -/
theorem blk_span {p : Prg} {k : Nat} (h : k < (cutL p).length) : ∃ b F n, (cutL p)[k]? = some b ∧ b.from_ = ((F : Nat) : Int) ∧ b.to_ = ((F + n : Nat) : Int) ∧ 0 < n ∧ F + n ≤ p.code.length := by
  have hk : k < (leadL p).length := by simpa [cutL, cutF] using h
  have h1 := toAt_gt hk
  have h2 := toAt_le p k
  have h3 := (lead_bd (p := p) (List.getElem_mem hk)).1
  refine ⟨blkAt p (leadL p) k, (leadL p)[k].toNat, (toAt p (leadL p) k).toNat - (leadL p)[k].toNat, ?_, ?_, ?_, ?_, ?_⟩
  · unfold cutL cutF
    rw [List.getElem?_map, List.getElem?_range hk]; rfl
  · unfold blkAt
    simp only [List.getD_eq_getElem?_getD, List.getElem?_eq_getElem hk, Option.getD_some]
    omega
  · show toAt p (leadL p) k = _
    omega
  · omega
  · omega
theorem set_self {L : List V} {k : Nat} {x : V} (h : L[k]? = some x) : L.set k x = L := by
  obtain ⟨hk, rfl⟩ := List.getElem?_eq_some_iff.1 h
  exact List.set_getElem_self hk
theorem swE.keep {p : Prg} {o : List Int} {N : Nat} {s s' : S} (h : swE p o N s) (he : s'.env = s.env) (hs : ∀ b, b ≠ 17 → b ≠ 62 → b ≠ 80 → s'.st b = s.st b) : swE p o N s' :=
  ⟨by rw [he]; exact h.e2, by rw [hs 2 (by omega) (by omega) (by omega)]; exact h.t2, by rw [he]; exact h.e3, by rw [hs 3 (by omega) (by omega) (by omega)]; exact h.t3, by rw [he]; exact h.e4, by rw [hs 4 (by omega) (by omega) (by omega)]; exact h.t4,
    by rw [he]; exact h.e6, by rw [hs 6 (by omega) (by omega) (by omega)]; exact h.t6, by rw [he]; exact h.e22⟩
theorem iCells_v (f : Ins → List Int → Int → Int → List Cell) {code : List Ins} (o : List Int) {base n : Nat} {i : Ins} {l : List Cell} (h : code[base + n]? = some i) (hl : f i o ((base + n : Nat) : Int) (n : Int) = l) : (iCells f code o base n).map Cell.v ++ l.map Cell.v = (iCells f code o base (n + 1)).map Cell.v := by
  rw [iCells_succ f o h, List.map_append, hl]
set_option maxRecDepth 8000 in
set_option maxHeartbeats 16000000 in
theorem spw_impl : Impl Tryz.prog 31 spSpW := by
  refine impl_walk2 mixed cW1_ok eqT_ok Tryz.func31 rfl Tryz.ntmps31 (by kernel_rfl) ?_
  intro xs r h
  unfold spSpW at h
  simp only at h
  (try split at h) <;> try (cases (show none = some r from h); done)
  rename_i x y
  obtain ⟨p, hp, h3⟩ := Option.bind_eq_some_iff.1 h
  obtain ⟨o, ho, h4⟩ := Option.bind_eq_some_iff.1 h3
  clear h h3
  cases h4
  obtain ⟨rfl, hlen⟩ := ownOf_eq ho
  refine ⟨_, (SeesL.cons (prgOf_sees hp) .same).args, by simp [ownV], ?_⟩
  have hcl := closed_v hlen p
  have hto := take_iv hlen
  simp only [Prg.v] at hcl
  unfold swV
  cases hc : closedB p o
  · rw [hc] at hcl
    rw [if_neg (by simp)]
    simp only [go_sem, seval, eq_self, reduceCtorEq, Prg.v, ownV, cW1_at, spClosed_mv, hcl, hto, hlen, List.length_map]
    repeat' ((first | (refine AG_of ?_ ?_ <;> intro h) | (refine AB_of ?_ ?_ <;> intro h) | (refine A_draw_of [] [] (by kernel_rfl) ?_ <;> have h := mark)) <;> simp only [go_sem, seval, eq_self, reduceCtorEq, Prg.v, ownV, cW1_at, spClosed_mv, hcl, hto, hlen, List.length_map, h])
    all_goals (first | refine fin_ret ?_ | refine fin_normal ?_)
    all_goals simp only [resOf, Tryz.results31, Tryz.ntmps31, go_sem, seval, eq_self, reduceCtorEq]
    all_goals rfl
  rw [hc] at hcl
  rw [if_pos rfl]
  have hr := closed_right hc
  have hrl := right_len hr
  have hC := spCut1_v hr
  simp only [Prg.v] at hC
  simp only [go_sem, seval, eq_self, reduceCtorEq, Prg.v, ownV, cW1_at, spClosed_mv, hcl, hto, hlen, List.length_map]
  repeat' ((first | (refine AG_of ?_ ?_ <;> intro h) | (refine AB_of ?_ ?_ <;> intro h)) <;> simp only [go_sem, seval, eq_self, reduceCtorEq, Prg.v, ownV, cW1_at, spClosed_mv, hcl, hto, hlen, List.length_map, h])
  refine A_draw_of [17, 6] [17, 6, 1006017] (by kernel_rfl) ?_
  simp only [go_sem, seval, eq_self, reduceCtorEq, Prg.v, ownV, cW1_at, spCut1_mv, hC, hto, hlen, List.length_map]
  repeat' ((first | (refine AG_of ?_ ?_ <;> intro h) | (refine AB_of ?_ ?_ <;> intro h)) <;> simp only [go_sem, seval, eq_self, reduceCtorEq, Prg.v, ownV, cW1_at, spCut1_mv, hC, hto, hlen, List.length_map, h])
  refine A_loopG (swI p o) (fun s => (cutL p).length - (numOf (s.env 23)).toNat) ?_ ?_
  · exact ⟨⟨by simp [upd], by simp [upd, prgB, V.unfr, V.unfrL, V.cells], by simp [upd], by simp [upd, V.cells], by simp [upd], by simp [upd, z16, List.replicate], by simp [upd], by simp [upd, List.length_map], by simp [upd]⟩, 0, by simp [upd], by omega, .inl ⟨rfl, by simp [upd, wD_zero]⟩⟩
  intro s hs
  obtain ⟨hE, k, ek, hk, h17⟩ := hs
  obtain ⟨s1, hg1, hE1, ek1, h171⟩ : ∃ s1, Gh s s1 ∧ swE p o (cutL p).length s1 ∧ s1.env 23 = .s (.int .i64 k) ∧ s1.st 17 = ⟨1, .rowV 6 24 (wD p o k)⟩ := by
    rcases h17 with ⟨rfl, h17⟩ | h17
    · exact ⟨⟨s.env, upd s.st 17 ⟨1, .rowV 6 24 (wD p o 0)⟩⟩, Gh.open h17, hE.keep rfl (fun b hb _ _ => by simp only [upd]; rw [if_neg hb]), ek, by simp [upd]⟩
    · exact ⟨s, Gh.refl s, hE, ek, h17⟩
  have hDl := wD_len (o := o) hk
  have hNl : (cutL p).length ≤ 2000 := by
    have h1 := leadL_len p
    have h2 : (cutL p).length = (leadL p).length := by simp [cutL, cutF]
    omega
  rcases Nat.lt_or_ge k (cutL p).length with hlt | hge
  · refine ⟨s1, hg1, ?_⟩
    have hlt2 : (k : Int) < ((cutL p).length : Int) := by omega
    obtain ⟨b, F, n, qb, hF, hT, hn, hTc⟩ := blk_span hlt
    have hget := wD_get (o := o) qb
    have hself : (wD p o k).set k (blkW b (.s (.slice none 0 0)) (.s (.slice none 0 0))) = wD p o k := set_self hget
    have hlt3 : (k : Int) < ((wD p o k).length : Int) := by omega
    have hget2 : ∀ X, ((wD p o k).set k X)[k]? = some X := fun X => set_get (by omega) X
    have hwn : sbAt p o b = ⟨b.from_, b.to_, b.next, b.taken, iCells aCells p.code o F n, iCells eCells p.code o F n⟩ := by
      unfold sbAt
      rw [hF, hT, show ((F : Nat) : Int).toNat = F by omega, show (((F + n : Nat) : Int) - ((F : Nat) : Int)).toNat = n by omega]
    have hnext := wD_set (o := o) qb
    have hsw := wD_sw p o k
    have hsix := wD_six p o k
    have g0 : decide ((k : Int) < ((cutL p).length : Int)) = true := by simp; omega
    have z0 := Int.natCast_nonneg k
    have zF := Int.natCast_nonneg F
    have zn := Int.natCast_nonneg n
    have hFT : ((F : Nat) : Int) ≤ ((F + n : Nat) : Int) := by omega
    have hTc2 : ((F + n : Nat) : Int) ≤ (p.code.length : Int) := by omega
    have n2 : IntKind.i64.wrap ((k : Int) + 1) = (k + 1 : Nat) := by rw [w_i64 (by omega) (by omega)]; omega
    obtain ⟨C, hCe⟩ : ∃ C, ((p.code.map Ins.v).drop F).take n = C := ⟨_, rfl⟩
    have hCl : C.length = n := by rw [← hCe, List.length_take, List.length_drop, List.length_map]; omega
    have hCg : ∀ j, j < n → C[j]? = (p.code[F + j]?).map Ins.v := fun j hj => by
      rw [← hCe, List.getElem?_take, if_pos hj, List.getElem?_drop, List.getElem?_map]
    have hkN : k < (cutL p).length := hlt
    obtain ⟨e2, t2, e3, t3, e4, t4, e6, t6, e22⟩ := hE1
    obtain ⟨D, hD⟩ : ∃ D, wD p o k = D := ⟨_, rfl⟩
    rw [hD] at hDl hget hself hlt3 hget2 hnext hsw hsix h171
    simp only [go_sem, seval, eq_self, reduceCtorEq, e2, t2, e3, t3, e4, t4, e6, t6, e22, ek1, h171, g0, z0, zF, hFT, hTc2, hDl, hlt2, hget, prgB, Blk4.v, hF, hT, hCe, hCl, Int.toNat_natCast, Nat.add_sub_cancel_left, List.length_map]
    repeat' ((first | (refine AG_of ?_ ?_ <;> intro h) | (refine AB_of ?_ ?_ <;> intro h)) <;> simp only [go_sem, seval, eq_self, reduceCtorEq, e2, t2, e3, t3, e4, t4, e6, t6, e22, ek1, h171, g0, z0, zF, hFT, hTc2, hDl, hlt2, hget, prgB, Blk4.v, hF, hT, hCe, hCl, Int.toNat_natCast, Nat.add_sub_cancel_left, List.length_map, h])
    refine A_draw_of [] [99999] (by kernel_rfl) ?_
    simp only [go_sem, seval, eq_self, reduceCtorEq, e2, t2, e3, t3, e4, t4, e6, t6, e22, ek1, h171, g0, z0, zF, hFT, hTc2, hDl, hlt2, hget, prgB, Blk4.v, hF, hT, hCe, hCl, Int.toNat_natCast, Nat.add_sub_cancel_left, List.length_map]
    repeat' ((first | (refine AG_of ?_ ?_ <;> intro h) | (refine AB_of ?_ ?_ <;> intro h) | (refine A_draw_of [] [] (by kernel_rfl) ?_ <;> have h := mark)) <;> simp only [go_sem, seval, eq_self, reduceCtorEq, e2, t2, e3, t3, e4, t4, e6, t6, e22, ek1, h171, g0, z0, zF, hFT, hTc2, hDl, hlt2, hget, prgB, Blk4.v, hF, hT, hCe, hCl, Int.toNat_natCast, Nat.add_sub_cancel_left, List.length_map, h])
    refine A_loopG (swJ p o k b F n C) (fun s => n - (numOf (s.env 42)).toNat) ?_ ?_
    · exact ⟨⟨by simp [upd, e2], by simp [upd, t2, prgB], by simp [upd, e3], by simp [upd, t3], by simp [upd, e4], by simp [upd, t4], by simp [upd, e6], by simp [upd, t6], by simp [upd, e22]⟩, by simp [upd, ek1], by simp [upd], by simp [upd], by simp [upd], 0, by simp [upd], by omega, .inl ⟨rfl, by simp only [hD, hself]; simp [upd, h171]⟩⟩
    clear e2 t2 e3 t3 e4 t4 e6 t6 e22 h171 ek1 hg1 h17 hE
    have ekO := ek
    clear ek
    intro s2 hs
    obtain ⟨hE, ek, e8, e40, e41, j, ej, hj, hcase⟩ := hs
    rw [hD] at hcase
    have n3 : IntKind.i64.wrap ((j : Int) + 1) = (j + 1 : Nat) := by rw [w_i64 (by omega) (by omega)]; omega
    rcases Nat.lt_or_ge j n with hjn | hjn
    · refine ⟨s2, Gh.refl s2, ?_⟩
      obtain ⟨e2, t2, e3, t3, e4, t4, e6, t6, e22⟩ := hE
      obtain ⟨⟨op, d, a, b2, imm⟩, q⟩ : ∃ i, p.code[F + j]? = some i := ⟨p.code[F + j]'(by omega), List.getElem?_eq_getElem (by omega)⟩
      have qC := hCg j hjn
      rw [q] at qC
      simp only [Option.map_some, Ins.v] at qC
      have g1 : decide ((j : Int) < (n : Int)) = true := by simp; omega
      have zj := Int.natCast_nonneg j
      have hjC : (j : Int) < (C.length : Int) := by omega
      have wFj : IntKind.i64.wrap ((F : Int) + (j : Int)) = ((F + j : Nat) : Int) := by rw [w_i64 (by omega) (by omega)]; omega
      have hA := spAL_v hlen op d a b2 imm ((F + j : Nat) : Int) (j : Int)
      have hE := spEL_v hlen op d a b2 imm ((F + j : Nat) : Int) (j : Int)
      obtain ⟨la, hla⟩ : ∃ l, aCells ⟨op, d, a, b2, imm⟩ o ((F + j : Nat) : Int) (j : Int) = l := ⟨_, rfl⟩
      obtain ⟨le, hle⟩ : ∃ l, eCells ⟨op, d, a, b2, imm⟩ o ((F + j : Nat) : Int) (j : Int) = l := ⟨_, rfl⟩
      have lla : la.length ≤ 3 := by rw [← hla]; exact aCells_len _ _ _ _
      have lle : le.length ≤ 3 := by rw [← hle]; exact eCells_len _ _ _ _
      have sA := iCells_v aCells o q hla
      have sE := iCells_v eCells o q hle
      have fA := iCells_len aCells_len p.code o F j
      have fE := iCells_len eCells_len p.code o F j
      rw [hla] at hA
      rw [hle] at hE
      rcases hcase with ⟨hj0, h17⟩ | ⟨v, w, A, E, h17, t62, t80, hAe, hEe⟩
      · have iz1 : iCells aCells p.code o F j = [] := by rw [hj0]; rfl
        have iz2 : iCells eCells p.code o F j = [] := by rw [hj0]; rfl
        rw [iz1, List.map_nil, List.nil_append] at sA
        rw [iz2, List.map_nil, List.nil_append] at sE
        have f1 : la.length * 72 ≤ 140737488355328 := by omega
        have f2 : le.length * 72 ≤ 140737488355328 := by omega
        simp only [go_sem, seval, eq_self, reduceCtorEq, e2, t2, e3, t3, e4, t4, e6, t6, e22, ek, e8, e40, e41, ej, h17, g1, zj, qC, hjC, hget2, hDl, hlt2, z0, hto, hlen, blkW, hF, Int.toNat_natCast, List.length_set, List.length_map]
        repeat' ((first | (refine AG_of ?_ ?_ <;> intro h) | (refine AB_of ?_ ?_ <;> intro h)) <;> simp only [go_sem, seval, eq_self, reduceCtorEq, e2, t2, e3, t3, e4, t4, e6, t6, e22, ek, e8, e40, e41, ej, h17, g1, zj, qC, hjC, hget2, hDl, hlt2, z0, hto, hlen, blkW, hF, Int.toNat_natCast, List.length_set, List.length_map, h])
        refine A_draw_of [62] [62] (by kernel_rfl) ?_
        simp only [go_sem, seval, eq_self, reduceCtorEq, e2, t2, e3, t3, e4, t4, e6, t6, e22, ek, e8, e40, e41, ej, h17, cW1_at, spAL_mv, hA, wFj, f1, hget2, hDl, hlt2, z0, hto, hlen, blkW, hF, List.set_set, Int.toNat_natCast, List.length_set, List.length_map]
        repeat' ((first | (refine AG_of ?_ ?_ <;> intro h) | (refine AB_of ?_ ?_ <;> intro h)) <;> simp only [go_sem, seval, eq_self, reduceCtorEq, e2, t2, e3, t3, e4, t4, e6, t6, e22, ek, e8, e40, e41, ej, h17, cW1_at, spAL_mv, hA, wFj, f1, hget2, hDl, hlt2, z0, hto, hlen, blkW, hF, List.set_set, Int.toNat_natCast, List.length_set, List.length_map, h])
        refine A_draw_of [80] [80] (by kernel_rfl) ?_
        simp only [go_sem, seval, eq_self, reduceCtorEq, e2, t2, e3, t3, e4, t4, e6, t6, e22, ek, e8, e40, e41, ej, h17, cW1_at, spEL_mv, hE, wFj, f2, n3, hget2, hDl, hlt2, z0, hto, hlen, blkW, hF, List.set_set, Int.toNat_natCast, List.length_set, List.length_map]
        repeat' ((first | (refine AG_of ?_ ?_ <;> intro h) | (refine AB_of ?_ ?_ <;> intro h) | (refine A_draw_of [] [] (by kernel_rfl) ?_ <;> have h := mark)) <;> simp only [go_sem, seval, eq_self, reduceCtorEq, e2, t2, e3, t3, e4, t4, e6, t6, e22, ek, e8, e40, e41, ej, h17, cW1_at, spEL_mv, hE, wFj, f2, n3, hget2, hDl, hlt2, z0, hto, hlen, blkW, hF, List.set_set, Int.toNat_natCast, List.length_set, List.length_map, h])
        refine ⟨⟨⟨by simp [upd, e2], by simp [upd, t2], by simp [upd, e3], by simp [upd, t3], by simp [upd, e4], by simp [upd, t4], by simp [upd, e6], by simp [upd, t6], by simp [upd, e22]⟩, by simp [upd, ek], by simp [upd, e8], by simp [upd, e40], by simp [upd, e41], j + 1, by simp [upd], by omega, .inr ⟨(s2.st 62).ver + 1, (s2.st 80).ver + 1, la.map Cell.v, le.map Cell.v, ?_, by simp [upd], by simp [upd], sA, sE⟩⟩, by simp [upd, numOf, ej]; omega⟩
        simp [upd, hD, blkW, hF, List.length_map]
      · have hAl : A.length = (iCells aCells p.code o F j).length := by rw [hAe, List.length_map]
        have hEl : E.length = (iCells eCells p.code o F j).length := by rw [hEe, List.length_map]
        have f1 : (A.length + la.length) * 72 ≤ 140737488355328 := by omega
        have f2 : (E.length + le.length) * 72 ≤ 140737488355328 := by omega
        rw [← hAe] at sA
        rw [← hEe] at sE
        simp only [go_sem, seval, eq_self, reduceCtorEq, e2, t2, e3, t3, e4, t4, e6, t6, e22, ek, e8, e40, e41, ej, h17, t62, t80, g1, zj, qC, hjC, hget2, hDl, hlt2, z0, hto, hlen, blkW, hF, Int.toNat_natCast, List.length_set, List.length_map]
        repeat' ((first | (refine AG_of ?_ ?_ <;> intro h) | (refine AB_of ?_ ?_ <;> intro h)) <;> simp only [go_sem, seval, eq_self, reduceCtorEq, e2, t2, e3, t3, e4, t4, e6, t6, e22, ek, e8, e40, e41, ej, h17, t62, t80, g1, zj, qC, hjC, hget2, hDl, hlt2, z0, hto, hlen, blkW, hF, Int.toNat_natCast, List.length_set, List.length_map, h])
        refine A_draw_of [62] [62] (by kernel_rfl) ?_
        simp only [go_sem, seval, eq_self, reduceCtorEq, e2, t2, e3, t3, e4, t4, e6, t6, e22, ek, e8, e40, e41, ej, h17, t62, t80, cW1_at, spAL_mv, hA, wFj, f1, hget2, hDl, hlt2, z0, hto, hlen, blkW, hF, List.set_set, Int.toNat_natCast, List.length_set, List.length_map]
        repeat' ((first | (refine AG_of ?_ ?_ <;> intro h) | (refine AB_of ?_ ?_ <;> intro h)) <;> simp only [go_sem, seval, eq_self, reduceCtorEq, e2, t2, e3, t3, e4, t4, e6, t6, e22, ek, e8, e40, e41, ej, h17, t62, t80, cW1_at, spAL_mv, hA, wFj, f1, hget2, hDl, hlt2, z0, hto, hlen, blkW, hF, List.set_set, Int.toNat_natCast, List.length_set, List.length_map, h])
        refine A_draw_of [80] [80] (by kernel_rfl) ?_
        simp only [go_sem, seval, eq_self, reduceCtorEq, e2, t2, e3, t3, e4, t4, e6, t6, e22, ek, e8, e40, e41, ej, h17, t62, t80, cW1_at, spEL_mv, hE, wFj, f2, n3, hget2, hDl, hlt2, z0, hto, hlen, blkW, hF, List.set_set, Int.toNat_natCast, List.length_set, List.length_map]
        repeat' ((first | (refine AG_of ?_ ?_ <;> intro h) | (refine AB_of ?_ ?_ <;> intro h) | (refine A_draw_of [] [] (by kernel_rfl) ?_ <;> have h := mark)) <;> simp only [go_sem, seval, eq_self, reduceCtorEq, e2, t2, e3, t3, e4, t4, e6, t6, e22, ek, e8, e40, e41, ej, h17, t62, t80, cW1_at, spEL_mv, hE, wFj, f2, n3, hget2, hDl, hlt2, z0, hto, hlen, blkW, hF, List.set_set, Int.toNat_natCast, List.length_set, List.length_map, h])
        refine ⟨⟨⟨by simp [upd, e2], by simp [upd, t2], by simp [upd, e3], by simp [upd, t3], by simp [upd, e4], by simp [upd, t4], by simp [upd, e6], by simp [upd, t6], by simp [upd, e22]⟩, by simp [upd, ek], by simp [upd, e8], by simp [upd, e40], by simp [upd, e41], j + 1, by simp [upd], by omega, .inr ⟨v + 1, w + 1, A ++ la.map Cell.v, E ++ le.map Cell.v, ?_, by simp [upd], by simp [upd], sA, sE⟩⟩, by simp [upd, numOf, ej]; omega⟩
        simp [upd, hD, blkW, hF, List.length_map]
    · have hjn2 : j = n := by omega
      rcases hcase with ⟨hj0, h17⟩ | ⟨v, w, A, E, h17, t62, t80, hAe, hEe⟩
      · omega
      obtain ⟨st', hg, k17, kst⟩ := Gh.seal (env := s2.env) t62 t80 (by omega) (by omega) (by omega) h17 hsw hsix
      refine ⟨⟨s2.env, st'⟩, hg, ?_⟩
      obtain ⟨e2, t2, e3, t3, e4, t4, e6, t6, e22⟩ := hE.keep (s' := ⟨s2.env, st'⟩) rfl fun b h1 h2 h3 => kst b h2 h3 h1
      simp only at e2 t2 e3 t3 e4 t4 e6 t6 e22
      have g1 : decide ((j : Int) < (n : Int)) = false := by simp; omega
      have kw : D.set k (blkW b (.lst true 9 A) (.lst true 9 E)) = wD p o (k + 1) := by
        rw [← hnext, hwn, hAe, hEe, hjn2]; rfl
      rw [kw] at k17
      simp only [go_sem, seval, eq_self, reduceCtorEq, e2, t2, e3, t3, e4, t4, e6, t6, e22, ek, e8, e40, e41, ej, g1, n2]
      repeat' ((first | (refine AG_of ?_ ?_ <;> intro h) | (refine AB_of ?_ ?_ <;> intro h) | (refine A_draw_of [] [] (by kernel_rfl) ?_ <;> have h := mark)) <;> simp only [go_sem, seval, eq_self, reduceCtorEq, e2, t2, e3, t3, e4, t4, e6, t6, e22, ek, e8, e40, e41, ej, g1, n2, h])
      exact ⟨⟨⟨by simp [upd, e2], by simp [upd, t2], by simp [upd, e3], by simp [upd, t3], by simp [upd, e4], by simp [upd, t4], by simp [upd, e6], by simp [upd, t6], by simp [upd, e22]⟩, k + 1, by simp [upd], by omega, .inr k17⟩, by simp [upd, numOf, ekO]; omega⟩
  · have hkN : k = (cutL p).length := by omega
    rw [hkN, wD_full] at h171
    have hgc := Gh.close (env := s1.env) h171 (w_clo _)
    rw [w_unfr] at hgc
    refine ⟨_, hg1.trans hgc, ?_⟩
    obtain ⟨e2, t2, e3, t3, e4, t4, e6, t6, e22⟩ := hE1
    have g0 : decide ((k : Int) < ((cutL p).length : Int)) = false := by simp; omega
    have hsl := splitL_len p o
    simp only [go_sem, seval, eq_self, reduceCtorEq, e2, t2, e3, t3, e4, t4, e6, t6, e22, ek1, g0, hto, hlen, z16, List.replicate, List.length_map]
    repeat' ((first | (refine AG_of ?_ ?_ <;> intro h) | (refine AB_of ?_ ?_ <;> intro h) | (refine A_draw_of [] [] (by kernel_rfl) ?_ <;> have h := mark)) <;> simp only [go_sem, seval, eq_self, reduceCtorEq, e2, t2, e3, t3, e4, t4, e6, t6, e22, ek1, g0, hto, hlen, z16, List.replicate, List.length_map, h])
    all_goals (first | refine fin_ret ?_ | refine fin_normal ?_)
    all_goals simp only [resOf, Tryz.results31, Tryz.ntmps31, go_sem, seval, eq_self, reduceCtorEq, e4, hsl, hto, hlen, z16, List.replicate, List.length_map]
    all_goals rfl

def spSpO : Spec := ⟨[], fun xs => match xs with
  | [x] => (prgOf x).bind fun p => if p.code.length ≤ 1000000000 then some (swV p (ofO p)) else none
  | _ => none⟩
theorem spSpO_mv : spSpO.mv = [] := rfl
end Go.Proofs.YtkfmecmmbnehjaaGreat
