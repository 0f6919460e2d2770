/-
When the blocks of two splits are the same; the example of chapter 10. No condition.
-/
import Derived.Test.YtalcmfmhifcaeaaGreatBf
import Derived.Test.YtalcmfmhifcaeaaGreatCb
namespace Go.Proofs.YtalcmfmhifcaeaaGreat
set_option linter.unusedSimpArgs false
set_option linter.unusedVariables false

theorem blk4_ext (x y : Blk4) : x = y ↔ (x.from_ = y.from_ ∧ x.to_ = y.to_ ∧ x.next = y.next ∧ x.taken = y.taken) := by
  constructor
  · rintro rfl; simp
  · obtain ⟨a, b, c, d⟩ := x
    obtain ⟨a', b', c', d'⟩ := y
    rintro ⟨h1, h2, h3, h4⟩
    simp only at *
    subst h1; subst h2; subst h3; subst h4
    rfl
instance : DecidableEq Blk4 := fun x y => decidable_of_iff _ (blk4_ext x y).symm
def blk4Of : V → Option Blk4
  | .agg [.s (.int .i64 a), .s (.int .i64 b), .s (.int .i64 c), .s (.int .i64 d), .s (.slice none 0 0), .s (.slice none 0 0)] => some ⟨a, b, c, d⟩
  | _ => none
theorem blk4Of_eq {x : V} {i : Blk4} (h : blk4Of x = some i) : x = i.v := by
  unfold blk4Of at h
  split at h
  · cases h; rfl
  · cases h
theorem blk4Of_v (b : Blk4) : blk4Of b.v = some b := rfl
def z16 : List V := List.replicate 16 (.s (.int .i64 0))
def spSame4 : Spec := ⟨[], fun xs => match xs with
  | [.agg [x, .s (.int .i64 0), .s (.int .i64 0), .s (.int .i64 0), .s (.int .i64 0), .s (.int .i64 0), .s (.int .i64 0), .s (.int .i64 0), .s (.int .i64 0), .s (.int .i64 0), .s (.int .i64 0), .s (.int .i64 0), .s (.int .i64 0), .s (.int .i64 0), .s (.int .i64 0), .s (.int .i64 0), .s (.int .i64 0)], .agg [y, .s (.int .i64 0), .s (.int .i64 0), .s (.int .i64 0), .s (.int .i64 0), .s (.int .i64 0), .s (.int .i64 0), .s (.int .i64 0), .s (.int .i64 0), .s (.int .i64 0), .s (.int .i64 0), .s (.int .i64 0), .s (.int .i64 0), .s (.int .i64 0), .s (.int .i64 0), .s (.int .i64 0), .s (.int .i64 0)]] =>
    (lOf 6 x).bind fun l => (l.mapM blk4Of).bind fun a => (lOf 6 y).bind fun m => (m.mapM blk4Of).bind fun b => if a.length ≤ 1000000000 ∧ b.length ≤ 1000000000 then some (.s (.bool (decide (a = b)))) else none
  | _ => none⟩
theorem spSame4_mv : spSame4.mv = [] := rfl
def cB4 : Orc := upd (upd (upd cB3 17 (some spCut)) 21 (some spCut)) 23 (some spSameC)
theorem cB4_ok : ∀ g sp, cB4 g = some sp → Impl Tryz.prog g sp := orc_upd (orc_upd (orc_upd cB3_ok cut_impl) rcut_impl) sameC_impl
theorem cB4_at : cB4 17 = some spCut ∧ cB4 21 = some spCut ∧ cB4 23 = some spSameC ∧ cB4 36 = some spLead := ⟨rfl, rfl, rfl, rfl⟩
def splB (l : List V) : List V := .lst false 6 l :: z16
def same4I (a b : List Blk4) (s : S) : Prop := s.env 2 = .ptr 2 1 0 ∧ s.st 2 = ⟨1, .box (splB (a.map Blk4.v))⟩ ∧ s.env 3 = .ptr 3 1 0 ∧ s.st 3 = ⟨1, .box (splB (b.map Blk4.v))⟩ ∧ ∃ k : Nat, s.env 5 = .s (.int .i64 k) ∧ k ≤ a.length ∧ a.take k = b.take k
set_option maxRecDepth 4000 in
set_option maxHeartbeats 4000000 in
theorem same4_impl : Impl Tryz.prog 11 spSame4 := by
  refine impl_walk2 mixed cB4_ok eqT_ok Tryz.func11 rfl Tryz.ntmps11 (by kernel_rfl) ?_
  intro xs r h
  unfold spSame4 at h
  simp only at h
  (try split at h) <;> try (cases (show none = some r from h); done)
  rename_i x y
  obtain ⟨l, hl, h3⟩ := Option.bind_eq_some_iff.1 h
  obtain ⟨a, ha, h4⟩ := Option.bind_eq_some_iff.1 h3
  obtain ⟨m, hm, h5⟩ := Option.bind_eq_some_iff.1 h4
  obtain ⟨b, hb, h6⟩ := Option.bind_eq_some_iff.1 h5
  clear h h3 h4 h5
  have e1 := mapM_eq (fun _ _ => blk4Of_eq) ha
  have e2 := mapM_eq (fun _ _ => blk4Of_eq) hb
  subst e1
  subst e2
  split at h6
  case isFalse => cases h6
  rename_i hh
  obtain ⟨hla, hlb⟩ := hh
  cases h6
  refine ⟨_, (SeesL.cons (.agg (.cons (lOf_sees hl) .same)) (.cons (.agg (.cons (lOf_sees hm) .same)) .nil)).args, by simp, ?_⟩
  by_cases hab : a.length = b.length
  case neg =>
    have g0 : ((a.length : Int) != (b.length : Int)) = true := by simp; omega
    have e : decide (a = b) = false := by simp; rintro rfl; exact hab rfl
    rw [e]
    simp only [go_sem, seval, eq_self, reduceCtorEq, g0, List.length_map]
    repeat' ((first | (refine AG_of ?_ ?_ <;> intro h) | (refine AB_of ?_ ?_ <;> intro h) | (refine A_draw_of [] [] (by kernel_rfl) ?_ <;> have h := mark)) <;> simp only [go_sem, seval, eq_self, reduceCtorEq, g0, List.length_map, h])
    all_goals (first | refine fin_ret ?_ | refine fin_normal ?_)
    all_goals simp only [resOf, Tryz.results11, Tryz.ntmps11, go_sem, seval, eq_self, reduceCtorEq]
  have g0 : ((a.length : Int) != (b.length : Int)) = false := by simp [hab]
  simp only [go_sem, seval, eq_self, reduceCtorEq, g0, List.length_map]
  repeat' ((first | (refine AG_of ?_ ?_ <;> intro h) | (refine AB_of ?_ ?_ <;> intro h) | (refine A_draw_of [] [] (by kernel_rfl) ?_ <;> have h := mark)) <;> simp only [go_sem, seval, eq_self, reduceCtorEq, g0, List.length_map, h])
  refine A_loop (same4I a b) (fun s => a.length - (numOf (s.env 5)).toNat) ?_ ?_
  · refine ⟨by simp [upd], by simp [upd, splB, z16, V.unfr, V.unfrL, V.cells, List.replicate], by simp [upd], by simp [upd, splB, z16, V.unfr, V.unfrL, V.cells, List.replicate], 0, by simp [upd], by omega, by simp⟩
  intro s hs
  obtain ⟨e0, t0, e1, t1, k, ek, hk, htk⟩ := hs
  rcases Nat.lt_or_ge k a.length with hlt | hge
  · obtain ⟨u, q⟩ : ∃ i, a[k]? = some i := ⟨a[k], List.getElem?_eq_getElem hlt⟩
    obtain ⟨v, q'⟩ : ∃ i, b[k]? = some i := ⟨b[k]'(by omega), List.getElem?_eq_getElem (by omega)⟩
    have f0 : decide ((k : Int) < a.length) = true := by simp; omega
    have z0 := Int.natCast_nonneg k
    have n2 : IntKind.i64.wrap ((k : Int) + 1) = (k + 1 : Nat) := by rw [w_i64 (by omega) (by omega)]; omega
    have hne : u ≠ v → decide (a = b) = false := by
      intro hq
      simp only [decide_eq_false_iff_not]
      rintro rfl
      rw [q] at q'
      exact hq (Option.some.inj q')
    cases b1 : (u.from_ != v.from_)
    case true =>
      rw [hne (by rintro rfl; simp at b1)]
      simp only [go_sem, seval, eq_self, reduceCtorEq, e0, t0, e1, t1, ek, q, q', f0, z0, n2, b1, splB, z16, List.replicate, Blk4.v, cB4_at, spSameC_mv, spSameC_nil, Int.toNat_natCast, List.getElem?_map, List.length_map]
      repeat' ((first | (refine AG_of ?_ ?_ <;> intro h) | (refine AB_of ?_ ?_ <;> intro h) | (refine A_draw_of [] [] (by kernel_rfl) ?_ <;> have h := mark)) <;> simp only [go_sem, seval, eq_self, reduceCtorEq, e0, t0, e1, t1, ek, q, q', f0, z0, n2, b1, splB, z16, List.replicate, Blk4.v, cB4_at, spSameC_mv, spSameC_nil, Int.toNat_natCast, List.getElem?_map, List.length_map, h])
      all_goals (first | refine fin_ret ?_ | refine fin_normal ?_)
      all_goals simp only [resOf, Tryz.results11, Tryz.ntmps11, go_sem, seval, eq_self, reduceCtorEq]
    cases b2 : (u.to_ != v.to_)
    case true =>
      rw [hne (by rintro rfl; simp at b2)]
      simp only [go_sem, seval, eq_self, reduceCtorEq, e0, t0, e1, t1, ek, q, q', f0, z0, n2, b1, b2, splB, z16, List.replicate, Blk4.v, cB4_at, spSameC_mv, spSameC_nil, Int.toNat_natCast, List.getElem?_map, List.length_map]
      repeat' ((first | (refine AG_of ?_ ?_ <;> intro h) | (refine AB_of ?_ ?_ <;> intro h) | (refine A_draw_of [] [] (by kernel_rfl) ?_ <;> have h := mark)) <;> simp only [go_sem, seval, eq_self, reduceCtorEq, e0, t0, e1, t1, ek, q, q', f0, z0, n2, b1, b2, splB, z16, List.replicate, Blk4.v, cB4_at, spSameC_mv, spSameC_nil, Int.toNat_natCast, List.getElem?_map, List.length_map, h])
      all_goals (first | refine fin_ret ?_ | refine fin_normal ?_)
      all_goals simp only [resOf, Tryz.results11, Tryz.ntmps11, go_sem, seval, eq_self, reduceCtorEq]
    cases b3 : (u.next != v.next)
    case true =>
      rw [hne (by rintro rfl; simp at b3)]
      simp only [go_sem, seval, eq_self, reduceCtorEq, e0, t0, e1, t1, ek, q, q', f0, z0, n2, b1, b2, b3, splB, z16, List.replicate, Blk4.v, cB4_at, spSameC_mv, spSameC_nil, Int.toNat_natCast, List.getElem?_map, List.length_map]
      repeat' ((first | (refine AG_of ?_ ?_ <;> intro h) | (refine AB_of ?_ ?_ <;> intro h) | (refine A_draw_of [] [] (by kernel_rfl) ?_ <;> have h := mark)) <;> simp only [go_sem, seval, eq_self, reduceCtorEq, e0, t0, e1, t1, ek, q, q', f0, z0, n2, b1, b2, b3, splB, z16, List.replicate, Blk4.v, cB4_at, spSameC_mv, spSameC_nil, Int.toNat_natCast, List.getElem?_map, List.length_map, h])
      all_goals (first | refine fin_ret ?_ | refine fin_normal ?_)
      all_goals simp only [resOf, Tryz.results11, Tryz.ntmps11, go_sem, seval, eq_self, reduceCtorEq]
    cases b4 : (u.taken != v.taken)
    case true =>
      rw [hne (by rintro rfl; simp at b4)]
      simp only [go_sem, seval, eq_self, reduceCtorEq, e0, t0, e1, t1, ek, q, q', f0, z0, n2, b1, b2, b3, b4, splB, z16, List.replicate, Blk4.v, cB4_at, spSameC_mv, spSameC_nil, Int.toNat_natCast, List.getElem?_map, List.length_map]
      repeat' ((first | (refine AG_of ?_ ?_ <;> intro h) | (refine AB_of ?_ ?_ <;> intro h) | (refine A_draw_of [] [] (by kernel_rfl) ?_ <;> have h := mark)) <;> simp only [go_sem, seval, eq_self, reduceCtorEq, e0, t0, e1, t1, ek, q, q', f0, z0, n2, b1, b2, b3, b4, splB, z16, List.replicate, Blk4.v, cB4_at, spSameC_mv, spSameC_nil, Int.toNat_natCast, List.getElem?_map, List.length_map, h])
      all_goals (first | refine fin_ret ?_ | refine fin_normal ?_)
      all_goals simp only [resOf, Tryz.results11, Tryz.ntmps11, go_sem, seval, eq_self, reduceCtorEq]
    have huv : u = v := by
      simp only [bne_eq_false_iff_eq] at b1 b2 b3 b4
      exact (blk4_ext u v).2 ⟨b1, b2, b3, b4⟩
    simp only [go_sem, seval, eq_self, reduceCtorEq, e0, t0, e1, t1, ek, q, q', f0, z0, n2, b1, b2, b3, b4, splB, z16, List.replicate, Blk4.v, cB4_at, spSameC_mv, spSameC_nil, Int.toNat_natCast, List.getElem?_map, List.length_map]
    repeat' ((first | (refine AG_of ?_ ?_ <;> intro h) | (refine AB_of ?_ ?_ <;> intro h) | (refine A_draw_of [] [] (by kernel_rfl) ?_ <;> have h := mark)) <;> simp only [go_sem, seval, eq_self, reduceCtorEq, e0, t0, e1, t1, ek, q, q', f0, z0, n2, b1, b2, b3, b4, splB, z16, List.replicate, Blk4.v, cB4_at, spSameC_mv, spSameC_nil, Int.toNat_natCast, List.getElem?_map, List.length_map, h])
    exact ⟨⟨by simp [upd, e0], by simp [upd, t0, splB, z16, List.replicate], by simp [upd, e1], by simp [upd, t1, splB, z16, List.replicate], k + 1, by simp [upd], by omega, take_eq_get htk q q' huv⟩, by simp [upd, numOf, ek]; omega⟩
  · have hkl : k = a.length := by omega
    have f0 : decide ((k : Int) < a.length) = false := by simp; omega
    rw [hkl, List.take_length, hab, List.take_length] at htk
    have e : decide (a = b) = true := by simp [htk]
    rw [e]
    simp only [go_sem, seval, eq_self, reduceCtorEq, e0, t0, e1, t1, ek, f0, splB, z16, List.replicate, List.length_map]
    repeat' ((first | (refine AG_of ?_ ?_ <;> intro h) | (refine AB_of ?_ ?_ <;> intro h) | (refine A_draw_of [] [] (by kernel_rfl) ?_ <;> have h := mark)) <;> simp only [go_sem, seval, eq_self, reduceCtorEq, e0, t0, e1, t1, ek, f0, splB, z16, List.replicate, List.length_map, h])
    all_goals (first | refine fin_ret ?_ | refine fin_normal ?_)
    all_goals simp only [resOf, Tryz.results11, Tryz.ntmps11, go_sem, seval, eq_self, reduceCtorEq]

end Go.Proofs.YtalcmfmhifcaeaaGreat
