/-
Package owner by the plain reckoning: which registers, which owners may be, sides. No condition.
-/
import Derived.Test.YtkfmecmmbnehjaaGreatO3
namespace Go.Proofs.YtkfmecmmbnehjaaGreat
set_option linter.unusedSimpArgs false
set_option linter.unusedVariables false

/-- owners as a value -/
def ownOf : V → Option (List Int)
  | .agg l => (l.mapM i64Of).bind fun o => if o.length = 16 then some o else none
  | _ => none
def ownV (o : List Int) : V := .agg (o.map iv)
theorem ownOf_v {o : List Int} (h : o.length = 16) : ownOf (ownV o) = some o := by
  simp only [ownOf, ownV, mapM_of i64Of_v, Option.bind_some, if_pos h]
theorem ownOf_eq {x : V} {o : List Int} (h : ownOf x = some o) : x = ownV o ∧ o.length = 16 := by
  unfold ownOf at h
  split at h
  · obtain ⟨c, h1, h2⟩ := Option.bind_eq_some_iff.1 h
    split at h2
    · cases h2
      rename_i h3
      exact ⟨by rw [mapM_eq (fun _ _ => i64Of_eq) h1]; rfl, h3⟩
    · cases h2
  · cases h
theorem mapM_iv (st : Nat → Blk) (n : Nat) (o : List Int) : (o.map iv).mapM (expV st (n + 1)) = some (o.map iv) := by
  induction o with
  | nil => simp
  | cons a o ih => rw [List.map_cons, mapM_cons', ih]; rfl
theorem unfrL_iv (o : List Int) : V.unfrL (o.map iv) = o.map iv := by
  induction o with
  | nil => rfl
  | cons a o ih => rw [List.map_cons, V.unfrL, ih]; rfl
theorem mapMr_iv (st : Nat → Blk) (n : Nat) (o : List Int) : (o.map iv).mapM (resV st (n + 1)) = some (o.map iv) := by
  induction o with
  | nil => simp
  | cons a o ih => rw [List.map_cons, mapM_cons', ih]; rfl
theorem apart_iv (st : Nat → Blk) (bs : List Nat) (n : Nat) (o : List Int) : (o.map iv).all (apartV st bs (n + 1)) = true := by
  rw [List.all_eq_true]; intro x hx; obtain ⟨b, _, rfl⟩ := List.mem_map.1 hx; rfl
attribute [go_sem high] mapM_iv unfrL_iv mapMr_iv apart_iv
def oAt (o : List Int) (r : Int) : Int := o.getD r.toNat 0
theorem drop_iv {o : List Int} {k : Nat} (h : k < o.length) : (o.map iv).drop k = .s (.int .i64 (oAt o k)) :: (o.map iv).drop (k + 1) := by
  rw [List.drop_eq_getElem_cons (by simpa using h)]
  simp [iv, oAt, List.getD_eq_getElem?_getD, List.getElem?_eq_getElem h]

def reckB (i : Ins) : Bool := decide (1 ≤ form i.op) && decide (form i.op ≤ 3)
def reachB (i : Ins) : Bool := form i.op == 4 || form i.op == 5
def onEB (i : Ins) (o : List Int) : Bool := (readsL i).any fun r => oAt o r == 2
def wantsB (i : Ins) (o : List Int) : Bool := (reachB i && oAt o i.a == 2) || (reckB i && oAt o i.d == 1 && onEB i o)

def spReck : Spec := ⟨[], fun xs => match xs with
  | [.agg [.s (.int .i64 op), .s (.int .i64 d), .s (.int .i64 a), .s (.int .i64 b), .s (.int .i64 imm)]] => some (.s (.bool (reckB ⟨op, d, a, b, imm⟩)))
  | _ => none⟩
def spReach : Spec := ⟨[], fun xs => match xs with
  | [.agg [.s (.int .i64 op), .s (.int .i64 d), .s (.int .i64 a), .s (.int .i64 b), .s (.int .i64 imm)]] => some (.s (.bool (reachB ⟨op, d, a, b, imm⟩)))
  | _ => none⟩
theorem reck_impl : Impl Tryz.prog 101 spReck := by
  refine impl_walk mixed cImg0_ok eqT_ok Tryz.func101 rfl Tryz.ntmps101 (by kernel_rfl) ?_
  intro xs r h
  unfold spReck at h
  simp only at h
  (try split at h) <;> try (cases (show none = some r from h); done)
  rename_i op d a b imm
  cases h
  refine ⟨by simp, ?_⟩
  simp only [go_sem, seval, eq_self, reduceCtorEq, cImg0_at, spForm_mv, spForm_fn]
  repeat' ((first | (refine AG_of ?_ ?_ <;> intro h) | (refine AB_of ?_ ?_ <;> intro h) | (refine A_draw_of [] [] (by kernel_rfl) ?_ <;> have h := mark)) <;> simp only [go_sem, seval, eq_self, reduceCtorEq, cImg0_at, spForm_mv, spForm_fn, h])
  all_goals (first | refine fin_ret ?_ | refine fin_normal ?_)
  all_goals simp only [resOf, Tryz.results101, Tryz.ntmps101, go_sem, seval, eq_self, reduceCtorEq]
  all_goals (simp_all [reckB] <;> try omega)
theorem reach_impl : Impl Tryz.prog 100 spReach := by
  refine impl_walk mixed cImg0_ok eqT_ok Tryz.func100 rfl Tryz.ntmps100 (by kernel_rfl) ?_
  intro xs r h
  unfold spReach at h
  simp only at h
  (try split at h) <;> try (cases (show none = some r from h); done)
  rename_i op d a b imm
  cases h
  refine ⟨by simp, ?_⟩
  simp only [go_sem, seval, eq_self, reduceCtorEq, cImg0_at, spForm_mv, spForm_fn]
  repeat' ((first | (refine AG_of ?_ ?_ <;> intro h) | (refine AB_of ?_ ?_ <;> intro h) | (refine A_draw_of [] [] (by kernel_rfl) ?_ <;> have h := mark)) <;> simp only [go_sem, seval, eq_self, reduceCtorEq, cImg0_at, spForm_mv, spForm_fn, h])
  all_goals (first | refine fin_ret ?_ | refine fin_normal ?_)
  all_goals simp only [resOf, Tryz.results100, Tryz.ntmps100, go_sem, seval, eq_self, reduceCtorEq]
  all_goals simp_all [reachB]

/-- a register that is read, and an owner behind a pointer -/
def spOnE1 : Spec := ⟨[], fun xs => match xs with
  | [.s (.int .i64 r), .ept q] => (ownOf (.agg q)).bind fun o => if 0 ≤ r ∧ r < 16 then some (.s (.bool (oAt o r == 2))) else none
  | _ => none⟩
theorem onE1_impl : Impl Tryz.prog 114 spOnE1 := by
  refine impl_walk mixed cImg0_ok eqT_ok Tryz.func114 rfl Tryz.ntmps114 (by kernel_rfl) ?_
  intro xs r h
  unfold spOnE1 at h
  simp only at h
  (try split at h) <;> try (cases (show none = some r from h); done)
  rename_i r q
  obtain ⟨o, ho, h2⟩ := Option.bind_eq_some_iff.1 h
  clear h
  split at h2
  case isFalse => cases h2
  rename_i hr
  cases h2
  obtain ⟨e, hlen⟩ := ownOf_eq ho
  simp only [ownV, V.agg.injEq] at e
  subst e
  clear ho
  obtain ⟨k, rfl⟩ : ∃ k : Nat, r = k := ⟨r.toNat, by omega⟩
  obtain ⟨h0, h1⟩ := hr
  have hd := drop_iv (o := o) (k := k) (by omega)
  refine ⟨by simp, ?_⟩
  simp only [go_sem, seval, eq_self, reduceCtorEq, h0, h1, hd, Int.toNat_natCast, Nat.mul_one, Nat.zero_add]
  repeat' ((first | (refine AG_of ?_ ?_ <;> intro h) | (refine AB_of ?_ ?_ <;> intro h) | (refine A_draw_of [] [] (by kernel_rfl) ?_ <;> have h := mark)) <;> simp only [go_sem, seval, eq_self, reduceCtorEq, h0, h1, hd, Int.toNat_natCast, Nat.mul_one, Nat.zero_add, h])
  all_goals (first | refine fin_ret ?_ | refine fin_normal ?_)
  all_goals simp only [resOf, Tryz.results114, Tryz.ntmps114, go_sem, seval, eq_self, reduceCtorEq]

theorem spOnE1_v {o : List Int} {r : Int} (ho : o.length = 16) (h0 : 0 ≤ r) (h1 : r < 16) : spOnE1.fn [iv r, .ept (o.map iv)] = some (.s (.bool (oAt o r == 2))) := by
  have : ownOf (.agg (o.map iv)) = some o := ownOf_v ho
  simp only [spOnE1, iv, this, Option.bind_some]
  rw [if_pos ⟨h0, h1⟩]
theorem reads_bd {i : Ins} {r : Int} (h : r ∈ readsL i) : 1 ≤ r ∧ r < 16 := by
  unfold readsL at h
  split at h
  · rename_i hr
    have hf := right_fit hr
    have := hf.a0; have := hf.a1; have := hf.b0; have := hf.b1
    rcases List.mem_append.1 h with h | h
    · split at h
      · rename_i hc
        simp only [Bool.and_eq_true, Bool.not_eq_true', beq_eq_false_iff_ne] at hc
        simp only [List.mem_singleton] at h
        subst h
        exact ⟨by omega, by omega⟩
      · cases h
    · split at h
      · rename_i hc
        simp only [Bool.and_eq_true, Bool.not_eq_true', beq_eq_false_iff_ne] at hc
        simp only [List.mem_singleton] at h
        subst h
        exact ⟨by omega, by omega⟩
      · cases h
  · cases h
theorem reads_len (i : Ins) : (readsL i).length ≤ 2 := by
  unfold readsL
  split
  · rw [List.length_append]
    split <;> split <;> simp
  · simp
def cOwn1 : Orc := upd (upd (upd cImg8 114 (some spOnE1)) 101 (some spReck)) 100 (some spReach)
theorem cOwn1_ok : ∀ g sp, cOwn1 g = some sp → Impl Tryz.prog g sp := orc_upd (orc_upd (orc_upd cImg8_ok onE1_impl) reck_impl) reach_impl
theorem cOwn1_e : cOwn1 114 = some spOnE1 := rfl
def cOwn2 : Orc := upd cOwn1 72 (some (spContFI cOwn1))
theorem cOwn2_ok : ∀ g sp, cOwn2 g = some sp → Impl Tryz.prog g sp := orc_upd cOwn1_ok (contFI_impl cOwn1_ok)
theorem cOwn2_at : cOwn2 72 = some (spContFI cOwn1) ∧ cOwn2 112 = some spReads ∧ cOwn2 101 = some spReck ∧ cOwn2 100 = some spReach := ⟨rfl, rfl, rfl, rfl⟩
theorem spReck_mv : spReck.mv = [] := rfl
theorem spReck_fn (op d a b imm : Int) : spReck.fn [.agg [.s (.int .i64 op), .s (.int .i64 d), .s (.int .i64 a), .s (.int .i64 b), .s (.int .i64 imm)]] = some (.s (.bool (reckB ⟨op, d, a, b, imm⟩))) := rfl
theorem spReach_mv : spReach.mv = [] := rfl
theorem spReach_fn (op d a b imm : Int) : spReach.fn [.agg [.s (.int .i64 op), .s (.int .i64 d), .s (.int .i64 a), .s (.int .i64 b), .s (.int .i64 imm)]] = some (.s (.bool (reachB ⟨op, d, a, b, imm⟩))) := rfl
/-- what Reads answers: nothing, or a row -/
theorem reads_v (op d a b imm : Int) {l : List Int} (h : readsL ⟨op, d, a, b, imm⟩ = l) : spReads.fn [.agg [.s (.int .i64 op), .s (.int .i64 d), .s (.int .i64 a), .s (.int .i64 b), .s (.int .i64 imm)]] = some (if l.isEmpty then .s (.slice none 0 0) else .own 1 3 (l.map iv)) := by
  subst h
  simp only [spReads, ownOr]
  cases readsL ⟨op, d, a, b, imm⟩ <;> rfl
theorem contFI_nil {C : Orc} {g : Nat} {caps : List V} {sp : Spec} (hC : C g = some sp) (hmv : sp.mv = []) (hcaps : capsOk caps = true) : (spContFI C).fn [.s (.slice none 0 0), .fn g caps] = some (.s (.bool false)) := by
  have h0 : ((0 : Nat) : Int) ≤ 1000000000 := by omega
  simp [spContFI, lOf, hcaps, mvOk_mk hC hmv, idxV]

def spOnE : Spec := ⟨[], fun xs => match xs with
  | [.agg [.s (.int .i64 op), .s (.int .i64 d), .s (.int .i64 a), .s (.int .i64 b), .s (.int .i64 imm)], y] => (ownOf y).bind fun o => some (.s (.bool (onEB ⟨op, d, a, b, imm⟩ o)))
  | _ => none⟩
theorem onE_impl : Impl Tryz.prog 102 spOnE := by
  refine impl_walk mixed cOwn2_ok eqT_ok Tryz.func102 rfl Tryz.ntmps102 (by kernel_rfl) ?_
  intro xs r h
  unfold spOnE at h
  simp only at h
  (try split at h) <;> try (cases (show none = some r from h); done)
  rename_i op d a b imm y
  obtain ⟨o, ho, h2⟩ := Option.bind_eq_some_iff.1 h
  clear h
  cases h2
  obtain ⟨rfl, hlen⟩ := ownOf_eq ho
  clear ho
  obtain ⟨l, hl⟩ : ∃ l, readsL ⟨op, d, a, b, imm⟩ = l := ⟨_, rfl⟩
  have hR := reads_v op d a b imm hl
  have hc : (spContFI cOwn1).fn [.lst false 1 (l.map iv), .fn 114 [.ept (o.map iv)]] = some (.s (.bool (l.any fun r => oAt o r == 2))) := by
    refine contFI_v cOwn1_e rfl rfl _ l (by have := reads_len ⟨op, d, a, b, imm⟩; rw [hl] at this; omega) fun r hr => ?_
    have := reads_bd (i := ⟨op, d, a, b, imm⟩) (r := r) (by rw [hl]; exact hr)
    exact spOnE1_v hlen (by omega) (by omega)
  have hc0 : (spContFI cOwn1).fn [.s (.slice none 0 0), .fn 114 [.ept (o.map iv)]] = some (.s (.bool false)) := contFI_nil cOwn1_e rfl rfl
  refine ⟨by simp [ownV], ?_⟩
  unfold onEB
  rw [hl]
  clear hl
  cases l with
  | nil =>
    simp only [List.isEmpty_nil, if_true] at hR
    simp only [go_sem, seval, eq_self, reduceCtorEq, cOwn2_at, spReads_mv, hR, spContFI_mv, hc0, ownV]
    repeat' ((first | (refine AG_of ?_ ?_ <;> intro h) | (refine AB_of ?_ ?_ <;> intro h) | (refine A_draw_of [] [] (by kernel_rfl) ?_ <;> have h := mark)) <;> simp only [go_sem, seval, eq_self, reduceCtorEq, cOwn2_at, spReads_mv, hR, spContFI_mv, hc0, ownV, h])
    all_goals (first | refine fin_ret ?_ | refine fin_normal ?_)
    all_goals simp only [resOf, Tryz.results102, Tryz.ntmps102, go_sem, seval, eq_self, reduceCtorEq]
    all_goals rfl
  | cons r l =>
    simp only [List.isEmpty_cons, Bool.false_eq_true, if_false, List.map_cons] at hR hc
    simp only [go_sem, seval, eq_self, reduceCtorEq, cOwn2_at, spReads_mv, hR, spContFI_mv, hc, ownV]
    repeat' ((first | (refine AG_of ?_ ?_ <;> intro h) | (refine AB_of ?_ ?_ <;> intro h) | (refine A_draw_of [] [] (by kernel_rfl) ?_ <;> have h := mark)) <;> simp only [go_sem, seval, eq_self, reduceCtorEq, cOwn2_at, spReads_mv, hR, spContFI_mv, hc, ownV, h])
    all_goals (first | refine fin_ret ?_ | refine fin_normal ?_)
    all_goals simp only [resOf, Tryz.results102, Tryz.ntmps102, go_sem, seval, eq_self, reduceCtorEq]

def cOwn3 : Orc := upd cOwn2 102 (some spOnE)
theorem cOwn3_ok : ∀ g sp, cOwn3 g = some sp → Impl Tryz.prog g sp := orc_upd cOwn2_ok onE_impl
theorem cOwn3_at : cOwn3 102 = some spOnE ∧ cOwn3 101 = some spReck ∧ cOwn3 100 = some spReach ∧ cOwn3 71 = some spRightP := ⟨rfl, rfl, rfl, rfl⟩
theorem spOnE_mv : spOnE.mv = [] := rfl
theorem spOnE_v {o : List Int} (ho : o.length = 16) (op d a b imm : Int) : spOnE.fn [.agg [.s (.int .i64 op), .s (.int .i64 d), .s (.int .i64 a), .s (.int .i64 b), .s (.int .i64 imm)], .agg (o.map iv)] = some (.s (.bool (onEB ⟨op, d, a, b, imm⟩ o))) := by
  have : ownOf (.agg (o.map iv)) = some o := ownOf_v ho
  simp only [spOnE, this, Option.bind_some]
theorem take_iv {o : List Int} (h : o.length = 16) : (o.map iv).take 16 = o.map iv := List.take_of_length_le (by simp [h])
def spWants : Spec := ⟨[], fun xs => match xs with
  | [.agg [.s (.int .i64 op), .s (.int .i64 d), .s (.int .i64 a), .s (.int .i64 b), .s (.int .i64 imm)], y] => (ownOf y).bind fun o => if rightB ⟨op, d, a, b, imm⟩ = true then some (.s (.bool (wantsB ⟨op, d, a, b, imm⟩ o))) else none
  | _ => none⟩
set_option maxHeartbeats 2000000 in
theorem wants_impl : Impl Tryz.prog 76 spWants := by
  refine impl_walk mixed cOwn3_ok eqT_ok Tryz.func76 rfl Tryz.ntmps76 (by kernel_rfl) ?_
  intro xs r h
  unfold spWants at h
  simp only at h
  (try split at h) <;> try (cases (show none = some r from h); done)
  rename_i op d a b imm y
  obtain ⟨o, ho, h2⟩ := Option.bind_eq_some_iff.1 h
  clear h
  split at h2
  case isFalse => cases h2
  rename_i hright
  cases h2
  obtain ⟨rfl, hlen⟩ := ownOf_eq ho
  clear ho
  have hf := right_fit hright
  obtain ⟨ka, rfl⟩ : ∃ k : Nat, a = k := ⟨a.toNat, by have := hf.a0; simp only at this; omega⟩
  obtain ⟨kd, rfl⟩ : ∃ k : Nat, d = k := ⟨d.toNat, by have := hf.d0; simp only at this; omega⟩
  have ha1 : (ka : Int) < 16 := by have := hf.a1; simp only at this; omega
  have hd1 : (kd : Int) < 16 := by have := hf.d1; simp only at this; omega
  have hz1 := Int.natCast_nonneg ka
  have hz2 := Int.natCast_nonneg kd
  have hda := drop_iv (o := o) (k := ka) (by omega)
  have hdd := drop_iv (o := o) (k := kd) (by omega)
  have ht := take_iv hlen
  have hE := spOnE_v hlen op kd ka b imm
  refine ⟨by simp [ownV], ?_⟩
  simp only [go_sem, seval, eq_self, reduceCtorEq, cOwn3_at, spReck_mv, spReck_fn, spReach_mv, spReach_fn, spOnE_mv, hE, ownV, hz1, hz2, ha1, hd1, hda, hdd, ht, hlen, List.length_map, Int.toNat_natCast, Nat.mul_one, Nat.zero_add]
  repeat' ((first | (refine AG_of ?_ ?_ <;> intro h) | (refine AB_of ?_ ?_ <;> intro h) | (refine A_draw_of [] [] (by kernel_rfl) ?_ <;> have h := mark)) <;> simp only [go_sem, seval, eq_self, reduceCtorEq, cOwn3_at, spReck_mv, spReck_fn, spReach_mv, spReach_fn, spOnE_mv, hE, ownV, hz1, hz2, ha1, hd1, hda, hdd, ht, hlen, List.length_map, Int.toNat_natCast, Nat.mul_one, Nat.zero_add, h])
  all_goals (first | refine fin_ret ?_ | refine fin_normal ?_)
  all_goals simp only [resOf, Tryz.results76, Tryz.ntmps76, go_sem, seval, eq_self, reduceCtorEq]
  all_goals (simp only [wantsB, V.s.injEq, Value.bool.injEq]; simp_all)

/-- no side that is one -/
def spCl1 : Spec := ⟨[], fun xs => match xs with
  | [.s (.int .i64 x)] => some (.s (.bool (x != 1 && x != 2)))
  | _ => none⟩
theorem cl1_impl : Impl Tryz.prog 73 spCl1 := by
  refine impl_walk mixed cOwn3_ok eqT_ok Tryz.func73 rfl Tryz.ntmps73 (by kernel_rfl) ?_
  intro xs r h
  unfold spCl1 at h
  simp only at h
  (try split at h) <;> try (cases (show none = some r from h); done)
  rename_i x
  cases h
  refine ⟨by simp, ?_⟩
  simp only [go_sem, seval, eq_self, reduceCtorEq]
  repeat' ((first | (refine AG_of ?_ ?_ <;> intro h) | (refine AB_of ?_ ?_ <;> intro h) | (refine A_draw_of [] [] (by kernel_rfl) ?_ <;> have h := mark)) <;> simp only [go_sem, seval, eq_self, reduceCtorEq, h])
  all_goals (first | refine fin_ret ?_ | refine fin_normal ?_)
  all_goals simp only [resOf, Tryz.results73, Tryz.ntmps73, go_sem, seval, eq_self, reduceCtorEq]
  all_goals simp_all
def spCl2 : Spec := ⟨[], fun xs => match xs with
  | [.agg [.s (.int .i64 op), .s (.int .i64 d), .s (.int .i64 a), .s (.int .i64 b), .s (.int .i64 imm)], .ept q] => (ownOf (.agg q)).bind fun o => if rightB ⟨op, d, a, b, imm⟩ = true then some (.s (.bool (wantsB ⟨op, d, a, b, imm⟩ o))) else none
  | _ => none⟩
def cOwn4 : Orc := upd cOwn3 76 (some spWants)
theorem cOwn4_ok : ∀ g sp, cOwn4 g = some sp → Impl Tryz.prog g sp := orc_upd cOwn3_ok wants_impl
theorem cOwn4_at : cOwn4 76 = some spWants := rfl
theorem spWants_mv : spWants.mv = [] := rfl
theorem spWants_v {o : List Int} (ho : o.length = 16) {op d a b imm : Int} (h : rightB ⟨op, d, a, b, imm⟩ = true) : spWants.fn [.agg [.s (.int .i64 op), .s (.int .i64 d), .s (.int .i64 a), .s (.int .i64 b), .s (.int .i64 imm)], .agg (o.map iv)] = some (.s (.bool (wantsB ⟨op, d, a, b, imm⟩ o))) := by
  have : ownOf (.agg (o.map iv)) = some o := ownOf_v ho
  simp only [spWants, this, Option.bind_some, if_pos h]
theorem cl2_impl : Impl Tryz.prog 75 spCl2 := by
  refine impl_walk mixed cOwn4_ok eqT_ok Tryz.func75 rfl Tryz.ntmps75 (by kernel_rfl) ?_
  intro xs r h
  unfold spCl2 at h
  simp only at h
  (try split at h) <;> try (cases (show none = some r from h); done)
  rename_i op d a b imm q
  obtain ⟨o, ho, h2⟩ := Option.bind_eq_some_iff.1 h
  clear h
  split at h2
  case isFalse => cases h2
  rename_i hright
  cases h2
  obtain ⟨e, hlen⟩ := ownOf_eq ho
  simp only [ownV, V.agg.injEq] at e
  subst e
  clear ho
  have hW := spWants_v hlen hright
  have ht := take_iv hlen
  refine ⟨by simp, ?_⟩
  simp only [go_sem, seval, eq_self, reduceCtorEq, cOwn4_at, spWants_mv, hW, ht, hlen, List.length_map]
  repeat' ((first | (refine AG_of ?_ ?_ <;> intro h) | (refine AB_of ?_ ?_ <;> intro h) | (refine A_draw_of [] [] (by kernel_rfl) ?_ <;> have h := mark)) <;> simp only [go_sem, seval, eq_self, reduceCtorEq, cOwn4_at, spWants_mv, hW, ht, hlen, List.length_map, h])
  all_goals (first | refine fin_ret ?_ | refine fin_normal ?_)
  all_goals simp only [resOf, Tryz.results75, Tryz.ntmps75, go_sem, seval, eq_self, reduceCtorEq]
end Go.Proofs.YtkfmecmmbnehjaaGreat
