/-
Owners given: owner.give, the reference's owned and Side, by the plain reckoning. No condition.
-/
import Derived.Test.YtalcmfmhifcaeaaGreatO6
namespace Go.Proofs.YtalcmfmhifcaeaaGreat
set_option linter.unusedSimpArgs false
set_option linter.unusedVariables false

theorem movC_iv (st : Nat → Blk) (o : List Int) : movC st (o.map iv) = some (o.map iv, []) := by
  induction o with
  | nil => rfl
  | cons a o ih => rw [List.map_cons, movC, ih]; rfl
theorem inC_iv (t j : Nat) (o : List Int) : inC t j (o.map iv) = o.map iv := by
  induction o generalizing j with
  | nil => rfl
  | cons a o ih => simp [inC, iv]; exact ih (j + 1)
theorem hang_iv (st : Nat → Blk) (b j : Nat) (o : List Int) : hang st b j (o.map iv) = (o.map iv, []) := by
  induction o generalizing j with
  | nil => rfl
  | cons a o ih => simp [hang, iv]; rw [ih (j + 1)]; exact ⟨rfl, rfl⟩
attribute [go_sem high] movC_iv inC_iv hang_iv List.not_mem_nil not_false_eq_true List.mem_cons
theorem spl_iv {o : List Int} {k : Nat} (h : k < o.length) (v : Int) : (o.map iv).take k ++ .s (.int .i64 v) :: (o.map iv).drop (k + 1) = (o.set k v).map iv := by
  rw [List.map_set, List.set_eq_take_append_cons_drop, if_pos (by simpa using h)]
  rfl

def giveO (i : Ins) (o : List Int) : List Int :=
  if reachB i = true then (if i.a == 0 then o else o.set i.a.toNat 1) else
  if (reckB i && oAt o i.d == 1) = true then (readsL i).foldl (fun o r => o.set r.toNat 1) o else o
theorem fold_len (l : List Int) (o : List Int) : (l.foldl (fun o r => o.set r.toNat 1) o).length = o.length := by
  induction l generalizing o with
  | nil => rfl
  | cons r l ih => rw [List.foldl_cons, ih, List.length_set]
theorem give_len (i : Ins) (o : List Int) : (giveO i o).length = o.length := by
  unfold giveO
  (repeat' split) <;> simp [fold_len]
def spGive : Spec := ⟨[false, true], fun xs => match xs with
  | [.agg [.s (.int .i64 op), .s (.int .i64 d), .s (.int .i64 a), .s (.int .i64 b), .s (.int .i64 imm)], .obx q] => (ownOf (.agg q)).bind fun o => if rightB ⟨op, d, a, b, imm⟩ = true then some (.io 1 (.tup []) (.obx ((giveO ⟨op, d, a, b, imm⟩ o).map iv))) else none
  | _ => none⟩
def cGive : Orc := upd cRef1 68 (some spReadsL)
theorem cGive_ok : ∀ g sp, cGive g = some sp → Impl Tryz.prog g sp := orc_upd cRef1_ok (impl_lst reads_impl)
theorem cGive_at : cGive 68 = some spReadsL ∧ cGive 67 = some spReck ∧ cGive 66 = some spReach := ⟨rfl, rfl, rfl⟩
set_option maxHeartbeats 4000000 in
theorem give_impl : Impl Tryz.prog 27 spGive := by
  refine impl_walk mixed cGive_ok eqT_ok Tryz.func27 rfl Tryz.ntmps27 (by kernel_rfl) ?_
  intro xs r h
  unfold spGive at h
  simp only at h
  (try split at h) <;> try (cases (show none = some r from h); done)
  rename_i op d a b imm q
  obtain ⟨o, ho, h2⟩ := Option.bind_eq_some_iff.1 h
  clear h
  split at h2
  case isFalse => cases h2
  rename_i hright
  cases h2
  obtain ⟨e, hlen⟩ := ownOf_eq ho
  simp only [ownV, V.agg.injEq] at e
  subst e
  clear ho
  have hf := right_fit hright
  obtain ⟨ka, rfl⟩ : ∃ k : Nat, a = k := ⟨a.toNat, by have := hf.a0; simp only at this; omega⟩
  obtain ⟨kd, rfl⟩ : ∃ k : Nat, d = k := ⟨d.toNat, by have := hf.d0; simp only at this; omega⟩
  have ha1 : (ka : Int) < 16 := by have := hf.a1; simp only at this; omega
  have hd1 : (kd : Int) < 16 := by have := hf.d1; simp only at this; omega
  have hz1 := Int.natCast_nonneg ka
  have hz2 := Int.natCast_nonneg kd
  have hka : ka + 1 ≤ 16 := by omega
  have hdd := drop_iv (o := o) (k := kd) (by omega)
  have hsa := spl_iv (o := o) (k := ka) (by omega) 1
  refine ⟨by simp, ?_⟩
  unfold giveO
  cases hre : reachB ⟨op, kd, ka, b, imm⟩
  case true =>
    have hck : reckB ⟨op, kd, ka, b, imm⟩ = false := by
      simp only [reachB, reckB, Bool.or_eq_true, beq_iff_eq, Bool.and_eq_false_iff, decide_eq_false_iff_not] at hre ⊢
      omega
    by_cases hk0 : (ka : Int) = 0
    · have g0 : ((ka : Int) != 0) = false := by simp [hk0]
      have g1 : ((ka : Int) == 0) = true := by simp [hk0]
      simp only [if_true, g1]
      simp only [go_sem, seval, eq_self, reduceCtorEq, cGive_at, spReck_mv, spReck_fn, spReach_mv, spReach_fn, hre, hck, g0]
      repeat' ((first | (refine AG_of ?_ ?_ <;> intro h) | (refine AB_of ?_ ?_ <;> intro h) | (refine A_draw_of [] [] (by kernel_rfl) ?_ <;> have h := mark)) <;> simp only [go_sem, seval, eq_self, reduceCtorEq, cGive_at, spReck_mv, spReck_fn, spReach_mv, spReach_fn, hre, hck, g0, h])
      all_goals refine fin_io (by first | exact .inl rfl | exact .inr rfl) (by simp [ownAt, V.isOwn]) ?_
      all_goals simp only [ioOf, Tryz.results27, Tryz.ntmps27, go_sem, seval, eq_self, reduceCtorEq]
      all_goals simp
    · have g0 : ((ka : Int) != 0) = true := by simp; omega
      have g1 : ((ka : Int) == 0) = false := by simp; omega
      simp only [if_true, g1, Bool.false_eq_true, if_false]
      simp only [go_sem, seval, eq_self, reduceCtorEq, cGive_at, spReck_mv, spReck_fn, spReach_mv, spReach_fn, hre, hck, g0, hz1, ha1, hka, hlen, hsa, List.length_map, Int.toNat_natCast, Nat.mul_one, Nat.zero_add]
      repeat' ((first | (refine AG_of ?_ ?_ <;> intro h) | (refine AB_of ?_ ?_ <;> intro h) | (refine A_draw_of [] [] (by kernel_rfl) ?_ <;> have h := mark)) <;> simp only [go_sem, seval, eq_self, reduceCtorEq, cGive_at, spReck_mv, spReck_fn, spReach_mv, spReach_fn, hre, hck, g0, hz1, ha1, hka, hlen, hsa, List.length_map, Int.toNat_natCast, Nat.mul_one, Nat.zero_add, h])
      all_goals refine fin_io (by first | exact .inl rfl | exact .inr rfl) (by simp [ownAt, V.isOwn]) ?_
      all_goals simp only [ioOf, Tryz.results27, Tryz.ntmps27, go_sem, seval, eq_self, reduceCtorEq]
      all_goals simp
  simp only [Bool.false_eq_true, if_false]
  cases hck : reckB ⟨op, kd, ka, b, imm⟩
  ·
    simp only [go_sem, seval, eq_self, reduceCtorEq, cGive_at, spReck_mv, spReck_fn, spReach_mv, spReach_fn, hre, hck]
    repeat' ((first | (refine AG_of ?_ ?_ <;> intro h) | (refine AB_of ?_ ?_ <;> intro h) | (refine A_draw_of [] [] (by kernel_rfl) ?_ <;> have h := mark)) <;> simp only [go_sem, seval, eq_self, reduceCtorEq, cGive_at, spReck_mv, spReck_fn, spReach_mv, spReach_fn, hre, hck, h])
    all_goals refine fin_io (by first | exact .inl rfl | exact .inr rfl) (by simp [ownAt, V.isOwn]) ?_
    all_goals simp only [ioOf, Tryz.results27, Tryz.ntmps27, go_sem, seval, eq_self, reduceCtorEq]
    all_goals simp
  by_cases hon : oAt o kd = 1
  case neg =>
    have g1 : (oAt o kd == 1) = false := by simp [hon]
    simp only [go_sem, seval, eq_self, reduceCtorEq, cGive_at, spReck_mv, spReck_fn, spReach_mv, spReach_fn, hre, hck, g1, hz2, hd1, hdd, hlen, List.length_map, Int.toNat_natCast, Nat.mul_one, Nat.zero_add]
    repeat' ((first | (refine AG_of ?_ ?_ <;> intro h) | (refine AB_of ?_ ?_ <;> intro h) | (refine A_draw_of [] [] (by kernel_rfl) ?_ <;> have h := mark)) <;> simp only [go_sem, seval, eq_self, reduceCtorEq, cGive_at, spReck_mv, spReck_fn, spReach_mv, spReach_fn, hre, hck, g1, hz2, hd1, hdd, hlen, List.length_map, Int.toNat_natCast, Nat.mul_one, Nat.zero_add, h])
    all_goals refine fin_io (by first | exact .inl rfl | exact .inr rfl) (by simp [ownAt, V.isOwn]) ?_
    all_goals simp only [ioOf, Tryz.results27, Tryz.ntmps27, go_sem, seval, eq_self, reduceCtorEq]
    all_goals simp [g1]
  have g1 : (oAt o kd == 1) = true := by simp [hon]
  simp only [g1, Bool.and_true, if_true]
  obtain ⟨l, hl⟩ : ∃ l, readsL ⟨op, kd, ka, b, imm⟩ = l := ⟨_, rfl⟩
  have hR := readsL_v op kd ka b imm hl
  have hl2 := reads_len ⟨op, kd, ka, b, imm⟩
  have hbd : ∀ r ∈ l, 1 ≤ r ∧ r < 16 := fun r hr => reads_bd (i := ⟨op, kd, ka, b, imm⟩) (r := r) (by rw [hl]; exact hr)
  rw [hl] at hl2 ⊢
  match l, hl2, hbd, hR with
  | [], _, _, hR =>
    simp only [List.isEmpty_nil, if_true] at hR
    simp only [go_sem, seval, eq_self, reduceCtorEq, cGive_at, spReck_mv, spReck_fn, spReach_mv, spReach_fn, hre, hck, g1, hz2, hd1, hdd, hlen, spReadsL_mv, hR, List.length_map, Int.toNat_natCast, Nat.mul_one, Nat.zero_add]
    repeat' ((first | (refine AG_of ?_ ?_ <;> intro h) | (refine AB_of ?_ ?_ <;> intro h) | (refine A_draw_of [] [] (by kernel_rfl) ?_ <;> have h := mark)) <;> simp only [go_sem, seval, eq_self, reduceCtorEq, cGive_at, spReck_mv, spReck_fn, spReach_mv, spReach_fn, hre, hck, g1, hz2, hd1, hdd, hlen, spReadsL_mv, hR, List.length_map, Int.toNat_natCast, Nat.mul_one, Nat.zero_add, h])
    refine A_round ?_
    simp only [go_sem, seval, eq_self, reduceCtorEq, hR]
    repeat' ((first | (refine AG_of ?_ ?_ <;> intro h) | (refine AB_of ?_ ?_ <;> intro h) | (refine A_draw_of [] [] (by kernel_rfl) ?_ <;> have h := mark)) <;> simp only [go_sem, seval, eq_self, reduceCtorEq, hR, h])
    all_goals refine fin_io (by first | exact .inl rfl | exact .inr rfl) (by simp [ownAt, V.isOwn]) ?_
    all_goals simp only [ioOf, Tryz.results27, Tryz.ntmps27, go_sem, seval, eq_self, reduceCtorEq]
    all_goals simp
  | [r], _, hbd, hR =>
    obtain ⟨h1, h2⟩ := hbd r (by simp)
    obtain ⟨k, rfl⟩ : ∃ k : Nat, r = k := ⟨r.toNat, by omega⟩
    have hz3 := Int.natCast_nonneg k
    have hk3 : k + 1 ≤ 16 := by omega
    have hs := spl_iv (o := o) (k := k) (by omega) 1
    simp only [List.isEmpty_cons, Bool.false_eq_true, if_false, List.map_cons, List.map_nil, iv] at hR
    simp only [go_sem, seval, eq_self, reduceCtorEq, cGive_at, spReck_mv, spReck_fn, spReach_mv, spReach_fn, hre, hck, g1, hz2, hd1, hdd, hlen, spReadsL_mv, hR, List.length_map, Int.toNat_natCast, Nat.mul_one, Nat.zero_add]
    repeat' ((first | (refine AG_of ?_ ?_ <;> intro h) | (refine AB_of ?_ ?_ <;> intro h) | (refine A_draw_of [] [] (by kernel_rfl) ?_ <;> have h := mark)) <;> simp only [go_sem, seval, eq_self, reduceCtorEq, cGive_at, spReck_mv, spReck_fn, spReach_mv, spReach_fn, hre, hck, g1, hz2, hd1, hdd, hlen, spReadsL_mv, hR, List.length_map, Int.toNat_natCast, Nat.mul_one, Nat.zero_add, h])
    refine A_round ?_
    simp only [go_sem, seval, eq_self, reduceCtorEq, hz3, h2, hk3, hs, hlen, List.length_map, Int.toNat_natCast, Nat.mul_one, Nat.zero_add]
    repeat' ((first | (refine AG_of ?_ ?_ <;> intro h) | (refine AB_of ?_ ?_ <;> intro h) | (refine A_draw_of [] [] (by kernel_rfl) ?_ <;> have h := mark)) <;> simp only [go_sem, seval, eq_self, reduceCtorEq, hz3, h2, hk3, hs, hlen, List.length_map, Int.toNat_natCast, Nat.mul_one, Nat.zero_add, h])
    refine A_round ?_
    simp only [go_sem, seval, eq_self, reduceCtorEq, hz3, h2, hk3, hs, hlen, List.length_map]
    repeat' ((first | (refine AG_of ?_ ?_ <;> intro h) | (refine AB_of ?_ ?_ <;> intro h) | (refine A_draw_of [] [] (by kernel_rfl) ?_ <;> have h := mark)) <;> simp only [go_sem, seval, eq_self, reduceCtorEq, hz3, h2, hk3, hs, hlen, List.length_map, h])
    all_goals refine fin_io (by first | exact .inl rfl | exact .inr rfl) (by simp [ownAt, V.isOwn]) ?_
    all_goals simp only [ioOf, Tryz.results27, Tryz.ntmps27, go_sem, seval, eq_self, reduceCtorEq]
    all_goals simp
  | [r, r'], _, hbd, hR =>
    obtain ⟨h1, h2⟩ := hbd r (by simp)
    obtain ⟨h3, h4⟩ := hbd r' (by simp)
    obtain ⟨k, rfl⟩ : ∃ k : Nat, r = k := ⟨r.toNat, by omega⟩
    obtain ⟨k', rfl⟩ : ∃ k : Nat, r' = k := ⟨r'.toNat, by omega⟩
    have hz3 := Int.natCast_nonneg k
    have hk3 : k + 1 ≤ 16 := by omega
    have hz4 := Int.natCast_nonneg k'
    have hk4 : k' + 1 ≤ 16 := by omega
    have hs := spl_iv (o := o) (k := k) (by omega) 1
    have hs' := spl_iv (o := o.set k 1) (k := k') (by simp; omega) 1
    simp only [List.isEmpty_cons, Bool.false_eq_true, if_false, List.map_cons, List.map_nil, iv] at hR
    simp only [go_sem, seval, eq_self, reduceCtorEq, cGive_at, spReck_mv, spReck_fn, spReach_mv, spReach_fn, hre, hck, g1, hz2, hd1, hdd, hlen, spReadsL_mv, hR, List.length_map, Int.toNat_natCast, Nat.mul_one, Nat.zero_add]
    repeat' ((first | (refine AG_of ?_ ?_ <;> intro h) | (refine AB_of ?_ ?_ <;> intro h) | (refine A_draw_of [] [] (by kernel_rfl) ?_ <;> have h := mark)) <;> simp only [go_sem, seval, eq_self, reduceCtorEq, cGive_at, spReck_mv, spReck_fn, spReach_mv, spReach_fn, hre, hck, g1, hz2, hd1, hdd, hlen, spReadsL_mv, hR, List.length_map, Int.toNat_natCast, Nat.mul_one, Nat.zero_add, h])
    refine A_round ?_
    simp only [go_sem, seval, eq_self, reduceCtorEq, hz3, h2, hk3, hs, hlen, List.length_map, Int.toNat_natCast, Nat.mul_one, Nat.zero_add]
    repeat' ((first | (refine AG_of ?_ ?_ <;> intro h) | (refine AB_of ?_ ?_ <;> intro h) | (refine A_draw_of [] [] (by kernel_rfl) ?_ <;> have h := mark)) <;> simp only [go_sem, seval, eq_self, reduceCtorEq, hz3, h2, hk3, hs, hlen, List.length_map, Int.toNat_natCast, Nat.mul_one, Nat.zero_add, h])
    refine A_round ?_
    simp only [go_sem, seval, eq_self, reduceCtorEq, hz4, h4, hk4, hs', hlen, List.length_map, List.length_set, Int.toNat_natCast, Nat.mul_one, Nat.zero_add]
    repeat' ((first | (refine AG_of ?_ ?_ <;> intro h) | (refine AB_of ?_ ?_ <;> intro h) | (refine A_draw_of [] [] (by kernel_rfl) ?_ <;> have h := mark)) <;> simp only [go_sem, seval, eq_self, reduceCtorEq, hz4, h4, hk4, hs', hlen, List.length_map, List.length_set, Int.toNat_natCast, Nat.mul_one, Nat.zero_add, h])
    refine A_round ?_
    simp only [go_sem, seval, eq_self, reduceCtorEq, hlen]
    repeat' ((first | (refine AG_of ?_ ?_ <;> intro h) | (refine AB_of ?_ ?_ <;> intro h) | (refine A_draw_of [] [] (by kernel_rfl) ?_ <;> have h := mark)) <;> simp only [go_sem, seval, eq_self, reduceCtorEq, hlen, h])
    all_goals refine fin_io (by first | exact .inl rfl | exact .inr rfl) (by simp [ownAt, V.isOwn]) ?_
    all_goals simp only [ioOf, Tryz.results27, Tryz.ntmps27, go_sem, seval, eq_self, reduceCtorEq]
    all_goals simp
end Go.Proofs.YtalcmfmhifcaeaaGreat
