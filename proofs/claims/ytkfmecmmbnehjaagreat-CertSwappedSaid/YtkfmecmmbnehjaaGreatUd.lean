/-
The cells of a kind: cert.some, with slices.IndexFunc, slices.DeleteFunc; slices.EqualFunc at cells. No condition.
-/
import Derived.Test.YtkfmecmmbnehjaaGreatCb
import Derived.Test.YtkfmecmmbnehjaaGreatL0
import Derived.Test.YtkfmecmmbnehjaaGreatBa
import Derived.Shelf.SlicesE.Clone
import Derived.Test.YtkfmecmmbnehjaaGreatCc
import Derived.Test.YtkfmecmmbnehjaaGreatO8
import Derived.Test.YtkfmecmmbnehjaaGreatSc
import Derived.Test.YtkfmecmmbnehjaaGreatEb
/-
slices.Clone at cells: the library's proved contract in the plain reckoning's words. No condition.
-/
namespace Go.Proofs.YtkfmecmmbnehjaaGreat
set_option linter.unusedSimpArgs false
set_option linter.unusedVariables false
open Go.Shelf Go.RowKit Go.Lib

def cloneRen : Go.Shelf.Ren := ⟨fun | 41 => 43 | n => n, fun | 4 => 4 | 22 => 22 | 23 => 51 | n => n, fun | n => n⟩
theorem cloneLays : SlLaysE0.n41 Tryz.prog cloneRen := {
  mixed := by kernel_rfl
  f41 := ⟨ "slices.Clone[[]forerunner/api.Cell,forerunner/api.Cell]", by kernel_rfl, Tryz.func43.trans (congrArg some (by kernel_rfl))⟩
  t4 := Tryz.underlying4
  a4 := Tryz.isAgg4
  z4 := Tryz.sizeOf4
  v4 := Tryz.zeroValue4
  t22 := Tryz.underlying22
  a22 := Tryz.isAgg22
  z22 := Tryz.sizeOf22
  v22 := Tryz.zeroValue22 }
def cellZ : Value := .agg #[.int .i64 0, .int .i64 0, .int .i64 0, .int .i64 0, .int .i64 0, .int .i64 0, .int .i64 0, .int .i64 0, .int .i64 0]
theorem cellInfo : (Tryz.prog.info? 51).map (fun i => (i.zero, i.size, i.bytes)) = some (some cellZ, 9, 72) := by kernel_rfl
set_option maxHeartbeats 2000000 in
set_option maxRecDepth 100000 in
/-- .. of a slice of no element, wherever it lies -/
theorem clone_zero (a : Addr) (c : Nat) (w : World) : Calls Tryz.prog 43 #[.slice (some a) 0 c] w fun e w' => ∃ v', e = .returned v' ∧ w'.ownsRow w.heap.size 51 9 v' 0 [] ∧ Below w.heap.size w w' := by
  have L := cloneLays
  have mixed := L.mixed; have t4 := L.t4; have a4 := L.a4; have z4 := L.z4; have v4 := L.v4; have t22 := L.t22; have a22 := L.a22; have z22 := L.z22; have v22 := L.v22
  have q22 : ∀ (w : World) (a : Option Addr) (n c n' c' : Nat), (binOp .eql 22 (.slice a n c) (.slice none n' c')).run Tryz.prog w = .ok (.bool a.isNone) w := fun w a n c n' c' => Lib.run_eql_slice_nil w _ _ a n c n' c' L.t22
  obtain ⟨i0, hi, hz0, hz1, hz2⟩ := info_parts cellInfo
  go_enter Tryz.func43, Tryz.ntmps43
  go_wp2_with (at_builtin; refine wpList_append_own _ rfl _ _ 22 rfl w.heap.size 51 i0 cellZ 9 72 t22 hi hz0 hz1 hz2 rfl (by decide) _ _ _ rfl (World.ownsRow_made w #[] 0 (Nat.le_refl _) (Nat.zero_le _) (by simp)) a 0 c [] rfl ?qc1 ?qc2 ?qc3 ?qc4 ?qc5 ?qc6 ?_)
  case qc1 => rfl
  case qc2 => intro j u hj; simp at hj
  case qc3 => intro u hu; cases hu
  case qc4 => simp
  case qc5 => simp
  case qc6 => simp
  intro v' w1 hown hgrow hnil
  go_wp2
  go_ret
  exact ⟨v', rfl, by simpa using hown, ((Below.refl _ w).alloc (Nat.le_refl _) _).grown hgrow (by simp) (by intro k hk; simp [Value.ownBlock] at hk; omega)⟩
def spClone : Spec := ⟨[], fun xs => match xs with
  | [x] => (lOf 9 x).bind fun l => (l.mapM cellOf).bind fun a => if a.length * 72 ≤ 140737488355328 then some (.own 9 51 (a.map Cell.v)) else none
  | _ => none⟩
theorem spClone_mv : spClone.mv = [] := rfl
theorem spClone_v {a : List Cell} (h : a.length * 72 ≤ 140737488355328) (k : Bool) : spClone.fn [.lst k 9 (a.map Cell.v)] = some (.own 9 51 (a.map Cell.v)) := by
  have h1 : lOf 9 (.lst k 9 (a.map Cell.v)) = some (a.map Cell.v) := rfl
  simp only [spClone, h1, Option.bind_some, mapM_of cellOf_v]
  rw [if_pos h]
theorem cell_scal {w w' : World} {own fresh own' fresh' : Nat → Prop} {k k' : Bool} {us : List Value} {a : List Cell} (h : PW (RC w own fresh k) us (flat (a.map Cell.v))) : PW (RC w' own' fresh' k') us (flat (a.map Cell.v)) := by
  refine h.impm fun u x hx hr => ?_
  unfold flat at hx
  obtain ⟨y, hy, hx⟩ := List.mem_flatMap.1 hx
  obtain ⟨c, _, rfl⟩ := List.mem_map.1 hy
  refine RC.scal ?_ hr
  simp only [Cell.v, V.cells, List.mem_cons, List.not_mem_nil, or_false] at hx
  rcases hx with rfl | rfl | rfl | rfl | rfl | rfl | rfl | rfl | rfl <;> rfl
theorem own_of {w : World} {B e sz n : Nat} {v : Value} {us : List Value} (h : w.ownsRow B e sz v n us) : OwnRow w e sz v n us ∧ ∀ g, blkOf v = some g → B ≤ g := by
  refine ⟨⟨h.1, ?_⟩, fun g hg => ?_⟩
  · rcases h.2 with h' | ⟨g, cap, cur, h1, _, h2, h3, h4, h5, h6⟩
    · exact .inl h'
    · exact .inr ⟨g, 0, cap, cur, (0, 0), h1, h2, .inl rfl, h3, h4, by omega, by simpa using h6⟩
  · rcases h.2 with ⟨rfl, _⟩ | ⟨g', cap, cur, rfl, hB, _⟩
    · simp [blkOf] at hg
    · simp [blkOf] at hg
      subst hg
      exact hB
theorem fr_below {w w' : World} {J : Nat → Prop} (h : Below w.heap.size w w') : Fr w J w' := ⟨h.os, h.tape, h.output, h.size, fun k hk _ => h.block k hk⟩
theorem clone_impl : Impl Tryz.prog 43 spClone := by
  refine ⟨⟨_, Tryz.func43, by kernel_rfl, by kernel_rfl⟩, fun xs r hx vs w J ha => ?_⟩
  unfold spClone at hx
  simp only at hx
  split at hx
  case h_2 => cases hx
  rename_i x
  obtain ⟨l, hl, h2⟩ := Option.bind_eq_some_iff.1 hx
  obtain ⟨a, hc, h3⟩ := Option.bind_eq_some_iff.1 h2
  have e := mapM_eq (fun _ _ => cellOf_eq) hc
  subst e
  split at h3
  case isFalse => cases h3
  rename_i hsz
  cases h3
  have ha2 := (SeesL.cons (lOf_sees hl) .nil).args w J _ ha
  obtain ⟨u, rfl, hr⟩ := one_arg ha2
  have post : ∀ (v : Value) (w' : World) (us : List Value), OwnRow w' 51 9 v a.length us → PW (RC w (fun g => J g) (fun _ => False) false) us (flat (a.map Cell.v)) → (∀ u ∈ us, u.oneCell' = true) → (∀ g, blkOf v = some g → w.heap.size ≤ g) →
      PostR w J w' #[u] v (.own 9 51 (a.map Cell.v)) := fun v w' us ho hp h1 hg =>
    ⟨⟨us, by rw [List.length_map]; exact ho, fun x hx => by obtain ⟨c, _, rfl⟩ := List.mem_map.1 hx; rfl, cell_scal hp, h1⟩, fun g hgg => .inl (hg g hgg)⟩
  have hr2 : RC w _ _ false u (.lst false 9 (a.map Cell.v)) := hr
  cases hr2 with
  | lst _ _ _ _ A cp us hcap hu hlen he h1 hR =>
    have hpw := cell_scal (w' := w) (own' := fun g => J g) (fresh' := fun _ => False) (k' := false) ⟨hlen, he⟩
    cases A with
    | none =>
      have hus : us = [] := by
        rcases hR with h | ⟨g, o, h, _⟩
        · exact h
        · cases h
      subst hus
      have ha0 : a = [] := by
        cases a with
        | nil => rfl
        | cons c a => simp [flat, Cell.v, V.cells] at hlen
      subst ha0
      refine (AnyE.slices_Clone_nil cloneLays _ _ w).mono fun e w' ⟨he', hw⟩ => ?_
      subst hw
      exact ⟨_, he', fr_below (Below.refl _ _), post _ _ [] (OwnRow.nil _ _ _) hpw (fun u hu => by cases hu) (fun g hg => by simp [blkOf] at hg)⟩
    | some adr =>
      rcases Nat.eq_zero_or_pos a.length with h0 | h0
      · have ha0 : a = [] := List.eq_nil_of_length_eq_zero h0
        subst ha0
        refine (clone_zero adr cp w).mono fun e w' ⟨v', he', ho, hb⟩ => ?_
        obtain ⟨ho1, ho2⟩ := own_of ho
        exact ⟨_, he', fr_below hb, post _ _ [] ho1 (by simpa [flat] using PW.nil) (fun u hu => by cases hu) ho2⟩
      · have hul : us.length = a.length * 9 := by
          rw [hlen, flat_len2 (sz := 9) (fun x hx => by obtain ⟨c, _, rfl⟩ := List.mem_map.1 hx; rfl), List.length_map]
        rcases hR with hR | ⟨g, o, hA, _, _, hcells⟩
        · rw [hR] at hul
          simp only [List.length_nil] at hul
          omega
        cases hA
        obtain ⟨i0, hi, hz0, hz1, hz2⟩ := info_parts cellInfo
        have hn : a.length ≤ maxLen := by
          have : maxLen = 9223372036854775807 := rfl
          omega
        rw [List.length_map]
        refine (AnyE.slices_Clone cloneLays i0 cellZ 9 72 hi hz0 hz1 hz2 rfl (by decide) Tryz.sizeOf51 g o a.length cp us w hul hn hsz hcells h1).mono fun e w' ⟨v', he', ho, _, hb⟩ => ?_
        obtain ⟨ho1, ho2⟩ := own_of ho
        exact ⟨_, he', fr_below hb, post _ _ us ho1 hpw h1 ho2⟩

end Go.Proofs.YtkfmecmmbnehjaaGreat
/-
How many cells there are of each kind, which kinds there are, and how a block ends: cert.count, Counts, control, kinds, last, ends by the plain reckoning. No condition.
-/
namespace Go.Proofs.YtkfmecmmbnehjaaGreat
set_option linter.unusedSimpArgs false
set_option linter.unusedVariables false

def ctlB (k : Int) : Bool := decide (9 ≤ k) && decide (k ≤ 12)
def spCtl : Spec := ⟨[], fun xs => match xs with
  | [.s (.int .i64 k)] => some (.s (.bool (ctlB k)))
  | _ => none⟩
theorem spCtl_mv : spCtl.mv = [] := rfl
theorem spCtl_fn (k : Int) : spCtl.fn [.s (.int .i64 k)] = some (.s (.bool (ctlB k))) := rfl
theorem ctl_impl : Impl Tryz.prog 39 spCtl := by
  refine impl_walk mixed orc0_ok eqT_ok Tryz.func39 rfl Tryz.ntmps39 (by kernel_rfl) ?_
  intro xs r h
  unfold spCtl at h
  simp only at h
  (try split at h) <;> try (cases (show none = some r from h); done)
  rename_i k
  cases h
  refine ⟨by simp, ?_⟩
  unfold ctlB
  cases c1 : decide (9 ≤ k)
  ·
    simp only [go_sem, seval, eq_self, reduceCtorEq, c1]
    repeat' ((first | (refine AG_of ?_ ?_ <;> intro h) | (refine AB_of ?_ ?_ <;> intro h) | (refine A_draw_of [] [] (by kernel_rfl) ?_ <;> have h := mark)) <;> simp only [go_sem, seval, eq_self, reduceCtorEq, c1, h])
    all_goals (first | refine fin_ret ?_ | refine fin_normal ?_)
    all_goals simp only [resOf, Tryz.results39, Tryz.ntmps39, go_sem, seval, eq_self, reduceCtorEq]
  ·
    simp only [go_sem, seval, eq_self, reduceCtorEq, c1]
    repeat' ((first | (refine AG_of ?_ ?_ <;> intro h) | (refine AB_of ?_ ?_ <;> intro h) | (refine A_draw_of [] [] (by kernel_rfl) ?_ <;> have h := mark)) <;> simp only [go_sem, seval, eq_self, reduceCtorEq, c1, h])
    all_goals (first | refine fin_ret ?_ | refine fin_normal ?_)
    all_goals simp only [resOf, Tryz.results39, Tryz.ntmps39, go_sem, seval, eq_self, reduceCtorEq]
    all_goals simp
theorem rctl_impl : Impl Tryz.prog 45 spCtl := by
  refine impl_walk mixed orc0_ok eqT_ok Tryz.func45 rfl Tryz.ntmps45 (by kernel_rfl) ?_
  intro xs r h
  unfold spCtl at h
  simp only at h
  (try split at h) <;> try (cases (show none = some r from h); done)
  rename_i k
  cases h
  refine ⟨by simp, ?_⟩
  unfold ctlB
  cases c1 : decide (9 ≤ k)
  ·
    simp only [go_sem, seval, eq_self, reduceCtorEq, c1]
    repeat' ((first | (refine AG_of ?_ ?_ <;> intro h) | (refine AB_of ?_ ?_ <;> intro h) | (refine A_draw_of [] [] (by kernel_rfl) ?_ <;> have h := mark)) <;> simp only [go_sem, seval, eq_self, reduceCtorEq, c1, h])
    all_goals (first | refine fin_ret ?_ | refine fin_normal ?_)
    all_goals simp only [resOf, Tryz.results45, Tryz.ntmps45, go_sem, seval, eq_self, reduceCtorEq]
  ·
    simp only [go_sem, seval, eq_self, reduceCtorEq, c1]
    repeat' ((first | (refine AG_of ?_ ?_ <;> intro h) | (refine AB_of ?_ ?_ <;> intro h) | (refine A_draw_of [] [] (by kernel_rfl) ?_ <;> have h := mark)) <;> simp only [go_sem, seval, eq_self, reduceCtorEq, c1, h])
    all_goals (first | refine fin_ret ?_ | refine fin_normal ?_)
    all_goals simp only [resOf, Tryz.results45, Tryz.ntmps45, go_sem, seval, eq_self, reduceCtorEq]
    all_goals simp

/-- how many cells of a kind -/
def cntK (l : List Cell) (k : Int) : Nat := l.countP fun c => c.kind == k
def cntL (l : List Cell) : List Int := (List.range 12).map fun (j : Nat) => ((cntK l ((j + 1 : Nat) : Int) : Nat) : Int)
theorem cntL_len (l : List Cell) : (cntL l).length = 12 := by simp [cntL]
theorem cntL_nil : cntL [] = List.replicate 12 0 := by decide
theorem cntL_at (l : List Cell) {j : Nat} (h : j < 12) : (cntL l)[j]? = some ((cntK l ((j + 1 : Nat) : Int) : Nat) : Int) := by
  unfold cntL
  rw [List.getElem?_map, List.getElem?_range h]; rfl
theorem cntK_app (a b : List Cell) (k : Int) : cntK (a ++ b) k = cntK a k + cntK b k := List.countP_append
theorem cntK_one (c : Cell) (k : Int) : cntK [c] k = if c.kind = k then 1 else 0 := by
  unfold cntK
  rw [List.countP_cons, List.countP_nil]
  by_cases h : c.kind = k
  · simp [h]
  · simp [h]
theorem cntK_le (l : List Cell) (k : Int) : cntK l k ≤ l.length := List.countP_le_length
theorem cntL_in (l : List Cell) {c : Cell} {j : Nat} (h : j < 12) (hc : c.kind = ((j + 1 : Nat) : Int)) : cntL (l ++ [c]) = (cntL l).set j ((cntK l ((j + 1 : Nat) : Int) + 1 : Nat) : Int) := by
  refine List.ext_getElem? fun i => ?_
  rw [List.getElem?_set]
  by_cases hi : i < 12
  · rw [cntL_at _ hi, cntK_app, cntK_one, hc]
    by_cases hji : j = i
    · subst hji
      rw [if_pos rfl, if_pos rfl, if_pos (by rw [cntL_len]; exact h)]
    · rw [if_neg hji, if_neg (by omega), cntL_at _ hi, Nat.add_zero]
  · rw [List.getElem?_eq_none (by rw [cntL_len]; omega), if_neg (by omega), List.getElem?_eq_none (by rw [cntL_len]; omega)]
theorem cntL_out (l : List Cell) {c : Cell} (hc : ¬ (1 ≤ c.kind ∧ c.kind ≤ 12)) : cntL (l ++ [c]) = cntL l := by
  unfold cntL
  refine List.map_congr_left fun j hj => ?_
  have := List.mem_range.1 hj
  rw [cntK_app, cntK_one, if_neg (by omega), Nat.add_zero]
def spCount : Spec := ⟨[], fun xs => match xs with
  | [x] => (lOf 9 x).bind fun l => (l.mapM cellOf).bind fun a => if a.length ≤ 9223372036854775807 then some (.agg ((cntL a).map iv)) else none
  | _ => none⟩
theorem spCount_mv : spCount.mv = [] := rfl
theorem spCount_v {a : List Cell} (h : a.length ≤ 9223372036854775807) (k : Bool) : spCount.fn [.lst k 9 (a.map Cell.v)] = some (.agg ((cntL a).map iv)) := by
  have h1 : lOf 9 (.lst k 9 (a.map Cell.v)) = some (a.map Cell.v) := rfl
  simp only [spCount, h1, Option.bind_some, mapM_of cellOf_v]
  rw [if_pos h]
def countI (a : List Cell) (s : S) : Prop := s.env 2 = .ptr 2 1 0 ∧ s.st 2 = ⟨1, .box ((List.replicate 12 (0 : Int)).map iv)⟩ ∧ s.env 3 = .ptr 3 1 0 ∧ s.env 6 = .lst false 9 (a.map Cell.v) ∧ s.env 7 = .s (.int .i64 a.length) ∧
  ∃ k : Nat, s.env 8 = .s (.int .i64 k) ∧ k ≤ a.length ∧ s.st 3 = ⟨1, .box ((cntL (a.take k)).map iv)⟩
theorem one_iv2 (l : List Int) : (l.map iv).all V.one = true := by
  rw [List.all_eq_true]; intro x hx; obtain ⟨b, _, rfl⟩ := List.mem_map.1 hx; rfl
attribute [go_sem high] one_iv2
theorem take12 {l : List Int} (h : l.length = 12) : (l.map iv).take 12 = l.map iv := List.take_of_length_le (by simp [h])
set_option maxHeartbeats 4000000 in
theorem count_impl : Impl Tryz.prog 21 spCount := by
  refine impl_walk2 mixed orc0_ok eqT_ok Tryz.func21 rfl Tryz.ntmps21 (by kernel_rfl) ?_
  intro xs r h
  unfold spCount at h
  simp only at h
  (try split at h) <;> try (cases (show none = some r from h); done)
  rename_i x
  obtain ⟨l, hl, h3⟩ := Option.bind_eq_some_iff.1 h
  obtain ⟨a, ha, h4⟩ := Option.bind_eq_some_iff.1 h3
  clear h h3
  have e1 := mapM_eq (fun _ _ => cellOf_eq) ha
  subst e1
  split at h4
  case isFalse => cases h4
  rename_i hla
  cases h4
  refine ⟨_, (SeesL.cons (lOf_sees hl) .nil).args, by simp, ?_⟩
  simp only [go_sem, seval, eq_self, reduceCtorEq, List.length_map]
  repeat' ((first | (refine AG_of ?_ ?_ <;> intro h) | (refine AB_of ?_ ?_ <;> intro h) | (refine A_draw_of [] [] (by kernel_rfl) ?_ <;> have h := mark)) <;> simp only [go_sem, seval, eq_self, reduceCtorEq, List.length_map, h])
  refine A_loop (countI a) (fun s => a.length - (numOf (s.env 8)).toNat) ?_ ?_
  · exact ⟨by simp [upd], by simp [upd, iv, List.replicate], by simp [upd], by simp [upd], by simp [upd], 0, by simp [upd], by omega, by simp [upd, cntL_nil, iv, List.replicate]⟩
  intro s hs
  obtain ⟨e2, t2, e3, e6, e7, k, ek, hk, t3⟩ := hs
  rcases Nat.lt_or_ge k a.length with hlt | hge
  · obtain ⟨c, q⟩ : ∃ i, a[k]? = some i := ⟨a[k], List.getElem?_eq_getElem hlt⟩
    have g0 : decide ((k : Int) < a.length) = true := by simp; omega
    have z0 := Int.natCast_nonneg k
    have n2 : IntKind.i64.wrap ((k : Int) + 1) = (k + 1 : Nat) := by rw [w_i64 (by omega) (by omega)]; omega
    have htk : a.take (k + 1) = a.take k ++ [c] := by rw [List.take_add_one, q]; rfl
    by_cases hin : 1 ≤ c.kind ∧ c.kind ≤ 12
    · obtain ⟨j, hj⟩ : ∃ j : Nat, c.kind = ((j + 1 : Nat) : Int) := ⟨(c.kind - 1).toNat, by omega⟩
      have hj12 : j < 12 := by omega
      have g1 : decide (1 ≤ ((j + 1 : Nat) : Int)) = true := by simp; omega
      have g2 : decide (((j + 1 : Nat) : Int) ≤ 12) = true := by simp; omega
      have w1 : IntKind.i64.wrap (((j + 1 : Nat) : Int) - 1) = (j : Nat) := by rw [w_i64 (by omega) (by omega)]; omega
      have zj := Int.natCast_nonneg j
      have hj12i : (j : Int) < 12 := by omega
      have hat := cntL_at (a.take k) hj12
      have hcl := cntK_le (a.take k) ((j + 1 : Nat) : Int)
      have hkl : (a.take k).length ≤ k := by rw [List.length_take]; omega
      have w2 : IntKind.i64.wrap (((cntK (a.take k) ((j + 1 : Nat) : Int) : Nat) : Int) + 1) = ((cntK (a.take k) ((j + 1 : Nat) : Int) + 1 : Nat) : Int) := by rw [w_i64 (by omega) (by omega)]; omega
      have hset := cntL_in (a.take k) hj12 hj
      have hcn := cntL_len (a.take k)
      obtain ⟨L, hL⟩ : ∃ L, cntL (a.take k) = L := ⟨_, rfl⟩
      obtain ⟨cc, hcc⟩ : ∃ cc, cntK (a.take k) ((j + 1 : Nat) : Int) = cc := ⟨_, rfl⟩
      rw [hL] at hat hset hcn t3
      rw [hcc] at hat hset w2
      have hdr : (L.map iv).drop j = .s (.int .i64 cc) :: (L.map iv).drop (j + 1) := by
        have hjl : j < (L.map iv).length := by rw [List.length_map, hcn]; exact hj12
        rw [List.drop_eq_getElem_cons hjl]
        congr 1
        have : (L.map iv)[j]? = some (iv cc) := by rw [List.getElem?_map, hat]; rfl
        exact (List.getElem?_eq_some_iff.1 this).2
      have hspl : spl (L.map iv) j [.s (.int .i64 (cc + 1 : Nat))] = (L.set j ((cc + 1 : Nat) : Int)).map iv := by
        have h1 : L.set j ((cc + 1 : Nat) : Int) = L.take j ++ ((cc + 1 : Nat) : Int) :: L.drop (j + 1) := by
          rw [List.set_eq_take_append_cons_drop, if_pos (by omega)]
        rw [h1, List.map_append, List.map_cons, List.map_take, List.map_drop]
        simp only [spl, List.length_singleton, List.append_assoc, List.singleton_append, iv]
      have hcv : c.v = .agg [.s (.int .i64 (j + 1 : Nat)), .s (.int .i64 c.ins.op), .s (.int .i64 c.ins.d), .s (.int .i64 c.ins.a), .s (.int .i64 c.ins.b), .s (.int .i64 c.ins.imm), .s (.int .i64 c.reg), .s (.int .i64 c.pc), .s (.int .i64 c.off)] := by rw [← hj]; rfl
      have hfit : j + 1 ≤ 12 := by omega
      simp only [go_sem, seval, eq_self, reduceCtorEq, e2, t2, e3, e6, e7, ek, t3, g0, z0, q, hcv, g1, g2, w1, zj, hj12i, hdr, w2, hspl, hfit, hcn, n2, Nat.mul_one, Nat.zero_add, Int.toNat_natCast, List.getElem?_map, List.length_map]
      repeat' ((first | (refine AG_of ?_ ?_ <;> intro h) | (refine AB_of ?_ ?_ <;> intro h) | (refine A_draw_of [] [] (by kernel_rfl) ?_ <;> have h := mark)) <;> simp only [go_sem, seval, eq_self, reduceCtorEq, e2, t2, e3, e6, e7, ek, t3, g0, z0, q, hcv, g1, g2, w1, zj, hj12i, hdr, w2, hspl, hfit, hcn, n2, Nat.mul_one, Nat.zero_add, Int.toNat_natCast, List.getElem?_map, List.length_map, h])
      exact ⟨⟨by simp [upd, e2], by simp [upd, t2], by simp [upd, e3], by simp [upd, e6], by simp [upd, e7], k + 1, by simp [upd], by omega, by rw [htk, hset, ← hspl]; simp [upd, spl]⟩, by simp [upd, numOf, ek]; omega⟩
    · have hout := cntL_out (a.take k) hin
      rw [← htk] at hout
      rw [← hout] at t3
      cases g1 : decide (1 ≤ c.kind)
      ·
        simp only [go_sem, seval, eq_self, reduceCtorEq, e2, t2, e3, e6, e7, ek, t3, g0, z0, q, Cell.v, g1, n2, Int.toNat_natCast, List.getElem?_map, List.length_map]
        repeat' ((first | (refine AG_of ?_ ?_ <;> intro h) | (refine AB_of ?_ ?_ <;> intro h) | (refine A_draw_of [] [] (by kernel_rfl) ?_ <;> have h := mark)) <;> simp only [go_sem, seval, eq_self, reduceCtorEq, e2, t2, e3, e6, e7, ek, t3, g0, z0, q, Cell.v, g1, n2, Int.toNat_natCast, List.getElem?_map, List.length_map, h])
        exact ⟨⟨by simp [upd, e2], by simp [upd, t2], by simp [upd, e3], by simp [upd, e6, Cell.v], by simp [upd, e7], k + 1, by simp [upd], by omega, by simp [upd, t3]⟩, by simp [upd, numOf, ek]; omega⟩
      · have g2 : decide (c.kind ≤ 12) = false := by simp at g1 ⊢; omega
        simp only [go_sem, seval, eq_self, reduceCtorEq, e2, t2, e3, e6, e7, ek, t3, g0, z0, q, Cell.v, g1, g2, n2, Int.toNat_natCast, List.getElem?_map, List.length_map]
        repeat' ((first | (refine AG_of ?_ ?_ <;> intro h) | (refine AB_of ?_ ?_ <;> intro h) | (refine A_draw_of [] [] (by kernel_rfl) ?_ <;> have h := mark)) <;> simp only [go_sem, seval, eq_self, reduceCtorEq, e2, t2, e3, e6, e7, ek, t3, g0, z0, q, Cell.v, g1, g2, n2, Int.toNat_natCast, List.getElem?_map, List.length_map, h])
        exact ⟨⟨by simp [upd, e2], by simp [upd, t2], by simp [upd, e3], by simp [upd, e6, Cell.v], by simp [upd, e7], k + 1, by simp [upd], by omega, by simp [upd, t3]⟩, by simp [upd, numOf, ek]; omega⟩
  · have hkl : k = a.length := by omega
    have g0 : decide ((k : Int) < a.length) = false := by simp; omega
    rw [hkl, List.take_length] at t3
    have hcn := cntL_len a
    have ht := take12 hcn
    have hd := List.drop_eq_nil_of_le (show ((List.replicate 12 (0 : Int)).map iv).length ≤ 12 by simp)
    simp only [go_sem, seval, eq_self, reduceCtorEq, e2, t2, e3, e6, e7, ek, t3, g0, ht, hcn, List.length_replicate, List.length_map]
    repeat' ((first | (refine AG_of ?_ ?_ <;> intro h) | (refine AB_of ?_ ?_ <;> intro h) | (refine A_draw_of [] [] (by kernel_rfl) ?_ <;> have h := mark)) <;> simp only [go_sem, seval, eq_self, reduceCtorEq, e2, t2, e3, e6, e7, ek, t3, g0, ht, hcn, List.length_replicate, List.length_map, h])
    all_goals (first | refine fin_ret ?_ | refine fin_normal ?_)
    all_goals simp only [resOf, Tryz.results21, Tryz.ntmps21, go_sem, seval, eq_self, reduceCtorEq, e2, ht, hcn, hd, List.length_replicate, List.length_map]
    all_goals rfl

end Go.Proofs.YtkfmecmmbnehjaaGreat
/-
cert.Counts, kinds, last, ends by the plain reckoning. No condition.
-/
namespace Go.Proofs.YtkfmecmmbnehjaaGreat
set_option linter.unusedSimpArgs false
set_option linter.unusedVariables false

def cU1 : Orc := upd (upd (upd cE2 21 (some spCount)) 39 (some spCtl)) 45 (some spCtl)
theorem cU1_ok : ∀ g sp, cU1 g = some sp → Impl Tryz.prog g sp := orc_upd (orc_upd (orc_upd cE2_ok count_impl) ctl_impl) rctl_impl
theorem cU1_at : cU1 21 = some spCount ∧ cU1 39 = some spCtl ∧ cU1 40 = some spContI := ⟨rfl, rfl, rfl⟩
def spCounts : Spec := ⟨[], fun xs => match xs with
  | [x] => (sbOf x).bind fun b => if sbFit b = true then some (.agg ((cntL b.a ++ cntL b.e).map iv)) else none
  | _ => none⟩
theorem spCounts_mv : spCounts.mv = [] := rfl
theorem spCounts_v {b : SB} (h : sbFit b = true) : spCounts.fn [b.v] = some (.agg ((cntL b.a ++ cntL b.e).map iv)) := by
  simp only [spCounts, sbOf_v, Option.bind_some, if_pos h]
set_option maxRecDepth 8000 in
set_option maxHeartbeats 4000000 in
theorem counts_impl : Impl Tryz.prog 10 spCounts := by
  refine impl_walk2 mixed cU1_ok eqT_ok Tryz.func10 rfl Tryz.ntmps10 (by kernel_rfl) ?_
  intro xs r h
  unfold spCounts at h
  simp only at h
  (try split at h) <;> try (cases (show none = some r from h); done)
  rename_i x
  obtain ⟨b, hb, h4⟩ := Option.bind_eq_some_iff.1 h
  clear h
  split at h4
  case isFalse => cases h4
  rename_i hfit
  cases h4
  obtain ⟨fa, fe⟩ := sbFit_iff hfit
  refine ⟨_, (SeesL.cons (sbOf_sees hb) .nil).args, by simp [SB.v], ?_⟩
  have hA := spCount_v fa false
  have hE := spCount_v fe false
  have la := cntL_len b.a
  have le := cntL_len b.e
  obtain ⟨A, hA2⟩ : ∃ A, cntL b.a = A := ⟨_, rfl⟩
  obtain ⟨E, hE2⟩ : ∃ E, cntL b.e = E := ⟨_, rfl⟩
  rw [hA2] at hA la ⊢
  rw [hE2] at hE le ⊢
  have t1 : ∀ Z : List V, List.take 12 (A.map iv ++ Z) = A.map iv := fun Z => List.take_left' (by simp [la])
  have d1 : ∀ z : List V, z.length = 12 → List.drop 24 (A.map iv ++ z) = [] := fun z hz => List.drop_eq_nil_of_le (by simp [la, hz])
  have hAE : A.map iv ++ E.map iv = (A ++ E).map iv := by simp
  have hl : (A ++ E).length = 24 := by simp [la, le]
  have ht : List.take 24 ((A ++ E).map iv) = (A ++ E).map iv := List.take_of_length_le (by simp [la, le])
  have d2 : ∀ z : List V, z.length = 24 → List.drop 24 z = [] := fun z hz => List.drop_eq_nil_of_le (by omega)
  simp only [go_sem, seval, eq_self, reduceCtorEq, cU1_at, spCount_mv, hA, hE, la, le, t1, d1, hAE, hl, ht, SB.v, Nat.mul_one, Nat.zero_mul, Nat.one_mul, List.append_nil, List.nil_append, List.length_append, List.length_map]
  repeat' ((first | (refine AG_of ?_ ?_ <;> intro h) | (refine AB_of ?_ ?_ <;> intro h) | (refine A_draw_of [] [] (by kernel_rfl) ?_ <;> have h := mark)) <;> simp only [go_sem, seval, eq_self, reduceCtorEq, cU1_at, spCount_mv, hA, hE, la, le, t1, d1, hAE, hl, ht, SB.v, Nat.mul_one, Nat.zero_mul, Nat.one_mul, List.append_nil, List.nil_append, List.length_append, List.length_map, h])
  all_goals (first | refine fin_ret ?_ | refine fin_normal ?_)
  all_goals simp only [resOf, Tryz.results10, Tryz.ntmps10, go_sem, seval, eq_self, reduceCtorEq, la, le, hl, ht, hAE, List.append_nil, List.length_append, List.length_map]
  all_goals rfl

/-- what a place in a list of cells asks of the cell's kind -/
def kOk (n : Nat) (m : List Int) (i : Nat) (c : Cell) : Bool := if ctlB c.kind = true then !decide ((i : Int) < (n : Int) - 1) else decide (0 ≤ idxL c.kind m 0)
def kindsB (a : List Cell) (m : List Int) : Bool := (List.range a.length).all fun i => match a[i]? with
  | some c => kOk a.length m i c
  | none => true
theorem kindsB_no {a : List Cell} {m : List Int} {i : Nat} {c : Cell} (h : a[i]? = some c) (hk : kOk a.length m i c = false) : kindsB a m = false := by
  unfold kindsB
  rw [List.all_eq_false]
  exact ⟨i, by simpa using (List.getElem?_eq_some_iff.1 h).1, by rw [h]; simp [hk]⟩
theorem kindsB_yes {a : List Cell} {m : List Int} (h : ∀ i, i < a.length → ∀ c, a[i]? = some c → kOk a.length m i c = true) : kindsB a m = true := by
  unfold kindsB
  rw [List.all_eq_true]
  intro i hi
  have hi' : i < a.length := by simpa using hi
  rw [List.getElem?_eq_getElem hi']
  exact h i hi' _ (List.getElem?_eq_getElem hi')
def spKinds : Spec := ⟨[], fun xs => match xs with
  | [x, y] => (lOf 9 x).bind fun l => (l.mapM cellOf).bind fun a => (lOf 1 y).bind fun q => (q.mapM i64Of).bind fun m => if a.length ≤ 9223372036854775807 ∧ m.length ≤ 1000000000 then some (.s (.bool (kindsB a m))) else none
  | _ => none⟩
theorem spKinds_mv : spKinds.mv = [] := rfl
theorem spKinds_v {a : List Cell} {m : List Int} (h : a.length ≤ 9223372036854775807) (hm : m.length ≤ 1000000000) (k k' : Bool) : spKinds.fn [.lst k 9 (a.map Cell.v), .lst k' 1 (m.map iv)] = some (.s (.bool (kindsB a m))) := by
  have h1 : lOf 9 (.lst k 9 (a.map Cell.v)) = some (a.map Cell.v) := rfl
  have h2 : lOf 1 (.lst k' 1 (m.map iv)) = some (m.map iv) := rfl
  simp only [spKinds, h1, h2, Option.bind_some, mapM_of cellOf_v, mapM_of i64Of_v]
  rw [if_pos ⟨h, hm⟩]
theorem spContI_v {m : List Int} (hm : m.length ≤ 1000000000) (k : Bool) (v : Int) : spContI.fn [.lst k 1 (m.map iv), .s (.int .i64 v)] = some (.s (.bool (decide (0 ≤ idxL v m 0)))) := by
  have h2 : lOf 1 (.lst k 1 (m.map iv)) = some (m.map iv) := rfl
  simp only [spContI, h2, Option.bind_some, mapM_of i64Of_v]
  rw [if_pos hm]
def kindsI (a : List Cell) (m : List Int) (s : S) : Prop := s.env 0 = .lst false 9 (a.map Cell.v) ∧ s.env 1 = .lst false 1 (m.map iv) ∧ s.env 7 = .lst false 9 (a.map Cell.v) ∧ s.env 8 = .s (.int .i64 a.length) ∧
  ∃ k : Nat, s.env 9 = .s (.int .i64 k) ∧ k ≤ a.length ∧ ∀ i, i < k → ∀ c, a[i]? = some c → kOk a.length m i c = true
set_option maxHeartbeats 4000000 in
theorem kinds_impl : Impl Tryz.prog 22 spKinds := by
  refine impl_walk2 mixed cU1_ok eqT_ok Tryz.func22 rfl Tryz.ntmps22 (by kernel_rfl) ?_
  intro xs r h
  unfold spKinds at h
  simp only at h
  (try split at h) <;> try (cases (show none = some r from h); done)
  rename_i x y
  obtain ⟨l, hl, h3⟩ := Option.bind_eq_some_iff.1 h
  obtain ⟨a, ha, h4⟩ := Option.bind_eq_some_iff.1 h3
  obtain ⟨q, hq, h5⟩ := Option.bind_eq_some_iff.1 h4
  obtain ⟨m, hm, h6⟩ := Option.bind_eq_some_iff.1 h5
  clear h h3 h4 h5
  have e1 := mapM_eq (fun _ _ => cellOf_eq) ha
  have e2 := mapM_eq (fun _ _ => i64Of_eq) hm
  subst e1
  subst e2
  split at h6
  case isFalse => cases h6
  rename_i hh
  obtain ⟨hla, hlm⟩ := hh
  cases h6
  refine ⟨_, (SeesL.cons (lOf_sees hl) (.cons (lOf_sees hq) .nil)).args, by simp, ?_⟩
  simp only [go_sem, seval, eq_self, reduceCtorEq, List.length_map]
  repeat' ((first | (refine AG_of ?_ ?_ <;> intro h) | (refine AB_of ?_ ?_ <;> intro h) | (refine A_draw_of [] [] (by kernel_rfl) ?_ <;> have h := mark)) <;> simp only [go_sem, seval, eq_self, reduceCtorEq, List.length_map, h])
  refine A_loop (kindsI a m) (fun s => a.length - (numOf (s.env 9)).toNat) ?_ ?_
  · exact ⟨by simp [upd, init, V.unfr], by simp [upd, init, V.unfr], by simp [upd, init, V.unfr], by simp [upd], 0, by simp [upd], by omega, fun i hi => by omega⟩
  intro s hs
  obtain ⟨e0, e1, e7, e8, k, ek, hk, hok⟩ := hs
  rcases Nat.lt_or_ge k a.length with hlt | hge
  · obtain ⟨c, q⟩ : ∃ i, a[k]? = some i := ⟨a[k], List.getElem?_eq_getElem hlt⟩
    have g0 : decide ((k : Int) < a.length) = true := by simp; omega
    have z0 := Int.natCast_nonneg k
    have n2 : IntKind.i64.wrap ((k : Int) + 1) = (k + 1 : Nat) := by rw [w_i64 (by omega) (by omega)]; omega
    have n3 : IntKind.i64.wrap ((a.length : Int) - 1) = (a.length : Int) - 1 := by rw [w_i64 (by omega) (by omega)]
    have hC := spContI_v hlm false c.kind
    have next : kOk a.length m k c = true → ∀ i, i < k + 1 → ∀ c, a[i]? = some c → kOk a.length m i c = true := fun hkk i hi c' hc' => by
      by_cases hik : i = k
      · subst hik
        rw [q] at hc'
        cases hc'
        exact hkk
      · exact hok i (by omega) c' hc'
    cases hc : ctlB c.kind
    · have hC2 := spCtl_fn c.kind
      rw [hc] at hC2
      cases hin : decide (0 ≤ idxL c.kind m 0)
      · rw [hin] at hC
        rw [kindsB_no q (by unfold kOk; rw [hc]; simpa using hin)]
        simp only [go_sem, seval, eq_self, reduceCtorEq, e0, e1, e7, e8, ek, g0, z0, q, n2, n3, cU1_at, spCtl_mv, hC2, spContI_mv, hC, Cell.v, Int.toNat_natCast, List.getElem?_map, List.length_map]
        repeat' ((first | (refine AG_of ?_ ?_ <;> intro h) | (refine AB_of ?_ ?_ <;> intro h) | (refine A_draw_of [] [] (by kernel_rfl) ?_ <;> have h := mark)) <;> simp only [go_sem, seval, eq_self, reduceCtorEq, e0, e1, e7, e8, ek, g0, z0, q, n2, n3, cU1_at, spCtl_mv, hC2, spContI_mv, hC, Cell.v, Int.toNat_natCast, List.getElem?_map, List.length_map, h])
        all_goals (first | refine fin_ret ?_ | refine fin_normal ?_)
        all_goals simp only [resOf, Tryz.results22, Tryz.ntmps22, go_sem, seval, eq_self, reduceCtorEq]
      · rw [hin] at hC
        simp only [go_sem, seval, eq_self, reduceCtorEq, e0, e1, e7, e8, ek, g0, z0, q, n2, n3, cU1_at, spCtl_mv, hC2, spContI_mv, hC, Cell.v, Int.toNat_natCast, List.getElem?_map, List.length_map]
        repeat' ((first | (refine AG_of ?_ ?_ <;> intro h) | (refine AB_of ?_ ?_ <;> intro h) | (refine A_draw_of [] [] (by kernel_rfl) ?_ <;> have h := mark)) <;> simp only [go_sem, seval, eq_self, reduceCtorEq, e0, e1, e7, e8, ek, g0, z0, q, n2, n3, cU1_at, spCtl_mv, hC2, spContI_mv, hC, Cell.v, Int.toNat_natCast, List.getElem?_map, List.length_map, h])
        exact ⟨⟨by simp [upd, e0, Cell.v], by simp [upd, e1], by simp [upd, e7, Cell.v], by simp [upd, e8], k + 1, by simp [upd], by omega, next (by unfold kOk; rw [hc]; simpa using hin)⟩, by simp [upd, numOf, ek]; omega⟩
    · have hC2 := spCtl_fn c.kind
      rw [hc] at hC2
      cases hin : decide ((k : Int) < (a.length : Int) - 1)
      ·
        simp only [go_sem, seval, eq_self, reduceCtorEq, e0, e1, e7, e8, ek, g0, z0, q, n2, n3, hin, cU1_at, spCtl_mv, hC2, Cell.v, Int.toNat_natCast, List.getElem?_map, List.length_map]
        repeat' ((first | (refine AG_of ?_ ?_ <;> intro h) | (refine AB_of ?_ ?_ <;> intro h) | (refine A_draw_of [] [] (by kernel_rfl) ?_ <;> have h := mark)) <;> simp only [go_sem, seval, eq_self, reduceCtorEq, e0, e1, e7, e8, ek, g0, z0, q, n2, n3, hin, cU1_at, spCtl_mv, hC2, Cell.v, Int.toNat_natCast, List.getElem?_map, List.length_map, h])
        exact ⟨⟨by simp [upd, e0, Cell.v], by simp [upd, e1], by simp [upd, e7, Cell.v], by simp [upd, e8], k + 1, by simp [upd], by omega, next (by unfold kOk; rw [hc, if_pos rfl, hin]; rfl)⟩, by simp [upd, numOf, ek]; omega⟩
      · rw [kindsB_no q (by unfold kOk; rw [hc, if_pos rfl, hin]; rfl)]
        simp only [go_sem, seval, eq_self, reduceCtorEq, e0, e1, e7, e8, ek, g0, z0, q, n2, n3, hin, cU1_at, spCtl_mv, hC2, Cell.v, Int.toNat_natCast, List.getElem?_map, List.length_map]
        repeat' ((first | (refine AG_of ?_ ?_ <;> intro h) | (refine AB_of ?_ ?_ <;> intro h) | (refine A_draw_of [] [] (by kernel_rfl) ?_ <;> have h := mark)) <;> simp only [go_sem, seval, eq_self, reduceCtorEq, e0, e1, e7, e8, ek, g0, z0, q, n2, n3, hin, cU1_at, spCtl_mv, hC2, Cell.v, Int.toNat_natCast, List.getElem?_map, List.length_map, h])
        all_goals (first | refine fin_ret ?_ | refine fin_normal ?_)
        all_goals simp only [resOf, Tryz.results22, Tryz.ntmps22, go_sem, seval, eq_self, reduceCtorEq]
  · have hkl : k = a.length := by omega
    have g0 : decide ((k : Int) < a.length) = false := by simp; omega
    rw [kindsB_yes (fun i hi c hc => hok i (by omega) c hc)]
    simp only [go_sem, seval, eq_self, reduceCtorEq, e0, e1, e7, e8, ek, g0, List.length_map]
    repeat' ((first | (refine AG_of ?_ ?_ <;> intro h) | (refine AB_of ?_ ?_ <;> intro h) | (refine A_draw_of [] [] (by kernel_rfl) ?_ <;> have h := mark)) <;> simp only [go_sem, seval, eq_self, reduceCtorEq, e0, e1, e7, e8, ek, g0, List.length_map, h])
    all_goals (first | refine fin_ret ?_ | refine fin_normal ?_)
    all_goals simp only [resOf, Tryz.results22, Tryz.ntmps22, go_sem, seval, eq_self, reduceCtorEq]

/-- the control cell's kind at the end -/
def lastK (a : List Cell) : Int := match a.getLast? with
  | some c => if ctlB c.kind = true then c.kind else 0
  | none => 0
def spLast : Spec := ⟨[], fun xs => match xs with
  | [x] => (lOf 9 x).bind fun l => (l.mapM cellOf).bind fun a => if a.length ≤ 9223372036854775807 then some (.s (.int .i64 (lastK a))) else none
  | _ => none⟩
theorem spLast_mv : spLast.mv = [] := rfl
theorem spLast_v {a : List Cell} (h : a.length ≤ 9223372036854775807) (k : Bool) : spLast.fn [.lst k 9 (a.map Cell.v)] = some (.s (.int .i64 (lastK a))) := by
  have h1 : lOf 9 (.lst k 9 (a.map Cell.v)) = some (a.map Cell.v) := rfl
  simp only [spLast, h1, Option.bind_some, mapM_of cellOf_v]
  rw [if_pos h]
set_option maxHeartbeats 4000000 in
theorem last_impl : Impl Tryz.prog 41 spLast := by
  refine impl_walk2 mixed cU1_ok eqT_ok Tryz.func41 rfl Tryz.ntmps41 (by kernel_rfl) ?_
  intro xs r h
  unfold spLast at h
  simp only at h
  (try split at h) <;> try (cases (show none = some r from h); done)
  rename_i x
  obtain ⟨l, hl, h3⟩ := Option.bind_eq_some_iff.1 h
  obtain ⟨a, ha, h4⟩ := Option.bind_eq_some_iff.1 h3
  clear h h3
  have e1 := mapM_eq (fun _ _ => cellOf_eq) ha
  subst e1
  split at h4
  case isFalse => cases h4
  rename_i hla
  cases h4
  refine ⟨_, (SeesL.cons (lOf_sees hl) .nil).args, by simp, ?_⟩
  rcases Nat.eq_zero_or_pos a.length with h0 | h0
  · have : a = [] := List.eq_nil_of_length_eq_zero h0
    subst this
    simp only [go_sem, seval, eq_self, reduceCtorEq, List.length_map, List.length_nil, List.map_nil]
    repeat' ((first | (refine AG_of ?_ ?_ <;> intro h) | (refine AB_of ?_ ?_ <;> intro h) | (refine A_draw_of [] [] (by kernel_rfl) ?_ <;> have h := mark)) <;> simp only [go_sem, seval, eq_self, reduceCtorEq, List.length_map, List.length_nil, List.map_nil, h])
    all_goals (first | refine fin_ret ?_ | refine fin_normal ?_)
    all_goals simp only [resOf, Tryz.results41, Tryz.ntmps41, go_sem, seval, eq_self, reduceCtorEq]
    all_goals rfl
  · obtain ⟨E, hE⟩ : ∃ E : Nat, a.length = E + 1 := ⟨a.length - 1, by omega⟩
    obtain ⟨c, q⟩ : ∃ c, a[E]? = some c := ⟨a[E]'(by omega), List.getElem?_eq_getElem (by omega)⟩
    have hlast : a.getLast? = some c := by rw [List.getLast?_eq_getElem?, show a.length - 1 = E by omega]; exact q
    have wE : IntKind.i64.wrap ((a.length : Int) - 1) = (E : Nat) := by rw [w_i64 (by omega) (by omega)]; omega
    have g0 : decide (0 < (a.length : Int)) = true := by simp; omega
    have zE := Int.natCast_nonneg E
    have hC := spCtl_fn c.kind
    unfold lastK
    rw [hlast]
    simp only
    cases hc : ctlB c.kind
    · rw [hc] at hC
      rw [if_neg (by simp)]
      simp only [go_sem, seval, eq_self, reduceCtorEq, g0, wE, zE, q, cU1_at, spCtl_mv, hC, Cell.v, Int.toNat_natCast, List.getElem?_map, List.length_map]
      repeat' ((first | (refine AG_of ?_ ?_ <;> intro h) | (refine AB_of ?_ ?_ <;> intro h) | (refine A_draw_of [] [] (by kernel_rfl) ?_ <;> have h := mark)) <;> simp only [go_sem, seval, eq_self, reduceCtorEq, g0, wE, zE, q, cU1_at, spCtl_mv, hC, Cell.v, Int.toNat_natCast, List.getElem?_map, List.length_map, h])
      all_goals (first | refine fin_ret ?_ | refine fin_normal ?_)
      all_goals simp only [resOf, Tryz.results41, Tryz.ntmps41, go_sem, seval, eq_self, reduceCtorEq]
    · rw [hc] at hC
      rw [if_pos rfl]
      simp only [go_sem, seval, eq_self, reduceCtorEq, g0, wE, zE, q, cU1_at, spCtl_mv, hC, Cell.v, Int.toNat_natCast, List.getElem?_map, List.length_map]
      repeat' ((first | (refine AG_of ?_ ?_ <;> intro h) | (refine AB_of ?_ ?_ <;> intro h) | (refine A_draw_of [] [] (by kernel_rfl) ?_ <;> have h := mark)) <;> simp only [go_sem, seval, eq_self, reduceCtorEq, g0, wE, zE, q, cU1_at, spCtl_mv, hC, Cell.v, Int.toNat_natCast, List.getElem?_map, List.length_map, h])
      all_goals (first | refine fin_ret ?_ | refine fin_normal ?_)
      all_goals simp only [resOf, Tryz.results41, Tryz.ntmps41, go_sem, seval, eq_self, reduceCtorEq]

def endsB (a e : List Cell) : Bool := if lastK a = 9 then lastK e == 10 else if lastK a = 10 then lastK e == 9 else lastK a == lastK e
def spEndsC : Spec := ⟨[], fun xs => match xs with
  | [x] => (sbOf x).bind fun b => if sbFit b = true then some (.s (.bool (endsB b.a b.e))) else none
  | _ => none⟩
theorem spEndsC_mv : spEndsC.mv = [] := rfl
theorem spEndsC_v {b : SB} (h : sbFit b = true) : spEndsC.fn [b.v] = some (.s (.bool (endsB b.a b.e))) := by
  simp only [spEndsC, sbOf_v, Option.bind_some, if_pos h]
def cU2 : Orc := upd (upd (upd cU1 41 (some spLast)) 22 (some spKinds)) 10 (some spCounts)
theorem cU2_ok : ∀ g sp, cU2 g = some sp → Impl Tryz.prog g sp := orc_upd (orc_upd (orc_upd cU1_ok last_impl) kinds_impl) counts_impl
theorem cU2_at : cU2 41 = some spLast := rfl
set_option maxHeartbeats 4000000 in
theorem endsC_impl : Impl Tryz.prog 23 spEndsC := by
  refine impl_walk2 mixed cU2_ok eqT_ok Tryz.func23 rfl Tryz.ntmps23 (by kernel_rfl) ?_
  intro xs r h
  unfold spEndsC at h
  simp only at h
  (try split at h) <;> try (cases (show none = some r from h); done)
  rename_i x
  obtain ⟨b, hb, h4⟩ := Option.bind_eq_some_iff.1 h
  clear h
  split at h4
  case isFalse => cases h4
  rename_i hfit
  cases h4
  obtain ⟨fa, fe⟩ := sbFit_iff hfit
  refine ⟨_, (SeesL.cons (sbOf_sees hb) .nil).args, by simp [SB.v], ?_⟩
  have hA := spLast_v fa false
  have hE := spLast_v fe false
  unfold endsB
  obtain ⟨x, hx⟩ : ∃ x, lastK b.a = x := ⟨_, rfl⟩
  obtain ⟨y, hy⟩ : ∃ y, lastK b.e = y := ⟨_, rfl⟩
  rw [hx] at hA ⊢
  rw [hy] at hE ⊢
  by_cases h9 : x = 9
  · rw [if_pos h9]
    have g1 : (x == 9) = true := by simp [h9]
    simp only [go_sem, seval, eq_self, reduceCtorEq, cU2_at, spLast_mv, hA, hE, g1, SB.v]
    repeat' ((first | (refine AG_of ?_ ?_ <;> intro h) | (refine AB_of ?_ ?_ <;> intro h) | (refine A_draw_of [] [] (by kernel_rfl) ?_ <;> have h := mark)) <;> simp only [go_sem, seval, eq_self, reduceCtorEq, cU2_at, spLast_mv, hA, hE, g1, SB.v, h])
    all_goals (first | refine fin_ret ?_ | refine fin_normal ?_)
    all_goals simp only [resOf, Tryz.results23, Tryz.ntmps23, go_sem, seval, eq_self, reduceCtorEq]
  · rw [if_neg h9]
    have g1 : (x == 9) = false := by simp [h9]
    by_cases h10 : x = 10
    · rw [if_pos h10]
      have g2 : (x == 10) = true := by simp [h10]
      simp only [go_sem, seval, eq_self, reduceCtorEq, cU2_at, spLast_mv, hA, hE, g1, g2, SB.v]
      repeat' ((first | (refine AG_of ?_ ?_ <;> intro h) | (refine AB_of ?_ ?_ <;> intro h) | (refine A_draw_of [] [] (by kernel_rfl) ?_ <;> have h := mark)) <;> simp only [go_sem, seval, eq_self, reduceCtorEq, cU2_at, spLast_mv, hA, hE, g1, g2, SB.v, h])
      all_goals (first | refine fin_ret ?_ | refine fin_normal ?_)
      all_goals simp only [resOf, Tryz.results23, Tryz.ntmps23, go_sem, seval, eq_self, reduceCtorEq]
    · rw [if_neg h10]
      have g2 : (x == 10) = false := by simp [h10]
      simp only [go_sem, seval, eq_self, reduceCtorEq, cU2_at, spLast_mv, hA, hE, g1, g2, SB.v]
      repeat' ((first | (refine AG_of ?_ ?_ <;> intro h) | (refine AB_of ?_ ?_ <;> intro h) | (refine A_draw_of [] [] (by kernel_rfl) ?_ <;> have h := mark)) <;> simp only [go_sem, seval, eq_self, reduceCtorEq, cU2_at, spLast_mv, hA, hE, g1, g2, SB.v, h])
      all_goals (first | refine fin_ret ?_ | refine fin_normal ?_)
      all_goals simp only [resOf, Tryz.results23, Tryz.ntmps23, go_sem, seval, eq_self, reduceCtorEq]

end Go.Proofs.YtkfmecmmbnehjaaGreat
namespace Go.Proofs.YtkfmecmmbnehjaaGreat
set_option linter.unusedSimpArgs false
set_option linter.unusedVariables false

def spSome1 : Spec := ⟨[], fun xs => match xs with
  | [.agg [.s (.int .i64 kd), .s (.int .i64 _), .s (.int .i64 _), .s (.int .i64 _), .s (.int .i64 _), .s (.int .i64 _), .s (.int .i64 _), .s (.int .i64 _), .s (.int .i64 _)], .ept [.s (.int .i64 k)]] => some (.s (.bool (kd != k)))
  | _ => none⟩
theorem spSome1_mv : spSome1.mv = [] := rfl
theorem spSome1_v (c : Cell) (k : Int) : spSome1.fn [c.v, .ept [.s (.int .i64 k)]] = some (.s (.bool (c.kind != k))) := rfl
theorem some1_impl : Impl Tryz.prog 44 spSome1 := by
  refine impl_walk mixed orc0_ok eqT_ok Tryz.func44 rfl Tryz.ntmps44 (by kernel_rfl) ?_
  intro xs r h
  unfold spSome1 at h
  simp only at h
  (try split at h) <;> try (cases (show none = some r from h); done)
  cases h
  refine ⟨by simp, ?_⟩
  simp only [go_sem, seval, eq_self, reduceCtorEq]
  repeat' ((first | (refine AG_of ?_ ?_ <;> intro h) | (refine AB_of ?_ ?_ <;> intro h) | (refine A_draw_of [] [] (by kernel_rfl) ?_ <;> have h := mark)) <;> simp only [go_sem, seval, eq_self, reduceCtorEq, h])
  all_goals (first | refine fin_ret ?_ | refine fin_normal ?_)
  all_goals simp only [resOf, Tryz.results44, Tryz.ntmps44, go_sem, seval, eq_self, reduceCtorEq]
/-- the place of the first cell of another kind -/
def neI (k : Int) : List Cell → Nat → Int
  | [], _ => -1
  | c :: l, n => if (c.kind != k) = true then (n : Int) else neI k l (n + 1)
theorem neI_cases (k : Int) : ∀ (l : List Cell) (n : Nat), (neI k l n = -1 ∧ ∀ c ∈ l, c.kind = k) ∨ ∃ i, i < l.length ∧ neI k l n = ((n + i : Nat) : Int) ∧ (∀ j, j < i → ∀ c, l[j]? = some c → c.kind = k) ∧ ∀ c, l[i]? = some c → c.kind ≠ k
  | [], n => .inl ⟨rfl, fun c hc => by cases hc⟩
  | c :: l, n => by
    unfold neI
    by_cases h : (c.kind != k) = true
    · rw [if_pos h]
      exact .inr ⟨0, by simp, by simp, fun j hj => by omega, fun c' hc' => by simp at hc'; subst hc'; simpa using h⟩
    · rw [if_neg h]
      have hk : c.kind = k := by simpa using h
      rcases neI_cases k l (n + 1) with ⟨h1, h2⟩ | ⟨i, h1, h2, h3, h4⟩
      · exact .inl ⟨h1, fun c' hc' => by
          rcases List.mem_cons.1 hc' with rfl | hc'
          · exact hk
          · exact h2 c' hc'⟩
      · refine .inr ⟨i + 1, by simp; omega, by rw [h2]; omega, fun j hj c' hc' => ?_, fun c' hc' => h4 c' (by simpa using hc')⟩
        cases j with
        | zero => simp at hc'; subst hc'; exact hk
        | succ j => exact h3 j (by omega) c' (by simpa using hc')
def spIdxK : Spec := ⟨[], fun xs => match xs with
  | [x, .fn 44 [.ept [.s (.int .i64 k)]]] => (lOf 9 x).bind fun l => (l.mapM cellOf).bind fun a => if a.length ≤ 9223372036854775807 then some (.s (.int .i64 (neI k a 0))) else none
  | _ => none⟩
theorem spIdxK_mv : spIdxK.mv = [] := rfl
theorem spIdxK_v {a : List Cell} (h : a.length ≤ 9223372036854775807) (b : Bool) (k : Int) : spIdxK.fn [.lst b 9 (a.map Cell.v), .fn 44 [.ept [.s (.int .i64 k)]]] = some (.s (.int .i64 (neI k a 0))) := by
  have h1 : lOf 9 (.lst b 9 (a.map Cell.v)) = some (a.map Cell.v) := rfl
  simp only [spIdxK, h1, Option.bind_some, mapM_of cellOf_v]
  rw [if_pos h]
def cU3 : Orc := upd cU2 44 (some spSome1)
theorem cU3_ok : ∀ g sp, cU3 g = some sp → Impl Tryz.prog g sp := orc_upd cU2_ok some1_impl
theorem cU3_at : cU3 44 = some spSome1 := rfl
def idxKI (k : Int) (a : List Cell) (s : S) : Prop := s.env 0 = .lst false 9 (a.map Cell.v) ∧ s.env 1 = .fn 44 [.ept [.s (.int .i64 k)]] ∧ s.env 7 = .s (.int .i64 a.length) ∧
  ∃ n : Nat, s.env 8 = .s (.int .i64 n) ∧ n ≤ a.length ∧ neI k a 0 = neI k (a.drop n) n
set_option maxHeartbeats 2000000 in
theorem idxK_impl : Impl Tryz.prog 70 spIdxK := by
  refine impl_walk2 mixed cU3_ok eqT_ok Tryz.func70 rfl Tryz.ntmps70 (by kernel_rfl) ?_
  intro xs r h
  unfold spIdxK at h
  simp only at h
  (try split at h) <;> try (cases (show none = some r from h); done)
  rename_i x k
  obtain ⟨l, hl, h3⟩ := Option.bind_eq_some_iff.1 h
  obtain ⟨a, h2, h4⟩ := Option.bind_eq_some_iff.1 h3
  have e := mapM_eq (fun _ _ => cellOf_eq) h2
  clear h h3
  subst e
  split at h4
  case isFalse => cases h4
  rename_i hlen
  cases h4
  refine ⟨_, lst_args hl _, by simp, ?_⟩
  simp only [go_sem, seval, eq_self, reduceCtorEq, List.length_map]
  repeat' ((first | (refine AG_of ?_ ?_ <;> intro h) | (refine AB_of ?_ ?_ <;> intro h) | (refine A_draw_of [] [] (by kernel_rfl) ?_ <;> have h := mark)) <;> simp only [go_sem, seval, eq_self, reduceCtorEq, List.length_map, h])
  refine A_loop (idxKI k a) (fun s => a.length - (numOf (s.env 8)).toNat) ?_ ?_
  · exact ⟨by simp [upd, init, V.unfr], by simp [upd, init, V.unfr, V.unfrL], by simp [upd], 0, by simp [upd], by omega, rfl⟩
  intro s hs
  obtain ⟨e0, e1, e7, n, e8, hn, hfi⟩ := hs
  rcases Nat.lt_or_ge n a.length with hlt | hge
  · obtain ⟨c, q⟩ : ∃ i, a[n]? = some i := ⟨a[n], List.getElem?_eq_getElem hlt⟩
    have g0 : decide ((n : Int) < a.length) = true := by simp; omega
    have z0 := Int.natCast_nonneg n
    have n2 : IntKind.i64.wrap ((n : Int) + 1) = (n + 1 : Nat) := by rw [w_i64 (by omega) (by omega)]; omega
    have hd : a.drop n = c :: a.drop (n + 1) := by
      rw [List.drop_eq_getElem_cons hlt]
      rw [List.getElem?_eq_getElem hlt, Option.some.injEq] at q
      rw [q]
    rw [hd, neI] at hfi
    have hfn := spSome1_v c k
    simp only [Cell.v] at hfn
    cases hc : (c.kind != k)
    · rw [hc] at hfi hfn
      rw [if_neg (by simp)] at hfi
      simp only [go_sem, seval, eq_self, reduceCtorEq, e0, e1, e7, e8, q, g0, z0, n2, cU3_at, spSome1_mv, hfn, Cell.v, Int.toNat_natCast, List.getElem?_map, List.length_map]
      repeat' ((first | (refine AG_of ?_ ?_ <;> intro h) | (refine AB_of ?_ ?_ <;> intro h) | (refine A_draw_of [] [] (by kernel_rfl) ?_ <;> have h := mark)) <;> simp only [go_sem, seval, eq_self, reduceCtorEq, e0, e1, e7, e8, q, g0, z0, n2, cU3_at, spSome1_mv, hfn, Cell.v, Int.toNat_natCast, List.getElem?_map, List.length_map, h])
      exact ⟨⟨by simp [upd, e0, Cell.v], by simp [upd, e1], by simp [upd, e7], n + 1, by simp [upd], by omega, hfi⟩, by simp [upd, numOf, e8]; omega⟩
    · rw [hc] at hfi hfn
      rw [if_pos rfl] at hfi
      rw [hfi]
      simp only [go_sem, seval, eq_self, reduceCtorEq, e0, e1, e7, e8, q, g0, z0, n2, cU3_at, spSome1_mv, hfn, Cell.v, Int.toNat_natCast, List.getElem?_map, List.length_map]
      repeat' ((first | (refine AG_of ?_ ?_ <;> intro h) | (refine AB_of ?_ ?_ <;> intro h) | (refine A_draw_of [] [] (by kernel_rfl) ?_ <;> have h := mark)) <;> simp only [go_sem, seval, eq_self, reduceCtorEq, e0, e1, e7, e8, q, g0, z0, n2, cU3_at, spSome1_mv, hfn, Cell.v, Int.toNat_natCast, List.getElem?_map, List.length_map, h])
      all_goals (first | refine fin_ret ?_ | refine fin_normal ?_)
      all_goals simp only [resOf, Tryz.results70, Tryz.ntmps70, go_sem, seval, eq_self, reduceCtorEq]
  · have hkl : n = a.length := by omega
    have g0 : decide ((n : Int) < a.length) = false := by simp; omega
    rw [hkl, List.drop_length] at hfi
    rw [hfi]
    simp only [go_sem, seval, eq_self, reduceCtorEq, e0, e1, e7, e8, g0, neI, List.length_map]
    repeat' ((first | (refine AG_of ?_ ?_ <;> intro h) | (refine AB_of ?_ ?_ <;> intro h) | (refine A_draw_of [] [] (by kernel_rfl) ?_ <;> have h := mark)) <;> simp only [go_sem, seval, eq_self, reduceCtorEq, e0, e1, e7, e8, g0, neI, List.length_map, h])
    all_goals (first | refine fin_ret ?_ | refine fin_normal ?_)
    all_goals simp only [resOf, Tryz.results70, Tryz.ntmps70, go_sem, seval, eq_self, reduceCtorEq]

/-- the cells of a kind -/
def ofK (k : Int) (a : List Cell) : List Cell := a.filter fun c => c.kind == k
theorem ofK_all {k : Int} {a : List Cell} (h : ∀ c ∈ a, c.kind = k) : ofK k a = a := List.filter_eq_self.2 fun c hc => by simp [h c hc]
theorem ofK_snoc (k : Int) (a : List Cell) (c : Cell) : ofK k (a ++ [c]) = if c.kind = k then ofK k a ++ [c] else ofK k a := by
  unfold ofK
  rw [List.filter_append]
  by_cases h : c.kind = k
  · simp [h]
  · simp [h]
theorem ofK_len (k : Int) (a : List Cell) : (ofK k a).length ≤ a.length := List.length_filter_le _ _
def spDelK : Spec := ⟨[true, false], fun xs => match xs with
  | [.own 9 51 l, .fn 44 [.ept [.s (.int .i64 k)]]] => (l.mapM cellOf).bind fun a => if a.length * 72 ≤ 140737488355328 then some (if neI k a 0 = -1 then .own 9 51 (a.map Cell.v) else .lst true 9 ((ofK k a).map Cell.v)) else none
  | _ => none⟩
def cU4 : Orc := upd cU3 70 (some spIdxK)
theorem cU4_ok : ∀ g sp, cU4 g = some sp → Impl Tryz.prog g sp := orc_upd cU3_ok idxK_impl
theorem cU4_at : cU4 70 = some spIdxK ∧ cU4 44 = some spSome1 := ⟨rfl, rfl⟩
def delI (k : Int) (a : List Cell) (s : S) : Prop := s.env 0 = .sw 0 1 a.length ∧ s.env 1 = .fn 44 [.ept [.s (.int .i64 k)]] ∧
  ∃ (j i : Nat) (R : List Cell), s.env 6 = .s (.int .i64 j) ∧ s.env 5 = .s (.int .i64 i) ∧ s.st 0 = ⟨1, .row 9 51 (R.map Cell.v)⟩ ∧ R.length = a.length ∧ j ≤ a.length ∧ i < j ∧ R.take i = ofK k (a.take j) ∧ R.drop j = a.drop j
theorem set_take_drop {α : Type} {R : List α} {i j : Nat} (c : α) (hij : i < j) (hi : i < R.length) : (R.set i c).take (i + 1) = R.take i ++ [c] ∧ (R.set i c).drop j = R.drop j := by
  constructor
  · rw [List.take_add_one, List.take_set, List.set_eq_of_length_le (by rw [List.length_take]; omega), List.getElem?_set_self hi]; rfl
  · rw [List.drop_set, if_pos hij]
set_option maxRecDepth 8000 in
set_option maxHeartbeats 4000000 in
theorem delK_impl : Impl Tryz.prog 42 spDelK := by
  refine impl_walk mixed cU4_ok eqT_ok Tryz.func42 rfl Tryz.ntmps42 (by kernel_rfl) ?_
  intro xs r h
  unfold spDelK at h
  simp only at h
  (try split at h) <;> try (cases (show none = some r from h); done)
  rename_i l k
  obtain ⟨a, h2, h4⟩ := Option.bind_eq_some_iff.1 h
  have e := mapM_eq (fun _ _ => cellOf_eq) h2
  clear h
  subst e
  split at h4
  case isFalse => cases h4
  rename_i hlen
  cases h4
  refine ⟨by simp, ?_⟩
  have hI := spIdxK_v (a := a) (by omega) false k
  rcases neI_cases k a 0 with ⟨h1, h2⟩ | ⟨i, h1, h2, h3, h4⟩
  · rw [h1] at hI ⊢
    rw [if_pos rfl]
    simp only [go_sem, seval, eq_self, reduceCtorEq, cU4_at, spIdxK_mv, hI, List.length_map]
    repeat' ((first | (refine AG_of ?_ ?_ <;> intro h) | (refine AB_of ?_ ?_ <;> intro h) | (refine A_draw_of [] [] (by kernel_rfl) ?_ <;> have h := mark)) <;> simp only [go_sem, seval, eq_self, reduceCtorEq, cU4_at, spIdxK_mv, hI, List.length_map, h])
    all_goals (first | refine fin_ret ?_ | refine fin_normal ?_)
    all_goals simp only [resOf, Tryz.results42, Tryz.ntmps42, go_sem, seval, eq_self, reduceCtorEq]
  rw [Nat.zero_add] at h2
  rw [h2] at hI ⊢
  rw [if_neg (by omega)]
  have b0 : ((i : Int) == -1) = false := by rw [beq_eq_false_iff_ne]; omega
  have w1 : IntKind.i64.wrap ((i : Int) + 1) = (i + 1 : Nat) := by rw [w_i64 (by omega) (by omega)]; omega
  simp only [go_sem, seval, eq_self, reduceCtorEq, cU4_at, spIdxK_mv, hI, b0, w1, List.length_map]
  repeat' ((first | (refine AG_of ?_ ?_ <;> intro h) | (refine AB_of ?_ ?_ <;> intro h) | (refine A_draw_of [] [] (by kernel_rfl) ?_ <;> have h := mark)) <;> simp only [go_sem, seval, eq_self, reduceCtorEq, cU4_at, spIdxK_mv, hI, b0, w1, List.length_map, h])
  refine A_loop (delI k a) (fun s => a.length - (numOf (s.env 6)).toNat) ?_ ?_
  · refine ⟨by simp [upd, init], by simp [upd, init, V.unfr, V.unfrL], i + 1, i, a, by simp [upd], by simp [upd], by simp [upd, init], rfl, by omega, by omega, ?_, rfl⟩
    obtain ⟨c, q⟩ : ∃ c, a[i]? = some c := ⟨a[i], List.getElem?_eq_getElem h1⟩
    rw [List.take_add_one, q, Option.toList_some, ofK_snoc, if_neg (h4 c q), ofK_all]
    intro c' hc'
    obtain ⟨j, hj, rfl⟩ := List.getElem_of_mem hc'
    have hji : j < i := by rw [List.length_take] at hj; omega
    exact h3 j hji _ (by rw [List.getElem_take, List.getElem?_eq_getElem])
  intro s hs
  obtain ⟨e0, e1, j, i, R, e6, e5, t0, hR, hj, hij, htk, hdr⟩ := hs
  rcases Nat.lt_or_ge j a.length with hlt | hge
  · obtain ⟨c, q⟩ : ∃ c, a[j]? = some c := ⟨a[j], List.getElem?_eq_getElem hlt⟩
    have qR : R[j]? = some c := by
      have h5 := congrArg (fun l => l[0]?) hdr
      simp only [List.getElem?_drop, Nat.add_zero] at h5
      rw [h5, q]
    have g0 : decide ((j : Int) < a.length) = true := by simp; omega
    have z0 := Int.natCast_nonneg j
    have hjR : (j : Int) < (R.length : Int) := by omega
    have n2 : IntKind.i64.wrap ((j : Int) + 1) = (j + 1 : Nat) := by rw [w_i64 (by omega) (by omega)]; omega
    have n3 : IntKind.i64.wrap ((i : Int) + 1) = (i + 1 : Nat) := by rw [w_i64 (by omega) (by omega)]; omega
    have zi := Int.natCast_nonneg i
    have hiR : (i : Int) < (R.length : Int) := by omega
    obtain ⟨d, qi⟩ : ∃ d, R[i]? = some d := ⟨R[i]'(by omega), List.getElem?_eq_getElem (by omega)⟩
    have hfn := spSome1_v c k
    simp only [Cell.v] at hfn
    have hajs : a.take (j + 1) = a.take j ++ [c] := by rw [List.take_add_one, q]; rfl
    have hdr2 : R.drop (j + 1) = a.drop (j + 1) := by
      have := congrArg (List.drop 1) hdr
      simpa [List.drop_drop] using this
    cases hc : (c.kind != k)
    · have hck : c.kind = k := by simpa using hc
      rw [hc] at hfn
      obtain ⟨s1, s2⟩ := set_take_drop (R := R) (i := i) (j := j + 1) c (by omega) (by omega)
      have hset : (R.map Cell.v).set i (.agg [.s (.int .i64 c.kind), .s (.int .i64 c.ins.op), .s (.int .i64 c.ins.d), .s (.int .i64 c.ins.a), .s (.int .i64 c.ins.b), .s (.int .i64 c.ins.imm), .s (.int .i64 c.reg), .s (.int .i64 c.pc), .s (.int .i64 c.off)]) = (R.set i c).map Cell.v := by
        rw [List.map_set]; rfl
      obtain ⟨X, hX⟩ : ∃ X, R.map Cell.v = X := ⟨_, rfl⟩
      have qX : X[j]? = some c.v := by rw [← hX, List.getElem?_map, qR]; rfl
      have qXi : X[i]? = some d.v := by rw [← hX, List.getElem?_map, qi]; rfl
      have hXl : X.length = R.length := by rw [← hX, List.length_map]
      rw [hX] at t0 hset
      simp only [go_sem, seval, eq_self, reduceCtorEq, e0, e1, e5, e6, t0, g0, z0, hjR, qX, qXi, hXl, n2, n3, zi, hiR, cU4_at, spSome1_mv, hfn, hset, Cell.v, Int.toNat_natCast]
      repeat' ((first | (refine AG_of ?_ ?_ <;> intro h) | (refine AB_of ?_ ?_ <;> intro h) | (refine A_draw_of [] [] (by kernel_rfl) ?_ <;> have h := mark)) <;> simp only [go_sem, seval, eq_self, reduceCtorEq, e0, e1, e5, e6, t0, g0, z0, hjR, qX, qXi, hXl, n2, n3, zi, hiR, cU4_at, spSome1_mv, hfn, hset, Cell.v, Int.toNat_natCast, h])
      refine ⟨⟨by simp [upd, e0], by simp [upd, e1], j + 1, i + 1, R.set i c, by simp [upd], by simp [upd], by simp [upd], by simpa using hR, by omega, by omega, ?_, by rw [s2, hdr2]⟩, by simp [upd, numOf, e6]; omega⟩
      rw [s1, hajs, ofK_snoc, if_pos hck, htk]
    · have hck : c.kind ≠ k := by simpa using hc
      rw [hc] at hfn
      simp only [go_sem, seval, eq_self, reduceCtorEq, e0, e1, e5, e6, t0, g0, z0, hjR, qR, n2, n3, zi, hiR, cU4_at, spSome1_mv, hfn, Cell.v, Int.toNat_natCast, List.getElem?_map, List.length_map]
      repeat' ((first | (refine AG_of ?_ ?_ <;> intro h) | (refine AB_of ?_ ?_ <;> intro h) | (refine A_draw_of [] [] (by kernel_rfl) ?_ <;> have h := mark)) <;> simp only [go_sem, seval, eq_self, reduceCtorEq, e0, e1, e5, e6, t0, g0, z0, hjR, qR, n2, n3, zi, hiR, cU4_at, spSome1_mv, hfn, Cell.v, Int.toNat_natCast, List.getElem?_map, List.length_map, h])
      refine ⟨⟨by simp [upd, e0], by simp [upd, e1], j + 1, i, R, by simp [upd], by simp [upd, e5], by simp [upd, t0, Cell.v], hR, by omega, by omega, by rw [hajs, ofK_snoc, if_neg hck, htk], hdr2⟩, by simp [upd, numOf, e6]; omega⟩
  · have hja : j = a.length := by omega
    have g0 : decide ((j : Int) < a.length) = false := by simp; omega
    rw [hja, List.take_length] at htk
    have hiR : (i : Int) ≤ (a.length : Int) := by omega
    have zi := Int.natCast_nonneg i
    have hfit : i + (a.length - i) ≤ a.length := by omega
    have hle : ∀ Z, i ≤ (List.take i (R.map Cell.v) ++ Z).length := fun Z => by rw [List.length_append, List.length_take, List.length_map]; omega
    have hle2 : ∀ Z, ((i : Nat) : Int) ≤ (((List.take i (R.map Cell.v) ++ Z).length : Nat) : Int) := fun Z => by have := hle Z; omega
    have hone : (#[Value.int .i64 0, Value.int .i64 0, Value.int .i64 0, Value.int .i64 0, Value.int .i64 0, Value.int .i64 0, Value.int .i64 0, Value.int .i64 0, Value.int .i64 0] : Array Value).all Value.oneCell' 0 9 = true := by kernel_rfl
    have hfin : ∀ Z, List.take i (List.take i (R.map Cell.v) ++ Z) = (ofK k a).map Cell.v := fun Z => by
      rw [← htk, List.map_take, List.take_left' (by rw [List.length_take, List.length_map]; omega)]
    simp only [go_sem, seval, eq_self, reduceCtorEq, e0, e1, e5, e6, t0, g0, zi, hiR, hfit, hR, hone, hle2, List.append_assoc, List.length_map, Int.toNat_natCast]
    repeat' ((first | (refine AG_of ?_ ?_ <;> intro h) | (refine AB_of ?_ ?_ <;> intro h) | (refine A_draw_of [] [] (by kernel_rfl) ?_ <;> have h := mark)) <;> simp only [go_sem, seval, eq_self, reduceCtorEq, e0, e1, e5, e6, t0, g0, zi, hiR, hfit, hR, hone, hle2, List.append_assoc, List.length_map, Int.toNat_natCast, h])
    all_goals (first | refine fin_ret ?_ | refine fin_normal ?_)
    all_goals simp only [resOf, Tryz.results42, Tryz.ntmps42, go_sem, seval, eq_self, reduceCtorEq, hfin, hle, List.append_assoc, List.drop_zero, Nat.zero_add]
    all_goals rfl

end Go.Proofs.YtkfmecmmbnehjaaGreat
