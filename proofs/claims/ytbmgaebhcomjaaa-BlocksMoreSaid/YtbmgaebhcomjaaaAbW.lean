/-
Operations of the plain reckoning stand for those in memory: rows written out. No condition.
-/
import Derived.Test.YtbmgaebhcomjaaaAbU
namespace Go.Proofs.Ytbmgaebhcomjaaa
set_option linter.unusedSimpArgs false
set_option linter.unusedVariables false

section
variable {P : Program} {w0 w : World} {I : Ow} {n : Nat} {s : S} {env : Nat → V} {st : Nat → Blk} {a : Act} {η : Nat → Value}

theorem spl_at (C ys : List V) (off : Nat) (h : off ≤ C.length) : spl C off ys = C.take off ++ ys ++ C.drop (off + ys.length) := rfl

theorem fillC_all {sz : Nat} : ∀ (xs : List V) (k : Nat) (C : List V), (∀ x ∈ xs, x.cells.length = sz) → (k + xs.length) * sz ≤ C.length →
    fillC (fun i => some (i * sz, sz)) C ((List.range' k xs.length).zip xs) = some (C.take (k * sz) ++ flat xs ++ C.drop ((k + xs.length) * sz))
  | [], k, C, _, _ => by simp [fillC, flat]
  | x :: xs, k, C, hu, hl => by
    have hx := hu x (by simp)
    have hk : (k + (xs.length + 1)) * sz = k * sz + sz + xs.length * sz := by rw [Nat.add_mul, Nat.add_mul]; omega
    simp only [List.length_cons] at hl
    rw [hk] at hl
    have hsl : (spl C (k * sz) x.cells).length = C.length := by
      simp only [spl, List.length_append, List.length_take, List.length_drop]; omega
    have hk1 : (k + 1) * sz = k * sz + sz := by rw [Nat.add_mul]; omega
    have ih := fillC_all xs (k + 1) (spl C (k * sz) x.cells) (fun y hy => hu y (by simp [hy])) (by rw [hsl, Nat.add_mul, hk1]; omega)
    simp only [List.length_cons, List.range'_succ, List.zip_cons_cons, fillC]
    rw [if_pos ⟨hx, by omega⟩, ih]
    congr 1
    have e1 : (spl C (k * sz) x.cells).take ((k + 1) * sz) = C.take (k * sz) ++ x.cells := by
      rw [hk1]
      simp only [spl]
      rw [List.take_append_of_le_length (by simp only [List.length_append, List.length_take]; omega)]
      rw [List.take_of_length_le (by simp only [List.length_append, List.length_take]; omega)]
    have e2 : (spl C (k * sz) x.cells).drop ((k + 1 + xs.length) * sz) = C.drop ((k + (xs.length + 1)) * sz) := by
      have : (k + 1 + xs.length) * sz = k * sz + sz + xs.length * sz := by rw [Nat.add_mul, hk1]
      rw [this, hk]
      simp only [spl]
      have hlen : (List.take (k * sz) C ++ x.cells).length = k * sz + sz := by simp only [List.length_append, List.length_take]; omega
      rw [List.drop_append, hlen, List.drop_eq_nil_of_le (by rw [hlen]; omega), List.nil_append, List.drop_drop]
      congr 1
      omega
    rw [e1, e2]
    simp [flat]

theorem clo_cells {x y : V} (h : x.clo true = true) (hy : y ∈ x.cells) : y.clo true = true := by
  cases x
  case s v => cases v <;> simp [V.cells] at hy <;> first | (subst hy; rfl) | (obtain ⟨q, _, rfl⟩ := hy; rfl)
  case agg l =>
    obtain ⟨i, hi⟩ := List.getElem?_of_mem hy
    exact cloL_get (l := l) (by simpa only [V.clo] using h) (by simpa only [V.cells] using hi)
  all_goals (simp [V.cells] at hy; subst hy; exact h)

theorem flat_unfr (l : List V) : flat (l.map V.unfr) = (flat l).map V.unfr := by
  induction l with
  | nil => rfl
  | cons x l ih =>
    simp only [flat, List.map_cons, List.flatMap_cons, List.map_append] at *
    rw [unfr_cells, unfrL_map, ih]

theorem buildSlice_sound (h : Rel w0 I n ⟨env, st⟩ a w η) {d : Nat} {t : TypeId} {len : Nat} {ps : List (Nat × Operand)} {z : V} {us : List (Nat × Blk)} (hb : buildSliceV P st d t len (ps.map fun p => (p.1, ev env p.2)) = some (z, us)) :
    ∃ r w' η', (Instr.buildSlice t len (ps.map fun p => (p.1, a.eval p.2)).toArray).run P w = .ok r w' ∧ Rel w0 I n ⟨env, ups st us⟩ a w' η' ∧ RV (cx w0 I (ups st us) w' η') r z := by
  unfold buildSliceV at hb
  split at hb
  case h_2 => cases hb
  rename_i e ht
  obtain ⟨sz, hsz, h2⟩ := Option.bind_eq_some_iff.1 hb
  split at h2
  case isFalse =>
    split at h2
    case isFalse => cases h2
    rename_i hc
    obtain ⟨rfl, hpe, hsz0⟩ := hc
    simp only [Option.some.injEq, Prod.mk.injEq] at h2
    obtain ⟨rfl, rfl⟩ := h2
    have hps : ps = [] := by simpa using hpe
    subst hps
    refine ⟨.slice (some ⟨w.heap.size, 0, none⟩) 0 0, w.alloc (.cells #[] e), η, ?_, h.grow (World.grownBy_alloc w _ none), .lst true sz [] _ (.lst true true sz [] _ 0 [] (Nat.le_refl _) (fun x hx => by cases hx) rfl (fun i u x hu _ => by simp at hu) (fun u hu => by cases hu) (.inl rfl))⟩
    simp only [Instr.buildSlice, Sem.run_bind, run_underlying ht, Result.andThen_ok, run_sizeOf' hsz]
    simp [Instr.fill, newRow]
    exact congrArg (fun c => w.alloc (Obj.cells c e)) (Array.eq_empty_of_size_eq_zero (by simp))
  rename_i hc
  obtain ⟨hidx, hsz0, hsmall, hlen0, hzs⟩ := hc
  clear hb
  generalize hxs : ps.map (fun p => ev env p.2) = xs
  have hpl : (ps.map fun p => (p.1, ev env p.2)) = (List.range' 0 xs.length).zip xs := by
    have e1 : (ps.map fun p => (p.1, ev env p.2)) = (ps.map (·.1)).zip (ps.map fun p => ev env p.2) := by
      clear hxs hidx h2
      induction ps with
      | nil => rfl
      | cons p ps ih => simp [ih]
    have e2 : ps.map (·.1) = List.range len := by simpa [Function.comp_def] using hidx
    have e3 : xs.length = len := by
      have := congrArg List.length e2
      rw [← hxs]; simpa using this
    rw [e1, e2, hxs, e3, List.range_eq_range']
  have hxl : xs.length = len := by
    have e2 : ps.map (·.1) = List.range len := by simpa [Function.comp_def] using hidx
    have := congrArg List.length e2
    rw [← hxs]; simpa using this
  have hx : ∀ x ∈ xs, x.cells.length = sz ∧ x.cells.all V.one = true := fun x hx => by
    rw [← hxs] at hx
    obtain ⟨p, hp, rfl⟩ := List.mem_map.1 hx
    split at h2
    · rename_i hall
      have := List.all_eq_true.1 hall (p.1, ev env p.2) (List.mem_map.2 ⟨p, hp, rfl⟩)
      simp only [Bool.and_eq_true, decide_eq_true_eq] at this
      exact this.1
    · split at h2
      · rename_i hall
        have := List.all_eq_true.1 hall (p.1, ev env p.2) (List.mem_map.2 ⟨p, hp, rfl⟩)
        simp only [Bool.and_eq_true, decide_eq_true_eq] at this
        exact this
      · cases h2
  obtain ⟨zv, hzv⟩ := Option.isSome_iff_exists.1 hzs
  obtain ⟨Z, hZ, hZs⟩ : ∃ Z : List Value, Z.length = len * sz ∧ ((Array.range (len * sz)).map (zv.cells[· % zv.cells.size]!)) = Z.toArray := ⟨((Array.range (len * sz)).map (zv.cells[· % zv.cells.size]!)).toList, by simp, (Array.toArray_toList).symm⟩
  have hfc := fillC_all (sz := sz) xs 0 (Z.map .s) (fun x hx' => (hx x hx').1) (by simp [hZ, hxl])
  rw [← hpl] at hfc
  obtain ⟨us', hu1, hu2⟩ := fill_sound (R := RV (cx w0 I st w η)) (fun u x h => h.cells) (ρ := ev env) (ρ' := a.eval) (fun x => h.eval x) (fun i => some (i * sz, sz)) ps _ _ Z hfc (PW.consts _ fun v => .s _)
  have hfl : List.take (0 * sz) (Z.map V.s) ++ flat xs ++ List.drop ((0 + xs.length) * sz) (Z.map V.s) = flat xs := by
    rw [List.drop_eq_nil_of_le (by simp [hZ, hxl])]; simp
  rw [hfl] at hu2
  have hrun : (Instr.buildSlice t len (ps.map fun p => (p.1, a.eval p.2)).toArray).run P w = .ok (.slice (some ⟨w.heap.size, 0, none⟩) len len) (w.alloc (.cells us'.toArray e)) := by
    have hn0 : ¬ len * sz = 0 := by
      intro h0
      rcases Nat.mul_eq_zero.1 h0 with h | h <;> omega
    have hbig : ¬ len * sz > 2 ^ 24 := by simp; omega
    obtain ⟨i, hi, hiz⟩ : ∃ i, P.info? e = some i ∧ i.zero = some zv := by
      unfold zeroOf at hzv
      obtain ⟨i, hi, h'⟩ := Option.bind_eq_some_iff.1 hzv
      exact ⟨i, hi, h'⟩
    simp only [Instr.buildSlice, Sem.run_bind, run_underlying ht, Result.andThen_ok, run_sizeOf' hsz, if_neg hbig, if_neg hn0, zeroValue, typeInfo]
    simp [hi, hiz, hZs, hu1, newRow]
  have hone : ∀ u ∈ us', u.oneCell' = true := fun u hu => by
    obtain ⟨i, hi⟩ := List.getElem?_of_mem hu
    obtain ⟨y, hy, hr⟩ := hu2.getl hi
    have hy' := List.mem_of_getElem? hy
    simp only [flat, List.mem_flatMap] at hy'
    obtain ⟨x, hx1, hx2⟩ := hy'
    exact hr.one (List.all_eq_true.1 (hx x hx1).2 y hx2)
  split at h2
  case isFalse =>
    split at h2
    case isFalse => cases h2
    simp only [Option.some.injEq, Prod.mk.injEq] at h2
    obtain ⟨rfl, rfl⟩ := h2
    have hus : us'.length = len * sz := by rw [hu2.1, flat_len (sz := sz) _ (fun x hx' => (hx x hx').1), hxl]
    have e4 : ((ps.map fun p => (p.1, ev env p.2)).map fun p => p.2) = xs := by rw [← hxs]; simp [Function.comp_def]
    rw [e4]
    obtain ⟨η', h6, h7⟩ := h.rowV (d := d) (sz := sz) (e := e) (l := xs) (w' := w.alloc (.cells us'.toArray e)) (v' := .slice (some ⟨w.heap.size, 0, none⟩) len len) (us := us') (World.grownBy_alloc w _ none)
      ⟨by rw [hus, hxl], .inr ⟨w.heap.size, 0, len, us'.toArray, (0, 0), by rw [hxl], heap_alloc_new w _, .inl rfl, by rw [hxl]; exact Nat.le_refl _, by
        have := Nat.le_mul_of_pos_right len hsz0
        simp only [maxLen]; omega, by simp [hus], by rw [hxl]; simp [← hus]⟩⟩
      (fun g hg => by simp [blkOf] at hg; omega) (fun x hx' => (hx x hx').1) hu2 hone
    rw [hxl] at h7
    exact ⟨_, _, η', hrun, h6, h7⟩
  rename_i hall
  simp only [Option.some.injEq, Prod.mk.injEq] at h2
  obtain ⟨rfl, rfl⟩ := h2
  have hcl : ∀ x ∈ xs, x.clo true = true := fun x hx => by
    rw [← hxs] at hx
    obtain ⟨p, hp, rfl⟩ := List.mem_map.1 hx
    have := List.all_eq_true.1 hall (p.1, ev env p.2) (List.mem_map.2 ⟨p, hp, rfl⟩)
    simp only [Bool.and_eq_true, decide_eq_true_eq] at this
    exact this.2
  have hpw : PW (RC w (cx w0 I st w η).own (cx w0 I st w η).fresh true) us' (flat (xs.map V.unfr)) := by
    rw [flat_unfr]
    refine ⟨by rw [hu2.1]; simp, fun i u y hu hy => ?_⟩
    rw [List.getElem?_map] at hy
    obtain ⟨y0, hy0, rfl⟩ := Option.map_eq_some_iff.1 hy
    have hr := hu2.2 i u y0 hu hy0
    have hy' := List.mem_of_getElem? hy0
    simp only [flat, List.mem_flatMap] at hy'
    obtain ⟨x, hx1, hx2⟩ := hy'
    have hcl2 := clo_cells (hcl x hx1) hx2
    exact (hr.clo hcl2).unfr
  have hlm : (xs.map V.unfr).length = len := by simp [hxl]
  have hus : us'.length = len * sz := by
    rw [hpw.1, flat_len (sz := sz) _ (fun x hx' => ?_), hlm]
    obtain ⟨y, hy, rfl⟩ := List.mem_map.1 hx'
    rw [unfr_cells, unfrL_len]; exact (hx y hy).1
  have e4 : ((ps.map fun p => (p.1, ev env p.2)).map fun p => p.2.unfr) = xs.map V.unfr := by rw [← hxs]; simp [Function.comp_def]
  rw [e4]
  obtain ⟨η', h6, h7⟩ := h.row (d := d) (sz := sz) (e := e) (l := xs.map V.unfr) (w' := w.alloc (.cells us'.toArray e)) (v' := .slice (some ⟨w.heap.size, 0, none⟩) len len) (us := us') (World.grownBy_alloc w _ none)
    ⟨by rw [hus, hlm], .inr ⟨w.heap.size, 0, len, us'.toArray, (0, 0), by rw [hlm], heap_alloc_new w _, .inl rfl, by rw [hlm]; exact Nat.le_refl _, by
      have := Nat.le_mul_of_pos_right len hsz0
      simp only [maxLen]; omega, by simp [hus], by rw [hlm]; simp [← hus]⟩⟩
    (fun g hg => by simp [blkOf] at hg; omega) (fun x hx' => by
      obtain ⟨y, hy, rfl⟩ := List.mem_map.1 hx'
      rw [unfr_cells, unfrL_len]; exact (hx y hy).1) hpw hone
  rw [hlm] at h7
  exact ⟨_, _, η', hrun, h6, h7⟩

theorem make_sound (h : Rel w0 I n ⟨env, st⟩ a w η) {d : Nat} {t : TypeId} {m : Int} {z : V} {us : List (Nat × Blk)} (hb : makeV P st d t m = some (z, us)) :
    ∃ r w' η', (Instr.makeSlice t (.int .i64 m) (.int .i64 m)).run P w = .ok r w' ∧ Rel w0 I n ⟨env, ups st us⟩ a w' η' ∧ RV (cx w0 I (ups st us) w' η') r z := by
  unfold makeV at hb
  split at hb
  case h_2 => cases hb
  rename_i e ht
  obtain ⟨by_, hby, h2⟩ := Option.bind_eq_some_iff.1 hb
  obtain ⟨zv, hzv, h3⟩ := Option.bind_eq_some_iff.1 h2
  split at h3
  case isFalse => cases h3
  rename_i hc
  obtain ⟨h0, hbig, hsm, hz, hsz, hz1⟩ := hc
  simp only [Option.some.injEq, Prod.mk.injEq] at h3
  obtain ⟨rfl, rfl⟩ := h3
  clear hb h2
  have hw : IntKind.i64.wrap m = m := by rw [IntKind.wrap_i64]; omega
  obtain ⟨i, hi, hisz⟩ := szOf_info hsz
  have hiz : i.zero = some zv := by
    unfold zeroOf at hzv
    rw [hi] at hzv
    simpa using hzv
  have hib : i.bytes = by_ := by
    unfold bytesOf at hby
    rw [hi] at hby
    simpa using hby
  have hcells : zv.cells = #[zv] := by
    cases zv <;> simp_all [Value.cells, Value.oneCell']
  generalize hN : m.toNat = N
  have hmN : m = N := by omega
  subst hmN
  have harr : ((Array.range N).map ((if N = 0 then (#[] : Array Value) else zv.cells)[· % (if N = 0 then (#[] : Array Value) else zv.cells).size]!)) = (List.replicate N zv).toArray := by
    by_cases hN0 : N = 0
    · subst hN0; simp
    · apply Array.toList_inj.1
      simp only [hN0, if_false, hcells]
      apply List.ext_getElem
      · simp
      · intro q h1 h2
        simp [Nat.mod_one]
  have hrun : (Instr.makeSlice t (.int .i64 N) (.int .i64 N)).run P w = .ok (.slice (some ⟨w.heap.size, 0, none⟩) N N) (w.alloc (.cells (List.replicate N zv).toArray e)) := by
    have e1 : ¬ ((N : Int) < 0) := by omega
    have e2 : ¬ (281474976710656 < (by_ : Int) * N) := by
      have : (by_ : Int) * N = N * by_ := Int.mul_comm _ _
      rw [this]; omega
    by_cases hN0 : N = 0
    · subst hN0
      have hw0 : IntKind.i64.wrap 0 = 0 := rfl
      simp [Instr.makeSlice, run_underlying ht, asInt, asIntOf, typeInfo, run_sizeOf' hsz, hi, hw0, hib, newRow, askRoom, (show Array.range 0 = #[] from by simp)]
    · simp only [hN0, if_false] at harr
      simp [Instr.makeSlice, run_underlying ht, asInt, asIntOf, typeInfo, run_sizeOf' hsz, hi, hw, hib, newRow, askRoom, e1, e2, hN0, zeroValue, hiz]
      congr 2
  have hl : (List.replicate N (V.s zv)).length = N := by simp
  obtain ⟨η', h6, h7⟩ := h.row (d := d) (sz := 1) (e := e) (l := List.replicate N (.s zv)) (w' := w.alloc (.cells (List.replicate N zv).toArray e)) (v' := .slice (some ⟨w.heap.size, 0, none⟩) N N) (us := List.replicate N zv) (World.grownBy_alloc w _ none)
    ⟨by simp, .inr ⟨w.heap.size, 0, N, (List.replicate N zv).toArray, (0, 0), by rw [hl], heap_alloc_new w _, .inl rfl, by rw [hl]; exact Nat.le_refl _, by simp only [maxLen]; omega, by simp, by rw [hl]; simp⟩⟩
    (fun g hg => by simp [blkOf] at hg; omega) (fun x hx' => by
      rw [List.mem_replicate] at hx'
      rw [hx'.2]
      have := one_cells0 (x := V.s zv) (by simpa [V.one] using hz1)
      rw [this]; rfl) (by
      have hfl : flat (List.replicate N (V.s zv)) = List.replicate N (V.s zv) := flat_s _ fun x hx => by
        rw [List.mem_replicate] at hx
        rw [hx.2]
        exact one_cells0 (by simpa [V.one] using hz1)
      rw [hfl]
      have := PW.consts (R := RC w (cx w0 I st w η).own (cx w0 I st w η).fresh true) (List.replicate N zv) (fun v => .s true v)
      rwa [List.map_replicate] at this) (fun u hu => by rw [List.mem_replicate] at hu; rw [hu.2]; exact hz1)
  rw [hl] at h7
  exact ⟨_, _, η', hrun, h6, h7⟩

theorem iface_sound {t : TypeId} {x z : V} {u : Value} {c : Cx} (h : ifaceV P t x = some z) (hu : RV c u x) (w : World) : ∃ r, (Instr.makeInterface t u).run P w = .ok r w ∧ RV c r z := by
  unfold ifaceV at h
  split at h
  · rw [hu.s_inv]
    split at h
    · cases h
    · rename_i d hne hd
      simp only [Option.some.injEq] at h
      subst h
      refine ⟨_, ?_, .s _⟩
      cases d <;> first | (simp [Instr.makeInterface, run_underlying hd]; done) | exact (hne _ rfl).elim
    · cases h
  · cases h
theorem assert_sound {t xt : TypeId} {ok : Bool} {x z : V} {u : Value} {c : Cx} (h : assertV P t ok x = some z) (hu : RV c u x) (w : World) : ∃ r, (Instr.typeAssert u xt t ok).run P w = .ok r w ∧ RV c r z := by
  have tup : ∀ (a b : Value), RV c (.tuple #[a, b]) (.tup [.s a, .s b]) := fun a b => .tup [a, b] _ rfl fun i u x hu hx => by
    match i with
    | 0 => simp at hu hx; subst hu; subst hx; exact .s _
    | 1 => simp at hu hx; subst hu; subst hx; exact .s _
    | i + 2 => simp at hu
  have zv : ∀ zz, zeroOf P t = some zz → (zeroValue t).run P w = .ok zz w := fun zz hz => by
    unfold zeroOf at hz
    obtain ⟨i, hi, hiz⟩ := Option.bind_eq_some_iff.1 hz
    simp [zeroValue, typeInfo, hi, hiz]
  unfold assertV at h
  split at h
  · rw [hu.s_inv]
    split at h
    · cases h
    · rename_i d hne hd
      split at h
      case isFalse => cases h
      rename_i hok
      subst hok
      obtain ⟨zz, hz, rfl⟩ := Option.map_eq_some_iff.1 h
      refine ⟨.tuple #[zz, .bool false], ?_, tup _ _⟩
      cases d <;> first | (simp [Instr.typeAssert, run_underlying hd, zv zz hz]; done) | exact (hne _ rfl).elim
    · cases h
  · rename_i t' v
    rw [hu.s_inv]
    split at h
    · cases h
    · rename_i d hne hd
      split at h
      · rename_i htt
        subst htt
        split at h
        · rename_i hok
          subst hok
          simp only [Option.some.injEq] at h
          subst h
          refine ⟨.tuple #[v, .bool true], ?_, tup _ _⟩
          cases d <;> first | (simp [Instr.typeAssert, run_underlying hd]; done) | exact (hne _ rfl).elim
        · rename_i hok
          simp only [Option.some.injEq] at h
          subst h
          refine ⟨v, ?_, .s _⟩
          cases d <;> first | (simp [Instr.typeAssert, run_underlying hd, hok]; done) | exact (hne _ rfl).elim
      · rename_i htt
        split at h
        case isFalse => cases h
        rename_i hok
        subst hok
        obtain ⟨zz, hz, rfl⟩ := Option.map_eq_some_iff.1 h
        refine ⟨.tuple #[zz, .bool false], ?_, tup _ _⟩
        cases d <;> first | (simp [Instr.typeAssert, run_underlying hd, zv zz hz, htt]; done) | exact (hne _ rfl).elim
    · cases h
  · cases h
end

end Go.Proofs.Ytbmgaebhcomjaaa
