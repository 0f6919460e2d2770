/-
Operations of the plain reckoning stand for those in memory: what is reckoned from values. No condition.
-/
import Derived.Test.YtbmgaebhcomjaaaAbO
namespace Go.Proofs.Ytbmgaebhcomjaaa
set_option linter.unusedSimpArgs false
set_option linter.unusedVariables false

/-- types of which == is that of their numbers -/
def EqOk (P : Program) (E : EqT) : Prop := ∀ t, E t = true → ∀ (us vs : List Value) (r : Bool) (xo yo : Operand), szOf P t = some us.length → eqInts (us.map .s) (vs.map .s) = some r → ∀ w : World,
  (do eqGuard .eql t xo yo (.agg us.toArray) (.agg vs.toArray); binOp .eql t (.agg us.toArray) (.agg vs.toArray) : Sem Value).run P w = .ok (.bool r) w ∧
  (do eqGuard .neq t xo yo (.agg us.toArray) (.agg vs.toArray); binOp .neq t (.agg us.toArray) (.agg vs.toArray) : Sem Value).run P w = .ok (.bool (!r)) w

section
variable {P : Program} {w0 w : World} {I : Ow} {n : Nat} {s : S} {env : Nat → V} {st : Nat → Blk} {a : Act} {η : Nat → Value}

theorem intBin_run {op : BinOp} {k : IntKind} {x y : Int} {r : Value} (h : intBin op k x y = some r) (t : TypeId) (xo yo : Operand) (w : World) :
    (do eqGuard op t xo yo (.int k x) (.int k y); binOp op t (.int k x) (.int k y) : Sem Value).run P w = .ok r w := by
  cases op <;> simp only [intBin, Option.some.injEq, reduceCtorEq] at h
  case quo =>
    split at h
    · cases h
    · rename_i h0
      simp only [Option.some.injEq] at h
      subst h
      simp [eqGuard, binOp, Op.intDiv, h0]
  case rem =>
    split at h
    · cases h
    · rename_i h0
      simp only [Option.some.injEq] at h
      subst h
      simp [eqGuard, binOp, Op.intDiv, h0]
  all_goals (subst h; simp [eqGuard, binOp, Op.intArith, Op.intBits, Op.intCmp])

theorem binS_run {op : BinOp} {x y r : Value} (h : binS op x y = some r) (t : TypeId) (xo yo : Operand) (w : World) :
    (do eqGuard op t xo yo x y; binOp op t x y : Sem Value).run P w = .ok r w := by
  unfold binS at h
  split at h
  · rename_i k a k' b
    split at h
    · cases h
    · rename_i h0
      simp only [Option.some.injEq] at h
      subst h
      simp [eqGuard, binOp, Op.shift, h0]
  · rename_i k a k' b
    split at h
    · cases h
    · rename_i h0
      simp only [Option.some.injEq] at h
      subst h
      simp [eqGuard, binOp, Op.shift, h0]
  · split at h
    · rename_i hk
      subst hk
      exact intBin_run h t xo yo w
    · cases h
  · simp only [Option.some.injEq] at h
    subst h
    simp [eqGuard, binOp, Op.stringOp]
  · simp only [Option.some.injEq] at h
    subst h
    simp [eqGuard, binOp, Op.stringOp]
  · cases h

theorem eqInts_s {us vs : List Value} {l m : List V} {r : Bool} {c : Cx} (h : eqInts l m = some r) (hu : PW (RV c) us l) (hv : PW (RV c) vs m) : l = us.map .s ∧ m = vs.map .s := by
  induction l generalizing us vs m r with
  | nil =>
    cases m with
    | nil => rw [hu.nil_r, hv.nil_r]; simp
    | cons y m => simp [eqInts] at h
  | cons x l ih =>
    cases m with
    | nil => cases x <;> simp [eqInts] at h
    | cons y m =>
      obtain ⟨u, us', rfl, h1, h2⟩ := hu.uncons
      obtain ⟨v, vs', rfl, h3, h4⟩ := hv.uncons
      unfold eqInts at h
      split at h
      · rename_i he _; simp at he
      · rename_i k a x' k' b y' he he'
        simp only [List.cons.injEq] at he he'
        obtain ⟨rfl, rfl⟩ := he
        obtain ⟨rfl, rfl⟩ := he'
        split at h
        · obtain ⟨r', hr, _⟩ := Option.map_eq_some_iff.1 h
          obtain ⟨e1, e2⟩ := ih hr h2 h4
          rw [h1.s_inv, h3.s_inv, List.map_cons, List.map_cons, ← e1, ← e2]
          exact ⟨rfl, rfl⟩
        · cases h
      · cases h

theorem nilEq_run {op : BinOp} {t : TypeId} {p : Option Addr} {z : V} (ht : isPtrT P t = true) (h : nilEq op p.isNone = some z) (xo yo : Operand) (w : World) {c : Cx} :
    ∃ r, (do eqGuard op t xo yo (.pointer p) (.pointer none); binOp op t (.pointer p) (.pointer none) : Sem Value).run P w = .ok r w ∧ RV c r z := by
  have hu : P.underlying t = some (.pointer (P.pointee t)) := by
    unfold isPtrT at ht
    split at ht
    · rename_i e he
      simp [Program.pointee, he]
    · cases ht
  unfold nilEq at h
  split at h <;> simp only [Option.some.injEq, reduceCtorEq] at h
  · subst h
    exact ⟨_, by simp only [eqGuard, Sem.run_bind]; simp [run_eql_pointer_nil w t p hu], .s _⟩
  · subst h
    exact ⟨_, by simp only [eqGuard, Sem.run_bind]; simp [run_neq_pointer_nil w t p hu], .s _⟩

theorem bin_sound {E : EqT} (hE : EqOk P E) {op : BinOp} {t : TypeId} {x y z : V} {u v : Value} {c : Cx} (h : binV P E op t x y = some z) (hu : RV c u x) (hv : RV c v y) (xo yo : Operand) (w : World) :
    ∃ r, (do eqGuard op t xo yo u v; binOp op t u v : Sem Value).run P w = .ok r w ∧ RV c r z := by
  unfold binV at h
  split at h
  · rename_i a b
    rw [hu.s_inv, hv.s_inv]
    split at h
    · rename_i hb
      have hub : P.underlying t = some .bool := by
        unfold isBoolT at hb
        split at hb
        · rename_i h'; exact h'
        · cases hb
      split at h <;> simp only [Option.some.injEq, reduceCtorEq] at h
      · subst h
        exact ⟨_, by simp only [eqGuard, Sem.run_bind]; simp [run_eql_bool w t a b hub], .s _⟩
      · subst h
        exact ⟨_, by simp only [eqGuard, Sem.run_bind]; simp [run_neq_bool w t a b hub, bne], .s _⟩
    · cases h
  · split at h
    case isFalse => cases h
    rename_i ht
    rw [hu.s_inv, hv.s_inv]
    exact nilEq_run (p := none) ht h xo yo w
  · rename_i a b _ _
    rw [hu.s_inv, hv.s_inv]
    obtain ⟨r, hr, rfl⟩ := Option.map_eq_some_iff.1 h
    exact ⟨r, binS_run hr t xo yo w, .s _⟩
  · split at h
    case isFalse => cases h
    rename_i ht
    obtain ⟨⟨A, rfl⟩, _, _⟩ := hu.ptr_inv
    rw [hv.s_inv]
    exact nilEq_run (p := some A) ht h xo yo w
  · split at h
    case isFalse => cases h
    rename_i ht
    rw [hv.s_inv]
    have hu' := hu.ept_inv
    cases hu'
    exact nilEq_run (p := some _) ht h xo yo w
  · rename_i a b
    split at h
    · rename_i hc
      obtain ⟨hEt, hsz⟩ := hc
      obtain ⟨us, rfl, hp⟩ := hu.agg_inv
      obtain ⟨vs, rfl, hq⟩ := hv.agg_inv
      split at h
      · obtain ⟨r, hr, rfl⟩ := Option.map_eq_some_iff.1 h
        obtain ⟨e1, e2⟩ := eqInts_s hr hp hq
        rw [e1, e2] at hr
        exact ⟨_, (hE t hEt us vs r xo yo (by rw [hsz, hp.1]) hr w).1, .s _⟩
      · obtain ⟨r, hr, rfl⟩ := Option.map_eq_some_iff.1 h
        obtain ⟨e1, e2⟩ := eqInts_s hr hp hq
        rw [e1, e2] at hr
        exact ⟨_, (hE t hEt us vs r xo yo (by rw [hsz, hp.1]) hr w).2, .s _⟩
      · cases h
    · cases h
  · cases h

theorem un_sound {op : UnOp} {x z : V} {u : Value} {c : Cx} (h : unV op x = some z) (hu : RV c u x) (w : World) : ∃ r, (Op.unary op u).run P w = .ok r w ∧ RV c r z := by
  unfold unV at h
  split at h
  · rw [hu.s_inv]
    split at h <;> simp only [Option.some.injEq, reduceCtorEq] at h
    subst h
    exact ⟨_, by simp [Op.unary], .s _⟩
  · rw [hu.s_inv]
    split at h <;> simp only [Option.some.injEq, reduceCtorEq] at h
    · subst h
      exact ⟨_, by simp [Op.unary, Op.intArith], .s _⟩
    · subst h
      exact ⟨_, by simp [Op.unary, Op.intBits], .s _⟩
  · cases h

theorem asI_inv {x : V} {i : Int} {u : Value} {c : Cx} (h : asI x = some i) (hu : RV c u x) : ∃ k, u = .int k i := by
  unfold asI at h
  split at h
  · simp only [Option.some.injEq] at h
    subst h
    exact ⟨_, hu.s_inv⟩
  · cases h

theorem field_sound {t k off : Nat} (h : fieldV P t k = some off) (g o : Nat) (w : World) : (Instr.fieldAt t (.pointer (some ⟨g, o, none⟩)) k).run P w = .ok (.pointer (some ⟨g, o + off, none⟩)) w := by
  unfold fieldV at h
  split at h
  · rename_i fs hu
    split at h
    · rename_i f hf
      obtain ⟨m, hm, h⟩ := Option.bind_eq_some_iff.1 h
      split at h
      · cases h
      · rename_i h0
        simp only [Option.some.injEq] at h
        subst h
        simp [Instr.fieldAt, run_underlying hu, hf, Instr.sureAddr, fieldPlace, run_sizeOf' hm, h0, Addr.add_lit]
    · cases h
  · cases h

theorem fieldAddr_sound (H : Rel w0 I n s a w η) {t k off : Nat} (hf : fieldV P t k = some off) {x z : V} {u : Value} (hu : RV (cx w0 I s.st w η) u x) (h : fieldAddrV s.st off x = some z) :
    ∃ r, (Instr.fieldAt t u k).run P w = .ok r w ∧ RV (cx w0 I s.st w η) r z := by
  cases x <;> simp only [fieldAddrV, reduceCtorEq] at h
  case ptr b ver o' =>
    obtain ⟨cs, hb, rfl⟩ := Option.map_eq_some_iff.1 h
    obtain ⟨v0, hv0⟩ : ∃ v0, (cx w0 I s.st w η).look b ver = some v0 := ⟨_, (look_box H hb).2.2.1⟩
    obtain ⟨_, hver, hp⟩ := hu.ptr_inv
    obtain ⟨g, o, h1, rfl⟩ := hp v0 hv0
    refine ⟨_, field_sound hf g _ w, .ptr b ver _ _ ⟨_, rfl⟩ hver fun v1 hv1 => ?_⟩
    rw [hv0] at hv1
    simp only [Option.some.injEq] at hv1
    subst hv1
    exact ⟨g, o, h1, by rw [Nat.add_assoc]⟩
  case rp b ver sz i o' =>
    obtain ⟨⟨sz', e, l⟩, hb, rfl⟩ := Option.map_eq_some_iff.1 h
    obtain ⟨v0, hv0⟩ : ∃ v0, (cx w0 I s.st w η).look b ver = some v0 := ⟨_, (look_any H hb).2.2.1⟩
    obtain ⟨_, hver, hp⟩ := hu.rp_inv
    obtain ⟨g, o, m, cap, h1, rfl⟩ := hp v0 hv0
    refine ⟨_, field_sound hf g _ w, .rp b ver sz i _ _ ⟨_, rfl⟩ hver fun v1 hv1 => ?_⟩
    rw [hv0] at hv1
    simp only [Option.some.injEq] at hv1
    subst hv1
    exact ⟨g, o, m, cap, h1, by simp only [Nat.add_assoc]⟩
  case ept l =>
    simp only [Option.some.injEq] at h
    subst h
    cases hu.ept_inv with
    | ept us l g o hl he hr =>
      refine ⟨_, field_sound hf g o w, .ept _ _ (.ept (us.drop off) (l.drop off) g (o + off) (by simp [hl]) (fun i u x hu hx => ?_) ?_)⟩
      · rw [List.getElem?_drop] at hu hx
        exact he _ u x hu hx
      · rcases hr with rfl | ⟨ho, hc⟩
        · exact .inl (by simp)
        · refine .inr ⟨ho, fun j u hu => ?_⟩
          rw [List.getElem?_drop] at hu
          rw [Nat.add_assoc]
          exact hc _ u hu

theorem nil_sound (H : Rel w0 I n s a w η) {x z : V} {u : Value} (hu : RV (cx w0 I s.st w η) u x) (h : fieldAddrV s.st 0 x = some z) :
    RV (cx w0 I s.st w η) u z ∧ ∃ g, u = .pointer (some g) := by
  cases x <;> simp only [fieldAddrV, reduceCtorEq] at h
  case ptr b ver o' =>
    obtain ⟨cs, hb, rfl⟩ := Option.map_eq_some_iff.1 h
    obtain ⟨v0, hv0⟩ : ∃ v0, (cx w0 I s.st w η).look b ver = some v0 := ⟨_, (look_box H hb).2.2.1⟩
    obtain ⟨_, hver, hp⟩ := hu.ptr_inv
    obtain ⟨g, o, h1, rfl⟩ := hp v0 hv0
    exact ⟨hu, _, rfl⟩
  case rp b ver sz i o' =>
    obtain ⟨⟨sz', e, l⟩, hb, rfl⟩ := Option.map_eq_some_iff.1 h
    obtain ⟨v0, hv0⟩ : ∃ v0, (cx w0 I s.st w η).look b ver = some v0 := ⟨_, (look_any H hb).2.2.1⟩
    obtain ⟨_, hver, hp⟩ := hu.rp_inv
    obtain ⟨g, o, m, cap, h1, rfl⟩ := hp v0 hv0
    exact ⟨hu, _, rfl⟩
  case ept l =>
    simp only [Option.some.injEq, List.drop_zero] at h
    subst h
    refine ⟨hu, ?_⟩
    cases hu.ept_inv with
    | ept us l g o hl he hr => exact ⟨_, rfl⟩
end

end Go.Proofs.Ytbmgaebhcomjaaa
