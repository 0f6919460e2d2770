/-
Structs of whole numbers alone are equal if their numbers are. No condition.
-/
import Derived.Test.YtegalldldcaocaaAbZ
import Derived.Laws.StructEq
namespace Go.Proofs.Ytegalldldcaocaa

def isIntT (P : Program) (t : TypeId) : Bool := match P.underlying t with | some (.int _) => true | _ => false
def intFields (P : Program) : Nat → List Field → Bool
  | _, [] => true
  | k, f :: fs => decide (f.name ≠ "_") && isIntT P f.type && f.offset == k && intFields P (k + 1) fs
/-- a struct of whole numbers alone -/
def intStruct (P : Program) (t : TypeId) : Bool :=
  match P.underlying t with
  | some (.struct fs) => intFields P 0 fs.toList && !P.stoodInHeld t && !P.eqGuardType P.depth t && szOf P t == some fs.size
  | _ => false

theorem isIntT_spec {P : Program} {t : TypeId} (h : isIntT P t = true) : ∃ k, P.underlying t = some (.int k) := by
  unfold isIntT at h
  split at h
  · exact ⟨_, by assumption⟩
  · cases h

theorem eqFields_ints {P : Program} (d : Nat) (us vs : List Value) (w : World) : ∀ (fs : List Field) (k : Nat) (r : Bool), intFields P k fs = true → us.length = k + fs.length → eqInts ((us.drop k).map .s) ((vs.drop k).map .s) = some r →
    (Op.eqFields (d + 1) us.toArray vs.toArray fs).run P w = .ok r w
  | [], k, r, _, hl, he => by
    have : us.drop k = [] := List.drop_eq_nil_of_le (by simp at hl; omega)
    rw [this] at he
    cases hv : (vs.drop k).map V.s with
    | nil => rw [hv] at he; simp [eqInts] at he; subst he; simp [Op.eqFields]
    | cons y l => rw [hv] at he; simp [eqInts] at he
  | f :: fs, k, r, hf, hl, he => by
    simp only [intFields, Bool.and_eq_true, decide_eq_true_eq, beq_iff_eq] at hf
    obtain ⟨⟨⟨h1, h2⟩, h3⟩, h4⟩ := hf
    obtain ⟨ki, hki⟩ := isIntT_spec h2
    simp only [List.length_cons] at hl
    have hk : k < us.length := by omega
    have e1 : us.drop k = us[k] :: us.drop (k + 1) := List.drop_eq_getElem_cons hk
    rw [e1] at he
    cases hv : vs.drop k with
    | nil => rw [hv] at he; simp only [List.map_cons, List.map_nil] at he; unfold eqInts at he; split at he <;> simp_all
    | cons y vr =>
      rw [hv] at he
      simp only [List.map_cons] at he
      unfold eqInts at he
      split at he
      · rename_i q _; simp at q
      · rename_i k1 a x k2 b y' q1 q2
        simp only [List.cons.injEq, V.s.injEq] at q1 q2
        obtain ⟨q3, rfl⟩ := q1
        obtain ⟨q4, rfl⟩ := q2
        split at he
        case isFalse => cases he
        rename_i hkk
        subst hkk
        obtain ⟨r', hr', rfl⟩ := Option.map_eq_some_iff.1 he
        have hvk : vs[k]? = some y := by
          have := congrArg (·[0]?) hv
          simpa using this
        have hvd : vs.drop (k + 1) = vr := by rw [← List.drop_drop, hv]; rfl
        have ih := eqFields_ints d us vs w fs (k + 1) r' h4 (by omega) (by rw [hvd]; exact hr')
        have p1 : (part f.type us.toArray f.offset).run P w = .ok (.int k1 a) w := by
          have : (isAgg f.type).run P w = .ok false w := by simp [isAgg, run_underlying hki]
          simp [part, this, h3, hk, q3]
        have p2 : (part f.type vs.toArray f.offset).run P w = .ok (.int k1 b) w := by
          have : (isAgg f.type).run P w = .ok false w := by simp [isAgg, run_underlying hki]
          simp [part, this, h3, hvk, q4]
        simp only [Op.eqFields, if_pos h1, Sem.run_bind, p1, p2, Result.andThen_ok, run_equalIn_int w d f.type k1 ki a b hki, Sem.run_ite]
        cases hab : (a == b) with
        | true => simpa using ih
        | false => simp
      · cases he

theorem eqOk_ints {P : Program} {E : EqT} (h : ∀ t, E t = true → intStruct P t = true) : EqOk P E := by
  intro t ht us vs r xo yo hsz he w
  have hi := h t ht
  unfold intStruct at hi
  split at hi
  · rename_i fs hu
    simp only [Bool.and_eq_true, Bool.not_eq_true', beq_iff_eq] at hi
    obtain ⟨⟨⟨h1, h2⟩, h3⟩, h4⟩ := hi
    have hf : P.fieldsOf t = fs := by unfold Program.fieldsOf; rw [hu]
    have hlen : us.length = 0 + fs.toList.length := by
      rw [hsz] at h4
      simp at h4
      simpa using h4
    have hrun : (Op.equalIn 10000 t (.agg us.toArray) (.agg vs.toArray)).run P w = .ok r w := by
      rw [run_equalIn_struct w 9999 t us.toArray vs.toArray (by rw [hf]; exact hu) h2, hf]
      exact eqFields_ints 9998 us vs w fs.toList 0 r h1 hlen (by simpa using he)
    constructor
    · rw [Sem.run_bind, run_eqGuard_agg w .eql t xo yo us.toArray vs.toArray h3, Result.andThen_ok, run_eql_struct, hrun]; rfl
    · rw [Sem.run_bind, run_eqGuard_agg w .neq t xo yo us.toArray vs.toArray h3, Result.andThen_ok, run_neq_struct, hrun]; rfl
  · cases hi

/-- no function is known -/
def orc0 : Orc := fun _ => none
theorem orc0_ok {P : Program} : ∀ g sp, orc0 g = some sp → Impl P g sp := fun g sp h => by cases h
theorem orc_upd {P : Program} {C : Orc} {f : Nat} {sp : Spec} (hC : ∀ g sp, C g = some sp → Impl P g sp) (h : Impl P f sp) : ∀ g sp', upd C f (some sp) g = some sp' → Impl P g sp' := fun g sp' hg => by
  simp only [upd] at hg
  split at hg
  · rename_i e
    subst e
    simp only [Option.some.injEq] at hg
    subst hg
    exact h
  · exact hC g sp' hg

end Go.Proofs.Ytegalldldcaocaa
