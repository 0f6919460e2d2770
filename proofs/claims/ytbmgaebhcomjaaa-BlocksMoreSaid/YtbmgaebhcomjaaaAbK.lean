/-
Arguments as they come in: what is read of a value whose type is made of numbers, truths, texts, structs, arrays and slices. No condition.
-/
import Derived.Test.YtbmgaebhcomjaaaAbJ
import Derived.OpenShut
import Derived.ShutString
import Derived.ChangeOld
namespace Go.Proofs.Ytbmgaebhcomjaaa
set_option linter.unusedSimpArgs false
set_option linter.unusedVariables false
open Go.RowKit Go.WideShapes Go.ChangeAt

/-- a struct or an array is seen as its cells, all else as one -/
def FormV (P : Program) (e : TypeId) (x : V) : Prop := (isAggB P e = some true → x = .agg x.cells) ∧ (isAggB P e = some false → x.cells = [x])
/-- the cells of a value of a type -/
inductive TyV (P : Program) : TypeId → List V → Prop
  | int {t : TypeId} {k : IntKind} {n : Int} (ht : P.underlying t = some (.int k)) (hw : (Lit.int k n).wf = true) : TyV P t [.s (.int k n)]
  | bool {t : TypeId} {b : Bool} (ht : P.underlying t = some .bool) : TyV P t [.s (.bool b)]
  | str {t : TypeId} {s : ByteArray} (ht : P.underlying t = some .string) (hl : s.size ≤ maxLen) : TyV P t [.s (.string s)]
  | nil {t e : TypeId} (ht : P.underlying t = some (.slice e)) : TyV P t [.s (.slice none 0 0)]
  | lst {t e : TypeId} {l : List V} (ht : P.underlying t = some (.slice e)) (hl : l.length ≤ maxLen) (h : ∀ x ∈ l, TyV P e x.cells) (ha : ∀ x ∈ l, FormV P e x) : TyV P t [.lst false (P.cellsOf e) l]
  | struct {t : TypeId} {fs : Array Field} {ls : List (List V)} (ht : P.underlying t = some (.struct fs)) (hl : ls.length = fs.size) (h : ∀ (i : Nat) (f : Field) (l : List V), fs[i]? = some f → ls[i]? = some l → TyV P f.type l) : TyV P t ls.flatten
  | array {t e : TypeId} {n : Nat} {ls : List (List V)} (ht : P.underlying t = some (.array n e)) (hl : ls.length = n) (h : ∀ l ∈ ls, TyV P e l) : TyV P t ls.flatten

def contig (P : Program) (g : TypeId → Bool) : Nat → List Field → Option Nat
  | k, [] => some k
  | k, f :: fs => if f.offset = k ∧ g f.type = true then contig P g (k + P.cellsOf f.type) fs else none
/-- made of numbers, truths, texts, structs, arrays and slices -/
def plainT (P : Program) : Nat → TypeId → Bool
  | 0, _ => false
  | d + 1, t => match P.underlying t with
    | some .bool => P.cellsOf t == 1
    | some (.int _) => P.cellsOf t == 1
    | some .string => P.cellsOf t == 1
    | some (.slice e) => P.cellsOf t == 1 && plainT P d e && decide (0 < P.cellsOf e)
    | some (.struct fs) => contig P (plainT P d) 0 fs.toList == some (P.cellsOf t)
    | some (.array n e) => plainT P d e && P.cellsOf t == n * P.cellsOf e
    | _ => false

section
variable {H : Type} {enc : TypeId × Value → H} {P : Program} {w : World} {spare : Nat → Bool} {held : Bool}

/-- what is known of cells that are read -/
def Opened (P : Program) (w : World) (t : TypeId) (cs : List Value) : Prop :=
  ∃ l : List V, (∀ fresh, PW (RC w (fun _ => False) fresh false) cs l) ∧ TyV P t l ∧ l.length = P.cellsOf t ∧ (isAggB P t = some false → ∃ y, l = [y] ∧ y.cells = [y]) ∧ (isAggB P t).isSome = true ∧ ∀ u ∈ cs, u.oneCell' = true

theorem contig_le {g : TypeId → Bool} : ∀ (fs : List Field) (k n : Nat), contig P g k fs = some n → k ≤ n
  | [], k, n, h => by simp [contig] at h; omega
  | f :: fs, k, n, h => by
    simp only [contig] at h
    split at h
    · have := contig_le fs _ _ h; omega
    · cases h

theorem open_fields {g : TypeId → Bool} {cs : List Value} : ∀ (fs : List Field) (k : Nat), contig P g k fs = some cs.length → (∀ f ∈ fs, g f.type = true → Opened P w f.type ((cs.drop f.offset).take (P.cellsOf f.type))) →
    ∃ ls : List (List V), ls.length = fs.length ∧ (∀ fresh, PW (RC w (fun _ => False) fresh false) (cs.drop k) ls.flatten) ∧ (∀ (i : Nat) (f : Field) (l : List V), fs[i]? = some f → ls[i]? = some l → TyV P f.type l) ∧ ∀ u ∈ cs.drop k, u.oneCell' = true
  | [], k, hc, _ => by
    simp only [contig, Option.some.injEq] at hc
    subst hc
    exact ⟨[], rfl, fun fresh => by rw [List.drop_length]; exact PW.nil, fun i f l h => by simp at h, fun u hu => by rw [List.drop_length] at hu; cases hu⟩
  | f :: fs, k, hc, ho => by
    simp only [contig] at hc
    split at hc
    case isFalse => cases hc
    rename_i hf
    obtain ⟨rfl, hg⟩ := hf
    obtain ⟨l, h1, h2, h3, _, _, h4⟩ := ho f (by simp) hg
    obtain ⟨ls, i1, i2, i3, i4⟩ := open_fields fs _ hc fun f' hf' => ho f' (by simp [hf'])
    have e : cs.drop f.offset = (cs.drop f.offset).take (P.cellsOf f.type) ++ cs.drop (f.offset + P.cellsOf f.type) := by
      rw [← List.drop_drop, List.take_append_drop]
    refine ⟨l :: ls, by simp [i1], fun fresh => ?_, fun i f' l' hi hl => ?_, fun u hu => ?_⟩
    · rw [e, List.flatten_cons]
      exact (h1 fresh).append (i2 fresh)
    · cases i with
      | zero => simp at hi hl; subst hi; subst hl; exact h2
      | succ i => exact i3 i f' l' (by simpa using hi) (by simpa using hl)
    · rw [e] at hu
      rcases List.mem_append.1 hu with hu | hu
      · exact h4 u hu
      · exact i4 u hu

theorem open_items {e : TypeId} {cs : List Value} : ∀ (c k : Nat), cs.length = (k + c) * P.cellsOf e → (∀ i, k ≤ i → i < k + c → Opened P w e ((cs.drop (i * P.cellsOf e)).take (P.cellsOf e))) →
    ∃ ls : List (List V), ls.length = c ∧ (∀ fresh, PW (RC w (fun _ => False) fresh false) (cs.drop (k * P.cellsOf e)) ls.flatten) ∧ (∀ l ∈ ls, TyV P e l) ∧ ∀ u ∈ cs.drop (k * P.cellsOf e), u.oneCell' = true
  | 0, k, hl, _ => by
    have : cs.drop (k * P.cellsOf e) = [] := List.drop_eq_nil_of_le (by simp at hl; omega)
    exact ⟨[], rfl, fun fresh => (by rw [this]; exact PW.nil), fun l h => (by cases h), fun u hu => (by rw [this] at hu; cases hu)⟩
  | c + 1, k, hl, ho => by
    obtain ⟨l, h1, h2, h3, _, _, h4⟩ := ho k (Nat.le_refl _) (by omega)
    obtain ⟨ls, i1, i2, i3, i4⟩ := open_items c (k + 1) (by rw [hl]; congr 1; omega) fun i h5 h6 => ho i (by omega) (by omega)
    have hk : (k + 1) * P.cellsOf e = k * P.cellsOf e + P.cellsOf e := by rw [Nat.add_mul]; omega
    have e1 : cs.drop (k * P.cellsOf e) = (cs.drop (k * P.cellsOf e)).take (P.cellsOf e) ++ cs.drop ((k + 1) * P.cellsOf e) := by
      rw [hk, ← List.drop_drop, List.take_append_drop]
    refine ⟨l :: ls, by simp [i1], fun fresh => ?_, fun l' hl' => ?_, fun u hu => ?_⟩
    · rw [e1, List.flatten_cons]
      exact (h1 fresh).append (i2 fresh)
    · rcases List.mem_cons.1 hl' with rfl | hl'
      · exact h2
      · exact i3 l' hl'
    · rw [e1] at hu
      rcases List.mem_append.1 hu with hu | hu
      · exact h4 u hu
      · exact i4 u hu

/-- an element of a row -/
def mkV (ag : Bool) (l : List V) : V := if ag then .agg l else l.headD (.s undef)
theorem open_elems {e : TypeId} {a : Addr} {ag : Bool} (hag : isAggB P e = some ag) : ∀ (c k : Nat), (∀ i, k ≤ i → i < k + c → ∃ cs, w.cells? 0 (a.add (i * P.cellsOf e)) (P.cellsOf e) = some cs ∧ Opened P w e cs) →
    ∃ (l : List V) (us : List Value), l.length = c ∧ (∀ x ∈ l, x.cells.length = P.cellsOf e ∧ TyV P e x.cells ∧ FormV P e x) ∧ (∀ fresh, PW (RC w (fun _ => False) fresh false) us (flat l)) ∧ (∀ u ∈ us, u.oneCell' = true) ∧
      ∀ j u, us[j]? = some u → w.cell? (a.add (k * P.cellsOf e + j)) = some u
  | 0, k, _ => ⟨[], [], rfl, fun x h => by simp at h, fun fresh => PW.nil, fun u h => by simp at h, fun j u h => by simp at h⟩
  | c + 1, k, ho => by
    obtain ⟨cs, hcs, l, h1, h2, h3, h4, _, h5⟩ := ho k (Nat.le_refl _) (by omega)
    obtain ⟨ls, us, i1, i2, i3, i4, i5⟩ := open_elems hag c (k + 1) fun i h5 h6 => ho i (by omega) (by omega)
    have hk : (k + 1) * P.cellsOf e = k * P.cellsOf e + P.cellsOf e := by rw [Nat.add_mul]; omega
    have hx : (mkV ag l).cells = l ∧ (ag = true → mkV ag l = .agg l) := by
      cases ag with
      | true => exact ⟨rfl, fun _ => rfl⟩
      | false =>
        obtain ⟨y, rfl, hy⟩ := h4 hag
        exact ⟨by simpa [mkV] using hy, fun h => by cases h⟩
    have hcl : cs.length = P.cellsOf e := by rw [(h1 fun _ => False).1, h3]
    refine ⟨mkV ag l :: ls, cs ++ us, by simp [i1], fun x hx' => ?_, fun fresh => ?_, fun u hu => ?_, fun j u hj => ?_⟩
    · rcases List.mem_cons.1 hx' with rfl | hx'
      · rw [hx.1]
        refine ⟨h3, h2, fun h => ?_, fun h => ?_⟩
        · rw [hag] at h
          simp only [Option.some.injEq] at h
          rw [hx.2 h]; rfl
        · rw [hag] at h
          simp only [Option.some.injEq] at h
          obtain ⟨y, rfl, hy⟩ := h4 (by rw [hag, h])
          subst h
          simpa [mkV] using hy
      · exact i2 x hx'
    · simp only [flat, List.flatMap_cons]
      rw [hx.1]
      exact (h1 fresh).append (i3 fresh)
    · rcases List.mem_append.1 hu with hu | hu
      · exact h5 u hu
      · exact i4 u hu
    · rw [List.getElem?_append] at hj
      split at hj
      · rename_i hlt
        unfold World.cells? at hcs
        rw [if_pos (Nat.zero_le _)] at hcs
        have h7 : w.cell? ((a.add (k * P.cellsOf e)).add j) = cs[j]? := mapM_some_get hcs j j (List.getElem?_range (by omega))
        rw [Addr.add_add, hj] at h7
        exact h7
      · rename_i hge
        have := i5 (j - cs.length) u hj
        rw [hk] at this
        rw [show k * P.cellsOf e + j = k * P.cellsOf e + P.cellsOf e + (j - cs.length) by omega]
        exact this

theorem open_cells : ∀ (d : Nat) (t : TypeId) (fuel : Nat) (cs : List Value) (x : DataW H × List MemPlace), plainT P d t = true → DataW.trod enc P w 0 spare held fuel t cs = some x → Opened P w t cs
  | 0, t, fuel, cs, x, hp, _ => by simp [plainT] at hp
  | d + 1, t, 0, cs, x, hp, h => by simp [DataW.trod] at h
  | d + 1, t, m + 1, cs, x, hp, h => by
    simp only [plainT] at hp
    have hag : ∀ {d : TypeDesc}, P.underlying t = some d → isAggB P t = some (aggD d) := fun h => aggB_of h
    split at hp
    · rename_i hu
      obtain ⟨b, rfl, _⟩ := DataW.trod_bool hu h
      have hc : P.cellsOf t = 1 := by simpa using hp
      exact ⟨[.s (.bool b)], fun fresh => PW.one (.s _ _), .bool hu, by rw [hc]; rfl, fun _ => ⟨_, rfl, rfl⟩, by rw [hag hu]; rfl, fun u hu => by simp at hu; subst hu; rfl⟩
    · rename_i k hu
      obtain ⟨n, rfl, _, hw⟩ := DataW.trod_int hu h
      have hc : P.cellsOf t = 1 := by simpa using hp
      exact ⟨[.s (.int k n)], fun fresh => PW.one (.s _ _), .int hu hw, by rw [hc]; rfl, fun _ => ⟨_, rfl, rfl⟩, by rw [hag hu]; rfl, fun u hu => by simp at hu; subst hu; rfl⟩
    · rename_i hu
      obtain ⟨s, rfl, _, hl⟩ := DataW.trod_string hu h
      have hc : P.cellsOf t = 1 := by simpa using hp
      exact ⟨[.s (.string s)], fun fresh => PW.one (.s _ _), .str hu hl, by rw [hc]; rfl, fun _ => ⟨_, rfl, rfl⟩, by rw [hag hu]; rfl, fun u hu => by simp at hu; subst hu; rfl⟩
    · rename_i e hu
      simp only [Bool.and_eq_true, beq_iff_eq, decide_eq_true_eq] at hp
      obtain ⟨⟨hc, hpe⟩, hpos⟩ := hp
      rcases DataW.trod_slice hu h with ⟨rfl, _⟩ | ⟨a, len, cap, elems, rest, n, hn, rfl, _, _, hlc, hcm, hel, helem, _⟩
      · exact ⟨[.s (.slice none 0 0)], fun fresh => PW.one (.s _ _), .nil hu, by rw [hc]; rfl, fun _ => ⟨_, rfl, rfl⟩, by rw [hag hu]; rfl, fun u hu => by simp at hu; subst hu; rfl⟩
      · have hop : ∀ i, 0 ≤ i → i < 0 + len → ∃ cs, w.cells? 0 (a.add (i * P.cellsOf e)) (P.cellsOf e) = some cs ∧ Opened P w e cs := fun i _ hi => by
          have hi' : i < elems.length := by omega
          have := helem i (by omega)
          rw [List.getElem?_eq_getElem hi'] at this
          obtain ⟨cs, h1, h2⟩ := Option.bind_eq_some_iff.1 this
          exact ⟨cs, h1, open_cells d e n cs _ hpe h2⟩
        have hsome : ∃ ag, isAggB P e = some ag := by
          cases d with
          | zero => simp [plainT] at hpe
          | succ d =>
            simp only [plainT] at hpe
            cases hue : P.underlying e with
            | none => rw [hue] at hpe; cases hpe
            | some de => exact ⟨_, aggB_of hue⟩
        obtain ⟨ag, hage⟩ := hsome
        obtain ⟨l, us, i1, i2, i3, i4, i5⟩ := open_elems hage len 0 hop
        refine ⟨[.lst false (P.cellsOf e) l], fun fresh => PW.one ?_, .lst hu (by omega) (fun x hx => (i2 x hx).2.1) (fun x hx => (i2 x hx).2.2), by rw [hc]; rfl, fun _ => ⟨_, rfl, rfl⟩, by rw [hag hu]; rfl, fun u hu => by simp at hu; subst hu; rfl⟩
        have := RC.lst (w := w) (own := fun _ => False) (fresh := fresh) false false (P.cellsOf e) l (some a) cap us (by rw [i1]; exact hlc) (fun x hx => (i2 x hx).1) (i3 fresh).1 (i3 fresh).2 i4 (by
          cases us with
          | nil => exact .inl rfl
          | cons u us =>
            right
            have h0 := i5 0 u rfl
            simp only [Nat.zero_mul, Nat.add_zero] at h0
            have hsp : a.spot = none := by
              unfold Addr.add at h0
              simp only [if_true] at h0
              unfold World.cell? at h0
              split at h0
              · split at h0
                · cases h0
                · rename_i hsp; simpa using hsp
              · cases h0
            obtain ⟨g, o, sp⟩ := a
            simp only at hsp
            subst hsp
            refine ⟨g, o, rfl, fun h => h, fun h => (by cases h), fun j u hj => ?_⟩
            have := i5 j u hj
            rw [Nat.zero_mul, Nat.zero_add, Addr.add_lit] at this
            exact this)
        rw [i1] at this
        exact this
    · rename_i fs hu
      have hp' : contig P (plainT P d) 0 fs.toList = some (P.cellsOf t) := by simpa using hp
      obtain ⟨xs, n, hn, _, hl, hlen, hf⟩ := DataW.trod_struct hu h
      obtain ⟨ls, i1, i2, i3, i4⟩ := open_fields (w := w) (g := plainT P d) (cs := cs) fs.toList 0 (by rw [hp', hl]) fun f hf' hg => by
        obtain ⟨i, hi⟩ := List.getElem?_of_mem hf'
        have hi' : fs[i]? = some f := by simpa using hi
        have := hf i f hi'
        have hlt : i < xs.length := by rw [hlen]; exact (Array.getElem?_eq_some_iff.1 hi').1
        rw [List.getElem?_eq_getElem hlt] at this
        exact open_cells d f.type n _ _ hg this
      rw [List.drop_zero] at i2 i4
      refine ⟨ls.flatten, i2, .struct hu (by simpa using i1) fun i f l hi hl => i3 i f l (by simpa using hi) hl, by rw [← (i2 fun _ => False).1, hl], fun h => (by rw [hag hu] at h; cases h), by rw [hag hu]; rfl, i4⟩
    · rename_i n e hu
      simp only [Bool.and_eq_true, beq_iff_eq] at hp
      obtain ⟨hpe, hc⟩ := hp
      obtain ⟨xs, m', hn, _, hl, hlen, hf⟩ := DataW.trod_array hu h
      obtain ⟨ls, i1, i2, i3, i4⟩ := open_items (w := w) (e := e) (cs := cs) n 0 (by rw [hl, hc, Nat.zero_add]) fun i _ hi => by
        have := hf i (by omega)
        have hlt : i < xs.length := by omega
        rw [List.getElem?_eq_getElem hlt] at this
        exact open_cells d e m' _ _ hpe this
      rw [Nat.zero_mul, List.drop_zero] at i2 i4
      exact ⟨ls.flatten, i2, .array hu i1 i3, by rw [← (i2 fun _ => False).1, hl], fun h => (by rw [hag hu] at h; cases h), by rw [hag hu]; rfl, i4⟩
    · cases hp

/-- an argument: what it reads as -/
theorem open_arg {base : Nat} {r : Reach} {d : Nat} {t : TypeId} {v : Value} {D : DataW H} {p : List MemPlace} (hp : plainT P d t = true) (hv : Value.okWide P w r base t v) (h : DataW.Trod enc P w 0 spare held t v D p) :
    ∃ (x : V), RC w (fun _ => False) (Fresh w fun _ => False) false v x ∧ TyV P t x.cells ∧ FormV P t x := by
  obtain ⟨fuel, hf⟩ := h
  obtain ⟨l, h1, h2, h3, h4, h5, h6⟩ := open_cells d t fuel v.cells.toList _ hp hf
  have h1' := h1 (Fresh w fun _ => False)
  obtain ⟨ag, hag⟩ := Option.isSome_iff_exists.1 h5
  have hu : ∃ dd, P.underlying t = some dd ∧ aggD dd = ag := by
    unfold isAggB at hag
    obtain ⟨dd, h7, h8⟩ := Option.map_eq_some_iff.1 hag
    refine ⟨dd, h7, ?_⟩
    rw [← h8]; cases dd <;> rfl
  obtain ⟨dd, hdd, hda⟩ := hu
  cases ag with
  | true =>
    have hva : ∃ cs : Array Value, v = .agg cs := by
      unfold Value.okWide at hv
      rw [hdd] at hv
      cases dd <;> simp [aggD] at hda
      · obtain ⟨cs, rfl, _⟩ := hv; exact ⟨cs, rfl⟩
      · obtain ⟨cs, rfl, _⟩ := hv; exact ⟨cs, rfl⟩
    obtain ⟨cs, rfl⟩ := hva
    refine ⟨.agg l, ?_, h2, fun _ => rfl, fun h => by rw [hag] at h; cases h⟩
    have := rc_agg (w := w) _ _ h1'
    simpa [Value.cells] using this
  | false =>
    obtain ⟨y, rfl, hy⟩ := h4 hag
    obtain ⟨u, us, hus, hr, hnil⟩ := h1'.uncons
    have := hnil.nil_r
    subst this
    have hvu : v = u := by
      have h1u := h6 u (by rw [hus]; simp)
      cases v with
      | agg cs =>
        exfalso
        unfold Value.okWide Cell.okWide at hv
        rw [hdd] at hv
        cases dd <;> simp [aggD, Cell.ok] at hda hv
      | _ => simp [Value.cells] at hus; exact hus
    subst hvu
    exact ⟨y, hr, by rw [hy]; exact h2, fun h => (by rw [hag] at h; cases h), fun _ => hy⟩
theorem TyV.int_inv {t : TypeId} {k : IntKind} {l : List V} (ht : P.underlying t = some (.int k)) (h : TyV P t l) : ∃ n, l = [.s (.int k n)] ∧ (Lit.int k n).wf = true := by
  cases h with
  | int ht2 hw => rw [ht] at ht2; cases ht2; exact ⟨_, rfl, hw⟩
  | bool ht2 => rw [ht] at ht2; cases ht2
  | str ht2 hl => rw [ht] at ht2; cases ht2
  | nil ht2 => rw [ht] at ht2; cases ht2
  | lst ht2 hl hh ha => rw [ht] at ht2; cases ht2
  | struct ht2 hl hh => rw [ht] at ht2; cases ht2
  | array ht2 hl hh => rw [ht] at ht2; cases ht2
theorem TyV.bool_inv {t : TypeId}  {l : List V} (ht : P.underlying t = some .bool) (h : TyV P t l) : ∃ b, l = [.s (.bool b)] := by
  cases h with
  | int ht2 hw => rw [ht] at ht2; cases ht2
  | bool ht2 => rw [ht] at ht2; cases ht2; exact ⟨_, rfl⟩
  | str ht2 hl => rw [ht] at ht2; cases ht2
  | nil ht2 => rw [ht] at ht2; cases ht2
  | lst ht2 hl hh ha => rw [ht] at ht2; cases ht2
  | struct ht2 hl hh => rw [ht] at ht2; cases ht2
  | array ht2 hl hh => rw [ht] at ht2; cases ht2
theorem TyV.str_inv {t : TypeId}  {l : List V} (ht : P.underlying t = some .string) (h : TyV P t l) : ∃ s, l = [.s (.string s)] ∧ s.size ≤ maxLen := by
  cases h with
  | int ht2 hw => rw [ht] at ht2; cases ht2
  | bool ht2 => rw [ht] at ht2; cases ht2
  | str ht2 hl => rw [ht] at ht2; cases ht2; exact ⟨_, rfl, hl⟩
  | nil ht2 => rw [ht] at ht2; cases ht2
  | lst ht2 hl hh ha => rw [ht] at ht2; cases ht2
  | struct ht2 hl hh => rw [ht] at ht2; cases ht2
  | array ht2 hl hh => rw [ht] at ht2; cases ht2
theorem TyV.slice_inv {t : TypeId} {e : TypeId} {l : List V} (ht : P.underlying t = some (.slice e)) (h : TyV P t l) : l = [.s (.slice none 0 0)] ∨ ∃ m, l = [.lst false (P.cellsOf e) m] ∧ m.length ≤ maxLen ∧ (∀ x ∈ m, TyV P e x.cells) ∧ ∀ x ∈ m, FormV P e x := by
  cases h with
  | int ht2 hw => rw [ht] at ht2; cases ht2
  | bool ht2 => rw [ht] at ht2; cases ht2
  | str ht2 hl => rw [ht] at ht2; cases ht2
  | nil ht2 => rw [ht] at ht2; cases ht2; exact .inl rfl
  | lst ht2 hl hh ha => rw [ht] at ht2; cases ht2; exact .inr ⟨_, rfl, hl, hh, ha⟩
  | struct ht2 hl hh => rw [ht] at ht2; cases ht2
  | array ht2 hl hh => rw [ht] at ht2; cases ht2
theorem TyV.struct_inv {t : TypeId} {fs : Array Field} {l : List V} (ht : P.underlying t = some (.struct fs)) (h : TyV P t l) : ∃ ls : List (List V), l = ls.flatten ∧ ls.length = fs.size ∧ ∀ (i : Nat) (f : Field) (l : List V), fs[i]? = some f → ls[i]? = some l → TyV P f.type l := by
  cases h with
  | int ht2 hw => rw [ht] at ht2; cases ht2
  | bool ht2 => rw [ht] at ht2; cases ht2
  | str ht2 hl => rw [ht] at ht2; cases ht2
  | nil ht2 => rw [ht] at ht2; cases ht2
  | lst ht2 hl hh ha => rw [ht] at ht2; cases ht2
  | struct ht2 hl hh => rw [ht] at ht2; cases ht2; exact ⟨_, rfl, hl, hh⟩
  | array ht2 hl hh => rw [ht] at ht2; cases ht2
theorem TyV.array_inv {t : TypeId} {n : Nat} {e : TypeId} {l : List V} (ht : P.underlying t = some (.array n e)) (h : TyV P t l) : ∃ ls : List (List V), l = ls.flatten ∧ ls.length = n ∧ ∀ l ∈ ls, TyV P e l := by
  cases h with
  | int ht2 hw => rw [ht] at ht2; cases ht2
  | bool ht2 => rw [ht] at ht2; cases ht2
  | str ht2 hl => rw [ht] at ht2; cases ht2
  | nil ht2 => rw [ht] at ht2; cases ht2
  | lst ht2 hl hh ha => rw [ht] at ht2; cases ht2
  | struct ht2 hl hh => rw [ht] at ht2; cases ht2
  | array ht2 hl hh => rw [ht] at ht2; cases ht2; exact ⟨_, rfl, hl, hh⟩
end
end Go.Proofs.Ytbmgaebhcomjaaa
