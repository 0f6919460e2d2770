/-
Images as plain lists of bytes: what is written is read, and what is read was written. No condition.
-/
import Derived.Test.YtecckfhmgnlmnaaImgT
namespace Go.Proofs.Ytecckfhmgnlmnaa

theorem str_toList (l : List Int) : (strOfNums l).toList = l.map fun n => UInt8.ofNat n.toNat := by
  rw [ByteArray.toList_eq]; exact strOfNums_data l
theorem u8_inj {a b : Int} (ha : byte a = true) (hb : byte b = true) (h : UInt8.ofNat a.toNat = UInt8.ofNat b.toNat) : a = b := by
  simp only [byte, Bool.and_eq_true, decide_eq_true_eq] at ha hb
  have h2 := congrArg UInt8.toNat h
  simp at h2
  omega
theorem str_inj : ∀ {l m : List Int}, l.all byte = true → m.all byte = true → (strOfNums l).toList = (strOfNums m).toList → l = m := by
  intro l m hl hm h
  rw [str_toList, str_toList] at h
  induction l generalizing m with
  | nil => cases m with
    | nil => rfl
    | cons b m => simp at h
  | cons a l ih => cases m with
    | nil => simp at h
    | cons b m =>
      simp only [List.map_cons, List.cons.injEq, List.all_cons, Bool.and_eq_true] at h hl hm
      rw [u8_inj hl.1 hm.1 h.1, ih hl.2 hm.2 h.2]
theorem str_beq {l m : List Int} (hl : l.all byte = true) (hm : m.all byte = true) : ((strOfNums l).toList == (strOfNums m).toList) = decide (l = m) := by
  by_cases h : l = m
  · subst h; simp
  · simp only [h, decide_false]
    rw [beq_eq_false_iff_ne]
    exact fun e => h (str_inj hl hm e)
theorem magic_str : (ByteArray.mk #[83, 82, 73, 1]).toList = (strOfNums [83, 82, 73, 1]).toList := by rw [str_toList, ByteArray.toList_eq]; rfl
theorem magicB_eq {l : List Int} (hl : l.all byte = true) : magicB l = decide (l.take 4 = [83, 82, 73, 1]) := by
  unfold magicB
  rw [magic_str]
  exact str_beq (by rw [List.all_eq_true] at *; exact fun x hx => hl x (List.mem_of_mem_take hx)) rfl

theorem putB_byte (w : Int) : (putB w).all byte = true := by
  simp [putB, byte]; omega
theorem codeB_byte (c : List Ins) : (codeB c).all byte = true := by
  rw [List.all_eq_true]
  intro x hx
  obtain ⟨i, _, hi⟩ := List.mem_flatMap.1 hx
  exact List.all_eq_true.1 (putB_byte _) x hi
theorem head_byte (p : Prg) : (headBytes p).all byte = true := by
  unfold headBytes
  simp only [List.all_append, putB_byte, Bool.and_true]
  rfl
theorem imgB_byte {p : Prg} (h : p.data.all byte = true) : (imgB p).all byte = true := by
  unfold imgB
  simp only [List.all_append, head_byte, codeB_byte, h, Bool.and_true]
theorem head_len (p : Prg) : (headBytes p).length = 16 := by simp [headBytes, putB_len]
theorem imgB_len (p : Prg) : (imgB p).length = 16 + 4 * p.code.length + p.data.length := by
  simp only [imgB, List.length_append, head_len, codeB_len]

theorem getW_put {w : Int} (h0 : 0 ≤ w) (h1 : w < 4294967296) : getW (w % 256) (w / 256 % 256) (w / 65536 % 256) (w / 16777216 % 256) = w := by
  unfold getW; omega
theorem wordAt_put {w : Int} (h0 : 0 ≤ w) (h1 : w < 4294967296) (a r : List Int) {k : Nat} (hk : k = a.length) : wordAt (a ++ (putB w ++ r)) k = w := by
  subst hk
  have e : ∀ j, (a ++ (putB w ++ r)).getD (a.length + j) 0 = (putB w ++ r).getD j 0 := fun j => by
    rw [List.getD_eq_getElem?_getD, List.getD_eq_getElem?_getD, List.getElem?_append_right (by omega), Nat.add_sub_cancel_left]
  have e0 := e 0
  simp only [Nat.add_zero] at e0
  unfold wordAt
  rw [e0, e 1, e 2, e 3]
  exact getW_put h0 h1
theorem getW_eq {b0 b1 b2 b3 : Int} (h0 : byte b0 = true) (h1 : byte b1 = true) (h2 : byte b2 = true) (h3 : byte b3 = true) : putB (getW b0 b1 b2 b3) = [b0, b1, b2, b3] := by
  simp only [byte, Bool.and_eq_true, decide_eq_true_eq] at *
  have e1 : getW b0 b1 b2 b3 % 256 = b0 := by unfold getW; omega
  have e2 : getW b0 b1 b2 b3 / 256 % 256 = b1 := by unfold getW; omega
  have e3 : getW b0 b1 b2 b3 / 65536 % 256 = b2 := by unfold getW; omega
  have e4 : getW b0 b1 b2 b3 / 16777216 % 256 = b3 := by unfold getW; omega
  simp only [putB, e1, e2, e3, e4]
theorem four {l : List Int} {k : Nat} (h : k + 4 ≤ l.length) : (l.drop k).take 4 = [l.getD k 0, l.getD (k + 1) 0, l.getD (k + 2) 0, l.getD (k + 3) 0] := by
  have g : ∀ j, k + j < l.length → l.drop (k + j) = l.getD (k + j) 0 :: l.drop (k + j + 1) := fun j hj => by
    rw [List.drop_eq_getElem_cons hj]
    simp [List.getD_eq_getElem?_getD, List.getElem?_eq_getElem hj]
  have g0 := g 0 (by omega)
  simp only [Nat.add_zero] at g0
  rw [g0, g 1 (by omega), show k + 1 + 1 = k + 2 from rfl, g 2 (by omega), show k + 2 + 1 = k + 3 from rfl, g 3 (by omega)]
  rfl
theorem put_word {l : List Int} (hl : l.all byte = true) {k : Nat} (h : k + 4 ≤ l.length) : putB (wordAt l k) = (l.drop k).take 4 := by
  have b : ∀ j, byte (l.getD j 0) = true := fun j => by
    have := byte_get hl j
    simp only [byte, Bool.and_eq_true, decide_eq_true_eq]; exact this
  rw [four h]
  exact getW_eq (b _) (b _) (b _) (b _)

theorem encT_bd {i : Ins} (h : rightB i = true) : 0 ≤ (encT i).1 ∧ (encT i).1 < 4294967296 := by
  rw [encT_right h]
  obtain ⟨o0, o1, d0, d1, a0, a1, b0, b1, m0, m1⟩ := right_fit h
  simp only [encW]
  omega

/-- the instructions of a program stand one behind the other in its image -/
theorem img_word {p : Prg} (hr : p.code.all rightB = true) {k : Nat} {i : Ins} (h : p.code[k]? = some i) : wordAt (imgB p) (16 + 4 * k) = (encT i).1 := by
  have hi := List.all_eq_true.1 hr i (List.mem_of_getElem? h)
  have hk : k < p.code.length := (List.getElem?_eq_some_iff.1 h).1
  have e1 : p.code = p.code.take k ++ i :: p.code.drop (k + 1) := by
    have := List.take_append_drop k p.code
    rw [List.drop_eq_getElem_cons hk] at this
    rw [(List.getElem?_eq_some_iff.1 h).2] at this
    exact this.symm
  have e2 : imgB p = (headBytes p ++ codeB (p.code.take k)) ++ (putB (encT i).1 ++ (codeB (p.code.drop (k + 1)) ++ p.data)) := by
    unfold imgB
    conv => lhs; rw [e1]
    simp only [codeB, List.flatMap_append, List.flatMap_cons, List.append_assoc]
  obtain ⟨h0, h1⟩ := encT_bd hi
  rw [e2]
  exact wordAt_put h0 h1 _ _ (by rw [List.length_append, head_len, codeB_len, List.length_take]; omega)
theorem rightP_parts {p : Prg} (h : rightP p = true) : 1 ≤ p.code.length ∧ p.code.length ≤ 2000 ∧ 0 ≤ p.size ∧ p.size ≤ 65536 ∧ (p.data.length : Int) ≤ p.size ∧ p.code.all rightB = true ∧ targsB p = false := by
  simp only [rightP, headB, Bool.and_eq_true, decide_eq_true_eq, Bool.not_eq_true'] at h
  obtain ⟨⟨⟨⟨⟨⟨q1, q2⟩, q3⟩, q4⟩, q5⟩, hall⟩, ht⟩ := h
  exact ⟨by omega, by omega, q3, q4, q5, hall, ht⟩
theorem img_head (p : Prg) (h : rightP p = true) : wordAt (imgB p) 4 = p.code.length ∧ wordAt (imgB p) 8 = p.size ∧ wordAt (imgB p) 12 = p.data.length := by
  obtain ⟨q1, q2, q3, q4, q5, _, _⟩ := rightP_parts h
  have e : imgB p = [83, 82, 73, 1] ++ (putB p.code.length ++ (putB p.size ++ (putB p.data.length ++ (codeB p.code ++ p.data)))) := by
    simp [imgB, headBytes]
  refine ⟨?_, ?_, ?_⟩
  · rw [e]; exact wordAt_put (by omega) (by omega) _ _ rfl
  · rw [e, ← List.append_assoc]; exact wordAt_put (by omega) (by omega) _ _ rfl
  · rw [e, ← List.append_assoc, ← List.append_assoc]; exact wordAt_put (by omega) (by omega) _ _ rfl
theorem img_ins {p : Prg} (hr : p.code.all rightB = true) {k : Nat} {i : Ins} (h : p.code[k]? = some i) : insAt (imgB p) k = i ∧ insOkAt (imgB p) k = true := by
  have hi := List.all_eq_true.1 hr i (List.mem_of_getElem? h)
  unfold insAt insOkAt
  rw [img_word hr h, encT_right hi, decT_enc hi]
  exact ⟨rfl, rfl⟩
theorem img_drop (p : Prg) : (imgB p).drop (16 + 4 * p.code.length) = p.data := by
  have : (headBytes p ++ codeB p.code).length = 16 + 4 * p.code.length := by rw [List.length_append, head_len, codeB_len]
  unfold imgB
  rw [← this, List.drop_left]
theorem img_code {p : Prg} (hr : p.code.all rightB = true) : (List.range p.code.length).map (insAt (imgB p)) = p.code := by
  apply List.ext_getElem?
  intro k
  rw [List.getElem?_map]
  rcases Nat.lt_or_ge k p.code.length with hk | hk
  · have := List.getElem?_eq_getElem hk
    rw [List.getElem?_range hk, Option.map_some, (img_ins hr this).1, this]
  · rw [List.getElem?_eq_none (by simpa using hk), List.getElem?_eq_none (by omega)]; rfl

/-- what is written is read as it was -/
theorem read_img {p : Prg} (h : rightP p = true) (hd : p.data.all byte = true) : readX (imgB p) = (some p, 0) := by
  obtain ⟨q1, q2, q3, q4, q5, hall, ht⟩ := rightP_parts h
  obtain ⟨w4, w8, w12⟩ := img_head p h
  have hl := imgB_len p
  have hm : magicB (imgB p) = true := by rw [magicB_eq (imgB_byte hd)]; simp [imgB, headBytes]
  have hs : sizesB (wordAt (imgB p) 4) (wordAt (imgB p) 8) (wordAt (imgB p) 12) = true := by
    rw [w4, w8, w12]
    simp [sizesB]
    try omega
  have hn : (wordAt (imgB p) 4).toNat = p.code.length := by rw [w4]; simp
  have hok : (List.range p.code.length).all (insOkAt (imgB p)) = true := by
    rw [List.all_eq_true]
    intro k hk
    have hk' : k < p.code.length := by simpa using hk
    exact (img_ins hall (List.getElem?_eq_getElem hk')).2
  have hq : (⟨p.code, p.size, p.data⟩ : Prg) = p := rfl
  unfold readX
  rw [if_neg (by omega), if_neg (by simp [hm]), if_neg (by simp [hs]), if_neg (by rw [w4, w12, hl]; simp), hn, if_neg (by simp [hok]), img_code hall, img_drop, w8, if_neg (by rw [hq]; simp [ht])]

theorem codeB_words {l : List Int} (hl : l.all byte = true) : ∀ (n : Nat), 16 + 4 * n ≤ l.length → (List.range n).all (insOkAt l) = true → codeB ((List.range n).map (insAt l)) = (l.drop 16).take (4 * n) ∧ ((List.range n).map (insAt l)).all rightB = true
  | 0, _, _ => by simp [codeB]
  | n + 1, hn, ho => by
    rw [List.range_succ, List.all_append] at ho
    simp only [Bool.and_eq_true, List.all_cons, List.all_nil, Bool.and_true] at ho
    obtain ⟨ih, ih2⟩ := codeB_words hl n (by omega) ho.1
    have hd : rightB (decI (wordAt l (16 + 4 * n))) = true ∧ insAt l n = decI (wordAt l (16 + 4 * n)) := by
      have := ho.2
      unfold insOkAt decT at this
      unfold insAt decT
      split at this
      · rename_i h; exact ⟨h, by rw [if_pos h]⟩
      · cases this
    have hw := wordAt_bd hl (16 + 4 * n)
    have he : (encT (insAt l n)).1 = wordAt l (16 + 4 * n) := by
      rw [hd.2, encT_right hd.1]
      exact enc_dec _ hw.1 hw.2
    refine ⟨?_, ?_⟩
    · rw [List.range_succ, List.map_append]
      simp only [codeB, List.flatMap_append, List.map_cons, List.map_nil, List.flatMap_cons, List.flatMap_nil, List.append_nil] at ih ⊢
      rw [ih, he, put_word hl (by omega), show 4 * (n + 1) = 4 * n + 4 by omega, List.take_add, List.drop_drop]
    · rw [List.range_succ, List.map_append, List.all_append, ih2]
      simp [hd]

theorem readX_cases (l : List Int) : (∃ e, readX l = (none, e) ∧ e ≠ 0) ∨ ∃ q, readX l = (some q, 0) := by
  unfold readX
  (repeat' split) <;> first | exact .inl ⟨_, rfl, by decide⟩ | exact .inr ⟨_, rfl⟩

/-- what is read was written so -/
theorem img_read {l : List Int} {q : Prg} (hl : l.all byte = true) (h : readX l = (some q, 0)) : imgB q = l ∧ rightP q = true ∧ q.data.all byte = true := by
  unfold readX at h
  split at h
  · cases h
  rename_i c1
  split at h
  · cases h
  rename_i c2
  split at h
  · cases h
  rename_i c3
  split at h
  · cases h
  rename_i c4
  split at h
  · cases h
  rename_i c5
  split at h
  · cases h
  rename_i c6
  simp only [Bool.not_eq_false] at c2 c3 c5
  simp only [Prod.mk.injEq, Option.some.injEq, and_true] at h
  subst h
  have c3' := c3
  simp only [sizesB, Bool.and_eq_true, decide_eq_true_eq] at c3'
  obtain ⟨⟨⟨⟨s1, s2⟩, s3⟩, s4⟩, s5⟩ := c3'
  obtain ⟨z0, _⟩ := wordAt_bd hl 12
  obtain ⟨N, hN⟩ : ∃ N : Nat, wordAt l 4 = N := ⟨(wordAt l 4).toNat, by omega⟩
  have hN2 : (wordAt l 4).toNat = N := by omega
  rw [hN2] at c5 c6 ⊢
  have hlen : (l.length : Int) = 16 + 4 * wordAt l 4 + wordAt l 12 := Classical.byContradiction fun hc => c4 hc
  obtain ⟨hc1, hc2⟩ := codeB_words hl N (by omega) c5
  have hdl : ((l.drop (16 + 4 * N)).length : Int) = wordAt l 12 := by rw [List.length_drop]; omega
  have hml : l.take 4 = [83, 82, 73, 1] := by rw [magicB_eq hl] at c2; simpa using c2
  refine ⟨?_, ?_, ?_⟩
  · have e0 := List.take_append_drop 4 l
    have e1 := List.take_append_drop 4 (l.drop 4)
    have e2 := List.take_append_drop 4 (l.drop 8)
    have e3 := List.take_append_drop 4 (l.drop 12)
    have e4 := List.take_append_drop (4 * N) (l.drop 16)
    rw [List.drop_drop] at e1 e2 e3 e4
    unfold imgB headBytes
    simp only [List.length_map, List.length_range, hdl, hc1]
    rw [← hN, put_word hl (by omega), put_word hl (by omega), put_word hl (by omega), ← hml]
    simp only [List.append_assoc]
    rw [e4, e3, e2, e1, e0]
  · unfold rightP headB
    simp only [List.length_map, List.length_range, hdl, hc2, Bool.and_true, Bool.and_eq_true, decide_eq_true_eq, Bool.not_eq_true']
    exact ⟨⟨⟨⟨⟨by omega, by omega⟩, s3⟩, s4⟩, s5⟩, by simpa using c6⟩
  · rw [List.all_eq_true] at *
    exact fun x hx => hl x (List.mem_of_mem_drop hx)

/-- bytes of another length are none -/
theorem read_len {p : Prg} (h : rightP p = true) (hd : p.data.all byte = true) {l : List Int} (h16 : l.take 16 = (imgB p).take 16) (hb : l.all byte = true) (hl : l.length ≠ (imgB p).length) : readX l = (none, 2) := by
  obtain ⟨q1, q2, q3, q4, q5, hall, ht⟩ := rightP_parts h
  obtain ⟨w4, w8, w12⟩ := img_head p h
  have hil := imgB_len p
  unfold readX
  by_cases c1 : l.length < 16
  · rw [if_pos c1]
  have hg : ∀ k, k < 16 → l.getD k 0 = (imgB p).getD k 0 := fun k hk => by
    have := congrArg (fun m => m[k]?) h16
    simp only [List.getElem?_take, hk, if_true] at this
    rw [List.getD_eq_getElem?_getD, List.getD_eq_getElem?_getD, this]
  have hw : ∀ k, k + 3 < 16 → wordAt l k = wordAt (imgB p) k := fun k hk => by
    unfold wordAt
    rw [hg k (by omega), hg (k + 1) (by omega), hg (k + 2) (by omega), hg (k + 3) (by omega)]
  have hm : magicB l = magicB (imgB p) := by
    unfold magicB
    have h4 : l.take 4 = (imgB p).take 4 := by
      have := congrArg (List.take 4) h16
      simpa [List.take_take] using this
    rw [h4]
  have hm2 : magicB (imgB p) = true := by rw [magicB_eq (imgB_byte hd)]; simp [imgB, headBytes]
  have hs : sizesB (wordAt l 4) (wordAt l 8) (wordAt l 12) = true := by
    rw [hw 4 (by omega), hw 8 (by omega), hw 12 (by omega), w4, w8, w12]
    simp [sizesB]; omega
  rw [if_neg c1, if_neg (by rw [hm, hm2]; simp), if_neg (by simp [hs]), if_pos (by
    rw [hw 4 (by omega), hw 12 (by omega), w4, w12]
    omega)]
end Go.Proofs.Ytecckfhmgnlmnaa
