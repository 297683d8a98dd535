import Derived.Test.YtgkpjfbghjojoaaDoorQ
import Derived.Test.YtgkpjfbghjojoaaDoorX
import Derived.Test.YtgkpjfbghjojoaaDoorL1
namespace Go.Proofs.YtgkpjfbghjojoaaDoor.L
open Go.RowKit Go.Proofs.YtgkpjfbghjojoaaDoorW.PrintWords Go.Proofs.YtgkpjfbghjojoaaDoorW.PrintLast Go.Proofs.YtgkpjfbghjojoaaDoorW.PrintMore
open QLex
set_option linter.unusedVariables false
set_option linter.unusedSimpArgs false
abbrev bl (s : ByteArray) : List UInt8 := s.data.toList
theorem bl_len (s : ByteArray) : (bl s).length = s.size := rfl
theorem bl_get (s : ByteArray) (i : Nat) (h : i < s.size) : (bl s).drop i = s[i] :: (bl s).drop (i + 1) := by
  have h' : i < (bl s).length := h
  rw [List.drop_eq_getElem_cons h']; rfl
theorem gapN_eq (s : ByteArray) (i : Nat) (b : Bool) : X.gapN s i b = i + gapL b ((bl s).drop i) := by
  fun_induction X.gapN s i b with
  | case1 i b h h35 ih => rw [bl_get s i h]; simp only [gapL]; rw [if_pos h35, ih]; omega
  | case2 i b h h35 h10 ih => rw [bl_get s i h]; simp only [gapL]; rw [if_neg h35, if_pos h10, ih]; omega
  | case3 i b h h35 h10 hb ih => rw [bl_get s i h]; simp only [gapL]; rw [if_neg h35, if_neg h10, if_pos hb, ih]; omega
  | case4 i b h h35 h10 hb => rw [bl_get s i h]; simp only [gapL]; rw [if_neg h35, if_neg h10, if_neg hb]; rfl
  | case5 i b h => rw [List.drop_eq_nil_of_le (by rw [bl_len]; omega)]; rfl
theorem spanN_eq (p : Int → Bool) (q : UInt8 → Bool) (hq : ∀ c : UInt8, p (c.toNat : Int) = q c) (s : ByteArray) (i : Nat) : X.spanN p s i = i + (((bl s).drop i).takeWhile q).length := by
  fun_induction X.spanN p s i with
  | case1 i h hp ih => rw [bl_get s i h, List.takeWhile_cons, if_pos (by rw [← hq]; exact hp), ih, List.length_cons]; omega
  | case2 i h hp => rw [bl_get s i h, List.takeWhile_cons, if_neg (by rw [← hq]; exact hp)]; rfl
  | case3 i h => rw [List.drop_eq_nil_of_le (by rw [bl_len]; omega)]; rfl
theorem nameB_eq (c : UInt8) : X.nameB (c.toNat : Int) = nameC c := by
  simp only [X.nameB, nameC, Int.toNat_natCast]
  rw [Bool.eq_iff_iff]; simp; omega
theorem digB_eq (c : UInt8) : X.digB (c.toNat : Int) = digC c := by
  simp only [X.digB, digC, Int.toNat_natCast]
  rw [Bool.eq_iff_iff]; simp; omega
theorem ext_take (s : ByteArray) (i n : Nat) : s.extract i (i + n) = ⟨(((bl s).drop i).take n).toArray⟩ := by
  apply ByteArray.ext
  rw [ByteArray.data_extract]
  apply Array.toList_inj.mp
  simp [List.extract]
def tokP (i : Nat) : Except Int (PT × Nat) → Int × ByteArray × Int × Int × Int × Int
  | .ok (t, n) => (t.1, ⟨t.2.1.toArray⟩, t.2.2, i, ((i + n : Nat) : Int), 0)
  | .error e => (0, ⟨#[]⟩, 0, 0, i, e)
theorem readP_eq (s : ByteArray) (i : Nat) (hi : i < s.size) : readP s i hi = tokP i (tokL ((bl s).drop i)) := by
  have hn := spanN_eq X.nameB nameC nameB_eq s i
  have hd := spanN_eq X.digB digC digB_eq s i
  have hg := bl_get s i hi
  unfold readP
  simp only []
  rw [hg] at hn hd ⊢
  simp only [tokL]
  have et : ∀ p : UInt8 → Bool, s.extract i (i + ((s[i] :: (bl s).drop (i + 1)).takeWhile p).length) = ⟨((s[i] :: (bl s).drop (i + 1)).takeWhile p).toArray⟩ := by
    intro p; rw [ext_take, hg, takeWhile_take]
  by_cases h2 : QLex.cls s[i].toNat = 2
  · rw [if_pos h2, if_pos h2, hn, Nat.add_sub_cancel_left]
    by_cases hl : ((s[i] :: (bl s).drop (i + 1)).takeWhile nameC).length ≤ 12
    · rw [if_pos hl, if_pos hl, et]; rfl
    · rw [if_neg hl, if_neg hl]; rfl
  rw [if_neg h2, if_neg h2]
  by_cases h3 : QLex.cls s[i].toNat = 3
  · rw [if_pos h3, if_pos h3, hd, Nat.add_sub_cancel_left, et]
    by_cases hz : 1 < ((s[i] :: (bl s).drop (i + 1)).takeWhile digC).length ∧ s[i].toNat = 48
    · rw [if_pos hz, if_pos hz]; rfl
    rw [if_neg hz, if_neg hz]
    have e : ∀ l : List UInt8, QLex.decVal (⟨l.toArray⟩ : ByteArray).data.toList = QLex.decVal l := fun l => rfl
    rw [e]
    by_cases hv : QLex.decVal ((s[i] :: (bl s).drop (i + 1)).takeWhile digC) ≤ 1000000000
    · rw [if_pos hv, if_pos hv]; rfl
    · rw [if_neg hv, if_neg hv]; rfl
  rw [if_neg h3, if_neg h3]
  by_cases h4 : QLex.cls s[i].toNat = 4
  · rw [if_pos h4, if_pos h4]
    have hcond : ((s[i].toNat = 60 ∨ s[i].toNat = 62 ∨ s[i].toNat = 61 ∨ s[i].toNat = 33) ∧ ∃ h : i + 1 < s.size, s[i + 1].toNat = 61) ↔ (relC s[i].toNat ∧ ((bl s).drop (i + 1)).head?.map (·.toNat) = some 61) := by
      constructor
      · rintro ⟨h1, h2, h3⟩
        refine ⟨by simp [relC]; omega, ?_⟩
        rw [bl_get s (i + 1) h2]; simp [h3]
      · rintro ⟨h1, h2⟩
        refine ⟨by simp [relC] at h1; omega, ?_⟩
        by_cases h : i + 1 < s.size
        · refine ⟨h, ?_⟩; rw [bl_get s (i + 1) h] at h2; simpa using h2
        · rw [List.drop_eq_nil_of_le (by rw [bl_len]; omega)] at h2; simp at h2
    by_cases hr : relC s[i].toNat ∧ ((bl s).drop (i + 1)).head?.map (·.toNat) = some 61
    · rw [dif_pos (hcond.mpr hr), if_pos hr]
      have : s.extract i (i + 1 + 1) = ⟨((s[i] :: (bl s).drop (i + 1)).take 2).toArray⟩ := by rw [Nat.add_assoc, ext_take, hg]
      rw [this]; rfl
    · rw [dif_neg (fun h => hr (hcond.mp h)), if_neg hr]
      by_cases h33 : s[i].toNat = 33
      · rw [if_pos h33, if_pos h33]; rfl
      · rw [if_neg h33, if_neg h33, ext_take, hg]; rfl
  rw [if_neg h4, if_neg h4]; rfl

def toS (p : PT × Nat) : S31 := ⟨p.1.1, ⟨p.1.2.1.toArray⟩, p.1.2.2, (p.2 : Int)⟩
theorem skip_eq (s : ByteArray) (i : Nat) (hi : i ≤ s.size) (hs : s.size ≤ 140737488351232) : lexer_skip.f s i = some ((i + gapL false ((bl s).drop i) : Nat) : Int) := by
  unfold lexer_skip.f
  rw [if_pos ⟨hs, by omega, by omega⟩, gapN_eq]; rfl
theorem read_eq (s : ByteArray) (i : Nat) (hi : i < s.size) (hs : s.size ≤ 140737488351232) : lexer_read.f s i = some (tokP i (tokL ((bl s).drop i))) := by
  unfold lexer_read.f
  rw [dif_pos ⟨hs, by omega, by simpa using hi⟩]
  simp only [Int.toNat_natCast]
  rw [readP_eq]
theorem drop_lt {l : List UInt8} {n : Nat} (h : l.drop n ≠ []) : n < l.length := by
  rcases Nat.lt_or_ge n l.length with h1 | h1
  · exact h1
  · exact absurd (List.drop_eq_nil_of_le h1) h
theorem tok_ne {l : List UInt8} {t : PT} {n : Nat} (h : tokL l = .ok (t, n)) : l ≠ [] := by intro h0; rw [h0] at h; simp [tokL] at h
theorem lex_run {s : ByteArray} (hs : s.size ≤ 140737488351232) {off : Nat} {l : List UInt8} {ts : List (PT × Nat)} {off' : Nat} {l' : List UInt8} (h : Run off l ts off' l') :
    ∀ acc : List S31, l = (bl s).drop off → off ≤ s.size → acc.length + ts.length ≤ 3000 → ∀ k,
      lexer_Lex.l0 (k + ts.length) s acc 0 ((off + gapL false l : Nat) : Int) = lexer_Lex.l0 k s (acc ++ ts.map toS) 0 (off' : Int) := by
  induction h with
  | nil off l => intro acc _ _ _ k; simp
  | @cons off l t n ts off' l' ht hr ih =>
    intro acc hl ho hlen k
    have hne := tok_ne ht
    have hd : l.drop (gapL false l) = (bl s).drop (off + gapL false l) := by rw [← List.drop_drop, ← hl]
    have hlt : off + gapL false l < s.size := by
      have := drop_lt (by rw [← hd]; exact hne); rw [bl_len] at this; exact this
    have hpos := tokL_pos ht
    have hnl : n ≤ s.size - (off + gapL false l) := by
      have h2 := hpos.2; rw [hd, List.length_drop, bl_len] at h2; exact h2
    have hd2 : (l.drop (gapL false l)).drop n = (bl s).drop (off + gapL false l + n) := by rw [hd, List.drop_drop]
    simp only [List.length_cons] at hlen
    have hacc : (acc ++ [toS (t, off + gapL false l)]).length = acc.length + 1 := by simp
    have ih' := ih (acc ++ [toS (t, off + gapL false l)]) hd2 (by omega) (by rw [hacc]; omega) k
    show lexer_Lex.l0 ((k + ts.length) + 1) s acc 0 _ = _
    simp only [lexer_Lex.l0]
    rw [if_pos (by omega), if_neg (by omega), read_eq s _ hlt hs, ← hd, ht]
    simp only [Option.bind_some, tokP]
    rw [if_pos trivial, if_pos (by omega), skip_eq s _ (by omega) hs, ← hd2]
    simp only [Option.bind_some]
    have e : (⟨t.1, ⟨t.2.1.toArray⟩, t.2.2, ((off + gapL false l : Nat) : Int)⟩ : S31) = toS (t, off + gapL false l) := rfl
    rw [e, ih']
    simp
/-- what a source comes to: its tokens, or an error at an offset -/
def Good (l : List UInt8) (ts : List (PT × Nat)) : Prop := ∃ off', Run 0 l ts off' [] ∧ ts.length ≤ 3000
def Bad (l : List UInt8) (ts : List (PT × Nat)) (e : Int) (at_ : Nat) (l' : List UInt8) : Prop :=
  Run 0 l ts at_ l' ∧ l' ≠ [] ∧ ((ts.length = 3000 ∧ e = 2) ∨ (ts.length < 3000 ∧ tokL l' = .error e))
theorem Lex_good {s : ByteArray} (hs : s.size ≤ 10000) {ts : List (PT × Nat)} (h : Good (bl s) ts) : Ev (fun k => lexer_Lex.f k s) (ts.map toS, 0, 0) := by
  obtain ⟨off', hr, hl⟩ := h
  obtain ⟨pre, h1, h2⟩ := hr.suffix
  have ho : off' = s.size := by
    have : (bl s).length = pre.length := by rw [h1]; simp
    rw [bl_len] at this; omega
  refine Ev.of (k := (2 + ts.length)) (fun k => lexer_Lex.mono s k) ?_
  have hrun := lex_run (s := s) (by omega) hr [] (by simp) (by omega) (by simpa using hl) 2
  unfold lexer_Lex.f
  rw [if_neg (by omega), show ((0 : Int)) = ((0 : Nat) : Int) from rfl, skip_eq s 0 (by omega) (by omega)]
  simp only [Option.bind_some]
  rw [List.drop_zero]
  have hrun' : lexer_Lex.l0 (2 + ts.length) s [] 0 ((0 + gapL false (bl s) : Nat) : Int) = lexer_Lex.l0 2 s ([] ++ ts.map toS) 0 (off' : Int) := hrun
  refine hrun'.trans ?_
  rw [ho]
  simp only [lexer_Lex.l0]
  rw [if_neg (by omega)]
  simp [lexer_Lex.j1]
theorem Lex_bad {s : ByteArray} (hs : s.size ≤ 10000) {ts : List (PT × Nat)} {e : Int} {at_ : Nat} {l' : List UInt8} (h : Bad (bl s) ts e at_ l') (he : e ≠ 0) :
    Ev (fun k => lexer_Lex.f k s) ([], e, (at_ : Int)) := by
  obtain ⟨hr, hne, hc⟩ := h
  obtain ⟨pre, h1, h2⟩ := hr.suffix
  have hd : l' = (bl s).drop at_ := by rw [h1, h2]; simp
  have hlt : at_ < s.size := by have := drop_lt (by rw [← hd]; exact hne); rw [bl_len] at this; exact this
  refine Ev.of (k := (2 + ts.length)) (fun k => lexer_Lex.mono s k) ?_
  have hrun := lex_run (s := s) (by omega) hr [] (by simp) (by omega) (by simp; omega) 2
  unfold lexer_Lex.f
  rw [if_neg (by omega), show ((0 : Int)) = ((0 : Nat) : Int) from rfl, skip_eq s 0 (by omega) (by omega)]
  simp only [Option.bind_some]
  rw [List.drop_zero]
  have hrun' : lexer_Lex.l0 (2 + ts.length) s [] 0 ((0 + gapL false (bl s) : Nat) : Int) = lexer_Lex.l0 2 s ([] ++ ts.map toS) 0 (at_ : Int) := hrun
  refine hrun'.trans ?_
  simp only [lexer_Lex.l0, List.nil_append, List.length_map]
  rw [if_pos (by omega)]
  rcases hc with ⟨hc, rfl⟩ | ⟨hc, ht⟩
  · rw [if_pos (by omega)]; simp [lexer_Lex.j1]
  · rw [if_neg (by omega), read_eq s _ hlt (by omega), ← hd, ht]
    simp only [Option.bind_some, tokP]
    rw [if_neg he]; simp [lexer_Lex.j1, he]
theorem Lex_long {s : ByteArray} (hs : 10000 < s.size) : Ev (fun k => lexer_Lex.f k s) ([], 2, 0) := by
  refine ⟨0, fun k _ => ?_⟩
  show lexer_Lex.f k s = _
  unfold lexer_Lex.f
  rw [if_pos (by omega)]
end Go.Proofs.YtgkpjfbghjojoaaDoor.L
