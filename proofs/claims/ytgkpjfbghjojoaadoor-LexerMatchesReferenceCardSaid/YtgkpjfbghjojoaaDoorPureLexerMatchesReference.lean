import Derived.Test.YtgkpjfbghjojoaaDoorG
import Derived.Test.YtgkpjfbghjojoaaDoorL4d
/- LexerMatchesReference, without Go: the reference's Lex has the same tokens or the same error. -/
namespace Go.Proofs.YtgkpjfbghjojoaaDoor.Pure
open Go.RowKit Go.Proofs.YtgkpjfbghjojoaaDoor.L Go.Proofs.YtgkpjfbghjojoaaDoorW.PrintWords
open QLex
set_option linter.unusedVariables false
set_option linter.unusedSimpArgs false
theorem ref_ok (k : Nat) (s : ByteArray) (acc : List S31) (d E g : Int) (a : Int) (b : ByteArray) (c z : Int) (hd : d < (s.size : Int)) (h3 : ¬ (acc.length : Int) = 3000) (hE : queuelabref01_End.f k s d = some E) (hne : ¬ E = d) (h0 : 0 ≤ d) (h1 : d ≤ E) (h2 : E ≤ (s.size : Int))
    (hT : queuelabref01_Token.f k (s.extract d.toNat E.toNat) = some (a, b, c, z, 0)) (hl : acc.length < 3518437208883) (hG : queuelabref01_Gap.f k s E = some g) :
    queuelabref01_Lex.l0 (k + 1) s acc d = queuelabref01_Lex.l0 k s (acc ++ [(⟨a, b, c, d⟩ : S31)]) g := by
  simp only [queuelabref01_Lex.l0]
  rw [if_pos hd, if_neg h3, hE, Option.bind_some, if_neg hne, if_pos h0, if_pos h1, if_pos h2, hT, Option.bind_some, if_pos rfl, if_pos hl, hG, Option.bind_some]
theorem ref_err (k : Nat) (s : ByteArray) (acc : List S31) (d E : Int) (a : Int) (b : ByteArray) (c z e : Int) (hd : d < (s.size : Int)) (h3 : ¬ (acc.length : Int) = 3000) (hE : queuelabref01_End.f k s d = some E) (hne : ¬ E = d) (h0 : 0 ≤ d) (h1 : d ≤ E) (h2 : E ≤ (s.size : Int))
    (hT : queuelabref01_Token.f k (s.extract d.toNat E.toNat) = some (a, b, c, z, e)) (he : ¬ e = 0) :
    queuelabref01_Lex.l0 (k + 1) s acc d = some ([], e, d) := by
  simp only [queuelabref01_Lex.l0]
  rw [if_pos hd, if_neg h3, hE, Option.bind_some, if_neg hne, if_pos h0, if_pos h1, if_pos h2, hT, Option.bind_some, if_neg he]
theorem ref_none (k : Nat) (s : ByteArray) (acc : List S31) (d : Int) (hd : d < (s.size : Int)) (h3 : ¬ (acc.length : Int) = 3000) (hE : queuelabref01_End.f k s d = some d) :
    queuelabref01_Lex.l0 (k + 1) s acc d = some ([], 7, d) := by
  simp only [queuelabref01_Lex.l0]
  rw [if_pos hd, if_neg h3, hE, Option.bind_some, if_pos rfl]
theorem ref_many (k : Nat) (s : ByteArray) (acc : List S31) (d : Int) (hd : d < (s.size : Int)) (h3 : (acc.length : Int) = 3000) :
    queuelabref01_Lex.l0 (k + 1) s acc d = some ([], 2, d) := by
  simp only [queuelabref01_Lex.l0]
  rw [if_pos hd, if_pos h3]
theorem ref_end (k : Nat) (s : ByteArray) (acc : List S31) (d : Int) (hd : ¬ d < (s.size : Int)) :
    queuelabref01_Lex.l0 (k + 1) s acc d = some (acc, 0, 0) := by
  simp only [queuelabref01_Lex.l0]
  rw [if_neg hd]
theorem endL_zero {c : UInt8} {r : List UInt8} {e : Int} (h : tokL (c :: r) = .error e) (h0 : endL (c :: r) = 0) : e = 7 := by
  simp only [tokL] at h
  simp only [endL] at h0
  by_cases h2 : cls c.toNat = 2
  · rw [if_pos h2] at h0; simp [nameC, h2] at h0
  rw [if_neg h2] at h h0
  by_cases h3 : cls c.toNat = 3
  · rw [if_pos h3] at h0; simp [digC, h3] at h0
  rw [if_neg h3] at h h0
  by_cases h4 : cls c.toNat = 4
  · rw [if_pos h4] at h h0
    split at h
    · cases h
    · split at h
      · simp only [Except.error.injEq] at h; exact h.symm
      · cases h
  · rw [if_neg h4] at h
    simp only [Except.error.injEq] at h; exact h.symm
theorem ref_run {s : ByteArray} (hs : s.size ≤ 10000) {off : Nat} {l : List UInt8} {ts : List (PT × Nat)} {off' : Nat} {l' : List UInt8} (h : Run off l ts off' l') :
    ∀ (acc : List S31) (r : List S31 × Int × Int), l = (bl s).drop off → off ≤ s.size → acc.length + ts.length ≤ 3000 →
      Ev (fun k => queuelabref01_Lex.l0 k s (acc ++ ts.map toS) (off' : Int)) r → Ev (fun k => queuelabref01_Lex.l0 k s acc ((off + gapL false l : Nat) : Int)) r := by
  induction h with
  | nil off l => intro acc r _ _ _ hr; simpa using hr
  | @cons off l t n ts off' l' ht hr ih =>
    intro acc r hl ho hlen hfin
    have hne := tok_ne ht
    have hd : l.drop (gapL false l) = (bl s).drop (off + gapL false l) := by rw [← List.drop_drop, ← hl]
    have hlt : off + gapL false l < s.size := by
      have := drop_lt (by rw [← hd]; exact hne); rw [bl_len] at this; exact this
    have hpos := tokL_pos ht
    have hnl : n ≤ s.size - (off + gapL false l) := by
      have h2 := hpos.2; rw [hd, List.length_drop, bl_len] at h2; exact h2
    have hd2 : (l.drop (gapL false l)).drop n = (bl s).drop (off + gapL false l + n) := by rw [hd, List.drop_drop]
    simp only [List.length_cons] at hlen
    have hacc : (acc ++ [toS (t, off + gapL false l)]).length = acc.length + 1 := by simp
    have e1 : acc ++ [toS (t, off + gapL false l)] ++ ts.map toS = acc ++ ((t, off + gapL false l) :: ts).map toS := by simp
    obtain ⟨K1, h1⟩ := ih (acc ++ [toS (t, off + gapL false l)]) r hd2 (by omega) (by rw [hacc]; omega) (by rw [e1]; exact hfin)
    obtain ⟨K2, h2⟩ := End_ev s (by omega) (off + gapL false l) hlt
    rw [← hd, endL_ok ht] at h2
    have hxl : (l.drop (gapL false l)).length ≤ 1000000000000 := by rw [hd, List.length_drop, bl_len]; omega
    obtain ⟨K3, h3⟩ := Token_ev (l := l.drop (gapL false l)) (by rw [endL_ok ht]; exact hpos.1) hxl
    rw [ht, endL_ok ht] at h3
    obtain ⟨K4, h4⟩ := Gap_ev s (by omega) (off + gapL false l + n) (by omega)
    rw [← hd2] at h4
    simp only [tokR] at h1 h2 h3 h4
    refine ⟨K1 + K2 + K3 + K4 + 1, fun k hk => ?_⟩
    obtain ⟨m, rfl⟩ : ∃ m, k = m + 1 := ⟨k - 1, by omega⟩
    refine (ref_ok m s acc ((off + gapL false l : Nat) : Int) ((off + gapL false l + n : Nat) : Int) ((off + gapL false l + n + gapL false ((l.drop (gapL false l)).drop n) : Nat) : Int) t.1 ⟨t.2.1.toArray⟩ t.2.2 0 (by omega) (by omega) (h2 m (by omega)) (by omega) (by omega) (by omega) (by omega) ?_ (by omega) (h4 m (by omega))).trans ?_
    · rw [Int.toNat_natCast, Int.toNat_natCast, ext_take, ← hd]; exact h3 m (by omega)
    · exact h1 m (by omega)
theorem ref_lex {s : ByteArray} (hs : s.size ≤ 10000) {ts : List (PT × Nat)} {off' : Nat} {l' : List UInt8} (h : Run 0 (bl s) ts off' l') (hn : ts.length ≤ 3000) (r : List S31 × Int × Int)
    (hf : Ev (fun k => queuelabref01_Lex.l0 k s (ts.map toS) (off' : Int)) r) : Ev (fun k => queuelabref01_Lex.f k s) r := by
  have h1 := ref_run hs h [] r (by simp) (by omega) (by simpa using hn) (by simpa using hf)
  have h2 := Gap_ev s (by omega) 0 (by omega)
  rw [List.drop_zero] at h2
  unfold queuelabref01_Lex.f
  simp only [if_neg (show ¬ (s.size : Int) > 10000 by omega)]
  exact Ev.bind h2 h1
theorem ref_good {s : ByteArray} (hs : s.size ≤ 10000) {ts : List (PT × Nat)} (h : Run 0 (bl s) ts s.size []) (hn : ts.length ≤ 3000) : Ev (fun k => queuelabref01_Lex.f k s) (ts.map toS, 0, 0) :=
  ref_lex hs h hn _ (Ev.step (f := fun _ => some (ts.map toS, 0, 0)) (fun k => ref_end k s _ _ (by omega)) (Ev.now _))
theorem ref_bad {s : ByteArray} (hs : s.size ≤ 10000) {ts : List (PT × Nat)} {e : Int} {at_ : Nat} {l' : List UInt8} (h : Bad (bl s) ts e at_ l') (he : e ≠ 0) : Ev (fun k => queuelabref01_Lex.f k s) ([], e, (at_ : Int)) := by
  obtain ⟨hr, hne, hx⟩ := h
  obtain ⟨pre, h1, h2⟩ := hr.suffix
  have hl' : l' = (bl s).drop at_ := by rw [h1, h2]; simp
  have hlt : at_ < s.size := by have := drop_lt (by rw [← hl']; exact hne); rw [bl_len] at this; exact this
  refine ref_lex hs hr (by rcases hx with hx | hx <;> omega) _ ?_
  rcases hx with ⟨hx1, rfl⟩ | ⟨hx1, hx2⟩
  · exact Ev.step (f := fun _ => some ([], 2, (at_ : Int))) (fun k => ref_many k s _ _ (by omega) (by rw [List.length_map]; omega)) (Ev.now _)
  · obtain ⟨K1, h3⟩ := End_ev s (by omega) at_ hlt
    rw [← hl'] at h3
    simp only [] at h3
    have hend := endL_le l'
    have hlen : l'.length = s.size - at_ := by rw [hl', List.length_drop, bl_len]
    by_cases h0 : endL l' = 0
    · have h7 : e = 7 := by
        cases l' with
        | nil => exact absurd rfl hne
        | cons c r => exact endL_zero hx2 h0
      subst h7
      refine ⟨K1 + 1, fun k hk => ?_⟩
      obtain ⟨m, rfl⟩ : ∃ m, k = m + 1 := ⟨k - 1, by omega⟩
      have h4 := h3 m (by omega)
      rw [h0, Nat.add_zero] at h4
      exact ref_none m s _ _ (by omega) (by rw [List.length_map]; omega) h4
    · obtain ⟨K2, h4⟩ := Token_ev (l := l') (by omega) (by omega)
      rw [hx2] at h4
      simp only [tokR] at h4
      refine ⟨K1 + K2 + 1, fun k hk => ?_⟩
      obtain ⟨m, rfl⟩ : ∃ m, k = m + 1 := ⟨k - 1, by omega⟩
      refine ref_err m s _ (at_ : Int) ((at_ + endL l' : Nat) : Int) 0 ⟨#[]⟩ 0 0 e (by omega) (by rw [List.length_map]; omega) (h3 m (by omega)) (by omega) (by omega) (by omega) (by omega) ?_ he
      rw [Int.toNat_natCast, Int.toNat_natCast, ext_take, ← hl']
      exact h4 m (by omega)
theorem LexerMatchesReference : ∀ (a0 : ByteArray), a0.size ≤ 140737488351232 → ∃ k, queuelablaw01_LexerMatchesReference.f k a0 = some true := by
  intro s hs
  refine Ev.rounds ?_
  unfold queuelablaw01_LexerMatchesReference.f
  refine Ev.bind head_ev ?_
  by_cases hl : (s.size : Int) > 12000
  · simp only [if_pos hl]; exact Ev.now _
  simp only [if_neg hl]
  have key : ∃ ts : List (PT × Nat), ∃ e i : Int, ts.length ≤ 3000 ∧ (∀ p ∈ ts, p.2 ≤ 1000000000000) ∧ Ev (fun k => lexer_Lex.f k s) (ts.map toS, e, i) ∧ Ev (fun k => queuelabref01_Lex.f k s) (ts.map toS, e, i) := by
    by_cases hlong : 10000 < s.size
    · refine ⟨[], 2, 0, by simp, by simp, Lex_long hlong, ⟨0, fun k _ => ?_⟩⟩
      show queuelabref01_Lex.f k s = _
      unfold queuelabref01_Lex.f
      rw [if_pos (by omega)]; rfl
    · rcases lex_cases s (by omega) with ⟨ts, hr, hc, hL⟩ | ⟨ts, e, at_, l', hb, he, hL⟩
      · exact ⟨ts, 0, 0, hc, fun p hp => by have := run_lt hr p hp; omega, hL, ref_good (by omega) hr hc⟩
      · exact ⟨[], e, _, by simp, by simp, hL, ref_bad (by omega) hb (by omega)⟩
  obtain ⟨ts, e, i, hn, hb, h1, h2⟩ := key
  have h3 := Same_self ts (by omega) hb
  refine Ev.bind h1 (Ev.bind h2 ?_)
  simp only [if_true]
  refine Ev.bind h3 ?_
  simp only [if_true]
  exact ⟨0, fun k _ => by simp⟩
end Go.Proofs.YtgkpjfbghjojoaaDoor.Pure
