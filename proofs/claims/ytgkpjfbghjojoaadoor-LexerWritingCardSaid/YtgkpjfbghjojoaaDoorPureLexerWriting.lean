import Derived.Test.YtgkpjfbghjojoaaDoorE2
import Derived.Test.YtgkpjfbghjojoaaDoorF
import Derived.Test.YtgkpjfbghjojoaaDoorL9
/- LexerWriting, without Go: the texts of the tokens, each followed by a blank, have the same tokens. -/
namespace Go.Proofs.YtgkpjfbghjojoaaDoor.Pure
open Go.RowKit Go.Proofs.YtgkpjfbghjojoaaDoor.L Go.Proofs.YtgkpjfbghjojoaaDoorW.PrintWords
open QLex
set_option linter.unusedVariables false
set_option linter.unusedSimpArgs false
/-- the texts, each followed by a blank -/
def wr (ts : List (PT × Nat)) : List UInt8 := ts.flatMap fun p => textP p.1 ++ [32]
theorem Run.blank {off : Nat} {y : List UInt8} {ts : List (PT × Nat)} {o : Nat} {l : List UInt8} (h : Run (off + 1) y ts o l) : Run off (32 :: y) ts o l := by
  have hg : gapL false (32 :: y) = gapL false y + 1 := by
    simp only [gapL]; rw [if_neg (by decide), if_neg (by decide), if_pos (by decide)]
  have hd : (32 :: y).drop (gapL false (32 :: y)) = y.drop (gapL false y) := by rw [hg, List.drop_succ_cons]
  have ho : off + gapL false (32 :: y) = off + 1 + gapL false y := by rw [hg]; omega
  cases h with
  | nil =>
    have := Run.nil off (32 :: y)
    rw [hd, ho] at this; exact this
  | cons ht hr =>
    rw [← ho]
    rw [← ho] at hr
    rw [← hd] at ht hr
    exact Run.cons ht hr
theorem wr_run {off : Nat} {l : List UInt8} {ts : List (PT × Nat)} {off' : Nat} {l' : List UInt8} (h : Run off l ts off' l') :
    ∀ o, ∃ ts' o', Run o (wr ts) ts' o' [] ∧ ts'.map (·.1) = ts.map (·.1) := by
  induction h with
  | nil off l => intro o; exact ⟨[], _, Run.nil o [], rfl⟩
  | @cons off l t n ts off' l' ht hr ih =>
    intro o
    obtain ⟨ts', o', h1, h2⟩ := ih (o + n + 1)
    have hb := Run.blank h1
    have htx := tokL_text ht
    have hw : wr ((t, off + gapL false l) :: ts) = (l.drop (gapL false l)).take n ++ (32 :: wr ts) := by simp [wr, htx]
    have htok := tokL_app ht (32 :: wr ts) (.inr (.inl ⟨32, wr ts, rfl, by decide⟩))
    have hpos := tokL_pos ht
    have hne := tok_ne ht
    have hz : gapL false ((l.drop (gapL false l)).take n ++ (32 :: wr ts)) = 0 := by
      cases hd : l.drop (gapL false l) with
      | nil => exact absurd hd hne
      | cons c r =>
        obtain ⟨m, rfl⟩ : ∃ m, n = m + 1 := ⟨n - 1, by omega⟩
        rw [List.take_succ_cons, List.cons_append]
        exact gapL_zero c _ (gapL_stop false l c r hd)
    have hn : ((l.drop (gapL false l)).take n).length = n := by rw [List.length_take]; omega
    refine ⟨(t, o) :: ts', o', ?_, by simp [h2]⟩
    rw [hw]
    have := Run.cons (off := o) (l := (l.drop (gapL false l)).take n ++ (32 :: wr ts)) (t := t) (n := n) (ts := ts') (off' := o') (l' := []) (by rw [hz, List.drop_zero]; exact htok) (by
      rw [hz, List.drop_zero]
      have e := List.drop_left (l₁ := (l.drop (gapL false l)).take n) (l₂ := 32 :: wr ts)
      rw [hn] at e; rw [e]; exact hb)
    rw [hz] at this
    exact this
theorem wr_len {off : Nat} {l : List UInt8} {ts : List (PT × Nat)} {off' : Nat} {l' : List UInt8} (h : Run off l ts off' l') : (wr ts).length ≤ l.length + ts.length := by
  induction h with
  | nil off l => simp [wr]
  | @cons off l t n ts off' l' ht hr ih =>
    have htx := tokL_text ht
    have hpos := tokL_pos ht
    have hg := gapL_le false l
    have h1 : (wr ((t, off + gapL false l) :: ts)).length = n + 1 + (wr ts).length := by
      simp [wr, htx]; simp at hpos; omega
    rw [List.length_drop, List.length_drop] at ih
    have h2 := hpos.2
    rw [List.length_drop] at h2
    rw [h1, List.length_cons]; omega
theorem wri_step (k : Nat) (all : List S31) (x7 : ByteArray) (i a : Int) (b : ByteArray) (c d : Int) (x : ByteArray) (hi0 : 0 ≤ i) (hi : i < (all.length : Int)) (hz : rd_T31 all i = ⟨a, b, c, d⟩)
    (hT : queuelabref01_Text.f k a b c d = some x) (h1 : x.size + 1 ≤ 9223372036854775807) (h2 : x7.size + (x ++ (⟨#[32]⟩ : ByteArray)).size ≤ 9223372036854775807) :
    queuelablaw01_LexerWriting.l0 (k + 1) true all x7 i = queuelablaw01_LexerWriting.l0 k true all (x7 ++ (x ++ (⟨#[32]⟩ : ByteArray))) (wrap64 (i + 1)) := by
  simp only [queuelablaw01_LexerWriting.l0]
  rw [if_pos hi, if_pos hi0, hz]
  dsimp only
  rw [hT, Option.bind_some, if_pos h1, if_pos h2]
theorem wri_end (k : Nat) (all : List S31) (x7 : ByteArray) (i : Int) (hi : ¬ i < (all.length : Int)) (y : List S31) (e o : Int) (h : lexer_Lex.f k x7 = some (y, e, o))
    (hc : ((x7.size : Int) > 10000 ∧ e = 2) ∨ (¬ (x7.size : Int) > 10000 ∧ e = 0 ∧ queuelabref01_Alike.f k all y = some true)) :
    queuelablaw01_LexerWriting.l0 (k + 1) true all x7 i = some true := by
  simp only [queuelablaw01_LexerWriting.l0]
  rw [if_neg hi, h, Option.bind_some, if_pos trivial]
  rcases hc with ⟨h1, rfl⟩ | ⟨h1, rfl, h2⟩
  · rw [if_pos h1, if_pos rfl]
  · rw [if_neg h1, if_pos rfl, h2, Option.bind_some]
theorem wri_go {s : ByteArray} (hs : s.size ≤ 10000) {off : Nat} {l : List UInt8} {ts : List (PT × Nat)} {off' : Nat} {l' : List UInt8} (h : Run off l ts off' l') :
    ∀ (pre : List S31) (x7 : ByteArray) (r : Bool), l.length ≤ 10000 → pre.length + ts.length ≤ 3000 → x7.size ≤ 10002 * pre.length →
      Ev (fun k => queuelablaw01_LexerWriting.l0 k true (pre ++ ts.map toS) (⟨(bl x7 ++ wr ts).toArray⟩ : ByteArray) ((pre.length + ts.length : Nat) : Int)) r →
      Ev (fun k => queuelablaw01_LexerWriting.l0 k true (pre ++ ts.map toS) x7 (pre.length : Int)) r := by
  induction h with
  | nil off l =>
    intro pre x7 r _ _ _ hr
    have e : (⟨(bl x7 ++ wr []).toArray⟩ : ByteArray) = x7 := by apply ByteArray.ext; simp [wr, bl]
    rw [e] at hr
    simpa using hr
  | @cons off l t n ts off' l' ht hr ih =>
    intro pre x7 r hll hlen hx7 hfin
    have hpos := tokL_pos ht
    simp only [List.length_cons] at hlen
    have hrd : rd_T31 (pre ++ ((t, off + gapL false l) :: ts).map toS) (pre.length : Int) = (⟨t.1, ⟨t.2.1.toArray⟩, t.2.2, ((off + gapL false l : Nat) : Int)⟩ : S31) := by
      rw [rd_get _ _ (by simp)]; simp [toS]
    have hlt2 : (pre.length : Int) < ((pre ++ ((t, off + gapL false l) :: ts).map toS).length : Int) := by rw [List.length_append, List.length_map, List.length_cons]; omega
    obtain ⟨K1, hT⟩ := Text_ev ht ((off + gapL false l : Nat) : Int)
    simp only [] at hT
    have htx := tokL_text ht
    have hsz : (⟨((l.drop (gapL false l)).take n).toArray⟩ : ByteArray).size ≤ 10000 := by
      show ((l.drop (gapL false l)).take n).length ≤ 10000
      rw [List.length_take, List.length_drop]; omega
    have hwx : bl x7 ++ wr ((t, off + gapL false l) :: ts) = bl (x7 ++ ((⟨((l.drop (gapL false l)).take n).toArray⟩ : ByteArray) ++ (⟨#[32]⟩ : ByteArray))) ++ wr ts := by
      simp [wr, bl, htx]
    have hs1 : ((⟨((l.drop (gapL false l)).take n).toArray⟩ : ByteArray) ++ (⟨#[32]⟩ : ByteArray)).size = (⟨((l.drop (gapL false l)).take n).toArray⟩ : ByteArray).size + 1 := by rw [ByteArray.size_append]; rfl
    have hs2 := ByteArray.size_append (a := x7) (b := (⟨((l.drop (gapL false l)).take n).toArray⟩ : ByteArray) ++ (⟨#[32]⟩ : ByteArray))
    have e1 : pre ++ [toS (t, off + gapL false l)] ++ ts.map toS = pre ++ ((t, off + gapL false l) :: ts).map toS := by simp
    have hl2 : ((l.drop (gapL false l)).drop n).length ≤ 10000 := by rw [List.length_drop, List.length_drop]; omega
    have ih' := ih (pre ++ [toS (t, off + gapL false l)]) (x7 ++ ((⟨((l.drop (gapL false l)).take n).toArray⟩ : ByteArray) ++ (⟨#[32]⟩ : ByteArray))) r hl2 (by simp; omega) (by rw [hs2, hs1]; simp; omega)
    rw [e1, ← hwx] at ih'
    have e2 : (pre ++ [toS (t, off + gapL false l)]).length + ts.length = pre.length + ((t, off + gapL false l) :: ts).length := by simp; omega
    rw [e2] at ih'
    obtain ⟨K2, hI⟩ := ih' hfin
    have e3 : ((pre ++ [toS (t, off + gapL false l)]).length : Int) = (pre.length : Int) + 1 := by simp
    rw [e3] at hI
    have z1 : (⟨((l.drop (gapL false l)).take n).toArray⟩ : ByteArray).size + 1 ≤ 9223372036854775807 := Nat.le_trans (Nat.add_le_add_right hsz 1) (by decide)
    have z2 : x7.size + ((⟨((l.drop (gapL false l)).take n).toArray⟩ : ByteArray) ++ (⟨#[32]⟩ : ByteArray)).size ≤ 9223372036854775807 := by
      have : x7.size + ((⟨((l.drop (gapL false l)).take n).toArray⟩ : ByteArray) ++ (⟨#[32]⟩ : ByteArray)).size ≤ 100000000 := by rw [hs1]; omega
      exact Nat.le_trans this (by decide)
    refine ⟨K1 + K2 + 1, fun k hk => ?_⟩
    obtain ⟨m, rfl⟩ : ∃ m, k = m + 1 := ⟨k - 1, by omega⟩
    have hi := hI m (by omega)
    refine (wri_step m _ x7 (pre.length : Int) t.1 ⟨t.2.1.toArray⟩ t.2.2 ((off + gapL false l : Nat) : Int) _ (by omega) hlt2 hrd (hT m (by omega)) z1 z2).trans ?_
    rw [w64 (n := (pre.length : Int) + 1) (by omega) (by omega)]
    exact hi
theorem LexerWriting : queuelablaw01_LexerWriting.Pure := by
  intro s hs
  refine Ev.rounds ?_
  unfold queuelablaw01_LexerWriting.f
  refine Ev.bind head_ev ?_
  by_cases hl : (s.size : Int) > 10000
  · simp only [if_pos hl]; exact Ev.now _
  simp only [if_neg hl]
  rcases lex_cases s (by omega) with ⟨ts, hr, hc, hL⟩ | ⟨ts, e, at_, l', hb, he, hL⟩
  · refine Ev.bind hL ?_
    simp only [if_true]
    have hgo := wri_go (s := s) (by omega) hr [] (⟨#[]⟩ : ByteArray) true (by rw [bl_len]; omega) (by simpa using hc) (Nat.zero_le _)
    simp only [List.nil_append, List.length_nil, Nat.zero_add] at hgo
    refine hgo ?_
    have hbw : bl (⟨#[]⟩ : ByteArray) ++ wr ts = wr ts := rfl
    rw [hbw]
    obtain ⟨ts', o', h1, h2⟩ := wr_run hr 0
    have hlen : ts'.length = ts.length := by have := congrArg List.length h2; simpa using this
    have hsz : (⟨(wr ts).toArray⟩ : ByteArray).size = (wr ts).length := rfl
    by_cases hlong : 10000 < (⟨(wr ts).toArray⟩ : ByteArray).size
    · obtain ⟨K, h3⟩ := Lex_long hlong
      refine ⟨K + 1, fun k hk => ?_⟩
      obtain ⟨m, rfl⟩ : ∃ m, k = m + 1 := ⟨k - 1, by omega⟩
      exact wri_end m _ _ _ (by rw [List.length_map]; omega) _ _ _ (h3 m (by omega)) (.inl ⟨by omega, rfl⟩)
    · have hb : bl (⟨(wr ts).toArray⟩ : ByteArray) = wr ts := rfl
      obtain ⟨K, h3⟩ := Lex_good (s := (⟨(wr ts).toArray⟩ : ByteArray)) (by omega) (ts := ts') ⟨o', by rw [hb]; exact h1, by omega⟩
      obtain ⟨K2, h4⟩ := Alike_ev ts ts' (by omega) h2.symm
      refine ⟨K + K2 + 1, fun k hk => ?_⟩
      obtain ⟨m, rfl⟩ : ∃ m, k = m + 1 := ⟨k - 1, by omega⟩
      exact wri_end m _ _ _ (by rw [List.length_map]; omega) _ _ _ (h3 m (by omega)) (.inr ⟨by omega, rfl, h4 m (by omega)⟩)
  · have he0 : e ≠ 0 := by omega
    refine Ev.bind hL ?_
    simp only [if_neg he0]
    exact Ev.now _
end Go.Proofs.YtgkpjfbghjojoaaDoor.Pure
