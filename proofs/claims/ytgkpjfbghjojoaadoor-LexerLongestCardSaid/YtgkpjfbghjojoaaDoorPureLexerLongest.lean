import Derived.Test.YtgkpjfbghjojoaaDoorE2
import Derived.Test.YtgkpjfbghjojoaaDoorF
import Derived.Test.YtgkpjfbghjojoaaDoorL10
/- LexerLongest, without Go: no token with the byte behind it is one token. -/
namespace Go.Proofs.YtgkpjfbghjojoaaDoor.Pure
open Go.RowKit Go.Proofs.YtgkpjfbghjojoaaDoor.L Go.Proofs.YtgkpjfbghjojoaaDoorW.PrintWords
open QLex
set_option linter.unusedVariables false
set_option linter.unusedSimpArgs false
theorem run_inv {off : Nat} {l : List UInt8} {us : List (PT × Nat)} {o : Nat} {l' : List UInt8} (h : Run off l us o l') :
    (us = [] ∧ l' = l.drop (gapL false l)) ∨ ∃ t n us', tokL (l.drop (gapL false l)) = .ok (t, n) ∧ us = (t, off + gapL false l) :: us' ∧ Run (off + gapL false l + n) ((l.drop (gapL false l)).drop n) us' o l' := by
  cases h with
  | nil => exact .inl ⟨rfl, rfl⟩
  | cons ht hr => exact .inr ⟨_, _, _, ht, rfl, hr⟩
theorem long_piece {x : List UInt8} {t : PT} {n : Nat} {c : UInt8} {r : List UInt8} (ht : tokL x = .ok (t, n)) (hx : x.drop n = c :: r) (hc : cls c.toNat ≠ 1) (hg : ∀ a b, x = a :: b → cls a.toNat ≠ 1)
    {us : List (PT × Nat)} {o : Nat} (h : Run 0 (x.take n ++ [c]) us o []) : 2 ≤ us.length := by
  have htok := tokL_app ht [c] (.inr (.inr (by rw [hx]; rfl)))
  have hpos := tokL_pos ht
  have hn : (x.take n).length = n := by rw [List.length_take]; omega
  have hz : gapL false (x.take n ++ [c]) = 0 := by
    cases x with
    | nil => simp at hx
    | cons a b =>
      obtain ⟨m, rfl⟩ : ∃ m, n = m + 1 := ⟨n - 1, by omega⟩
      rw [List.take_succ_cons, List.cons_append]
      exact gapL_zero a _ (hg a b rfl)
  rcases run_inv h with ⟨_, h2⟩ | ⟨t', n', us', h1, rfl, h3⟩
  · rw [hz, List.drop_zero] at h2
    have := congrArg List.length h2
    simp at this
  · rw [hz, List.drop_zero, htok] at h1
    simp only [Except.ok.injEq, Prod.mk.injEq] at h1
    obtain ⟨_, rfl⟩ := h1
    rw [hz, List.drop_zero] at h3
    have e := List.drop_left (l₁ := x.take n) (l₂ := [c])
    rw [hn] at e
    rw [e] at h3
    rcases run_inv h3 with ⟨_, h4⟩ | ⟨t2, n2, us2, _, rfl, _⟩
    · rw [gapL_zero c [] hc, List.drop_zero] at h4; cases h4
    · simp
theorem gapL_pos (c : UInt8) (r : List UInt8) (h : cls c.toNat = 1) : 1 ≤ gapL false (c :: r) := by
  rw [cls_one] at h
  simp only [gapL]
  split
  · omega
  · split
    · omega
    · rw [if_pos (by simp; omega)]; omega
theorem lon_l0 (k : Nat) (s : ByteArray) (all : List S31) (i a : Int) (b : ByteArray) (c d : Int) (x : ByteArray) (E : Int) (hi0 : 0 ≤ i) (hi : i < (all.length : Int)) (hz : rd_T31 all i = ⟨a, b, c, d⟩)
    (hT : queuelabref01_Text.f k a b c d = some x) (hd : ¬ d < 0) (hE : wrap64 (d + (x.size : Int)) = E) (h1 : ¬ E > (s.size : Int)) (h2 : ¬ E ≤ d) :
    queuelablaw01_LexerLongest.l0 (k + 1) s true all i = queuelablaw01_LexerLongest.j1 k s true all i E false := by
  simp only [queuelablaw01_LexerLongest.l0]
  rw [if_pos hi, if_pos hi0, hz]
  dsimp only
  rw [hT, Option.bind_some, if_neg hd, hE, if_neg h1, decide_eq_false h2]
theorem lon_j1_end (k : Nat) (s : ByteArray) (all : List S31) (i E : Int) (h : E = (s.size : Int)) :
    queuelablaw01_LexerLongest.j1 (k + 1) s true all i E false = queuelablaw01_LexerLongest.j2 k s true all i E true := by
  simp only [queuelablaw01_LexerLongest.j1]
  rw [if_neg (by simp), if_pos h]
theorem lon_j1_gap (k : Nat) (s : ByteArray) (all : List S31) (i E g : Int) (h : ¬ E = (s.size : Int)) (hG : queuelabref01_Gap.f k s E = some g) :
    queuelablaw01_LexerLongest.j1 (k + 1) s true all i E false = queuelablaw01_LexerLongest.j2 k s true all i E (decide (g > E)) := by
  simp only [queuelablaw01_LexerLongest.j1]
  rw [if_neg (by simp), if_neg h, hG, Option.bind_some]
theorem lon_j2_true (k : Nat) (s : ByteArray) (all : List S31) (i E : Int) :
    queuelablaw01_LexerLongest.j2 (k + 1) s true all i E true = queuelablaw01_LexerLongest.l0 k s true all (wrap64 (i + 1)) := by
  simp only [queuelablaw01_LexerLongest.j2]
  rw [if_pos trivial]
theorem lon_j2_false (k : Nat) (s : ByteArray) (all : List S31) (i a : Int) (b : ByteArray) (c d E F : Int) (y : List S31) (e o : Int) (hi0 : 0 ≤ i) (hi : i < (all.length : Int)) (hz : rd_T31 all i = ⟨a, b, c, d⟩)
    (hd : 0 ≤ d) (hF : wrap64 (E + 1) = F) (h1 : d ≤ F) (h2 : F ≤ (s.size : Int)) (hL : lexer_Lex.f k (s.extract d.toNat F.toNat) = some (y, e, o)) (hc : e = 0 → ¬ (y.length : Int) < 2) :
    queuelablaw01_LexerLongest.j2 (k + 1) s true all i E false = queuelablaw01_LexerLongest.l0 k s true all (wrap64 (i + 1)) := by
  simp only [queuelablaw01_LexerLongest.j2]
  rw [if_neg (by simp), if_pos hi0, if_pos hi, hz]
  dsimp only
  rw [if_pos hd, hF, if_pos h1, if_pos h2, hL, Option.bind_some]
  by_cases he : e = 0
  · rw [if_pos he, if_neg (hc he)]
  · rw [if_neg he]
theorem lon_go {s : ByteArray} (hs : s.size ≤ 2000) {off : Nat} {l : List UInt8} {ts : List (PT × Nat)} {off' : Nat} {l' : List UInt8} (h : Run off l ts off' l') :
    ∀ pre : List S31, l = (bl s).drop off → off ≤ s.size → pre.length + ts.length ≤ 3000 →
      Ev (fun k => queuelablaw01_LexerLongest.l0 k s true (pre ++ ts.map toS) (pre.length : Int)) true := by
  induction h with
  | nil off l =>
    intro pre hl ho hlen
    refine Ev.step (f := fun _ => some true) (fun k => ?_) (Ev.now true)
    simp only [queuelablaw01_LexerLongest.l0, List.map_nil, List.append_nil]
    rw [if_neg (by omega)]
  | @cons off l t n ts off' l' ht hr ih =>
    intro pre hl ho hlen
    have hd : l.drop (gapL false l) = (bl s).drop (off + gapL false l) := by rw [← List.drop_drop, ← hl]
    have hne := tok_ne ht
    have hlt : off + gapL false l < s.size := by have := drop_lt (by rw [← hd]; exact hne); rw [bl_len] at this; exact this
    have hpos := tokL_pos ht
    have hnl : n ≤ s.size - (off + gapL false l) := by have h2 := hpos.2; rw [hd, List.length_drop, bl_len] at h2; exact h2
    have hd2 : (l.drop (gapL false l)).drop n = (bl s).drop (off + gapL false l + n) := by rw [hd, List.drop_drop]
    simp only [List.length_cons] at hlen
    have ih' := ih (pre ++ [toS (t, off + gapL false l)]) hd2 (by omega) (by simp; omega)
    have e1 : pre ++ [toS (t, off + gapL false l)] ++ ts.map toS = pre ++ ((t, off + gapL false l) :: ts).map toS := by simp
    have e2 : ((pre ++ [toS (t, off + gapL false l)]).length : Int) = (pre.length : Int) + 1 := by simp
    rw [e1, e2] at ih'
    have hrd : rd_T31 (pre ++ ((t, off + gapL false l) :: ts).map toS) (pre.length : Int) = (⟨t.1, ⟨t.2.1.toArray⟩, t.2.2, ((off + gapL false l : Nat) : Int)⟩ : S31) := by
      rw [rd_get _ _ (by simp)]; simp [toS]
    have hlt2 : (pre.length : Int) < ((pre ++ ((t, off + gapL false l) :: ts).map toS).length : Int) := by rw [List.length_append, List.length_map, List.length_cons]; omega
    have htx := Text_ev ht ((off + gapL false l : Nat) : Int)
    have hsz : (⟨((l.drop (gapL false l)).take n).toArray⟩ : ByteArray).size = n := by
      show ((l.drop (gapL false l)).take n).length = n
      have := hpos.2; simp at this ⊢; omega
    generalize hx : (⟨((l.drop (gapL false l)).take n).toArray⟩ : ByteArray) = x at htx hsz
    have w2 : wrap64 (((off + gapL false l : Nat) : Int) + (x.size : Int)) = ((off + gapL false l + n : Nat) : Int) := by rw [hsz, w64 (by omega) (by omega)]; omega
    have W2 := Aside0.mk w2
    clear w2
    have w3 : wrap64 ((pre.length : Int) + 1) = (pre.length : Int) + 1 := w64 (by omega) (by omega)
    have W3 := Aside0.mk w3
    clear w3
    have w4 : wrap64 (((off + gapL false l + n : Nat) : Int) + 1) = ((off + gapL false l + (n + 1) : Nat) : Int) := by rw [w64 (by omega) (by omega)]; omega
    have W4 := Aside0.mk w4
    clear w4
    have i0 : (0 : Int) ≤ (pre.length : Int) := Int.natCast_nonneg _
    obtain ⟨K1, hT⟩ := htx
    obtain ⟨K3, hI⟩ := ih'
    simp only [] at hT hI
    have step0 := fun k (q : K1 ≤ k) => lon_l0 k s _ (pre.length : Int) t.1 ⟨t.2.1.toArray⟩ t.2.2 ((off + gapL false l : Nat) : Int) x _ i0 hlt2 hrd (hT k q) (by omega) W2.out (by omega) (by omega)
    by_cases hend : off + gapL false l + n = s.size
    · refine ⟨K1 + K3 + 3, fun k hk => ?_⟩
      obtain ⟨m, rfl⟩ : ∃ m, k = m + 3 := ⟨k - 3, by omega⟩
      refine (step0 (m + 2) (by omega)).trans ?_
      refine (lon_j1_end (m + 1) s _ _ _ (by omega)).trans ?_
      refine (lon_j2_true m s _ _ _).trans ?_
      rw [W3.out]
      exact hI m (by omega)
    · have hlt3 : off + gapL false l + n < s.size := by omega
      have hg := bl_get s (off + gapL false l + n) hlt3
      obtain ⟨K2, hG⟩ := Gap_ev s (by omega) (off + gapL false l + n) (by omega)
      simp only [] at hG
      by_cases hc : cls s[off + gapL false l + n].toNat = 1
      · have hgp := gapL_pos s[off + gapL false l + n] ((bl s).drop (off + gapL false l + n + 1)) hc
        rw [← hg] at hgp
        refine ⟨K1 + K2 + K3 + 3, fun k hk => ?_⟩
        obtain ⟨m, rfl⟩ : ∃ m, k = m + 3 := ⟨k - 3, by omega⟩
        refine (step0 (m + 2) (by omega)).trans ?_
        refine (lon_j1_gap (m + 1) s _ _ _ _ (by omega) (hG (m + 1) (by omega))).trans ?_
        rw [decide_eq_true (by omega)]
        refine (lon_j2_true m s _ _ _).trans ?_
        rw [W3.out]
        exact hI m (by omega)
      · have hgz := gapL_zero s[off + gapL false l + n] ((bl s).drop (off + gapL false l + n + 1)) hc
        rw [← hg] at hgz
        have hxd : (l.drop (gapL false l)).drop n = s[off + gapL false l + n] :: (bl s).drop (off + gapL false l + n + 1) := hd2.trans hg
        have hpc : bl (s.extract (off + gapL false l) (off + gapL false l + (n + 1))) = (l.drop (gapL false l)).take n ++ [s[off + gapL false l + n]] := by
          rw [ext_take, ← hd, List.take_add_one, ← List.head?_drop, hxd]
          simp [bl]
        have hps : (s.extract (off + gapL false l) (off + gapL false l + (n + 1))).size ≤ 10000 := by
          rw [← bl_len, hpc, List.length_append, List.length_take]
          have : [s[off + gapL false l + n]].length = 1 := rfl
          have := hpos.2
          rw [hd, List.length_drop, bl_len] at this
          omega
        have hL : ∃ y e o, (e = 0 → ¬ ((y : List S31).length : Int) < 2) ∧ Ev (fun k => lexer_Lex.f k (s.extract (off + gapL false l) (off + gapL false l + (n + 1)))) (y, e, o) := by
          rcases lex_cases _ hps with ⟨us, hr2, hc2, hL⟩ | ⟨us, e, at_, l2, hb, he, hL⟩
          · rw [hpc] at hr2
            have := long_piece ht hxd hc (gapL_stop false l) hr2
            exact ⟨_, _, _, fun _ => by rw [List.length_map]; omega, hL⟩
          · exact ⟨_, _, _, fun h0 => by omega, hL⟩
        obtain ⟨y, e, o, hc3, K4, hL⟩ := hL
        simp only [] at hL
        refine ⟨K1 + K2 + K3 + K4 + 3, fun k hk => ?_⟩
        obtain ⟨m, rfl⟩ : ∃ m, k = m + 3 := ⟨k - 3, by omega⟩
        refine (step0 (m + 2) (by omega)).trans ?_
        refine (lon_j1_gap (m + 1) s _ _ _ _ (by omega) (hG (m + 1) (by omega))).trans ?_
        rw [decide_eq_false (by omega)]
        refine (lon_j2_false m s _ (pre.length : Int) t.1 ⟨t.2.1.toArray⟩ t.2.2 ((off + gapL false l : Nat) : Int) _ _ y e o i0 hlt2 hrd (by omega) W4.out (by omega) (by omega) (by rw [Int.toNat_natCast, Int.toNat_natCast]; exact hL m (by omega)) hc3).trans ?_
        rw [W3.out]
        exact hI m (by omega)
theorem LexerLongest : queuelablaw01_LexerLongest.Pure := by
  intro s hs
  refine Ev.rounds ?_
  unfold queuelablaw01_LexerLongest.f
  refine Ev.bind head_ev ?_
  by_cases hl : (s.size : Int) > 2000
  · simp only [if_pos hl]; exact Ev.now _
  simp only [if_neg hl]
  rcases lex_cases s (by omega) with ⟨ts, hr, hc, hL⟩ | ⟨ts, e, at_, l', hb, he, hL⟩
  · refine Ev.bind hL ?_
    simp only [if_true]
    exact lon_go (by omega) hr [] (by simp) (by omega) (by simpa using hc)
  · have he0 : e ≠ 0 := by omega
    refine Ev.bind hL ?_
    simp only [if_neg he0]
    exact Ev.now _
end Go.Proofs.YtgkpjfbghjojoaaDoor.Pure
