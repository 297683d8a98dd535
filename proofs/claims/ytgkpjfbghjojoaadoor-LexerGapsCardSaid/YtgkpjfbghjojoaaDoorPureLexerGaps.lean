import Derived.Test.YtgkpjfbghjojoaaDoorE2
import Derived.Test.YtgkpjfbghjojoaaDoorL7
/- LexerGaps, without Go: a gap before a token, or at the end, changes nothing but offsets behind it. -/
namespace Go.Proofs.YtgkpjfbghjojoaaDoor.Pure
open Go.RowKit Go.Proofs.YtgkpjfbghjojoaaDoor.L Go.Proofs.YtgkpjfbghjojoaaDoorW.PrintWords
open QLex
set_option linter.unusedVariables false
set_option linter.unusedSimpArgs false
def gapsB : List ByteArray := [(⟨#[32]⟩ : ByteArray), (⟨#[9, 9]⟩ : ByteArray), (⟨#[10]⟩ : ByteArray), (⟨#[32, 35, 32, 97, 32, 60, 61, 32, 55, 59, 10]⟩ : ByteArray), (⟨#[35, 10, 10]⟩ : ByteArray)]
theorem gaps_one : ∀ g ∈ gapsB, (∃ c r, bl g = c :: r ∧ cls c.toNat = 1) ∧ gapL false (bl g) = (bl g).length ∧ gapL true (bl g) = (bl g).length ∧ openL false (bl g) = false ∧ g.size ≤ 11 := by
  intro g hg
  simp only [gapsB, List.mem_cons, List.not_mem_nil, or_false] at hg
  rcases hg with rfl | rfl | rfl | rfl | rfl
  all_goals exact ⟨⟨_, _, rfl, by decide⟩, by decide, by decide, by decide, by decide⟩
theorem run_split (t1 : List (PT × Nat)) : ∀ {off : Nat} {l : List UInt8} {p : PT × Nat} {t2 : List (PT × Nat)} {off' : Nat} {l' : List UInt8}, Run off l (t1 ++ p :: t2) off' l' →
    ∃ l1, Run off l t1 p.2 l1 ∧ l1 ≠ [] ∧ gapL false l1 = 0 ∧ Run p.2 l1 (p :: t2) off' l' := by
  induction t1 with
  | nil =>
    intro off l p t2 off' l' h
    cases h with
    | @cons _ _ t n ts _ _ ht hr =>
      have hz : gapL false (l.drop (gapL false l)) = 0 := by
        cases hd : l.drop (gapL false l) with
        | nil => rfl
        | cons c r => exact gapL_zero c r (gapL_stop false l c r hd)
      refine ⟨_, Run.nil _ _, tok_ne ht, hz, ?_⟩
      have := Run.cons (off := off + gapL false l) (l := l.drop (gapL false l)) (t := t) (n := n) (ts := t2) (off' := off') (l' := l') (by rw [hz, List.drop_zero]; exact ht) (by rw [hz, List.drop_zero]; exact hr)
      rw [hz] at this
      exact this
  | cons q t1 ih =>
    intro off l p t2 off' l' h
    cases h with
    | cons ht hr =>
      obtain ⟨l1, h1, h2⟩ := ih hr
      exact ⟨l1, Run.cons ht h1, h2⟩
/-- a gap before a token -/
theorem gap_in {l g : List UInt8} {t1 t2 : List (PT × Nat)} {p : PT × Nat} {o : Nat} (h : Run 0 l (t1 ++ p :: t2) o []) (hg1 : ∃ c r, g = c :: r ∧ cls c.toNat = 1) (hg2 : gapL false g = g.length) (hg3 : openL false g = false) :
    Run 0 (l.take p.2 ++ (g ++ l.drop p.2)) (t1 ++ (p :: t2).map (sh g.length)) (o + g.length) [] := by
  obtain ⟨l1, h1, hne, hz, h2⟩ := run_split t1 h
  obtain ⟨pre, e1, e2⟩ := h1.suffix
  obtain ⟨b, hb, happ⟩ := h1.app pre e1 e2
  have hb' := hb hne
  subst hb'
  have ht : l.take p.2 = pre := by rw [e1, e2]; simp
  have hd : l.drop p.2 = l1 := by rw [e1, e2]; simp
  rw [ht, hd]
  obtain ⟨c, r, hc1, hc2⟩ := hg1
  have h3 := happ (g ++ l1) (.inr (.inl ⟨c, r ++ l1, by rw [hc1]; rfl, hc2⟩))
  have hgl : gapL false (g ++ l1) = g.length + gapL false l1 := by rw [gapL_append false g l1 hg2, hg3]
  have h4 := h2.shift g.length
  refine h3.join (oy := p.2 + g.length) (y := l1) ?_ ?_ h4
  · rw [hgl]; omega
  · rw [hgl, hz, Nat.add_zero, List.drop_zero]
    exact List.drop_left
/-- a gap at the end -/
theorem gap_end {l g : List UInt8} {ts : List (PT × Nat)} {o : Nat} (h : Run 0 l ts o []) (hg1 : ∃ c r, g = c :: r ∧ cls c.toNat = 1) (hg2 : gapL false g = g.length) (hg4 : gapL true g = g.length) :
    Run 0 (l ++ g) ts (o + g.length) [] := by
  obtain ⟨pre, e1, e2⟩ := h.suffix
  obtain ⟨b, _, happ⟩ := h.app pre e1 e2
  have hp : pre = l := by rw [e1]; simp
  subst hp
  obtain ⟨c, r, hc1, hc2⟩ := hg1
  have h3 := happ g (.inr (.inl ⟨c, r, hc1, hc2⟩))
  have hb : gapL b g = g.length := by cases b <;> assumption
  rw [hb, List.drop_length] at h3
  exact h3
theorem gp_j0 (k : Nat) (s : ByteArray) (a1 a2 m N n at_ : Int) (ys : List S31) (hL : lexer_Lex.f k s = some (ys, 0, 0)) (hm : Int.tmod a2 5 = m) (hm0 : 0 ≤ m) (hm5 : m < 5) (hN : wrap64 ((ys.length : Int) + 1) = N) (hN0 : ¬ N = 0) (hn : Int.tmod a1 N = n)
    (hat : (n < (ys.length : Int) ∧ 0 ≤ n ∧ (rd_T31 ys n).f3 = at_) ∨ (¬ n < (ys.length : Int) ∧ (s.size : Int) = at_)) :
    queuelablaw01_LexerGaps.j0 (k + 1) s a1 a2 true false = queuelablaw01_LexerGaps.j1 k s true ys (rdOf ByteArray.empty gapsB m) n at_ := by
  simp only [queuelablaw01_LexerGaps.j0]
  rw [if_neg (by simp), hL, Option.bind_some, if_pos rfl, Option.bind_some]
  have hl : ((([(⟨#[32]⟩ : ByteArray), (⟨#[9, 9]⟩ : ByteArray), (⟨#[10]⟩ : ByteArray), (⟨#[32, 35, 32, 97, 32, 60, 61, 32, 55, 59, 10]⟩ : ByteArray), (⟨#[35, 10, 10]⟩ : ByteArray)] : List ByteArray).length : Nat) : Int) = 5 := rfl
  rw [hl, if_neg (by decide), hm, if_pos hm0, if_pos hm5, hN, if_neg hN0, hn]
  rcases hat with ⟨h1, h2, h3⟩ | ⟨h1, h2⟩
  · rw [if_pos h1, if_pos h2, h3]; rfl
  · rw [if_neg h1, h2]; rfl
theorem gp_j1 (k : Nat) (s : ByteArray) (ys : List S31) (g : ByteArray) (n at_ : Int) (h0 : ¬ at_ < 0) (h1 : ¬ at_ > (s.size : Int)) :
    queuelablaw01_LexerGaps.j1 (k + 1) s true ys g n at_ = queuelablaw01_LexerGaps.j2 k s true ys g n at_ false := by
  simp only [queuelablaw01_LexerGaps.j1]
  rw [if_neg h0, decide_eq_false h1]
theorem gp_j2 (k : Nat) (s : ByteArray) (ys : List S31) (g : ByteArray) (n at_ : Int) (y : List S31) (e o : Int) (h0 : 0 ≤ at_) (h1 : at_ ≤ (s.size : Int)) (z1 : (s.extract 0 at_.toNat).size + g.size ≤ 9223372036854775807)
    (z2 : (s.extract 0 at_.toNat ++ g).size + (s.extract at_.toNat s.size).size ≤ 9223372036854775807) (hL : lexer_Lex.f (k + 1) ((s.extract 0 at_.toNat ++ g) ++ s.extract at_.toNat s.size) = some (y, e, o)) (c : Prop) (hc : wrap64 ((s.size : Int) + (g.size : Int)) > 10000 ↔ c)
    (hx : (c ∧ e = 2 ∧ o = 0) ∨ (¬ c ∧ e = 0 ∧ (y.length : Int) = (ys.length : Int) ∧ 0 ≤ n ∧ n ≤ (ys.length : Int) ∧ n ≤ (y.length : Int) ∧ queuelabref01_Same.f (k + 1) (ys.take n.toNat) (y.take n.toNat) 0 = some true ∧ queuelabref01_Same.f (k + 1) (ys.drop n.toNat) (y.drop n.toNat) (g.size : Int) = some true)) :
    queuelablaw01_LexerGaps.j2 (k + 2) s true ys g n at_ false = some true := by
  simp only [queuelablaw01_LexerGaps.j2]
  rw [if_neg (by simp), if_pos h0, if_pos h1, if_pos z1, if_pos z2, hL, Option.bind_some]
  rcases hx with ⟨h, rfl, rfl⟩ | ⟨h, rfl, h2, h3, h4, h5, h6, h7⟩
  · rw [if_pos (hc.mpr h), if_pos trivial, if_pos rfl]; rfl
  · rw [if_neg (fun q => h (hc.mp q)), if_pos trivial, if_pos rfl, if_pos h2, if_pos h3, if_pos h4, if_pos h5, h6, Option.bind_some, if_pos rfl, h7, Option.bind_some]; rfl
theorem bl_new (s g : ByteArray) (a : Nat) (h : a ≤ s.size) : bl ((s.extract 0 a ++ g) ++ s.extract a s.size) = (bl s).take a ++ (bl g ++ (bl s).drop a) := by
  have e1 : ∀ a b c : ByteArray, bl ((a ++ b) ++ c) = bl a ++ (bl b ++ bl c) := by intro a b c; simp [bl]
  have e2 : bl (s.extract a s.size) = (bl s).drop a := by
    have h3 := ext_take s a (s.size - a)
    rw [show a + (s.size - a) = s.size by omega] at h3
    rw [h3]
    show ((bl s).drop a).take (s.size - a) = _
    rw [List.take_of_length_le (by rw [List.length_drop, bl_len]; omega)]
  have e3 : bl (s.extract 0 a) = (bl s).take a := by
    have h3 := ext_take s 0 a
    rw [Nat.zero_add] at h3
    rw [h3]; simp [bl]
  rw [e1, e2, e3]
theorem gap_key (s g : ByteArray) (hg : g ∈ gapsB) {ts : List (PT × Nat)} (hr : Run 0 (bl s) ts s.size []) (n : Nat) (hn : n ≤ ts.length) :
    ∃ (a : Nat) (t1 t2 : List (PT × Nat)), ts = t1 ++ t2 ∧ t1.length = n ∧ a ≤ s.size ∧ (((n : Int) < ((ts.map toS).length : Int) ∧ (0 : Int) ≤ (n : Int) ∧ (rd_T31 (ts.map toS) (n : Int)).f3 = (a : Int)) ∨ (¬ (n : Int) < ((ts.map toS).length : Int) ∧ (s.size : Int) = (a : Int))) ∧
      Run 0 (bl ((s.extract 0 a ++ g) ++ s.extract a s.size)) (t1 ++ t2.map (sh g.size)) (s.size + g.size) [] := by
  obtain ⟨g1, g2, g3, g4, g5⟩ := gaps_one g hg
  by_cases h : n < ts.length
  · have hlt := run_lt hr ts[n] (List.getElem_mem h)
    refine ⟨ts[n].2, ts.take n, ts[n] :: ts.drop (n + 1), by rw [← List.drop_eq_getElem_cons h, List.take_append_drop], by rw [List.length_take]; omega, by omega, .inl ⟨by rw [List.length_map]; omega, by omega, ?_⟩, ?_⟩
    · rw [rd_get _ _ (by rw [List.length_map]; exact h)]; simp [toS]
    · rw [bl_new s g _ (by omega), ← bl_len g]
      refine gap_in ?_ g1 g2 g4
      rw [← List.drop_eq_getElem_cons h, List.take_append_drop]; exact hr
  · refine ⟨s.size, ts, [], by simp, by omega, by omega, .inr ⟨by rw [List.length_map]; omega, rfl⟩, ?_⟩
    rw [bl_new s g _ (by omega), ← bl_len g, ← bl_len s, List.take_length, List.drop_length, List.append_nil, List.map_nil, List.append_nil]
    exact gap_end hr g1 g2 g3
theorem LexerGaps : queuelablaw01_LexerGaps.Pure := by
  intro s a1 a2 hs _ _
  refine Ev.rounds ?_
  unfold queuelablaw01_LexerGaps.f
  refine Ev.bind head_ev ?_
  have out : ∀ x, x = true → Ev (fun k => queuelablaw01_LexerGaps.j0 k s a1 a2 true x) true := by
    intro x hx
    refine Ev.step (f := fun _ => some true) (fun k => ?_) (Ev.now true)
    simp only [queuelablaw01_LexerGaps.j0]; rw [if_pos hx]
  by_cases hla : (s.size : Int) > 10000
  · simp only [if_pos hla]; exact out true rfl
  simp only [if_neg hla]
  by_cases ha1 : a1 < 0
  · simp only [if_pos ha1]; exact out true rfl
  simp only [if_neg ha1]
  by_cases ha2 : a2 < 0
  · exact out _ (decide_eq_true ha2)
  rw [decide_eq_false ha2]
  rcases lex_cases s (by omega) with ⟨ts, hr, hc, hL⟩ | ⟨ts, e, at_, l', hb, he, hL⟩
  · have hm : Int.tmod a2 5 = ((a2.toNat % 5 : Nat) : Int) := by rw [Int.tmod_eq_emod_of_nonneg (by omega)]; omega
    have hn : Int.tmod a1 ((ts.length : Int) + 1) = ((a1.toNat % (ts.length + 1) : Nat) : Int) := by
      rw [Int.tmod_eq_emod_of_nonneg (by omega)]
      have : a1 = (a1.toNat : Int) := by omega
      conv => lhs; rw [this]
      rfl
    have hm5 : a2.toNat % 5 < 5 := Nat.mod_lt _ (by decide)
    have hnl : a1.toNat % (ts.length + 1) ≤ ts.length := Nat.le_of_lt_succ (Nat.mod_lt _ (by omega))
    generalize a2.toNat % 5 = m at hm hm5
    generalize a1.toNat % (ts.length + 1) = n at hn hnl
    have hgm : rdOf ByteArray.empty gapsB (m : Int) ∈ gapsB := by
      have : rdOf ByteArray.empty gapsB (m : Int) = gapsB[m]'(hm5) := by
        simp [rdOf, List.getD_eq_getElem?_getD, show m < gapsB.length from hm5]
        rfl
      rw [this]; exact List.getElem_mem _
    generalize hg : rdOf ByteArray.empty gapsB (m : Int) = g at hgm
    obtain ⟨a, t1, t2, rfl, hl1, ha, hat, hrun⟩ := gap_key s g hgm hr n hnl
    obtain ⟨_, _, _, _, hg11⟩ := gaps_one g hgm
    have hsz : ((s.extract 0 a ++ g) ++ s.extract a s.size).size = s.size + g.size := by
      rw [← bl_len, bl_new s g a ha]
      simp [bl_len]; omega
    have hN : wrap64 ((((t1 ++ t2).map toS).length : Int) + 1) = ((t1 ++ t2).length : Int) + 1 := by rw [List.length_map]; exact w64 (by omega) (by omega)
    have HN := Aside0.mk hN
    clear hN
    have hwc : wrap64 ((s.size : Int) + (g.size : Int)) > 10000 ↔ s.size + g.size > 10000 := by rw [w64 (by omega) (by omega)]; omega
    have HW := Aside0.mk hwc
    clear hwc
    have z1 : (s.extract 0 a).size + g.size ≤ 100000 := by rw [ByteArray.size_append, ByteArray.size_append] at hsz; omega
    have z2 : (s.extract 0 a ++ g).size + (s.extract a s.size).size ≤ 100000 := by rw [ByteArray.size_append] at hsz; omega
    obtain ⟨K1, h1⟩ := hL
    simp only [] at h1
    have hX : ∃ (y : List S31) (e o : Int) (K : Nat), ∀ k, K ≤ k → lexer_Lex.f k ((s.extract 0 a ++ g) ++ s.extract a s.size) = some (y, e, o) ∧
        ((s.size + g.size > 10000 ∧ e = 2 ∧ o = 0) ∨ (¬ s.size + g.size > 10000 ∧ e = 0 ∧ (y.length : Int) = (((t1 ++ t2).map toS).length : Int) ∧ (0 : Int) ≤ (n : Int) ∧ (n : Int) ≤ (((t1 ++ t2).map toS).length : Int) ∧ (n : Int) ≤ (y.length : Int) ∧ queuelabref01_Same.f k (((t1 ++ t2).map toS).take (n : Int).toNat) (y.take (n : Int).toNat) 0 = some true ∧ queuelabref01_Same.f k (((t1 ++ t2).map toS).drop (n : Int).toNat) (y.drop (n : Int).toNat) (g.size : Int) = some true)) := by
      by_cases hlong : s.size + g.size > 10000
      · obtain ⟨K, h2⟩ := Lex_long (s := (s.extract 0 a ++ g) ++ s.extract a s.size) (by omega)
        exact ⟨_, _, _, K, fun k hk => ⟨h2 k hk, .inl ⟨hlong, rfl, rfl⟩⟩⟩
      · have hlen : (t1 ++ t2.map (sh g.size)).length ≤ 3000 := by simp at hc ⊢; omega
        obtain ⟨K, h2⟩ := Lex_good (s := (s.extract 0 a ++ g) ++ s.extract a s.size) (by omega) ⟨_, hrun, hlen⟩
        have hbd : ∀ p ∈ t1 ++ t2, p.2 ≤ 1000000000000 := fun p hp => by have := run_lt hr p hp; omega
        rw [List.length_append] at hc
        obtain ⟨K2, h3⟩ := Same_self t1 (by omega) (fun p hp => hbd p (by simp [hp]))
        obtain ⟨K3, h4⟩ := Same_shift t2 g.size (by omega) (fun p hp => hbd p (by simp [hp])) (by omega)
        simp only [] at h3 h4
        refine ⟨_, _, _, K + K2 + K3, fun k hk => ⟨h2 k (by omega), .inr ⟨hlong, rfl, by simp, by omega, by simp; omega, by simp; omega, ?_, ?_⟩⟩⟩
        · rw [Int.toNat_natCast, List.map_append, List.map_append, List.take_left' (by simpa using hl1), List.take_left' (by simpa using hl1)]
          exact h3 k (by omega)
        · rw [Int.toNat_natCast, List.map_append, List.map_append, List.drop_left' (by simpa using hl1), List.drop_left' (by simpa using hl1)]
          exact h4 k (by omega)
    obtain ⟨y, e, o, K2, hX⟩ := hX
    refine ⟨K1 + K2 + 4, fun k hk => ?_⟩
    obtain ⟨q, rfl⟩ : ∃ q, k = q + 4 := ⟨k - 4, by omega⟩
    obtain ⟨hx1, hx2⟩ := hX (q + 1) (by omega)
    refine (gp_j0 (q + 3) s a1 a2 (m : Int) _ (n : Int) (a : Int) _ (h1 _ (by omega)) hm (by omega) (by omega) HN.out (by omega) hn hat).trans ?_
    rw [hg]
    refine (gp_j1 (q + 2) s _ g (n : Int) (a : Int) (by omega) (by omega)).trans ?_
    exact gp_j2 q s _ g (n : Int) (a : Int) y e o (by omega) (by omega) (Nat.le_trans z1 (by decide)) (Nat.le_trans z2 (by decide)) hx1 _ HW.out hx2
  · have he0 : e ≠ 0 := by omega
    obtain ⟨K1, h1⟩ := hL
    simp only [] at h1
    refine ⟨K1 + 1, fun k hk => ?_⟩
    obtain ⟨m, rfl⟩ : ∃ m, k = m + 1 := ⟨k - 1, by omega⟩
    show queuelablaw01_LexerGaps.j0 (m + 1) s a1 a2 true false = _
    simp only [queuelablaw01_LexerGaps.j0]
    rw [if_neg (by simp), h1 m (by omega), Option.bind_some, if_neg he0]
end Go.Proofs.YtgkpjfbghjojoaaDoor.Pure
