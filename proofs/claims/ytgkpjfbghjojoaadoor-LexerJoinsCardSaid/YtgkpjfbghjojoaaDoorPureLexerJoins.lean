import Derived.Test.YtgkpjfbghjojoaaDoorE2
import Derived.Test.YtgkpjfbghjojoaaDoorL8
/- LexerJoins, without Go: two sources joined by a line feed have the tokens of both. -/
namespace Go.Proofs.YtgkpjfbghjojoaaDoor.Pure
open Go.RowKit Go.Proofs.YtgkpjfbghjojoaaDoor.L Go.Proofs.YtgkpjfbghjojoaaDoorW.PrintWords
open QLex
set_option linter.unusedVariables false
set_option linter.unusedSimpArgs false
theorem bl_join (a b : ByteArray) : bl ((a ++ (⟨#[10]⟩ : ByteArray)) ++ b) = bl a ++ 10 :: bl b := by simp [bl]
theorem size_join (a b : ByteArray) : ((a ++ (⟨#[10]⟩ : ByteArray)) ++ b).size = a.size + b.size + 1 := by
  rw [← bl_len, bl_join]; simp [bl_len]; omega
theorem split_at {α : Type} (l : List α) (n : Nat) (h : n < l.length) : ∃ t1 p t2, l = t1 ++ p :: t2 ∧ t1.length = n ∧ p = l[n] :=
  ⟨l.take n, l[n], l.drop (n + 1), by rw [← List.drop_eq_getElem_cons h, List.take_append_drop], by simp; omega, rfl⟩
theorem j1_step (k : Nat) (a b : ByteArray) (x6 x9 : List S31) (y : List S31) (e o : Int) (z1 : a.size + 1 ≤ 9223372036854775807) (z2 : (a ++ (⟨#[10]⟩ : ByteArray)).size + b.size ≤ 9223372036854775807)
    (h : lexer_Lex.f k ((a ++ (⟨#[10]⟩ : ByteArray)) ++ b) = some (y, e, o)) (c : Prop) [Decidable c] (d : Prop) [Decidable d] (hc : wrap64 (wrap64 ((a.size : Int) + (b.size : Int)) + 1) > 10000 ↔ c) (hd : wrap64 ((x6.length : Int) + (x9.length : Int)) > 3000 ↔ d) :
    (c → e = 2 → o = 0 → queuelablaw01_LexerJoins.j1 (k + 1) a b true x6 x9 false = some true) ∧
    (¬ c → d → e = 2 → o > (a.size : Int) → queuelablaw01_LexerJoins.j1 (k + 1) a b true x6 x9 false = some true) ∧
    (¬ c → ¬ d → e = 0 → (y.length : Int) = wrap64 ((x6.length : Int) + (x9.length : Int)) → x6.length ≤ y.length → queuelabref01_Same.f k x6 (y.take x6.length) 0 = some true → queuelabref01_Same.f k x9 (y.drop x6.length) (wrap64 ((a.size : Int) + 1)) = some true →
      queuelablaw01_LexerJoins.j1 (k + 1) a b true x6 x9 false = some true) := by
  refine ⟨fun h1 h2 h3 => ?_, fun h1 h2 h3 h4 => ?_, fun h1 h2 h3 h4 h5 h6 h7 => ?_⟩
  · subst h2 h3
    simp only [queuelablaw01_LexerJoins.j1]
    rw [if_neg (by simp), if_pos z1, if_pos z2, h, Option.bind_some, if_pos (hc.mpr h1), if_pos rfl, if_pos trivial]; rfl
  · subst h3
    simp only [queuelablaw01_LexerJoins.j1]
    rw [if_neg (by simp), if_pos z1, if_pos z2, h, Option.bind_some, if_neg (fun q => h1 (hc.mp q)), if_pos (hd.mpr h2), if_pos rfl, if_pos trivial, decide_eq_true h4]
  · subst h3
    simp only [queuelablaw01_LexerJoins.j1]
    rw [if_neg (by simp), if_pos z1, if_pos z2, h, Option.bind_some, if_neg (fun q => h1 (hc.mp q)), if_neg (fun q => h2 (hd.mp q)), if_pos rfl, if_pos trivial, if_pos h4, if_pos (Int.natCast_nonneg _), if_pos (Int.ofNat_le.mpr h5)]
    simp only [Int.toNat_natCast]
    rw [h6, Option.bind_some, if_pos rfl, h7, Option.bind_some]
theorem LexerJoins : queuelablaw01_LexerJoins.Pure := by
  intro a b ha hb
  refine Ev.rounds ?_
  unfold queuelablaw01_LexerJoins.f
  refine Ev.bind head_ev ?_
  have out : ∀ x, x = true → Ev (fun k => queuelablaw01_LexerJoins.j0 k a b true x) true := by
    intro x hx
    refine Ev.step (f := fun _ => some true) (fun k => ?_) (Ev.now true)
    simp only [queuelablaw01_LexerJoins.j0]; rw [if_pos hx]
  by_cases hla : (a.size : Int) > 10000
  · simp only [if_pos hla]; exact out true rfl
  simp only [if_neg hla]
  by_cases hlb : (b.size : Int) > 10000
  · exact out _ (decide_eq_true hlb)
  rw [decide_eq_false hlb]
  have hsize := size_join a b
  have z1 : Aside0 (a.size + 1 ≤ 9223372036854775807) := ⟨by omega⟩
  have z2 : Aside0 ((a ++ (⟨#[10]⟩ : ByteArray)).size + b.size ≤ 9223372036854775807) := ⟨by rw [ByteArray.size_append] at hsize; omega⟩
  rcases ok_or_bad_from (bl a).length (bl a) (Nat.le_refl _) 0 0 (by omega) with ⟨ts, oa, hra, hca⟩ | ⟨ts, e, at_, l', hr, hne, hx⟩
  · rcases ok_or_bad_from (bl b).length (bl b) (Nat.le_refl _) 0 0 (by omega) with ⟨us, ob, hrb, hcb⟩ | ⟨us, e, at_, l', hr, hne, hx⟩
    · obtain ⟨K1, h1⟩ := Lex_good (s := a) (by omega) ⟨oa, hra, by omega⟩
      obtain ⟨K2, h2⟩ := Lex_good (s := b) (by omega) ⟨ob, hrb, by omega⟩
      simp only [] at h1 h2
      have hj := join_run hra hrb
      rw [← bl_join, bl_len] at hj
      have hbnd := hj.bound
      have w1 : wrap64 (wrap64 ((a.size : Int) + (b.size : Int)) + 1) > 10000 ↔ a.size + b.size + 1 > 10000 := by rw [w64 (n := (a.size : Int) + (b.size : Int)) (by omega) (by omega), w64 (by omega) (by omega)]; omega
      have w2 : wrap64 (((ts.map toS).length : Int) + ((us.map toS).length : Int)) = (ts.length : Int) + us.length := by rw [w64 (by simp; omega) (by simp; omega)]; simp
      have w3 : wrap64 (((ts.map toS).length : Int) + ((us.map toS).length : Int)) > 3000 ↔ ts.length + us.length > 3000 := by rw [w2]; omega
      have W2 := Aside0.mk w2
      clear w2
      have jstep := fun k y e o h => j1_step k a b (ts.map toS) (us.map toS) y e o z1.out z2.out h _ _ w1 w3
      have JS := Aside0.mk jstep
      clear jstep w1 w3
      by_cases hlong : a.size + b.size + 1 > 10000
      · obtain ⟨K3, h3⟩ := Lex_long (s := (a ++ (⟨#[10]⟩ : ByteArray)) ++ b) (by omega)
        simp only [] at h3
        refine ⟨K1 + K2 + K3 + 2, fun k hk => ?_⟩
        obtain ⟨m, rfl⟩ : ∃ m, k = m + 2 := ⟨k - 2, by omega⟩
        show queuelablaw01_LexerJoins.j0 ((m + 1) + 1) a b true false = _
        simp only [queuelablaw01_LexerJoins.j0]
        rw [if_neg (by simp), h1 (m + 1) (by omega)]
        simp only [Option.bind_some]
        rw [h2 (m + 1) (by omega)]
        simp only [Option.bind_some]
        rw [if_pos trivial]
        have e0 : ((0 : Int) != 0) = false := rfl
        rw [e0]
        exact (JS.out m _ _ _ (h3 m (by omega))).1 hlong rfl rfl
      · by_cases hmany : ts.length + us.length > 3000
        · -- the 3001st token is one of the second source
          have hsplit : ∃ t1 p t2, ts ++ us.map (sh (a.size + 1)) = t1 ++ p :: t2 ∧ t1.length = 3000 ∧ a.size < p.2 := by
            have hlen : 3000 < (ts ++ us.map (sh (a.size + 1))).length := by simp; omega
            obtain ⟨t1, p, t2, e1, e2, e3⟩ := split_at _ 3000 hlen
            refine ⟨t1, p, t2, e1, e2, ?_⟩
            rw [e3, List.getElem_append_right (by omega)]
            simp [sh]; omega
          obtain ⟨t1, p, t2, hs1, hs2, hs3⟩ := hsplit
          rw [hs1] at hj
          obtain ⟨l1, hc1, hc2⟩ := run_cut t1 hj
          obtain ⟨K3, h3⟩ := Lex_bad (s := (a ++ (⟨#[10]⟩ : ByteArray)) ++ b) (e := 2) (by omega) ⟨hc1, hc2, .inl ⟨hs2, rfl⟩⟩ (by omega)
          simp only [] at h3
          refine ⟨K1 + K2 + K3 + 2, fun k hk => ?_⟩
          obtain ⟨m, rfl⟩ : ∃ m, k = m + 2 := ⟨k - 2, by omega⟩
          show queuelablaw01_LexerJoins.j0 ((m + 1) + 1) a b true false = _
          simp only [queuelablaw01_LexerJoins.j0]
          rw [if_neg (by simp), h1 (m + 1) (by omega)]
          simp only [Option.bind_some]
          rw [h2 (m + 1) (by omega)]
          simp only [Option.bind_some]
          rw [if_pos trivial]
          have e0 : ((0 : Int) != 0) = false := rfl
          rw [e0]
          exact (JS.out m _ _ _ (h3 m (by omega))).2.1 hlong hmany rfl (by omega)
        · obtain ⟨K3, h3⟩ := Lex_good (s := (a ++ (⟨#[10]⟩ : ByteArray)) ++ b) (by omega) ⟨_, hj, by simp; omega⟩
          have htb : ∀ p ∈ ts, p.2 ≤ 1000000000000 := fun p hp => by have := run_lt hra p hp; omega
          obtain ⟨K4, h4⟩ := Same_self ts (by omega) htb
          have hub : ∀ p ∈ us, p.2 ≤ 1000000000000 := fun p hp => by have := run_lt hrb p hp; omega
          obtain ⟨K5, h5⟩ := Same_shift us (a.size + 1) (by omega) hub (by omega)
          simp only [] at h3 h4 h5
          refine ⟨K1 + K2 + K3 + K4 + K5 + 2, fun k hk => ?_⟩
          obtain ⟨m, rfl⟩ : ∃ m, k = m + 2 := ⟨k - 2, by omega⟩
          show queuelablaw01_LexerJoins.j0 ((m + 1) + 1) a b true false = _
          simp only [queuelablaw01_LexerJoins.j0]
          rw [if_neg (by simp), h1 (m + 1) (by omega)]
          simp only [Option.bind_some]
          rw [h2 (m + 1) (by omega)]
          simp only [Option.bind_some]
          rw [if_pos trivial]
          have e0 : ((0 : Int) != 0) = false := rfl
          rw [e0]
          have hx1 : ((ts ++ us.map (sh (a.size + 1))).map toS).take (ts.map toS).length = ts.map toS := by simp
          have hx2 : ((ts ++ us.map (sh (a.size + 1))).map toS).drop (ts.map toS).length = (us.map (sh (a.size + 1))).map toS := by simp
          have h5' := h5 m (by omega)
          refine (JS.out m _ _ _ (h3 m (by omega))).2.2 hlong hmany rfl (by rw [W2.out]; simp) (by simp) (by rw [hx1]; exact h4 m (by omega)) ?_
          rw [hx2, w64 (by omega) (by omega)]
          exact h5'
    · obtain ⟨K1, h1⟩ := Lex_good (s := a) (by omega) ⟨oa, hra, by omega⟩
      obtain ⟨K2, h2⟩ := Lex_bad (s := b) (by omega) ⟨hr, hne, by simpa using hx⟩ (err_ne hx)
      simp only [] at h1 h2
      refine ⟨K1 + K2 + 2, fun k hk => ?_⟩
      obtain ⟨m, rfl⟩ : ∃ m, k = m + 2 := ⟨k - 2, by omega⟩
      show queuelablaw01_LexerJoins.j0 ((m + 1) + 1) a b true false = _
      simp only [queuelablaw01_LexerJoins.j0]
      rw [if_neg (by simp), h1 (m + 1) (by omega)]
      simp only [Option.bind_some]
      rw [h2 (m + 1) (by omega)]
      simp only [Option.bind_some]
      have e0 : (e != 0) = true := by have := err_ne hx; simp [this]
      rw [if_pos trivial, e0]
      simp only [queuelablaw01_LexerJoins.j1]
      rw [if_pos trivial]
  · obtain ⟨K1, h1⟩ := Lex_bad (s := a) (by omega) ⟨hr, hne, by simpa using hx⟩ (err_ne hx)
    have h2 : ∃ x K, ∀ k, K ≤ k → lexer_Lex.f k b = some x := by
      rcases ok_or_bad_from (bl b).length (bl b) (Nat.le_refl _) 0 0 (by omega) with ⟨us, ob, hrb, hcb⟩ | ⟨us, e2, at2, l2, hr2, hne2, hx2⟩
      · obtain ⟨K2, h2⟩ := Lex_good (s := b) (by omega) ⟨ob, hrb, by omega⟩; exact ⟨_, K2, h2⟩
      · obtain ⟨K2, h2⟩ := Lex_bad (s := b) (by omega) ⟨hr2, hne2, by simpa using hx2⟩ (err_ne hx2); exact ⟨_, K2, h2⟩
    obtain ⟨x, K2, h2⟩ := h2
    simp only [] at h1
    refine ⟨K1 + K2 + 2, fun k hk => ?_⟩
    obtain ⟨m, rfl⟩ : ∃ m, k = m + 2 := ⟨k - 2, by omega⟩
    show queuelablaw01_LexerJoins.j0 ((m + 1) + 1) a b true false = _
    simp only [queuelablaw01_LexerJoins.j0]
    rw [if_neg (by simp), h1 (m + 1) (by omega)]
    simp only [Option.bind_some]
    rw [h2 (m + 1) (by omega)]
    simp only [Option.bind_some]
    rw [if_neg (err_ne hx)]
    simp only [queuelablaw01_LexerJoins.j1]
    rw [if_pos trivial]
end Go.Proofs.YtgkpjfbghjojoaaDoor.Pure
