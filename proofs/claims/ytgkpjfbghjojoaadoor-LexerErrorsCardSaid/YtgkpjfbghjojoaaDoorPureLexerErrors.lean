import Derived.Test.YtgkpjfbghjojoaaDoorH
import Derived.Test.YtgkpjfbghjojoaaDoorL9
/- LexerErrors, without Go: an error stands where the tokens end, and depends on nothing behind the wrong token. -/
namespace Go.Proofs.YtgkpjfbghjojoaaDoor.Pure
open Go.RowKit Go.Proofs.YtgkpjfbghjojoaaDoor.L Go.Proofs.YtgkpjfbghjojoaaDoorW.PrintWords
open QLex
set_option linter.unusedVariables false
set_option linter.unusedSimpArgs false
theorem bl_ext0 (s : ByteArray) (n : Nat) : bl (s.extract 0 n) = (bl s).take n := by
  have := ext_take s 0 n
  rw [Nat.zero_add] at this
  rw [this]; simp [bl]
theorem err_j1 (k : Nat) (s tl : ByteArray) (e at_ m E : Int) (ys : List S31) (ha0 : 0 ≤ at_) (ha : at_ ≤ (s.size : Int)) (hL : lexer_Lex.f k (s.extract 0 at_.toNat) = some (ys, 0, 0)) (hE : queuelabref01_End.f k s at_ = some E)
    (hm : mx (wrap64 (at_ + 1)) E = m) (hm0 : 0 ≤ m) (hm1 : m ≤ (s.size : Int)) (z1 : (s.extract 0 m.toNat).size + 1 ≤ 9223372036854775807) (z2 : (s.extract 0 m.toNat ++ (⟨#[32]⟩ : ByteArray)).size + tl.size ≤ 9223372036854775807)
    (hc : (e = 2 ∧ (ys.length : Int) = 3000) ∨ e ≠ 2) :
    queuelablaw01_LexerErrors.j1 (k + 1) s tl true e at_ false = queuelablaw01_LexerErrors.j2 k true e at_ ((s.extract 0 m.toNat ++ (⟨#[32]⟩ : ByteArray)) ++ tl) false := by
  simp only [queuelablaw01_LexerErrors.j1]
  rw [if_neg (by simp), if_pos ha0, if_pos ha, hL, Option.bind_some, hE, Option.bind_some, hm, if_pos hm0, if_pos hm1, if_pos z1, if_pos z2, if_pos rfl]
  rcases hc with ⟨h2, h⟩ | h
  · rw [if_pos h2, h]; rfl
  · rw [if_neg h]
theorem err_j2 (k : Nat) (e at_ : Int) (o : ByteArray) (hc : (o.size : Int) > 10000 ∨ (¬ (o.size : Int) > 10000 ∧ queuelablaw01_fails.f k o e at_ = some true)) :
    queuelablaw01_LexerErrors.j2 (k + 1) true e at_ o false = some true := by
  simp only [queuelablaw01_LexerErrors.j2]
  rw [if_neg (by simp), if_pos trivial]
  rcases hc with h | ⟨h, h2⟩
  · rw [if_pos h]
  · rw [if_neg h, h2, Option.bind_some]
/-- the error of a source, with other bytes behind the wrong token -/
theorem err_bad {l pre l' : List UInt8} {ts : List (PT × Nat)} {e : Int} {at_ : Nat} (h : Bad l ts e at_ l') (h1 : l = pre ++ l') (h2 : at_ = 0 + pre.length) (q : List UInt8) :
    Bad (pre ++ (l'.take (max 1 (endL l')) ++ 32 :: q)) ts e at_ (l'.take (max 1 (endL l')) ++ 32 :: q) ∧ L.Good pre ts := by
  obtain ⟨hr, hne, hx⟩ := h
  have hhead := hr.head
  obtain ⟨b, hb1, happ⟩ := hr.app pre h1 h2
  obtain ⟨c, r, rfl⟩ : ∃ c r, l' = c :: r := by
    cases l' with
    | nil => exact absurd rfl hne
    | cons c r => exact ⟨c, r, rfl⟩
  obtain ⟨n, hn⟩ : ∃ n, max 1 (endL (c :: r)) = n + 1 := ⟨max 1 (endL (c :: r)) - 1, by omega⟩
  have hy : (c :: r).take (max 1 (endL (c :: r))) ++ 32 :: q = c :: (r.take n ++ 32 :: q) := by rw [hn, List.take_succ_cons, List.cons_append]
  have hb := hb1 hne
  subst hb
  refine ⟨⟨?_, by rw [hy]; simp, ?_⟩, ?_⟩
  · have := happ ((c :: r).take (max 1 (endL (c :: r))) ++ 32 :: q) (.inr (.inr (by rw [hy]; rfl)))
    have hz : gapL false ((c :: r).take (max 1 (endL (c :: r))) ++ 32 :: q) = 0 := by rw [hy]; exact gapL_zero c _ (hhead c r rfl)
    rw [hz, Nat.add_zero, List.drop_zero] at this
    exact this
  · rcases hx with hx | ⟨hx1, hx2⟩
    · exact .inl hx
    · exact .inr ⟨hx1, tokL_err_app hx2 (by simp) (32 :: q) ⟨32, q, rfl, by decide⟩⟩
  · have := happ [] (.inl rfl)
    simp only [List.append_nil, List.drop_nil] at this
    refine ⟨_, this, ?_⟩
    rcases hx with hx | hx <;> omega
theorem LexerErrors : queuelablaw01_LexerErrors.Pure := by
  intro s tl hs ht
  refine Ev.rounds ?_
  unfold queuelablaw01_LexerErrors.f
  refine Ev.bind head_ev ?_
  have out : ∀ x, x = true → Ev (fun k => queuelablaw01_LexerErrors.j0 k s tl true x) true := by
    intro x hx
    refine Ev.step (f := fun _ => some true) (fun k => ?_) (Ev.now true)
    simp only [queuelablaw01_LexerErrors.j0]; rw [if_pos hx]
  by_cases hla : (s.size : Int) > 10000
  · simp only [if_pos hla]; exact out true rfl
  simp only [if_neg hla]
  by_cases hlb : (tl.size : Int) > 10000
  · exact out _ (decide_eq_true hlb)
  rw [decide_eq_false hlb]
  rcases lex_cases s (by omega) with ⟨ts, hr, hc, hL⟩ | ⟨ts, e, at_, l', hb, he, hL⟩
  · obtain ⟨K1, h1⟩ := hL
    simp only [] at h1
    refine ⟨K1 + 1, fun k hk => ?_⟩
    obtain ⟨m, rfl⟩ : ∃ m, k = m + 1 := ⟨k - 1, by omega⟩
    show queuelablaw01_LexerErrors.j0 (m + 1) s tl true false = _
    simp only [queuelablaw01_LexerErrors.j0]
    rw [if_neg (by simp), h1 m (by omega), Option.bind_some, if_pos rfl, if_pos trivial]; rfl
  · obtain ⟨hr, hne, hx⟩ := id hb
    obtain ⟨pre, hp1, hp2⟩ := hr.suffix
    have hlen : s.size = pre.length + l'.length := by rw [← bl_len, hp1]; simp
    have hl1 : 1 ≤ l'.length := by cases l' with
      | nil => exact absurd rfl hne
      | cons c r => simp
    have hl' : l' = (bl s).drop at_ := by rw [hp1, hp2]; simp
    have hend := endL_le l'
    obtain ⟨hb2, hgood⟩ := err_bad hb hp1 hp2 (bl tl)
    have hpre : bl (s.extract 0 at_) = pre := by rw [bl_ext0, hp1, hp2]; simp
    have hpt : bl (s.extract 0 (at_ + max 1 (endL l'))) = pre ++ l'.take (max 1 (endL l')) := by
      rw [bl_ext0, hp1, show at_ + max 1 (endL l') = pre.length + max 1 (endL l') by omega, List.take_length_add_append]
    have ho : bl ((s.extract 0 (at_ + max 1 (endL l')) ++ (⟨#[32]⟩ : ByteArray)) ++ tl) = pre ++ (l'.take (max 1 (endL l')) ++ 32 :: bl tl) := by
      have e1 : ∀ a b c : ByteArray, bl ((a ++ b) ++ c) = bl a ++ (bl b ++ bl c) := by intro a b c; simp [bl]
      rw [e1, hpt]
      have e2 : bl (⟨#[32]⟩ : ByteArray) = [32] := rfl
      rw [e2]; simp
    have hps : (s.extract 0 at_).size = pre.length := by rw [← bl_len, hpre]
    have hpts : (s.extract 0 (at_ + max 1 (endL l'))).size ≤ 10000 := by rw [← bl_len, hpt, List.length_append, List.length_take]; omega
    have hpts2 : (s.extract 0 (at_ + max 1 (endL l')) ++ (⟨#[32]⟩ : ByteArray)).size + tl.size ≤ 100000 := by
      rw [ByteArray.size_append]
      have : (⟨#[32]⟩ : ByteArray).size = 1 := rfl
      omega
    obtain ⟨K1, h1⟩ := hL
    obtain ⟨K2, h2⟩ := Lex_good (s := s.extract 0 at_) (by omega) (ts := ts) (by rw [hpre]; exact hgood)
    obtain ⟨K3, h3⟩ := End_ev s (by omega) at_ (by omega)
    rw [← hl'] at h3
    simp only [] at h1 h2 h3
    have he0 : e ≠ 0 := by omega
    have hF : ∃ K, ∀ k, K ≤ k → (((((s.extract 0 (at_ + max 1 (endL l')) ++ (⟨#[32]⟩ : ByteArray)) ++ tl)).size : Int) > 10000 ∨ (¬ ((((s.extract 0 (at_ + max 1 (endL l')) ++ (⟨#[32]⟩ : ByteArray)) ++ tl)).size : Int) > 10000 ∧ queuelablaw01_fails.f k ((s.extract 0 (at_ + max 1 (endL l')) ++ (⟨#[32]⟩ : ByteArray)) ++ tl) e (at_ : Int) = some true)) := by
      by_cases hbig : ((((s.extract 0 (at_ + max 1 (endL l')) ++ (⟨#[32]⟩ : ByteArray)) ++ tl)).size : Int) > 10000
      · exact ⟨0, fun k _ => .inl hbig⟩
      · rw [← ho] at hb2
        obtain ⟨K, h4⟩ := fails_ev (by omega) hb2 he0
        exact ⟨K, fun k hk => .inr ⟨hbig, h4 k hk⟩⟩
    obtain ⟨K4, h4⟩ := hF
    have hm : mx (wrap64 ((at_ : Int) + 1)) ((at_ + endL l' : Nat) : Int) = ((at_ + max 1 (endL l') : Nat) : Int) := by
      rw [w64 (by omega) (by omega)]; unfold mx; split <;> omega
    have hcx : (e = 2 ∧ ((ts.map toS).length : Int) = 3000) ∨ e ≠ 2 := by
      rcases hx with ⟨hx1, hx2⟩ | ⟨_, hx2⟩
      · exact .inl ⟨hx2, by rw [List.length_map]; omega⟩
      · have := tokL_err hx2; exact .inr (by omega)
    have hj := fun k (q : K2 + K3 ≤ k) => err_j1 k s tl e (at_ : Int) ((at_ + max 1 (endL l') : Nat) : Int) _ _ (by omega) (by omega) (h2 k (by omega)) (h3 k (by omega)) hm (by omega) (by omega)
      (Nat.le_trans (Nat.add_le_add_right hpts 1) (by decide)) (Nat.le_trans hpts2 (by decide)) hcx
    have hge : decide ((at_ : Int) ≥ (s.size : Int)) = false := decide_eq_false (by omega)
    have hn0 : ¬ (at_ : Int) < 0 := by omega
    clear hm
    refine ⟨K1 + K2 + K3 + K4 + 3, fun k hk => ?_⟩
    obtain ⟨m, rfl⟩ : ∃ m, k = m + 3 := ⟨k - 3, by omega⟩
    show queuelablaw01_LexerErrors.j0 ((m + 2) + 1) s tl true false = _
    simp only [queuelablaw01_LexerErrors.j0]
    rw [if_neg (by simp), h1 (m + 2) (by omega), Option.bind_some, if_neg he0, if_neg hn0, hge]
    refine (hj (m + 1) (by omega)).trans ?_
    exact err_j2 m e (at_ : Int) _ (h4 m (by omega))
end Go.Proofs.YtgkpjfbghjojoaaDoor.Pure
