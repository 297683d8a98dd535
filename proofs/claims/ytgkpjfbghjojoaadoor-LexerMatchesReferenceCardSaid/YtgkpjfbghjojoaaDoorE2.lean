import Derived.Test.YtgkpjfbghjojoaaDoorE
namespace Go.Proofs.YtgkpjfbghjojoaaDoor.L
open Go.RowKit Go.Proofs.YtgkpjfbghjojoaaDoorW.PrintWords Go.Proofs.YtgkpjfbghjojoaaDoorW.PrintLast Go.Proofs.YtgkpjfbghjojoaaDoorW.PrintMore
open QLex
set_option linter.unusedVariables false
set_option linter.unusedSimpArgs false
theorem run_cut (ts1 : List (PT × Nat)) : ∀ {off : Nat} {l : List UInt8} {p : PT × Nat} {ts2 : List (PT × Nat)} {off' : Nat} {l' : List UInt8}, Run off l (ts1 ++ p :: ts2) off' l' → ∃ l1, Run off l ts1 p.2 l1 ∧ l1 ≠ [] := by
  induction ts1 with
  | nil =>
    intro off l p ts2 off' l' h
    cases h with
    | cons ht hr => exact ⟨_, Run.nil _ _, tok_ne ht⟩
  | cons q ts1 ih =>
    intro off l p ts2 off' l' h
    cases h with
    | cons ht hr =>
      obtain ⟨l1, h1, h2⟩ := ih hr
      exact ⟨l1, Run.cons ht h1, h2⟩
theorem join_run {a b : List UInt8} {ts us : List (PT × Nat)} {oa ob : Nat} (ha : Run 0 a ts oa []) (hb : Run 0 b us ob []) :
    Run 0 (a ++ 10 :: b) (ts ++ us.map (sh (a.length + 1))) (ob + (a.length + 1)) [] := by
  obtain ⟨pre, h1, h2⟩ := ha.suffix
  have hp : pre = a := by rw [h1]; simp
  subst hp
  obtain ⟨c, _, hy⟩ := ha.app pre (by simp) h2
  have h3 := hy (10 :: b) (.inr (.inl ⟨10, b, rfl, by decide⟩))
  have hg : gapL c (10 :: b) = gapL false b + 1 := by
    simp only [gapL]; rw [if_neg (by decide), if_pos (by decide)]
  have h4 := hb.shift (pre.length + 1)
  refine h3.join (y := b) ?_ ?_ (by simpa using h4)
  · rw [hg, h2]; omega
  · rw [hg, List.drop_succ_cons]
theorem err_ne {ts : List (PT × Nat)} {e : Int} {l' : List UInt8} (hx : (0 + ts.length = 3000 ∧ e = 2) ∨ (0 + ts.length < 3000 ∧ tokL l' = .error e)) : e ≠ 0 := by
  rcases hx with ⟨_, rfl⟩ | ⟨_, h⟩
  · omega
  · have := tokL_err h; omega
theorem run_end {s : ByteArray} {ts : List (PT × Nat)} {o : Nat} (h : Run 0 (bl s) ts o []) : o = s.size := by
  obtain ⟨pre, h1, h2⟩ := h.suffix
  have h3 : (bl s).length = pre.length := by rw [h1]; simp
  rw [bl_len] at h3; omega
theorem run_lt {s : ByteArray} {ts : List (PT × Nat)} {o : Nat} {l' : List UInt8} (h : Run 0 (bl s) ts o l') : ∀ p ∈ ts, p.2 < s.size := by
  intro p hp
  have h0 := h.bound p hp
  obtain ⟨pre, h1, h2⟩ := h.suffix
  have h3 : (bl s).length = pre.length + l'.length := by rw [h1]; simp
  rw [bl_len] at h3; omega
/-- every source is one or the other -/
theorem lex_cases (s : ByteArray) (hs : s.size ≤ 10000) :
    (∃ ts, Run 0 (bl s) ts s.size [] ∧ ts.length ≤ 3000 ∧ Ev (fun k => lexer_Lex.f k s) (ts.map toS, 0, 0)) ∨
    ∃ ts e at_ l', Bad (bl s) ts e at_ l' ∧ (e = 2 ∨ e = 3 ∨ e = 7) ∧ Ev (fun k => lexer_Lex.f k s) ([], e, (at_ : Int)) := by
  rcases ok_or_bad_from (bl s).length (bl s) (Nat.le_refl _) 0 0 (by omega) with ⟨ts, o, hr, hc⟩ | ⟨ts, e, at_, l', hr, hne, hx⟩
  · refine .inl ⟨ts, ?_, by omega, Lex_good hs ⟨o, hr, by omega⟩⟩
    have := run_end hr; rw [this] at hr; exact hr
  · have hb : Bad (bl s) ts e at_ l' := ⟨hr, hne, by simpa using hx⟩
    refine .inr ⟨ts, e, at_, l', hb, ?_, Lex_bad hs hb (err_ne hx)⟩
    rcases hx with ⟨_, rfl⟩ | ⟨_, h⟩
    · exact .inl rfl
    · exact .inr (tokL_err h)
end Go.Proofs.YtgkpjfbghjojoaaDoor.L
