import Derived.Test.YtgkpjfbghjojoaaDoorQ
/- More on runs of tokens: how they end, how they join and shift; where a token ends; the decimal text of a number. -/
namespace Go.Proofs.QLex

theorem ok_or_bad_from : ∀ (m : Nat) (l : List UInt8), l.length ≤ m → ∀ (off c : Nat), c ≤ 3000 →
    (∃ ts off', Run off l ts off' [] ∧ c + ts.length ≤ 3000) ∨
    ∃ ts e at_ l', Run off l ts at_ l' ∧ l' ≠ [] ∧ ((c + ts.length = 3000 ∧ e = 2) ∨ (c + ts.length < 3000 ∧ tokL l' = .error e)) := by
  intro m
  induction m with
  | zero =>
    intro l hl off c hc
    obtain rfl : l = [] := List.length_eq_zero_iff.mp (by omega)
    exact .inl ⟨[], off + 0, Run.nil off [], by simpa using hc⟩
  | succ m ih =>
    intro l hl off c hc
    cases hd : l.drop (gapL false l) with
    | nil => exact .inl ⟨[], off + gapL false l, by have := Run.nil off l; rw [hd] at this; exact this, by simpa using hc⟩
    | cons a b =>
      by_cases h3 : c = 3000
      · exact .inr ⟨[], 2, _, _, Run.nil off l, by rw [hd]; simp, .inl ⟨by simpa using h3, rfl⟩⟩
      · cases ht : tokL (l.drop (gapL false l)) with
        | error e => exact .inr ⟨[], e, _, _, Run.nil off l, by rw [hd]; simp, .inr ⟨by simp; omega, ht⟩⟩
        | ok tn =>
          obtain ⟨t, n⟩ := tn
          have hp := tokL_pos ht
          have hlen : ((l.drop (gapL false l)).drop n).length ≤ m := by
            have := hp.1; have h2 := hp.2; simp at h2 ⊢; omega
          rcases ih _ hlen (off + gapL false l + n) (c + 1) (by omega) with ⟨ts, off', hr, hc'⟩ | ⟨ts, e, at_, l', hr, hne, hx⟩
          · exact .inl ⟨_, off', Run.cons ht hr, by simp; omega⟩
          · refine .inr ⟨_, e, at_, l', Run.cons ht hr, hne, ?_⟩
            rcases hx with ⟨h1, h2⟩ | ⟨h1, h2⟩
            · exact .inl ⟨by simp; omega, h2⟩
            · exact .inr ⟨by simp; omega, h2⟩

theorem tokL_err {l : List UInt8} {e : Int} (h : tokL l = .error e) : e = 3 ∨ e = 7 := by
  cases l with
  | nil => simp [tokL] at h; exact .inr h.symm
  | cons c r =>
    simp only [tokL] at h
    repeat' (split at h)
    all_goals first | (cases h; done) | (simp only [Except.error.injEq] at h; omega)

/-- one run behind another -/
theorem Run.join {off : Nat} {l : List UInt8} {ts : List (PT × Nat)} {o1 : Nat} {l1 : List UInt8} (h : Run off l ts o1 l1) :
    ∀ {oy : Nat} {y : List UInt8} {ts2 : List (PT × Nat)} {o2 : Nat} {l2 : List UInt8}, o1 = oy + gapL false y → l1 = y.drop (gapL false y) → Run oy y ts2 o2 l2 → Run off l (ts ++ ts2) o2 l2 := by
  induction h with
  | nil off l =>
    intro oy y ts2 o2 l2 h1 h2 hy
    cases hy with
    | nil => rw [← h1, ← h2]; exact Run.nil off l
    | cons ht hr => rw [← h1]; rw [← h2] at ht hr; rw [← h1] at hr; exact Run.cons ht hr
  | cons ht hr ih => intro oy y ts2 o2 l2 h1 h2 hy; exact Run.cons ht (ih h1 h2 hy)
def sh (d : Nat) (p : PT × Nat) : PT × Nat := (p.1, p.2 + d)
theorem Run.shift (d : Nat) {off : Nat} {l : List UInt8} {ts : List (PT × Nat)} {off' : Nat} {l' : List UInt8} (h : Run off l ts off' l') :
    Run (off + d) l (ts.map (sh d)) (off' + d) l' := by
  induction h with
  | nil off l => have := Run.nil (off + d) l; rw [Nat.add_right_comm] at this; exact this
  | @cons off l t n ts off' l' ht hr ih =>
    have e : off + gapL false l + n + d = off + d + gapL false l + n := by omega
    rw [e] at ih
    have := Run.cons (off := off + d) ht ih
    simp only [List.map_cons, sh]
    rw [show off + gapL false l + d = off + d + gapL false l by omega]
    exact this
/-- what the offsets of a run's tokens are at most -/
theorem Run.bound {off : Nat} {l : List UInt8} {ts : List (PT × Nat)} {off' : Nat} {l' : List UInt8} (h : Run off l ts off' l') : ∀ p ∈ ts, off ≤ p.2 ∧ p.2 < off' := by
  induction h with
  | nil off l => intro p hp; simp at hp
  | @cons off l t n ts off' l' ht hr ih =>
    intro p hp
    have hpos := tokL_pos ht
    obtain ⟨pre, h1, h2⟩ := hr.suffix
    rcases List.mem_cons.mp hp with rfl | hp
    · simp; omega
    · have := ih p hp; omega

/-- where the token at the begin of bytes ends, if one begins there -/
def endL : List UInt8 → Nat
  | [] => 0
  | c :: r =>
    if cls c.toNat = 2 then ((c :: r).takeWhile nameC).length
    else if cls c.toNat = 3 then ((c :: r).takeWhile digC).length
    else if cls c.toNat = 4 then if relC c.toNat ∧ r.head?.map (·.toNat) = some 61 then 2 else if c.toNat = 33 then 0 else 1
    else 0
theorem endL_ok {l : List UInt8} {t : PT} {n : Nat} (h : tokL l = .ok (t, n)) : endL l = n := by
  cases l with
  | nil => simp [tokL] at h
  | cons c r =>
    simp only [tokL] at h
    simp only [endL]
    repeat' (split at h)
    all_goals first
      | (cases h; done)
      | (simp only [Except.ok.injEq, Prod.mk.injEq] at h; obtain ⟨_, rfl⟩ := h; simp_all)
theorem endL_le (l : List UInt8) : endL l ≤ l.length := by
  cases l with
  | nil => simp [endL]
  | cons c r =>
    simp only [endL]
    split
    · exact (List.takeWhile_prefix _).length_le
    · split
      · exact (List.takeWhile_prefix _).length_le
      · split
        · split
          · rename_i h; cases r with
            | nil => simp at h
            | cons a b => simp
          · split <;> simp
        · simp
/-- an error is the same with other bytes behind the wrong token, if they begin with a gap -/
theorem tokL_err_app {l : List UInt8} {e : Int} (h : tokL l = .error e) (hne : l ≠ []) (y : List UInt8) (hy : ∃ c r, y = c :: r ∧ cls c.toNat = 1) :
    tokL (l.take (max 1 (endL l)) ++ y) = .error e := by
  obtain ⟨g, q, rfl, hg⟩ := hy
  cases l with
  | nil => exact absurd rfl hne
  | cons c r =>
    simp only [tokL] at h
    have hcons : ∀ m, 1 ≤ m → ∃ z, (c :: r).take m ++ (g :: q) = c :: z := by
      intro m hm; cases m with
      | zero => omega
      | succ m => exact ⟨_, rfl⟩
    have hw : ∀ p : UInt8 → Bool, (∀ c : UInt8, cls c.toNat = 1 → p c = false) → ((c :: r).takeWhile p ++ (g :: q)).takeWhile p = (c :: r).takeWhile p := fun p hp =>
      takeWhile_app p _ _ (fun a b hab => by cases hab; exact hp _ hg)
    split at h
    · rename_i h2
      split at h
      · cases h
      · rename_i hl
        have he : endL (c :: r) = ((c :: r).takeWhile nameC).length := by simp only [endL]; rw [if_pos h2]
        have hm : max 1 (endL (c :: r)) = ((c :: r).takeWhile nameC).length := by rw [he]; omega
        have ht := hw nameC nameC_gap
        obtain ⟨z, hz⟩ := hcons (((c :: r).takeWhile nameC).length) (by omega)
        rw [hm, takeWhile_take]
        rw [takeWhile_take] at hz
        rw [hz] at ht ⊢
        simp only [tokL]
        rw [if_pos h2, ht, if_neg hl]
        exact h
    · rename_i h2
      split at h
      · rename_i h3
        have hd : digC c = true := by simp [digC, h3]
        have hpos : 1 ≤ ((c :: r).takeWhile digC).length := by simp [hd]
        have he : endL (c :: r) = ((c :: r).takeWhile digC).length := by simp only [endL]; rw [if_neg h2, if_pos h3]
        have hm : max 1 (endL (c :: r)) = ((c :: r).takeWhile digC).length := by rw [he]; omega
        have ht := hw digC digC_gap
        obtain ⟨z, hz⟩ := hcons (((c :: r).takeWhile digC).length) hpos
        rw [hm, takeWhile_take]
        rw [takeWhile_take] at hz
        rw [hz] at ht ⊢
        simp only [tokL]
        rw [if_neg h2, if_pos h3, ht]
        exact h
      · rename_i h3
        split at h
        · rename_i h4
          split at h
          · cases h
          · rename_i hr
            split at h
            · rename_i h33
              have he : endL (c :: r) = 0 := by simp only [endL]; rw [if_neg h2, if_neg h3, if_pos h4, if_neg hr, if_pos h33]
              rw [he]
              simp only [Nat.max_zero, List.take_succ_cons, List.take_zero, List.cons_append, List.nil_append, tokL]
              rw [if_neg h2, if_neg h3, if_pos h4, if_neg, if_pos h33]
              · exact h
              · rintro ⟨_, h61⟩; simp at h61; rw [cls_one] at hg; omega
            · cases h
        · rename_i h4
          have he : endL (c :: r) = 0 := by simp only [endL]; rw [if_neg h2, if_neg h3, if_neg h4]
          rw [he]
          simp only [Nat.max_zero, List.take_succ_cons, List.take_zero, List.cons_append, List.nil_append, tokL]
          rw [if_neg h2, if_neg h3, if_neg h4]
          exact h

/-- the decimal text of a number -/
def dec (n : Nat) : List UInt8 := if h : n < 10 then [UInt8.ofNat (48 + n)] else dec (n / 10) ++ [UInt8.ofNat (48 + n % 10)]
theorem decVal_snoc (d : List UInt8) (c : UInt8) : decVal (d ++ [c]) = decVal d * 10 + (c.toNat - 48) := by simp [decVal, decFrom, List.foldl_append]
theorem decFrom_ge (l : List UInt8) : ∀ acc, acc ≤ decFrom acc l := by
  induction l with
  | nil => intro acc; exact Nat.le_refl _
  | cons c r ih => intro acc; have := ih (acc * 10 + (c.toNat - 48)); simp only [decFrom, List.foldl_cons] at this ⊢; omega
theorem decVal_pos (c : UInt8) (r : List UInt8) (h : 48 < c.toNat) : 1 ≤ decVal (c :: r) := by
  have := decFrom_ge r (0 * 10 + (c.toNat - 48))
  have e : decVal (c :: r) = decFrom (0 * 10 + (c.toNat - 48)) r := rfl
  omega
theorem dec_decVal : ∀ (m : Nat) (d : List UInt8), d.length ≤ m → d ≠ [] → (∀ c ∈ d, 48 ≤ c.toNat ∧ c.toNat ≤ 57) → (d.length = 1 ∨ ∀ c r, d = c :: r → c.toNat ≠ 48) → dec (decVal d) = d := by
  intro m
  induction m with
  | zero => intro d hl hne; exact absurd (List.length_eq_zero_iff.mp (by omega)) hne
  | succ m ih =>
    intro d hl hne hd hz
    obtain ⟨e, c, rfl⟩ : ∃ e c, d = e ++ [c] := ⟨d.dropLast, d.getLast hne, (List.dropLast_concat_getLast hne).symm⟩
    have hc := hd c (by simp)
    have hb : UInt8.ofNat (48 + (c.toNat - 48)) = c := by
      rw [show 48 + (c.toNat - 48) = c.toNat by omega]; simp
    rw [decVal_snoc]
    by_cases he : e = []
    · subst he
      have h0 : decVal [] = 0 := rfl
      rw [h0, dec, dif_pos (by omega)]
      simp only [Nat.zero_mul, Nat.zero_add, List.nil_append]
      rw [hb]
    · have hlen : e.length ≤ m := by simp at hl; omega
      obtain ⟨a, r, rfl⟩ : ∃ a r, e = a :: r := by cases e with
        | nil => exact absurd rfl he
        | cons a r => exact ⟨a, r, rfl⟩
      have hz' : ∀ c' r', a :: r ++ [c] = c' :: r' → c'.toNat ≠ 48 := by
        rcases hz with h | h
        · simp at h
        · exact h
      have ha := hd a (by simp)
      have ha48 := hz' a (r ++ [c]) rfl
      have hp := decVal_pos a r (by omega)
      have ih' := ih (a :: r) hlen he (fun c' h' => hd c' (by simp at h' ⊢; rcases h' with h' | h' <;> simp [h'])) (.inr (fun c' r' h' => by cases h'; exact ha48))
      rw [dec, dif_neg (by omega)]
      rw [show (decVal (a :: r) * 10 + (c.toNat - 48)) / 10 = decVal (a :: r) by omega, show (decVal (a :: r) * 10 + (c.toNat - 48)) % 10 = c.toNat - 48 by omega, ih', hb]
/-- the text of a token is what stands there -/
def textP (t : PT) : List UInt8 := if t.1 = 2 then dec t.2.2.toNat else t.2.1
theorem tokL_text {l : List UInt8} {t : PT} {n : Nat} (h : tokL l = .ok (t, n)) : textP t = l.take n := by
  cases l with
  | nil => simp [tokL] at h
  | cons c r =>
    simp only [tokL] at h
    split at h
    · split at h
      · simp only [Except.ok.injEq, Prod.mk.injEq] at h
        obtain ⟨rfl, rfl⟩ := h
        rw [takeWhile_take]; simp [textP]
      · cases h
    · split at h
      · rename_i h3
        split at h
        · cases h
        · rename_i hz
          split at h
          · simp only [Except.ok.injEq, Prod.mk.injEq] at h
            obtain ⟨rfl, rfl⟩ := h
            rw [takeWhile_take]
            simp only [textP]
            rw [if_pos trivial]
            have hd : digC c = true := by simp [digC, h3]
            refine dec_decVal _ _ (Nat.le_refl _) (by simp [hd]) ?_ ?_
            · intro a ha
              have hall := List.all_takeWhile (p := digC) (l := c :: r)
              have := List.all_eq_true.mp hall a ha
              simp only [digC, decide_eq_true_eq] at this
              exact (cls_three _).mp this
            · by_cases h1 : ((c :: r).takeWhile digC).length = 1
              · exact .inl h1
              · refine .inr fun c' r' hc => ?_
                have hpos : 1 ≤ ((c :: r).takeWhile digC).length := by simp [hd]
                have : c' = c := by simp [hd] at hc; exact hc.1.symm
                rw [this]
                intro h48; exact hz ⟨by omega, h48⟩
          · cases h
      · split at h
        · split at h
          · simp only [Except.ok.injEq, Prod.mk.injEq] at h
            obtain ⟨rfl, rfl⟩ := h
            simp [textP]
          · split at h
            · cases h
            · simp only [Except.ok.injEq, Prod.mk.injEq] at h
              obtain ⟨rfl, rfl⟩ := h
              simp [textP]
        · cases h
end Go.Proofs.QLex
