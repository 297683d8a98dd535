/- Tokens of a source as plain lists of bytes: gaps, one token, a run of tokens, and what may follow a source. -/
namespace Go.Proofs.QLex

/-- the class of a byte: 1 gap, 2 letter, 3 digit, 4 sign, 0 none -/
def cls (c : Nat) : Nat :=
  if c = 32 ∨ c = 9 ∨ c = 10 ∨ c = 35 then 1 else if 97 ≤ c ∧ c ≤ 122 then 2 else if 48 ≤ c ∧ c ≤ 57 then 3 else
  if c = 59 ∨ c = 123 ∨ c = 125 ∨ c = 40 ∨ c = 41 ∨ c = 44 ∨ c = 43 ∨ c = 45 ∨ c = 42 ∨ c = 47 ∨ c = 61 ∨ c = 60 ∨ c = 62 ∨ c = 33 then 4 else 0
theorem cls_one (c : Nat) : cls c = 1 ↔ c = 32 ∨ c = 9 ∨ c = 10 ∨ c = 35 := by
  unfold cls; split <;> simp_all <;> (split <;> simp_all <;> (split <;> simp_all <;> (split <;> simp_all)))
theorem cls_two (c : Nat) : cls c = 2 ↔ 97 ≤ c ∧ c ≤ 122 := by
  unfold cls
  constructor
  · intro h; split at h; · simp at h
    split at h; · assumption
    split at h; · simp at h
    split at h <;> simp at h
  · intro h; rw [if_neg (by omega), if_pos h]
theorem cls_three (c : Nat) : cls c = 3 ↔ 48 ≤ c ∧ c ≤ 57 := by
  unfold cls
  constructor
  · intro h; split at h; · simp at h
    split at h; · simp at h
    split at h; · assumption
    split at h <;> simp at h
  · intro h; rw [if_neg (by omega), if_neg (by omega), if_pos h]

def nameC (c : UInt8) : Bool := decide (cls c.toNat = 2) || decide (cls c.toNat = 3) || decide (c.toNat = 95)
def digC (c : UInt8) : Bool := decide (cls c.toNat = 3)
def decFrom (acc : Nat) (l : List UInt8) : Nat := l.foldl (fun a c => a * 10 + (c.toNat - 48)) acc
def decVal (l : List UInt8) : Nat := decFrom 0 l

/-- how many bytes a gap takes; b: in a comment -/
def gapL : Bool → List UInt8 → Nat
  | _, [] => 0
  | b, c :: r =>
    if c.toNat = 35 then gapL true r + 1
    else if c.toNat = 10 then gapL false r + 1
    else if b = true ∨ c.toNat = 32 ∨ c.toNat = 9 then gapL b r + 1
    else 0
/-- whether a comment is open behind bytes that are all gap -/
def openL : Bool → List UInt8 → Bool
  | b, [] => b
  | b, c :: r => if c.toNat = 35 then openL true r else if c.toNat = 10 then openL false r else openL b r

theorem gapL_le (b : Bool) (l : List UInt8) : gapL b l ≤ l.length := by
  induction l generalizing b with
  | nil => simp [gapL]
  | cons c r ih =>
    simp only [gapL, List.length_cons]
    split
    · have := ih true; omega
    · split
      · have := ih false; omega
      · split
        · have := ih b; omega
        · omega
theorem gapL_stop (b : Bool) (l : List UInt8) : ∀ c r, l.drop (gapL b l) = c :: r → cls c.toNat ≠ 1 := by
  induction l generalizing b with
  | nil => intro c r h; simp at h
  | cons a t ih =>
    intro c r
    simp only [gapL]
    split
    · intro h; exact ih true c r h
    · split
      · intro h; exact ih false c r h
      · split
        · intro h; exact ih b c r h
        · intro h; simp at h; obtain ⟨rfl, rfl⟩ := h; rw [ne_eq, cls_one]; omega
/-- bytes that are all gap, and more behind them -/
theorem gapL_append (b : Bool) (l y : List UInt8) (h : gapL b l = l.length) : gapL b (l ++ y) = l.length + gapL (openL b l) y := by
  induction l generalizing b with
  | nil => simp [openL]
  | cons c r ih =>
    simp only [gapL, List.length_cons, List.cons_append, openL] at h ⊢
    split
    · rename_i h35; rw [if_pos h35] at h; rw [ih true (by omega)]; omega
    · rename_i h35; rw [if_neg h35] at h
      split
      · rename_i h10; rw [if_pos h10] at h; rw [ih false (by omega)]; omega
      · rename_i h10; rw [if_neg h10] at h
        split
        · rename_i hb; rw [if_pos hb] at h; rw [ih b (by omega)]; omega
        · rename_i hb; rw [if_neg hb] at h; omega
theorem gapL_take (b : Bool) (l : List UInt8) : gapL b (l.take (gapL b l)) = gapL b l := by
  induction l generalizing b with
  | nil => simp [gapL]
  | cons c r ih =>
    simp only [gapL]
    split
    · rename_i h; simp only [List.take_succ_cons, gapL]; rw [if_pos h, ih true]
    · rename_i h; split
      · rename_i h2; simp only [List.take_succ_cons, gapL]; rw [if_neg h, if_pos h2, ih false]
      · rename_i h2; split
        · rename_i h3; simp only [List.take_succ_cons, gapL]; rw [if_neg h, if_neg h2, if_pos h3, ih b]
        · simp [gapL]
theorem gapL_zero (c : UInt8) (r : List UInt8) (h : cls c.toNat ≠ 1) : gapL false (c :: r) = 0 := by
  rw [ne_eq, cls_one] at h; simp only [gapL]; rw [if_neg (by omega), if_neg (by omega), if_neg (by simp; omega)]
/-- where a byte that is no gap follows, no comment is open -/
theorem open_take (b : Bool) (l : List UInt8) : ∀ c r, l.drop (gapL b l) = c :: r → openL b (l.take (gapL b l)) = false := by
  induction l generalizing b with
  | nil => intro c r h; simp at h
  | cons a t ih =>
    intro c r
    simp only [gapL]
    split
    · rename_i h1; intro h; simp only [List.take_succ_cons, openL]; rw [if_pos h1]; exact ih true c r h
    · rename_i h1; split
      · rename_i h2; intro h; simp only [List.take_succ_cons, openL]; rw [if_neg h1, if_pos h2]; exact ih false c r h
      · rename_i h2; split
        · rename_i h3; intro h; simp only [List.take_succ_cons, openL]; rw [if_neg h1, if_neg h2]; exact ih b c r h
        · rename_i h3; intro _; simp [openL]; cases b <;> simp_all

/-- what stands at the begin of bytes: kind, text, number, and how many bytes -/
abbrev PT := Int × List UInt8 × Int
def relC (c : Nat) : Bool := decide (c = 60) || decide (c = 62) || decide (c = 61) || decide (c = 33)
def tokL : List UInt8 → Except Int (PT × Nat)
  | [] => .error 7
  | c :: r =>
    if cls c.toNat = 2 then
      if ((c :: r).takeWhile nameC).length ≤ 12 then .ok ((1, (c :: r).takeWhile nameC, 0), ((c :: r).takeWhile nameC).length) else .error 3
    else if cls c.toNat = 3 then
      if 1 < ((c :: r).takeWhile digC).length ∧ c.toNat = 48 then .error 7
      else if decVal ((c :: r).takeWhile digC) ≤ 1000000000 then .ok ((2, [], (decVal ((c :: r).takeWhile digC) : Nat)), ((c :: r).takeWhile digC).length)
      else .error 3
    else if cls c.toNat = 4 then
      if relC c.toNat ∧ r.head?.map (·.toNat) = some 61 then .ok ((3, (c :: r).take 2, 0), 2)
      else if c.toNat = 33 then .error 7
      else .ok ((3, [c], 0), 1)
    else .error 7

theorem tokL_pos {l : List UInt8} {t : PT} {n : Nat} (h : tokL l = .ok (t, n)) : 1 ≤ n ∧ n ≤ l.length := by
  cases l with
  | nil => simp [tokL] at h
  | cons c r =>
    simp only [tokL] at h
    split at h
    · rename_i h2
      split at h
      · simp only [Except.ok.injEq, Prod.mk.injEq] at h
        obtain ⟨_, rfl⟩ := h
        have hn : nameC c = true := by simp [nameC, h2]
        exact ⟨by simp [hn], (List.takeWhile_prefix _).length_le⟩
      · cases h
    · split at h
      · rename_i h3
        split at h
        · cases h
        · split at h
          · simp only [Except.ok.injEq, Prod.mk.injEq] at h
            obtain ⟨_, rfl⟩ := h
            have hn : digC c = true := by simp [digC, h3]
            exact ⟨by simp [hn], (List.takeWhile_prefix _).length_le⟩
          · cases h
      · split at h
        · split at h
          · rename_i hr
            simp only [Except.ok.injEq, Prod.mk.injEq] at h
            obtain ⟨_, rfl⟩ := h
            cases r with
            | nil => simp at hr
            | cons a b => simp
          · split at h
            · cases h
            · simp only [Except.ok.injEq, Prod.mk.injEq] at h
              obtain ⟨_, rfl⟩ := h
              simp
        · cases h

/-- what may stand in the place of d behind a token: nothing, a gap, or what begins as d does -/
def Fits (d y : List UInt8) : Prop := y = [] ∨ (∃ c r, y = c :: r ∧ cls c.toNat = 1) ∨ y.head? = d.head?
theorem takeWhile_take (p : UInt8 → Bool) (x : List UInt8) : x.take (x.takeWhile p).length = x.takeWhile p := by
  induction x with
  | nil => rfl
  | cons c r ih => by_cases h : p c <;> simp [h, ih]
theorem takeWhile_drop (p : UInt8 → Bool) (x : List UInt8) : ∀ c r, x.drop (x.takeWhile p).length = c :: r → p c = false := by
  induction x with
  | nil => intro c r h; simp at h
  | cons a t ih =>
    intro c r h
    by_cases ha : p a
    · simp [ha] at h; exact ih c r h
    · simp [ha] at h; obtain ⟨rfl, rfl⟩ := h; simpa using ha
theorem takeWhile_app (p : UInt8 → Bool) (x y : List UInt8) (h : ∀ c r, y = c :: r → p c = false) : (x.takeWhile p ++ y).takeWhile p = x.takeWhile p := by
  induction x with
  | nil => cases y with
    | nil => rfl
    | cons c r => simp [h c r rfl]
  | cons a t ih => by_cases ha : p a <;> simp [ha, ih]; cases y with
    | nil => rfl
    | cons c r => simp [h c r rfl]
theorem fits_not (p : UInt8 → Bool) (hp : ∀ c : UInt8, cls c.toNat = 1 → p c = false) (x y : List UInt8) (h : Fits (x.drop (x.takeWhile p).length) y) :
    ∀ c r, y = c :: r → p c = false := by
  intro c r hy
  rcases h with h | ⟨c', r', h, h1⟩ | h
  · rw [h] at hy; cases hy
  · rw [h] at hy; cases hy; exact hp _ h1
  · rw [hy] at h
    cases hd : x.drop (x.takeWhile p).length with
    | nil => rw [hd] at h; simp at h
    | cons a b => rw [hd] at h; simp at h; rw [h]; exact takeWhile_drop p x a b hd
theorem nameC_gap (c : UInt8) (h : cls c.toNat = 1) : nameC c = false := by
  have h' := (cls_one _).mp h
  simp [nameC, h]; omega
theorem digC_gap (c : UInt8) (h : cls c.toNat = 1) : digC c = false := by simp [digC, h]

/-- a token is the same whatever stands behind it, if that fits -/
theorem tokL_app {x : List UInt8} {t : PT} {n : Nat} (h : tokL x = .ok (t, n)) (y : List UInt8) (hf : Fits (x.drop n) y) : tokL (x.take n ++ y) = .ok (t, n) := by
  cases x with
  | nil => simp [tokL] at h
  | cons c r =>
    have hpos := tokL_pos h
    have hh := h
    simp only [tokL] at h
    have hcons : ∀ m, 1 ≤ m → ∃ z, (c :: r).take m ++ y = c :: z := by
      intro m hm; cases m with
      | zero => omega
      | succ m => exact ⟨_, rfl⟩
    split at h
    · rename_i h2
      split at h
      · rename_i hl
        simp only [Except.ok.injEq, Prod.mk.injEq] at h
        obtain ⟨rfl, rfl⟩ := h
        rw [takeWhile_take]
        have ht := takeWhile_app nameC (c :: r) y (fits_not nameC nameC_gap _ _ hf)
        obtain ⟨z, hz⟩ := hcons _ hpos.1
        rw [takeWhile_take] at hz
        rw [hz] at ht ⊢
        simp only [tokL]
        rw [if_pos h2, ht, if_pos hl]
      · cases h
    · rename_i h2
      split at h
      · rename_i h3
        split at h
        · cases h
        · rename_i hz0
          split at h
          · rename_i hv
            simp only [Except.ok.injEq, Prod.mk.injEq] at h
            obtain ⟨rfl, rfl⟩ := h
            rw [takeWhile_take]
            have ht := takeWhile_app digC (c :: r) y (fits_not digC digC_gap _ _ hf)
            obtain ⟨z, hz⟩ := hcons _ hpos.1
            rw [takeWhile_take] at hz
            rw [hz] at ht ⊢
            simp only [tokL]
            rw [if_neg h2, if_pos h3, ht, if_neg hz0, if_pos hv]
          · cases h
      · rename_i h3
        split at h
        · rename_i h4
          split at h
          · rename_i hr
            simp only [Except.ok.injEq, Prod.mk.injEq] at h
            obtain ⟨rfl, rfl⟩ := h
            cases r with
            | nil => simp at hr
            | cons a b =>
              simp only [List.take_succ_cons, List.take_zero, List.cons_append, List.nil_append, tokL]
              rw [if_neg h2, if_neg h3, if_pos h4, if_pos (by simpa using hr)]
          · rename_i hr
            split at h
            · cases h
            · rename_i h33
              simp only [Except.ok.injEq, Prod.mk.injEq] at h
              obtain ⟨rfl, rfl⟩ := h
              simp only [List.take_succ_cons, List.take_zero, List.cons_append, List.nil_append, tokL]
              rw [if_neg h2, if_neg h3, if_pos h4, if_neg, if_neg h33]
              intro ⟨hr1, hr2⟩
              rcases hf with hf | ⟨c', r', hf, h1⟩ | hf
              · rw [hf] at hr2; simp at hr2
              · rw [hf] at hr2; simp at hr2; rw [cls_one] at h1; omega
              · simp at hf; rw [hf] at hr2; exact hr ⟨hr1, hr2⟩
        · cases h

/-- tokens ts of bytes l at an offset, and what is left of them, behind a gap -/
inductive Run : Nat → List UInt8 → List (PT × Nat) → Nat → List UInt8 → Prop
  | nil (off : Nat) (l : List UInt8) : Run off l [] (off + gapL false l) (l.drop (gapL false l))
  | cons {off : Nat} {l : List UInt8} {t : PT} {n : Nat} {ts : List (PT × Nat)} {off' : Nat} {l' : List UInt8} (ht : tokL (l.drop (gapL false l)) = .ok (t, n))
      (hr : Run (off + gapL false l + n) ((l.drop (gapL false l)).drop n) ts off' l') : Run off l ((t, off + gapL false l) :: ts) off' l'

theorem Run.suffix {off : Nat} {l : List UInt8} {ts : List (PT × Nat)} {off' : Nat} {l' : List UInt8} (h : Run off l ts off' l') :
    ∃ pre, l = pre ++ l' ∧ off' = off + pre.length := by
  induction h with
  | nil off l => exact ⟨l.take (gapL false l), by simp, by simp; have := gapL_le false l; omega⟩
  | @cons off l t n ts off' l' ht hr ih =>
    obtain ⟨pre, h1, h2⟩ := ih
    have hp := tokL_pos ht
    refine ⟨l.take (gapL false l) ++ (l.drop (gapL false l)).take n ++ pre, ?_, ?_⟩
    · rw [List.append_assoc, List.append_assoc, ← h1, List.take_append_drop, List.take_append_drop]
    · have := gapL_le false l; simp at hp ⊢; omega
theorem Run.head {off : Nat} {l : List UInt8} {ts : List (PT × Nat)} {off' : Nat} {l' : List UInt8} (h : Run off l ts off' l') :
    ∀ c r, l' = c :: r → cls c.toNat ≠ 1 := by
  induction h with
  | nil off l => exact gapL_stop false l
  | cons ht hr ih => exact ih

/-- whatever fits may stand behind the tokens; b: whether a comment is open there -/
theorem Run.app {off : Nat} {l : List UInt8} {ts : List (PT × Nat)} {off' : Nat} {l' : List UInt8} (h : Run off l ts off' l') :
    ∀ pre, l = pre ++ l' → off' = off + pre.length → ∃ b, (l' ≠ [] → b = false) ∧ ∀ y, Fits l' y → Run off (pre ++ y) ts (off' + gapL b y) (y.drop (gapL b y)) := by
  induction h with
  | nil off l =>
    intro pre hp ho
    have hg := gapL_le false l
    have hpre : pre = l.take (gapL false l) := by
      have h1 : pre.length = gapL false l := by omega
      have h2 : pre = (pre ++ l.drop (gapL false l)).take pre.length := by simp
      rw [h2, ← hp, h1]
    have hl : pre.length = gapL false l := by omega
    refine ⟨openL false pre, ?_, ?_⟩
    · intro hne
      cases hd : l.drop (gapL false l) with
      | nil => exact absurd hd hne
      | cons c r => rw [hpre]; exact open_take false l c r hd
    · intro y _
      have h1 : gapL false pre = pre.length := by rw [hl, hpre]; exact gapL_take false l
      have h2 := gapL_append false pre y h1
      have h3 := Run.nil off (pre ++ y)
      rw [h2] at h3
      rw [← hl]
      have e1 : (pre ++ y).drop (pre.length + gapL (openL false pre) y) = y.drop (gapL (openL false pre) y) := by
        rw [← List.drop_drop, List.drop_left]
      rw [e1, ← Nat.add_assoc] at h3
      exact h3
  | @cons off l t n ts off' l' ht hr ih =>
    intro pre hp ho
    have hpos := tokL_pos ht
    have hg := gapL_le false l
    obtain ⟨pre2, h1, h2⟩ := hr.suffix
    have hlen : pre.length = gapL false l + n + pre2.length := by omega
    have hpe : pre = l.take (gapL false l) ++ (l.drop (gapL false l)).take n ++ pre2 := by
      have e : l = (l.take (gapL false l) ++ (l.drop (gapL false l)).take n ++ pre2) ++ l' := by
        rw [List.append_assoc, List.append_assoc, ← h1, List.take_append_drop, List.take_append_drop]
      exact List.append_cancel_right (hp.symm.trans e)
    obtain ⟨b, hb, hy⟩ := ih pre2 h1 h2
    refine ⟨b, hb, fun y hf => ?_⟩
    have hr2 := hy y hf
    -- the gap and the token stand as before
    have hx : ∃ c r, (l.drop (gapL false l)).take n ++ (pre2 ++ y) = c :: r ∧ cls c.toNat ≠ 1 := by
      cases hd : l.drop (gapL false l) with
      | nil => rw [hd] at hpos; simp at hpos; omega
      | cons c r =>
        refine ⟨c, r.take (n - 1) ++ (pre2 ++ y), ?_, gapL_stop false l c r hd⟩
        obtain ⟨m, rfl⟩ : ∃ m, n = m + 1 := ⟨n - 1, by omega⟩
        simp
    obtain ⟨c, r, hx1, hx2⟩ := hx
    have hl : pre ++ y = l.take (gapL false l) ++ (c :: r) := by rw [hpe, ← hx1]; simp
    have htk : (l.take (gapL false l)).length = gapL false l := by simp; omega
    have hop : openL false (l.take (gapL false l)) = false := by
      cases hd : l.drop (gapL false l) with
      | nil => rw [hd] at hpos; simp at hpos; omega
      | cons c r => exact open_take false l c r hd
    have hgap : gapL false (pre ++ y) = gapL false l := by
      rw [hl, gapL_append false _ _ (by rw [htk]; exact gapL_take false l), htk, hop, gapL_zero c r hx2]; omega
    have hdrop : (pre ++ y).drop (gapL false (pre ++ y)) = (l.drop (gapL false l)).take n ++ (pre2 ++ y) := by
      rw [hgap, hl, ← hx1]
      have := List.drop_left (l₁ := l.take (gapL false l)) (l₂ := (l.drop (gapL false l)).take n ++ (pre2 ++ y))
      rw [htk] at this; exact this
    have hfit : Fits ((l.drop (gapL false l)).drop n) (pre2 ++ y) := by
      rw [h1]
      cases pre2 with
      | nil => simpa using hf
      | cons a b => right; right; simp
    have htok := tokL_app ht (pre2 ++ y) hfit
    have hn : ((l.drop (gapL false l)).take n).length = n := by simp at hpos ⊢; omega
    have := Run.cons (off := off) (l := pre ++ y) (t := t) (n := n) (ts := ts) (off' := off' + gapL b y) (l' := y.drop (gapL b y)) (by rw [hdrop]; exact htok) (by
      rw [hdrop, hgap]
      have e := List.drop_left (l₁ := (l.drop (gapL false l)).take n) (l₂ := pre2 ++ y)
      rw [hn] at e; rw [e]; exact hr2)
    rw [hgap] at this
    exact this
end Go.Proofs.QLex
