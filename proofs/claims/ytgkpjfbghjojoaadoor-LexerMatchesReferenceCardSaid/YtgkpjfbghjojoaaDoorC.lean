import Derived.Test.YtgkpjfbghjojoaaDoorQ2
import Derived.Test.YtgkpjfbghjojoaaDoorB
import Derived.Test.YtgkpjfbghjojoaaDoorL3
import Derived.Test.YtgkpjfbghjojoaaDoorL5
import Derived.Test.YtgkpjfbghjojoaaDoorL8
namespace Go.Proofs.YtgkpjfbghjojoaaDoor.L
open Go.RowKit Go.Proofs.YtgkpjfbghjojoaaDoorW.PrintWords Go.Proofs.YtgkpjfbghjojoaaDoorW.PrintLast Go.Proofs.YtgkpjfbghjojoaaDoorW.PrintMore
open QLex
set_option linter.unusedVariables false
set_option linter.unusedSimpArgs false

theorem w64 {n : Int} (h0 : -9223372036854775808 ≤ n) (h1 : n < 9223372036854775808) : wrap64 n = n := by unfold wrap64; omega
theorem rd_get (xs : List S31) (i : Nat) (h : i < xs.length) : rd_T31 xs (i : Int) = xs[i] := by
  simp [rd_T31, List.getD_eq_getElem?_getD, h]
/-- R.Same, where all is equal -/
theorem Same_go (a b : List S31) (d : Int) (hl : a.length = b.length) (hn : a.length ≤ 1000000)
    (h : ∀ i (h : i < a.length) (h' : i < b.length), a[i].f0 = b[i].f0 ∧ a[i].f1 = b[i].f1 ∧ a[i].f2 = b[i].f2 ∧ wrap64 (a[i].f3 + d) = b[i].f3) :
    ∀ m i, i + m = a.length → Ev (fun k => queuelabref01_Same.l0 k a b d (i : Int)) true := by
  intro m
  induction m with
  | zero =>
    intro i hi
    refine Ev.step (f := fun _ => some true) (fun k => ?_) (Ev.now true)
    simp only [queuelabref01_Same.l0]
    rw [if_neg (by omega)]
  | succ m ih =>
    intro i hi
    have h1 : i < a.length := by omega
    have h2 : i < b.length := by omega
    obtain ⟨e0, e1, e2, e3⟩ := h i h1 h2
    refine Ev.step (f := fun k => queuelabref01_Same.j1 k a b d (i : Int) false) (fun k => ?_) ?_
    · simp only [queuelabref01_Same.l0]
      rw [if_pos (by omega), if_pos (by omega), if_pos (by omega), rd_get a i h1, rd_get b i h2, if_pos e0, if_pos (by rw [e1]), if_pos e2, e3]
      simp
    · refine Ev.step (f := fun k => queuelabref01_Same.l0 k a b d ((i + 1 : Nat) : Int)) (fun k => ?_) (ih (i + 1) (by omega))
      simp only [queuelabref01_Same.j1]
      rw [if_neg (by simp), w64 (by omega) (by omega)]
      rfl
theorem Same_ev (a b : List S31) (d : Int) (hl : a.length = b.length) (hn : a.length ≤ 1000000)
    (h : ∀ i (h : i < a.length) (h' : i < b.length), a[i].f0 = b[i].f0 ∧ a[i].f1 = b[i].f1 ∧ a[i].f2 = b[i].f2 ∧ wrap64 (a[i].f3 + d) = b[i].f3) :
    Ev (fun k => queuelabref01_Same.f k a b d) true := by
  refine Ev.congr (f := fun k => queuelabref01_Same.l0 k a b d ((0 : Nat) : Int)) (fun k => ?_) (Same_go a b d hl hn h a.length 0 (by omega))
  unfold queuelabref01_Same.f
  rw [if_pos (by omega)]; rfl
theorem Same_shift (ts : List (PT × Nat)) (d : Nat) (hn : ts.length ≤ 1000000) (hb : ∀ p ∈ ts, p.2 ≤ 1000000000000) (hd : d ≤ 1000000000000) :
    Ev (fun k => queuelabref01_Same.f k (ts.map toS) ((ts.map (sh d)).map toS) (d : Int)) true := by
  refine Same_ev _ _ _ (by simp) (by simpa using hn) ?_
  intro i h h'
  simp at h
  have := hb ts[i] (List.getElem_mem h)
  simp [toS, sh]
  rw [w64 (by omega) (by omega)]
theorem Same_self (ts : List (PT × Nat)) (hn : ts.length ≤ 1000000) (hb : ∀ p ∈ ts, p.2 ≤ 1000000000000) :
    Ev (fun k => queuelabref01_Same.f k (ts.map toS) (ts.map toS) 0) true := by
  have h := Same_shift ts 0 hn hb (by omega)
  have e : ts.map (sh 0) = ts := by
    have : (sh 0) = id := by funext p; rfl
    rw [this]; simp
  rw [e] at h; exact h
/-- R.Alike, where all but offsets is equal -/
theorem Alike_go (a b : List S31) (hl : a.length = b.length) (hn : a.length ≤ 1000000)
    (h : ∀ i (h : i < a.length) (h' : i < b.length), a[i].f0 = b[i].f0 ∧ a[i].f1 = b[i].f1 ∧ a[i].f2 = b[i].f2) :
    ∀ m i, i + m = a.length → Ev (fun k => queuelabref01_Alike.l0 k a b (i : Int)) true := by
  intro m
  induction m with
  | zero =>
    intro i hi
    refine Ev.step (f := fun _ => some true) (fun k => ?_) (Ev.now true)
    simp only [queuelabref01_Alike.l0]
    rw [if_neg (by omega)]
  | succ m ih =>
    intro i hi
    have h1 : i < a.length := by omega
    have h2 : i < b.length := by omega
    obtain ⟨e0, e1, e2⟩ := h i h1 h2
    refine Ev.step (f := fun k => queuelabref01_Alike.j1 k a b (i : Int) false) (fun k => ?_) ?_
    · simp only [queuelabref01_Alike.l0]
      rw [if_pos (by omega), if_pos (by omega), if_pos (by omega), rd_get a i h1, rd_get b i h2, if_pos e0, if_pos (by rw [e1]), e2]
      simp
    · refine Ev.step (f := fun k => queuelabref01_Alike.l0 k a b ((i + 1 : Nat) : Int)) (fun k => ?_) (ih (i + 1) (by omega))
      simp only [queuelabref01_Alike.j1]
      rw [if_neg (by simp), w64 (by omega) (by omega)]
      rfl
theorem Alike_ev (ts us : List (PT × Nat)) (hn : ts.length ≤ 1000000) (h : ts.map (·.1) = us.map (·.1)) :
    Ev (fun k => queuelabref01_Alike.f k (ts.map toS) (us.map toS)) true := by
  have hl : ts.length = us.length := by have := congrArg List.length h; simpa using this
  refine Ev.congr (f := fun k => queuelabref01_Alike.l0 k (ts.map toS) (us.map toS) ((0 : Nat) : Int)) (fun k => ?_) (Alike_go _ _ (by simpa using hl) (by simpa using hn) ?_ (ts.map toS).length 0 (by omega))
  · unfold queuelabref01_Alike.f
    rw [if_pos (by simp [hl])]; rfl
  · intro i h1 h2
    simp at h1 h2
    have he : ts[i].1 = us[i].1 := by
      have h3 : (ts.map (·.1))[i]'(by simpa using h1) = (us.map (·.1))[i]'(by simpa using h2) := by simp only [h]
      simpa using h3
    simp [toS, he]

theorem bt_get (s : ByteArray) (i : Nat) (h : i < s.size) : bt s (i : Int) = (s[i].toNat : Int) := by simp [bt, h]
/-- R.Gap -/
theorem Gap_go (s : ByteArray) (hs : s.size ≤ 1000000000000) : ∀ m i, i + m = s.size → ∀ b, Ev (fun k => queuelabref01_Gap.l0 k s (i : Int) b) ((i + gapL b ((bl s).drop i) : Nat) : Int) := by
  intro m
  induction m with
  | zero =>
    intro i hi b
    refine Ev.step (f := fun _ => some ((i + gapL b ((bl s).drop i) : Nat) : Int)) (fun k => ?_) (Ev.now _)
    simp only [queuelabref01_Gap.l0]
    rw [if_neg (by omega), List.drop_eq_nil_of_le (by rw [bl_len]; omega)]; rfl
  | succ m ih =>
    intro i hi b
    have hlt : i < s.size := by omega
    have hg := bl_get s i hlt
    have hw : wrap64 ((i : Int) + 1) = ((i + 1 : Nat) : Int) := by rw [w64 (by omega) (by omega)]; rfl
    rw [hg]
    have h256 : s[i].toNat < 256 := s[i].toNat_lt
    -- the four steps of one round, with the comment's state behind each
    have step : ∀ b' x r, (∀ k, queuelabref01_Gap.j2 (k + 1) s (i : Int) b' (s[i].toNat : Int) = queuelabref01_Gap.j3 k s (i : Int) b' x) →
        (x = true → r = ((i : Nat) : Int)) → (x = false → r = ((i + 1 + gapL b' ((bl s).drop (i + 1)) : Nat) : Int)) →
        Ev (fun k => queuelabref01_Gap.j2 k s (i : Int) b' (s[i].toNat : Int)) r := by
      intro b' x r h1 h2 h3
      refine Ev.step h1 ?_
      cases x with
      | true =>
        refine Ev.step (f := fun _ => some r) (fun k => ?_) (Ev.now _)
        simp only [queuelabref01_Gap.j3]; rw [if_pos trivial, h2 rfl]
      | false =>
        refine Ev.step (f := fun k => queuelabref01_Gap.l0 k s ((i + 1 : Nat) : Int) b') (fun k => ?_) ?_
        · simp only [queuelabref01_Gap.j3]; rw [if_neg (by simp), hw]
        · rw [h3 rfl]; exact ih (i + 1) (by omega) b'
    have first : ∀ b', (s[i].toNat = 35 → b' = true) → (s[i].toNat ≠ 35 → b' = b) → ∀ r, Ev (fun k => queuelabref01_Gap.j1 k s (i : Int) b' (s[i].toNat : Int)) r → Ev (fun k => queuelabref01_Gap.l0 k s (i : Int) b) r := by
      intro b' h1 h2 r hr
      refine Ev.step (fun k => ?_) hr
      simp only [queuelabref01_Gap.l0]
      rw [if_pos (by omega), if_pos (by omega), bt_get s i hlt]
      by_cases h35 : s[i].toNat = 35
      · rw [if_pos (by omega), h1 h35]
      · rw [if_neg (by omega), h2 h35]
    by_cases h35 : s[i].toNat = 35
    · refine first true (fun _ => rfl) (fun h => absurd h35 h) _ (Ev.step (f := fun k => queuelabref01_Gap.j2 k s (i : Int) true (s[i].toNat : Int)) (fun k => ?_) (step true false _ (fun k => ?_) (by simp) (fun _ => ?_)))
      · simp only [queuelabref01_Gap.j1]; rw [if_neg (by omega)]
      · simp only [queuelabref01_Gap.j2]; rw [if_pos trivial]
      · simp only [gapL]; rw [if_pos h35]; omega
    · by_cases h10 : s[i].toNat = 10
      · refine first b (fun h => absurd h h35) (fun _ => rfl) _ (Ev.step (f := fun k => queuelabref01_Gap.j2 k s (i : Int) false (s[i].toNat : Int)) (fun k => ?_) (step false false _ (fun k => ?_) (by simp) (fun _ => ?_)))
        · simp only [queuelabref01_Gap.j1]; rw [if_pos (by omega)]
        · simp only [queuelabref01_Gap.j2]; rw [if_neg (by simp), if_neg (by omega), if_neg (by omega), h10]; rfl
        · simp only [gapL]; rw [if_neg h35, if_pos h10]; omega
      · by_cases hb : b = true ∨ s[i].toNat = 32 ∨ s[i].toNat = 9
        · refine first b (fun h => absurd h h35) (fun _ => rfl) _ (Ev.step (f := fun k => queuelabref01_Gap.j2 k s (i : Int) b (s[i].toNat : Int)) (fun k => ?_) (step b false _ (fun k => ?_) (by simp) (fun _ => ?_)))
          · simp only [queuelabref01_Gap.j1]; rw [if_neg (by omega)]
          · simp only [queuelabref01_Gap.j2]
            by_cases hbt : b = true
            · rw [if_pos hbt]
            · rw [if_neg hbt]
              by_cases h32 : s[i].toNat = 32
              · rw [if_pos (by omega)]
              · rw [if_neg (by omega), if_pos (by have := hb.resolve_left hbt; omega)]
          · simp only [gapL]; rw [if_neg h35, if_neg h10, if_pos hb]; omega
        · refine first b (fun h => absurd h h35) (fun _ => rfl) _ (Ev.step (f := fun k => queuelabref01_Gap.j2 k s (i : Int) b (s[i].toNat : Int)) (fun k => ?_) (step b true _ (fun k => ?_) (fun _ => ?_) (by simp)))
          · simp only [queuelabref01_Gap.j1]; rw [if_neg (by omega)]
          · simp only [queuelabref01_Gap.j2]
            rw [if_neg (by simp at hb; simp [hb]), if_neg (by omega), if_neg (by omega)]
            have : ((s[i].toNat : Int) != 10) = true := by rw [bne_iff_ne]; omega
            rw [this]
          · simp only [gapL]; rw [if_neg h35, if_neg h10, if_neg hb]; rfl
theorem Gap_ev (s : ByteArray) (hs : s.size ≤ 1000000000000) (i : Nat) (hi : i ≤ s.size) : Ev (fun k => queuelabref01_Gap.f k s (i : Int)) ((i + gapL false ((bl s).drop i) : Nat) : Int) :=
  Gap_go s hs (s.size - i) i (by omega) false
end Go.Proofs.YtgkpjfbghjojoaaDoor.L
