import Derived.Test.YtgkpjfbghjojoaaDoorH
import Derived.Test.YtgkpjfbghjojoaaDoorL4a
/- R.Token: the token of a text. -/
namespace Go.Proofs.YtgkpjfbghjojoaaDoor.L
open Go.RowKit Go.Proofs.YtgkpjfbghjojoaaDoorW.PrintWords Go.Proofs.YtgkpjfbghjojoaaDoorW.PrintLast Go.Proofs.YtgkpjfbghjojoaaDoorW.PrintMore
open QLex
set_option linter.unusedVariables false
set_option linter.unusedSimpArgs false
def tokR : Except Int (PT × Nat) → Int × ByteArray × Int × Int × Int
  | .ok (t, n) => (t.1, ⟨t.2.1.toArray⟩, t.2.2, 0, 0)
  | .error e => (0, ⟨#[]⟩, 0, 0, e)
theorem Token_l0_step (k : Nat) (x : ByteArray) (acc i v : Int) (hi0 : 0 ≤ i) (hi : i < (x.size : Int)) (hv : wrap64 (wrap64 (10 * acc) + ((bt x i - 48) % 256)) = v) :
    queuelabref01_Token.l0 (k + 1) x acc i = if v > 1000000000 then some (0, (⟨#[]⟩ : ByteArray), 0, 0, 3) else queuelabref01_Token.l0 k x v (wrap64 (i + 1)) := by
  simp only [queuelabref01_Token.l0]
  rw [if_pos hi, if_pos hi0, hv]
theorem Token_go (x : ByteArray) (hs : x.size ≤ 1000000000000) : ∀ (m i acc : Nat), i + m = x.size → acc ≤ 1000000000 → (∀ c ∈ (bl x).drop i, cls c.toNat = 3) →
    Ev (fun k => queuelabref01_Token.l0 k x (acc : Int) (i : Int)) (if decFrom acc ((bl x).drop i) ≤ 1000000000 then (2, (⟨#[]⟩ : ByteArray), ((decFrom acc ((bl x).drop i) : Nat) : Int), 0, 0) else (0, (⟨#[]⟩ : ByteArray), 0, 0, 3)) := by
  intro m
  induction m with
  | zero =>
    intro i acc hi ha hc
    rw [List.drop_eq_nil_of_le (by rw [bl_len]; omega)]
    have e : decFrom acc [] = acc := rfl
    rw [e, if_pos ha]
    refine Ev.step (f := fun _ => some (2, (⟨#[]⟩ : ByteArray), (acc : Int), 0, 0)) (fun k => ?_) (Ev.now _)
    simp only [queuelabref01_Token.l0]
    rw [if_neg (by omega)]
  | succ m ih =>
    intro i acc hi ha hc
    have hlt : i < x.size := by omega
    have hg := bl_get x i hlt
    have hb := bt_get x i hlt
    have h3 := (cls_three _).mp (hc x[i] (by rw [hg]; simp))
    have hrest : ∀ c ∈ (bl x).drop (i + 1), cls c.toNat = 3 := fun c h => hc c (by rw [hg]; simp [h])
    rw [hg]
    have e : decFrom acc (x[i] :: (bl x).drop (i + 1)) = decFrom (acc * 10 + (x[i].toNat - 48)) ((bl x).drop (i + 1)) := rfl
    rw [e]
    refine Ev.step (fun k => Token_l0_step k x (acc : Int) (i : Int) ((acc * 10 + (x[i].toNat - 48) : Nat) : Int) (by omega) (by omega) (by
      rw [hb, w64 (n := 10 * (acc : Int)) (by omega) (by omega), w64 (by omega) (by omega)]; omega)) ?_
    by_cases hv : acc * 10 + (x[i].toNat - 48) ≤ 1000000000
    · simp only [if_neg (show ¬ ((acc * 10 + (x[i].toNat - 48) : Nat) : Int) > 1000000000 by omega)]
      rw [w64 (n := (i : Int) + 1) (by omega) (by omega)]
      exact ih (i + 1) _ (by omega) hv hrest
    · have hge := decFrom_ge ((bl x).drop (i + 1)) (acc * 10 + (x[i].toNat - 48))
      simp only [if_pos (show ((acc * 10 + (x[i].toNat - 48) : Nat) : Int) > 1000000000 by omega)]
      rw [if_neg (by omega)]
      exact Ev.now _
theorem Token_ev {l : List UInt8} (hl : 0 < endL l) (hn : l.length ≤ 1000000000000) : Ev (fun k => queuelabref01_Token.f k (⟨(l.take (endL l)).toArray⟩ : ByteArray)) (tokR (tokL l)) := by
  cases l with
  | nil => simp [endL] at hl
  | cons c r =>
    have hend := endL_le (c :: r)
    obtain ⟨n, hn1⟩ : ∃ n, endL (c :: r) = n + 1 := ⟨endL (c :: r) - 1, by omega⟩
    have hx0 : (c :: r).take (endL (c :: r)) = c :: r.take n := by rw [hn1, List.take_succ_cons]
    obtain ⟨x, hx⟩ : ∃ x : ByteArray, (⟨((c :: r).take (endL (c :: r))).toArray⟩ : ByteArray) = x := ⟨_, rfl⟩
    have hbl : bl x = (c :: r).take (endL (c :: r)) := by rw [← hx]
    have hsz : x.size = endL (c :: r) := by rw [← bl_len, hbl, List.length_take]; omega
    have h0 : 0 < x.size := by omega
    have hc0 : x[0] = c := by
      have h1 := bl_get x 0 h0
      rw [List.drop_zero, hbl, hx0] at h1
      simp at h1; exact h1.symm
    have hb := bt_get x 0 h0
    rw [hc0] at hb
    have hb' : bt x 0 = (c.toNat : Int) := hb
    rw [hx]
    have hf : ∀ k, queuelabref01_Token.f k x = if decide (cls c.toNat = 2) = true then (if (x.size : Int) > 12 then some (0, (⟨#[]⟩ : ByteArray), 0, 0, 3) else some (1, x, 0, 0, 0)) else (if decide (cls c.toNat = 3) = true then (if (x.size : Int) > 1 then queuelabref01_Token.j0 k x ((c.toNat : Int) == 48) else queuelabref01_Token.j0 k x false) else some (3, x, 0, 0, 0)) := by
      intro k
      unfold queuelabref01_Token.f
      rw [if_pos (by omega), hb', Letter_eq, Option.bind_some, Digit_eq, Option.bind_some]
    refine Ev.congr hf ?_
    simp only [endL] at hsz hbl
    simp only [tokL]
    by_cases h2 : cls c.toNat = 2
    · rw [if_pos h2] at hsz hbl ⊢
      simp only [decide_eq_true h2, if_true]
      by_cases h12 : ((c :: r).takeWhile nameC).length ≤ 12
      · rw [if_pos h12]
        simp only [if_neg (show ¬ (x.size : Int) > 12 by omega)]
        have : x = ⟨((c :: r).takeWhile nameC).toArray⟩ := by
          apply ByteArray.ext; apply Array.toList_inj.mp
          show bl x = _
          rw [hbl, takeWhile_take]
        rw [this]
        exact Ev.now _
      · rw [if_neg h12]
        simp only [if_pos (show (x.size : Int) > 12 by omega)]
        exact Ev.now _
    · rw [if_neg h2] at hsz hbl ⊢
      simp only [decide_eq_false h2, if_neg (show ¬ (false = true) by simp)]
      by_cases h3 : cls c.toNat = 3
      · rw [if_pos h3] at hsz hbl ⊢
        rw [takeWhile_take] at hbl
        simp only [decide_eq_true h3, if_true]
        have hall : ∀ a ∈ (bl x).drop 0, cls a.toNat = 3 := by
          intro a ha
          rw [List.drop_zero, hbl] at ha
          have := List.all_eq_true.mp (List.all_takeWhile (p := digC) (l := c :: r)) a ha
          simpa [digC] using this
        have hgo := Token_go x (by rw [← bl_len, hbl]; have := (List.takeWhile_prefix (l := c :: r) digC).length_le; omega) x.size 0 0 (by omega) (by omega) hall
        rw [List.drop_zero, hbl] at hgo
        have hj : Ev (fun k => queuelabref01_Token.j0 k x false) (if decFrom 0 ((c :: r).takeWhile digC) ≤ 1000000000 then (2, (⟨#[]⟩ : ByteArray), ((decFrom 0 ((c :: r).takeWhile digC) : Nat) : Int), 0, 0) else (0, (⟨#[]⟩ : ByteArray), 0, 0, 3)) := by
          refine Ev.step (f := fun k => queuelabref01_Token.l0 k x ((0 : Nat) : Int) ((0 : Nat) : Int)) (fun k => ?_) hgo
          simp only [queuelabref01_Token.j0]
          rw [if_neg (by simp)]; rfl
        by_cases hz : 1 < ((c :: r).takeWhile digC).length ∧ c.toNat = 48
        · rw [if_pos hz]
          simp only [if_pos (show (x.size : Int) > 1 by omega)]
          have e48 : ((c.toNat : Int) == 48) = true := by rw [hz.2]; rfl
          rw [e48]
          refine Ev.step (f := fun _ => some (0, (⟨#[]⟩ : ByteArray), 0, 0, 7)) (fun k => ?_) (Ev.now _)
          simp only [queuelabref01_Token.j0]
          rw [if_pos trivial]
        · rw [if_neg hz]
          have hres : (if decFrom 0 ((c :: r).takeWhile digC) ≤ 1000000000 then (2, (⟨#[]⟩ : ByteArray), ((decFrom 0 ((c :: r).takeWhile digC) : Nat) : Int), 0, 0) else (0, (⟨#[]⟩ : ByteArray), 0, 0, 3)) = tokR (if decVal ((c :: r).takeWhile digC) ≤ 1000000000 then .ok ((2, [], (decVal ((c :: r).takeWhile digC) : Nat)), ((c :: r).takeWhile digC).length) else .error 3) := by
            show (if decVal _ ≤ _ then _ else _) = _
            by_cases hv : decVal ((c :: r).takeWhile digC) ≤ 1000000000
            · rw [if_pos hv, if_pos hv]; rfl
            · rw [if_neg hv, if_neg hv]; rfl
          rw [← hres]
          by_cases h1 : (x.size : Int) > 1
          · simp only [if_pos h1]
            have e48 : ((c.toNat : Int) == 48) = false := by
              have : ¬ c.toNat = 48 := fun q => hz ⟨by omega, q⟩
              simp; omega
            rw [e48]; exact hj
          · simp only [if_neg h1]; exact hj
      · rw [if_neg h3] at hsz hbl ⊢
        simp only [decide_eq_false h3, if_neg (show ¬ (false = true) by simp)]
        by_cases h4 : cls c.toNat = 4
        · rw [if_pos h4] at hsz hbl ⊢
          by_cases hr : relC c.toNat ∧ r.head?.map (·.toNat) = some 61
          · rw [if_pos hr] at hsz hbl ⊢
            have : x = ⟨((c :: r).take 2).toArray⟩ := by
              apply ByteArray.ext; apply Array.toList_inj.mp
              show bl x = _
              rw [hbl]
            rw [this]; exact Ev.now _
          · rw [if_neg hr] at hsz hbl ⊢
            by_cases h33 : c.toNat = 33
            · rw [if_pos h33] at hsz; omega
            · rw [if_neg h33] at hsz hbl ⊢
              have : x = ⟨([c] : List UInt8).toArray⟩ := by
                apply ByteArray.ext; apply Array.toList_inj.mp
                show bl x = _
                rw [hbl]; rfl
              rw [this]; exact Ev.now _
        · rw [if_neg h4] at hsz; omega
end Go.Proofs.YtgkpjfbghjojoaaDoor.L
