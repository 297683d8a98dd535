import Derived.Test.YtgkpjfbghjojoaaDoorE
import Derived.Test.YtgkpjfbghjojoaaDoorL5
namespace Go.Proofs.YtgkpjfbghjojoaaDoor.L
open Go.RowKit Go.Proofs.YtgkpjfbghjojoaaDoorW.PrintWords Go.Proofs.YtgkpjfbghjojoaaDoorW.PrintLast Go.Proofs.YtgkpjfbghjojoaaDoorW.PrintMore
open QLex
set_option linter.unusedVariables false
set_option linter.unusedSimpArgs false

theorem dec_len (m : Nat) : ∀ n, n < 10 ^ m → (dec n).length ≤ m + 1 := by
  induction m with
  | zero => intro n hn; rw [dec, dif_pos (by omega)]; simp
  | succ m ih =>
    intro n hn
    rw [dec]
    split
    · simp
    · have := ih (n / 10) (by rw [Nat.pow_succ] at hn; omega)
      rw [List.length_append]; simp; omega
theorem digits_ev (n : Nat) : n ≤ 4000000000000000000 → Ev (fun k => queuelabref01_digits.f k (n : Int)) (⟨(dec n).toArray⟩ : ByteArray) := by
  induction n using Nat.strongRecOn with
  | _ n ih =>
    intro hn
    by_cases h : n < 10
    · refine Ev.step (f := fun _ => some (⟨(dec n).toArray⟩ : ByteArray)) (fun k => ?_) (Ev.now _)
      simp only [queuelabref01_digits.f]
      rw [if_pos (by omega), w64 (by omega) (by omega), dec, dif_pos h]
      simp only [strOfNums, List.map_cons, List.map_nil]
      congr 5
      omega
    · have hq : Int.tdiv (n : Int) 10 = ((n / 10 : Nat) : Int) := by rw [Int.tdiv_eq_ediv_of_nonneg (by omega)]; omega
      have hm : Int.tmod (n : Int) 10 = ((n % 10 : Nat) : Int) := by rw [Int.tmod_eq_emod_of_nonneg (by omega)]; omega
      have ih' := ih (n / 10) (by omega) (by omega)
      have hl := dec_len 19 (n / 10) (by omega)
      refine Ev.step (f := fun k => (queuelabref01_digits.f k ((n / 10 : Nat) : Int)).bind fun t190 => if t190.size + (strOfNums [(wrap64 (48 + ((n % 10 : Nat) : Int))) % 256]).size ≤ 9223372036854775807 then some (t190 ++ strOfNums [(wrap64 (48 + ((n % 10 : Nat) : Int))) % 256]) else none) (fun k => ?_) ?_
      · simp only [queuelabref01_digits.f]
        rw [if_neg (by omega), hq, hm, w64 (n := ((n / 10 : Nat) : Int)) (by omega) (by omega)]
        rfl
      · refine Ev.bind ih' ⟨0, fun k _ => ?_⟩
        have hs : (⟨(dec (n / 10)).toArray⟩ : ByteArray).size = (dec (n / 10)).length := rfl
        have h1 : (strOfNums [(wrap64 (48 + ((n % 10 : Nat) : Int))) % 256]).size = 1 := rfl
        show (if _ then _ else _) = _
        rw [if_pos (by rw [hs, h1]; omega), w64 (by omega) (by omega)]
        conv => rhs; rw [dec, dif_neg h]
        have hx : (((48 : Int) + ((n % 10 : Nat) : Int)) % 256).toNat = 48 + n % 10 := by omega
        simp only [strOfNums, List.map_cons, List.map_nil, hx]
        rw [Option.some.injEq]
        apply ByteArray.ext
        simp
/-- R.Text of a token of a source -/
theorem tok_num {l : List UInt8} {t : PT} {n : Nat} (h : tokL l = .ok (t, n)) : 0 ≤ t.2.2 ∧ t.2.2 ≤ 1000000000 := by
  cases l with
  | nil => simp [tokL] at h
  | cons c r =>
    simp only [tokL] at h
    repeat' (split at h)
    all_goals first
      | (cases h; done)
      | (simp only [Except.ok.injEq, Prod.mk.injEq] at h; obtain ⟨rfl, _⟩ := h; simp; done)
      | (simp only [Except.ok.injEq, Prod.mk.injEq] at h; obtain ⟨rfl, _⟩ := h; constructor <;> simp <;> omega)
theorem Text_ev {l : List UInt8} {t : PT} {n : Nat} (h : tokL l = .ok (t, n)) (o : Int) :
    Ev (fun k => queuelabref01_Text.f k t.1 (⟨t.2.1.toArray⟩ : ByteArray) t.2.2 o) (⟨(l.take n).toArray⟩ : ByteArray) := by
  have hn := tok_num h
  have ht := tokL_text h
  unfold queuelabref01_Text.f
  by_cases h2 : t.1 = 2
  · simp only [if_pos h2]
    have hm : mx 0 t.2.2 = ((t.2.2.toNat : Nat) : Int) := by unfold mx; split <;> omega
    have hd := digits_ev t.2.2.toNat (by omega)
    rw [hm]
    have e : (⟨(l.take n).toArray⟩ : ByteArray) = ⟨(dec t.2.2.toNat).toArray⟩ := by
      rw [← ht, textP, if_pos h2]
    rw [e]
    exact Ev.bind hd (Ev.now _)
  · simp only [if_neg h2]
    rw [← ht, textP, if_neg h2]
    exact Ev.now _
end Go.Proofs.YtgkpjfbghjojoaaDoor.L
