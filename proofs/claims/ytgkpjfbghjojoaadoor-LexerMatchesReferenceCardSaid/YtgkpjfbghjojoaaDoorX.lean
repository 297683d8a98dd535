import Derived.Test.YtgkpjfbghjojoaaDoorY
import Derived.Test.YtgkpjfbghjojoaaDoorL0
import Derived.Test.YtgkpjfbghjojoaaDoorXd
import Derived.Test.YtgkpjfbghjojoaaDoorXe
namespace Go.Proofs.YtgkpjfbghjojoaaDoor.L
open Go.RowKit Go.Proofs.YtgkpjfbghjojoaaDoorW.PrintWords Go.Proofs.YtgkpjfbghjojoaaDoorW.PrintLast Go.Proofs.YtgkpjfbghjojoaaDoorW.PrintMore
set_option linter.unusedVariables false
set_option linter.unusedSimpArgs false
open X QLex
-- lexer.skip: what the walk of the text comes to
def lexer_skip.f (a0 : ByteArray) (a1 : Int) : Option Int := if a0.size ≤ 140737488351232 ∧ 0 ≤ a1 ∧ a1 ≤ a0.size then some (gapN a0 a1.toNat false : Nat) else none
theorem lexer_skip.calls (a0 : ByteArray) (a1 : Int) (r : Int) (w : World) (h : lexer_skip.f a0 a1 = some r) :
    Calls Tryd.prog 19 #[.string a0, .int .i64 a1] w fun e w' => e = .returned (.int .i64 r) ∧ Below w.heap.size w w' := by
  unfold lexer_skip.f at h
  split at h
  · rename_i hc
    obtain ⟨h0, h1, h2⟩ := hc
    obtain ⟨n, rfl⟩ := Int.eq_ofNat_of_zero_le h1
    obtain rfl := Option.some.inj h
    exact skip_any a0 n w h0 (by omega)
  · cases h
/-- what is read at i: kind, text, number, offset, where it ends, error -/
def readP (s : ByteArray) (i : Nat) (hi : i < s.size) : Int × ByteArray × Int × Int × Int × Int :=
  let c := cls s[i].toNat
  if c = 2 then
    if spanN nameB s i - i ≤ 12 then (1, s.extract i (spanN nameB s i), 0, i, (spanN nameB s i : Nat), 0) else (0, ⟨#[]⟩, 0, 0, i, 3)
  else if c = 3 then
    if 1 < spanN digB s i - i ∧ s[i].toNat = 48 then (0, ⟨#[]⟩, 0, 0, i, 7)
    else if decVal (s.extract i (spanN digB s i)).data.toList ≤ 1000000000 then (2, ⟨#[]⟩, (decVal (s.extract i (spanN digB s i)).data.toList : Nat), i, (spanN digB s i : Nat), 0)
    else (0, ⟨#[]⟩, 0, 0, i, 3)
  else if c = 4 then
    if h : (s[i].toNat = 60 ∨ s[i].toNat = 62 ∨ s[i].toNat = 61 ∨ s[i].toNat = 33) ∧ ∃ h : i + 1 < s.size, s[i + 1].toNat = 61 then (3, s.extract i (i + 1 + 1), 0, i, (i + 1 + 1 : Nat), 0)
    else if s[i].toNat = 33 then (0, ⟨#[]⟩, 0, 0, i, 7)
    else (3, s.extract i (i + 1), 0, i, (i + 1 : Nat), 0)
  else (0, ⟨#[]⟩, 0, 0, i, 7)
def readV (r : Int × ByteArray × Int × Int × Int × Int) : Value := .tuple #[.agg #[.int .i64 r.1, .string r.2.1, .int .i64 r.2.2.1, .int .i64 r.2.2.2.1], .int .i64 r.2.2.2.2.1, .int .i64 r.2.2.2.2.2]
theorem read_any (s : ByteArray) (i : Nat) (w : World) (hs : s.size ≤ 140737488351232) (hi : i < s.size) (hG : Glob w) :
    Calls Tryd.prog 20 #[.string s, .int .i64 i] w fun e w' => e = .returned (readV (readP s i hi)) ∧ Below w.heap.size w w' := by
  unfold readP
  simp only []
  by_cases h2 : cls s[i].toNat = 2
  · rw [if_pos h2]
    by_cases hl : spanN nameB s i - i ≤ 12
    · rw [if_pos hl]; exact read_name s i w hs hi h2 hl
    · rw [if_neg hl]; exact read_long s i w hs hi h2 hl
  rw [if_neg h2]
  by_cases h3 : cls s[i].toNat = 3
  · rw [if_pos h3]
    by_cases hz : 1 < spanN digB s i - i ∧ s[i].toNat = 48
    · rw [if_pos hz]; exact read_zero s i w hs hi h3 hz.1 hz.2
    rw [if_neg hz]
    have hz' : ¬ 1 < spanN digB s i - i ∨ ¬ s[i].toNat = 48 := by omega
    by_cases hv : decVal (s.extract i (spanN digB s i)).data.toList ≤ 1000000000
    · rw [if_pos hv]
      rcases hz' with h | h
      · exact read_num_a s i w hs hi h3 h _ rfl hv
      · exact read_num_b s i w hs hi h3 h _ rfl hv
    rw [if_neg hv]
    by_cases hb : decVal (s.extract i (spanN digB s i)).data.toList < 9223372036854775808
    · rcases hz' with h | h
      · exact read_big_a s i w hs hi h3 h _ rfl (by omega) hb
      · exact read_big_b s i w hs hi h3 h _ rfl (by omega) hb
    · obtain ⟨te, pe, hg⟩ := hG
      rcases hz' with h | h
      · exact read_huge_a s i w hs hi te pe hg h3 h _ rfl (by omega)
      · exact read_huge_b s i w hs hi te pe hg h3 h _ rfl (by omega)
  rw [if_neg h3]
  by_cases h4 : cls s[i].toNat = 4
  · rw [if_pos h4]
    have h256 : s[i].toNat < 256 := s[i].toNat_lt
    by_cases hr : s[i].toNat = 60 ∨ s[i].toNat = 62 ∨ s[i].toNat = 61 ∨ s[i].toNat = 33
    · obtain ⟨k, hk⟩ : ∃ k : Nat, Lib.indexByte [60, 62, 61, 33] ((s[i].toNat : Nat) : Int).toNat.toUInt8 = k := by
        rw [relAt]; rcases hr with h | h | h | h <;> rw [h]
        · exact ⟨0, by decide⟩
        · exact ⟨1, by decide⟩
        · exact ⟨2, by decide⟩
        · exact ⟨3, by decide⟩
      by_cases hn : i + 1 < s.size
      · by_cases h61 : s[i + 1].toNat = 61
        · rw [dif_pos ⟨hr, hn, h61⟩]; exact read_two s i w hs hi h4 k hk hn h61
        · rw [dif_neg (fun h => h61 h.2.2)]
          by_cases h33 : s[i].toNat = 33
          · rw [if_pos h33]; exact read_bad_c s i w hs hi h4 h33 k hk hn h61
          · rw [if_neg h33]; exact read_one_c s i w hs hi h4 h33 k hk hn h61
      · rw [dif_neg (fun h => hn h.2.1)]
        by_cases h33 : s[i].toNat = 33
        · rw [if_pos h33]; exact read_bad_b s i w hs hi h4 h33 k hk hn
        · rw [if_neg h33]; exact read_one_b s i w hs hi h4 h33 k hk hn
    · rw [dif_neg (fun h => hr h.1), if_neg (by omega)]
      exact read_one_a s i w hs hi h4 (by omega) (by rw [relAt]; rw [if_neg (by omega), if_neg (by omega), if_neg (by omega), if_neg (by omega)])
  rw [if_neg h4]
  exact read_none s i w hs hi ⟨h2, h3, h4⟩
def lexer_read.f (a0 : ByteArray) (a1 : Int) : Option (Int × ByteArray × Int × Int × Int × Int) :=
  if h : a0.size ≤ 140737488351232 ∧ 0 ≤ a1 ∧ a1.toNat < a0.size then some (readP a0 a1.toNat h.2.2) else none
theorem lexer_read.calls (a0 : ByteArray) (a1 : Int) (r1 : Int) (r2 : ByteArray) (r3 r4 r5 r6 : Int) (w : World) (hG : Glob w) (h : lexer_read.f a0 a1 = some (r1, r2, r3, r4, r5, r6)) :
    Calls Tryd.prog 20 #[.string a0, .int .i64 a1] w fun e w' => e = .returned (.tuple #[.agg #[.int .i64 r1, .string r2, .int .i64 r3, .int .i64 r4], .int .i64 r5, .int .i64 r6]) ∧ Below w.heap.size w w' := by
  unfold lexer_read.f at h
  split at h
  · rename_i hc
    obtain ⟨n, rfl⟩ := Int.eq_ofNat_of_zero_le hc.2.1
    have hr := Option.some.inj h
    have := read_any a0 n w hc.1 hc.2.2 hG
    simp only [Int.toNat_natCast] at hr
    rw [hr] at this
    exact this
  · cases h
end Go.Proofs.YtgkpjfbghjojoaaDoor.L
