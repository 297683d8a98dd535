import Derived.Test.YtgkpjfbghjojoaaDoorXa
import Derived.Shelf.Abstract
import Derived.Deep.RegionWith
import Derived.Deep.QuietTactic
import Derived.BigQuiet
import Derived.Deep.DeepCutAuto
namespace Go.Proofs.YtgkpjfbghjojoaaDoor.X
open QLex Go.Shelf Go.RowKit Go.Proofs.YtgkpjfbghjojoaaDoorW.PrintWords Go.Proofs.YtgkpjfbghjojoaaDoorW.PrintLast Go.Proofs.YtgkpjfbghjojoaaDoorW.PrintMore
set_option linter.unusedVariables false
set_option linter.unusedSimpArgs false

def gapN (s : ByteArray) (i : Nat) (b : Bool) : Nat :=
  if h : i < s.size then
    if s[i].toNat = 35 then gapN s (i + 1) true
    else if s[i].toNat = 10 then gapN s (i + 1) false
    else if b = true ∨ s[i].toNat = 32 ∨ s[i].toNat = 9 then gapN s (i + 1) b
    else i
  else i
termination_by s.size - i

theorem gap_true (s : ByteArray) (i : Nat) : gapN s i true = gapN s (spanN (fun c => c != 10) s i) false := by
  fun_induction spanN (fun c => c != 10) s i with
  | case1 i h hp ih =>
    have hp' : s[i].toNat ≠ 10 := by intro h; simp [h] at hp
    rw [gapN, dif_pos h, if_neg hp', if_pos (Or.inl rfl), ← ih]; simp
  | case2 i h hp =>
    have hp' : s[i].toNat = 10 := by simp at hp; omega
    rw [gapN, dif_pos h, if_neg (by omega), if_pos hp']; conv => rhs; rw [gapN, dif_pos h, if_neg (by omega), if_pos hp']
  | case3 i h => rw [gapN, dif_neg h]; conv => rhs; rw [gapN, dif_neg h]
theorem gap_hash (s : ByteArray) (k : Nat) (h : k < s.size) (h35 : s[k].toNat = 35) : gapN s (spanN (fun c => c != 10) s k) false = gapN s k false := by
  rw [spanN, dif_pos h, if_pos (by simp [h35]), ← gap_true]; conv => rhs; rw [gapN, dif_pos h, if_pos h35]
theorem gap_next (s : ByteArray) (k : Nat) (h : k < s.size) (h1 : cls s[k].toNat = 1) (h35 : s[k].toNat ≠ 35) : gapN s (k + 1) false = gapN s k false := by
  rw [cls_one] at h1; conv => rhs; rw [gapN, dif_pos h, if_neg h35]
  split <;> simp_all
theorem gap_end (s : ByteArray) (k : Nat) (h : k < s.size) (h1 : cls s[k].toNat ≠ 1) : gapN s k false = k := by
  rw [ne_eq, cls_one] at h1; rw [gapN, dif_pos h, if_neg (by omega), if_neg (by omega), if_neg (by simp; omega)]
theorem gap_over (s : ByteArray) (k : Nat) (h : ¬ k < s.size) : gapN s k false = k := by rw [gapN, dif_neg h]
theorem gapN_ge (s : ByteArray) (i : Nat) (b : Bool) : i ≤ gapN s i b := by fun_induction gapN s i b <;> omega
theorem gapN_le (s : ByteArray) (i : Nat) (b : Bool) (h : i ≤ s.size) : gapN s i b ≤ s.size := by fun_induction gapN s i b <;> omega
theorem bdrew {w w1 : World} (h : Below w.drew.heap.size w.drew w1) : Below w.heap.size w w1 := (below_drew1 (Below.refl w.heap.size w)).trans h

theorem e28 : ∀ args w, (callFunc 28 args).run Tryd.prog w = .ok (.enter 28 args) w := enters_of Tryd.func28 (by kernel_rfl) rfl

set_option maxHeartbeats 1000000 in
set_option maxRecDepth 100000 in
theorem skip_any (s : ByteArray) (i : Nat) (w : World) (hs : s.size ≤ 140737488351232) (hi : i ≤ s.size) :
    Calls Tryd.prog 19 #[.string s, .int .i64 i] w fun e w' => e = .returned (.int .i64 (gapN s i false)) ∧ Below w.heap.size w w' := by
  go_enter Tryd.func19, Tryd.ntmps19
  go_wp2_with fail
  go_loopw [1] (fun v wr => ∃ k : Nat, k ≤ s.size ∧ v = .int .i64 k ∧ Hid (gapN s k false = gapN s i false) ∧ Below w.heap.size w wr) (fun v _ => s.size - (intOf v).toNat)
  case atStart => exact ⟨i, hi, rfl, Lib.hid rfl, Below.refl _ _⟩
  case round =>
    obtain ⟨k, hk, rfl, hsp, hb⟩ := hrel
    by_cases hlt : k < s.size
    · have hc0 : 0 ≤ ((s[k].toNat : Nat) : Int) := by omega
      have hc1 : ((s[k].toNat : Nat) : Int) < 256 := by have := s[k].toNat_lt; omega
      have hx := fun w => index_cls w _ hc0 hc1
      go_upto_region 1 with (fail)
      go_cut [16] (fun v16 wc => v16 = .bool (((cls s[k].toNat : Nat) : Int) == 1) ∧ Below wr.heap.size wr wc)
      case first =>
        go_region_with (go_at_call 26; refine (classes_any _).mono ?_; rintro e w1 ⟨rfl, hb1⟩)
        all_goals go_wp2_with fail
        all_goals go_meet
        all_goals (case rel => exact ⟨rfl, bdrew hb1⟩)
      case rest =>
        obtain ⟨rfl, hb1⟩ := hcut
        by_cases h1 : cls s[k].toNat = 1
        · have e1 : (((cls s[k].toNat : Nat) : Int) == 1) = true := by simp [h1]
          by_cases h35 : s[k].toNat = 35
          · have e35 : (((s[k].toNat : Nat) : Int) == 35) = true := by simp [h35]
            have hle := spanN_le (fun c => c != 10) s k (by omega)
            have hlt2 : k < spanN (fun c => c != 10) s k := by
              rw [spanN, dif_pos hlt, if_pos (by simp [h35])]; exact spanN_ge _ _ _
            have hg := Lib.hid (gap_hash s k hlt h35)
            go_wp2_with (go_at_call 27; refine (span_any 28 (fun c => c != 10) e28 (fun c w _ _ => c28 c w) s k _ hs hk).mono ?_; rintro e w2 ⟨rfl, hb2⟩)
            generalize spanN (fun c => c != 10) s k = m at hle hlt2 hg ⊢
            go_roundw
            case rel => exact ⟨m, hle, rfl, Lib.hid (hg.out.trans hsp.out), (hb.trans (hb1.mono hb.size)).trans (hb2.mono (Nat.le_trans hb.size hb1.size))⟩
            case measure => simp [intOf]; omega
          · have e35 : (((s[k].toNat : Nat) : Int) == 35) = false := by simp; omega
            have hg := Lib.hid (gap_next s k hlt h1 h35)
            go_wp2_with fail
            go_roundw
            case rel => exact ⟨k + 1, by omega, by go_num, Lib.hid (hg.out.trans hsp.out), hb.trans (hb1.mono hb.size)⟩
            case measure => simp [intOf]; omega
        · have e1 : (((cls s[k].toNat : Nat) : Int) == 1) = false := by simp; omega
          have hg := Lib.hid (gap_end s k hlt h1)
          go_wp2_with fail
          go_ret
          exact ⟨by rw [← hsp.out, hg.out]; rfl, hb.trans (hb1.mono hb.size)⟩
    · have hg := Lib.hid (gap_over s k hlt)
      go_upto_region 1 with (fail)
      go_cut [16] (fun v16 wc => v16 = .bool false ∧ Below wr.heap.size wr wc)
      case first =>
        have hd : decide (k < s.size) = false := decide_eq_false hlt
        go_quiet (fail)
        all_goals go_wp2_with fail
        all_goals go_meet
        all_goals (case rel => exact ⟨rfl, by apply pw_below_drewN; exact Below.refl _ _⟩)
      case rest =>
        obtain ⟨rfl, hb1⟩ := hcut
        go_wp2_with fail
        go_ret
        exact ⟨by rw [← hsp.out, hg.out]; rfl, hb.trans (hb1.mono hb.size)⟩
end Go.Proofs.YtgkpjfbghjojoaaDoor.X
