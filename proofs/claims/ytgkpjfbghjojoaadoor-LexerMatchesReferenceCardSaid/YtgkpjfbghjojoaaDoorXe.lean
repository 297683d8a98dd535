import Derived.Test.YtgkpjfbghjojoaaDoorXc
import Derived.Lib.RabinKarpLaws
namespace Go.Proofs.YtgkpjfbghjojoaaDoor.X
open QLex Go.Shelf Go.RowKit Go.Proofs.YtgkpjfbghjojoaaDoorW.PrintWords Go.Proofs.YtgkpjfbghjojoaaDoorW.PrintLast Go.Proofs.YtgkpjfbghjojoaaDoorW.PrintMore
set_option linter.unusedVariables false
set_option linter.unusedSimpArgs false
theorem ext1 (s : ByteArray) (i : Nat) (h : i < s.size) : (s.extract i (i + 1)).toList = [s[i]] := by
  have h' : i < s.data.toList.length := h
  rw [Go.Proofs.ext_win, show i + 1 - i = 0 + 1 by omega, Lib.RK.win_cons _ _ _ h']; simp [Lib.RK.win]; rfl
theorem ext2 (s : ByteArray) (i : Nat) (h : i + 1 < s.size) : (s.extract i (i + 1 + 1)).toList = [s[i], s[i + 1]] := by
  have h' : i + 1 < s.data.toList.length := h
  rw [Go.Proofs.ext_win, show i + 1 + 1 - i = 0 + 1 + 1 by omega, Lib.RK.win_cons _ _ _ (by omega), Lib.RK.win_cons _ _ _ h']; simp [Lib.RK.win]; exact ⟨rfl, rfl⟩
theorem relAt (c : Nat) : Lib.indexByte [60, 62, 61, 33] (c : Int).toNat.toUInt8 = if c % 256 = 60 then 0 else if c % 256 = 62 then 1 else if c % 256 = 61 then 2 else if c % 256 = 33 then 3 else -1 := by
  have e : ∀ n : Nat, n < 256 → (((n : Nat).toUInt8 : UInt8) == (c : Int).toNat.toUInt8) = decide (c % 256 = n) := by
    intro n hn
    rw [Bool.eq_iff_iff]; simp [← UInt8.toNat_inj]; omega
  simp only [Lib.indexByte]
  have e1 := e 60 (by omega); have e2 := e 62 (by omega); have e3 := e 61 (by omega); have e4 := e 33 (by omega)
  simp only [show (Nat.toUInt8 60) = 60 from rfl, show (Nat.toUInt8 62) = 62 from rfl, show (Nat.toUInt8 61) = 61 from rfl, show (Nat.toUInt8 33) = 33 from rfl] at e1 e2 e3 e4
  simp only [e1, e2, e3, e4]
  by_cases a : c % 256 = 60 <;> by_cases b : c % 256 = 62 <;> by_cases d : c % 256 = 61 <;> by_cases f : c % 256 = 33 <;> simp [a, b, d, f]

set_option maxHeartbeats 1000000 in
set_option maxRecDepth 100000 in
theorem read_none (s : ByteArray) (i : Nat) (w : World) (hs : s.size ≤ 140737488351232) (hi : i < s.size) (h0 : cls s[i].toNat ≠ 2 ∧ cls s[i].toNat ≠ 3 ∧ cls s[i].toNat ≠ 4) :
    Calls Tryd.prog 20 #[.string s, .int .i64 i] w fun e w' => e = .returned (.tuple #[.agg #[.int .i64 0, .string ⟨#[]⟩, .int .i64 0, .int .i64 0], .int .i64 i, .int .i64 7]) ∧ Below w.heap.size w w' := by
  have hc0 : 0 ≤ ((s[i].toNat : Nat) : Int) := by omega
  have hc1 : ((s[i].toNat : Nat) : Int) < 256 := by have := s[i].toNat_lt; omega
  have hx := fun w => index_cls w _ hc0 hc1
  have e2 : (((cls s[i].toNat : Nat) : Int) == 2) = false := by simp; omega
  have e3 : (((cls s[i].toNat : Nat) : Int) == 3) = false := by simp; omega
  have e4 : (((cls s[i].toNat : Nat) : Int) == 4) = false := by simp; omega
  clear h0
  go_enter Tryd.func20, Tryd.ntmps20
  go_upto_region 1 with (fail)
  go_cut [16] (fun v16 wc => v16 = .int .u8 ((cls s[i].toNat : Nat) : Int) ∧ ∃ w1, wc = w1 ∧ Below (w.heap.size + 1) (w.alloc tok0) w1)
  case first =>
    go_region_with (go_at_call 26; refine (classes_any _).mono ?_; rintro e w1 ⟨rfl, hb1⟩)
    all_goals go_wp2_with fail
    all_goals go_meet
    all_goals (case rel => exact ⟨rfl, _, rfl, by simpa using bdrew hb1⟩)
  case rest =>
    obtain ⟨rfl, w1, rfl, HB⟩ := hcut
    obtain ⟨q0, q1, q2, q3, f0, f1, f2, f3, hz⟩ := tokcells HB
    go_wp2_with fail
    all_goals refine bodyPost_ret (v := .tuple #[.agg #[.int .i64 0, .string ⟨#[]⟩, .int .i64 0, .int .i64 0], .int .i64 i, .int .i64 7]) (by simp [results, Tryd.results20, go_sem, q0, q1, q2, q3]) rfl ⟨rfl, ?_⟩
    all_goals exact tokbelow HB _ _ _ _

set_option maxHeartbeats 1000000 in
set_option maxRecDepth 100000 in
theorem read_two (s : ByteArray) (i : Nat) (w : World) (hs : s.size ≤ 140737488351232) (hi : i < s.size) (h4 : cls s[i].toNat = 4) (k : Nat) (hq : Lib.indexByte [60, 62, 61, 33] ((s[i].toNat : Nat) : Int).toNat.toUInt8 = k) (hn : i + 1 < s.size) (h61 : s[i + 1].toNat = 61) :
    Calls Tryd.prog 20 #[.string s, .int .i64 i] w fun e w' => e = .returned (.tuple #[.agg #[.int .i64 3, .string (s.extract i (i + 1 + 1)), .int .i64 0, .int .i64 i], .int .i64 (i + 1 + 1 : Nat), .int .i64 0]) ∧ Below w.heap.size w w' := by
  have hc0 : 0 ≤ ((s[i].toNat : Nat) : Int) := by omega
  have hc1 : ((s[i].toNat : Nat) : Int) < 256 := by have := s[i].toNat_lt; omega
  have hx := fun w => index_cls w _ hc0 hc1
  have e2 : (((cls s[i].toNat : Nat) : Int) == 2) = false := by simp [h4]
  have e3 : (((cls s[i].toNat : Nat) : Int) == 3) = false := by simp [h4]
  have e4 : (((cls s[i].toNat : Nat) : Int) == 4) = true := by simp [h4]
  have H4 := Lib.hid h4
  clear h4
  have hk := fun w => Tryd.strings_IndexByte ⟨#[60, 62, 61, 33]⟩ ((s[i].toNat : Nat) : Int) w
  have hl0 : (⟨#[60, 62, 61, 33]⟩ : ByteArray).data.toList = [60, 62, 61, 33] := rfl
  rw [hl0, hq] at hk
  have HK := Lib.hid hk
  clear hk hl0
  have HQ := Lib.hid hq
  clear hq
  have e61 : (((s[i + 1].toNat : Nat) : Int) == 61) = true := by simp [h61]
  have es : ((s.extract i (i + 1 + 1)).toList == [33]) = false := by rw [ext2 s i hn]; simp
  have g0 := eq_true (show (0 : Int) ≤ (i : Int) by omega)
  have g1 := eq_true (show (i : Int) ≤ (i : Int) + 1 + 1 by omega)
  have g2 := eq_true (show (i : Int) + 1 + 1 ≤ (s.size : Int) by omega)
  have H61 := Lib.hid h61
  clear h61

  go_enter Tryd.func20, Tryd.ntmps20
  go_upto_region 1 with (fail)
  go_cut [16] (fun v16 wc => v16 = .int .u8 ((cls s[i].toNat : Nat) : Int) ∧ ∃ w1, wc = w1 ∧ Below (w.heap.size + 1) (w.alloc tok0) w1)
  case first =>
    go_region_with (go_at_call 26; refine (classes_any _).mono ?_; rintro e w1 ⟨rfl, hb1⟩)
    all_goals go_wp2_with fail
    all_goals go_meet
    all_goals (case rel => exact ⟨rfl, _, rfl, by simpa using bdrew hb1⟩)
  case rest =>
    obtain ⟨rfl, w1, rfl, HB⟩ := hcut
    obtain ⟨q0, q1, q2, q3, f0, f1, f2, f3, hz⟩ := tokcells HB
    go_wp2_with (go_at_call 32; refine (HK.out _).mono ?_; rintro e w2 ⟨rfl, rfl⟩)
    all_goals refine bodyPost_ret (v := .tuple #[.agg #[.int .i64 3, .string (s.extract i (i + 1 + 1)), .int .i64 0, .int .i64 i], .int .i64 (i + 1 + 1 : Nat), .int .i64 0]) (by simp [results, Tryd.results20, go_sem, q0, q1, q2, q3]) rfl ⟨rfl, ?_⟩
    all_goals exact tokbelow HB _ _ _ _

set_option maxHeartbeats 1000000 in
set_option maxRecDepth 100000 in
theorem read_one_a (s : ByteArray) (i : Nat) (w : World) (hs : s.size ≤ 140737488351232) (hi : i < s.size) (h4 : cls s[i].toNat = 4) (h33 : s[i].toNat ≠ 33) (hq : Lib.indexByte [60, 62, 61, 33] ((s[i].toNat : Nat) : Int).toNat.toUInt8 = -1) :
    Calls Tryd.prog 20 #[.string s, .int .i64 i] w fun e w' => e = .returned (.tuple #[.agg #[.int .i64 3, .string (s.extract i (i + 1)), .int .i64 0, .int .i64 i], .int .i64 (i + 1 : Nat), .int .i64 0]) ∧ Below w.heap.size w w' := by
  have hc0 : 0 ≤ ((s[i].toNat : Nat) : Int) := by omega
  have hc1 : ((s[i].toNat : Nat) : Int) < 256 := by have := s[i].toNat_lt; omega
  have hx := fun w => index_cls w _ hc0 hc1
  have e2 : (((cls s[i].toNat : Nat) : Int) == 2) = false := by simp [h4]
  have e3 : (((cls s[i].toNat : Nat) : Int) == 3) = false := by simp [h4]
  have e4 : (((cls s[i].toNat : Nat) : Int) == 4) = true := by simp [h4]
  have H4 := Lib.hid h4
  clear h4
  have hk := fun w => Tryd.strings_IndexByte ⟨#[60, 62, 61, 33]⟩ ((s[i].toNat : Nat) : Int) w
  have hl0 : (⟨#[60, 62, 61, 33]⟩ : ByteArray).data.toList = [60, 62, 61, 33] := rfl
  rw [hl0, hq] at hk
  have HK := Lib.hid hk
  clear hk hl0
  have HQ := Lib.hid hq
  clear hq
  have es : ((s.extract i (i + 1)).toList == [33]) = false := by rw [ext1 s i hi]; simp [← UInt8.toNat_inj, h33]
  have g0 := eq_true (show (0 : Int) ≤ (i : Int) by omega)
  have g1 := eq_true (show (i : Int) ≤ (i : Int) + 1 by omega)
  have g2 := eq_true (show (i : Int) + 1 ≤ (s.size : Int) by omega)
  clear h33

  go_enter Tryd.func20, Tryd.ntmps20
  go_upto_region 1 with (fail)
  go_cut [16] (fun v16 wc => v16 = .int .u8 ((cls s[i].toNat : Nat) : Int) ∧ ∃ w1, wc = w1 ∧ Below (w.heap.size + 1) (w.alloc tok0) w1)
  case first =>
    go_region_with (go_at_call 26; refine (classes_any _).mono ?_; rintro e w1 ⟨rfl, hb1⟩)
    all_goals go_wp2_with fail
    all_goals go_meet
    all_goals (case rel => exact ⟨rfl, _, rfl, by simpa using bdrew hb1⟩)
  case rest =>
    obtain ⟨rfl, w1, rfl, HB⟩ := hcut
    obtain ⟨q0, q1, q2, q3, f0, f1, f2, f3, hz⟩ := tokcells HB
    go_wp2_with (go_at_call 32; refine (HK.out _).mono ?_; rintro e w2 ⟨rfl, rfl⟩)
    all_goals refine bodyPost_ret (v := .tuple #[.agg #[.int .i64 3, .string (s.extract i (i + 1)), .int .i64 0, .int .i64 i], .int .i64 (i + 1 : Nat), .int .i64 0]) (by simp [results, Tryd.results20, go_sem, q0, q1, q2, q3]) rfl ⟨rfl, ?_⟩
    all_goals exact tokbelow HB _ _ _ _

set_option maxHeartbeats 1000000 in
set_option maxRecDepth 100000 in
theorem read_one_b (s : ByteArray) (i : Nat) (w : World) (hs : s.size ≤ 140737488351232) (hi : i < s.size) (h4 : cls s[i].toNat = 4) (h33 : s[i].toNat ≠ 33) (k : Nat) (hq : Lib.indexByte [60, 62, 61, 33] ((s[i].toNat : Nat) : Int).toNat.toUInt8 = k) (hn : ¬ i + 1 < s.size) :
    Calls Tryd.prog 20 #[.string s, .int .i64 i] w fun e w' => e = .returned (.tuple #[.agg #[.int .i64 3, .string (s.extract i (i + 1)), .int .i64 0, .int .i64 i], .int .i64 (i + 1 : Nat), .int .i64 0]) ∧ Below w.heap.size w w' := by
  have hc0 : 0 ≤ ((s[i].toNat : Nat) : Int) := by omega
  have hc1 : ((s[i].toNat : Nat) : Int) < 256 := by have := s[i].toNat_lt; omega
  have hx := fun w => index_cls w _ hc0 hc1
  have e2 : (((cls s[i].toNat : Nat) : Int) == 2) = false := by simp [h4]
  have e3 : (((cls s[i].toNat : Nat) : Int) == 3) = false := by simp [h4]
  have e4 : (((cls s[i].toNat : Nat) : Int) == 4) = true := by simp [h4]
  have H4 := Lib.hid h4
  clear h4
  have hk := fun w => Tryd.strings_IndexByte ⟨#[60, 62, 61, 33]⟩ ((s[i].toNat : Nat) : Int) w
  have hl0 : (⟨#[60, 62, 61, 33]⟩ : ByteArray).data.toList = [60, 62, 61, 33] := rfl
  rw [hl0, hq] at hk
  have HK := Lib.hid hk
  clear hk hl0
  have HQ := Lib.hid hq
  clear hq
  have es : ((s.extract i (i + 1)).toList == [33]) = false := by rw [ext1 s i hi]; simp [← UInt8.toNat_inj, h33]
  have g0 := eq_true (show (0 : Int) ≤ (i : Int) by omega)
  have g1 := eq_true (show (i : Int) ≤ (i : Int) + 1 by omega)
  have g2 := eq_true (show (i : Int) + 1 ≤ (s.size : Int) by omega)
  clear h33

  go_enter Tryd.func20, Tryd.ntmps20
  go_upto_region 1 with (fail)
  go_cut [16] (fun v16 wc => v16 = .int .u8 ((cls s[i].toNat : Nat) : Int) ∧ ∃ w1, wc = w1 ∧ Below (w.heap.size + 1) (w.alloc tok0) w1)
  case first =>
    go_region_with (go_at_call 26; refine (classes_any _).mono ?_; rintro e w1 ⟨rfl, hb1⟩)
    all_goals go_wp2_with fail
    all_goals go_meet
    all_goals (case rel => exact ⟨rfl, _, rfl, by simpa using bdrew hb1⟩)
  case rest =>
    obtain ⟨rfl, w1, rfl, HB⟩ := hcut
    obtain ⟨q0, q1, q2, q3, f0, f1, f2, f3, hz⟩ := tokcells HB
    go_wp2_with (go_at_call 32; refine (HK.out _).mono ?_; rintro e w2 ⟨rfl, rfl⟩)
    all_goals refine bodyPost_ret (v := .tuple #[.agg #[.int .i64 3, .string (s.extract i (i + 1)), .int .i64 0, .int .i64 i], .int .i64 (i + 1 : Nat), .int .i64 0]) (by simp [results, Tryd.results20, go_sem, q0, q1, q2, q3]) rfl ⟨rfl, ?_⟩
    all_goals exact tokbelow HB _ _ _ _

set_option maxHeartbeats 1000000 in
set_option maxRecDepth 100000 in
theorem read_bad_b (s : ByteArray) (i : Nat) (w : World) (hs : s.size ≤ 140737488351232) (hi : i < s.size) (h4 : cls s[i].toNat = 4) (h33 : s[i].toNat = 33) (k : Nat) (hq : Lib.indexByte [60, 62, 61, 33] ((s[i].toNat : Nat) : Int).toNat.toUInt8 = k) (hn : ¬ i + 1 < s.size) :
    Calls Tryd.prog 20 #[.string s, .int .i64 i] w fun e w' => e = .returned (.tuple #[.agg #[.int .i64 0, .string ⟨#[]⟩, .int .i64 0, .int .i64 0], .int .i64 i, .int .i64 7]) ∧ Below w.heap.size w w' := by
  have hc0 : 0 ≤ ((s[i].toNat : Nat) : Int) := by omega
  have hc1 : ((s[i].toNat : Nat) : Int) < 256 := by have := s[i].toNat_lt; omega
  have hx := fun w => index_cls w _ hc0 hc1
  have e2 : (((cls s[i].toNat : Nat) : Int) == 2) = false := by simp [h4]
  have e3 : (((cls s[i].toNat : Nat) : Int) == 3) = false := by simp [h4]
  have e4 : (((cls s[i].toNat : Nat) : Int) == 4) = true := by simp [h4]
  have H4 := Lib.hid h4
  clear h4
  have hk := fun w => Tryd.strings_IndexByte ⟨#[60, 62, 61, 33]⟩ ((s[i].toNat : Nat) : Int) w
  have hl0 : (⟨#[60, 62, 61, 33]⟩ : ByteArray).data.toList = [60, 62, 61, 33] := rfl
  rw [hl0, hq] at hk
  have HK := Lib.hid hk
  clear hk hl0
  have HQ := Lib.hid hq
  clear hq
  have es : ((s.extract i (i + 1)).toList == [33]) = true := by rw [ext1 s i hi]; simp [← UInt8.toNat_inj, h33]
  have g0 := eq_true (show (0 : Int) ≤ (i : Int) by omega)
  have g1 := eq_true (show (i : Int) ≤ (i : Int) + 1 by omega)
  have g2 := eq_true (show (i : Int) + 1 ≤ (s.size : Int) by omega)
  have H33 := Lib.hid h33
  clear h33

  go_enter Tryd.func20, Tryd.ntmps20
  go_upto_region 1 with (fail)
  go_cut [16] (fun v16 wc => v16 = .int .u8 ((cls s[i].toNat : Nat) : Int) ∧ ∃ w1, wc = w1 ∧ Below (w.heap.size + 1) (w.alloc tok0) w1)
  case first =>
    go_region_with (go_at_call 26; refine (classes_any _).mono ?_; rintro e w1 ⟨rfl, hb1⟩)
    all_goals go_wp2_with fail
    all_goals go_meet
    all_goals (case rel => exact ⟨rfl, _, rfl, by simpa using bdrew hb1⟩)
  case rest =>
    obtain ⟨rfl, w1, rfl, HB⟩ := hcut
    obtain ⟨q0, q1, q2, q3, f0, f1, f2, f3, hz⟩ := tokcells HB
    go_wp2_with (go_at_call 32; refine (HK.out _).mono ?_; rintro e w2 ⟨rfl, rfl⟩)
    all_goals refine bodyPost_ret (v := .tuple #[.agg #[.int .i64 0, .string ⟨#[]⟩, .int .i64 0, .int .i64 0], .int .i64 i, .int .i64 7]) (by simp [results, Tryd.results20, go_sem, q0, q1, q2, q3]) rfl ⟨rfl, ?_⟩
    all_goals exact tokbelow HB _ _ _ _

set_option maxHeartbeats 1000000 in
set_option maxRecDepth 100000 in
theorem read_one_c (s : ByteArray) (i : Nat) (w : World) (hs : s.size ≤ 140737488351232) (hi : i < s.size) (h4 : cls s[i].toNat = 4) (h33 : s[i].toNat ≠ 33) (k : Nat) (hq : Lib.indexByte [60, 62, 61, 33] ((s[i].toNat : Nat) : Int).toNat.toUInt8 = k) (hn : i + 1 < s.size) (h61 : ¬ s[i + 1].toNat = 61) :
    Calls Tryd.prog 20 #[.string s, .int .i64 i] w fun e w' => e = .returned (.tuple #[.agg #[.int .i64 3, .string (s.extract i (i + 1)), .int .i64 0, .int .i64 i], .int .i64 (i + 1 : Nat), .int .i64 0]) ∧ Below w.heap.size w w' := by
  have hc0 : 0 ≤ ((s[i].toNat : Nat) : Int) := by omega
  have hc1 : ((s[i].toNat : Nat) : Int) < 256 := by have := s[i].toNat_lt; omega
  have hx := fun w => index_cls w _ hc0 hc1
  have e2 : (((cls s[i].toNat : Nat) : Int) == 2) = false := by simp [h4]
  have e3 : (((cls s[i].toNat : Nat) : Int) == 3) = false := by simp [h4]
  have e4 : (((cls s[i].toNat : Nat) : Int) == 4) = true := by simp [h4]
  have H4 := Lib.hid h4
  clear h4
  have hk := fun w => Tryd.strings_IndexByte ⟨#[60, 62, 61, 33]⟩ ((s[i].toNat : Nat) : Int) w
  have hl0 : (⟨#[60, 62, 61, 33]⟩ : ByteArray).data.toList = [60, 62, 61, 33] := rfl
  rw [hl0, hq] at hk
  have HK := Lib.hid hk
  clear hk hl0
  have HQ := Lib.hid hq
  clear hq
  have e61 : (((s[i + 1].toNat : Nat) : Int) == 61) = false := by simp; omega
  have es : ((s.extract i (i + 1)).toList == [33]) = false := by rw [ext1 s i hi]; simp [← UInt8.toNat_inj, h33]
  have g0 := eq_true (show (0 : Int) ≤ (i : Int) by omega)
  have g1 := eq_true (show (i : Int) ≤ (i : Int) + 1 by omega)
  have g2 := eq_true (show (i : Int) + 1 ≤ (s.size : Int) by omega)
  clear h33

  go_enter Tryd.func20, Tryd.ntmps20
  go_upto_region 1 with (fail)
  go_cut [16] (fun v16 wc => v16 = .int .u8 ((cls s[i].toNat : Nat) : Int) ∧ ∃ w1, wc = w1 ∧ Below (w.heap.size + 1) (w.alloc tok0) w1)
  case first =>
    go_region_with (go_at_call 26; refine (classes_any _).mono ?_; rintro e w1 ⟨rfl, hb1⟩)
    all_goals go_wp2_with fail
    all_goals go_meet
    all_goals (case rel => exact ⟨rfl, _, rfl, by simpa using bdrew hb1⟩)
  case rest =>
    obtain ⟨rfl, w1, rfl, HB⟩ := hcut
    obtain ⟨q0, q1, q2, q3, f0, f1, f2, f3, hz⟩ := tokcells HB
    go_wp2_with (go_at_call 32; refine (HK.out _).mono ?_; rintro e w2 ⟨rfl, rfl⟩)
    all_goals refine bodyPost_ret (v := .tuple #[.agg #[.int .i64 3, .string (s.extract i (i + 1)), .int .i64 0, .int .i64 i], .int .i64 (i + 1 : Nat), .int .i64 0]) (by simp [results, Tryd.results20, go_sem, q0, q1, q2, q3]) rfl ⟨rfl, ?_⟩
    all_goals exact tokbelow HB _ _ _ _

set_option maxHeartbeats 1000000 in
set_option maxRecDepth 100000 in
theorem read_bad_c (s : ByteArray) (i : Nat) (w : World) (hs : s.size ≤ 140737488351232) (hi : i < s.size) (h4 : cls s[i].toNat = 4) (h33 : s[i].toNat = 33) (k : Nat) (hq : Lib.indexByte [60, 62, 61, 33] ((s[i].toNat : Nat) : Int).toNat.toUInt8 = k) (hn : i + 1 < s.size) (h61 : ¬ s[i + 1].toNat = 61) :
    Calls Tryd.prog 20 #[.string s, .int .i64 i] w fun e w' => e = .returned (.tuple #[.agg #[.int .i64 0, .string ⟨#[]⟩, .int .i64 0, .int .i64 0], .int .i64 i, .int .i64 7]) ∧ Below w.heap.size w w' := by
  have hc0 : 0 ≤ ((s[i].toNat : Nat) : Int) := by omega
  have hc1 : ((s[i].toNat : Nat) : Int) < 256 := by have := s[i].toNat_lt; omega
  have hx := fun w => index_cls w _ hc0 hc1
  have e2 : (((cls s[i].toNat : Nat) : Int) == 2) = false := by simp [h4]
  have e3 : (((cls s[i].toNat : Nat) : Int) == 3) = false := by simp [h4]
  have e4 : (((cls s[i].toNat : Nat) : Int) == 4) = true := by simp [h4]
  have H4 := Lib.hid h4
  clear h4
  have hk := fun w => Tryd.strings_IndexByte ⟨#[60, 62, 61, 33]⟩ ((s[i].toNat : Nat) : Int) w
  have hl0 : (⟨#[60, 62, 61, 33]⟩ : ByteArray).data.toList = [60, 62, 61, 33] := rfl
  rw [hl0, hq] at hk
  have HK := Lib.hid hk
  clear hk hl0
  have HQ := Lib.hid hq
  clear hq
  have e61 : (((s[i + 1].toNat : Nat) : Int) == 61) = false := by simp; omega
  have es : ((s.extract i (i + 1)).toList == [33]) = true := by rw [ext1 s i hi]; simp [← UInt8.toNat_inj, h33]
  have g0 := eq_true (show (0 : Int) ≤ (i : Int) by omega)
  have g1 := eq_true (show (i : Int) ≤ (i : Int) + 1 by omega)
  have g2 := eq_true (show (i : Int) + 1 ≤ (s.size : Int) by omega)
  have H33 := Lib.hid h33
  clear h33

  go_enter Tryd.func20, Tryd.ntmps20
  go_upto_region 1 with (fail)
  go_cut [16] (fun v16 wc => v16 = .int .u8 ((cls s[i].toNat : Nat) : Int) ∧ ∃ w1, wc = w1 ∧ Below (w.heap.size + 1) (w.alloc tok0) w1)
  case first =>
    go_region_with (go_at_call 26; refine (classes_any _).mono ?_; rintro e w1 ⟨rfl, hb1⟩)
    all_goals go_wp2_with fail
    all_goals go_meet
    all_goals (case rel => exact ⟨rfl, _, rfl, by simpa using bdrew hb1⟩)
  case rest =>
    obtain ⟨rfl, w1, rfl, HB⟩ := hcut
    obtain ⟨q0, q1, q2, q3, f0, f1, f2, f3, hz⟩ := tokcells HB
    go_wp2_with (go_at_call 32; refine (HK.out _).mono ?_; rintro e w2 ⟨rfl, rfl⟩)
    all_goals refine bodyPost_ret (v := .tuple #[.agg #[.int .i64 0, .string ⟨#[]⟩, .int .i64 0, .int .i64 0], .int .i64 i, .int .i64 7]) (by simp [results, Tryd.results20, go_sem, q0, q1, q2, q3]) rfl ⟨rfl, ?_⟩
    all_goals exact tokbelow HB _ _ _ _
end Go.Proofs.YtgkpjfbghjojoaaDoor.X
