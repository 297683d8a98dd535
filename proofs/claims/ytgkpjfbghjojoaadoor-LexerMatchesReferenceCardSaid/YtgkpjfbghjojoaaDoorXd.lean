import Derived.Lib.AtoiAll
import Derived.Test.YtgkpjfbghjojoaaDoorXc
namespace Go.Proofs.YtgkpjfbghjojoaaDoor.X
open QLex Go.Shelf Go.RowKit Go.Proofs.YtgkpjfbghjojoaaDoorW.PrintWords Go.Proofs.YtgkpjfbghjojoaaDoorW.PrintLast Go.Proofs.YtgkpjfbghjojoaaDoorW.PrintMore
set_option linter.unusedVariables false
set_option linter.unusedSimpArgs false

theorem decFrom_ge (l : List UInt8) : ∀ acc, acc ≤ decFrom acc l := by
  induction l with
  | nil => intro acc; exact Nat.le_refl _
  | cons c r ih => intro acc; have := ih (acc * 10 + (c.toNat - 48)); simp only [decFrom, List.foldl_cons] at this ⊢; omega
theorem parse_digits (l : List UInt8) : ∀ acc, acc < 18446744073709551616 → (∀ c ∈ l, 48 ≤ c.toNat ∧ c.toNat ≤ 57) →
    Lib.parseUint10 acc l = if decFrom acc l < 18446744073709551616 then .ok (decFrom acc l) else .range := by
  induction l with
  | nil => intro acc h _; simp [Lib.parseUint10, decFrom, h]
  | cons c r ih =>
    intro acc h hd
    have hc := hd c (by simp)
    have hg := decFrom_ge r (acc * 10 + (c.toNat - 48))
    have e : decFrom acc (c :: r) = decFrom (acc * 10 + (c.toNat - 48)) r := rfl
    rw [e]
    simp only [Lib.parseUint10, if_pos hc]
    by_cases h1 : 1844674407370955162 ≤ acc
    · rw [if_pos h1, if_neg (by omega)]
    · rw [if_neg h1]
      by_cases h2 : 18446744073709551616 ≤ acc * 10 + (c.toNat - 48)
      · rw [if_pos h2, if_neg (by omega)]
      · rw [if_neg h2]; exact ih _ (by omega) (fun c h => hd c (by simp [h]))
theorem atoi_digits (l : List UInt8) (h0 : l ≠ []) (hd : ∀ c ∈ l, 48 ≤ c.toNat ∧ c.toNat ≤ 57) :
    Lib.atoiAll l = if decVal l < 9223372036854775808 then .ok (decVal l : Int) else .range := by
  cases l with
  | nil => exact absurd rfl h0
  | cons c r =>
    have hc := hd c (by simp)
    have hp := parse_digits (c :: r) 0 (by omega) hd
    have hm : Lib.parseMag (c :: r) = if decVal (c :: r) < 18446744073709551616 then .ok (decVal (c :: r)) else .range := by
      unfold Lib.parseMag; rw [if_neg (by simp)]; exact hp
    have n1 : ¬ (c.toNat = 43 ∨ c.toNat = 45) := by omega
    have n2 : ¬ c.toNat = 45 := by omega
    simp only [Lib.atoiAll, if_neg n1, hm]
    by_cases h : decVal (c :: r) < 18446744073709551616
    · rw [if_pos h]
      by_cases h3 : decVal (c :: r) < 9223372036854775808
      · rw [if_pos h3]; simp [n2, h3]
      · rw [if_neg h3]; simp [n2]; omega
    · rw [if_neg h, if_neg (by omega)]
theorem spanN_all (p : Int → Bool) (s : ByteArray) (i : Nat) : ∀ j (h : j < s.size), i ≤ j → j < spanN p s i → p (s[j].toNat : Int) = true := by
  fun_induction spanN p s i with
  | case1 i h hp ih => intro j hj h1 h2; rcases Nat.eq_or_lt_of_le h1 with rfl | h3; exact hp; exact ih j hj h3 h2
  | case2 i h hp => intro j hj h1 h2; omega
  | case3 i h => intro j hj h1 h2; omega
theorem digB_iff (c : Nat) : digB (c : Int) = true ↔ 48 ≤ c ∧ c ≤ 57 := by
  simp only [digB, Int.toNat_natCast, beq_iff_eq]
  unfold cls
  constructor
  · intro h; split at h; · simp at h
    split at h; · simp at h
    split at h; · assumption
    split at h <;> simp at h
  · intro h; rw [if_neg (by omega), if_neg (by omega), if_pos h]; rfl
theorem ext_digits (s : ByteArray) (i : Nat) : ∀ c ∈ (s.extract i (spanN digB s i)).data.toList, 48 ≤ c.toNat ∧ c.toNat ≤ 57 := by
  intro c hc
  rw [ByteArray.data_extract] at hc
  obtain ⟨k, hk, rfl⟩ := List.getElem_of_mem hc
  rw [Array.length_toList, Array.size_extract] at hk
  rw [Array.getElem_toList, Array.getElem_extract]
  have hk2 : i + k < s.size := by show i + k < s.data.size; omega
  exact (digB_iff _).mp (spanN_all digB s i (i + k) hk2 (by omega) (by omega))
theorem ext_ne (s : ByteArray) (i j : Nat) (h : i < j) (hj : j ≤ s.size) : (s.extract i j).data.toList ≠ [] := by
  intro h0
  have h1 : (s.extract i j).data.toList.length = 0 := by rw [h0]; rfl
  rw [ByteArray.data_extract, Array.length_toList, Array.size_extract] at h1
  have : j ≤ s.data.size := hj
  omega
theorem keeps_glob {w w2 : World} {v : Value} (hb : Below (w.heap.size + 1) (w.alloc tok0) w2) (hg : w.cell? ⟨1, 0, none⟩ = some v) : w2.cell? ⟨1, 0, none⟩ = some v := by
  have h := Lib.lt_of_cell hg
  have h' : 1 < w.heap.size := h
  rw [hb.cell (by show 1 < w.heap.size + 1; omega)]
  simpa [World.cell?_alloc_past, h'] using hg
theorem ext_size (s : ByteArray) (i j : Nat) (hj : j ≤ s.size) : (s.extract i j).size = j - i := by simp; omega

set_option maxHeartbeats 1000000 in
set_option maxRecDepth 100000 in
theorem read_zero (s : ByteArray) (i : Nat) (w : World) (hs : s.size ≤ 140737488351232) (hi : i < s.size) (h3 : cls s[i].toNat = 3) (hl : 1 < spanN digB s i - i) (h48 : s[i].toNat = 48) :
    Calls Tryd.prog 20 #[.string s, .int .i64 i] w fun e w' => e = .returned (.tuple #[.agg #[.int .i64 0, .string ⟨#[]⟩, .int .i64 0, .int .i64 0], .int .i64 i, .int .i64 7]) ∧ Below w.heap.size w w' := by
  have hc0 : 0 ≤ ((s[i].toNat : Nat) : Int) := by omega
  have hc1 : ((s[i].toNat : Nat) : Int) < 256 := by have := s[i].toNat_lt; omega
  have hx := fun w => index_cls w _ hc0 hc1
  have hge := spanN_ge digB s i
  have hlt : i < spanN digB s i := by rw [spanN, dif_pos hi, if_pos (by simp [digB, h3])]; exact spanN_ge _ _ _
  have hle := spanN_le digB s i (by omega)
  have e2 : (((cls s[i].toNat : Nat) : Int) == 2) = false := by simp [h3]
  have e3 : (((cls s[i].toNat : Nat) : Int) == 3) = true := by simp [h3]
  have H3 := Lib.hid h3
  clear h3
  have e48 : (((s[i].toNat : Nat) : Int) == 48) = true := by simp [h48]
  have H48 := Lib.hid h48
  clear h48
  go_enter Tryd.func20, Tryd.ntmps20
  go_upto_region 1 with (fail)
  go_cut [16] (fun v16 wc => v16 = .int .u8 ((cls s[i].toNat : Nat) : Int) ∧ ∃ w1, wc = w1 ∧ Below (w.heap.size + 1) (w.alloc tok0) w1)
  case first =>
    go_region_with (go_at_call 26; refine (classes_any _).mono ?_; rintro e w1 ⟨rfl, hb1⟩)
    all_goals go_wp2_with fail
    all_goals go_meet
    all_goals (case rel => exact ⟨rfl, _, rfl, by simpa using bdrew hb1⟩)
  case rest =>
    obtain ⟨rfl, w1, rfl, hb1⟩ := hcut
    go_wp2_with (go_at_call 27; refine (span_dig s i _ hs (by omega)).mono ?_; rintro e w2 ⟨rfl, hb2⟩; have HB := hb1.trans (hb2.mono (by simpa using hb1.size)); clear hb1 hb2; obtain ⟨q0, q1, q2, q3, f0, f1, f2, f3, hz⟩ := tokcells HB)
    all_goals refine bodyPost_ret (v := .tuple #[.agg #[.int .i64 0, .string ⟨#[]⟩, .int .i64 0, .int .i64 0], .int .i64 i, .int .i64 7]) (by simp [results, Tryd.results20, go_sem, q0, q1, q2, q3]) rfl ⟨rfl, ?_⟩
    all_goals exact tokbelow HB _ _ _ _

set_option maxHeartbeats 1000000 in
set_option maxRecDepth 100000 in
theorem read_num_a (s : ByteArray) (i : Nat) (w : World) (hs : s.size ≤ 140737488351232) (hi : i < s.size) (h3 : cls s[i].toNat = 3) (hl : ¬ 1 < spanN digB s i - i) (v : Nat) (hve : decVal (s.extract i (spanN digB s i)).data.toList = v) (hv2 : v ≤ 1000000000) :
    Calls Tryd.prog 20 #[.string s, .int .i64 i] w fun e w' => e = .returned (.tuple #[.agg #[.int .i64 2, .string ⟨#[]⟩, .int .i64 v, .int .i64 i], .int .i64 (spanN digB s i), .int .i64 0]) ∧ Below w.heap.size w w' := by
  have hc0 : 0 ≤ ((s[i].toNat : Nat) : Int) := by omega
  have hc1 : ((s[i].toNat : Nat) : Int) < 256 := by have := s[i].toNat_lt; omega
  have hx := fun w => index_cls w _ hc0 hc1
  have hge := spanN_ge digB s i
  have hlt : i < spanN digB s i := by rw [spanN, dif_pos hi, if_pos (by simp [digB, h3])]; exact spanN_ge _ _ _
  have hle := spanN_le digB s i (by omega)
  have e2 : (((cls s[i].toNat : Nat) : Int) == 2) = false := by simp [h3]
  have e3 : (((cls s[i].toNat : Nat) : Int) == 3) = true := by simp [h3]
  have H3 := Lib.hid h3
  clear h3
  have hv := Tryd.strconv_Atoi_ok (s.extract i (spanN digB s i)) (by rw [ext_size _ _ _ hle]; omega) v (by rw [atoi_digits _ (ext_ne s _ _ hlt hle) (ext_digits s i), hve, if_pos (by omega)])
  have HV := Lib.hid hv
  clear hv
  have HE := Lib.hid hve
  clear hve
  have hv0 : 0 ≤ (v : Int) := by omega

  go_enter Tryd.func20, Tryd.ntmps20
  go_upto_region 1 with (fail)
  go_cut [16] (fun v16 wc => v16 = .int .u8 ((cls s[i].toNat : Nat) : Int) ∧ ∃ w1, wc = w1 ∧ Below (w.heap.size + 1) (w.alloc tok0) w1)
  case first =>
    go_region_with (go_at_call 26; refine (classes_any _).mono ?_; rintro e w1 ⟨rfl, hb1⟩)
    all_goals go_wp2_with fail
    all_goals go_meet
    all_goals (case rel => exact ⟨rfl, _, rfl, by simpa using bdrew hb1⟩)
  case rest =>
    obtain ⟨rfl, w1, rfl, hb1⟩ := hcut
    go_wp2_with (first | (go_at_call 27; refine (span_dig s i _ hs (by omega)).mono ?_; rintro e w2 ⟨rfl, hb2⟩; have HB2 := hb1.trans (hb2.mono (by simpa using hb1.size)); clear hb1 hb2; obtain ⟨Q0, Q1, Q2, Q3, F0, F1, F2, F3, Z⟩ := tokcells HB2) | (go_at_call 31; refine (HV.out _).mono ?_; rintro e w3 ⟨rfl, hb3⟩; have hb3' : Below w2.heap.size w2 w3 := (by rcases hb3 with rfl | ⟨t, rfl⟩; exact Below.refl _ _; exact Lib.bytesWorld_below _ _ _); have HB := HB2.trans (hb3'.mono (by have := HB2.size; simp at this; omega)); clear HB2 hb3 hb3'; obtain ⟨q0, q1, q2, q3, f0, f1, f2, f3, hz⟩ := tokcells HB))
    all_goals refine bodyPost_ret (v := .tuple #[.agg #[.int .i64 2, .string ⟨#[]⟩, .int .i64 v, .int .i64 i], .int .i64 (spanN digB s i), .int .i64 0]) (by simp [results, Tryd.results20, go_sem, q0, q1, q2, q3]) rfl ⟨rfl, ?_⟩
    all_goals exact tokbelow HB _ _ _ _

set_option maxHeartbeats 1000000 in
set_option maxRecDepth 100000 in
theorem read_big_a (s : ByteArray) (i : Nat) (w : World) (hs : s.size ≤ 140737488351232) (hi : i < s.size) (h3 : cls s[i].toNat = 3) (hl : ¬ 1 < spanN digB s i - i) (v : Nat) (hve : decVal (s.extract i (spanN digB s i)).data.toList = v) (hv2 : 1000000000 < v) (hv1 : v < 9223372036854775808) :
    Calls Tryd.prog 20 #[.string s, .int .i64 i] w fun e w' => e = .returned (.tuple #[.agg #[.int .i64 0, .string ⟨#[]⟩, .int .i64 0, .int .i64 0], .int .i64 i, .int .i64 3]) ∧ Below w.heap.size w w' := by
  have hc0 : 0 ≤ ((s[i].toNat : Nat) : Int) := by omega
  have hc1 : ((s[i].toNat : Nat) : Int) < 256 := by have := s[i].toNat_lt; omega
  have hx := fun w => index_cls w _ hc0 hc1
  have hge := spanN_ge digB s i
  have hlt : i < spanN digB s i := by rw [spanN, dif_pos hi, if_pos (by simp [digB, h3])]; exact spanN_ge _ _ _
  have hle := spanN_le digB s i (by omega)
  have e2 : (((cls s[i].toNat : Nat) : Int) == 2) = false := by simp [h3]
  have e3 : (((cls s[i].toNat : Nat) : Int) == 3) = true := by simp [h3]
  have H3 := Lib.hid h3
  clear h3
  have hv := Tryd.strconv_Atoi_ok (s.extract i (spanN digB s i)) (by rw [ext_size _ _ _ hle]; omega) v (by rw [atoi_digits _ (ext_ne s _ _ hlt hle) (ext_digits s i), hve, if_pos (by omega)])
  have HV := Lib.hid hv
  clear hv
  have HE := Lib.hid hve
  clear hve
  have hv0 : 0 ≤ (v : Int) := by omega

  go_enter Tryd.func20, Tryd.ntmps20
  go_upto_region 1 with (fail)
  go_cut [16] (fun v16 wc => v16 = .int .u8 ((cls s[i].toNat : Nat) : Int) ∧ ∃ w1, wc = w1 ∧ Below (w.heap.size + 1) (w.alloc tok0) w1)
  case first =>
    go_region_with (go_at_call 26; refine (classes_any _).mono ?_; rintro e w1 ⟨rfl, hb1⟩)
    all_goals go_wp2_with fail
    all_goals go_meet
    all_goals (case rel => exact ⟨rfl, _, rfl, by simpa using bdrew hb1⟩)
  case rest =>
    obtain ⟨rfl, w1, rfl, hb1⟩ := hcut
    go_wp2_with (first | (go_at_call 27; refine (span_dig s i _ hs (by omega)).mono ?_; rintro e w2 ⟨rfl, hb2⟩; have HB2 := hb1.trans (hb2.mono (by simpa using hb1.size)); clear hb1 hb2; obtain ⟨Q0, Q1, Q2, Q3, F0, F1, F2, F3, Z⟩ := tokcells HB2) | (go_at_call 31; refine (HV.out _).mono ?_; rintro e w3 ⟨rfl, hb3⟩; have hb3' : Below w2.heap.size w2 w3 := (by rcases hb3 with rfl | ⟨t, rfl⟩; exact Below.refl _ _; exact Lib.bytesWorld_below _ _ _); have HB := HB2.trans (hb3'.mono (by have := HB2.size; simp at this; omega)); clear HB2 hb3 hb3'; obtain ⟨q0, q1, q2, q3, f0, f1, f2, f3, hz⟩ := tokcells HB))
    all_goals refine bodyPost_ret (v := .tuple #[.agg #[.int .i64 0, .string ⟨#[]⟩, .int .i64 0, .int .i64 0], .int .i64 i, .int .i64 3]) (by simp [results, Tryd.results20, go_sem, q0, q1, q2, q3]) rfl ⟨rfl, ?_⟩
    all_goals exact tokbelow HB _ _ _ _

set_option maxHeartbeats 1000000 in
set_option maxRecDepth 100000 in
theorem read_huge_a (s : ByteArray) (i : Nat) (w : World) (hs : s.size ≤ 140737488351232) (hi : i < s.size) (te : TypeId) (pe : Value) (hg : w.cell? ⟨1, 0, none⟩ = some (.iface te pe)) (h3 : cls s[i].toNat = 3) (hl : ¬ 1 < spanN digB s i - i) (v : Nat) (hve : decVal (s.extract i (spanN digB s i)).data.toList = v) (hv2 : 9223372036854775808 ≤ v) :
    Calls Tryd.prog 20 #[.string s, .int .i64 i] w fun e w' => e = .returned (.tuple #[.agg #[.int .i64 0, .string ⟨#[]⟩, .int .i64 0, .int .i64 0], .int .i64 i, .int .i64 3]) ∧ Below w.heap.size w w' := by
  have hc0 : 0 ≤ ((s[i].toNat : Nat) : Int) := by omega
  have hc1 : ((s[i].toNat : Nat) : Int) < 256 := by have := s[i].toNat_lt; omega
  have hx := fun w => index_cls w _ hc0 hc1
  have hge := spanN_ge digB s i
  have hlt : i < spanN digB s i := by rw [spanN, dif_pos hi, if_pos (by simp [digB, h3])]; exact spanN_ge _ _ _
  have hle := spanN_le digB s i (by omega)
  have e2 : (((cls s[i].toNat : Nat) : Int) == 2) = false := by simp [h3]
  have e3 : (((cls s[i].toNat : Nat) : Int) == 3) = true := by simp [h3]
  have H3 := Lib.hid h3
  clear h3
  have hv := fun w hg => Tryd.strconv_Atoi_range (s.extract i (spanN digB s i)) (by rw [ext_size _ _ _ hle]; omega) (by rw [atoi_digits _ (ext_ne s _ _ hlt hle) (ext_digits s i), hve, if_neg (by omega)]) (.iface te pe) w hg (Or.inr ⟨te, pe, rfl⟩)
  have HV := Lib.hid hv
  clear hv
  have HE := Lib.hid hve
  clear hve
  have HG := Lib.hid hg
  clear hg
  generalize Lib.atoiSat (s.extract i (spanN digB s i)).data.toList = sat at HV

  go_enter Tryd.func20, Tryd.ntmps20
  go_upto_region 1 with (fail)
  go_cut [16] (fun v16 wc => v16 = .int .u8 ((cls s[i].toNat : Nat) : Int) ∧ ∃ w1, wc = w1 ∧ Below (w.heap.size + 1) (w.alloc tok0) w1)
  case first =>
    go_region_with (go_at_call 26; refine (classes_any _).mono ?_; rintro e w1 ⟨rfl, hb1⟩)
    all_goals go_wp2_with fail
    all_goals go_meet
    all_goals (case rel => exact ⟨rfl, _, rfl, by simpa using bdrew hb1⟩)
  case rest =>
    obtain ⟨rfl, w1, rfl, hb1⟩ := hcut
    go_wp2_with (first | (go_at_call 27; refine (span_dig s i _ hs (by omega)).mono ?_; rintro e w2 ⟨rfl, hb2⟩; have HB2 := hb1.trans (hb2.mono (by simpa using hb1.size)); clear hb1 hb2; obtain ⟨Q0, Q1, Q2, Q3, F0, F1, F2, F3, Z⟩ := tokcells HB2; have HG2 := Lib.hid (keeps_glob HB2 HG.out)) | (go_at_call 31; refine (HV.out _ HG2.out).mono ?_; rintro e w3 ⟨N, rfl, hN, hN2, hb3⟩; have HB := HB2.trans (hb3.mono (by have := HB2.size; simp at this; omega)); clear HB2 hb3 hN hN2; obtain ⟨q0, q1, q2, q3, f0, f1, f2, f3, hz⟩ := tokcells HB))
    all_goals refine bodyPost_ret (v := .tuple #[.agg #[.int .i64 0, .string ⟨#[]⟩, .int .i64 0, .int .i64 0], .int .i64 i, .int .i64 3]) (by simp [results, Tryd.results20, go_sem, q0, q1, q2, q3]) rfl ⟨rfl, ?_⟩
    all_goals exact tokbelow HB _ _ _ _

set_option maxHeartbeats 1000000 in
set_option maxRecDepth 100000 in
theorem read_num_b (s : ByteArray) (i : Nat) (w : World) (hs : s.size ≤ 140737488351232) (hi : i < s.size) (h3 : cls s[i].toNat = 3) (h48 : ¬ s[i].toNat = 48) (v : Nat) (hve : decVal (s.extract i (spanN digB s i)).data.toList = v) (hv2 : v ≤ 1000000000) :
    Calls Tryd.prog 20 #[.string s, .int .i64 i] w fun e w' => e = .returned (.tuple #[.agg #[.int .i64 2, .string ⟨#[]⟩, .int .i64 v, .int .i64 i], .int .i64 (spanN digB s i), .int .i64 0]) ∧ Below w.heap.size w w' := by
  have hc0 : 0 ≤ ((s[i].toNat : Nat) : Int) := by omega
  have hc1 : ((s[i].toNat : Nat) : Int) < 256 := by have := s[i].toNat_lt; omega
  have hx := fun w => index_cls w _ hc0 hc1
  have hge := spanN_ge digB s i
  have hlt : i < spanN digB s i := by rw [spanN, dif_pos hi, if_pos (by simp [digB, h3])]; exact spanN_ge _ _ _
  have hle := spanN_le digB s i (by omega)
  have e2 : (((cls s[i].toNat : Nat) : Int) == 2) = false := by simp [h3]
  have e3 : (((cls s[i].toNat : Nat) : Int) == 3) = true := by simp [h3]
  have H3 := Lib.hid h3
  clear h3
  have e48 : (((s[i].toNat : Nat) : Int) == 48) = false := by simp; omega
  have hv := Tryd.strconv_Atoi_ok (s.extract i (spanN digB s i)) (by rw [ext_size _ _ _ hle]; omega) v (by rw [atoi_digits _ (ext_ne s _ _ hlt hle) (ext_digits s i), hve, if_pos (by omega)])
  have HV := Lib.hid hv
  clear hv
  have HE := Lib.hid hve
  clear hve
  have hv0 : 0 ≤ (v : Int) := by omega

  go_enter Tryd.func20, Tryd.ntmps20
  go_upto_region 1 with (fail)
  go_cut [16] (fun v16 wc => v16 = .int .u8 ((cls s[i].toNat : Nat) : Int) ∧ ∃ w1, wc = w1 ∧ Below (w.heap.size + 1) (w.alloc tok0) w1)
  case first =>
    go_region_with (go_at_call 26; refine (classes_any _).mono ?_; rintro e w1 ⟨rfl, hb1⟩)
    all_goals go_wp2_with fail
    all_goals go_meet
    all_goals (case rel => exact ⟨rfl, _, rfl, by simpa using bdrew hb1⟩)
  case rest =>
    obtain ⟨rfl, w1, rfl, hb1⟩ := hcut
    go_wp2_with (first | (go_at_call 27; refine (span_dig s i _ hs (by omega)).mono ?_; rintro e w2 ⟨rfl, hb2⟩; have HB2 := hb1.trans (hb2.mono (by simpa using hb1.size)); clear hb1 hb2; obtain ⟨Q0, Q1, Q2, Q3, F0, F1, F2, F3, Z⟩ := tokcells HB2) | (go_at_call 31; refine (HV.out _).mono ?_; rintro e w3 ⟨rfl, hb3⟩; have hb3' : Below w2.heap.size w2 w3 := (by rcases hb3 with rfl | ⟨t, rfl⟩; exact Below.refl _ _; exact Lib.bytesWorld_below _ _ _); have HB := HB2.trans (hb3'.mono (by have := HB2.size; simp at this; omega)); clear HB2 hb3 hb3'; obtain ⟨q0, q1, q2, q3, f0, f1, f2, f3, hz⟩ := tokcells HB))
    all_goals refine bodyPost_ret (v := .tuple #[.agg #[.int .i64 2, .string ⟨#[]⟩, .int .i64 v, .int .i64 i], .int .i64 (spanN digB s i), .int .i64 0]) (by simp [results, Tryd.results20, go_sem, q0, q1, q2, q3]) rfl ⟨rfl, ?_⟩
    all_goals exact tokbelow HB _ _ _ _

set_option maxHeartbeats 1000000 in
set_option maxRecDepth 100000 in
theorem read_big_b (s : ByteArray) (i : Nat) (w : World) (hs : s.size ≤ 140737488351232) (hi : i < s.size) (h3 : cls s[i].toNat = 3) (h48 : ¬ s[i].toNat = 48) (v : Nat) (hve : decVal (s.extract i (spanN digB s i)).data.toList = v) (hv2 : 1000000000 < v) (hv1 : v < 9223372036854775808) :
    Calls Tryd.prog 20 #[.string s, .int .i64 i] w fun e w' => e = .returned (.tuple #[.agg #[.int .i64 0, .string ⟨#[]⟩, .int .i64 0, .int .i64 0], .int .i64 i, .int .i64 3]) ∧ Below w.heap.size w w' := by
  have hc0 : 0 ≤ ((s[i].toNat : Nat) : Int) := by omega
  have hc1 : ((s[i].toNat : Nat) : Int) < 256 := by have := s[i].toNat_lt; omega
  have hx := fun w => index_cls w _ hc0 hc1
  have hge := spanN_ge digB s i
  have hlt : i < spanN digB s i := by rw [spanN, dif_pos hi, if_pos (by simp [digB, h3])]; exact spanN_ge _ _ _
  have hle := spanN_le digB s i (by omega)
  have e2 : (((cls s[i].toNat : Nat) : Int) == 2) = false := by simp [h3]
  have e3 : (((cls s[i].toNat : Nat) : Int) == 3) = true := by simp [h3]
  have H3 := Lib.hid h3
  clear h3
  have e48 : (((s[i].toNat : Nat) : Int) == 48) = false := by simp; omega
  have hv := Tryd.strconv_Atoi_ok (s.extract i (spanN digB s i)) (by rw [ext_size _ _ _ hle]; omega) v (by rw [atoi_digits _ (ext_ne s _ _ hlt hle) (ext_digits s i), hve, if_pos (by omega)])
  have HV := Lib.hid hv
  clear hv
  have HE := Lib.hid hve
  clear hve
  have hv0 : 0 ≤ (v : Int) := by omega

  go_enter Tryd.func20, Tryd.ntmps20
  go_upto_region 1 with (fail)
  go_cut [16] (fun v16 wc => v16 = .int .u8 ((cls s[i].toNat : Nat) : Int) ∧ ∃ w1, wc = w1 ∧ Below (w.heap.size + 1) (w.alloc tok0) w1)
  case first =>
    go_region_with (go_at_call 26; refine (classes_any _).mono ?_; rintro e w1 ⟨rfl, hb1⟩)
    all_goals go_wp2_with fail
    all_goals go_meet
    all_goals (case rel => exact ⟨rfl, _, rfl, by simpa using bdrew hb1⟩)
  case rest =>
    obtain ⟨rfl, w1, rfl, hb1⟩ := hcut
    go_wp2_with (first | (go_at_call 27; refine (span_dig s i _ hs (by omega)).mono ?_; rintro e w2 ⟨rfl, hb2⟩; have HB2 := hb1.trans (hb2.mono (by simpa using hb1.size)); clear hb1 hb2; obtain ⟨Q0, Q1, Q2, Q3, F0, F1, F2, F3, Z⟩ := tokcells HB2) | (go_at_call 31; refine (HV.out _).mono ?_; rintro e w3 ⟨rfl, hb3⟩; have hb3' : Below w2.heap.size w2 w3 := (by rcases hb3 with rfl | ⟨t, rfl⟩; exact Below.refl _ _; exact Lib.bytesWorld_below _ _ _); have HB := HB2.trans (hb3'.mono (by have := HB2.size; simp at this; omega)); clear HB2 hb3 hb3'; obtain ⟨q0, q1, q2, q3, f0, f1, f2, f3, hz⟩ := tokcells HB))
    all_goals refine bodyPost_ret (v := .tuple #[.agg #[.int .i64 0, .string ⟨#[]⟩, .int .i64 0, .int .i64 0], .int .i64 i, .int .i64 3]) (by simp [results, Tryd.results20, go_sem, q0, q1, q2, q3]) rfl ⟨rfl, ?_⟩
    all_goals exact tokbelow HB _ _ _ _

set_option maxHeartbeats 1000000 in
set_option maxRecDepth 100000 in
theorem read_huge_b (s : ByteArray) (i : Nat) (w : World) (hs : s.size ≤ 140737488351232) (hi : i < s.size) (te : TypeId) (pe : Value) (hg : w.cell? ⟨1, 0, none⟩ = some (.iface te pe)) (h3 : cls s[i].toNat = 3) (h48 : ¬ s[i].toNat = 48) (v : Nat) (hve : decVal (s.extract i (spanN digB s i)).data.toList = v) (hv2 : 9223372036854775808 ≤ v) :
    Calls Tryd.prog 20 #[.string s, .int .i64 i] w fun e w' => e = .returned (.tuple #[.agg #[.int .i64 0, .string ⟨#[]⟩, .int .i64 0, .int .i64 0], .int .i64 i, .int .i64 3]) ∧ Below w.heap.size w w' := by
  have hc0 : 0 ≤ ((s[i].toNat : Nat) : Int) := by omega
  have hc1 : ((s[i].toNat : Nat) : Int) < 256 := by have := s[i].toNat_lt; omega
  have hx := fun w => index_cls w _ hc0 hc1
  have hge := spanN_ge digB s i
  have hlt : i < spanN digB s i := by rw [spanN, dif_pos hi, if_pos (by simp [digB, h3])]; exact spanN_ge _ _ _
  have hle := spanN_le digB s i (by omega)
  have e2 : (((cls s[i].toNat : Nat) : Int) == 2) = false := by simp [h3]
  have e3 : (((cls s[i].toNat : Nat) : Int) == 3) = true := by simp [h3]
  have H3 := Lib.hid h3
  clear h3
  have e48 : (((s[i].toNat : Nat) : Int) == 48) = false := by simp; omega
  have hv := fun w hg => Tryd.strconv_Atoi_range (s.extract i (spanN digB s i)) (by rw [ext_size _ _ _ hle]; omega) (by rw [atoi_digits _ (ext_ne s _ _ hlt hle) (ext_digits s i), hve, if_neg (by omega)]) (.iface te pe) w hg (Or.inr ⟨te, pe, rfl⟩)
  have HV := Lib.hid hv
  clear hv
  have HE := Lib.hid hve
  clear hve
  have HG := Lib.hid hg
  clear hg
  generalize Lib.atoiSat (s.extract i (spanN digB s i)).data.toList = sat at HV

  go_enter Tryd.func20, Tryd.ntmps20
  go_upto_region 1 with (fail)
  go_cut [16] (fun v16 wc => v16 = .int .u8 ((cls s[i].toNat : Nat) : Int) ∧ ∃ w1, wc = w1 ∧ Below (w.heap.size + 1) (w.alloc tok0) w1)
  case first =>
    go_region_with (go_at_call 26; refine (classes_any _).mono ?_; rintro e w1 ⟨rfl, hb1⟩)
    all_goals go_wp2_with fail
    all_goals go_meet
    all_goals (case rel => exact ⟨rfl, _, rfl, by simpa using bdrew hb1⟩)
  case rest =>
    obtain ⟨rfl, w1, rfl, hb1⟩ := hcut
    go_wp2_with (first | (go_at_call 27; refine (span_dig s i _ hs (by omega)).mono ?_; rintro e w2 ⟨rfl, hb2⟩; have HB2 := hb1.trans (hb2.mono (by simpa using hb1.size)); clear hb1 hb2; obtain ⟨Q0, Q1, Q2, Q3, F0, F1, F2, F3, Z⟩ := tokcells HB2; have HG2 := Lib.hid (keeps_glob HB2 HG.out)) | (go_at_call 31; refine (HV.out _ HG2.out).mono ?_; rintro e w3 ⟨N, rfl, hN, hN2, hb3⟩; have HB := HB2.trans (hb3.mono (by have := HB2.size; simp at this; omega)); clear HB2 hb3 hN hN2; obtain ⟨q0, q1, q2, q3, f0, f1, f2, f3, hz⟩ := tokcells HB))
    all_goals refine bodyPost_ret (v := .tuple #[.agg #[.int .i64 0, .string ⟨#[]⟩, .int .i64 0, .int .i64 0], .int .i64 i, .int .i64 3]) (by simp [results, Tryd.results20, go_sem, q0, q1, q2, q3]) rfl ⟨rfl, ?_⟩
    all_goals exact tokbelow HB _ _ _ _
end Go.Proofs.YtgkpjfbghjojoaaDoor.X
