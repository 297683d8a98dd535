import Derived.Test.YtgkpjfbghjojoaaDoorXb
import Derived.Test.YtgkpjfbghjojoaaDoorShelf
namespace Go.Proofs.YtgkpjfbghjojoaaDoor.X
open QLex Go.Shelf Go.RowKit Go.Proofs.YtgkpjfbghjojoaaDoorW.PrintWords Go.Proofs.YtgkpjfbghjojoaaDoorW.PrintLast Go.Proofs.YtgkpjfbghjojoaaDoorW.PrintMore
set_option linter.unusedVariables false
set_option linter.unusedSimpArgs false

theorem bcell {W w1 : World} (hb : Below W.heap.size W w1) : (∀ b o, b < W.heap.size → w1.cell? ⟨b, o, none⟩ = W.cell? ⟨b, o, none⟩) ∧ (∀ b o, b < W.heap.size → w1.frozen? ⟨b, o, none⟩ = W.frozen? ⟨b, o, none⟩) :=
  ⟨fun b o h => hb.cell (p := ⟨b, o, none⟩) h, fun b o h => hb.frozen (p := ⟨b, o, none⟩) h⟩
theorem e29 : ∀ args w, (callFunc 29 args).run Tryd.prog w = .ok (.enter 29 args) w := enters_of Tryd.func29 (by kernel_rfl) rfl
theorem e30 : ∀ args w, (callFunc 30 args).run Tryd.prog w = .ok (.enter 30 args) w := enters_of Tryd.func30 (by kernel_rfl) rfl

def nameB (c : Int) : Bool := (((cls c.toNat : Nat) : Int) == 2) || (((cls c.toNat : Nat) : Int) == 3) || c == 95
def digB (c : Int) : Bool := ((cls c.toNat : Nat) : Int) == 3
theorem span_name (s : ByteArray) (i : Nat) (w : World) (hs : s.size ≤ 140737488351232) (hi : i ≤ s.size) :
    Calls Tryd.prog 27 #[.string s, .int .i64 i, .func (.func 29) #[] #[]] w fun e w' => e = .returned (.int .i64 (spanN nameB s i)) ∧ Below w.heap.size w w' :=
  span_any 29 nameB e29 (fun c w h0 h1 => c29 c h0 h1 w) s i w hs hi
theorem span_dig (s : ByteArray) (i : Nat) (w : World) (hs : s.size ≤ 140737488351232) (hi : i ≤ s.size) :
    Calls Tryd.prog 27 #[.string s, .int .i64 i, .func (.func 30) #[] #[]] w fun e w' => e = .returned (.int .i64 (spanN digB s i)) ∧ Below w.heap.size w w' :=
  span_any 30 digB e30 (fun c w h0 h1 => c30 c h0 h1 w) s i w hs hi

abbrev tok0 : Obj := .cells #[.int .i64 0, .string ⟨#[]⟩, .int .i64 0, .int .i64 0] 31
theorem tokcells {w w2 : World} (hb : Below (w.heap.size + 1) (w.alloc tok0) w2) :
    w2.cell? ⟨w.heap.size, 0, none⟩ = some (.int .i64 0) ∧ w2.cell? ⟨w.heap.size, 1, none⟩ = some (.string ⟨#[]⟩) ∧ w2.cell? ⟨w.heap.size, 2, none⟩ = some (.int .i64 0) ∧ w2.cell? ⟨w.heap.size, 3, none⟩ = some (.int .i64 0) ∧
    w2.frozen? ⟨w.heap.size, 0, none⟩ = false ∧ w2.frozen? ⟨w.heap.size, 1, none⟩ = false ∧ w2.frozen? ⟨w.heap.size, 2, none⟩ = false ∧ w2.frozen? ⟨w.heap.size, 3, none⟩ = false ∧ w.heap.size < w2.heap.size := by
  have h := hb.size
  refine ⟨?_, ?_, ?_, ?_, ?_, ?_, ?_, ?_, ?_⟩
  iterate 4 (rw [hb.cell (by simp)]; simp)
  iterate 4 (rw [hb.frozen (by simp)]; simp)
  simp at h; omega

theorem tokbelow {w w2 : World} (hb : Below (w.heap.size + 1) (w.alloc tok0) w2) (a b c d : Value) :
    Below w.heap.size w ((((w2.setCell ⟨w.heap.size, 0, none⟩ a).setCell ⟨w.heap.size, 1, none⟩ b).setCell ⟨w.heap.size, 2, none⟩ c).setCell ⟨w.heap.size, 3, none⟩ d) :=
  (((((Below.refl w.heap.size w).alloc (Nat.le_refl _) tok0).trans (hb.mono (by omega))).setCell (by simp) a).setCell (by simp) b |>.setCell (by simp) c).setCell (by simp) d

set_option maxHeartbeats 1000000 in
set_option maxRecDepth 100000 in
theorem read_name (s : ByteArray) (i : Nat) (w : World) (hs : s.size ≤ 140737488351232) (hi : i < s.size) (h2 : cls s[i].toNat = 2) (hl : spanN nameB s i - i ≤ 12) :
    Calls Tryd.prog 20 #[.string s, .int .i64 i] w fun e w' => e = .returned (.tuple #[.agg #[.int .i64 1, .string (s.extract i (spanN nameB s i)), .int .i64 0, .int .i64 i], .int .i64 (spanN nameB s i), .int .i64 0]) ∧ Below w.heap.size w w' := by
  have hc0 : 0 ≤ ((s[i].toNat : Nat) : Int) := by omega
  have hc1 : ((s[i].toNat : Nat) : Int) < 256 := by have := s[i].toNat_lt; omega
  have hx := fun w => index_cls w _ hc0 hc1
  have hge := spanN_ge nameB s i
  have hle := spanN_le nameB s i (by omega)
  have e2 : (((cls s[i].toNat : Nat) : Int) == 2) = true := by simp [h2]
  have H2 := Lib.hid h2
  clear h2
  go_enter Tryd.func20, Tryd.ntmps20
  go_upto_region 1 with (fail)
  go_cut [16] (fun v16 wc => v16 = .int .u8 ((cls s[i].toNat : Nat) : Int) ∧ ∃ w1, wc = w1 ∧ Below (w.heap.size + 1) (w.alloc tok0) w1)
  case first =>
    go_region_with (go_at_call 26; refine (classes_any _).mono ?_; rintro e w1 ⟨rfl, hb1⟩)
    all_goals go_wp2_with fail
    all_goals go_meet
    all_goals (case rel => exact ⟨rfl, _, rfl, by simpa using bdrew hb1⟩)
  case rest =>
    obtain ⟨rfl, w1, rfl, hb1⟩ := hcut
    go_wp2_with (go_at_call 27; refine (span_name s i _ hs (by omega)).mono ?_; rintro e w2 ⟨rfl, hb2⟩; have HB := hb1.trans (hb2.mono (by simpa using hb1.size)); clear hb1 hb2; obtain ⟨q0, q1, q2, q3, f0, f1, f2, f3, hz⟩ := tokcells HB)
    refine bodyPost_ret (v := .tuple #[.agg #[.int .i64 1, .string (s.extract i (spanN nameB s i)), .int .i64 0, .int .i64 i], .int .i64 (spanN nameB s i), .int .i64 0]) (by simp [results, Tryd.results20, go_sem, q0, q1, q2, q3, hz]) rfl ⟨rfl, ?_⟩
    exact tokbelow HB _ _ _ _

set_option maxHeartbeats 1000000 in
set_option maxRecDepth 100000 in
theorem read_long (s : ByteArray) (i : Nat) (w : World) (hs : s.size ≤ 140737488351232) (hi : i < s.size) (h2 : cls s[i].toNat = 2) (hl : ¬ spanN nameB s i - i ≤ 12) :
    Calls Tryd.prog 20 #[.string s, .int .i64 i] w fun e w' => e = .returned (.tuple #[.agg #[.int .i64 0, .string ⟨#[]⟩, .int .i64 0, .int .i64 0], .int .i64 i, .int .i64 3]) ∧ Below w.heap.size w w' := by
  have hc0 : 0 ≤ ((s[i].toNat : Nat) : Int) := by omega
  have hc1 : ((s[i].toNat : Nat) : Int) < 256 := by have := s[i].toNat_lt; omega
  have hx := fun w => index_cls w _ hc0 hc1
  have hge := spanN_ge nameB s i
  have hle := spanN_le nameB s i (by omega)
  have e2 : (((cls s[i].toNat : Nat) : Int) == 2) = true := by simp [h2]
  have H2 := Lib.hid h2
  clear h2
  go_enter Tryd.func20, Tryd.ntmps20
  go_upto_region 1 with (fail)
  go_cut [16] (fun v16 wc => v16 = .int .u8 ((cls s[i].toNat : Nat) : Int) ∧ ∃ w1, wc = w1 ∧ Below (w.heap.size + 1) (w.alloc tok0) w1)
  case first =>
    go_region_with (go_at_call 26; refine (classes_any _).mono ?_; rintro e w1 ⟨rfl, hb1⟩)
    all_goals go_wp2_with fail
    all_goals go_meet
    all_goals (case rel => exact ⟨rfl, _, rfl, by simpa using bdrew hb1⟩)
  case rest =>
    obtain ⟨rfl, w1, rfl, hb1⟩ := hcut
    go_wp2_with (go_at_call 27; refine (span_name s i _ hs (by omega)).mono ?_; rintro e w2 ⟨rfl, hb2⟩; have HB := hb1.trans (hb2.mono (by simpa using hb1.size)); clear hb1 hb2; obtain ⟨q0, q1, q2, q3, f0, f1, f2, f3, hz⟩ := tokcells HB)
    refine bodyPost_ret (v := .tuple #[.agg #[.int .i64 0, .string ⟨#[]⟩, .int .i64 0, .int .i64 0], .int .i64 i, .int .i64 3]) (by simp [results, Tryd.results20, go_sem, q0, q1, q2, q3, hz]) rfl ⟨rfl, ?_⟩
    exact tokbelow HB _ _ _ _
end Go.Proofs.YtgkpjfbghjojoaaDoor.X
