import Derived.Test.YtgkpjfbghjojoaaDoorY
import Derived.Test.YtgkpjfbghjojoaaDoorQ
import Derived.Lib.Hide
import Derived.Laws.Tables
import Derived.Laws.CopyOwn
namespace Go.Proofs.YtgkpjfbghjojoaaDoor.X
open QLex Go.RowKit Go.Proofs.YtgkpjfbghjojoaaDoorW.PrintWords Go.Proofs.YtgkpjfbghjojoaaDoorW.PrintLast Go.Proofs.YtgkpjfbghjojoaaDoorW.PrintMore
set_option linter.unusedVariables false
set_option linter.unusedSimpArgs false

def clsCells : Array Value := ((List.range 256).map fun c => Value.int .u8 (cls c)).toArray
theorem clsCells_size : clsCells.size = 256 := by simp [clsCells]
theorem clsCells_get (c : Nat) (h : c < 256) : clsCells[c]? = some (.int .u8 (cls c)) := by simp [clsCells, h]

theorem wpList_build_eq {P : Program} {ops : Array Oper} {rest : List Oper} {o : Oper} {a : Act} {w : World} {Q : Exit → Act → World → Prop} (cells : Array Value) (hg : o.guard = none) (t : TypeId) (parts : Array (Nat × Operand)) (ho : o.op = .build t parts)
    (hf : P.built t (parts.map fun (i, x) => (i, a.eval x)).toList = some cells)
    (h : wpList P ops Q rest (a.put o.dst (.agg cells)) w) : wpList P ops Q (o :: rest) a w :=
  wpList_build hg t parts ho (by rw [hf]; rfl) (by rw [hf]; exact h)

theorem heap_last (w : World) (o : Obj) : (w.alloc o).heap[w.heap.size]? = some o := by
  show (w.heap.push o)[w.heap.size]? = some o
  simp

set_option maxHeartbeats 1000000 in
set_option maxRecDepth 100000 in
theorem classes_any (w : World) : Calls Tryd.prog 26 #[] w fun e w' => e = .returned (.agg clsCells) ∧ Below w.heap.size w w' := by
  go_enter Tryd.func26, Tryd.ntmps26
  go_upto_region 1 with (fail)
  go_wp2_with (first | (refine wpList_build_eq clsCells rfl 46 _ rfl (by as_aux_lemma => kernel_rfl) ?_) | (refine wpList_store_row rfl 46 _ _ rfl w.heap.size clsCells rfl rfl 46 Tryd.zeroCells46 (heap_last w _) (by as_aux_lemma => kernel_rfl) (by as_aux_lemma => kernel_rfl) (by as_aux_lemma => kernel_rfl) ?_))
  refine bodyPost_ret (v := .agg clsCells) (results_cell_row rfl _ _ w.heap.size 46 clsCells (0, 0) _ rfl (setRow_heap _ _ Tryd.zeroCells46 _ _ _ (heap_last w _)) Tryd.underlying46 rfl (by as_aux_lemma => kernel_rfl)) rfl ⟨rfl, below_setRow ((Below.refl _ _).alloc (Nat.le_refl _) _) (Nat.le_refl _) _⟩

theorem c28 (c : Int) (w : World) : Calls Tryd.prog 28 #[.int .u8 c] w fun e w' => e = .returned (.bool (c != 10)) ∧ Below w.heap.size w w' := by
  go_enter Tryd.func28, Tryd.ntmps28
  go_wp2
  go_ret
  exact ⟨rfl, Below.refl _ _⟩

theorem cells45 : Tryd.prog.cellsOf 45 = 1 := by kernel_rfl
theorem index_cls (w : World) (c : Int) (h0 : 0 ≤ c) (h1 : c < 256) : (Instr.index 46 (.agg clsCells) (.int .u8 c)).run Tryd.prog w = .ok (.int .u8 (cls c.toNat)) w := by
  obtain ⟨i, hi⟩ : ∃ i, Tryd.prog.info? 45 = some i := Option.isSome_iff_exists.mp (by kernel_rfl)
  have hp : Tryd.prog.plainKey 45 = true := by kernel_rfl
  have hg : clsCells[c.toNat]? = some (.int .u8 (cls c.toNat)) := clsCells_get _ (by omega)
  simp [Instr.index, asIntOf, run_underlying Tryd.underlying46, run_sizeOf w hi, run_part_plain w hp hg, cells45, h0, h1]

theorem c30 (c : Int) (h0 : 0 ≤ c) (h1 : c < 256) (w : World) : Calls Tryd.prog 30 #[.int .u8 c] w fun e w' => e = .returned (.bool (((cls c.toNat : Nat) : Int) == 3)) ∧ Below w.heap.size w w' := by
  have hi := fun w => index_cls w c h0 h1
  go_enter Tryd.func30, Tryd.ntmps30
  go_wp2_with (go_at_call 26; refine (classes_any _).mono ?_; rintro e w1 ⟨rfl, hb⟩)
  go_ret
  exact ⟨rfl, hb⟩
theorem c29 (c : Int) (h0 : 0 ≤ c) (h1 : c < 256) (w : World) : Calls Tryd.prog 29 #[.int .u8 c] w fun e w' => e = .returned (.bool ((((cls c.toNat : Nat) : Int) == 2) || (((cls c.toNat : Nat) : Int) == 3) || c == 95)) ∧ Below w.heap.size w w' := by
  have hi := fun w => index_cls w c h0 h1
  go_enter Tryd.func29, Tryd.ntmps29
  go_wp2_with (go_at_call 26; refine (classes_any _).mono ?_; rintro e w1 ⟨rfl, hb⟩)
  all_goals go_ret
  all_goals exact ⟨by simp [*], by first | exact hb | (rename_i b1 _; exact b1.trans (hb.mono b1.size)) | (rename_i b1 _ _ ; exact b1.trans (hb.mono b1.size))⟩

/-- from i on, the first place whose byte does not meet p -/
def spanN (p : Int → Bool) (s : ByteArray) (i : Nat) : Nat := if h : i < s.size then if p (s[i].toNat : Int) then spanN p s (i + 1) else i else i
termination_by s.size - i
theorem spanN_le (p : Int → Bool) (s : ByteArray) (i : Nat) (h : i ≤ s.size) : spanN p s i ≤ s.size := by
  fun_induction spanN p s i <;> omega
theorem spanN_ge (p : Int → Bool) (s : ByteArray) (i : Nat) : i ≤ spanN p s i := by
  fun_induction spanN p s i <;> omega

set_option maxHeartbeats 400000 in
set_option maxRecDepth 100000 in
theorem span_any (F : Nat) (p : Int → Bool) (hE : ∀ args w, (callFunc F args).run Tryd.prog w = .ok (.enter F args) w) (hF : ∀ c w, 0 ≤ c → c < 256 → Calls Tryd.prog F #[.int .u8 c] w fun e w' => e = .returned (.bool (p c)) ∧ Below w.heap.size w w')
    (s : ByteArray) (i : Nat) (w : World) (hs : s.size ≤ 140737488351232) (hi : i ≤ s.size) :
    Calls Tryd.prog 27 #[.string s, .int .i64 i, .func (.func F) #[] #[]] w fun e w' => e = .returned (.int .i64 (spanN p s i)) ∧ Below w.heap.size w w' := by
  have HF := Lib.hid hF
  clear hF
  go_enter Tryd.func27, Tryd.ntmps27
  go_wp2_with fail
  go_loopw [1] (fun v wr => ∃ k : Nat, k ≤ s.size ∧ v = .int .i64 k ∧ Hid (spanN p s k = spanN p s i) ∧ Below w.heap.size w wr) (fun v _ => s.size - (intOf v).toNat)
  case atStart => exact ⟨i, hi, rfl, Lib.hid rfl, Below.refl _ _⟩
  case round =>
    obtain ⟨k, hk, rfl, hsp, hb⟩ := hrel
    by_cases hlt : k < s.size
    · have hc0 : 0 ≤ ((s[k].toNat : Nat) : Int) := by omega
      have hc1 : ((s[k].toNat : Nat) : Int) < 256 := by have := s[k].toNat_lt; omega
      go_wp2_with (refine (HF.out _ _ hc0 hc1).mono ?_; rintro e w1 ⟨rfl, hb1⟩)
      · have hp : p (s[k].toNat : Int) = true := by assumption
        go_roundw
        case rel => exact ⟨k + 1, by omega, by go_num, Lib.hid (by rw [← hsp.out]; conv => rhs; rw [spanN, dif_pos hlt, if_pos hp]), hb.trans (hb1.mono hb.size)⟩
        case measure => simp [intOf]; omega
      · have hp : ¬ p (s[k].toNat : Int) = true := by simp_all
        go_ret
        refine ⟨?_, hb.trans (hb1.mono hb.size)⟩
        show Ending.returned (.int .i64 ((k : Nat) : Int)) = _
        rw [← hsp.out, spanN, dif_pos hlt, if_neg hp]
    · have hsk : spanN p s k = k := by rw [spanN, dif_neg hlt]
      have HS := Lib.hid hsk; clear hsk
      go_wp2
      go_ret
      refine ⟨?_, hb⟩
      show Ending.returned (.int .i64 ((k : Nat) : Int)) = _
      rw [← hsp.out, HS.out]

end Go.Proofs.YtgkpjfbghjojoaaDoor.X
