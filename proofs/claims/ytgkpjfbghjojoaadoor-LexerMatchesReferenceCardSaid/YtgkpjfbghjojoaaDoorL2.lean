-- PRINTED by print.py (a twelfth state) out of the translation. Not trusted: Lean checks it.
import Derived.Test.YtgkpjfbghjojoaaDoorL0
import Derived.Test.YtgkpjfbghjojoaaDoorL1
namespace Go.Proofs.YtgkpjfbghjojoaaDoor.L
open Go.RowKit Go.Proofs.YtgkpjfbghjojoaaDoorW.PrintWords Go.Proofs.YtgkpjfbghjojoaaDoorW.PrintLast Go.Proofs.YtgkpjfbghjojoaaDoorW.PrintMore
attribute [local go_sem] max2_int min2_int max_two min_two max_three min_three max_four min_four   -- for this text's walks alone
set_option linter.unusedVariables false
set_option linter.unusedSimpArgs false

/-! ### queuelablaw01_head: function 10 -/
def queuelablaw01_head.j0 : Nat → List (S31) → List (S31) → Bool → Option (Bool)
 | 0, _, _, _ => none
 | k + 1, x1, x4, x7 => if x7 = true then ((queuelabref01_Same.f k x1 (([(⟨1, (⟨#[119]⟩ : ByteArray), 0, 0⟩ : S31), (⟨3, (⟨#[60, 61]⟩ : ByteArray), 0, 1⟩ : S31), (⟨2, (⟨#[]⟩ : ByteArray), 3, 3⟩ : S31), (⟨3, (⟨#[59]⟩ : ByteArray), 0, 4⟩ : S31)] : List (S31))) 0).bind fun t143 => (if t143 = true then ((queuelabref01_Same.f k x4 (([(⟨1, (⟨#[97]⟩ : ByteArray), 0, 0⟩ : S31), (⟨3, (⟨#[61, 61]⟩ : ByteArray), 0, 1⟩ : S31), (⟨3, (⟨#[33, 61]⟩ : ByteArray), 0, 3⟩ : S31), (⟨1, (⟨#[98]⟩ : ByteArray), 0, 5⟩ : S31)] : List (S31))) 0).bind fun t147 => (some t147)) else (some false))) else (some false)
def queuelablaw01_head.f (k : Nat)  : Option (Bool) := (lexer_Lex.f k (⟨#[119, 60, 61, 51, 59, 35, 32, 120]⟩ : ByteArray)).bind fun bt126 => ((lexer_Lex.f k (⟨#[97, 61, 61, 33, 61, 98]⟩ : ByteArray)).bind fun bt131 => (if bt126.2.1 = 0 then (if bt131.2.1 = 0 then ((queuelablaw01_fails.f k (⟨#[97, 32, 33, 32, 98]⟩ : ByteArray) 7 2).bind fun t136 => (if t136 = true then ((queuelablaw01_fails.f k (⟨#[120, 32, 48, 48, 55]⟩ : ByteArray) 7 2).bind fun t137 => (if t137 = true then ((queuelablaw01_fails.f k (⟨#[120, 32, 49, 48, 48, 48, 48, 48, 48, 48, 48, 49]⟩ : ByteArray) 3 2).bind fun t138 => (if t138 = true then ((queuelablaw01_fails.f k (⟨#[97, 98, 99, 100, 101, 102, 103, 104, 105, 106, 107, 108, 109]⟩ : ByteArray) 3 0).bind fun t139 => (queuelablaw01_head.j0 k bt126.1 bt131.1 t139)) else (queuelablaw01_head.j0 k bt126.1 bt131.1 false))) else (queuelablaw01_head.j0 k bt126.1 bt131.1 false))) else (queuelablaw01_head.j0 k bt126.1 bt131.1 false))) else (queuelablaw01_head.j0 k bt126.1 bt131.1 false)) else (queuelablaw01_head.j0 k bt126.1 bt131.1 false)))
theorem queuelablaw01_head.mono_l : ∀ k, (∀ y0 y1 y2, LeO (queuelablaw01_head.j0 k y0 y1 y2) (queuelablaw01_head.j0 (k + 1) y0 y1 y2))
 | 0 => fun _ _ _ r h => by simp [queuelablaw01_head.j0] at h
 | k + 1 => by
  have ih0 := queuelablaw01_head.mono_l k
  · intro y0 y1 y2
    unfold queuelablaw01_head.j0
    repeat' first
    | (with_reducible exact ih0 _ _ _)
    | (with_reducible exact lexer_Lex.mono _ _)
    | (with_reducible exact queuelablaw01_fails.mono _ _ _ _)
    | (with_reducible exact queuelabref01_Same.mono _ _ _ _)
    | (with_reducible exact LeO.refl _)
    | (with_reducible exact LeO.none _)
    | (with_reducible refine LeO.ite ?_ ?_)
    | (with_reducible refine LeO.bind ?_ (fun _ => ?_))
    | exact ih0 _ _ _
    | exact lexer_Lex.mono _ _
    | exact queuelablaw01_fails.mono _ _ _ _
    | exact queuelabref01_Same.mono _ _ _ _
    | exact LeO.none _
    | refine LeO.ite ?_ ?_
    | refine LeO.bind ?_ (fun _ => ?_)
theorem queuelablaw01_head.mono : ∀ k, LeO (queuelablaw01_head.f k ) (queuelablaw01_head.f (k + 1) ) := by
 intro  k
 have ih0 := queuelablaw01_head.mono_l k
 unfold queuelablaw01_head.f
 repeat' first
  | (with_reducible exact ih0 _ _ _)
  | (with_reducible exact lexer_Lex.mono _ _)
  | (with_reducible exact queuelablaw01_fails.mono _ _ _ _)
  | (with_reducible exact queuelabref01_Same.mono _ _ _ _)
  | (with_reducible exact LeO.refl _)
  | (with_reducible exact LeO.none _)
  | (with_reducible refine LeO.ite ?_ ?_)
  | (with_reducible refine LeO.bind ?_ (fun _ => ?_))
  | exact ih0 _ _ _
  | exact lexer_Lex.mono _ _
  | exact queuelablaw01_fails.mono _ _ _ _
  | exact queuelabref01_Same.mono _ _ _ _
  | exact LeO.none _
  | refine LeO.ite ?_ ?_
  | refine LeO.bind ?_ (fun _ => ?_)
set_option maxHeartbeats 8000000 in
set_option maxRecDepth 100000 in
theorem queuelablaw01_head.calls (k : Nat)  (r : Bool) (w : World) (hG : Glob w) (h : queuelablaw01_head.f k  = some r) :
 Calls Tryd.prog 10 #[] w fun e w' => e = .returned (.bool r) ∧ Below w.heap.size w w' := by
 have hu31 := Tryd.underlying31
 have HB := Aside0.mk (Below.refl w.heap.size w)
 have H : ((lexer_Lex.f k (⟨#[119, 60, 61, 51, 59, 35, 32, 120]⟩ : ByteArray)).bind fun bt126 => ((lexer_Lex.f k (⟨#[97, 61, 61, 33, 61, 98]⟩ : ByteArray)).bind fun bt131 => (if bt126.2.1 = 0 then (if bt131.2.1 = 0 then ((queuelablaw01_fails.f k (⟨#[97, 32, 33, 32, 98]⟩ : ByteArray) 7 2).bind fun t136 => (if t136 = true then ((queuelablaw01_fails.f k (⟨#[120, 32, 48, 48, 55]⟩ : ByteArray) 7 2).bind fun t137 => (if t137 = true then ((queuelablaw01_fails.f k (⟨#[120, 32, 49, 48, 48, 48, 48, 48, 48, 48, 48, 49]⟩ : ByteArray) 3 2).bind fun t138 => (if t138 = true then ((queuelablaw01_fails.f k (⟨#[97, 98, 99, 100, 101, 102, 103, 104, 105, 106, 107, 108, 109]⟩ : ByteArray) 3 0).bind fun t139 => (queuelablaw01_head.j0 k bt126.1 bt131.1 t139)) else (queuelablaw01_head.j0 k bt126.1 bt131.1 false))) else (queuelablaw01_head.j0 k bt126.1 bt131.1 false))) else (queuelablaw01_head.j0 k bt126.1 bt131.1 false))) else (queuelablaw01_head.j0 k bt126.1 bt131.1 false)) else (queuelablaw01_head.j0 k bt126.1 bt131.1 false)))) = some r := h
 clear h
 replace H := obs.mp H
 obtain ⟨⟨t126, t127, t128⟩, A10, H⟩ := H
 replace H : ((lexer_Lex.f k (⟨#[97, 61, 61, 33, 61, 98]⟩ : ByteArray)).bind fun bt131 => (if t127 = 0 then (if bt131.2.1 = 0 then ((queuelablaw01_fails.f k (⟨#[97, 32, 33, 32, 98]⟩ : ByteArray) 7 2).bind fun t136 => (if t136 = true then ((queuelablaw01_fails.f k (⟨#[120, 32, 48, 48, 55]⟩ : ByteArray) 7 2).bind fun t137 => (if t137 = true then ((queuelablaw01_fails.f k (⟨#[120, 32, 49, 48, 48, 48, 48, 48, 48, 48, 48, 49]⟩ : ByteArray) 3 2).bind fun t138 => (if t138 = true then ((queuelablaw01_fails.f k (⟨#[97, 98, 99, 100, 101, 102, 103, 104, 105, 106, 107, 108, 109]⟩ : ByteArray) 3 0).bind fun t139 => (queuelablaw01_head.j0 k t126 bt131.1 t139)) else (queuelablaw01_head.j0 k t126 bt131.1 false))) else (queuelablaw01_head.j0 k t126 bt131.1 false))) else (queuelablaw01_head.j0 k t126 bt131.1 false))) else (queuelablaw01_head.j0 k t126 bt131.1 false)) else (queuelablaw01_head.j0 k t126 bt131.1 false))) = some r := H
 have A1 := Aside0.mk A10
 clear A10
 replace H := obs.mp H
 obtain ⟨⟨t131, t132, t133⟩, A20, H⟩ := H
 replace H : (if t127 = 0 then (if t132 = 0 then ((queuelablaw01_fails.f k (⟨#[97, 32, 33, 32, 98]⟩ : ByteArray) 7 2).bind fun t136 => (if t136 = true then ((queuelablaw01_fails.f k (⟨#[120, 32, 48, 48, 55]⟩ : ByteArray) 7 2).bind fun t137 => (if t137 = true then ((queuelablaw01_fails.f k (⟨#[120, 32, 49, 48, 48, 48, 48, 48, 48, 48, 48, 49]⟩ : ByteArray) 3 2).bind fun t138 => (if t138 = true then ((queuelablaw01_fails.f k (⟨#[97, 98, 99, 100, 101, 102, 103, 104, 105, 106, 107, 108, 109]⟩ : ByteArray) 3 0).bind fun t139 => (queuelablaw01_head.j0 k t126 t131 t139)) else (queuelablaw01_head.j0 k t126 t131 false))) else (queuelablaw01_head.j0 k t126 t131 false))) else (queuelablaw01_head.j0 k t126 t131 false))) else (queuelablaw01_head.j0 k t126 t131 false)) else (queuelablaw01_head.j0 k t126 t131 false)) = some r := H
 have A2 := Aside0.mk A20
 clear A20
 have HC3 := Aside0.mk H
 clear H
 go_enter Tryd.func10, Tryd.ntmps10
 go_upto_region 3 with (first | ((with_reducible refine gce (f := 11) rfl ?_); refine goesL_ (some 9) rfl rfl Tryd.func11 (by kernel_rfl) rfl #[.string (⟨#[119, 60, 61, 51, 59, 35, 32, 120]⟩ : ByteArray)] rfl (by (try simp only [lma, lmc, lmn]); first | done | rfl | (simp only [lld, llt]; rfl)) ?_; (with_reducible refine (lexer_Lex.calls k (⟨#[119, 60, 61, 51, 59, 35, 32, 120]⟩ : ByteArray) t126 t127 t128 _ ?side1 A1.out).mono ?_); (case side1 => exact Glob.mono hG (by repeat first | (with_reducible first | exact HB.out | apply ba | apply bn | apply bd) | exact HB.out)); rintro e w4 ⟨v129, rfl, ho0, hb⟩; refine ⟨_, rfl, ?_⟩; have n0_ := Aside0.mk (Kd.R_lower ho0 (below_size (by repeat first | (with_reducible first | exact HB.out | apply ba | apply bn | apply bd) | exact HB.out))); have n1_ := Aside0.mk (below_step (by repeat first | (with_reducible first | exact HB.out | apply ba | apply bn | apply bd) | exact HB.out) hb); clear HB; have HO130 := n0_; have HB := n1_; clear n0_ n1_; (try clear hb); (try clear hb2); (try clear hk); (try clear hi); (try clear ho0)) | ((with_reducible refine gce (f := 11) rfl ?_); refine goesL_ (some 14) rfl rfl Tryd.func11 (by kernel_rfl) rfl #[.string (⟨#[97, 61, 61, 33, 61, 98]⟩ : ByteArray)] rfl (by (try simp only [lma, lmc, lmn]); first | done | rfl | (simp only [lld, llt]; rfl)) ?_; (with_reducible refine (lexer_Lex.calls k (⟨#[97, 61, 61, 33, 61, 98]⟩ : ByteArray) t131 t132 t133 _ ?side1 A2.out).mono ?_); (case side1 => exact Glob.mono hG (by repeat first | (with_reducible first | exact HB.out | apply ba | apply bn | apply bd) | exact HB.out)); rintro e w5 ⟨v134, rfl, ho0, hb⟩; refine ⟨_, rfl, ?_⟩; have n0_ := Aside0.mk (Kd.R_elder' (by (with_reducible repeat (first | apply ra | apply rn | apply rd1)); exact HO130.out) (Kd.R_base ho0) hb); have n1_ := Aside0.mk (Kd.R_lower (Kd.R_new' ho0 (Kd.R_lt (by (with_reducible repeat (first | apply ra | apply rn | apply rd1)); exact HO130.out))) (below_size (by repeat first | (with_reducible first | exact HB.out | apply ba | apply bn | apply bd) | exact HB.out))); have n2_ := Aside0.mk (below_step (by repeat first | (with_reducible first | exact HB.out | apply ba | apply bn | apply bd) | exact HB.out) hb); clear HO130; clear HB; have HO130 := n0_; have HO135 := n1_; have HB := n2_; clear n0_ n1_ n2_; (try clear hb); (try clear hb2); (try clear hk); (try clear hi); (try clear ho0)))
 (try simp only [Act.put, List.setIfInBounds_toArray, List.set_cons_zero, List.set_cons_succ])
 go_cut [7] (fun v7 wc => ∃ (kq : Nat) (x7_2 : Bool), v7 = .bool x7_2 ∧ Aside0 (queuelablaw01_head.j0 kq t126 t131 x7_2 = some r) ∧ Aside0 (kq ≤ k) ∧ Aside0 (Kd.R k31 31 wc w.heap.size (fun k_ => some k_ ≠ (v134 : Value).ownBlock) v129 t126) ∧ Aside0 (Kd.R k31 31 wc w.heap.size (fun k_ => some k_ ≠ (v129 : Value).ownBlock) v134 t131) ∧ Aside0 (Below w.heap.size w wc))
 case first =>
  have H := HC3.out
  clear HC3
  by_cases c6 : t127 = 0
  · rw [if_pos c6] at H
    have c6b0 : (t127 == 0) = true := beq_iff_eq.mpr c6
    have c6b1 : (t127 != 0) = false := bne_eq_false_iff_eq.mpr c6
    clear c6
    (first | rw [c6b0] | (simp only [i64_w, i32_w]; rw [c6b0]) | skip)
    by_cases c7 : t132 = 0
    · rw [if_pos c7] at H
      have c7b0 : (t132 == 0) = true := beq_iff_eq.mpr c7
      have c7b1 : (t132 != 0) = false := bne_eq_false_iff_eq.mpr c7
      clear c7
      replace H := obs.mp H
      obtain ⟨t136, A80, H⟩ := H
      replace H : (if t136 = true then ((queuelablaw01_fails.f k (⟨#[120, 32, 48, 48, 55]⟩ : ByteArray) 7 2).bind fun t137 => (if t137 = true then ((queuelablaw01_fails.f k (⟨#[120, 32, 49, 48, 48, 48, 48, 48, 48, 48, 48, 49]⟩ : ByteArray) 3 2).bind fun t138 => (if t138 = true then ((queuelablaw01_fails.f k (⟨#[97, 98, 99, 100, 101, 102, 103, 104, 105, 106, 107, 108, 109]⟩ : ByteArray) 3 0).bind fun t139 => (queuelablaw01_head.j0 k t126 t131 t139)) else (queuelablaw01_head.j0 k t126 t131 false))) else (queuelablaw01_head.j0 k t126 t131 false))) else (queuelablaw01_head.j0 k t126 t131 false)) = some r := H
      have A8 := Aside0.mk A80
      clear A80
      by_cases c9 : t136 = true
      · subst c9
        have H1 : ((queuelablaw01_fails.f k (⟨#[120, 32, 48, 48, 55]⟩ : ByteArray) 7 2).bind fun t137 => (if t137 = true then ((queuelablaw01_fails.f k (⟨#[120, 32, 49, 48, 48, 48, 48, 48, 48, 48, 48, 49]⟩ : ByteArray) 3 2).bind fun t138 => (if t138 = true then ((queuelablaw01_fails.f k (⟨#[97, 98, 99, 100, 101, 102, 103, 104, 105, 106, 107, 108, 109]⟩ : ByteArray) 3 0).bind fun t139 => (queuelablaw01_head.j0 k t126 t131 t139)) else (queuelablaw01_head.j0 k t126 t131 false))) else (queuelablaw01_head.j0 k t126 t131 false))) = some r := by rw [if_pos rfl] at H; exact H
        clear H
        have H := H1
        clear H1
        replace H := obs.mp H
        obtain ⟨t137, A100, H⟩ := H
        replace H : (if t137 = true then ((queuelablaw01_fails.f k (⟨#[120, 32, 49, 48, 48, 48, 48, 48, 48, 48, 48, 49]⟩ : ByteArray) 3 2).bind fun t138 => (if t138 = true then ((queuelablaw01_fails.f k (⟨#[97, 98, 99, 100, 101, 102, 103, 104, 105, 106, 107, 108, 109]⟩ : ByteArray) 3 0).bind fun t139 => (queuelablaw01_head.j0 k t126 t131 t139)) else (queuelablaw01_head.j0 k t126 t131 false))) else (queuelablaw01_head.j0 k t126 t131 false)) = some r := H
        have A10 := Aside0.mk A100
        clear A100
        by_cases c11 : t137 = true
        · subst c11
          have H1 : ((queuelablaw01_fails.f k (⟨#[120, 32, 49, 48, 48, 48, 48, 48, 48, 48, 48, 49]⟩ : ByteArray) 3 2).bind fun t138 => (if t138 = true then ((queuelablaw01_fails.f k (⟨#[97, 98, 99, 100, 101, 102, 103, 104, 105, 106, 107, 108, 109]⟩ : ByteArray) 3 0).bind fun t139 => (queuelablaw01_head.j0 k t126 t131 t139)) else (queuelablaw01_head.j0 k t126 t131 false))) = some r := by rw [if_pos rfl] at H; exact H
          clear H
          have H := H1
          clear H1
          replace H := obs.mp H
          obtain ⟨t138, A120, H⟩ := H
          replace H : (if t138 = true then ((queuelablaw01_fails.f k (⟨#[97, 98, 99, 100, 101, 102, 103, 104, 105, 106, 107, 108, 109]⟩ : ByteArray) 3 0).bind fun t139 => (queuelablaw01_head.j0 k t126 t131 t139)) else (queuelablaw01_head.j0 k t126 t131 false)) = some r := H
          have A12 := Aside0.mk A120
          clear A120
          by_cases c13 : t138 = true
          · subst c13
            have H1 : ((queuelablaw01_fails.f k (⟨#[97, 98, 99, 100, 101, 102, 103, 104, 105, 106, 107, 108, 109]⟩ : ByteArray) 3 0).bind fun t139 => (queuelablaw01_head.j0 k t126 t131 t139)) = some r := by rw [if_pos rfl] at H; exact H
            clear H
            have H := H1
            clear H1
            replace H := obs.mp H
            obtain ⟨t139, A140, H⟩ := H
            replace H : (queuelablaw01_head.j0 k t126 t131 t139) = some r := H
            have A14 := Aside0.mk A140
            clear A140
            have H' := Aside0.mk H
            clear H
            go_wp2_with (first | (go_at_call 18; (with_reducible refine (queuelablaw01_fails.calls k (⟨#[97, 32, 33, 32, 98]⟩ : ByteArray) 7 2 true _ ?side1 A8.out).mono ?_); (case side1 => exact Glob.mono hG (by repeat first | (with_reducible first | exact HB.out | apply ba | apply bn | apply bd) | exact HB.out)); rintro e w15 ⟨rfl, hb⟩; have n0_ := Aside0.mk (Kd.R_below (by (with_reducible repeat (first | apply ra | apply rn | apply rd1)); exact HO130.out) hb); have n1_ := Aside0.mk (Kd.R_below (by (with_reducible repeat (first | apply ra | apply rn | apply rd1)); exact HO135.out) hb); have n2_ := Aside0.mk (below_step (by repeat first | (with_reducible first | exact HB.out | apply ba | apply bn | apply bd) | exact HB.out) hb); clear HO130; clear HO135; clear HB; have HO130 := n0_; have HO135 := n1_; have HB := n2_; clear n0_ n1_ n2_; (try clear hb); (try clear hb2); (try clear hk); (try clear hi)) | (go_at_call 18; (with_reducible refine (queuelablaw01_fails.calls k (⟨#[120, 32, 48, 48, 55]⟩ : ByteArray) 7 2 true _ ?side1 A10.out).mono ?_); (case side1 => exact Glob.mono hG (by repeat first | (with_reducible first | exact HB.out | apply ba | apply bn | apply bd) | exact HB.out)); rintro e w16 ⟨rfl, hb⟩; have n0_ := Aside0.mk (Kd.R_below (by (with_reducible repeat (first | apply ra | apply rn | apply rd1)); exact HO130.out) hb); have n1_ := Aside0.mk (Kd.R_below (by (with_reducible repeat (first | apply ra | apply rn | apply rd1)); exact HO135.out) hb); have n2_ := Aside0.mk (below_step (by repeat first | (with_reducible first | exact HB.out | apply ba | apply bn | apply bd) | exact HB.out) hb); clear HO130; clear HO135; clear HB; have HO130 := n0_; have HO135 := n1_; have HB := n2_; clear n0_ n1_ n2_; (try clear hb); (try clear hb2); (try clear hk); (try clear hi)) | (go_at_call 18; (with_reducible refine (queuelablaw01_fails.calls k (⟨#[120, 32, 49, 48, 48, 48, 48, 48, 48, 48, 48, 49]⟩ : ByteArray) 3 2 true _ ?side1 A12.out).mono ?_); (case side1 => exact Glob.mono hG (by repeat first | (with_reducible first | exact HB.out | apply ba | apply bn | apply bd) | exact HB.out)); rintro e w17 ⟨rfl, hb⟩; have n0_ := Aside0.mk (Kd.R_below (by (with_reducible repeat (first | apply ra | apply rn | apply rd1)); exact HO130.out) hb); have n1_ := Aside0.mk (Kd.R_below (by (with_reducible repeat (first | apply ra | apply rn | apply rd1)); exact HO135.out) hb); have n2_ := Aside0.mk (below_step (by repeat first | (with_reducible first | exact HB.out | apply ba | apply bn | apply bd) | exact HB.out) hb); clear HO130; clear HO135; clear HB; have HO130 := n0_; have HO135 := n1_; have HB := n2_; clear n0_ n1_ n2_; (try clear hb); (try clear hb2); (try clear hk); (try clear hi)) | (go_at_call 18; (with_reducible refine (queuelablaw01_fails.calls k (⟨#[97, 98, 99, 100, 101, 102, 103, 104, 105, 106, 107, 108, 109]⟩ : ByteArray) 3 0 t139 _ ?side1 A14.out).mono ?_); (case side1 => exact Glob.mono hG (by repeat first | (with_reducible first | exact HB.out | apply ba | apply bn | apply bd) | exact HB.out)); rintro e w18 ⟨rfl, hb⟩; have n0_ := Aside0.mk (Kd.R_below (by (with_reducible repeat (first | apply ra | apply rn | apply rd1)); exact HO130.out) hb); have n1_ := Aside0.mk (Kd.R_below (by (with_reducible repeat (first | apply ra | apply rn | apply rd1)); exact HO135.out) hb); have n2_ := Aside0.mk (below_step (by repeat first | (with_reducible first | exact HB.out | apply ba | apply bn | apply bd) | exact HB.out) hb); clear HO130; clear HO135; clear HB; have HO130 := n0_; have HO135 := n1_; have HB := n2_; clear n0_ n1_ n2_; (try clear hb); (try clear hb2); (try clear hk); (try clear hi)))
            go_meet
            case rel => exact ⟨_, (t139), (by first | rfl | (simp; done) | (simp [*]; done)), H', ⟨by first | omega | exact Nat.le_refl _⟩, ⟨by (with_reducible repeat (first | apply ra | apply rn | apply rd1)); exact Kd.R_mono HO130.out (fun _ hk => hk.2)⟩, ⟨by (with_reducible repeat (first | apply ra | apply rn | apply rd1)); exact Kd.R_mono HO135.out (fun _ hk => hk.2)⟩, ⟨by repeat (first | (with_reducible first | exact HB.out | apply ba | apply bn | apply bd) | exact HB.out)⟩⟩
          · replace c13 := Bool.eq_false_iff.mpr c13
            subst c13
            have H1 : (queuelablaw01_head.j0 k t126 t131 false) = some r := by rw [if_neg (show ¬ (false = true) by decide)] at H; exact H
            clear H
            have H := H1
            clear H1
            have H' := Aside0.mk H
            clear H
            go_wp2_with (first | (go_at_call 18; (with_reducible refine (queuelablaw01_fails.calls k (⟨#[97, 32, 33, 32, 98]⟩ : ByteArray) 7 2 true _ ?side1 A8.out).mono ?_); (case side1 => exact Glob.mono hG (by repeat first | (with_reducible first | exact HB.out | apply ba | apply bn | apply bd) | exact HB.out)); rintro e w19 ⟨rfl, hb⟩; have n0_ := Aside0.mk (Kd.R_below (by (with_reducible repeat (first | apply ra | apply rn | apply rd1)); exact HO130.out) hb); have n1_ := Aside0.mk (Kd.R_below (by (with_reducible repeat (first | apply ra | apply rn | apply rd1)); exact HO135.out) hb); have n2_ := Aside0.mk (below_step (by repeat first | (with_reducible first | exact HB.out | apply ba | apply bn | apply bd) | exact HB.out) hb); clear HO130; clear HO135; clear HB; have HO130 := n0_; have HO135 := n1_; have HB := n2_; clear n0_ n1_ n2_; (try clear hb); (try clear hb2); (try clear hk); (try clear hi)) | (go_at_call 18; (with_reducible refine (queuelablaw01_fails.calls k (⟨#[120, 32, 48, 48, 55]⟩ : ByteArray) 7 2 true _ ?side1 A10.out).mono ?_); (case side1 => exact Glob.mono hG (by repeat first | (with_reducible first | exact HB.out | apply ba | apply bn | apply bd) | exact HB.out)); rintro e w20 ⟨rfl, hb⟩; have n0_ := Aside0.mk (Kd.R_below (by (with_reducible repeat (first | apply ra | apply rn | apply rd1)); exact HO130.out) hb); have n1_ := Aside0.mk (Kd.R_below (by (with_reducible repeat (first | apply ra | apply rn | apply rd1)); exact HO135.out) hb); have n2_ := Aside0.mk (below_step (by repeat first | (with_reducible first | exact HB.out | apply ba | apply bn | apply bd) | exact HB.out) hb); clear HO130; clear HO135; clear HB; have HO130 := n0_; have HO135 := n1_; have HB := n2_; clear n0_ n1_ n2_; (try clear hb); (try clear hb2); (try clear hk); (try clear hi)) | (go_at_call 18; (with_reducible refine (queuelablaw01_fails.calls k (⟨#[120, 32, 49, 48, 48, 48, 48, 48, 48, 48, 48, 49]⟩ : ByteArray) 3 2 false _ ?side1 A12.out).mono ?_); (case side1 => exact Glob.mono hG (by repeat first | (with_reducible first | exact HB.out | apply ba | apply bn | apply bd) | exact HB.out)); rintro e w21 ⟨rfl, hb⟩; have n0_ := Aside0.mk (Kd.R_below (by (with_reducible repeat (first | apply ra | apply rn | apply rd1)); exact HO130.out) hb); have n1_ := Aside0.mk (Kd.R_below (by (with_reducible repeat (first | apply ra | apply rn | apply rd1)); exact HO135.out) hb); have n2_ := Aside0.mk (below_step (by repeat first | (with_reducible first | exact HB.out | apply ba | apply bn | apply bd) | exact HB.out) hb); clear HO130; clear HO135; clear HB; have HO130 := n0_; have HO135 := n1_; have HB := n2_; clear n0_ n1_ n2_; (try clear hb); (try clear hb2); (try clear hk); (try clear hi)))
            go_meet
            case rel => exact ⟨_, (false), (by first | rfl | (simp; done) | (simp [*]; done)), H', ⟨by first | omega | exact Nat.le_refl _⟩, ⟨by (with_reducible repeat (first | apply ra | apply rn | apply rd1)); exact Kd.R_mono HO130.out (fun _ hk => hk.2)⟩, ⟨by (with_reducible repeat (first | apply ra | apply rn | apply rd1)); exact Kd.R_mono HO135.out (fun _ hk => hk.2)⟩, ⟨by repeat (first | (with_reducible first | exact HB.out | apply ba | apply bn | apply bd) | exact HB.out)⟩⟩
        · replace c11 := Bool.eq_false_iff.mpr c11
          subst c11
          have H1 : (queuelablaw01_head.j0 k t126 t131 false) = some r := by rw [if_neg (show ¬ (false = true) by decide)] at H; exact H
          clear H
          have H := H1
          clear H1
          have H' := Aside0.mk H
          clear H
          go_wp2_with (first | (go_at_call 18; (with_reducible refine (queuelablaw01_fails.calls k (⟨#[97, 32, 33, 32, 98]⟩ : ByteArray) 7 2 true _ ?side1 A8.out).mono ?_); (case side1 => exact Glob.mono hG (by repeat first | (with_reducible first | exact HB.out | apply ba | apply bn | apply bd) | exact HB.out)); rintro e w22 ⟨rfl, hb⟩; have n0_ := Aside0.mk (Kd.R_below (by (with_reducible repeat (first | apply ra | apply rn | apply rd1)); exact HO130.out) hb); have n1_ := Aside0.mk (Kd.R_below (by (with_reducible repeat (first | apply ra | apply rn | apply rd1)); exact HO135.out) hb); have n2_ := Aside0.mk (below_step (by repeat first | (with_reducible first | exact HB.out | apply ba | apply bn | apply bd) | exact HB.out) hb); clear HO130; clear HO135; clear HB; have HO130 := n0_; have HO135 := n1_; have HB := n2_; clear n0_ n1_ n2_; (try clear hb); (try clear hb2); (try clear hk); (try clear hi)) | (go_at_call 18; (with_reducible refine (queuelablaw01_fails.calls k (⟨#[120, 32, 48, 48, 55]⟩ : ByteArray) 7 2 false _ ?side1 A10.out).mono ?_); (case side1 => exact Glob.mono hG (by repeat first | (with_reducible first | exact HB.out | apply ba | apply bn | apply bd) | exact HB.out)); rintro e w23 ⟨rfl, hb⟩; have n0_ := Aside0.mk (Kd.R_below (by (with_reducible repeat (first | apply ra | apply rn | apply rd1)); exact HO130.out) hb); have n1_ := Aside0.mk (Kd.R_below (by (with_reducible repeat (first | apply ra | apply rn | apply rd1)); exact HO135.out) hb); have n2_ := Aside0.mk (below_step (by repeat first | (with_reducible first | exact HB.out | apply ba | apply bn | apply bd) | exact HB.out) hb); clear HO130; clear HO135; clear HB; have HO130 := n0_; have HO135 := n1_; have HB := n2_; clear n0_ n1_ n2_; (try clear hb); (try clear hb2); (try clear hk); (try clear hi)))
          go_meet
          case rel => exact ⟨_, (false), (by first | rfl | (simp; done) | (simp [*]; done)), H', ⟨by first | omega | exact Nat.le_refl _⟩, ⟨by (with_reducible repeat (first | apply ra | apply rn | apply rd1)); exact Kd.R_mono HO130.out (fun _ hk => hk.2)⟩, ⟨by (with_reducible repeat (first | apply ra | apply rn | apply rd1)); exact Kd.R_mono HO135.out (fun _ hk => hk.2)⟩, ⟨by repeat (first | (with_reducible first | exact HB.out | apply ba | apply bn | apply bd) | exact HB.out)⟩⟩
      · replace c9 := Bool.eq_false_iff.mpr c9
        subst c9
        have H1 : (queuelablaw01_head.j0 k t126 t131 false) = some r := by rw [if_neg (show ¬ (false = true) by decide)] at H; exact H
        clear H
        have H := H1
        clear H1
        have H' := Aside0.mk H
        clear H
        go_wp2_with (first | (go_at_call 18; (with_reducible refine (queuelablaw01_fails.calls k (⟨#[97, 32, 33, 32, 98]⟩ : ByteArray) 7 2 false _ ?side1 A8.out).mono ?_); (case side1 => exact Glob.mono hG (by repeat first | (with_reducible first | exact HB.out | apply ba | apply bn | apply bd) | exact HB.out)); rintro e w24 ⟨rfl, hb⟩; have n0_ := Aside0.mk (Kd.R_below (by (with_reducible repeat (first | apply ra | apply rn | apply rd1)); exact HO130.out) hb); have n1_ := Aside0.mk (Kd.R_below (by (with_reducible repeat (first | apply ra | apply rn | apply rd1)); exact HO135.out) hb); have n2_ := Aside0.mk (below_step (by repeat first | (with_reducible first | exact HB.out | apply ba | apply bn | apply bd) | exact HB.out) hb); clear HO130; clear HO135; clear HB; have HO130 := n0_; have HO135 := n1_; have HB := n2_; clear n0_ n1_ n2_; (try clear hb); (try clear hb2); (try clear hk); (try clear hi)))
        go_meet
        case rel => exact ⟨_, (false), (by first | rfl | (simp; done) | (simp [*]; done)), H', ⟨by first | omega | exact Nat.le_refl _⟩, ⟨by (with_reducible repeat (first | apply ra | apply rn | apply rd1)); exact Kd.R_mono HO130.out (fun _ hk => hk.2)⟩, ⟨by (with_reducible repeat (first | apply ra | apply rn | apply rd1)); exact Kd.R_mono HO135.out (fun _ hk => hk.2)⟩, ⟨by repeat (first | (with_reducible first | exact HB.out | apply ba | apply bn | apply bd) | exact HB.out)⟩⟩
    · rw [if_neg c7] at H
      have c7b0 : (t132 == 0) = false := beq_eq_false_iff_ne.mpr c7
      have c7b1 : (t132 != 0) = true := bne_iff_ne.mpr c7
      have H' := Aside0.mk H
      clear H
      go_wp2
      go_meet
      case rel => exact ⟨_, (false), (by first | rfl | (simp; done) | (simp [*]; done)), H', ⟨by first | omega | exact Nat.le_refl _⟩, ⟨by (with_reducible repeat (first | apply ra | apply rn | apply rd1)); exact Kd.R_mono HO130.out (fun _ hk => hk.2)⟩, ⟨by (with_reducible repeat (first | apply ra | apply rn | apply rd1)); exact Kd.R_mono HO135.out (fun _ hk => hk.2)⟩, ⟨by repeat (first | (with_reducible first | exact HB.out | apply ba | apply bn | apply bd) | exact HB.out)⟩⟩
  · rw [if_neg c6] at H
    have c6b0 : (t127 == 0) = false := beq_eq_false_iff_ne.mpr c6
    have c6b1 : (t127 != 0) = true := bne_iff_ne.mpr c6
    (first | rw [c6b0] | (simp only [i64_w, i32_w]; rw [c6b0]) | skip)
    have H' := Aside0.mk H
    clear H
    go_wp2
    go_meet
    case rel => exact ⟨_, (false), (by first | rfl | (simp; done) | (simp [*]; done)), H', ⟨by first | omega | exact Nat.le_refl _⟩, ⟨by (with_reducible repeat (first | apply ra | apply rn | apply rd1)); exact Kd.R_mono HO130.out (fun _ hk => hk.2)⟩, ⟨by (with_reducible repeat (first | apply ra | apply rn | apply rd1)); exact Kd.R_mono HO135.out (fun _ hk => hk.2)⟩, ⟨by repeat (first | (with_reducible first | exact HB.out | apply ba | apply bn | apply bd) | exact HB.out)⟩⟩
 case rest =>
  clear HC3
  try clear c1
  try clear p2
  try clear c6
  try clear c6b0
  try clear c6b1
  try clear c7
  try clear c7b0
  try clear c7b1
  try clear c9
  try clear c10
  try clear c11
  try clear c13
  obtain ⟨kq, x7_2, rfl, HA, HJ2, HO_1, HO_4, HB⟩ := hcut
  cases kq with
  | zero => exact absurd HA.out (by simp [queuelablaw01_head.j0])
  | succ kj2 =>
   have H := HA.out
   clear HA
   simp only [queuelablaw01_head.j0] at H
   by_cases c25 : x7_2 = true
   · subst c25
     have H1 : ((queuelabref01_Same.f kj2 t126 (([(⟨1, (⟨#[119]⟩ : ByteArray), 0, 0⟩ : S31), (⟨3, (⟨#[60, 61]⟩ : ByteArray), 0, 1⟩ : S31), (⟨2, (⟨#[]⟩ : ByteArray), 3, 3⟩ : S31), (⟨3, (⟨#[59]⟩ : ByteArray), 0, 4⟩ : S31)] : List (S31))) 0).bind fun t143 => (if t143 = true then ((queuelabref01_Same.f kj2 t131 (([(⟨1, (⟨#[97]⟩ : ByteArray), 0, 0⟩ : S31), (⟨3, (⟨#[61, 61]⟩ : ByteArray), 0, 1⟩ : S31), (⟨3, (⟨#[33, 61]⟩ : ByteArray), 0, 3⟩ : S31), (⟨1, (⟨#[98]⟩ : ByteArray), 0, 5⟩ : S31)] : List (S31))) 0).bind fun t147 => (some t147)) else (some false))) = some r := by rw [if_pos rfl] at H; exact H
     clear H
     have H := H1
     clear H1
     obtain ⟨y140, hy140⟩ : ∃ y_ : List (S31), y_ = (([(⟨1, (⟨#[119]⟩ : ByteArray), 0, 0⟩ : S31), (⟨3, (⟨#[60, 61]⟩ : ByteArray), 0, 1⟩ : S31), (⟨2, (⟨#[]⟩ : ByteArray), 3, 3⟩ : S31), (⟨3, (⟨#[59]⟩ : ByteArray), 0, 4⟩ : S31)] : List (S31))) := ⟨_, rfl⟩
     replace H : ((queuelabref01_Same.f kj2 t126 y140 0).bind fun t143 => (if t143 = true then ((queuelabref01_Same.f kj2 t131 (([(⟨1, (⟨#[97]⟩ : ByteArray), 0, 0⟩ : S31), (⟨3, (⟨#[61, 61]⟩ : ByteArray), 0, 1⟩ : S31), (⟨3, (⟨#[33, 61]⟩ : ByteArray), 0, 3⟩ : S31), (⟨1, (⟨#[98]⟩ : ByteArray), 0, 5⟩ : S31)] : List (S31))) 0).bind fun t147 => (some t147)) else (some false))) = some r := by first | (rw [hy140]; with_reducible exact H) | (have H2_ := (Option.bind_some _ _).symm.trans H; rw [hy140]; with_reducible exact H2_) | (have H2_ := (Option.bind_some _ _).symm.trans H; with_reducible exact H2_) | with_reducible exact H | (rw [hy140]; exact H) | exact H
     have Ny140 := Aside0.mk hy140
     clear hy140
     replace H := obs.mp H
     obtain ⟨t143, A260, H⟩ := H
     replace H : (if t143 = true then ((queuelabref01_Same.f kj2 t131 (([(⟨1, (⟨#[97]⟩ : ByteArray), 0, 0⟩ : S31), (⟨3, (⟨#[61, 61]⟩ : ByteArray), 0, 1⟩ : S31), (⟨3, (⟨#[33, 61]⟩ : ByteArray), 0, 3⟩ : S31), (⟨1, (⟨#[98]⟩ : ByteArray), 0, 5⟩ : S31)] : List (S31))) 0).bind fun t147 => (some t147)) else (some false)) = some r := H
     have A26 := Aside0.mk A260
     clear A260
     by_cases c27 : t143 = true
     · subst c27
       have H1 : ((queuelabref01_Same.f kj2 t131 (([(⟨1, (⟨#[97]⟩ : ByteArray), 0, 0⟩ : S31), (⟨3, (⟨#[61, 61]⟩ : ByteArray), 0, 1⟩ : S31), (⟨3, (⟨#[33, 61]⟩ : ByteArray), 0, 3⟩ : S31), (⟨1, (⟨#[98]⟩ : ByteArray), 0, 5⟩ : S31)] : List (S31))) 0).bind fun t147 => (some t147)) = some r := by rw [if_pos rfl] at H; exact H
       clear H
       have H := H1
       clear H1
       obtain ⟨y144, hy144⟩ : ∃ y_ : List (S31), y_ = (([(⟨1, (⟨#[97]⟩ : ByteArray), 0, 0⟩ : S31), (⟨3, (⟨#[61, 61]⟩ : ByteArray), 0, 1⟩ : S31), (⟨3, (⟨#[33, 61]⟩ : ByteArray), 0, 3⟩ : S31), (⟨1, (⟨#[98]⟩ : ByteArray), 0, 5⟩ : S31)] : List (S31))) := ⟨_, rfl⟩
       replace H : ((queuelabref01_Same.f kj2 t131 y144 0).bind fun t147 => (some t147)) = some r := by first | (rw [hy144]; with_reducible exact H) | (have H2_ := (Option.bind_some _ _).symm.trans H; rw [hy144]; with_reducible exact H2_) | (have H2_ := (Option.bind_some _ _).symm.trans H; with_reducible exact H2_) | with_reducible exact H | (rw [hy144]; exact H) | exact H
       have Ny144 := Aside0.mk hy144
       clear hy144
       replace H := obs.mp H
       obtain ⟨t147, A280, H⟩ := H
       replace H : (some t147) = some r := H
       have A28 := Aside0.mk A280
       clear A280
       obtain rfl := Option.some.inj H
       go_wp2_with (first | ((with_reducible refine gate_dst (N := 43) rfl ?_); (try (refine gate_guard (by rfl) ?_; dsimp only)); refine Kd.R_lit k31 _ 31 ?hg (N := 43) ?hd (xs := ([(⟨1, (⟨#[119]⟩ : ByteArray), 0, 0⟩ : S31), (⟨3, (⟨#[60, 61]⟩ : ByteArray), 0, 1⟩ : S31), (⟨2, (⟨#[]⟩ : ByteArray), 3, 3⟩ : S31), (⟨3, (⟨#[59]⟩ : ByteArray), 0, 4⟩ : S31)] : List (S31))) (inner := [.int .i64 1, .string (⟨#[119]⟩ : ByteArray), .int .i64 0, .int .i64 0, .int .i64 3, .string (⟨#[60, 61]⟩ : ByteArray), .int .i64 0, .int .i64 1, .int .i64 2, .string (⟨#[]⟩ : ByteArray), .int .i64 3, .int .i64 3, .int .i64 3, .string (⟨#[59]⟩ : ByteArray), .int .i64 0, .int .i64 4]) (ok := fun _ => True) (okp := fun _ => True) ?hr ?hp (fun _ hk => hk) trivial (Below.refl _ _) (Nat.le_refl _) (by simp) ?_; (case hd => rfl); (case hg => rfl); (case hr => first | (go_simp; done) | (go_simp; rfl)); (case hp => exact (Reps.c4 (show Kd.M k31 _ _ _ (⟨1, (⟨#[119]⟩ : ByteArray), 0, 0⟩ : S31) [.int .i64 1, .string (⟨#[119]⟩ : ByteArray), .int .i64 0, .int .i64 0] from (k31_mkM _ _ _ (⟨1, (⟨#[119]⟩ : ByteArray), 0, 0⟩ : S31) )) (Reps.c4 (show Kd.M k31 _ _ _ (⟨3, (⟨#[60, 61]⟩ : ByteArray), 0, 1⟩ : S31) [.int .i64 3, .string (⟨#[60, 61]⟩ : ByteArray), .int .i64 0, .int .i64 1] from (k31_mkM _ _ _ (⟨3, (⟨#[60, 61]⟩ : ByteArray), 0, 1⟩ : S31) )) (Reps.c4 (show Kd.M k31 _ _ _ (⟨2, (⟨#[]⟩ : ByteArray), 3, 3⟩ : S31) [.int .i64 2, .string (⟨#[]⟩ : ByteArray), .int .i64 3, .int .i64 3] from (k31_mkM _ _ _ (⟨2, (⟨#[]⟩ : ByteArray), 3, 3⟩ : S31) )) (Reps.c4 (show Kd.M k31 _ _ _ (⟨3, (⟨#[59]⟩ : ByteArray), 0, 4⟩ : S31) [.int .i64 3, .string (⟨#[59]⟩ : ByteArray), .int .i64 0, .int .i64 4] from (k31_mkM _ _ _ (⟨3, (⟨#[59]⟩ : ByteArray), 0, 4⟩ : S31) )) (Reps.none _ _)))))); intro v141 w29 ho30 hb hg_ hnew_; clear hg_ hnew_; (first | rw [← Ny140.out] at ho30 | (simp only [Int.reduceToNat] at ho30; rw [← Ny140.out] at ho30)); have n0_ := Aside0.mk (Kd.R_elder' (by (with_reducible repeat (first | apply ra | apply rn | apply rd1)); exact HO_1.out) (Kd.R_base ho30) hb); have n1_ := Aside0.mk (Kd.R_elder' (by (with_reducible repeat (first | apply ra | apply rn | apply rd1)); exact HO_4.out) (Kd.R_base ho30) hb); have n2_ := Aside0.mk (Kd.R_lower (Kd.R_new' (Kd.R_new' ho30 (Kd.R_lt (by (with_reducible repeat (first | apply ra | apply rn | apply rd1)); exact HO_1.out))) (Kd.R_lt (by (with_reducible repeat (first | apply ra | apply rn | apply rd1)); exact HO_4.out))) (below_size (by repeat first | (with_reducible first | exact HB.out | apply ba | apply bn | apply bd) | exact HB.out))); have n3_ := Aside0.mk (below_step (by repeat first | (with_reducible first | exact HB.out | apply ba | apply bn | apply bd) | exact HB.out) hb); clear HO_1; clear HO_4; clear HB; have HO_1 := n0_; have HO_4 := n1_; have HO142 := n2_; have HB := n3_; clear n0_ n1_ n2_ n3_; clear hb ho30; obtain ⟨Ao31, co31, eo31⟩ := Kd.R_slice HO_1.out; subst eo31; obtain ⟨Ao32, co32, eo32⟩ := Kd.R_slice HO142.out; subst eo32) | (go_at_call 13; (with_reducible refine (queuelabref01_Same.calls kj2 _ _ t126 _ _ y140 0 true _ ?side1 ?side2 ?side3 ?side4 A26.out).mono ?_); (case side1 => repeat (first | exact (Kd.R_reads' HO_1.out).2.2 | (with_reducible refine Kd.C_alloc ?_ _) | (with_reducible refine Kd.C_drewN ?_ _) | (with_reducible refine Kd.C_drew ?_))); (case side2 => exact (Kd.R_reads' HO_1.out).2.1); (case side3 => repeat (first | exact (Kd.R_reads' HO142.out).2.2 | (with_reducible refine Kd.C_alloc ?_ _) | (with_reducible refine Kd.C_drewN ?_ _) | (with_reducible refine Kd.C_drew ?_))); (case side4 => exact (Kd.R_reads' HO142.out).2.1); rintro e w' ⟨rfl, ⟨nd, rfl⟩⟩) | ((with_reducible refine gate_dst (N := 53) rfl ?_); (try (refine gate_guard (by rfl) ?_; dsimp only)); refine Kd.R_lit k31 _ 31 ?hg (N := 53) ?hd (xs := ([(⟨1, (⟨#[97]⟩ : ByteArray), 0, 0⟩ : S31), (⟨3, (⟨#[61, 61]⟩ : ByteArray), 0, 1⟩ : S31), (⟨3, (⟨#[33, 61]⟩ : ByteArray), 0, 3⟩ : S31), (⟨1, (⟨#[98]⟩ : ByteArray), 0, 5⟩ : S31)] : List (S31))) (inner := [.int .i64 1, .string (⟨#[97]⟩ : ByteArray), .int .i64 0, .int .i64 0, .int .i64 3, .string (⟨#[61, 61]⟩ : ByteArray), .int .i64 0, .int .i64 1, .int .i64 3, .string (⟨#[33, 61]⟩ : ByteArray), .int .i64 0, .int .i64 3, .int .i64 1, .string (⟨#[98]⟩ : ByteArray), .int .i64 0, .int .i64 5]) (ok := fun _ => True) (okp := fun _ => True) ?hr ?hp (fun _ hk => hk) trivial (Below.refl _ _) (Nat.le_refl _) (by simp) ?_; (case hd => rfl); (case hg => rfl); (case hr => first | (go_simp; done) | (go_simp; rfl)); (case hp => exact (Reps.c4 (show Kd.M k31 _ _ _ (⟨1, (⟨#[97]⟩ : ByteArray), 0, 0⟩ : S31) [.int .i64 1, .string (⟨#[97]⟩ : ByteArray), .int .i64 0, .int .i64 0] from (k31_mkM _ _ _ (⟨1, (⟨#[97]⟩ : ByteArray), 0, 0⟩ : S31) )) (Reps.c4 (show Kd.M k31 _ _ _ (⟨3, (⟨#[61, 61]⟩ : ByteArray), 0, 1⟩ : S31) [.int .i64 3, .string (⟨#[61, 61]⟩ : ByteArray), .int .i64 0, .int .i64 1] from (k31_mkM _ _ _ (⟨3, (⟨#[61, 61]⟩ : ByteArray), 0, 1⟩ : S31) )) (Reps.c4 (show Kd.M k31 _ _ _ (⟨3, (⟨#[33, 61]⟩ : ByteArray), 0, 3⟩ : S31) [.int .i64 3, .string (⟨#[33, 61]⟩ : ByteArray), .int .i64 0, .int .i64 3] from (k31_mkM _ _ _ (⟨3, (⟨#[33, 61]⟩ : ByteArray), 0, 3⟩ : S31) )) (Reps.c4 (show Kd.M k31 _ _ _ (⟨1, (⟨#[98]⟩ : ByteArray), 0, 5⟩ : S31) [.int .i64 1, .string (⟨#[98]⟩ : ByteArray), .int .i64 0, .int .i64 5] from (k31_mkM _ _ _ (⟨1, (⟨#[98]⟩ : ByteArray), 0, 5⟩ : S31) )) (Reps.none _ _)))))); intro v145 w33 ho34 hb hg_ hnew_; clear hg_ hnew_; (first | rw [← Ny144.out] at ho34 | (simp only [Int.reduceToNat] at ho34; rw [← Ny144.out] at ho34)); have n0_ := Aside0.mk (Kd.R_elder' (by (with_reducible repeat (first | apply ra | apply rn | apply rd1)); exact HO_1.out) (Kd.R_base ho34) hb); have n1_ := Aside0.mk (Kd.R_elder' (by (with_reducible repeat (first | apply ra | apply rn | apply rd1)); exact HO_4.out) (Kd.R_base ho34) hb); have n2_ := Aside0.mk (Kd.R_elder' (by (with_reducible repeat (first | apply ra | apply rn | apply rd1)); exact HO142.out) (Kd.R_base ho34) hb); have n3_ := Aside0.mk (Kd.R_lower (Kd.R_new' (Kd.R_new' (Kd.R_new' ho34 (Kd.R_lt (by (with_reducible repeat (first | apply ra | apply rn | apply rd1)); exact HO_1.out))) (Kd.R_lt (by (with_reducible repeat (first | apply ra | apply rn | apply rd1)); exact HO_4.out))) (Kd.R_lt (by (with_reducible repeat (first | apply ra | apply rn | apply rd1)); exact HO142.out))) (below_size (by repeat first | (with_reducible first | exact HB.out | apply ba | apply bn | apply bd) | exact HB.out))); have n4_ := Aside0.mk (below_step (by repeat first | (with_reducible first | exact HB.out | apply ba | apply bn | apply bd) | exact HB.out) hb); clear HO_1; clear HO_4; clear HO142; clear HB; have HO_1 := n0_; have HO_4 := n1_; have HO142 := n2_; have HO146 := n3_; have HB := n4_; clear n0_ n1_ n2_ n3_ n4_; clear hb ho34; obtain ⟨Ao35, co35, eo35⟩ := Kd.R_slice HO_4.out; subst eo35; obtain ⟨Ao36, co36, eo36⟩ := Kd.R_slice HO146.out; subst eo36) | (go_at_call 13; (with_reducible refine (queuelabref01_Same.calls kj2 _ _ t131 _ _ y144 0 t147 _ ?side1 ?side2 ?side3 ?side4 A28.out).mono ?_); (case side1 => repeat (first | exact (Kd.R_reads' HO_4.out).2.2 | (with_reducible refine Kd.C_alloc ?_ _) | (with_reducible refine Kd.C_drewN ?_ _) | (with_reducible refine Kd.C_drew ?_))); (case side2 => exact (Kd.R_reads' HO_4.out).2.1); (case side3 => repeat (first | exact (Kd.R_reads' HO146.out).2.2 | (with_reducible refine Kd.C_alloc ?_ _) | (with_reducible refine Kd.C_drewN ?_ _) | (with_reducible refine Kd.C_drew ?_))); (case side4 => exact (Kd.R_reads' HO146.out).2.1); rintro e w' ⟨rfl, ⟨nd, rfl⟩⟩))
       go_ret
       exact ⟨by first | rfl | (simp [errW_none, errW_some] <;> rfl) | (simp [*, errW_none, errW_some] <;> rfl), by repeat (first | (with_reducible first | exact HB.out | apply ba | apply bn | apply bd) | exact HB.out)⟩
     · replace c27 := Bool.eq_false_iff.mpr c27
       subst c27
       have H1 : (some false) = some r := by rw [if_neg (show ¬ (false = true) by decide)] at H; exact H
       clear H
       have H := H1
       clear H1
       obtain rfl := Option.some.inj H
       go_wp2_with (first | ((with_reducible refine gate_dst (N := 43) rfl ?_); (try (refine gate_guard (by rfl) ?_; dsimp only)); refine Kd.R_lit k31 _ 31 ?hg (N := 43) ?hd (xs := ([(⟨1, (⟨#[119]⟩ : ByteArray), 0, 0⟩ : S31), (⟨3, (⟨#[60, 61]⟩ : ByteArray), 0, 1⟩ : S31), (⟨2, (⟨#[]⟩ : ByteArray), 3, 3⟩ : S31), (⟨3, (⟨#[59]⟩ : ByteArray), 0, 4⟩ : S31)] : List (S31))) (inner := [.int .i64 1, .string (⟨#[119]⟩ : ByteArray), .int .i64 0, .int .i64 0, .int .i64 3, .string (⟨#[60, 61]⟩ : ByteArray), .int .i64 0, .int .i64 1, .int .i64 2, .string (⟨#[]⟩ : ByteArray), .int .i64 3, .int .i64 3, .int .i64 3, .string (⟨#[59]⟩ : ByteArray), .int .i64 0, .int .i64 4]) (ok := fun _ => True) (okp := fun _ => True) ?hr ?hp (fun _ hk => hk) trivial (Below.refl _ _) (Nat.le_refl _) (by simp) ?_; (case hd => rfl); (case hg => rfl); (case hr => first | (go_simp; done) | (go_simp; rfl)); (case hp => exact (Reps.c4 (show Kd.M k31 _ _ _ (⟨1, (⟨#[119]⟩ : ByteArray), 0, 0⟩ : S31) [.int .i64 1, .string (⟨#[119]⟩ : ByteArray), .int .i64 0, .int .i64 0] from (k31_mkM _ _ _ (⟨1, (⟨#[119]⟩ : ByteArray), 0, 0⟩ : S31) )) (Reps.c4 (show Kd.M k31 _ _ _ (⟨3, (⟨#[60, 61]⟩ : ByteArray), 0, 1⟩ : S31) [.int .i64 3, .string (⟨#[60, 61]⟩ : ByteArray), .int .i64 0, .int .i64 1] from (k31_mkM _ _ _ (⟨3, (⟨#[60, 61]⟩ : ByteArray), 0, 1⟩ : S31) )) (Reps.c4 (show Kd.M k31 _ _ _ (⟨2, (⟨#[]⟩ : ByteArray), 3, 3⟩ : S31) [.int .i64 2, .string (⟨#[]⟩ : ByteArray), .int .i64 3, .int .i64 3] from (k31_mkM _ _ _ (⟨2, (⟨#[]⟩ : ByteArray), 3, 3⟩ : S31) )) (Reps.c4 (show Kd.M k31 _ _ _ (⟨3, (⟨#[59]⟩ : ByteArray), 0, 4⟩ : S31) [.int .i64 3, .string (⟨#[59]⟩ : ByteArray), .int .i64 0, .int .i64 4] from (k31_mkM _ _ _ (⟨3, (⟨#[59]⟩ : ByteArray), 0, 4⟩ : S31) )) (Reps.none _ _)))))); intro v141 w37 ho38 hb hg_ hnew_; clear hg_ hnew_; (first | rw [← Ny140.out] at ho38 | (simp only [Int.reduceToNat] at ho38; rw [← Ny140.out] at ho38)); have n0_ := Aside0.mk (Kd.R_elder' (by (with_reducible repeat (first | apply ra | apply rn | apply rd1)); exact HO_1.out) (Kd.R_base ho38) hb); have n1_ := Aside0.mk (Kd.R_elder' (by (with_reducible repeat (first | apply ra | apply rn | apply rd1)); exact HO_4.out) (Kd.R_base ho38) hb); have n2_ := Aside0.mk (Kd.R_lower (Kd.R_new' (Kd.R_new' ho38 (Kd.R_lt (by (with_reducible repeat (first | apply ra | apply rn | apply rd1)); exact HO_1.out))) (Kd.R_lt (by (with_reducible repeat (first | apply ra | apply rn | apply rd1)); exact HO_4.out))) (below_size (by repeat first | (with_reducible first | exact HB.out | apply ba | apply bn | apply bd) | exact HB.out))); have n3_ := Aside0.mk (below_step (by repeat first | (with_reducible first | exact HB.out | apply ba | apply bn | apply bd) | exact HB.out) hb); clear HO_1; clear HO_4; clear HB; have HO_1 := n0_; have HO_4 := n1_; have HO142 := n2_; have HB := n3_; clear n0_ n1_ n2_ n3_; clear hb ho38; obtain ⟨Ao39, co39, eo39⟩ := Kd.R_slice HO_1.out; subst eo39; obtain ⟨Ao40, co40, eo40⟩ := Kd.R_slice HO142.out; subst eo40) | (go_at_call 13; (with_reducible refine (queuelabref01_Same.calls kj2 _ _ t126 _ _ y140 0 false _ ?side1 ?side2 ?side3 ?side4 A26.out).mono ?_); (case side1 => repeat (first | exact (Kd.R_reads' HO_1.out).2.2 | (with_reducible refine Kd.C_alloc ?_ _) | (with_reducible refine Kd.C_drewN ?_ _) | (with_reducible refine Kd.C_drew ?_))); (case side2 => exact (Kd.R_reads' HO_1.out).2.1); (case side3 => repeat (first | exact (Kd.R_reads' HO142.out).2.2 | (with_reducible refine Kd.C_alloc ?_ _) | (with_reducible refine Kd.C_drewN ?_ _) | (with_reducible refine Kd.C_drew ?_))); (case side4 => exact (Kd.R_reads' HO142.out).2.1); rintro e w' ⟨rfl, ⟨nd, rfl⟩⟩))
       go_ret
       exact ⟨by first | rfl | (simp [errW_none, errW_some] <;> rfl) | (simp [*, errW_none, errW_some] <;> rfl), by repeat (first | (with_reducible first | exact HB.out | apply ba | apply bn | apply bd) | exact HB.out)⟩
   · replace c25 := Bool.eq_false_iff.mpr c25
     subst c25
     have H1 : (some false) = some r := by rw [if_neg (show ¬ (false = true) by decide)] at H; exact H
     clear H
     have H := H1
     clear H1
     obtain rfl := Option.some.inj H
     go_wp2
     go_ret
     exact ⟨by first | rfl | (simp [errW_none, errW_some] <;> rfl) | (simp [*, errW_none, errW_some] <;> rfl), by repeat (first | (with_reducible first | exact HB.out | apply ba | apply bn | apply bd) | exact HB.out)⟩

/-! ### queuelabref01_Gap: function 15 -/
mutual
def queuelabref01_Gap.l0 : Nat → ByteArray → Int → Bool → Option (Int)
 | 0, _, _, _ => none
 | k + 1, x0, x1, x5 => if x1 < (x0.size : Int) then (if 0 ≤ x1 then (if (bt x0 x1) = 35 then (queuelabref01_Gap.j1 k x0 x1 true (bt x0 x1)) else (queuelabref01_Gap.j1 k x0 x1 x5 (bt x0 x1))) else (none)) else (some x1)
def queuelabref01_Gap.j1 : Nat → ByteArray → Int → Bool → Int → Option (Int)
 | 0, _, _, _, _ => none
 | k + 1, x0, x1, x5, x6 => if x6 = 10 then (queuelabref01_Gap.j2 k x0 x1 false x6) else (queuelabref01_Gap.j2 k x0 x1 x5 x6)
def queuelabref01_Gap.j2 : Nat → ByteArray → Int → Bool → Int → Option (Int)
 | 0, _, _, _, _ => none
 | k + 1, x0, x1, x5, x6 => if x5 = true then (queuelabref01_Gap.j3 k x0 x1 x5 false) else (if x6 = 32 then (queuelabref01_Gap.j3 k x0 x1 x5 false) else (if x6 = 9 then (queuelabref01_Gap.j3 k x0 x1 x5 false) else (queuelabref01_Gap.j3 k x0 x1 x5 (x6 != 10))))
def queuelabref01_Gap.j3 : Nat → ByteArray → Int → Bool → Bool → Option (Int)
 | 0, _, _, _, _ => none
 | k + 1, x0, x1, x5, x31 => if x31 = true then (some x1) else (queuelabref01_Gap.l0 k x0 (wrap64 (x1 + 1)) x5)
end
def queuelabref01_Gap.f (k : Nat) (a0 : ByteArray) (a1 : Int) : Option (Int) := queuelabref01_Gap.l0 k a0 a1 false
theorem queuelabref01_Gap.mono_l : ∀ k, (∀ y0 y1 y2, LeO (queuelabref01_Gap.l0 k y0 y1 y2) (queuelabref01_Gap.l0 (k + 1) y0 y1 y2)) ∧ (∀ y0 y1 y2 y3, LeO (queuelabref01_Gap.j1 k y0 y1 y2 y3) (queuelabref01_Gap.j1 (k + 1) y0 y1 y2 y3)) ∧ (∀ y0 y1 y2 y3, LeO (queuelabref01_Gap.j2 k y0 y1 y2 y3) (queuelabref01_Gap.j2 (k + 1) y0 y1 y2 y3)) ∧ (∀ y0 y1 y2 y3, LeO (queuelabref01_Gap.j3 k y0 y1 y2 y3) (queuelabref01_Gap.j3 (k + 1) y0 y1 y2 y3))
 | 0 => ⟨fun _ _ _ r h => by simp [queuelabref01_Gap.l0] at h, fun _ _ _ _ r h => by simp [queuelabref01_Gap.j1] at h, fun _ _ _ _ r h => by simp [queuelabref01_Gap.j2] at h, fun _ _ _ _ r h => by simp [queuelabref01_Gap.j3] at h⟩
 | k + 1 => by
  obtain ⟨ih0, ih1, ih2, ih3⟩ := queuelabref01_Gap.mono_l k
  refine ⟨?_, ?_, ?_, ?_⟩
  · intro y0 y1 y2
    unfold queuelabref01_Gap.l0
    repeat' first
    | (with_reducible exact ih0 _ _ _)
    | (with_reducible exact ih1 _ _ _ _)
    | (with_reducible exact ih2 _ _ _ _)
    | (with_reducible exact ih3 _ _ _ _)
    | (with_reducible exact LeO.refl _)
    | (with_reducible exact LeO.none _)
    | (with_reducible refine LeO.ite ?_ ?_)
    | (with_reducible refine LeO.bind ?_ (fun _ => ?_))
    | exact ih0 _ _ _
    | exact ih1 _ _ _ _
    | exact ih2 _ _ _ _
    | exact ih3 _ _ _ _
    | exact LeO.none _
    | refine LeO.ite ?_ ?_
    | refine LeO.bind ?_ (fun _ => ?_)
  · intro y0 y1 y2 y3
    unfold queuelabref01_Gap.j1
    repeat' first
    | (with_reducible exact ih0 _ _ _)
    | (with_reducible exact ih1 _ _ _ _)
    | (with_reducible exact ih2 _ _ _ _)
    | (with_reducible exact ih3 _ _ _ _)
    | (with_reducible exact LeO.refl _)
    | (with_reducible exact LeO.none _)
    | (with_reducible refine LeO.ite ?_ ?_)
    | (with_reducible refine LeO.bind ?_ (fun _ => ?_))
    | exact ih0 _ _ _
    | exact ih1 _ _ _ _
    | exact ih2 _ _ _ _
    | exact ih3 _ _ _ _
    | exact LeO.none _
    | refine LeO.ite ?_ ?_
    | refine LeO.bind ?_ (fun _ => ?_)
  · intro y0 y1 y2 y3
    unfold queuelabref01_Gap.j2
    repeat' first
    | (with_reducible exact ih0 _ _ _)
    | (with_reducible exact ih1 _ _ _ _)
    | (with_reducible exact ih2 _ _ _ _)
    | (with_reducible exact ih3 _ _ _ _)
    | (with_reducible exact LeO.refl _)
    | (with_reducible exact LeO.none _)
    | (with_reducible refine LeO.ite ?_ ?_)
    | (with_reducible refine LeO.bind ?_ (fun _ => ?_))
    | exact ih0 _ _ _
    | exact ih1 _ _ _ _
    | exact ih2 _ _ _ _
    | exact ih3 _ _ _ _
    | exact LeO.none _
    | refine LeO.ite ?_ ?_
    | refine LeO.bind ?_ (fun _ => ?_)
  · intro y0 y1 y2 y3
    unfold queuelabref01_Gap.j3
    repeat' first
    | (with_reducible exact ih0 _ _ _)
    | (with_reducible exact ih1 _ _ _ _)
    | (with_reducible exact ih2 _ _ _ _)
    | (with_reducible exact ih3 _ _ _ _)
    | (with_reducible exact LeO.refl _)
    | (with_reducible exact LeO.none _)
    | (with_reducible refine LeO.ite ?_ ?_)
    | (with_reducible refine LeO.bind ?_ (fun _ => ?_))
    | exact ih0 _ _ _
    | exact ih1 _ _ _ _
    | exact ih2 _ _ _ _
    | exact ih3 _ _ _ _
    | exact LeO.none _
    | refine LeO.ite ?_ ?_
    | refine LeO.bind ?_ (fun _ => ?_)
theorem queuelabref01_Gap.mono : ∀ a0 a1 k, LeO (queuelabref01_Gap.f k a0 a1) (queuelabref01_Gap.f (k + 1) a0 a1) := by
 intro a0 a1 k
 obtain ⟨ih0, ih1, ih2, ih3⟩ := queuelabref01_Gap.mono_l k
 unfold queuelabref01_Gap.f
 repeat' first
  | (with_reducible exact ih0 _ _ _)
  | (with_reducible exact ih1 _ _ _ _)
  | (with_reducible exact ih2 _ _ _ _)
  | (with_reducible exact ih3 _ _ _ _)
  | (with_reducible exact LeO.refl _)
  | (with_reducible exact LeO.none _)
  | (with_reducible refine LeO.ite ?_ ?_)
  | (with_reducible refine LeO.bind ?_ (fun _ => ?_))
  | exact ih0 _ _ _
  | exact ih1 _ _ _ _
  | exact ih2 _ _ _ _
  | exact ih3 _ _ _ _
  | exact LeO.none _
  | refine LeO.ite ?_ ?_
  | refine LeO.bind ?_ (fun _ => ?_)
set_option maxHeartbeats 8000000 in
set_option maxRecDepth 100000 in
theorem queuelabref01_Gap.calls (k : Nat) (a0 : ByteArray) (a1 : Int) (r : Int) (w : World) (h : queuelabref01_Gap.f k a0 a1 = some r) :
 Calls Tryd.prog 15 #[.string a0, .int .i64 a1] w fun e w' => e = .returned (.int .i64 r) ∧ Drawn0 w w' := by
 have H : (queuelabref01_Gap.l0 k a0 a1 false) = some r := h
 clear h
 have H' := Aside0.mk H
 clear H
 go_enter Tryd.func15, Tryd.ntmps15
 go_wp2
 go_loopg [1, 5] k (fun kq v1 v5 w' => ∃ (x1_1 : Int) (x5_1 : Bool), v1 = .int .i64 x1_1 ∧ v5 = .bool x5_1 ∧ Aside0 (queuelabref01_Gap.l0 kq a0 x1_1 x5_1 = some r) ∧ Aside0 (kq ≤ k) ∧ Drawn0 w w')
 case atStart => exact ⟨(a1), (false), (by first | rfl | (simp; done) | (simp [*]; done)), (by first | rfl | (simp; done) | (simp [*]; done)), H', ⟨Nat.le_refl _⟩, by repeat (first | exact Drawn0.refl _ | apply Drawn0.step)⟩
 case round =>
  clear H'
  try clear c1
  try clear p2
  obtain ⟨x1_1, x5_1, rfl, rfl, HA, HK1, ⟨m1, rfl⟩⟩ := hrel
  cases gk with
  | zero => exact absurd HA.out (by simp [queuelabref01_Gap.l0])
  | succ k1 =>
   have H := HA.out
   clear HA
   simp only [queuelabref01_Gap.l0] at H
   by_cases c3 : x1_1 < (a0.size : Int)
   · rw [if_pos c3] at H
     have c3b0 : decide (x1_1 < (a0.size : Int)) = true := decide_eq_true c3
     clear c3
     by_cases c4 : 0 ≤ x1_1
     · rw [if_pos c4] at H
       have c4b0 : decide (0 ≤ x1_1) = true := decide_eq_true c4
       clear c4
       have HC6 := Aside0.mk H
       clear H
       have p5 : 0 ≤ (x1_1 : Int) := of_decide_eq_true (by first | (with_reducible assumption) | assumption)
       have q5 : x1_1 < (a0.size : Int) := of_decide_eq_true (by first | (with_reducible assumption) | assumption)
       have hx5 := bt_at a0 x1_1
       replace p5 := eq_true p5
       replace q5 := eq_true q5
       go_upto_if 15 with (fail)
       go_cut [5] (fun v5 wc => ∃ (kq : Nat) (x5_5 : Bool), v5 = .bool x5_5 ∧ Aside0 (queuelabref01_Gap.j1 kq a0 x1_1 x5_5 (bt a0 x1_1) = some r) ∧ Aside0 (kq ≤ k1) ∧ Drawn0 w wc)
       case first =>
        have H := HC6.out
        clear HC6
        by_cases c7 : (bt a0 x1_1) = 35
        · rw [if_pos c7] at H
          have c7b0 : ((bt a0 x1_1) == 35) = true := beq_iff_eq.mpr c7
          have c7b1 : ((bt a0 x1_1) != 35) = false := bne_eq_false_iff_eq.mpr c7
          clear c7
          (first | rw [c7b0] | (simp only [i64_w, i32_w]; rw [c7b0]) | skip)
          have H' := Aside0.mk H
          clear H
          go_wp2
          go_meet
          case rel => exact ⟨_, (true), (by first | rfl | (simp; done) | (simp [*]; done)), H', ⟨by have := HK1.out; first | omega | exact Nat.le_refl _⟩, by repeat (first | exact Drawn0.refl _ | apply Drawn0.step)⟩
        · rw [if_neg c7] at H
          have c7b0 : ((bt a0 x1_1) == 35) = false := beq_eq_false_iff_ne.mpr c7
          have c7b1 : ((bt a0 x1_1) != 35) = true := bne_iff_ne.mpr c7
          (first | rw [c7b0] | (simp only [i64_w, i32_w]; rw [c7b0]) | skip)
          have H' := Aside0.mk H
          clear H
          go_wp2
          go_meet
          case rel => exact ⟨_, (x5_1), (by first | rfl | (simp; done) | (simp [*]; done)), H', ⟨by have := HK1.out; first | omega | exact Nat.le_refl _⟩, by repeat (first | exact Drawn0.refl _ | apply Drawn0.step)⟩
       case rest =>
        clear HC6
        try clear c1
        try clear p2
        try clear c3
        try clear c3b0
        try clear c4
        try clear c4b0
        try clear p5
        try clear q5
        try clear hx5
        try clear c7
        try clear c7b0
        try clear c7b1
        try clear p2
        try clear p5
        try clear q5
        obtain ⟨kq, x5_5, rfl, HA, HJ5, ⟨mc5, rfl⟩⟩ := hcut
        cases kq with
        | zero => exact absurd HA.out (by simp [queuelabref01_Gap.j1])
        | succ kj5 =>
         have H := HA.out
         clear HA
         simp only [queuelabref01_Gap.j1] at H
         have HC8 := Aside0.mk H
         clear H
         go_upto_if 17 with (fail)
         go_cut [5] (fun v5 wc => ∃ (kq : Nat) (x5_7 : Bool), v5 = .bool x5_7 ∧ Aside0 (queuelabref01_Gap.j2 kq a0 x1_1 x5_7 (bt a0 x1_1) = some r) ∧ Aside0 (kq ≤ kj5) ∧ Drawn0 w wc)
         case first =>
          have H := HC8.out
          clear HC8
          by_cases c9 : (bt a0 x1_1) = 10
          · rw [if_pos c9] at H
            have c9b0 : ((bt a0 x1_1) == 10) = true := beq_iff_eq.mpr c9
            have c9b1 : ((bt a0 x1_1) != 10) = false := bne_eq_false_iff_eq.mpr c9
            clear c9
            (first | rw [c9b0] | (simp only [i64_w, i32_w]; rw [c9b0]) | skip)
            have H' := Aside0.mk H
            clear H
            go_wp2
            go_meet
            case rel => exact ⟨_, (false), (by first | rfl | (simp; done) | (simp [*]; done)), H', ⟨by have := HK1.out; have := HJ5.out; first | omega | exact Nat.le_refl _⟩, by repeat (first | exact Drawn0.refl _ | apply Drawn0.step)⟩
          · rw [if_neg c9] at H
            have c9b0 : ((bt a0 x1_1) == 10) = false := beq_eq_false_iff_ne.mpr c9
            have c9b1 : ((bt a0 x1_1) != 10) = true := bne_iff_ne.mpr c9
            (first | rw [c9b0] | (simp only [i64_w, i32_w]; rw [c9b0]) | skip)
            have H' := Aside0.mk H
            clear H
            go_wp2
            go_meet
            case rel => exact ⟨_, (x5_5), (by first | rfl | (simp; done) | (simp [*]; done)), H', ⟨by have := HK1.out; have := HJ5.out; first | omega | exact Nat.le_refl _⟩, by repeat (first | exact Drawn0.refl _ | apply Drawn0.step)⟩
         case rest =>
          clear HC8
          try clear c1
          try clear p2
          try clear c3
          try clear c3b0
          try clear c4
          try clear c4b0
          try clear c5
          try clear p5
          try clear q5
          try clear hx5
          try clear c7
          try clear c7b0
          try clear c7b1
          try clear c9
          try clear c9b0
          try clear c9b1
          try clear p2
          try clear p5
          try clear q5
          obtain ⟨kq, x5_7, rfl, HA, HJ7, ⟨mc7, rfl⟩⟩ := hcut
          cases kq with
          | zero => exact absurd HA.out (by simp [queuelabref01_Gap.j2])
          | succ kj7 =>
           have H := HA.out
           clear HA
           simp only [queuelabref01_Gap.j2] at H
           have HC10 := Aside0.mk H
           clear H
           go_upto_region 8 with (fail)
           go_cut [31] (fun v31 wc => ∃ (kq : Nat) (x31_9 : Bool), v31 = .bool x31_9 ∧ Aside0 (queuelabref01_Gap.j3 kq a0 x1_1 x5_7 x31_9 = some r) ∧ Aside0 (kq ≤ kj7) ∧ Drawn0 w wc)
           case first =>
            have H := HC10.out
            clear HC10
            by_cases c11 : x5_7 = true
            · subst c11
              have H1 : (queuelabref01_Gap.j3 kj7 a0 x1_1 true false) = some r := by rw [if_pos rfl] at H; exact H
              clear H
              have H := H1
              clear H1
              have H' := Aside0.mk H
              clear H
              go_wp2
              go_meet
              case rel => exact ⟨_, (false), (by first | rfl | (simp; done) | (simp [*]; done)), H', ⟨by have := HK1.out; have := HJ5.out; have := HJ7.out; first | omega | exact Nat.le_refl _⟩, by repeat (first | exact Drawn0.refl _ | apply Drawn0.step)⟩
            · replace c11 := Bool.eq_false_iff.mpr c11
              subst c11
              have H1 : (if (bt a0 x1_1) = 32 then (queuelabref01_Gap.j3 kj7 a0 x1_1 false false) else (if (bt a0 x1_1) = 9 then (queuelabref01_Gap.j3 kj7 a0 x1_1 false false) else (queuelabref01_Gap.j3 kj7 a0 x1_1 false ((bt a0 x1_1) != 10)))) = some r := by rw [if_neg (show ¬ (false = true) by decide)] at H; exact H
              clear H
              have H := H1
              clear H1
              by_cases c12 : (bt a0 x1_1) = 32
              · rw [if_pos c12] at H
                have c12b0 : ((bt a0 x1_1) == 32) = true := beq_iff_eq.mpr c12
                have c12b1 : ((bt a0 x1_1) != 32) = false := bne_eq_false_iff_eq.mpr c12
                clear c12
                (first | rw [c12b0] | (simp only [i64_w, i32_w]; rw [c12b0]) | skip)
                have H' := Aside0.mk H
                clear H
                go_wp2
                go_meet
                case rel => exact ⟨_, (false), (by first | rfl | (simp; done) | (simp [*]; done)), H', ⟨by have := HK1.out; have := HJ5.out; have := HJ7.out; first | omega | exact Nat.le_refl _⟩, by repeat (first | exact Drawn0.refl _ | apply Drawn0.step)⟩
              · rw [if_neg c12] at H
                have c12b0 : ((bt a0 x1_1) == 32) = false := beq_eq_false_iff_ne.mpr c12
                have c12b1 : ((bt a0 x1_1) != 32) = true := bne_iff_ne.mpr c12
                (first | rw [c12b0] | (simp only [i64_w, i32_w]; rw [c12b0]) | skip)
                by_cases c13 : (bt a0 x1_1) = 9
                · rw [if_pos c13] at H
                  have c13b0 : ((bt a0 x1_1) == 9) = true := beq_iff_eq.mpr c13
                  have c13b1 : ((bt a0 x1_1) != 9) = false := bne_eq_false_iff_eq.mpr c13
                  clear c13
                  have H' := Aside0.mk H
                  clear H
                  go_wp2
                  go_meet
                  case rel => exact ⟨_, (false), (by first | rfl | (simp; done) | (simp [*]; done)), H', ⟨by have := HK1.out; have := HJ5.out; have := HJ7.out; first | omega | exact Nat.le_refl _⟩, by repeat (first | exact Drawn0.refl _ | apply Drawn0.step)⟩
                · rw [if_neg c13] at H
                  have c13b0 : ((bt a0 x1_1) == 9) = false := beq_eq_false_iff_ne.mpr c13
                  have c13b1 : ((bt a0 x1_1) != 9) = true := bne_iff_ne.mpr c13
                  have H' := Aside0.mk H
                  clear H
                  go_wp2
                  go_meet
                  case rel => exact ⟨_, (((bt a0 x1_1) != 10)), (by first | rfl | (simp; done) | (simp [*]; done)), H', ⟨by have := HK1.out; have := HJ5.out; have := HJ7.out; first | omega | exact Nat.le_refl _⟩, by repeat (first | exact Drawn0.refl _ | apply Drawn0.step)⟩
           case rest =>
            clear HC10
            try clear c1
            try clear p2
            try clear c3
            try clear c3b0
            try clear c4
            try clear c4b0
            try clear c5
            try clear p5
            try clear q5
            try clear hx5
            try clear c7
            try clear c7b0
            try clear c7b1
            try clear c9
            try clear c9b0
            try clear c9b1
            try clear c11
            try clear c12
            try clear c12b0
            try clear c12b1
            try clear c13
            try clear c13b0
            try clear c13b1
            try clear p2
            try clear p5
            try clear q5
            obtain ⟨kq, x31_9, rfl, HA, HJ9, ⟨mc9, rfl⟩⟩ := hcut
            cases kq with
            | zero => exact absurd HA.out (by simp [queuelabref01_Gap.j3])
            | succ kj9 =>
             have H := HA.out
             clear HA
             simp only [queuelabref01_Gap.j3] at H
             by_cases c14 : x31_9 = true
             · subst c14
               have H1 : (some x1_1) = some r := by rw [if_pos rfl] at H; exact H
               clear H
               have H := H1
               clear H1
               obtain rfl := Option.some.inj H
               go_wp2
               go_ret
               exact ⟨by first | rfl | (simp; done) | (simp [*]; done), by repeat (first | exact Drawn0.refl _ | apply Drawn0.step)⟩
             · replace c14 := Bool.eq_false_iff.mpr c14
               subst c14
               have H1 : (queuelabref01_Gap.l0 kj9 a0 (wrap64 (x1_1 + 1)) x5_7) = some r := by rw [if_neg (show ¬ (false = true) by decide)] at H; exact H
               clear H
               have H := H1
               clear H1
               have H' := Aside0.mk H
               clear H
               go_wp2
               go_roundg kj9
               case measure => have := HK1.out; have := HJ5.out; have := HJ7.out; have := HJ9.out; omega
               case rel => exact ⟨(wrap64 (x1_1 + 1)), (x5_7), (by first | rfl | (simp; done) | (simp [*]; done)), (by first | rfl | (simp; done) | (simp [*]; done)), H', ⟨by have := HK1.out; have := HJ5.out; have := HJ7.out; have := HJ9.out; omega⟩, by repeat (first | exact Drawn0.refl _ | apply Drawn0.step)⟩
     · rw [if_neg c4] at H
       exact absurd H (by simp)
   · rw [if_neg c3] at H
     have c3b0 : decide (x1_1 < (a0.size : Int)) = false := decide_eq_false c3
     clear c3
     obtain rfl := Option.some.inj H
     go_wp2
     go_ret
     exact ⟨by first | rfl | (simp; done) | (simp [*]; done), by repeat (first | exact Drawn0.refl _ | apply Drawn0.step)⟩

/-! ### queuelabref01_Letter: function 23 -/
def queuelabref01_Letter.f (a0 : Int) : Option (Bool) := if a0 ≥ 97 then (some (decide (a0 ≤ 122))) else (some false)
set_option maxHeartbeats 8000000 in
set_option maxRecDepth 100000 in
theorem queuelabref01_Letter.calls (a0 : Int) (r : Bool) (w : World) (h : queuelabref01_Letter.f a0 = some r) :
 Calls Tryd.prog 23 #[.int .u8 a0] w fun e w' => e = .returned (.bool r) ∧ Drawn0 w w' := by
 have H : (if a0 ≥ 97 then (some (decide (a0 ≤ 122))) else (some false)) = some r := h
 clear h
 by_cases c2 : a0 ≥ 97
 · rw [if_pos c2] at H
   have c2b0 : decide (97 ≤ a0) = true := decide_eq_true c2
   clear c2
   obtain rfl := Option.some.inj H
   go_enter Tryd.func23, Tryd.ntmps23
   go_wp2
   go_ret
   exact ⟨by first | rfl | (simp; done) | (simp [*]; done), by repeat (first | exact Drawn0.refl _ | apply Drawn0.step)⟩
 · rw [if_neg c2] at H
   have c2b0 : decide (97 ≤ a0) = false := decide_eq_false c2
   clear c2
   obtain rfl := Option.some.inj H
   go_enter Tryd.func23, Tryd.ntmps23
   go_wp2
   go_ret
   exact ⟨by first | rfl | (simp; done) | (simp [*]; done), by repeat (first | exact Drawn0.refl _ | apply Drawn0.step)⟩

/-! ### queuelabref01_Digit: function 24 -/
def queuelabref01_Digit.f (a0 : Int) : Option (Bool) := if a0 ≥ 48 then (some (decide (a0 ≤ 57))) else (some false)
set_option maxHeartbeats 8000000 in
set_option maxRecDepth 100000 in
theorem queuelabref01_Digit.calls (a0 : Int) (r : Bool) (w : World) (h : queuelabref01_Digit.f a0 = some r) :
 Calls Tryd.prog 24 #[.int .u8 a0] w fun e w' => e = .returned (.bool r) ∧ Drawn0 w w' := by
 have H : (if a0 ≥ 48 then (some (decide (a0 ≤ 57))) else (some false)) = some r := h
 clear h
 by_cases c2 : a0 ≥ 48
 · rw [if_pos c2] at H
   have c2b0 : decide (48 ≤ a0) = true := decide_eq_true c2
   clear c2
   obtain rfl := Option.some.inj H
   go_enter Tryd.func24, Tryd.ntmps24
   go_wp2
   go_ret
   exact ⟨by first | rfl | (simp; done) | (simp [*]; done), by repeat (first | exact Drawn0.refl _ | apply Drawn0.step)⟩
 · rw [if_neg c2] at H
   have c2b0 : decide (48 ≤ a0) = false := decide_eq_false c2
   clear c2
   obtain rfl := Option.some.inj H
   go_enter Tryd.func24, Tryd.ntmps24
   go_wp2
   go_ret
   exact ⟨by first | rfl | (simp; done) | (simp [*]; done), by repeat (first | exact Drawn0.refl _ | apply Drawn0.step)⟩

/-! ### queuelabref01_Punct: function 25 -/
def queuelabref01_Punct.f  : Option (List ByteArray) := some (([(⟨#[60, 61]⟩ : ByteArray), (⟨#[62, 61]⟩ : ByteArray), (⟨#[61, 61]⟩ : ByteArray), (⟨#[33, 61]⟩ : ByteArray), (⟨#[59]⟩ : ByteArray), (⟨#[123]⟩ : ByteArray), (⟨#[125]⟩ : ByteArray), (⟨#[40]⟩ : ByteArray), (⟨#[41]⟩ : ByteArray), (⟨#[44]⟩ : ByteArray), (⟨#[43]⟩ : ByteArray), (⟨#[45]⟩ : ByteArray), (⟨#[42]⟩ : ByteArray), (⟨#[47]⟩ : ByteArray), (⟨#[61]⟩ : ByteArray), (⟨#[60]⟩ : ByteArray), (⟨#[62]⟩ : ByteArray)] : List ByteArray))
set_option maxHeartbeats 8000000 in
set_option maxRecDepth 100000 in
theorem queuelabref01_Punct.calls  (r : List ByteArray) (w : World) (h : queuelabref01_Punct.f  = some r) :
 Calls Tryd.prog 25 #[] w fun e w' => ∃ v0_ : Value, e = .returned (v0_) ∧ Kd.R Kd.string 9 w' w.heap.size (fun _ => True) v0_ r ∧ Below w.heap.size w w' := by
 have HB := Aside0.mk (Below.refl w.heap.size w)
 have H : (some (([(⟨#[60, 61]⟩ : ByteArray), (⟨#[62, 61]⟩ : ByteArray), (⟨#[61, 61]⟩ : ByteArray), (⟨#[33, 61]⟩ : ByteArray), (⟨#[59]⟩ : ByteArray), (⟨#[123]⟩ : ByteArray), (⟨#[125]⟩ : ByteArray), (⟨#[40]⟩ : ByteArray), (⟨#[41]⟩ : ByteArray), (⟨#[44]⟩ : ByteArray), (⟨#[43]⟩ : ByteArray), (⟨#[45]⟩ : ByteArray), (⟨#[42]⟩ : ByteArray), (⟨#[47]⟩ : ByteArray), (⟨#[61]⟩ : ByteArray), (⟨#[60]⟩ : ByteArray), (⟨#[62]⟩ : ByteArray)] : List ByteArray))) = some r := h
 clear h
 obtain ⟨y148, hy148⟩ : ∃ y_ : List ByteArray, y_ = (([(⟨#[60, 61]⟩ : ByteArray), (⟨#[62, 61]⟩ : ByteArray), (⟨#[61, 61]⟩ : ByteArray), (⟨#[33, 61]⟩ : ByteArray), (⟨#[59]⟩ : ByteArray), (⟨#[123]⟩ : ByteArray), (⟨#[125]⟩ : ByteArray), (⟨#[40]⟩ : ByteArray), (⟨#[41]⟩ : ByteArray), (⟨#[44]⟩ : ByteArray), (⟨#[43]⟩ : ByteArray), (⟨#[45]⟩ : ByteArray), (⟨#[42]⟩ : ByteArray), (⟨#[47]⟩ : ByteArray), (⟨#[61]⟩ : ByteArray), (⟨#[60]⟩ : ByteArray), (⟨#[62]⟩ : ByteArray)] : List ByteArray)) := ⟨_, rfl⟩
 replace H : (some y148) = some r := by first | (rw [hy148]; with_reducible exact H) | (have H2_ := (Option.bind_some _ _).symm.trans H; rw [hy148]; with_reducible exact H2_) | (have H2_ := (Option.bind_some _ _).symm.trans H; with_reducible exact H2_) | with_reducible exact H | (rw [hy148]; exact H) | exact H
 have Ny148 := Aside0.mk hy148
 clear hy148
 obtain rfl := Option.some.inj H
 go_enter Tryd.func25, Tryd.ntmps25
 go_wp2_with (first | ((with_reducible refine gate_dst (N := 1) rfl ?_); refine Kd.R_lit Kd.string _ 9 ?hg (N := 1) ?hd (xs := ([(⟨#[60, 61]⟩ : ByteArray), (⟨#[62, 61]⟩ : ByteArray), (⟨#[61, 61]⟩ : ByteArray), (⟨#[33, 61]⟩ : ByteArray), (⟨#[59]⟩ : ByteArray), (⟨#[123]⟩ : ByteArray), (⟨#[125]⟩ : ByteArray), (⟨#[40]⟩ : ByteArray), (⟨#[41]⟩ : ByteArray), (⟨#[44]⟩ : ByteArray), (⟨#[43]⟩ : ByteArray), (⟨#[45]⟩ : ByteArray), (⟨#[42]⟩ : ByteArray), (⟨#[47]⟩ : ByteArray), (⟨#[61]⟩ : ByteArray), (⟨#[60]⟩ : ByteArray), (⟨#[62]⟩ : ByteArray)] : List ByteArray)) (inner := [.string (⟨#[60, 61]⟩ : ByteArray), .string (⟨#[62, 61]⟩ : ByteArray), .string (⟨#[61, 61]⟩ : ByteArray), .string (⟨#[33, 61]⟩ : ByteArray), .string (⟨#[59]⟩ : ByteArray), .string (⟨#[123]⟩ : ByteArray), .string (⟨#[125]⟩ : ByteArray), .string (⟨#[40]⟩ : ByteArray), .string (⟨#[41]⟩ : ByteArray), .string (⟨#[44]⟩ : ByteArray), .string (⟨#[43]⟩ : ByteArray), .string (⟨#[45]⟩ : ByteArray), .string (⟨#[42]⟩ : ByteArray), .string (⟨#[47]⟩ : ByteArray), .string (⟨#[61]⟩ : ByteArray), .string (⟨#[60]⟩ : ByteArray), .string (⟨#[62]⟩ : ByteArray)]) (ok := fun _ => True) (okp := fun _ => True) ?hr ?hp (fun _ hk => hk) trivial (Below.refl _ _) (Nat.le_refl _) (by simp) ?_; (case hd => rfl); (case hg => rfl); (case hr => first | (go_simp; done) | (go_simp; rfl)); (case hp => exact (Reps.one (show Kd.M Kd.string _ _ _ (⟨#[60, 61]⟩ : ByteArray) [.string (⟨#[60, 61]⟩ : ByteArray)] from rfl) (Reps.one (show Kd.M Kd.string _ _ _ (⟨#[62, 61]⟩ : ByteArray) [.string (⟨#[62, 61]⟩ : ByteArray)] from rfl) (Reps.one (show Kd.M Kd.string _ _ _ (⟨#[61, 61]⟩ : ByteArray) [.string (⟨#[61, 61]⟩ : ByteArray)] from rfl) (Reps.one (show Kd.M Kd.string _ _ _ (⟨#[33, 61]⟩ : ByteArray) [.string (⟨#[33, 61]⟩ : ByteArray)] from rfl) (Reps.one (show Kd.M Kd.string _ _ _ (⟨#[59]⟩ : ByteArray) [.string (⟨#[59]⟩ : ByteArray)] from rfl) (Reps.one (show Kd.M Kd.string _ _ _ (⟨#[123]⟩ : ByteArray) [.string (⟨#[123]⟩ : ByteArray)] from rfl) (Reps.one (show Kd.M Kd.string _ _ _ (⟨#[125]⟩ : ByteArray) [.string (⟨#[125]⟩ : ByteArray)] from rfl) (Reps.one (show Kd.M Kd.string _ _ _ (⟨#[40]⟩ : ByteArray) [.string (⟨#[40]⟩ : ByteArray)] from rfl) (Reps.one (show Kd.M Kd.string _ _ _ (⟨#[41]⟩ : ByteArray) [.string (⟨#[41]⟩ : ByteArray)] from rfl) (Reps.one (show Kd.M Kd.string _ _ _ (⟨#[44]⟩ : ByteArray) [.string (⟨#[44]⟩ : ByteArray)] from rfl) (Reps.one (show Kd.M Kd.string _ _ _ (⟨#[43]⟩ : ByteArray) [.string (⟨#[43]⟩ : ByteArray)] from rfl) (Reps.one (show Kd.M Kd.string _ _ _ (⟨#[45]⟩ : ByteArray) [.string (⟨#[45]⟩ : ByteArray)] from rfl) (Reps.one (show Kd.M Kd.string _ _ _ (⟨#[42]⟩ : ByteArray) [.string (⟨#[42]⟩ : ByteArray)] from rfl) (Reps.one (show Kd.M Kd.string _ _ _ (⟨#[47]⟩ : ByteArray) [.string (⟨#[47]⟩ : ByteArray)] from rfl) (Reps.one (show Kd.M Kd.string _ _ _ (⟨#[61]⟩ : ByteArray) [.string (⟨#[61]⟩ : ByteArray)] from rfl) (Reps.one (show Kd.M Kd.string _ _ _ (⟨#[60]⟩ : ByteArray) [.string (⟨#[60]⟩ : ByteArray)] from rfl) (Reps.one (show Kd.M Kd.string _ _ _ (⟨#[62]⟩ : ByteArray) [.string (⟨#[62]⟩ : ByteArray)] from rfl) (Reps.none _ _))))))))))))))))))); intro v149 w1 ho2 hb hg_ hnew_; clear hg_ hnew_; (first | rw [← Ny148.out] at ho2 | (simp only [Int.reduceToNat] at ho2; rw [← Ny148.out] at ho2)); have n0_ := Aside0.mk (Kd.R_lower ho2 (below_size (by repeat first | (with_reducible first | exact HB.out | apply ba | apply bn | apply bd) | exact HB.out))); have n1_ := Aside0.mk (below_step (by repeat first | (with_reducible first | exact HB.out | apply ba | apply bn | apply bd) | exact HB.out) hb); clear HB; have HO150 := n0_; have HB := n1_; clear n0_ n1_; clear hb ho2))
 go_ret
 exact ⟨_, by first | rfl | (simp [errW_none, errW_some] <;> rfl) | (simp [*, errW_none, errW_some] <;> rfl), by (with_reducible repeat (first | apply ra | apply rn | apply rd1)); exact HO150.out, by repeat (first | (with_reducible first | exact HB.out | apply ba | apply bn | apply bd) | exact HB.out)⟩

end Go.Proofs.YtgkpjfbghjojoaaDoor.L
