-- PRINTED by print.py (a twelfth state) out of the translation. Not trusted: Lean checks it.
import Derived.Test.YtgkpjfbghjojoaaDoorL0
import Derived.Test.YtgkpjfbghjojoaaDoorL1
import Derived.Test.YtgkpjfbghjojoaaDoorL2
namespace Go.Proofs.YtgkpjfbghjojoaaDoor.L
open Go.RowKit Go.Proofs.YtgkpjfbghjojoaaDoorW.PrintWords Go.Proofs.YtgkpjfbghjojoaaDoorW.PrintLast Go.Proofs.YtgkpjfbghjojoaaDoorW.PrintMore
attribute [local go_sem] max2_int min2_int max_two min_two max_three min_three max_four min_four   -- for this text's walks alone
set_option linter.unusedVariables false
set_option linter.unusedSimpArgs false

/-! ### queuelablaw01_LexerJoins: function 6 -/
mutual
def queuelablaw01_LexerJoins.j0 : Nat → ByteArray → ByteArray → Bool → Bool → Option (Bool)
 | 0, _, _, _, _ => none
 | k + 1, x0, x1, x5, x23 => if x23 = true then (some x5) else ((lexer_Lex.f k x0).bind fun bt247 => ((lexer_Lex.f k x1).bind fun bt252 => (if bt247.2.1 = 0 then (queuelablaw01_LexerJoins.j1 k x0 x1 x5 bt247.1 bt252.1 (bt252.2.1 != 0)) else (queuelablaw01_LexerJoins.j1 k x0 x1 x5 bt247.1 bt252.1 true))))
def queuelablaw01_LexerJoins.j1 : Nat → ByteArray → ByteArray → Bool → List (S31) → List (S31) → Bool → Option (Bool)
 | 0, _, _, _, _, _, _ => none
 | k + 1, x0, x1, x5, x6, x9, x42 => if x42 = true then (some x5) else (if x0.size + 1 ≤ 9223372036854775807 then (if (x0 ++ (⟨#[10]⟩ : ByteArray)).size + x1.size ≤ 9223372036854775807 then ((lexer_Lex.f k ((x0 ++ (⟨#[10]⟩ : ByteArray)) ++ x1)).bind fun bt257 => (if (wrap64 ((wrap64 ((x0.size : Int) + (x1.size : Int))) + 1)) > 10000 then (if x5 = true then (if bt257.2.1 = 2 then (some (bt257.2.2 == 0)) else (some false)) else (some false)) else (if (wrap64 ((x6.length : Int) + (x9.length : Int))) > 3000 then (if x5 = true then (if bt257.2.1 = 2 then (some (decide (bt257.2.2 > (x0.size : Int)))) else (some false)) else (some false)) else (if x5 = true then (if bt257.2.1 = 0 then (if (bt257.1.length : Int) = (wrap64 ((x6.length : Int) + (x9.length : Int))) then (if 0 ≤ (x6.length : Int) then (if (x6.length : Int) ≤ (bt257.1.length : Int) then ((queuelabref01_Same.f k x6 (bt257.1.take ((x6.length : Int) : Int).toNat) 0).bind fun t266 => (if t266 = true then ((queuelabref01_Same.f k x9 (bt257.1.drop ((x6.length : Int) : Int).toNat) (wrap64 ((x0.size : Int) + 1))).bind fun t271 => (some t271)) else (some false))) else (none)) else (none)) else (some false)) else (some false)) else (some false))))) else (none)) else (none))
end
def queuelablaw01_LexerJoins.f (k : Nat) (a0 : ByteArray) (a1 : ByteArray) : Option (Bool) := (queuelablaw01_head.f k).bind fun t246 => (if (a0.size : Int) > 10000 then (queuelablaw01_LexerJoins.j0 k a0 a1 t246 true) else (queuelablaw01_LexerJoins.j0 k a0 a1 t246 (decide ((a1.size : Int) > 10000))))
theorem queuelablaw01_LexerJoins.mono_l : ∀ k, (∀ y0 y1 y2 y3, LeO (queuelablaw01_LexerJoins.j0 k y0 y1 y2 y3) (queuelablaw01_LexerJoins.j0 (k + 1) y0 y1 y2 y3)) ∧ (∀ y0 y1 y2 y3 y4 y5, LeO (queuelablaw01_LexerJoins.j1 k y0 y1 y2 y3 y4 y5) (queuelablaw01_LexerJoins.j1 (k + 1) y0 y1 y2 y3 y4 y5))
 | 0 => ⟨fun _ _ _ _ r h => by simp [queuelablaw01_LexerJoins.j0] at h, fun _ _ _ _ _ _ r h => by simp [queuelablaw01_LexerJoins.j1] at h⟩
 | k + 1 => by
  obtain ⟨ih0, ih1⟩ := queuelablaw01_LexerJoins.mono_l k
  refine ⟨?_, ?_⟩
  · intro y0 y1 y2 y3
    unfold queuelablaw01_LexerJoins.j0
    repeat' first
    | (with_reducible exact ih0 _ _ _ _)
    | (with_reducible exact ih1 _ _ _ _ _ _)
    | (with_reducible exact lexer_Lex.mono _ _)
    | (with_reducible exact queuelablaw01_head.mono _)
    | (with_reducible exact queuelabref01_Same.mono _ _ _ _)
    | (with_reducible exact LeO.refl _)
    | (with_reducible exact LeO.none _)
    | (with_reducible refine LeO.ite ?_ ?_)
    | (with_reducible refine LeO.bind ?_ (fun _ => ?_))
    | exact ih0 _ _ _ _
    | exact ih1 _ _ _ _ _ _
    | exact lexer_Lex.mono _ _
    | exact queuelablaw01_head.mono _
    | exact queuelabref01_Same.mono _ _ _ _
    | exact LeO.none _
    | refine LeO.ite ?_ ?_
    | refine LeO.bind ?_ (fun _ => ?_)
  · intro y0 y1 y2 y3 y4 y5
    unfold queuelablaw01_LexerJoins.j1
    repeat' first
    | (with_reducible exact ih0 _ _ _ _)
    | (with_reducible exact ih1 _ _ _ _ _ _)
    | (with_reducible exact lexer_Lex.mono _ _)
    | (with_reducible exact queuelablaw01_head.mono _)
    | (with_reducible exact queuelabref01_Same.mono _ _ _ _)
    | (with_reducible exact LeO.refl _)
    | (with_reducible exact LeO.none _)
    | (with_reducible refine LeO.ite ?_ ?_)
    | (with_reducible refine LeO.bind ?_ (fun _ => ?_))
    | exact ih0 _ _ _ _
    | exact ih1 _ _ _ _ _ _
    | exact lexer_Lex.mono _ _
    | exact queuelablaw01_head.mono _
    | exact queuelabref01_Same.mono _ _ _ _
    | exact LeO.none _
    | refine LeO.ite ?_ ?_
    | refine LeO.bind ?_ (fun _ => ?_)
theorem queuelablaw01_LexerJoins.mono : ∀ a0 a1 k, LeO (queuelablaw01_LexerJoins.f k a0 a1) (queuelablaw01_LexerJoins.f (k + 1) a0 a1) := by
 intro a0 a1 k
 obtain ⟨ih0, ih1⟩ := queuelablaw01_LexerJoins.mono_l k
 unfold queuelablaw01_LexerJoins.f
 repeat' first
  | (with_reducible exact ih0 _ _ _ _)
  | (with_reducible exact ih1 _ _ _ _ _ _)
  | (with_reducible exact lexer_Lex.mono _ _)
  | (with_reducible exact queuelablaw01_head.mono _)
  | (with_reducible exact queuelabref01_Same.mono _ _ _ _)
  | (with_reducible exact LeO.refl _)
  | (with_reducible exact LeO.none _)
  | (with_reducible refine LeO.ite ?_ ?_)
  | (with_reducible refine LeO.bind ?_ (fun _ => ?_))
  | exact ih0 _ _ _ _
  | exact ih1 _ _ _ _ _ _
  | exact lexer_Lex.mono _ _
  | exact queuelablaw01_head.mono _
  | exact queuelabref01_Same.mono _ _ _ _
  | exact LeO.none _
  | refine LeO.ite ?_ ?_
  | refine LeO.bind ?_ (fun _ => ?_)
set_option maxHeartbeats 8000000 in
set_option maxRecDepth 100000 in
theorem queuelablaw01_LexerJoins.calls (k : Nat) (a0 : ByteArray) (a1 : ByteArray) (r : Bool) (w : World) (hG : Glob w) (h : queuelablaw01_LexerJoins.f k a0 a1 = some r) :
 Calls Tryd.prog 6 #[.string a0, .string a1] w fun e w' => e = .returned (.bool r) ∧ Below w.heap.size w w' := by
 have HB := Aside0.mk (Below.refl w.heap.size w)
 have H : ((queuelablaw01_head.f k).bind fun t246 => (if (a0.size : Int) > 10000 then (queuelablaw01_LexerJoins.j0 k a0 a1 t246 true) else (queuelablaw01_LexerJoins.j0 k a0 a1 t246 (decide ((a1.size : Int) > 10000))))) = some r := h
 clear h
 replace H := obs.mp H
 obtain ⟨t246, A30, H⟩ := H
 replace H : (if (a0.size : Int) > 10000 then (queuelablaw01_LexerJoins.j0 k a0 a1 t246 true) else (queuelablaw01_LexerJoins.j0 k a0 a1 t246 (decide ((a1.size : Int) > 10000)))) = some r := H
 have A3 := Aside0.mk A30
 clear A30
 have HC4 := Aside0.mk H
 clear H
 go_enter Tryd.func6, Tryd.ntmps6
 go_upto_region 2 with (first | ((with_reducible refine gce (f := 10) rfl ?_); refine goesL_ (some 15) rfl rfl Tryd.func10 (by kernel_rfl) rfl #[] rfl (by (try simp only [lma, lmc, lmn]); first | done | rfl | (simp only [lld, llt]; rfl)) ?_; (with_reducible refine (queuelablaw01_head.calls k  t246 _ ?side1 A3.out).mono ?_); (case side1 => exact Glob.mono hG (by repeat first | (with_reducible first | exact HB.out | apply ba | apply bn | apply bd) | exact HB.out)); rintro e w5 ⟨rfl, hb⟩; refine ⟨_, rfl, ?_⟩; have n0_ := Aside0.mk (below_step (by repeat first | (with_reducible first | exact HB.out | apply ba | apply bn | apply bd) | exact HB.out) hb); clear HB; have HB := n0_; clear n0_; (try clear hb); (try clear hb2); (try clear hk); (try clear hi)))
 (try simp only [Act.put, List.setIfInBounds_toArray, List.set_cons_zero, List.set_cons_succ])
 go_cut [23] (fun v23 wc => ∃ (kq : Nat) (x23_3 : Bool), v23 = .bool x23_3 ∧ Aside0 (queuelablaw01_LexerJoins.j0 kq a0 a1 t246 x23_3 = some r) ∧ Aside0 (kq ≤ k) ∧ Aside0 (Below w.heap.size w wc))
 case first =>
  have H := HC4.out
  clear HC4
  by_cases c6 : (a0.size : Int) > 10000
  · rw [if_pos c6] at H
    have c6b0 : decide (10000 < (a0.size : Int)) = true := decide_eq_true c6
    have c6b1 : decide (10000 < a0.size) = true := decide_eq_true (by omega)
    clear c6
    (first | rw [c6b0] | (simp only [i64_w, i32_w]; rw [c6b0]) | skip)
    have H' := Aside0.mk H
    clear H
    go_wp2
    go_meet
    case rel => exact ⟨_, (true), (by first | rfl | (simp; done) | (simp [*]; done)), H', ⟨by first | omega | exact Nat.le_refl _⟩, ⟨by repeat (first | (with_reducible first | exact HB.out | apply ba | apply bn | apply bd) | exact HB.out)⟩⟩
  · rw [if_neg c6] at H
    have c6b0 : decide (10000 < (a0.size : Int)) = false := decide_eq_false c6
    have c6b1 : decide (10000 < a0.size) = false := decide_eq_false (by omega)
    clear c6
    (first | rw [c6b0] | (simp only [i64_w, i32_w]; rw [c6b0]) | skip)
    have H' := Aside0.mk H
    clear H
    go_wp2
    go_meet
    case rel => exact ⟨_, (decide ((a1.size : Int) > 10000)), (by first | rfl | (simp; done) | (simp [*]; done)), H', ⟨by first | omega | exact Nat.le_refl _⟩, ⟨by repeat (first | (with_reducible first | exact HB.out | apply ba | apply bn | apply bd) | exact HB.out)⟩⟩
 case rest =>
  clear HC4
  try clear c1
  try clear p2
  try clear c6
  try clear c6b0
  try clear c6b1
  obtain ⟨kq, x23_3, rfl, HA, HJ3, HB⟩ := hcut
  cases kq with
  | zero => exact absurd HA.out (by simp [queuelablaw01_LexerJoins.j0])
  | succ kj3 =>
   have H := HA.out
   clear HA
   simp only [queuelablaw01_LexerJoins.j0] at H
   by_cases c7 : x23_3 = true
   · subst c7
     have H1 : (some t246) = some r := by rw [if_pos rfl] at H; exact H
     clear H
     have H := H1
     clear H1
     obtain rfl := Option.some.inj H
     go_wp2
     go_ret
     exact ⟨by first | rfl | (simp [errW_none, errW_some] <;> rfl) | (simp [*, errW_none, errW_some] <;> rfl), by repeat (first | (with_reducible first | exact HB.out | apply ba | apply bn | apply bd) | exact HB.out)⟩
   · replace c7 := Bool.eq_false_iff.mpr c7
     subst c7
     have H1 : ((lexer_Lex.f kj3 a0).bind fun bt247 => ((lexer_Lex.f kj3 a1).bind fun bt252 => (if bt247.2.1 = 0 then (queuelablaw01_LexerJoins.j1 kj3 a0 a1 t246 bt247.1 bt252.1 (bt252.2.1 != 0)) else (queuelablaw01_LexerJoins.j1 kj3 a0 a1 t246 bt247.1 bt252.1 true)))) = some r := by rw [if_neg (show ¬ (false = true) by decide)] at H; exact H
     clear H
     have H := H1
     clear H1
     replace H := obs.mp H
     obtain ⟨⟨t247, t248, t249⟩, A80, H⟩ := H
     replace H : ((lexer_Lex.f kj3 a1).bind fun bt252 => (if t248 = 0 then (queuelablaw01_LexerJoins.j1 kj3 a0 a1 t246 t247 bt252.1 (bt252.2.1 != 0)) else (queuelablaw01_LexerJoins.j1 kj3 a0 a1 t246 t247 bt252.1 true))) = some r := H
     have A8 := Aside0.mk A80
     clear A80
     replace H := obs.mp H
     obtain ⟨⟨t252, t253, t254⟩, A90, H⟩ := H
     replace H : (if t248 = 0 then (queuelablaw01_LexerJoins.j1 kj3 a0 a1 t246 t247 t252 (t253 != 0)) else (queuelablaw01_LexerJoins.j1 kj3 a0 a1 t246 t247 t252 true)) = some r := H
     have A9 := Aside0.mk A90
     clear A90
     have HC10 := Aside0.mk H
     clear H
     go_upto_region 6 with (first | ((with_reducible refine gce (f := 11) rfl ?_); refine goesL_ (some 27) rfl rfl Tryd.func11 (by kernel_rfl) rfl #[.string a0] rfl (by (try simp only [lma, lmc, lmn]); first | done | rfl | (simp only [lld, llt]; rfl)) ?_; (with_reducible refine (lexer_Lex.calls kj3 a0 t247 t248 t249 _ ?side1 A8.out).mono ?_); (case side1 => exact Glob.mono hG (by repeat first | (with_reducible first | exact HB.out | apply ba | apply bn | apply bd) | exact HB.out)); rintro e w11 ⟨v250, rfl, ho0, hb⟩; refine ⟨_, rfl, ?_⟩; have n0_ := Aside0.mk (Kd.R_lower ho0 (below_size (by repeat first | (with_reducible first | exact HB.out | apply ba | apply bn | apply bd) | exact HB.out))); have n1_ := Aside0.mk (below_step (by repeat first | (with_reducible first | exact HB.out | apply ba | apply bn | apply bd) | exact HB.out) hb); clear HB; have HO251 := n0_; have HB := n1_; clear n0_ n1_; (try clear hb); (try clear hb2); (try clear hk); (try clear hi); (try clear ho0)) | ((with_reducible refine gce (f := 11) rfl ?_); refine goesL_ (some 33) rfl rfl Tryd.func11 (by kernel_rfl) rfl #[.string a1] rfl (by (try simp only [lma, lmc, lmn]); first | done | rfl | (simp only [lld, llt]; rfl)) ?_; (with_reducible refine (lexer_Lex.calls kj3 a1 t252 t253 t254 _ ?side1 A9.out).mono ?_); (case side1 => exact Glob.mono hG (by repeat first | (with_reducible first | exact HB.out | apply ba | apply bn | apply bd) | exact HB.out)); rintro e w12 ⟨v255, rfl, ho0, hb⟩; refine ⟨_, rfl, ?_⟩; have n0_ := Aside0.mk (Kd.R_elder' (by (with_reducible repeat (first | apply ra | apply rn | apply rd1)); exact HO251.out) (Kd.R_base ho0) hb); have n1_ := Aside0.mk (Kd.R_lower (Kd.R_new' ho0 (Kd.R_lt (by (with_reducible repeat (first | apply ra | apply rn | apply rd1)); exact HO251.out))) (below_size (by repeat first | (with_reducible first | exact HB.out | apply ba | apply bn | apply bd) | exact HB.out))); have n2_ := Aside0.mk (below_step (by repeat first | (with_reducible first | exact HB.out | apply ba | apply bn | apply bd) | exact HB.out) hb); clear HO251; clear HB; have HO251 := n0_; have HO256 := n1_; have HB := n2_; clear n0_ n1_ n2_; (try clear hb); (try clear hb2); (try clear hk); (try clear hi); (try clear ho0)))
     (try simp only [Act.put, List.setIfInBounds_toArray, List.set_cons_zero, List.set_cons_succ])
     go_cut [42] (fun v42 wc => ∃ (kq : Nat) (x42_9 : Bool), v42 = .bool x42_9 ∧ Aside0 (queuelablaw01_LexerJoins.j1 kq a0 a1 t246 t247 t252 x42_9 = some r) ∧ Aside0 (kq ≤ kj3) ∧ Aside0 (Kd.R k31 31 wc w.heap.size (fun k_ => some k_ ≠ (v255 : Value).ownBlock) v250 t247) ∧ Aside0 (Kd.R k31 31 wc w.heap.size (fun k_ => some k_ ≠ (v250 : Value).ownBlock) v255 t252) ∧ Aside0 (Below w.heap.size w wc))
     case first =>
      have H := HC10.out
      clear HC10
      by_cases c13 : t248 = 0
      · rw [if_pos c13] at H
        have c13b0 : (t248 == 0) = true := beq_iff_eq.mpr c13
        have c13b1 : (t248 != 0) = false := bne_eq_false_iff_eq.mpr c13
        clear c13
        (first | rw [c13b0] | (simp only [i64_w, i32_w]; rw [c13b0]) | skip)
        have H' := Aside0.mk H
        clear H
        go_wp2
        go_meet
        case rel => exact ⟨_, ((t253 != 0)), (by first | rfl | (simp; done) | (simp [*]; done)), H', ⟨by have := HJ3.out; first | omega | exact Nat.le_refl _⟩, ⟨by (with_reducible repeat (first | apply ra | apply rn | apply rd1)); exact Kd.R_mono HO251.out (fun _ hk => hk.2)⟩, ⟨by (with_reducible repeat (first | apply ra | apply rn | apply rd1)); exact Kd.R_mono HO256.out (fun _ hk => hk.2)⟩, ⟨by repeat (first | (with_reducible first | exact HB.out | apply ba | apply bn | apply bd) | exact HB.out)⟩⟩
      · rw [if_neg c13] at H
        have c13b0 : (t248 == 0) = false := beq_eq_false_iff_ne.mpr c13
        have c13b1 : (t248 != 0) = true := bne_iff_ne.mpr c13
        (first | rw [c13b0] | (simp only [i64_w, i32_w]; rw [c13b0]) | skip)
        have H' := Aside0.mk H
        clear H
        go_wp2
        go_meet
        case rel => exact ⟨_, (true), (by first | rfl | (simp; done) | (simp [*]; done)), H', ⟨by have := HJ3.out; first | omega | exact Nat.le_refl _⟩, ⟨by (with_reducible repeat (first | apply ra | apply rn | apply rd1)); exact Kd.R_mono HO251.out (fun _ hk => hk.2)⟩, ⟨by (with_reducible repeat (first | apply ra | apply rn | apply rd1)); exact Kd.R_mono HO256.out (fun _ hk => hk.2)⟩, ⟨by repeat (first | (with_reducible first | exact HB.out | apply ba | apply bn | apply bd) | exact HB.out)⟩⟩
     case rest =>
      clear HC10
      try clear c1
      try clear p2
      try clear c6
      try clear c6b0
      try clear c6b1
      try clear c7
      try clear c10
      try clear c11
      try clear c13
      try clear c13b0
      try clear c13b1
      try clear p2
      obtain ⟨kq, x42_9, rfl, HA, HJ9, HO_6, HO_9, HB⟩ := hcut
      cases kq with
      | zero => exact absurd HA.out (by simp [queuelablaw01_LexerJoins.j1])
      | succ kj9 =>
       have H := HA.out
       clear HA
       simp only [queuelablaw01_LexerJoins.j1] at H
       by_cases c14 : x42_9 = true
       · subst c14
         have H1 : (some t246) = some r := by rw [if_pos rfl] at H; exact H
         clear H
         have H := H1
         clear H1
         obtain rfl := Option.some.inj H
         go_wp2
         go_ret
         exact ⟨by first | rfl | (simp [errW_none, errW_some] <;> rfl) | (simp [*, errW_none, errW_some] <;> rfl), by repeat (first | (with_reducible first | exact HB.out | apply ba | apply bn | apply bd) | exact HB.out)⟩
       · replace c14 := Bool.eq_false_iff.mpr c14
         subst c14
         have H1 : (if a0.size + 1 ≤ 9223372036854775807 then (if (a0 ++ (⟨#[10]⟩ : ByteArray)).size + a1.size ≤ 9223372036854775807 then ((lexer_Lex.f kj9 ((a0 ++ (⟨#[10]⟩ : ByteArray)) ++ a1)).bind fun bt257 => (if (wrap64 ((wrap64 ((a0.size : Int) + (a1.size : Int))) + 1)) > 10000 then (if t246 = true then (if bt257.2.1 = 2 then (some (bt257.2.2 == 0)) else (some false)) else (some false)) else (if (wrap64 ((t247.length : Int) + (t252.length : Int))) > 3000 then (if t246 = true then (if bt257.2.1 = 2 then (some (decide (bt257.2.2 > (a0.size : Int)))) else (some false)) else (some false)) else (if t246 = true then (if bt257.2.1 = 0 then (if (bt257.1.length : Int) = (wrap64 ((t247.length : Int) + (t252.length : Int))) then (if 0 ≤ (t247.length : Int) then (if (t247.length : Int) ≤ (bt257.1.length : Int) then ((queuelabref01_Same.f kj9 t247 (bt257.1.take ((t247.length : Int) : Int).toNat) 0).bind fun t266 => (if t266 = true then ((queuelabref01_Same.f kj9 t252 (bt257.1.drop ((t247.length : Int) : Int).toNat) (wrap64 ((a0.size : Int) + 1))).bind fun t271 => (some t271)) else (some false))) else (none)) else (none)) else (some false)) else (some false)) else (some false))))) else (none)) else (none)) = some r := by rw [if_neg (show ¬ (false = true) by decide)] at H; exact H
         clear H
         have H := H1
         clear H1
         by_cases c15 : a0.size + 1 ≤ 9223372036854775807
         · rw [if_pos c15] at H
           have c15b0 := eq_true c15
           have c15b1 : decide (a0.size + 1 ≤ 9223372036854775807) = true := decide_eq_true c15
           try have c15b2 : (9223372036854775807 < a0.size + 1) = False := eq_false (Nat.not_lt.2 c15)
           clear c15
           by_cases c16 : (a0 ++ (⟨#[10]⟩ : ByteArray)).size + a1.size ≤ 9223372036854775807
           · rw [if_pos c16] at H
             have c16b0 := eq_true c16
             have c16b1 : decide ((a0 ++ (⟨#[10]⟩ : ByteArray)).size + a1.size ≤ 9223372036854775807) = true := decide_eq_true c16
             try have c16b2 : (9223372036854775807 < (a0 ++ (⟨#[10]⟩ : ByteArray)).size + a1.size) = False := eq_false (Nat.not_lt.2 c16)
             try have c16z : (9223372036854775807 < a0.size + 1 + a1.size) = False := eq_false (by have h_ := c16; simp only [ByteArray.size_append, ByteArray.size_extract] at h_; omega)
             replace H := obs.mp H
             obtain ⟨⟨t257, t258, t259⟩, A170, H⟩ := H
             replace H : (if (wrap64 ((wrap64 ((a0.size : Int) + (a1.size : Int))) + 1)) > 10000 then (if t246 = true then (if t258 = 2 then (some (t259 == 0)) else (some false)) else (some false)) else (if (wrap64 ((t247.length : Int) + (t252.length : Int))) > 3000 then (if t246 = true then (if t258 = 2 then (some (decide (t259 > (a0.size : Int)))) else (some false)) else (some false)) else (if t246 = true then (if t258 = 0 then (if (t257.length : Int) = (wrap64 ((t247.length : Int) + (t252.length : Int))) then (if 0 ≤ (t247.length : Int) then (if (t247.length : Int) ≤ (t257.length : Int) then ((queuelabref01_Same.f kj9 t247 (t257.take ((t247.length : Int) : Int).toNat) 0).bind fun t266 => (if t266 = true then ((queuelabref01_Same.f kj9 t252 (t257.drop ((t247.length : Int) : Int).toNat) (wrap64 ((a0.size : Int) + 1))).bind fun t271 => (some t271)) else (some false))) else (none)) else (none)) else (some false)) else (some false)) else (some false)))) = some r := H
             have A17 := Aside0.mk A170
             clear A170
             by_cases c18 : (wrap64 ((wrap64 ((a0.size : Int) + (a1.size : Int))) + 1)) > 10000
             · rw [if_pos c18] at H
               have c18b0 : decide (10000 < (wrap64 ((wrap64 ((a0.size : Int) + (a1.size : Int))) + 1))) = true := decide_eq_true c18
               clear c18
               by_cases c19 : t246 = true
               · subst c19
                 have H1 : (if t258 = 2 then (some (t259 == 0)) else (some false)) = some r := by rw [if_pos rfl] at H; exact H
                 clear H
                 have H := H1
                 clear H1
                 by_cases c20 : t258 = 2
                 · rw [if_pos c20] at H
                   have c20b0 : (t258 == 2) = true := beq_iff_eq.mpr c20
                   have c20b1 : (t258 != 2) = false := bne_eq_false_iff_eq.mpr c20
                   clear c20
                   obtain rfl := Option.some.inj H
                   go_wp2_with (first | ((with_reducible refine gce (f := 11) rfl ?_); refine goesL_ (some 49) rfl rfl Tryd.func11 (by kernel_rfl) rfl #[.string ((a0 ++ (⟨#[10]⟩ : ByteArray)) ++ a1)] rfl (by (try simp only [lma, lmc, lmn]); first | done | rfl | (simp only [lld, llt]; rfl)) ?_; (with_reducible refine (lexer_Lex.calls kj9 ((a0 ++ (⟨#[10]⟩ : ByteArray)) ++ a1) t257 t258 t259 _ ?side1 A17.out).mono ?_); (case side1 => exact Glob.mono hG (by repeat first | (with_reducible first | exact HB.out | apply ba | apply bn | apply bd) | exact HB.out)); rintro e w21 ⟨v260, rfl, ho0, hb⟩; refine ⟨_, rfl, ?_⟩; have n0_ := Aside0.mk (Kd.R_elder' (by (with_reducible repeat (first | apply ra | apply rn | apply rd1)); exact HO_6.out) (Kd.R_base ho0) hb); have n1_ := Aside0.mk (Kd.R_elder' (by (with_reducible repeat (first | apply ra | apply rn | apply rd1)); exact HO_9.out) (Kd.R_base ho0) hb); have n2_ := Aside0.mk (Kd.R_lower (Kd.R_new' (Kd.R_new' ho0 (Kd.R_lt (by (with_reducible repeat (first | apply ra | apply rn | apply rd1)); exact HO_6.out))) (Kd.R_lt (by (with_reducible repeat (first | apply ra | apply rn | apply rd1)); exact HO_9.out))) (below_size (by repeat first | (with_reducible first | exact HB.out | apply ba | apply bn | apply bd) | exact HB.out))); have n3_ := Aside0.mk (below_step (by repeat first | (with_reducible first | exact HB.out | apply ba | apply bn | apply bd) | exact HB.out) hb); clear HO_6; clear HO_9; clear HB; have HO_6 := n0_; have HO_9 := n1_; have HO261 := n2_; have HB := n3_; clear n0_ n1_ n2_ n3_; (try clear hb); (try clear hb2); (try clear hk); (try clear hi); (try clear ho0)))
                   go_ret
                   exact ⟨by first | rfl | (simp [errW_none, errW_some] <;> rfl) | (simp [*, errW_none, errW_some] <;> rfl), by repeat (first | (with_reducible first | exact HB.out | apply ba | apply bn | apply bd) | exact HB.out)⟩
                 · rw [if_neg c20] at H
                   have c20b0 : (t258 == 2) = false := beq_eq_false_iff_ne.mpr c20
                   have c20b1 : (t258 != 2) = true := bne_iff_ne.mpr c20
                   obtain rfl := Option.some.inj H
                   go_wp2_with (first | ((with_reducible refine gce (f := 11) rfl ?_); refine goesL_ (some 49) rfl rfl Tryd.func11 (by kernel_rfl) rfl #[.string ((a0 ++ (⟨#[10]⟩ : ByteArray)) ++ a1)] rfl (by (try simp only [lma, lmc, lmn]); first | done | rfl | (simp only [lld, llt]; rfl)) ?_; (with_reducible refine (lexer_Lex.calls kj9 ((a0 ++ (⟨#[10]⟩ : ByteArray)) ++ a1) t257 t258 t259 _ ?side1 A17.out).mono ?_); (case side1 => exact Glob.mono hG (by repeat first | (with_reducible first | exact HB.out | apply ba | apply bn | apply bd) | exact HB.out)); rintro e w22 ⟨v260, rfl, ho0, hb⟩; refine ⟨_, rfl, ?_⟩; have n0_ := Aside0.mk (Kd.R_elder' (by (with_reducible repeat (first | apply ra | apply rn | apply rd1)); exact HO_6.out) (Kd.R_base ho0) hb); have n1_ := Aside0.mk (Kd.R_elder' (by (with_reducible repeat (first | apply ra | apply rn | apply rd1)); exact HO_9.out) (Kd.R_base ho0) hb); have n2_ := Aside0.mk (Kd.R_lower (Kd.R_new' (Kd.R_new' ho0 (Kd.R_lt (by (with_reducible repeat (first | apply ra | apply rn | apply rd1)); exact HO_6.out))) (Kd.R_lt (by (with_reducible repeat (first | apply ra | apply rn | apply rd1)); exact HO_9.out))) (below_size (by repeat first | (with_reducible first | exact HB.out | apply ba | apply bn | apply bd) | exact HB.out))); have n3_ := Aside0.mk (below_step (by repeat first | (with_reducible first | exact HB.out | apply ba | apply bn | apply bd) | exact HB.out) hb); clear HO_6; clear HO_9; clear HB; have HO_6 := n0_; have HO_9 := n1_; have HO261 := n2_; have HB := n3_; clear n0_ n1_ n2_ n3_; (try clear hb); (try clear hb2); (try clear hk); (try clear hi); (try clear ho0)))
                   go_ret
                   exact ⟨by first | rfl | (simp [errW_none, errW_some] <;> rfl) | (simp [*, errW_none, errW_some] <;> rfl), by repeat (first | (with_reducible first | exact HB.out | apply ba | apply bn | apply bd) | exact HB.out)⟩
               · replace c19 := Bool.eq_false_iff.mpr c19
                 subst c19
                 have H1 : (some false) = some r := by rw [if_neg (show ¬ (false = true) by decide)] at H; exact H
                 clear H
                 have H := H1
                 clear H1
                 obtain rfl := Option.some.inj H
                 go_wp2_with (first | ((with_reducible refine gce (f := 11) rfl ?_); refine goesL_ (some 49) rfl rfl Tryd.func11 (by kernel_rfl) rfl #[.string ((a0 ++ (⟨#[10]⟩ : ByteArray)) ++ a1)] rfl (by (try simp only [lma, lmc, lmn]); first | done | rfl | (simp only [lld, llt]; rfl)) ?_; (with_reducible refine (lexer_Lex.calls kj9 ((a0 ++ (⟨#[10]⟩ : ByteArray)) ++ a1) t257 t258 t259 _ ?side1 A17.out).mono ?_); (case side1 => exact Glob.mono hG (by repeat first | (with_reducible first | exact HB.out | apply ba | apply bn | apply bd) | exact HB.out)); rintro e w23 ⟨v260, rfl, ho0, hb⟩; refine ⟨_, rfl, ?_⟩; have n0_ := Aside0.mk (Kd.R_elder' (by (with_reducible repeat (first | apply ra | apply rn | apply rd1)); exact HO_6.out) (Kd.R_base ho0) hb); have n1_ := Aside0.mk (Kd.R_elder' (by (with_reducible repeat (first | apply ra | apply rn | apply rd1)); exact HO_9.out) (Kd.R_base ho0) hb); have n2_ := Aside0.mk (Kd.R_lower (Kd.R_new' (Kd.R_new' ho0 (Kd.R_lt (by (with_reducible repeat (first | apply ra | apply rn | apply rd1)); exact HO_6.out))) (Kd.R_lt (by (with_reducible repeat (first | apply ra | apply rn | apply rd1)); exact HO_9.out))) (below_size (by repeat first | (with_reducible first | exact HB.out | apply ba | apply bn | apply bd) | exact HB.out))); have n3_ := Aside0.mk (below_step (by repeat first | (with_reducible first | exact HB.out | apply ba | apply bn | apply bd) | exact HB.out) hb); clear HO_6; clear HO_9; clear HB; have HO_6 := n0_; have HO_9 := n1_; have HO261 := n2_; have HB := n3_; clear n0_ n1_ n2_ n3_; (try clear hb); (try clear hb2); (try clear hk); (try clear hi); (try clear ho0)))
                 go_ret
                 exact ⟨by first | rfl | (simp [errW_none, errW_some] <;> rfl) | (simp [*, errW_none, errW_some] <;> rfl), by repeat (first | (with_reducible first | exact HB.out | apply ba | apply bn | apply bd) | exact HB.out)⟩
             · rw [if_neg c18] at H
               have c18b0 : decide (10000 < (wrap64 ((wrap64 ((a0.size : Int) + (a1.size : Int))) + 1))) = false := decide_eq_false c18
               clear c18
               by_cases c24 : (wrap64 ((t247.length : Int) + (t252.length : Int))) > 3000
               · rw [if_pos c24] at H
                 have c24b0 : decide (3000 < (wrap64 ((t247.length : Int) + (t252.length : Int)))) = true := decide_eq_true c24
                 clear c24
                 by_cases c25 : t246 = true
                 · subst c25
                   have H1 : (if t258 = 2 then (some (decide (t259 > (a0.size : Int)))) else (some false)) = some r := by rw [if_pos rfl] at H; exact H
                   clear H
                   have H := H1
                   clear H1
                   by_cases c26 : t258 = 2
                   · rw [if_pos c26] at H
                     have c26b0 : (t258 == 2) = true := beq_iff_eq.mpr c26
                     have c26b1 : (t258 != 2) = false := bne_eq_false_iff_eq.mpr c26
                     clear c26
                     obtain rfl := Option.some.inj H
                     go_wp2_with (first | ((with_reducible refine gce (f := 11) rfl ?_); refine goesL_ (some 49) rfl rfl Tryd.func11 (by kernel_rfl) rfl #[.string ((a0 ++ (⟨#[10]⟩ : ByteArray)) ++ a1)] rfl (by (try simp only [lma, lmc, lmn]); first | done | rfl | (simp only [lld, llt]; rfl)) ?_; (with_reducible refine (lexer_Lex.calls kj9 ((a0 ++ (⟨#[10]⟩ : ByteArray)) ++ a1) t257 t258 t259 _ ?side1 A17.out).mono ?_); (case side1 => exact Glob.mono hG (by repeat first | (with_reducible first | exact HB.out | apply ba | apply bn | apply bd) | exact HB.out)); rintro e w27 ⟨v260, rfl, ho0, hb⟩; refine ⟨_, rfl, ?_⟩; have n0_ := Aside0.mk (Kd.R_elder' (by (with_reducible repeat (first | apply ra | apply rn | apply rd1)); exact HO_6.out) (Kd.R_base ho0) hb); have n1_ := Aside0.mk (Kd.R_elder' (by (with_reducible repeat (first | apply ra | apply rn | apply rd1)); exact HO_9.out) (Kd.R_base ho0) hb); have n2_ := Aside0.mk (Kd.R_lower (Kd.R_new' (Kd.R_new' ho0 (Kd.R_lt (by (with_reducible repeat (first | apply ra | apply rn | apply rd1)); exact HO_6.out))) (Kd.R_lt (by (with_reducible repeat (first | apply ra | apply rn | apply rd1)); exact HO_9.out))) (below_size (by repeat first | (with_reducible first | exact HB.out | apply ba | apply bn | apply bd) | exact HB.out))); have n3_ := Aside0.mk (below_step (by repeat first | (with_reducible first | exact HB.out | apply ba | apply bn | apply bd) | exact HB.out) hb); clear HO_6; clear HO_9; clear HB; have HO_6 := n0_; have HO_9 := n1_; have HO261 := n2_; have HB := n3_; clear n0_ n1_ n2_ n3_; (try clear hb); (try clear hb2); (try clear hk); (try clear hi); (try clear ho0); obtain ⟨Ao28, co28, eo28⟩ := Kd.R_slice HO_6.out; subst eo28; obtain ⟨Ao29, co29, eo29⟩ := Kd.R_slice HO_9.out; subst eo29))
                     go_ret
                     exact ⟨by first | rfl | (simp [errW_none, errW_some] <;> rfl) | (simp [*, errW_none, errW_some] <;> rfl), by repeat (first | (with_reducible first | exact HB.out | apply ba | apply bn | apply bd) | exact HB.out)⟩
                   · rw [if_neg c26] at H
                     have c26b0 : (t258 == 2) = false := beq_eq_false_iff_ne.mpr c26
                     have c26b1 : (t258 != 2) = true := bne_iff_ne.mpr c26
                     obtain rfl := Option.some.inj H
                     go_wp2_with (first | ((with_reducible refine gce (f := 11) rfl ?_); refine goesL_ (some 49) rfl rfl Tryd.func11 (by kernel_rfl) rfl #[.string ((a0 ++ (⟨#[10]⟩ : ByteArray)) ++ a1)] rfl (by (try simp only [lma, lmc, lmn]); first | done | rfl | (simp only [lld, llt]; rfl)) ?_; (with_reducible refine (lexer_Lex.calls kj9 ((a0 ++ (⟨#[10]⟩ : ByteArray)) ++ a1) t257 t258 t259 _ ?side1 A17.out).mono ?_); (case side1 => exact Glob.mono hG (by repeat first | (with_reducible first | exact HB.out | apply ba | apply bn | apply bd) | exact HB.out)); rintro e w30 ⟨v260, rfl, ho0, hb⟩; refine ⟨_, rfl, ?_⟩; have n0_ := Aside0.mk (Kd.R_elder' (by (with_reducible repeat (first | apply ra | apply rn | apply rd1)); exact HO_6.out) (Kd.R_base ho0) hb); have n1_ := Aside0.mk (Kd.R_elder' (by (with_reducible repeat (first | apply ra | apply rn | apply rd1)); exact HO_9.out) (Kd.R_base ho0) hb); have n2_ := Aside0.mk (Kd.R_lower (Kd.R_new' (Kd.R_new' ho0 (Kd.R_lt (by (with_reducible repeat (first | apply ra | apply rn | apply rd1)); exact HO_6.out))) (Kd.R_lt (by (with_reducible repeat (first | apply ra | apply rn | apply rd1)); exact HO_9.out))) (below_size (by repeat first | (with_reducible first | exact HB.out | apply ba | apply bn | apply bd) | exact HB.out))); have n3_ := Aside0.mk (below_step (by repeat first | (with_reducible first | exact HB.out | apply ba | apply bn | apply bd) | exact HB.out) hb); clear HO_6; clear HO_9; clear HB; have HO_6 := n0_; have HO_9 := n1_; have HO261 := n2_; have HB := n3_; clear n0_ n1_ n2_ n3_; (try clear hb); (try clear hb2); (try clear hk); (try clear hi); (try clear ho0); obtain ⟨Ao31, co31, eo31⟩ := Kd.R_slice HO_6.out; subst eo31; obtain ⟨Ao32, co32, eo32⟩ := Kd.R_slice HO_9.out; subst eo32))
                     go_ret
                     exact ⟨by first | rfl | (simp [errW_none, errW_some] <;> rfl) | (simp [*, errW_none, errW_some] <;> rfl), by repeat (first | (with_reducible first | exact HB.out | apply ba | apply bn | apply bd) | exact HB.out)⟩
                 · replace c25 := Bool.eq_false_iff.mpr c25
                   subst c25
                   have H1 : (some false) = some r := by rw [if_neg (show ¬ (false = true) by decide)] at H; exact H
                   clear H
                   have H := H1
                   clear H1
                   obtain rfl := Option.some.inj H
                   go_wp2_with (first | ((with_reducible refine gce (f := 11) rfl ?_); refine goesL_ (some 49) rfl rfl Tryd.func11 (by kernel_rfl) rfl #[.string ((a0 ++ (⟨#[10]⟩ : ByteArray)) ++ a1)] rfl (by (try simp only [lma, lmc, lmn]); first | done | rfl | (simp only [lld, llt]; rfl)) ?_; (with_reducible refine (lexer_Lex.calls kj9 ((a0 ++ (⟨#[10]⟩ : ByteArray)) ++ a1) t257 t258 t259 _ ?side1 A17.out).mono ?_); (case side1 => exact Glob.mono hG (by repeat first | (with_reducible first | exact HB.out | apply ba | apply bn | apply bd) | exact HB.out)); rintro e w33 ⟨v260, rfl, ho0, hb⟩; refine ⟨_, rfl, ?_⟩; have n0_ := Aside0.mk (Kd.R_elder' (by (with_reducible repeat (first | apply ra | apply rn | apply rd1)); exact HO_6.out) (Kd.R_base ho0) hb); have n1_ := Aside0.mk (Kd.R_elder' (by (with_reducible repeat (first | apply ra | apply rn | apply rd1)); exact HO_9.out) (Kd.R_base ho0) hb); have n2_ := Aside0.mk (Kd.R_lower (Kd.R_new' (Kd.R_new' ho0 (Kd.R_lt (by (with_reducible repeat (first | apply ra | apply rn | apply rd1)); exact HO_6.out))) (Kd.R_lt (by (with_reducible repeat (first | apply ra | apply rn | apply rd1)); exact HO_9.out))) (below_size (by repeat first | (with_reducible first | exact HB.out | apply ba | apply bn | apply bd) | exact HB.out))); have n3_ := Aside0.mk (below_step (by repeat first | (with_reducible first | exact HB.out | apply ba | apply bn | apply bd) | exact HB.out) hb); clear HO_6; clear HO_9; clear HB; have HO_6 := n0_; have HO_9 := n1_; have HO261 := n2_; have HB := n3_; clear n0_ n1_ n2_ n3_; (try clear hb); (try clear hb2); (try clear hk); (try clear hi); (try clear ho0); obtain ⟨Ao34, co34, eo34⟩ := Kd.R_slice HO_6.out; subst eo34; obtain ⟨Ao35, co35, eo35⟩ := Kd.R_slice HO_9.out; subst eo35))
                   go_ret
                   exact ⟨by first | rfl | (simp [errW_none, errW_some] <;> rfl) | (simp [*, errW_none, errW_some] <;> rfl), by repeat (first | (with_reducible first | exact HB.out | apply ba | apply bn | apply bd) | exact HB.out)⟩
               · rw [if_neg c24] at H
                 have c24b0 : decide (3000 < (wrap64 ((t247.length : Int) + (t252.length : Int)))) = false := decide_eq_false c24
                 clear c24
                 by_cases c36 : t246 = true
                 · subst c36
                   have H1 : (if t258 = 0 then (if (t257.length : Int) = (wrap64 ((t247.length : Int) + (t252.length : Int))) then (if 0 ≤ (t247.length : Int) then (if (t247.length : Int) ≤ (t257.length : Int) then ((queuelabref01_Same.f kj9 t247 (t257.take ((t247.length : Int) : Int).toNat) 0).bind fun t266 => (if t266 = true then ((queuelabref01_Same.f kj9 t252 (t257.drop ((t247.length : Int) : Int).toNat) (wrap64 ((a0.size : Int) + 1))).bind fun t271 => (some t271)) else (some false))) else (none)) else (none)) else (some false)) else (some false)) = some r := by rw [if_pos rfl] at H; exact H
                   clear H
                   have H := H1
                   clear H1
                   by_cases c37 : t258 = 0
                   · rw [if_pos c37] at H
                     have c37b0 : (t258 == 0) = true := beq_iff_eq.mpr c37
                     have c37b1 : (t258 != 0) = false := bne_eq_false_iff_eq.mpr c37
                     clear c37
                     by_cases c38 : (t257.length : Int) = (wrap64 ((t247.length : Int) + (t252.length : Int)))
                     · rw [if_pos c38] at H
                       have c38b0 : ((t257.length : Int) == (wrap64 ((t247.length : Int) + (t252.length : Int)))) = true := beq_iff_eq.mpr c38
                       have c38b1 : ((t257.length : Int) != (wrap64 ((t247.length : Int) + (t252.length : Int)))) = false := bne_eq_false_iff_eq.mpr c38
                       clear c38
                       by_cases c39 : 0 ≤ (t247.length : Int)
                       · rw [if_pos c39] at H
                         have c39b0 := eq_true c39
                         have c39b1 : decide (0 ≤ (t247.length : Int)) = true := decide_eq_true c39
                         clear c39
                         by_cases c40 : (t247.length : Int) ≤ (t257.length : Int)
                         · rw [if_pos c40] at H
                           have c40b0 := eq_true c40
                           have c40b1 : decide ((t247.length : Int) ≤ (t257.length : Int)) = true := decide_eq_true c40
                           clear c40
                           obtain ⟨y262, hy262⟩ : ∃ y_ : List (S31), y_ = (t257.take ((t247.length : Int) : Int).toNat) := ⟨_, rfl⟩
                           replace H : ((queuelabref01_Same.f kj9 t247 y262 0).bind fun t266 => (if t266 = true then ((queuelabref01_Same.f kj9 t252 (t257.drop ((t247.length : Int) : Int).toNat) (wrap64 ((a0.size : Int) + 1))).bind fun t271 => (some t271)) else (some false))) = some r := by first | (rw [hy262]; with_reducible exact H) | (have H2_ := (Option.bind_some _ _).symm.trans H; rw [hy262]; with_reducible exact H2_) | (have H2_ := (Option.bind_some _ _).symm.trans H; with_reducible exact H2_) | with_reducible exact H | (rw [hy262]; exact H) | exact H
                           have Ny262 := Aside0.mk hy262
                           clear hy262
                           replace H := obs.mp H
                           obtain ⟨t266, A410, H⟩ := H
                           replace H : (if t266 = true then ((queuelabref01_Same.f kj9 t252 (t257.drop ((t247.length : Int) : Int).toNat) (wrap64 ((a0.size : Int) + 1))).bind fun t271 => (some t271)) else (some false)) = some r := H
                           have A41 := Aside0.mk A410
                           clear A410
                           by_cases c42 : t266 = true
                           · subst c42
                             have H1 : ((queuelabref01_Same.f kj9 t252 (t257.drop ((t247.length : Int) : Int).toNat) (wrap64 ((a0.size : Int) + 1))).bind fun t271 => (some t271)) = some r := by rw [if_pos rfl] at H; exact H
                             clear H
                             have H := H1
                             clear H1
                             have c43b0 := eq_true (of_decide_eq_true (by first | (with_reducible assumption) | assumption) : 0 ≤ (t247.length : Int))
                             have c44b0 := eq_true (of_decide_eq_true (by first | (with_reducible assumption) | assumption) : (t247.length : Int) ≤ (t257.length : Int))
                             obtain ⟨y267, hy267⟩ : ∃ y_ : List (S31), y_ = (t257.drop ((t247.length : Int) : Int).toNat) := ⟨_, rfl⟩
                             replace H : ((queuelabref01_Same.f kj9 t252 y267 (wrap64 ((a0.size : Int) + 1))).bind fun t271 => (some t271)) = some r := by first | (rw [hy267]; with_reducible exact H) | (have H2_ := (Option.bind_some _ _).symm.trans H; rw [hy267]; with_reducible exact H2_) | (have H2_ := (Option.bind_some _ _).symm.trans H; with_reducible exact H2_) | with_reducible exact H | (rw [hy267]; exact H) | exact H
                             have Ny267 := Aside0.mk hy267
                             clear hy267
                             replace H := obs.mp H
                             obtain ⟨t271, A450, H⟩ := H
                             replace H : (some t271) = some r := H
                             have A45 := Aside0.mk A450
                             clear A450
                             obtain rfl := Option.some.inj H
                             go_wp2_with (first | ((with_reducible refine gce (f := 11) rfl ?_); refine goesL_ (some 49) rfl rfl Tryd.func11 (by kernel_rfl) rfl #[.string ((a0 ++ (⟨#[10]⟩ : ByteArray)) ++ a1)] rfl (by (try simp only [lma, lmc, lmn]); first | done | rfl | (simp only [lld, llt]; rfl)) ?_; (with_reducible refine (lexer_Lex.calls kj9 ((a0 ++ (⟨#[10]⟩ : ByteArray)) ++ a1) t257 t258 t259 _ ?side1 A17.out).mono ?_); (case side1 => exact Glob.mono hG (by repeat first | (with_reducible first | exact HB.out | apply ba | apply bn | apply bd) | exact HB.out)); rintro e w46 ⟨v260, rfl, ho0, hb⟩; refine ⟨_, rfl, ?_⟩; have n0_ := Aside0.mk (Kd.R_elder' (by (with_reducible repeat (first | apply ra | apply rn | apply rd1)); exact HO_6.out) (Kd.R_base ho0) hb); have n1_ := Aside0.mk (Kd.R_elder' (by (with_reducible repeat (first | apply ra | apply rn | apply rd1)); exact HO_9.out) (Kd.R_base ho0) hb); have n2_ := Aside0.mk (Kd.R_lower (Kd.R_new' (Kd.R_new' ho0 (Kd.R_lt (by (with_reducible repeat (first | apply ra | apply rn | apply rd1)); exact HO_6.out))) (Kd.R_lt (by (with_reducible repeat (first | apply ra | apply rn | apply rd1)); exact HO_9.out))) (below_size (by repeat first | (with_reducible first | exact HB.out | apply ba | apply bn | apply bd) | exact HB.out))); have n3_ := Aside0.mk (below_step (by repeat first | (with_reducible first | exact HB.out | apply ba | apply bn | apply bd) | exact HB.out) hb); clear HO_6; clear HO_9; clear HB; have HO_6 := n0_; have HO_9 := n1_; have HO261 := n2_; have HB := n3_; clear n0_ n1_ n2_ n3_; (try clear hb); (try clear hb2); (try clear hk); (try clear hi); (try clear ho0); obtain ⟨Ao47, co47, eo47⟩ := Kd.R_slice HO_6.out; subst eo47; obtain ⟨Ao48, co48, eo48⟩ := Kd.R_slice HO_9.out; subst eo48; obtain ⟨Ao49, co49, eo49⟩ := Kd.R_slice HO261.out; subst eo49; have q50 : ((t247.length : Int) : Int) ≤ ((t257.length : Int) : Int) := of_decide_eq_true (by first | (with_reducible assumption) | assumption); obtain ⟨i050, hi050, _, hsz50, _⟩ := info_parts info31; have hroom50 : t257.length ≤ co49 := (Kd.R_reads' HO261.out).2.1; have hC50 : Kd.C k31 _ Ao49 t257.length t257 := (Kd.R_reads' HO261.out).2.2; have hcut50 := cut_to (P := Tryd.prog) 23 31 .i64 Tryd.underlying23 hi050 Ao49 t257.length co49 (t247.length : Int) (of_decide_eq_true (by first | (with_reducible assumption) | assumption)) q50 hroom50; have hr50 := Kd.C_take (m := ((t247.length : Int) : Int).toNat) hC50 (by omega); have hy50 : y262.length = ((t247.length : Int) : Int).toNat := (by rw [Ny262.out, List.length_take]; omega); rw [← Ny262.out] at hr50; rw [← hy50] at hcut50; have HR265 := Aside0.mk hr50; have HC265 := Aside0.mk (show y262.length ≤ co49 from by omega); clear hr50 hC50 hroom50 hi050 hsz50; have KY50 := Aside0.mk hy50; clear hy50; have KL50 := Aside0.mk (show ((t247.length : Int) : Int).toNat ≤ t257.length from by omega); replace q50 := eq_true q50) | (go_at_call 13; (with_reducible refine (queuelabref01_Same.calls kj9 _ _ t247 _ _ y262 0 true _ ?side1 ?side2 ?side3 ?side4 A41.out).mono ?_); (case side1 => repeat (first | exact (Kd.R_reads' HO_6.out).2.2 | (with_reducible refine Kd.C_alloc ?_ _) | (with_reducible refine Kd.C_drewN ?_ _) | (with_reducible refine Kd.C_drew ?_))); (case side2 => exact (Kd.R_reads' HO_6.out).2.1); (case side3 => repeat (first | exact (by repeat (first | (with_reducible exact HR265.out) | (with_reducible refine Kd.C_alloc ?_ _) | (with_reducible refine Kd.C_drewN ?_ _) | (with_reducible refine Kd.C_drew ?_) | exact HR265.out)) | (with_reducible refine Kd.C_alloc ?_ _) | (with_reducible refine Kd.C_drewN ?_ _) | (with_reducible refine Kd.C_drew ?_))); (case side4 => exact HC265.out); rintro e w' ⟨rfl, ⟨nd, rfl⟩⟩; have q51 : ((t247.length : Int) : Int) ≤ ((t257.length : Int) : Int) := of_decide_eq_true (by first | (with_reducible assumption) | assumption); obtain ⟨i051, hi051, _, hsz51, _⟩ := info_parts info31; have hroom51 : t257.length ≤ co49 := (Kd.R_reads' HO261.out).2.1; have hC51 : Kd.C k31 _ Ao49 t257.length t257 := (Kd.R_reads' HO261.out).2.2; have q051 : (0 : Int) ≤ ((t247.length : Int) : Int) := of_decide_eq_true (by first | (with_reducible assumption) | assumption); have hcut51 := cut_from (P := Tryd.prog) 23 31 .i64 Tryd.underlying23 hi051 4 hsz51 Ao49 t257.length co49 (t247.length : Int) q051 q51; have hr51 := Kd.C_drop (m := ((t247.length : Int) : Int).toNat) (c := co49) hC51 (by omega) hroom51; obtain ⟨A51, hA51⟩ : ∃ A1, A1 = (if co49 = ((t247.length : Int) : Int).toNat then Ao49 else (Ao49 : Option Addr).map (·.add (((t247.length : Int) : Int).toNat * 4))) := ⟨_, rfl⟩; obtain ⟨c51, hc51⟩ : ∃ c1, c1 = co49 - ((t247.length : Int) : Int).toNat := ⟨_, rfl⟩; have hy51 : y267.length = t257.length - ((t247.length : Int) : Int).toNat := (by rw [Ny267.out, List.length_drop] <;> omega); rw [show (t257).drop ((t247.length : Int) : Int).toNat = y267 from Ny267.out.symm] at hr51; replace hr51 : Kd.C k31 _ A51 y267.length y267 := (by rw [hA51]; exact hr51); rw [← hy51, ← hA51, ← hc51] at hcut51; have HR270 := Aside0.mk hr51; have HC270 := Aside0.mk (show y267.length ≤ c51 from by rw [hy51, hc51]; exact Nat.sub_le_sub_right hroom51 _); clear hr51 hC51 hroom51 hi051 hsz51 hc51; have KY51 := Aside0.mk hy51; have KA51 := Aside0.mk hA51; clear hy51 hA51; have KL51 := Aside0.mk (show ((t247.length : Int) : Int).toNat ≤ t257.length from by omega); replace q51 := eq_true q51) | (go_at_call 13; (with_reducible refine (queuelabref01_Same.calls kj9 _ _ t252 _ _ y267 (wrap64 ((a0.size : Int) + 1)) t271 _ ?side1 ?side2 ?side3 ?side4 A45.out).mono ?_); (case side1 => repeat (first | exact (Kd.R_reads' HO_9.out).2.2 | (with_reducible refine Kd.C_alloc ?_ _) | (with_reducible refine Kd.C_drewN ?_ _) | (with_reducible refine Kd.C_drew ?_))); (case side2 => exact (Kd.R_reads' HO_9.out).2.1); (case side3 => repeat (first | exact (by repeat (first | (with_reducible exact HR270.out) | (with_reducible refine Kd.C_alloc ?_ _) | (with_reducible refine Kd.C_drewN ?_ _) | (with_reducible refine Kd.C_drew ?_) | exact HR270.out)) | (with_reducible refine Kd.C_alloc ?_ _) | (with_reducible refine Kd.C_drewN ?_ _) | (with_reducible refine Kd.C_drew ?_))); (case side4 => exact HC270.out); rintro e w' ⟨rfl, ⟨nd, rfl⟩⟩))
                             go_ret
                             exact ⟨by first | rfl | (simp [errW_none, errW_some] <;> rfl) | (simp [*, errW_none, errW_some] <;> rfl), by repeat (first | (with_reducible first | exact HB.out | apply ba | apply bn | apply bd) | exact HB.out)⟩
                           · replace c42 := Bool.eq_false_iff.mpr c42
                             subst c42
                             have H1 : (some false) = some r := by rw [if_neg (show ¬ (false = true) by decide)] at H; exact H
                             clear H
                             have H := H1
                             clear H1
                             obtain rfl := Option.some.inj H
                             go_wp2_with (first | ((with_reducible refine gce (f := 11) rfl ?_); refine goesL_ (some 49) rfl rfl Tryd.func11 (by kernel_rfl) rfl #[.string ((a0 ++ (⟨#[10]⟩ : ByteArray)) ++ a1)] rfl (by (try simp only [lma, lmc, lmn]); first | done | rfl | (simp only [lld, llt]; rfl)) ?_; (with_reducible refine (lexer_Lex.calls kj9 ((a0 ++ (⟨#[10]⟩ : ByteArray)) ++ a1) t257 t258 t259 _ ?side1 A17.out).mono ?_); (case side1 => exact Glob.mono hG (by repeat first | (with_reducible first | exact HB.out | apply ba | apply bn | apply bd) | exact HB.out)); rintro e w52 ⟨v260, rfl, ho0, hb⟩; refine ⟨_, rfl, ?_⟩; have n0_ := Aside0.mk (Kd.R_elder' (by (with_reducible repeat (first | apply ra | apply rn | apply rd1)); exact HO_6.out) (Kd.R_base ho0) hb); have n1_ := Aside0.mk (Kd.R_elder' (by (with_reducible repeat (first | apply ra | apply rn | apply rd1)); exact HO_9.out) (Kd.R_base ho0) hb); have n2_ := Aside0.mk (Kd.R_lower (Kd.R_new' (Kd.R_new' ho0 (Kd.R_lt (by (with_reducible repeat (first | apply ra | apply rn | apply rd1)); exact HO_6.out))) (Kd.R_lt (by (with_reducible repeat (first | apply ra | apply rn | apply rd1)); exact HO_9.out))) (below_size (by repeat first | (with_reducible first | exact HB.out | apply ba | apply bn | apply bd) | exact HB.out))); have n3_ := Aside0.mk (below_step (by repeat first | (with_reducible first | exact HB.out | apply ba | apply bn | apply bd) | exact HB.out) hb); clear HO_6; clear HO_9; clear HB; have HO_6 := n0_; have HO_9 := n1_; have HO261 := n2_; have HB := n3_; clear n0_ n1_ n2_ n3_; (try clear hb); (try clear hb2); (try clear hk); (try clear hi); (try clear ho0); obtain ⟨Ao53, co53, eo53⟩ := Kd.R_slice HO_6.out; subst eo53; obtain ⟨Ao54, co54, eo54⟩ := Kd.R_slice HO_9.out; subst eo54; obtain ⟨Ao55, co55, eo55⟩ := Kd.R_slice HO261.out; subst eo55; have q56 : ((t247.length : Int) : Int) ≤ ((t257.length : Int) : Int) := of_decide_eq_true (by first | (with_reducible assumption) | assumption); obtain ⟨i056, hi056, _, hsz56, _⟩ := info_parts info31; have hroom56 : t257.length ≤ co55 := (Kd.R_reads' HO261.out).2.1; have hC56 : Kd.C k31 _ Ao55 t257.length t257 := (Kd.R_reads' HO261.out).2.2; have hcut56 := cut_to (P := Tryd.prog) 23 31 .i64 Tryd.underlying23 hi056 Ao55 t257.length co55 (t247.length : Int) (of_decide_eq_true (by first | (with_reducible assumption) | assumption)) q56 hroom56; have hr56 := Kd.C_take (m := ((t247.length : Int) : Int).toNat) hC56 (by omega); have hy56 : y262.length = ((t247.length : Int) : Int).toNat := (by rw [Ny262.out, List.length_take]; omega); rw [← Ny262.out] at hr56; rw [← hy56] at hcut56; have HR265 := Aside0.mk hr56; have HC265 := Aside0.mk (show y262.length ≤ co55 from by omega); clear hr56 hC56 hroom56 hi056 hsz56; have KY56 := Aside0.mk hy56; clear hy56; have KL56 := Aside0.mk (show ((t247.length : Int) : Int).toNat ≤ t257.length from by omega); replace q56 := eq_true q56) | (go_at_call 13; (with_reducible refine (queuelabref01_Same.calls kj9 _ _ t247 _ _ y262 0 false _ ?side1 ?side2 ?side3 ?side4 A41.out).mono ?_); (case side1 => repeat (first | exact (Kd.R_reads' HO_6.out).2.2 | (with_reducible refine Kd.C_alloc ?_ _) | (with_reducible refine Kd.C_drewN ?_ _) | (with_reducible refine Kd.C_drew ?_))); (case side2 => exact (Kd.R_reads' HO_6.out).2.1); (case side3 => repeat (first | exact (by repeat (first | (with_reducible exact HR265.out) | (with_reducible refine Kd.C_alloc ?_ _) | (with_reducible refine Kd.C_drewN ?_ _) | (with_reducible refine Kd.C_drew ?_) | exact HR265.out)) | (with_reducible refine Kd.C_alloc ?_ _) | (with_reducible refine Kd.C_drewN ?_ _) | (with_reducible refine Kd.C_drew ?_))); (case side4 => exact HC265.out); rintro e w' ⟨rfl, ⟨nd, rfl⟩⟩))
                             go_ret
                             exact ⟨by first | rfl | (simp [errW_none, errW_some] <;> rfl) | (simp [*, errW_none, errW_some] <;> rfl), by repeat (first | (with_reducible first | exact HB.out | apply ba | apply bn | apply bd) | exact HB.out)⟩
                         · rw [if_neg c40] at H
                           exact absurd H (by simp)
                       · rw [if_neg c39] at H
                         exact absurd H (by simp)
                     · rw [if_neg c38] at H
                       have c38b0 : ((t257.length : Int) == (wrap64 ((t247.length : Int) + (t252.length : Int)))) = false := beq_eq_false_iff_ne.mpr c38
                       have c38b1 : ((t257.length : Int) != (wrap64 ((t247.length : Int) + (t252.length : Int)))) = true := bne_iff_ne.mpr c38
                       obtain rfl := Option.some.inj H
                       go_wp2_with (first | ((with_reducible refine gce (f := 11) rfl ?_); refine goesL_ (some 49) rfl rfl Tryd.func11 (by kernel_rfl) rfl #[.string ((a0 ++ (⟨#[10]⟩ : ByteArray)) ++ a1)] rfl (by (try simp only [lma, lmc, lmn]); first | done | rfl | (simp only [lld, llt]; rfl)) ?_; (with_reducible refine (lexer_Lex.calls kj9 ((a0 ++ (⟨#[10]⟩ : ByteArray)) ++ a1) t257 t258 t259 _ ?side1 A17.out).mono ?_); (case side1 => exact Glob.mono hG (by repeat first | (with_reducible first | exact HB.out | apply ba | apply bn | apply bd) | exact HB.out)); rintro e w57 ⟨v260, rfl, ho0, hb⟩; refine ⟨_, rfl, ?_⟩; have n0_ := Aside0.mk (Kd.R_elder' (by (with_reducible repeat (first | apply ra | apply rn | apply rd1)); exact HO_6.out) (Kd.R_base ho0) hb); have n1_ := Aside0.mk (Kd.R_elder' (by (with_reducible repeat (first | apply ra | apply rn | apply rd1)); exact HO_9.out) (Kd.R_base ho0) hb); have n2_ := Aside0.mk (Kd.R_lower (Kd.R_new' (Kd.R_new' ho0 (Kd.R_lt (by (with_reducible repeat (first | apply ra | apply rn | apply rd1)); exact HO_6.out))) (Kd.R_lt (by (with_reducible repeat (first | apply ra | apply rn | apply rd1)); exact HO_9.out))) (below_size (by repeat first | (with_reducible first | exact HB.out | apply ba | apply bn | apply bd) | exact HB.out))); have n3_ := Aside0.mk (below_step (by repeat first | (with_reducible first | exact HB.out | apply ba | apply bn | apply bd) | exact HB.out) hb); clear HO_6; clear HO_9; clear HB; have HO_6 := n0_; have HO_9 := n1_; have HO261 := n2_; have HB := n3_; clear n0_ n1_ n2_ n3_; (try clear hb); (try clear hb2); (try clear hk); (try clear hi); (try clear ho0); obtain ⟨Ao58, co58, eo58⟩ := Kd.R_slice HO_6.out; subst eo58; obtain ⟨Ao59, co59, eo59⟩ := Kd.R_slice HO_9.out; subst eo59; obtain ⟨Ao60, co60, eo60⟩ := Kd.R_slice HO261.out; subst eo60))
                       go_ret
                       exact ⟨by first | rfl | (simp [errW_none, errW_some] <;> rfl) | (simp [*, errW_none, errW_some] <;> rfl), by repeat (first | (with_reducible first | exact HB.out | apply ba | apply bn | apply bd) | exact HB.out)⟩
                   · rw [if_neg c37] at H
                     have c37b0 : (t258 == 0) = false := beq_eq_false_iff_ne.mpr c37
                     have c37b1 : (t258 != 0) = true := bne_iff_ne.mpr c37
                     obtain rfl := Option.some.inj H
                     go_wp2_with (first | ((with_reducible refine gce (f := 11) rfl ?_); refine goesL_ (some 49) rfl rfl Tryd.func11 (by kernel_rfl) rfl #[.string ((a0 ++ (⟨#[10]⟩ : ByteArray)) ++ a1)] rfl (by (try simp only [lma, lmc, lmn]); first | done | rfl | (simp only [lld, llt]; rfl)) ?_; (with_reducible refine (lexer_Lex.calls kj9 ((a0 ++ (⟨#[10]⟩ : ByteArray)) ++ a1) t257 t258 t259 _ ?side1 A17.out).mono ?_); (case side1 => exact Glob.mono hG (by repeat first | (with_reducible first | exact HB.out | apply ba | apply bn | apply bd) | exact HB.out)); rintro e w61 ⟨v260, rfl, ho0, hb⟩; refine ⟨_, rfl, ?_⟩; have n0_ := Aside0.mk (Kd.R_elder' (by (with_reducible repeat (first | apply ra | apply rn | apply rd1)); exact HO_6.out) (Kd.R_base ho0) hb); have n1_ := Aside0.mk (Kd.R_elder' (by (with_reducible repeat (first | apply ra | apply rn | apply rd1)); exact HO_9.out) (Kd.R_base ho0) hb); have n2_ := Aside0.mk (Kd.R_lower (Kd.R_new' (Kd.R_new' ho0 (Kd.R_lt (by (with_reducible repeat (first | apply ra | apply rn | apply rd1)); exact HO_6.out))) (Kd.R_lt (by (with_reducible repeat (first | apply ra | apply rn | apply rd1)); exact HO_9.out))) (below_size (by repeat first | (with_reducible first | exact HB.out | apply ba | apply bn | apply bd) | exact HB.out))); have n3_ := Aside0.mk (below_step (by repeat first | (with_reducible first | exact HB.out | apply ba | apply bn | apply bd) | exact HB.out) hb); clear HO_6; clear HO_9; clear HB; have HO_6 := n0_; have HO_9 := n1_; have HO261 := n2_; have HB := n3_; clear n0_ n1_ n2_ n3_; (try clear hb); (try clear hb2); (try clear hk); (try clear hi); (try clear ho0); obtain ⟨Ao62, co62, eo62⟩ := Kd.R_slice HO_6.out; subst eo62; obtain ⟨Ao63, co63, eo63⟩ := Kd.R_slice HO_9.out; subst eo63))
                     go_ret
                     exact ⟨by first | rfl | (simp [errW_none, errW_some] <;> rfl) | (simp [*, errW_none, errW_some] <;> rfl), by repeat (first | (with_reducible first | exact HB.out | apply ba | apply bn | apply bd) | exact HB.out)⟩
                 · replace c36 := Bool.eq_false_iff.mpr c36
                   subst c36
                   have H1 : (some false) = some r := by rw [if_neg (show ¬ (false = true) by decide)] at H; exact H
                   clear H
                   have H := H1
                   clear H1
                   obtain rfl := Option.some.inj H
                   go_wp2_with (first | ((with_reducible refine gce (f := 11) rfl ?_); refine goesL_ (some 49) rfl rfl Tryd.func11 (by kernel_rfl) rfl #[.string ((a0 ++ (⟨#[10]⟩ : ByteArray)) ++ a1)] rfl (by (try simp only [lma, lmc, lmn]); first | done | rfl | (simp only [lld, llt]; rfl)) ?_; (with_reducible refine (lexer_Lex.calls kj9 ((a0 ++ (⟨#[10]⟩ : ByteArray)) ++ a1) t257 t258 t259 _ ?side1 A17.out).mono ?_); (case side1 => exact Glob.mono hG (by repeat first | (with_reducible first | exact HB.out | apply ba | apply bn | apply bd) | exact HB.out)); rintro e w64 ⟨v260, rfl, ho0, hb⟩; refine ⟨_, rfl, ?_⟩; have n0_ := Aside0.mk (Kd.R_elder' (by (with_reducible repeat (first | apply ra | apply rn | apply rd1)); exact HO_6.out) (Kd.R_base ho0) hb); have n1_ := Aside0.mk (Kd.R_elder' (by (with_reducible repeat (first | apply ra | apply rn | apply rd1)); exact HO_9.out) (Kd.R_base ho0) hb); have n2_ := Aside0.mk (Kd.R_lower (Kd.R_new' (Kd.R_new' ho0 (Kd.R_lt (by (with_reducible repeat (first | apply ra | apply rn | apply rd1)); exact HO_6.out))) (Kd.R_lt (by (with_reducible repeat (first | apply ra | apply rn | apply rd1)); exact HO_9.out))) (below_size (by repeat first | (with_reducible first | exact HB.out | apply ba | apply bn | apply bd) | exact HB.out))); have n3_ := Aside0.mk (below_step (by repeat first | (with_reducible first | exact HB.out | apply ba | apply bn | apply bd) | exact HB.out) hb); clear HO_6; clear HO_9; clear HB; have HO_6 := n0_; have HO_9 := n1_; have HO261 := n2_; have HB := n3_; clear n0_ n1_ n2_ n3_; (try clear hb); (try clear hb2); (try clear hk); (try clear hi); (try clear ho0); obtain ⟨Ao65, co65, eo65⟩ := Kd.R_slice HO_6.out; subst eo65; obtain ⟨Ao66, co66, eo66⟩ := Kd.R_slice HO_9.out; subst eo66))
                   go_ret
                   exact ⟨by first | rfl | (simp [errW_none, errW_some] <;> rfl) | (simp [*, errW_none, errW_some] <;> rfl), by repeat (first | (with_reducible first | exact HB.out | apply ba | apply bn | apply bd) | exact HB.out)⟩
           · rw [if_neg c16] at H
             exact absurd H (by simp)
         · rw [if_neg c15] at H
           exact absurd H (by simp)

/-- THE ONE PURE STATEMENT of queuelablaw01_LexerJoins: yours. -/
def queuelablaw01_LexerJoins.Pure : Prop := ∀ (a0 : ByteArray) (a1 : ByteArray), a0.size ≤ 140737488351232 → a1.size ≤ 140737488351232 → ∃ k, queuelablaw01_LexerJoins.f k a0 a1 = some true
theorem queuelablaw01_LexerJoins.walk (P : queuelablaw01_LexerJoins.Pure) (a0 : ByteArray) (a1 : ByteArray) (w : World) (hG : Glob w) (w0 : a0.size ≤ 140737488351232) (w1 : a1.size ≤ 140737488351232) :
 Calls Tryd.prog 6 #[.string a0, .string a1] w fun e w' => e = .returned (.bool true) ∧ Below w.heap.size w w' := by
 obtain ⟨k, h⟩ := P a0 a1 w0 w1
 refine (queuelablaw01_LexerJoins.calls k a0 a1 true w hG h).mono ?_
 rintro e w' ⟨rfl, hd⟩
 exact ⟨rfl, hd⟩

/-! ### queuelabref01_Alike: function 16 -/
mutual
def queuelabref01_Alike.l0 : Nat → List (S31) → List (S31) → Int → Option (Bool)
 | 0, _, _, _ => none
 | k + 1, x0, x1, x5 => if x5 < (x0.length : Int) then (if 0 ≤ x5 then (if x5 < (x1.length : Int) then (if ((rd_T31 x0 x5).f0) = ((rd_T31 x1 x5).f0) then (if ((rd_T31 x0 x5).f1).toList = ((rd_T31 x1 x5).f1).toList then (queuelabref01_Alike.j1 k x0 x1 x5 (((rd_T31 x0 x5).f2) != ((rd_T31 x1 x5).f2))) else (queuelabref01_Alike.j1 k x0 x1 x5 true)) else (queuelabref01_Alike.j1 k x0 x1 x5 true)) else (none)) else (none)) else (some true)
def queuelabref01_Alike.j1 : Nat → List (S31) → List (S31) → Int → Bool → Option (Bool)
 | 0, _, _, _, _ => none
 | k + 1, x0, x1, x5, x53 => if x53 = true then (some false) else (queuelabref01_Alike.l0 k x0 x1 (wrap64 (x5 + 1)))
end
def queuelabref01_Alike.f (k : Nat) (l0 : List (S31)) (l1 : List (S31)) : Option (Bool) := if (l0.length : Int) = (l1.length : Int) then (queuelabref01_Alike.l0 k l0 l1 0) else (some false)
theorem queuelabref01_Alike.mono_l : ∀ k, (∀ y0 y1 y2, LeO (queuelabref01_Alike.l0 k y0 y1 y2) (queuelabref01_Alike.l0 (k + 1) y0 y1 y2)) ∧ (∀ y0 y1 y2 y3, LeO (queuelabref01_Alike.j1 k y0 y1 y2 y3) (queuelabref01_Alike.j1 (k + 1) y0 y1 y2 y3))
 | 0 => ⟨fun _ _ _ r h => by simp [queuelabref01_Alike.l0] at h, fun _ _ _ _ r h => by simp [queuelabref01_Alike.j1] at h⟩
 | k + 1 => by
  obtain ⟨ih0, ih1⟩ := queuelabref01_Alike.mono_l k
  refine ⟨?_, ?_⟩
  · intro y0 y1 y2
    unfold queuelabref01_Alike.l0
    repeat' first
    | (with_reducible exact ih0 _ _ _)
    | (with_reducible exact ih1 _ _ _ _)
    | (with_reducible exact LeO.refl _)
    | (with_reducible exact LeO.none _)
    | (with_reducible refine LeO.ite ?_ ?_)
    | (with_reducible refine LeO.bind ?_ (fun _ => ?_))
    | exact ih0 _ _ _
    | exact ih1 _ _ _ _
    | exact LeO.none _
    | refine LeO.ite ?_ ?_
    | refine LeO.bind ?_ (fun _ => ?_)
  · intro y0 y1 y2 y3
    unfold queuelabref01_Alike.j1
    repeat' first
    | (with_reducible exact ih0 _ _ _)
    | (with_reducible exact ih1 _ _ _ _)
    | (with_reducible exact LeO.refl _)
    | (with_reducible exact LeO.none _)
    | (with_reducible refine LeO.ite ?_ ?_)
    | (with_reducible refine LeO.bind ?_ (fun _ => ?_))
    | exact ih0 _ _ _
    | exact ih1 _ _ _ _
    | exact LeO.none _
    | refine LeO.ite ?_ ?_
    | refine LeO.bind ?_ (fun _ => ?_)
theorem queuelabref01_Alike.mono : ∀ a0 a1 k, LeO (queuelabref01_Alike.f k a0 a1) (queuelabref01_Alike.f (k + 1) a0 a1) := by
 intro a0 a1 k
 obtain ⟨ih0, ih1⟩ := queuelabref01_Alike.mono_l k
 unfold queuelabref01_Alike.f
 repeat' first
  | (with_reducible exact ih0 _ _ _)
  | (with_reducible exact ih1 _ _ _ _)
  | (with_reducible exact LeO.refl _)
  | (with_reducible exact LeO.none _)
  | (with_reducible refine LeO.ite ?_ ?_)
  | (with_reducible refine LeO.bind ?_ (fun _ => ?_))
  | exact ih0 _ _ _
  | exact ih1 _ _ _ _
  | exact LeO.none _
  | refine LeO.ite ?_ ?_
  | refine LeO.bind ?_ (fun _ => ?_)
set_option maxHeartbeats 8000000 in
set_option maxRecDepth 100000 in
theorem queuelabref01_Alike.calls (k : Nat) (A0 : Option Addr) (c0 : Nat) (l0 : List (S31)) (A1 : Option Addr) (c1 : Nat) (l1 : List (S31)) (r : Bool) (w : World) (hr0 : Kd.C k31 w A0 l0.length l0) (hc0 : l0.length ≤ c0) (hr1 : Kd.C k31 w A1 l1.length l1) (hc1 : l1.length ≤ c1) (h : queuelabref01_Alike.f k l0 l1 = some r) :
 Calls Tryd.prog 16 #[.slice A0 l0.length c0, .slice A1 l1.length c1] w fun e w' => e = .returned (.bool r) ∧ Drawn0 w w' := by
 have HR0 := Aside0.mk hr0
 have HC0 := Aside0.mk hc0
 clear hr0 hc0
 have HR1 := Aside0.mk hr1
 have HC1 := Aside0.mk hc1
 clear hr1 hc1
 have H : (if (l0.length : Int) = (l1.length : Int) then (queuelabref01_Alike.l0 k l0 l1 0) else (some false)) = some r := h
 clear h
 by_cases c3 : (l0.length : Int) = (l1.length : Int)
 · rw [if_pos c3] at H
   have c3b0 : ((l0.length : Int) == (l1.length : Int)) = true := beq_iff_eq.mpr c3
   have c3b1 : ((l0.length : Int) != (l1.length : Int)) = false := bne_eq_false_iff_eq.mpr c3
   have c3b2 : (l0.length == l1.length) = true := by first | simpa using c3 | (simp at c3 ⊢; omega)
   clear c3
   have H' := Aside0.mk H
   clear H
   go_enter Tryd.func16, Tryd.ntmps16
   go_wp2
   repeat (go_quiet (fail); try go_wp2)
   go_loopg [5] k (fun kq v5 w' => ∃ (x5_1 : Int), v5 = .int .i64 x5_1 ∧ Aside0 (queuelabref01_Alike.l0 kq l0 l1 x5_1 = some r) ∧ Aside0 (kq ≤ k) ∧ Drawn0 w w')
   case atStart => exact ⟨(0), (by first | rfl | (simp; done) | (simp [*]; done)), H', ⟨Nat.le_refl _⟩, by repeat (first | exact Drawn0.refl _ | apply Drawn0.step)⟩
   case round =>
    clear H'
    try clear c1
    try clear p2
    try clear c3
    try clear c3b0
    try clear c3b1
    try clear c3b2
    obtain ⟨x5_1, rfl, HA, HK1, ⟨m1, rfl⟩⟩ := hrel
    cases gk with
    | zero => exact absurd HA.out (by simp [queuelabref01_Alike.l0])
    | succ k1 =>
     have H := HA.out
     clear HA
     simp only [queuelabref01_Alike.l0] at H
     by_cases c4 : x5_1 < (l0.length : Int)
     · rw [if_pos c4] at H
       have c4b0 : decide (x5_1 < (l0.length : Int)) = true := decide_eq_true c4
       clear c4
       have HC5 := Aside0.mk H
       clear H
       go_upto_region 6 with (fail)
       repeat (go_quiet (fail); go_upto_region 6 with (fail))
       go_cut [53] (fun v53 wc => ∃ (kq : Nat) (x53_4 : Bool), v53 = .bool x53_4 ∧ Aside0 (queuelabref01_Alike.j1 kq l0 l1 x5_1 x53_4 = some r) ∧ Aside0 (kq ≤ k1) ∧ Drawn0 w wc)
       case first =>
        have H := HC5.out
        clear HC5
        by_cases c6 : 0 ≤ x5_1
        · rw [if_pos c6] at H
          have c6b0 : decide (0 ≤ x5_1) = true := decide_eq_true c6
          clear c6
          (first | rw [c6b0] | (simp only [i64_w, i32_w]; rw [c6b0]) | skip)
          by_cases c7 : x5_1 < (l1.length : Int)
          · rw [if_pos c7] at H
            have c7b0 : decide (x5_1 < (l1.length : Int)) = true := decide_eq_true c7
            clear c7
            by_cases c8 : ((rd_T31 l0 x5_1).f0) = ((rd_T31 l1 x5_1).f0)
            · rw [if_pos c8] at H
              have c8b0 : (((rd_T31 l0 x5_1).f0) == ((rd_T31 l1 x5_1).f0)) = true := beq_iff_eq.mpr c8
              have c8b1 : (((rd_T31 l0 x5_1).f0) != ((rd_T31 l1 x5_1).f0)) = false := bne_eq_false_iff_eq.mpr c8
              clear c8
              by_cases c9 : ((rd_T31 l0 x5_1).f1).toList = ((rd_T31 l1 x5_1).f1).toList
              · rw [if_pos c9] at H
                have c9b0 : (((rd_T31 l0 x5_1).f1).toList == ((rd_T31 l1 x5_1).f1).toList) = true := beq_iff_eq.mpr c9
                have c9b1 : (((rd_T31 l0 x5_1).f1).toList != ((rd_T31 l1 x5_1).f1).toList) = false := bne_eq_false_iff_eq.mpr c9
                clear c9
                have H' := Aside0.mk H
                clear H
                have p272 : 0 ≤ (x5_1 : Int) := of_decide_eq_true (by first | (with_reducible assumption) | assumption)
                have q272 : x5_1 < (l0.length : Int) := of_decide_eq_true (by first | (with_reducible assumption) | assumption)
                obtain ⟨ad272, e272, hx272_0, hx272_1, hx272_2, hx272_3⟩ := at_T31 HR0.out x5_1 p272 q272
                cases e272
                replace p272 := eq_true p272
                replace q272 := eq_true q272
                have p273 : 0 ≤ (x5_1 : Int) := of_decide_eq_true (by first | (with_reducible assumption) | assumption)
                have q273 : x5_1 < (l1.length : Int) := of_decide_eq_true (by first | (with_reducible assumption) | assumption)
                obtain ⟨ad273, e273, hx273_0, hx273_1, hx273_2, hx273_3⟩ := at_T31 HR1.out x5_1 p273 q273
                cases e273
                replace p273 := eq_true p273
                replace q273 := eq_true q273
                have p274 : 0 ≤ (x5_1 : Int) := of_decide_eq_true (by first | (with_reducible assumption) | assumption)
                have q274 : x5_1 < (l0.length : Int) := of_decide_eq_true (by first | (with_reducible assumption) | assumption)
                obtain ⟨ad274, e274, hx274_0, hx274_1, hx274_2, hx274_3⟩ := at_T31 HR0.out x5_1 p274 q274
                obtain rfl : ad272 = ad274 := (by injection e274)
                replace p274 := eq_true p274
                replace q274 := eq_true q274
                have p275 : 0 ≤ (x5_1 : Int) := of_decide_eq_true (by first | (with_reducible assumption) | assumption)
                have q275 : x5_1 < (l1.length : Int) := of_decide_eq_true (by first | (with_reducible assumption) | assumption)
                obtain ⟨ad275, e275, hx275_0, hx275_1, hx275_2, hx275_3⟩ := at_T31 HR1.out x5_1 p275 q275
                obtain rfl : ad273 = ad275 := (by injection e275)
                replace p275 := eq_true p275
                replace q275 := eq_true q275
                have p276 : 0 ≤ (x5_1 : Int) := of_decide_eq_true (by first | (with_reducible assumption) | assumption)
                have q276 : x5_1 < (l0.length : Int) := of_decide_eq_true (by first | (with_reducible assumption) | assumption)
                obtain ⟨ad276, e276, hx276_0, hx276_1, hx276_2, hx276_3⟩ := at_T31 HR0.out x5_1 p276 q276
                obtain rfl : ad272 = ad276 := (by injection e276)
                replace p276 := eq_true p276
                replace q276 := eq_true q276
                have p277 : 0 ≤ (x5_1 : Int) := of_decide_eq_true (by first | (with_reducible assumption) | assumption)
                have q277 : x5_1 < (l1.length : Int) := of_decide_eq_true (by first | (with_reducible assumption) | assumption)
                obtain ⟨ad277, e277, hx277_0, hx277_1, hx277_2, hx277_3⟩ := at_T31 HR1.out x5_1 p277 q277
                obtain rfl : ad273 = ad277 := (by injection e277)
                replace p277 := eq_true p277
                replace q277 := eq_true q277
                go_wp2
                repeat (go_quiet (fail); try go_wp2)
                go_meet
                case rel => exact ⟨_, ((((rd_T31 l0 x5_1).f2) != ((rd_T31 l1 x5_1).f2))), (by first | rfl | (simp; done) | (simp [*]; done)), H', ⟨by have := HK1.out; first | omega | exact Nat.le_refl _⟩, by repeat (first | exact Drawn0.refl _ | apply Drawn0.step)⟩
              · rw [if_neg c9] at H
                have c9b0 : (((rd_T31 l0 x5_1).f1).toList == ((rd_T31 l1 x5_1).f1).toList) = false := beq_eq_false_iff_ne.mpr c9
                have c9b1 : (((rd_T31 l0 x5_1).f1).toList != ((rd_T31 l1 x5_1).f1).toList) = true := bne_iff_ne.mpr c9
                have H' := Aside0.mk H
                clear H
                have p272 : 0 ≤ (x5_1 : Int) := of_decide_eq_true (by first | (with_reducible assumption) | assumption)
                have q272 : x5_1 < (l0.length : Int) := of_decide_eq_true (by first | (with_reducible assumption) | assumption)
                obtain ⟨ad272, e272, hx272_0, hx272_1, hx272_2, hx272_3⟩ := at_T31 HR0.out x5_1 p272 q272
                cases e272
                replace p272 := eq_true p272
                replace q272 := eq_true q272
                have p273 : 0 ≤ (x5_1 : Int) := of_decide_eq_true (by first | (with_reducible assumption) | assumption)
                have q273 : x5_1 < (l1.length : Int) := of_decide_eq_true (by first | (with_reducible assumption) | assumption)
                obtain ⟨ad273, e273, hx273_0, hx273_1, hx273_2, hx273_3⟩ := at_T31 HR1.out x5_1 p273 q273
                cases e273
                replace p273 := eq_true p273
                replace q273 := eq_true q273
                have p274 : 0 ≤ (x5_1 : Int) := of_decide_eq_true (by first | (with_reducible assumption) | assumption)
                have q274 : x5_1 < (l0.length : Int) := of_decide_eq_true (by first | (with_reducible assumption) | assumption)
                obtain ⟨ad274, e274, hx274_0, hx274_1, hx274_2, hx274_3⟩ := at_T31 HR0.out x5_1 p274 q274
                obtain rfl : ad272 = ad274 := (by injection e274)
                replace p274 := eq_true p274
                replace q274 := eq_true q274
                have p275 : 0 ≤ (x5_1 : Int) := of_decide_eq_true (by first | (with_reducible assumption) | assumption)
                have q275 : x5_1 < (l1.length : Int) := of_decide_eq_true (by first | (with_reducible assumption) | assumption)
                obtain ⟨ad275, e275, hx275_0, hx275_1, hx275_2, hx275_3⟩ := at_T31 HR1.out x5_1 p275 q275
                obtain rfl : ad273 = ad275 := (by injection e275)
                replace p275 := eq_true p275
                replace q275 := eq_true q275
                go_wp2
                repeat (go_quiet (fail); try go_wp2)
                go_meet
                case rel => exact ⟨_, (true), (by first | rfl | (simp; done) | (simp [*]; done)), H', ⟨by have := HK1.out; first | omega | exact Nat.le_refl _⟩, by repeat (first | exact Drawn0.refl _ | apply Drawn0.step)⟩
            · rw [if_neg c8] at H
              have c8b0 : (((rd_T31 l0 x5_1).f0) == ((rd_T31 l1 x5_1).f0)) = false := beq_eq_false_iff_ne.mpr c8
              have c8b1 : (((rd_T31 l0 x5_1).f0) != ((rd_T31 l1 x5_1).f0)) = true := bne_iff_ne.mpr c8
              have H' := Aside0.mk H
              clear H
              have p272 : 0 ≤ (x5_1 : Int) := of_decide_eq_true (by first | (with_reducible assumption) | assumption)
              have q272 : x5_1 < (l0.length : Int) := of_decide_eq_true (by first | (with_reducible assumption) | assumption)
              obtain ⟨ad272, e272, hx272_0, hx272_1, hx272_2, hx272_3⟩ := at_T31 HR0.out x5_1 p272 q272
              cases e272
              replace p272 := eq_true p272
              replace q272 := eq_true q272
              have p273 : 0 ≤ (x5_1 : Int) := of_decide_eq_true (by first | (with_reducible assumption) | assumption)
              have q273 : x5_1 < (l1.length : Int) := of_decide_eq_true (by first | (with_reducible assumption) | assumption)
              obtain ⟨ad273, e273, hx273_0, hx273_1, hx273_2, hx273_3⟩ := at_T31 HR1.out x5_1 p273 q273
              cases e273
              replace p273 := eq_true p273
              replace q273 := eq_true q273
              go_wp2
              repeat (go_quiet (fail); try go_wp2)
              go_meet
              case rel => exact ⟨_, (true), (by first | rfl | (simp; done) | (simp [*]; done)), H', ⟨by have := HK1.out; first | omega | exact Nat.le_refl _⟩, by repeat (first | exact Drawn0.refl _ | apply Drawn0.step)⟩
          · rw [if_neg c7] at H
            exact absurd H (by simp)
        · rw [if_neg c6] at H
          exact absurd H (by simp)
       case rest =>
        clear HC5
        try clear c1
        try clear p2
        try clear q2
        try clear hx2
        try clear c3
        try clear c3b0
        try clear c3b1
        try clear c3b2
        try clear c4
        try clear c4b0
        try clear c6
        try clear c6b0
        try clear c7
        try clear c7b0
        try clear c8
        try clear c8b0
        try clear c8b1
        try clear c9
        try clear c9b0
        try clear c9b1
        try clear hx272_0
        try clear hx272_1
        try clear hx272_2
        try clear hx272_3
        try clear hx273_0
        try clear hx273_1
        try clear hx273_2
        try clear hx273_3
        try clear hx274_0
        try clear hx274_1
        try clear hx274_2
        try clear hx274_3
        try clear hx275_0
        try clear hx275_1
        try clear hx275_2
        try clear hx275_3
        try clear hx276_0
        try clear hx276_1
        try clear hx276_2
        try clear hx276_3
        try clear hx277_0
        try clear hx277_1
        try clear hx277_2
        try clear hx277_3
        try clear p2
        try clear p272
        try clear p273
        try clear p274
        try clear p275
        try clear p276
        try clear p277
        try clear q272
        try clear q273
        try clear q274
        try clear q275
        try clear q276
        try clear q277
        obtain ⟨kq, x53_4, rfl, HA, HJ4, ⟨mc4, rfl⟩⟩ := hcut
        cases kq with
        | zero => exact absurd HA.out (by simp [queuelabref01_Alike.j1])
        | succ kj4 =>
         have H := HA.out
         clear HA
         simp only [queuelabref01_Alike.j1] at H
         by_cases c10 : x53_4 = true
         · subst c10
           have H1 : (some false) = some r := by rw [if_pos rfl] at H; exact H
           clear H
           have H := H1
           clear H1
           obtain rfl := Option.some.inj H
           go_wp2
           repeat (go_quiet (fail); try go_wp2)
           go_ret
           exact ⟨by first | rfl | (simp; done) | (simp [*]; done), by repeat (first | exact Drawn0.refl _ | apply Drawn0.step)⟩
         · replace c10 := Bool.eq_false_iff.mpr c10
           subst c10
           have H1 : (queuelabref01_Alike.l0 kj4 l0 l1 (wrap64 (x5_1 + 1))) = some r := by rw [if_neg (show ¬ (false = true) by decide)] at H; exact H
           clear H
           have H := H1
           clear H1
           have H' := Aside0.mk H
           clear H
           go_wp2
           repeat (go_quiet (fail); try go_wp2)
           go_roundg kj4
           case measure => have := HK1.out; have := HJ4.out; omega
           case rel => exact ⟨(wrap64 (x5_1 + 1)), (by first | rfl | (simp; done) | (simp [*]; done)), H', ⟨by have := HK1.out; have := HJ4.out; omega⟩, by repeat (first | exact Drawn0.refl _ | apply Drawn0.step)⟩
     · rw [if_neg c4] at H
       have c4b0 : decide (x5_1 < (l0.length : Int)) = false := decide_eq_false c4
       clear c4
       obtain rfl := Option.some.inj H
       go_wp2
       repeat (go_quiet (fail); try go_wp2)
       go_ret
       exact ⟨by first | rfl | (simp; done) | (simp [*]; done), by repeat (first | exact Drawn0.refl _ | apply Drawn0.step)⟩
 · rw [if_neg c3] at H
   have c3b0 : ((l0.length : Int) == (l1.length : Int)) = false := beq_eq_false_iff_ne.mpr c3
   have c3b1 : ((l0.length : Int) != (l1.length : Int)) = true := bne_iff_ne.mpr c3
   have c3b2 : (l0.length == l1.length) = false := by first | simpa using c3 | (simp at c3 ⊢; omega)
   obtain rfl := Option.some.inj H
   go_enter Tryd.func16, Tryd.ntmps16
   go_wp2
   repeat (go_quiet (fail); try go_wp2)
   go_ret
   exact ⟨by first | rfl | (simp; done) | (simp [*]; done), by repeat (first | exact Drawn0.refl _ | apply Drawn0.step)⟩

end Go.Proofs.YtgkpjfbghjojoaaDoor.L
