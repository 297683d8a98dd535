-- PRINTED by print.py (a twelfth state) out of the translation. Not trusted: Lean checks it.
import Derived.Test.YtgkpjfbghjojoaaDoorL0
import Derived.Test.YtgkpjfbghjojoaaDoorL1
import Derived.Test.YtgkpjfbghjojoaaDoorL2
import Derived.Test.YtgkpjfbghjojoaaDoorL3
import Derived.Test.YtgkpjfbghjojoaaDoorL5
import Derived.Test.YtgkpjfbghjojoaaDoorL8
namespace Go.Proofs.YtgkpjfbghjojoaaDoor.L
open Go.RowKit Go.Proofs.YtgkpjfbghjojoaaDoorW.PrintWords Go.Proofs.YtgkpjfbghjojoaaDoorW.PrintLast Go.Proofs.YtgkpjfbghjojoaaDoorW.PrintMore
attribute [local go_sem] max2_int min2_int max_two min_two max_three min_three max_four min_four   -- for this text's walks alone
set_option linter.unusedVariables false
set_option linter.unusedSimpArgs false

/-! ### queuelablaw01_LexerWriting: function 7 -/
def queuelablaw01_LexerWriting.l0 : Nat → Bool → List (S31) → ByteArray → Int → Option (Bool)
 | 0, _, _, _, _ => none
 | k + 1, x3, x4, x7, x8 => if x8 < (x4.length : Int) then (if 0 ≤ x8 then ((queuelabref01_Text.f k ((rd_T31 x4 x8).f0) ((rd_T31 x4 x8).f1) ((rd_T31 x4 x8).f2) ((rd_T31 x4 x8).f3)).bind fun t285 => (if t285.size + 1 ≤ 9223372036854775807 then (if x7.size + (t285 ++ (⟨#[32]⟩ : ByteArray)).size ≤ 9223372036854775807 then (queuelablaw01_LexerWriting.l0 k x3 x4 (x7 ++ (t285 ++ (⟨#[32]⟩ : ByteArray))) (wrap64 (x8 + 1))) else (none)) else (none))) else (none)) else ((lexer_Lex.f k x7).bind fun bt286 => (if x3 = true then (if (x7.size : Int) > 10000 then (if bt286.2.1 = 2 then (some true) else (if bt286.2.1 = 0 then ((queuelabref01_Alike.f k x4 bt286.1).bind fun t291 => (some t291)) else (some false))) else (if bt286.2.1 = 0 then ((queuelabref01_Alike.f k x4 bt286.1).bind fun t292 => (some t292)) else (some false))) else (some false)))
def queuelablaw01_LexerWriting.f (k : Nat) (a0 : ByteArray) : Option (Bool) := (queuelablaw01_head.f k).bind fun t278 => (if (a0.size : Int) > 10000 then (some t278) else ((lexer_Lex.f k a0).bind fun bt279 => (if bt279.2.1 = 0 then (queuelablaw01_LexerWriting.l0 k t278 bt279.1 (⟨#[]⟩ : ByteArray) 0) else (some t278))))
theorem queuelablaw01_LexerWriting.mono_l : ∀ k, (∀ y0 y1 y2 y3, LeO (queuelablaw01_LexerWriting.l0 k y0 y1 y2 y3) (queuelablaw01_LexerWriting.l0 (k + 1) y0 y1 y2 y3))
 | 0 => fun _ _ _ _ r h => by simp [queuelablaw01_LexerWriting.l0] at h
 | k + 1 => by
  have ih0 := queuelablaw01_LexerWriting.mono_l k
  · intro y0 y1 y2 y3
    unfold queuelablaw01_LexerWriting.l0
    repeat' first
    | (with_reducible exact ih0 _ _ _ _)
    | (with_reducible exact lexer_Lex.mono _ _)
    | (with_reducible exact queuelablaw01_head.mono _)
    | (with_reducible exact queuelabref01_Alike.mono _ _ _)
    | (with_reducible exact queuelabref01_Text.mono _ _ _ _ _)
    | (with_reducible exact LeO.refl _)
    | (with_reducible exact LeO.none _)
    | (with_reducible refine LeO.ite ?_ ?_)
    | (with_reducible refine LeO.bind ?_ (fun _ => ?_))
    | exact ih0 _ _ _ _
    | exact lexer_Lex.mono _ _
    | exact queuelablaw01_head.mono _
    | exact queuelabref01_Alike.mono _ _ _
    | exact queuelabref01_Text.mono _ _ _ _ _
    | exact LeO.none _
    | refine LeO.ite ?_ ?_
    | refine LeO.bind ?_ (fun _ => ?_)
theorem queuelablaw01_LexerWriting.mono : ∀ a0 k, LeO (queuelablaw01_LexerWriting.f k a0) (queuelablaw01_LexerWriting.f (k + 1) a0) := by
 intro a0 k
 have ih0 := queuelablaw01_LexerWriting.mono_l k
 unfold queuelablaw01_LexerWriting.f
 repeat' first
  | (with_reducible exact ih0 _ _ _ _)
  | (with_reducible exact lexer_Lex.mono _ _)
  | (with_reducible exact queuelablaw01_head.mono _)
  | (with_reducible exact queuelabref01_Alike.mono _ _ _)
  | (with_reducible exact queuelabref01_Text.mono _ _ _ _ _)
  | (with_reducible exact LeO.refl _)
  | (with_reducible exact LeO.none _)
  | (with_reducible refine LeO.ite ?_ ?_)
  | (with_reducible refine LeO.bind ?_ (fun _ => ?_))
  | exact ih0 _ _ _ _
  | exact lexer_Lex.mono _ _
  | exact queuelablaw01_head.mono _
  | exact queuelabref01_Alike.mono _ _ _
  | exact queuelabref01_Text.mono _ _ _ _ _
  | exact LeO.none _
  | refine LeO.ite ?_ ?_
  | refine LeO.bind ?_ (fun _ => ?_)
set_option maxHeartbeats 8000000 in
set_option maxRecDepth 100000 in
theorem queuelablaw01_LexerWriting.calls (k : Nat) (a0 : ByteArray) (r : Bool) (w : World) (hG : Glob w) (h : queuelablaw01_LexerWriting.f k a0 = some r) :
 Calls Tryd.prog 7 #[.string a0] w fun e w' => e = .returned (.bool r) ∧ Below w.heap.size w w' := by
 have hu31 := Tryd.underlying31
 have HB := Aside0.mk (Below.refl w.heap.size w)
 have H : ((queuelablaw01_head.f k).bind fun t278 => (if (a0.size : Int) > 10000 then (some t278) else ((lexer_Lex.f k a0).bind fun bt279 => (if bt279.2.1 = 0 then (queuelablaw01_LexerWriting.l0 k t278 bt279.1 (⟨#[]⟩ : ByteArray) 0) else (some t278))))) = some r := h
 clear h
 replace H := obs.mp H
 obtain ⟨t278, A20, H⟩ := H
 replace H : (if (a0.size : Int) > 10000 then (some t278) else ((lexer_Lex.f k a0).bind fun bt279 => (if bt279.2.1 = 0 then (queuelablaw01_LexerWriting.l0 k t278 bt279.1 (⟨#[]⟩ : ByteArray) 0) else (some t278)))) = some r := H
 have A2 := Aside0.mk A20
 clear A20
 by_cases c3 : (a0.size : Int) > 10000
 · rw [if_pos c3] at H
   have c3b0 : decide (10000 < (a0.size : Int)) = true := decide_eq_true c3
   have c3b1 : decide (10000 < a0.size) = true := decide_eq_true (by omega)
   clear c3
   obtain rfl := Option.some.inj H
   go_enter Tryd.func7, Tryd.ntmps7
   go_wp2_with (first | ((with_reducible refine gce (f := 10) rfl ?_); refine goesL_ (some 12) rfl rfl Tryd.func10 (by kernel_rfl) rfl #[] rfl (by (try simp only [lma, lmc, lmn]); first | done | rfl | (simp only [lld, llt]; rfl)) ?_; (with_reducible refine (queuelablaw01_head.calls k  t278 _ ?side1 A2.out).mono ?_); (case side1 => exact Glob.mono hG (by repeat first | (with_reducible first | exact HB.out | apply ba | apply bn | apply bd) | exact HB.out)); rintro e w4 ⟨rfl, hb⟩; refine ⟨_, rfl, ?_⟩; have n0_ := Aside0.mk (below_step (by repeat first | (with_reducible first | exact HB.out | apply ba | apply bn | apply bd) | exact HB.out) hb); clear HB; have HB := n0_; clear n0_; (try clear hb); (try clear hb2); (try clear hk); (try clear hi)))
   go_ret
   exact ⟨by first | rfl | (simp [errW_none, errW_some] <;> rfl) | (simp [*, errW_none, errW_some] <;> rfl), by repeat (first | (with_reducible first | exact HB.out | apply ba | apply bn | apply bd) | exact HB.out)⟩
 · rw [if_neg c3] at H
   have c3b0 : decide (10000 < (a0.size : Int)) = false := decide_eq_false c3
   have c3b1 : decide (10000 < a0.size) = false := decide_eq_false (by omega)
   clear c3
   replace H := obs.mp H
   obtain ⟨⟨t279, t280, t281⟩, A50, H⟩ := H
   replace H : (if t280 = 0 then (queuelablaw01_LexerWriting.l0 k t278 t279 (⟨#[]⟩ : ByteArray) 0) else (some t278)) = some r := H
   have A5 := Aside0.mk A50
   clear A50
   by_cases c6 : t280 = 0
   · rw [if_pos c6] at H
     have c6b0 : (t280 == 0) = true := beq_iff_eq.mpr c6
     have c6b1 : (t280 != 0) = false := bne_eq_false_iff_eq.mpr c6
     clear c6
     have H' := Aside0.mk H
     clear H
     go_enter Tryd.func7, Tryd.ntmps7
     go_wp2_with (first | ((with_reducible refine gce (f := 10) rfl ?_); refine goesL_ (some 12) rfl rfl Tryd.func10 (by kernel_rfl) rfl #[] rfl (by (try simp only [lma, lmc, lmn]); first | done | rfl | (simp only [lld, llt]; rfl)) ?_; (with_reducible refine (queuelablaw01_head.calls k  t278 _ ?side1 A2.out).mono ?_); (case side1 => exact Glob.mono hG (by repeat first | (with_reducible first | exact HB.out | apply ba | apply bn | apply bd) | exact HB.out)); rintro e w7 ⟨rfl, hb⟩; refine ⟨_, rfl, ?_⟩; have n0_ := Aside0.mk (below_step (by repeat first | (with_reducible first | exact HB.out | apply ba | apply bn | apply bd) | exact HB.out) hb); clear HB; have HB := n0_; clear n0_; (try clear hb); (try clear hb2); (try clear hk); (try clear hi)) | ((with_reducible refine gce (f := 11) rfl ?_); refine goesL_ (some 19) rfl rfl Tryd.func11 (by kernel_rfl) rfl #[.string a0] rfl (by (try simp only [lma, lmc, lmn]); first | done | rfl | (simp only [lld, llt]; rfl)) ?_; (with_reducible refine (lexer_Lex.calls k a0 t279 t280 t281 _ ?side1 A5.out).mono ?_); (case side1 => exact Glob.mono hG (by repeat first | (with_reducible first | exact HB.out | apply ba | apply bn | apply bd) | exact HB.out)); rintro e w8 ⟨v282, rfl, ho0, hb⟩; refine ⟨_, rfl, ?_⟩; have n0_ := Aside0.mk (Kd.R_lower ho0 (below_size (by repeat first | (with_reducible first | exact HB.out | apply ba | apply bn | apply bd) | exact HB.out))); have n1_ := Aside0.mk (below_step (by repeat first | (with_reducible first | exact HB.out | apply ba | apply bn | apply bd) | exact HB.out) hb); clear HB; have HO283 := n0_; have HB := n1_; clear n0_ n1_; (try clear hb); (try clear hb2); (try clear hk); (try clear hi); (try clear ho0)))
     go_loopg [7, 8] k (fun kq v7 v8 w' => ∃ (x7_1 : ByteArray) (x8_1 : Int), v7 = .string x7_1 ∧ v8 = .int .i64 x8_1 ∧ Aside0 (queuelablaw01_LexerWriting.l0 kq t278 t279 x7_1 x8_1 = some r) ∧ Aside0 (kq ≤ k) ∧ Aside0 (Kd.R k31 31 w' w.heap.size (fun _ => True) v282 t279) ∧ Aside0 (Below w.heap.size w w'))
     case atStart => exact ⟨((⟨#[]⟩ : ByteArray)), (0), (by first | rfl | (simp; done) | (simp [*]; done)), (by first | rfl | (simp; done) | (simp [*]; done)), H', ⟨Nat.le_refl _⟩, ⟨by (with_reducible repeat (first | apply ra | apply rn | apply rd1)); exact HO283.out⟩, ⟨by repeat (first | (with_reducible first | exact HB.out | apply ba | apply bn | apply bd) | exact HB.out)⟩⟩
     case round =>
      clear H'
      try clear c1
      try clear p2
      try clear c3
      try clear c3b0
      try clear c3b1
      try clear c6
      try clear c6b0
      try clear c6b1
      try clear c7
      obtain ⟨x7_1, x8_1, rfl, rfl, HA, HK1, HO_4, HB⟩ := hrel
      cases gk with
      | zero => exact absurd HA.out (by simp [queuelablaw01_LexerWriting.l0])
      | succ k1 =>
       have H := HA.out
       clear HA
       simp only [queuelablaw01_LexerWriting.l0] at H
       by_cases c9 : x8_1 < (t279.length : Int)
       · rw [if_pos c9] at H
         have c9b0 : decide (x8_1 < (t279.length : Int)) = true := decide_eq_true c9
         clear c9
         by_cases c10 : 0 ≤ x8_1
         · rw [if_pos c10] at H
           have c10b0 : decide (0 ≤ x8_1) = true := decide_eq_true c10
           clear c10
           replace H := obs.mp H
           obtain ⟨t285, A110, H⟩ := H
           replace H : (if t285.size + 1 ≤ 9223372036854775807 then (if x7_1.size + (t285 ++ (⟨#[32]⟩ : ByteArray)).size ≤ 9223372036854775807 then (queuelablaw01_LexerWriting.l0 k1 t278 t279 (x7_1 ++ (t285 ++ (⟨#[32]⟩ : ByteArray))) (wrap64 (x8_1 + 1))) else (none)) else (none)) = some r := H
           have A11 := Aside0.mk A110
           clear A110
           by_cases c12 : t285.size + 1 ≤ 9223372036854775807
           · rw [if_pos c12] at H
             have c12b0 := eq_true c12
             have c12b1 : decide (t285.size + 1 ≤ 9223372036854775807) = true := decide_eq_true c12
             try have c12b2 : (9223372036854775807 < t285.size + 1) = False := eq_false (Nat.not_lt.2 c12)
             by_cases c13 : x7_1.size + (t285 ++ (⟨#[32]⟩ : ByteArray)).size ≤ 9223372036854775807
             · rw [if_pos c13] at H
               have c13b0 := eq_true c13
               have c13b1 : decide (x7_1.size + (t285 ++ (⟨#[32]⟩ : ByteArray)).size ≤ 9223372036854775807) = true := decide_eq_true c13
               try have c13b2 : (9223372036854775807 < x7_1.size + (t285 ++ (⟨#[32]⟩ : ByteArray)).size) = False := eq_false (Nat.not_lt.2 c13)
               try have c13z : (9223372036854775807 < x7_1.size + t285.size + 1) = False := eq_false (by have h_ := c13; simp only [ByteArray.size_append, ByteArray.size_extract] at h_; omega)
               have H' := Aside0.mk H
               clear H
               obtain ⟨Ao14, co14, eo14⟩ := Kd.R_slice HO_4.out
               subst eo14
               have p284 : 0 ≤ (x8_1 : Int) := of_decide_eq_true (by first | (with_reducible assumption) | assumption)
               have q284 : x8_1 < (t279.length : Int) := of_decide_eq_true (by first | (with_reducible assumption) | assumption)
               obtain ⟨ad284, e284, hx284_0, hx284_1, hx284_2, hx284_3⟩ := at_T31 (Kd.R_reads' HO_4.out).2.2 x8_1 p284 q284
               cases e284
               replace p284 := eq_true p284
               replace q284 := eq_true q284
               go_wp2_with (first | ((with_reducible refine gce (f := 14) rfl ?_); refine goesL_ (some 37) rfl rfl Tryd.func14 (by kernel_rfl) rfl #[.agg #[.int .i64 ((rd_T31 t279 x8_1).f0), .string ((rd_T31 t279 x8_1).f1), .int .i64 ((rd_T31 t279 x8_1).f2), .int .i64 ((rd_T31 t279 x8_1).f3)]] rfl (by (try simp only [lma, lmc, lmn]); first | done | rfl | (simp only [lld, llt]; rfl)) ?_; (with_reducible refine (queuelabref01_Text.calls k1 ((rd_T31 t279 x8_1).f0) ((rd_T31 t279 x8_1).f1) ((rd_T31 t279 x8_1).f2) ((rd_T31 t279 x8_1).f3) t285 _ A11.out).mono ?_); rintro e w15 ⟨rfl, hb⟩; refine ⟨_, rfl, ?_⟩; have n0_ := Aside0.mk (Kd.R_below (by (with_reducible repeat (first | apply ra | apply rn | apply rd1)); exact HO_4.out) hb); have n1_ := Aside0.mk (below_step (by repeat first | (with_reducible first | exact HB.out | apply ba | apply bn | apply bd) | exact HB.out) hb); clear HO_4; clear HB; have HO_4 := n0_; have HB := n1_; clear n0_ n1_; (try clear hb); (try clear hb2); (try clear hk); (try clear hi)))
               go_roundg k1
               case measure => have := HK1.out; omega
               case rel => exact ⟨(x7_1 ++ (t285 ++ (⟨#[32]⟩ : ByteArray))), (wrap64 (x8_1 + 1)), (by first | rfl | (simp; done) | (simp [*]; done)), (by first | rfl | (simp; done) | (simp [*]; done)), H', ⟨by have := HK1.out; omega⟩, ⟨by (with_reducible repeat (first | apply ra | apply rn | apply rd1)); exact HO_4.out⟩, ⟨by repeat (first | (with_reducible first | exact HB.out | apply ba | apply bn | apply bd) | exact HB.out)⟩⟩
             · rw [if_neg c13] at H
               exact absurd H (by simp)
           · rw [if_neg c12] at H
             exact absurd H (by simp)
         · rw [if_neg c10] at H
           exact absurd H (by simp)
       · rw [if_neg c9] at H
         have c9b0 : decide (x8_1 < (t279.length : Int)) = false := decide_eq_false c9
         clear c9
         replace H := obs.mp H
         obtain ⟨⟨t286, t287, t288⟩, A160, H⟩ := H
         replace H : (if t278 = true then (if (x7_1.size : Int) > 10000 then (if t287 = 2 then (some true) else (if t287 = 0 then ((queuelabref01_Alike.f k1 t279 t286).bind fun t291 => (some t291)) else (some false))) else (if t287 = 0 then ((queuelabref01_Alike.f k1 t279 t286).bind fun t292 => (some t292)) else (some false))) else (some false)) = some r := H
         have A16 := Aside0.mk A160
         clear A160
         by_cases c17 : t278 = true
         · subst c17
           have H1 : (if (x7_1.size : Int) > 10000 then (if t287 = 2 then (some true) else (if t287 = 0 then ((queuelabref01_Alike.f k1 t279 t286).bind fun t291 => (some t291)) else (some false))) else (if t287 = 0 then ((queuelabref01_Alike.f k1 t279 t286).bind fun t292 => (some t292)) else (some false))) = some r := by rw [if_pos rfl] at H; exact H
           clear H
           have H := H1
           clear H1
           by_cases c18 : (x7_1.size : Int) > 10000
           · rw [if_pos c18] at H
             have c18b0 : decide (10000 < (x7_1.size : Int)) = true := decide_eq_true c18
             have c18b1 : decide (10000 < x7_1.size) = true := decide_eq_true (by omega)
             clear c18
             by_cases c19 : t287 = 2
             · rw [if_pos c19] at H
               have c19b0 : (t287 == 2) = true := beq_iff_eq.mpr c19
               have c19b1 : (t287 != 2) = false := bne_eq_false_iff_eq.mpr c19
               clear c19
               obtain rfl := Option.some.inj H
               obtain ⟨Ao20, co20, eo20⟩ := Kd.R_slice HO_4.out
               subst eo20
               go_wp2_with (first | ((with_reducible refine gce (f := 11) rfl ?_); refine goesL_ (some 42) rfl rfl Tryd.func11 (by kernel_rfl) rfl #[.string x7_1] rfl (by (try simp only [lma, lmc, lmn]); first | done | rfl | (simp only [lld, llt]; rfl)) ?_; (with_reducible refine (lexer_Lex.calls k1 x7_1 t286 t287 t288 _ ?side1 A16.out).mono ?_); (case side1 => exact Glob.mono hG (by repeat first | (with_reducible first | exact HB.out | apply ba | apply bn | apply bd) | exact HB.out)); rintro e w21 ⟨v289, rfl, ho0, hb⟩; refine ⟨_, rfl, ?_⟩; have n0_ := Aside0.mk (Kd.R_elder' (by (with_reducible repeat (first | apply ra | apply rn | apply rd1)); exact HO_4.out) (Kd.R_base ho0) hb); have n1_ := Aside0.mk (Kd.R_lower (Kd.R_new' ho0 (Kd.R_lt (by (with_reducible repeat (first | apply ra | apply rn | apply rd1)); exact HO_4.out))) (below_size (by repeat first | (with_reducible first | exact HB.out | apply ba | apply bn | apply bd) | exact HB.out))); have n2_ := Aside0.mk (below_step (by repeat first | (with_reducible first | exact HB.out | apply ba | apply bn | apply bd) | exact HB.out) hb); clear HO_4; clear HB; have HO_4 := n0_; have HO290 := n1_; have HB := n2_; clear n0_ n1_ n2_; (try clear hb); (try clear hb2); (try clear hk); (try clear hi); (try clear ho0)))
               go_ret
               exact ⟨by first | rfl | (simp [errW_none, errW_some] <;> rfl) | (simp [*, errW_none, errW_some] <;> rfl), by repeat (first | (with_reducible first | exact HB.out | apply ba | apply bn | apply bd) | exact HB.out)⟩
             · rw [if_neg c19] at H
               have c19b0 : (t287 == 2) = false := beq_eq_false_iff_ne.mpr c19
               have c19b1 : (t287 != 2) = true := bne_iff_ne.mpr c19
               by_cases c22 : t287 = 0
               · rw [if_pos c22] at H
                 have c22b0 : (t287 == 0) = true := beq_iff_eq.mpr c22
                 have c22b1 : (t287 != 0) = false := bne_eq_false_iff_eq.mpr c22
                 clear c22
                 replace H := obs.mp H
                 obtain ⟨t291, A230, H⟩ := H
                 replace H : (some t291) = some r := H
                 have A23 := Aside0.mk A230
                 clear A230
                 obtain rfl := Option.some.inj H
                 obtain ⟨Ao24, co24, eo24⟩ := Kd.R_slice HO_4.out
                 subst eo24
                 go_wp2_with (first | ((with_reducible refine gce (f := 11) rfl ?_); refine goesL_ (some 42) rfl rfl Tryd.func11 (by kernel_rfl) rfl #[.string x7_1] rfl (by (try simp only [lma, lmc, lmn]); first | done | rfl | (simp only [lld, llt]; rfl)) ?_; (with_reducible refine (lexer_Lex.calls k1 x7_1 t286 t287 t288 _ ?side1 A16.out).mono ?_); (case side1 => exact Glob.mono hG (by repeat first | (with_reducible first | exact HB.out | apply ba | apply bn | apply bd) | exact HB.out)); rintro e w25 ⟨v289, rfl, ho0, hb⟩; refine ⟨_, rfl, ?_⟩; have n0_ := Aside0.mk (Kd.R_elder' (by (with_reducible repeat (first | apply ra | apply rn | apply rd1)); exact HO_4.out) (Kd.R_base ho0) hb); have n1_ := Aside0.mk (Kd.R_lower (Kd.R_new' ho0 (Kd.R_lt (by (with_reducible repeat (first | apply ra | apply rn | apply rd1)); exact HO_4.out))) (below_size (by repeat first | (with_reducible first | exact HB.out | apply ba | apply bn | apply bd) | exact HB.out))); have n2_ := Aside0.mk (below_step (by repeat first | (with_reducible first | exact HB.out | apply ba | apply bn | apply bd) | exact HB.out) hb); clear HO_4; clear HB; have HO_4 := n0_; have HO290 := n1_; have HB := n2_; clear n0_ n1_ n2_; (try clear hb); (try clear hb2); (try clear hk); (try clear hi); (try clear ho0); obtain ⟨Ao26, co26, eo26⟩ := Kd.R_slice HO290.out; subst eo26) | (go_at_call 16; (with_reducible refine (queuelabref01_Alike.calls k1 _ _ t279 _ _ t286 t291 _ ?side1 ?side2 ?side3 ?side4 A23.out).mono ?_); (case side1 => repeat (first | exact (Kd.R_reads' HO_4.out).2.2 | (with_reducible refine Kd.C_alloc ?_ _) | (with_reducible refine Kd.C_drewN ?_ _) | (with_reducible refine Kd.C_drew ?_))); (case side2 => exact (Kd.R_reads' HO_4.out).2.1); (case side3 => repeat (first | exact (Kd.R_reads' HO290.out).2.2 | (with_reducible refine Kd.C_alloc ?_ _) | (with_reducible refine Kd.C_drewN ?_ _) | (with_reducible refine Kd.C_drew ?_))); (case side4 => exact (Kd.R_reads' HO290.out).2.1); rintro e w' ⟨rfl, ⟨nd, rfl⟩⟩))
                 go_ret
                 exact ⟨by first | rfl | (simp [errW_none, errW_some] <;> rfl) | (simp [*, errW_none, errW_some] <;> rfl), by repeat (first | (with_reducible first | exact HB.out | apply ba | apply bn | apply bd) | exact HB.out)⟩
               · rw [if_neg c22] at H
                 have c22b0 : (t287 == 0) = false := beq_eq_false_iff_ne.mpr c22
                 have c22b1 : (t287 != 0) = true := bne_iff_ne.mpr c22
                 obtain rfl := Option.some.inj H
                 obtain ⟨Ao27, co27, eo27⟩ := Kd.R_slice HO_4.out
                 subst eo27
                 go_wp2_with (first | ((with_reducible refine gce (f := 11) rfl ?_); refine goesL_ (some 42) rfl rfl Tryd.func11 (by kernel_rfl) rfl #[.string x7_1] rfl (by (try simp only [lma, lmc, lmn]); first | done | rfl | (simp only [lld, llt]; rfl)) ?_; (with_reducible refine (lexer_Lex.calls k1 x7_1 t286 t287 t288 _ ?side1 A16.out).mono ?_); (case side1 => exact Glob.mono hG (by repeat first | (with_reducible first | exact HB.out | apply ba | apply bn | apply bd) | exact HB.out)); rintro e w28 ⟨v289, rfl, ho0, hb⟩; refine ⟨_, rfl, ?_⟩; have n0_ := Aside0.mk (Kd.R_elder' (by (with_reducible repeat (first | apply ra | apply rn | apply rd1)); exact HO_4.out) (Kd.R_base ho0) hb); have n1_ := Aside0.mk (Kd.R_lower (Kd.R_new' ho0 (Kd.R_lt (by (with_reducible repeat (first | apply ra | apply rn | apply rd1)); exact HO_4.out))) (below_size (by repeat first | (with_reducible first | exact HB.out | apply ba | apply bn | apply bd) | exact HB.out))); have n2_ := Aside0.mk (below_step (by repeat first | (with_reducible first | exact HB.out | apply ba | apply bn | apply bd) | exact HB.out) hb); clear HO_4; clear HB; have HO_4 := n0_; have HO290 := n1_; have HB := n2_; clear n0_ n1_ n2_; (try clear hb); (try clear hb2); (try clear hk); (try clear hi); (try clear ho0)))
                 go_ret
                 exact ⟨by first | rfl | (simp [errW_none, errW_some] <;> rfl) | (simp [*, errW_none, errW_some] <;> rfl), by repeat (first | (with_reducible first | exact HB.out | apply ba | apply bn | apply bd) | exact HB.out)⟩
           · rw [if_neg c18] at H
             have c18b0 : decide (10000 < (x7_1.size : Int)) = false := decide_eq_false c18
             have c18b1 : decide (10000 < x7_1.size) = false := decide_eq_false (by omega)
             clear c18
             by_cases c29 : t287 = 0
             · rw [if_pos c29] at H
               have c29b0 : (t287 == 0) = true := beq_iff_eq.mpr c29
               have c29b1 : (t287 != 0) = false := bne_eq_false_iff_eq.mpr c29
               clear c29
               replace H := obs.mp H
               obtain ⟨t292, A300, H⟩ := H
               replace H : (some t292) = some r := H
               have A30 := Aside0.mk A300
               clear A300
               obtain rfl := Option.some.inj H
               obtain ⟨Ao31, co31, eo31⟩ := Kd.R_slice HO_4.out
               subst eo31
               go_wp2_with (first | ((with_reducible refine gce (f := 11) rfl ?_); refine goesL_ (some 42) rfl rfl Tryd.func11 (by kernel_rfl) rfl #[.string x7_1] rfl (by (try simp only [lma, lmc, lmn]); first | done | rfl | (simp only [lld, llt]; rfl)) ?_; (with_reducible refine (lexer_Lex.calls k1 x7_1 t286 t287 t288 _ ?side1 A16.out).mono ?_); (case side1 => exact Glob.mono hG (by repeat first | (with_reducible first | exact HB.out | apply ba | apply bn | apply bd) | exact HB.out)); rintro e w32 ⟨v289, rfl, ho0, hb⟩; refine ⟨_, rfl, ?_⟩; have n0_ := Aside0.mk (Kd.R_elder' (by (with_reducible repeat (first | apply ra | apply rn | apply rd1)); exact HO_4.out) (Kd.R_base ho0) hb); have n1_ := Aside0.mk (Kd.R_lower (Kd.R_new' ho0 (Kd.R_lt (by (with_reducible repeat (first | apply ra | apply rn | apply rd1)); exact HO_4.out))) (below_size (by repeat first | (with_reducible first | exact HB.out | apply ba | apply bn | apply bd) | exact HB.out))); have n2_ := Aside0.mk (below_step (by repeat first | (with_reducible first | exact HB.out | apply ba | apply bn | apply bd) | exact HB.out) hb); clear HO_4; clear HB; have HO_4 := n0_; have HO290 := n1_; have HB := n2_; clear n0_ n1_ n2_; (try clear hb); (try clear hb2); (try clear hk); (try clear hi); (try clear ho0); obtain ⟨Ao33, co33, eo33⟩ := Kd.R_slice HO290.out; subst eo33) | (go_at_call 16; (with_reducible refine (queuelabref01_Alike.calls k1 _ _ t279 _ _ t286 t292 _ ?side1 ?side2 ?side3 ?side4 A30.out).mono ?_); (case side1 => repeat (first | exact (Kd.R_reads' HO_4.out).2.2 | (with_reducible refine Kd.C_alloc ?_ _) | (with_reducible refine Kd.C_drewN ?_ _) | (with_reducible refine Kd.C_drew ?_))); (case side2 => exact (Kd.R_reads' HO_4.out).2.1); (case side3 => repeat (first | exact (Kd.R_reads' HO290.out).2.2 | (with_reducible refine Kd.C_alloc ?_ _) | (with_reducible refine Kd.C_drewN ?_ _) | (with_reducible refine Kd.C_drew ?_))); (case side4 => exact (Kd.R_reads' HO290.out).2.1); rintro e w' ⟨rfl, ⟨nd, rfl⟩⟩))
               go_ret
               exact ⟨by first | rfl | (simp [errW_none, errW_some] <;> rfl) | (simp [*, errW_none, errW_some] <;> rfl), by repeat (first | (with_reducible first | exact HB.out | apply ba | apply bn | apply bd) | exact HB.out)⟩
             · rw [if_neg c29] at H
               have c29b0 : (t287 == 0) = false := beq_eq_false_iff_ne.mpr c29
               have c29b1 : (t287 != 0) = true := bne_iff_ne.mpr c29
               obtain rfl := Option.some.inj H
               obtain ⟨Ao34, co34, eo34⟩ := Kd.R_slice HO_4.out
               subst eo34
               go_wp2_with (first | ((with_reducible refine gce (f := 11) rfl ?_); refine goesL_ (some 42) rfl rfl Tryd.func11 (by kernel_rfl) rfl #[.string x7_1] rfl (by (try simp only [lma, lmc, lmn]); first | done | rfl | (simp only [lld, llt]; rfl)) ?_; (with_reducible refine (lexer_Lex.calls k1 x7_1 t286 t287 t288 _ ?side1 A16.out).mono ?_); (case side1 => exact Glob.mono hG (by repeat first | (with_reducible first | exact HB.out | apply ba | apply bn | apply bd) | exact HB.out)); rintro e w35 ⟨v289, rfl, ho0, hb⟩; refine ⟨_, rfl, ?_⟩; have n0_ := Aside0.mk (Kd.R_elder' (by (with_reducible repeat (first | apply ra | apply rn | apply rd1)); exact HO_4.out) (Kd.R_base ho0) hb); have n1_ := Aside0.mk (Kd.R_lower (Kd.R_new' ho0 (Kd.R_lt (by (with_reducible repeat (first | apply ra | apply rn | apply rd1)); exact HO_4.out))) (below_size (by repeat first | (with_reducible first | exact HB.out | apply ba | apply bn | apply bd) | exact HB.out))); have n2_ := Aside0.mk (below_step (by repeat first | (with_reducible first | exact HB.out | apply ba | apply bn | apply bd) | exact HB.out) hb); clear HO_4; clear HB; have HO_4 := n0_; have HO290 := n1_; have HB := n2_; clear n0_ n1_ n2_; (try clear hb); (try clear hb2); (try clear hk); (try clear hi); (try clear ho0)))
               go_ret
               exact ⟨by first | rfl | (simp [errW_none, errW_some] <;> rfl) | (simp [*, errW_none, errW_some] <;> rfl), by repeat (first | (with_reducible first | exact HB.out | apply ba | apply bn | apply bd) | exact HB.out)⟩
         · replace c17 := Bool.eq_false_iff.mpr c17
           subst c17
           have H1 : (some false) = some r := by rw [if_neg (show ¬ (false = true) by decide)] at H; exact H
           clear H
           have H := H1
           clear H1
           obtain rfl := Option.some.inj H
           obtain ⟨Ao36, co36, eo36⟩ := Kd.R_slice HO_4.out
           subst eo36
           go_wp2_with (first | ((with_reducible refine gce (f := 11) rfl ?_); refine goesL_ (some 42) rfl rfl Tryd.func11 (by kernel_rfl) rfl #[.string x7_1] rfl (by (try simp only [lma, lmc, lmn]); first | done | rfl | (simp only [lld, llt]; rfl)) ?_; (with_reducible refine (lexer_Lex.calls k1 x7_1 t286 t287 t288 _ ?side1 A16.out).mono ?_); (case side1 => exact Glob.mono hG (by repeat first | (with_reducible first | exact HB.out | apply ba | apply bn | apply bd) | exact HB.out)); rintro e w37 ⟨v289, rfl, ho0, hb⟩; refine ⟨_, rfl, ?_⟩; have n0_ := Aside0.mk (Kd.R_elder' (by (with_reducible repeat (first | apply ra | apply rn | apply rd1)); exact HO_4.out) (Kd.R_base ho0) hb); have n1_ := Aside0.mk (Kd.R_lower (Kd.R_new' ho0 (Kd.R_lt (by (with_reducible repeat (first | apply ra | apply rn | apply rd1)); exact HO_4.out))) (below_size (by repeat first | (with_reducible first | exact HB.out | apply ba | apply bn | apply bd) | exact HB.out))); have n2_ := Aside0.mk (below_step (by repeat first | (with_reducible first | exact HB.out | apply ba | apply bn | apply bd) | exact HB.out) hb); clear HO_4; clear HB; have HO_4 := n0_; have HO290 := n1_; have HB := n2_; clear n0_ n1_ n2_; (try clear hb); (try clear hb2); (try clear hk); (try clear hi); (try clear ho0)))
           go_ret
           exact ⟨by first | rfl | (simp [errW_none, errW_some] <;> rfl) | (simp [*, errW_none, errW_some] <;> rfl), by repeat (first | (with_reducible first | exact HB.out | apply ba | apply bn | apply bd) | exact HB.out)⟩
   · rw [if_neg c6] at H
     have c6b0 : (t280 == 0) = false := beq_eq_false_iff_ne.mpr c6
     have c6b1 : (t280 != 0) = true := bne_iff_ne.mpr c6
     obtain rfl := Option.some.inj H
     go_enter Tryd.func7, Tryd.ntmps7
     go_wp2_with (first | ((with_reducible refine gce (f := 10) rfl ?_); refine goesL_ (some 12) rfl rfl Tryd.func10 (by kernel_rfl) rfl #[] rfl (by (try simp only [lma, lmc, lmn]); first | done | rfl | (simp only [lld, llt]; rfl)) ?_; (with_reducible refine (queuelablaw01_head.calls k  t278 _ ?side1 A2.out).mono ?_); (case side1 => exact Glob.mono hG (by repeat first | (with_reducible first | exact HB.out | apply ba | apply bn | apply bd) | exact HB.out)); rintro e w38 ⟨rfl, hb⟩; refine ⟨_, rfl, ?_⟩; have n0_ := Aside0.mk (below_step (by repeat first | (with_reducible first | exact HB.out | apply ba | apply bn | apply bd) | exact HB.out) hb); clear HB; have HB := n0_; clear n0_; (try clear hb); (try clear hb2); (try clear hk); (try clear hi)) | ((with_reducible refine gce (f := 11) rfl ?_); refine goesL_ (some 19) rfl rfl Tryd.func11 (by kernel_rfl) rfl #[.string a0] rfl (by (try simp only [lma, lmc, lmn]); first | done | rfl | (simp only [lld, llt]; rfl)) ?_; (with_reducible refine (lexer_Lex.calls k a0 t279 t280 t281 _ ?side1 A5.out).mono ?_); (case side1 => exact Glob.mono hG (by repeat first | (with_reducible first | exact HB.out | apply ba | apply bn | apply bd) | exact HB.out)); rintro e w39 ⟨v282, rfl, ho0, hb⟩; refine ⟨_, rfl, ?_⟩; have n0_ := Aside0.mk (Kd.R_lower ho0 (below_size (by repeat first | (with_reducible first | exact HB.out | apply ba | apply bn | apply bd) | exact HB.out))); have n1_ := Aside0.mk (below_step (by repeat first | (with_reducible first | exact HB.out | apply ba | apply bn | apply bd) | exact HB.out) hb); clear HB; have HO283 := n0_; have HB := n1_; clear n0_ n1_; (try clear hb); (try clear hb2); (try clear hk); (try clear hi); (try clear ho0)))
     go_ret
     exact ⟨by first | rfl | (simp [errW_none, errW_some] <;> rfl) | (simp [*, errW_none, errW_some] <;> rfl), by repeat (first | (with_reducible first | exact HB.out | apply ba | apply bn | apply bd) | exact HB.out)⟩

/-- THE ONE PURE STATEMENT of queuelablaw01_LexerWriting: yours. -/
def queuelablaw01_LexerWriting.Pure : Prop := ∀ (a0 : ByteArray), a0.size ≤ 140737488351232 → ∃ k, queuelablaw01_LexerWriting.f k a0 = some true
theorem queuelablaw01_LexerWriting.walk (P : queuelablaw01_LexerWriting.Pure) (a0 : ByteArray) (w : World) (hG : Glob w) (w0 : a0.size ≤ 140737488351232) :
 Calls Tryd.prog 7 #[.string a0] w fun e w' => e = .returned (.bool true) ∧ Below w.heap.size w w' := by
 obtain ⟨k, h⟩ := P a0 w0
 refine (queuelablaw01_LexerWriting.calls k a0 true w hG h).mono ?_
 rintro e w' ⟨rfl, hd⟩
 exact ⟨rfl, hd⟩

/-! ### queuelablaw01_LexerErrors: function 8 -/
mutual
def queuelablaw01_LexerErrors.j0 : Nat → ByteArray → ByteArray → Bool → Bool → Option (Bool)
 | 0, _, _, _, _ => none
 | k + 1, x0, x1, x5, x22 => if x22 = true then (some x5) else ((lexer_Lex.f k x0).bind fun bt294 => (if bt294.2.1 = 0 then (if x5 = true then (some (bt294.2.2 == 0)) else (some false)) else (if bt294.2.2 < 0 then (queuelablaw01_LexerErrors.j1 k x0 x1 x5 bt294.2.1 bt294.2.2 true) else (queuelablaw01_LexerErrors.j1 k x0 x1 x5 bt294.2.1 bt294.2.2 (decide (bt294.2.2 ≥ (x0.size : Int)))))))
def queuelablaw01_LexerErrors.j1 : Nat → ByteArray → ByteArray → Bool → Int → Int → Bool → Option (Bool)
 | 0, _, _, _, _, _, _ => none
 | k + 1, x0, x1, x5, x7, x8, x44 => if x44 = true then (some false) else (if 0 ≤ x8 then (if x8 ≤ (x0.size : Int) then ((lexer_Lex.f k (x0.extract 0 (x8 : Int).toNat)).bind fun bt299 => ((queuelabref01_End.f k x0 x8).bind fun t304 => (if 0 ≤ (mx (wrap64 (x8 + 1)) t304) then (if (mx (wrap64 (x8 + 1)) t304) ≤ (x0.size : Int) then (if (x0.extract 0 ((mx (wrap64 (x8 + 1)) t304) : Int).toNat).size + 1 ≤ 9223372036854775807 then (if ((x0.extract 0 ((mx (wrap64 (x8 + 1)) t304) : Int).toNat) ++ (⟨#[32]⟩ : ByteArray)).size + x1.size ≤ 9223372036854775807 then (if bt299.2.1 = 0 then (if x7 = 2 then (queuelablaw01_LexerErrors.j2 k x5 x7 x8 (((x0.extract 0 ((mx (wrap64 (x8 + 1)) t304) : Int).toNat) ++ (⟨#[32]⟩ : ByteArray)) ++ x1) ((bt299.1.length : Int) != 3000)) else (queuelablaw01_LexerErrors.j2 k x5 x7 x8 (((x0.extract 0 ((mx (wrap64 (x8 + 1)) t304) : Int).toNat) ++ (⟨#[32]⟩ : ByteArray)) ++ x1) false)) else (queuelablaw01_LexerErrors.j2 k x5 x7 x8 (((x0.extract 0 ((mx (wrap64 (x8 + 1)) t304) : Int).toNat) ++ (⟨#[32]⟩ : ByteArray)) ++ x1) true)) else (none)) else (none)) else (none)) else (none)))) else (none)) else (none))
def queuelablaw01_LexerErrors.j2 : Nat → Bool → Int → Int → ByteArray → Bool → Option (Bool)
 | 0, _, _, _, _, _ => none
 | k + 1, x5, x7, x8, x13, x75 => if x75 = true then (some false) else (if x5 = true then (if (x13.size : Int) > 10000 then (some true) else ((queuelablaw01_fails.f k x13 x7 x8).bind fun t305 => (some t305))) else (some false))
end
def queuelablaw01_LexerErrors.f (k : Nat) (a0 : ByteArray) (a1 : ByteArray) : Option (Bool) := (queuelablaw01_head.f k).bind fun t293 => (if (a0.size : Int) > 10000 then (queuelablaw01_LexerErrors.j0 k a0 a1 t293 true) else (queuelablaw01_LexerErrors.j0 k a0 a1 t293 (decide ((a1.size : Int) > 10000))))
theorem queuelablaw01_LexerErrors.mono_l : ∀ k, (∀ y0 y1 y2 y3, LeO (queuelablaw01_LexerErrors.j0 k y0 y1 y2 y3) (queuelablaw01_LexerErrors.j0 (k + 1) y0 y1 y2 y3)) ∧ (∀ y0 y1 y2 y3 y4 y5, LeO (queuelablaw01_LexerErrors.j1 k y0 y1 y2 y3 y4 y5) (queuelablaw01_LexerErrors.j1 (k + 1) y0 y1 y2 y3 y4 y5)) ∧ (∀ y0 y1 y2 y3 y4, LeO (queuelablaw01_LexerErrors.j2 k y0 y1 y2 y3 y4) (queuelablaw01_LexerErrors.j2 (k + 1) y0 y1 y2 y3 y4))
 | 0 => ⟨fun _ _ _ _ r h => by simp [queuelablaw01_LexerErrors.j0] at h, fun _ _ _ _ _ _ r h => by simp [queuelablaw01_LexerErrors.j1] at h, fun _ _ _ _ _ r h => by simp [queuelablaw01_LexerErrors.j2] at h⟩
 | k + 1 => by
  obtain ⟨ih0, ih1, ih2⟩ := queuelablaw01_LexerErrors.mono_l k
  refine ⟨?_, ?_, ?_⟩
  · intro y0 y1 y2 y3
    unfold queuelablaw01_LexerErrors.j0
    repeat' first
    | (with_reducible exact ih0 _ _ _ _)
    | (with_reducible exact ih1 _ _ _ _ _ _)
    | (with_reducible exact ih2 _ _ _ _ _)
    | (with_reducible exact lexer_Lex.mono _ _)
    | (with_reducible exact queuelablaw01_fails.mono _ _ _ _)
    | (with_reducible exact queuelablaw01_head.mono _)
    | (with_reducible exact queuelabref01_End.mono _ _ _)
    | (with_reducible exact LeO.refl _)
    | (with_reducible exact LeO.none _)
    | (with_reducible refine LeO.ite ?_ ?_)
    | (with_reducible refine LeO.bind ?_ (fun _ => ?_))
    | exact ih0 _ _ _ _
    | exact ih1 _ _ _ _ _ _
    | exact ih2 _ _ _ _ _
    | exact lexer_Lex.mono _ _
    | exact queuelablaw01_fails.mono _ _ _ _
    | exact queuelablaw01_head.mono _
    | exact queuelabref01_End.mono _ _ _
    | exact LeO.none _
    | refine LeO.ite ?_ ?_
    | refine LeO.bind ?_ (fun _ => ?_)
  · intro y0 y1 y2 y3 y4 y5
    unfold queuelablaw01_LexerErrors.j1
    repeat' first
    | (with_reducible exact ih0 _ _ _ _)
    | (with_reducible exact ih1 _ _ _ _ _ _)
    | (with_reducible exact ih2 _ _ _ _ _)
    | (with_reducible exact lexer_Lex.mono _ _)
    | (with_reducible exact queuelablaw01_fails.mono _ _ _ _)
    | (with_reducible exact queuelablaw01_head.mono _)
    | (with_reducible exact queuelabref01_End.mono _ _ _)
    | (with_reducible exact LeO.refl _)
    | (with_reducible exact LeO.none _)
    | (with_reducible refine LeO.ite ?_ ?_)
    | (with_reducible refine LeO.bind ?_ (fun _ => ?_))
    | exact ih0 _ _ _ _
    | exact ih1 _ _ _ _ _ _
    | exact ih2 _ _ _ _ _
    | exact lexer_Lex.mono _ _
    | exact queuelablaw01_fails.mono _ _ _ _
    | exact queuelablaw01_head.mono _
    | exact queuelabref01_End.mono _ _ _
    | exact LeO.none _
    | refine LeO.ite ?_ ?_
    | refine LeO.bind ?_ (fun _ => ?_)
  · intro y0 y1 y2 y3 y4
    unfold queuelablaw01_LexerErrors.j2
    repeat' first
    | (with_reducible exact ih0 _ _ _ _)
    | (with_reducible exact ih1 _ _ _ _ _ _)
    | (with_reducible exact ih2 _ _ _ _ _)
    | (with_reducible exact lexer_Lex.mono _ _)
    | (with_reducible exact queuelablaw01_fails.mono _ _ _ _)
    | (with_reducible exact queuelablaw01_head.mono _)
    | (with_reducible exact queuelabref01_End.mono _ _ _)
    | (with_reducible exact LeO.refl _)
    | (with_reducible exact LeO.none _)
    | (with_reducible refine LeO.ite ?_ ?_)
    | (with_reducible refine LeO.bind ?_ (fun _ => ?_))
    | exact ih0 _ _ _ _
    | exact ih1 _ _ _ _ _ _
    | exact ih2 _ _ _ _ _
    | exact lexer_Lex.mono _ _
    | exact queuelablaw01_fails.mono _ _ _ _
    | exact queuelablaw01_head.mono _
    | exact queuelabref01_End.mono _ _ _
    | exact LeO.none _
    | refine LeO.ite ?_ ?_
    | refine LeO.bind ?_ (fun _ => ?_)
theorem queuelablaw01_LexerErrors.mono : ∀ a0 a1 k, LeO (queuelablaw01_LexerErrors.f k a0 a1) (queuelablaw01_LexerErrors.f (k + 1) a0 a1) := by
 intro a0 a1 k
 obtain ⟨ih0, ih1, ih2⟩ := queuelablaw01_LexerErrors.mono_l k
 unfold queuelablaw01_LexerErrors.f
 repeat' first
  | (with_reducible exact ih0 _ _ _ _)
  | (with_reducible exact ih1 _ _ _ _ _ _)
  | (with_reducible exact ih2 _ _ _ _ _)
  | (with_reducible exact lexer_Lex.mono _ _)
  | (with_reducible exact queuelablaw01_fails.mono _ _ _ _)
  | (with_reducible exact queuelablaw01_head.mono _)
  | (with_reducible exact queuelabref01_End.mono _ _ _)
  | (with_reducible exact LeO.refl _)
  | (with_reducible exact LeO.none _)
  | (with_reducible refine LeO.ite ?_ ?_)
  | (with_reducible refine LeO.bind ?_ (fun _ => ?_))
  | exact ih0 _ _ _ _
  | exact ih1 _ _ _ _ _ _
  | exact ih2 _ _ _ _ _
  | exact lexer_Lex.mono _ _
  | exact queuelablaw01_fails.mono _ _ _ _
  | exact queuelablaw01_head.mono _
  | exact queuelabref01_End.mono _ _ _
  | exact LeO.none _
  | refine LeO.ite ?_ ?_
  | refine LeO.bind ?_ (fun _ => ?_)
set_option maxHeartbeats 8000000 in
set_option maxRecDepth 100000 in
theorem queuelablaw01_LexerErrors.calls (k : Nat) (a0 : ByteArray) (a1 : ByteArray) (r : Bool) (w : World) (hG : Glob w) (h : queuelablaw01_LexerErrors.f k a0 a1 = some r) :
 Calls Tryd.prog 8 #[.string a0, .string a1] w fun e w' => e = .returned (.bool r) ∧ Below w.heap.size w w' := by
 have HB := Aside0.mk (Below.refl w.heap.size w)
 have H : ((queuelablaw01_head.f k).bind fun t293 => (if (a0.size : Int) > 10000 then (queuelablaw01_LexerErrors.j0 k a0 a1 t293 true) else (queuelablaw01_LexerErrors.j0 k a0 a1 t293 (decide ((a1.size : Int) > 10000))))) = some r := h
 clear h
 replace H := obs.mp H
 obtain ⟨t293, A30, H⟩ := H
 replace H : (if (a0.size : Int) > 10000 then (queuelablaw01_LexerErrors.j0 k a0 a1 t293 true) else (queuelablaw01_LexerErrors.j0 k a0 a1 t293 (decide ((a1.size : Int) > 10000)))) = some r := H
 have A3 := Aside0.mk A30
 clear A30
 have HC4 := Aside0.mk H
 clear H
 go_enter Tryd.func8, Tryd.ntmps8
 go_upto_region 2 with (first | ((with_reducible refine gce (f := 10) rfl ?_); refine goesL_ (some 14) rfl rfl Tryd.func10 (by kernel_rfl) rfl #[] rfl (by (try simp only [lma, lmc, lmn]); first | done | rfl | (simp only [lld, llt]; rfl)) ?_; (with_reducible refine (queuelablaw01_head.calls k  t293 _ ?side1 A3.out).mono ?_); (case side1 => exact Glob.mono hG (by repeat first | (with_reducible first | exact HB.out | apply ba | apply bn | apply bd) | exact HB.out)); rintro e w5 ⟨rfl, hb⟩; refine ⟨_, rfl, ?_⟩; have n0_ := Aside0.mk (below_step (by repeat first | (with_reducible first | exact HB.out | apply ba | apply bn | apply bd) | exact HB.out) hb); clear HB; have HB := n0_; clear n0_; (try clear hb); (try clear hb2); (try clear hk); (try clear hi)))
 (try simp only [Act.put, List.setIfInBounds_toArray, List.set_cons_zero, List.set_cons_succ])
 go_cut [22] (fun v22 wc => ∃ (kq : Nat) (x22_3 : Bool), v22 = .bool x22_3 ∧ Aside0 (queuelablaw01_LexerErrors.j0 kq a0 a1 t293 x22_3 = some r) ∧ Aside0 (kq ≤ k) ∧ Aside0 (Below w.heap.size w wc))
 case first =>
  have H := HC4.out
  clear HC4
  by_cases c6 : (a0.size : Int) > 10000
  · rw [if_pos c6] at H
    have c6b0 : decide (10000 < (a0.size : Int)) = true := decide_eq_true c6
    have c6b1 : decide (10000 < a0.size) = true := decide_eq_true (by omega)
    clear c6
    (first | rw [c6b0] | (simp only [i64_w, i32_w]; rw [c6b0]) | skip)
    have H' := Aside0.mk H
    clear H
    go_wp2
    go_meet
    case rel => exact ⟨_, (true), (by first | rfl | (simp; done) | (simp [*]; done)), H', ⟨by first | omega | exact Nat.le_refl _⟩, ⟨by repeat (first | (with_reducible first | exact HB.out | apply ba | apply bn | apply bd) | exact HB.out)⟩⟩
  · rw [if_neg c6] at H
    have c6b0 : decide (10000 < (a0.size : Int)) = false := decide_eq_false c6
    have c6b1 : decide (10000 < a0.size) = false := decide_eq_false (by omega)
    clear c6
    (first | rw [c6b0] | (simp only [i64_w, i32_w]; rw [c6b0]) | skip)
    have H' := Aside0.mk H
    clear H
    go_wp2
    go_meet
    case rel => exact ⟨_, (decide ((a1.size : Int) > 10000)), (by first | rfl | (simp; done) | (simp [*]; done)), H', ⟨by first | omega | exact Nat.le_refl _⟩, ⟨by repeat (first | (with_reducible first | exact HB.out | apply ba | apply bn | apply bd) | exact HB.out)⟩⟩
 case rest =>
  clear HC4
  try clear c1
  try clear p2
  try clear c6
  try clear c6b0
  try clear c6b1
  obtain ⟨kq, x22_3, rfl, HA, HJ3, HB⟩ := hcut
  cases kq with
  | zero => exact absurd HA.out (by simp [queuelablaw01_LexerErrors.j0])
  | succ kj3 =>
   have H := HA.out
   clear HA
   simp only [queuelablaw01_LexerErrors.j0] at H
   by_cases c7 : x22_3 = true
   · subst c7
     have H1 : (some t293) = some r := by rw [if_pos rfl] at H; exact H
     clear H
     have H := H1
     clear H1
     obtain rfl := Option.some.inj H
     go_wp2
     go_ret
     exact ⟨by first | rfl | (simp [errW_none, errW_some] <;> rfl) | (simp [*, errW_none, errW_some] <;> rfl), by repeat (first | (with_reducible first | exact HB.out | apply ba | apply bn | apply bd) | exact HB.out)⟩
   · replace c7 := Bool.eq_false_iff.mpr c7
     subst c7
     have H1 : ((lexer_Lex.f kj3 a0).bind fun bt294 => (if bt294.2.1 = 0 then (if t293 = true then (some (bt294.2.2 == 0)) else (some false)) else (if bt294.2.2 < 0 then (queuelablaw01_LexerErrors.j1 kj3 a0 a1 t293 bt294.2.1 bt294.2.2 true) else (queuelablaw01_LexerErrors.j1 kj3 a0 a1 t293 bt294.2.1 bt294.2.2 (decide (bt294.2.2 ≥ (a0.size : Int))))))) = some r := by rw [if_neg (show ¬ (false = true) by decide)] at H; exact H
     clear H
     have H := H1
     clear H1
     replace H := obs.mp H
     obtain ⟨⟨t294, t295, t296⟩, A80, H⟩ := H
     replace H : (if t295 = 0 then (if t293 = true then (some (t296 == 0)) else (some false)) else (if t296 < 0 then (queuelablaw01_LexerErrors.j1 kj3 a0 a1 t293 t295 t296 true) else (queuelablaw01_LexerErrors.j1 kj3 a0 a1 t293 t295 t296 (decide (t296 ≥ (a0.size : Int)))))) = some r := H
     have A8 := Aside0.mk A80
     clear A80
     by_cases c9 : t295 = 0
     · rw [if_pos c9] at H
       have c9b0 : (t295 == 0) = true := beq_iff_eq.mpr c9
       have c9b1 : (t295 != 0) = false := bne_eq_false_iff_eq.mpr c9
       clear c9
       by_cases c10 : t293 = true
       · subst c10
         have H1 : (some (t296 == 0)) = some r := by rw [if_pos rfl] at H; exact H
         clear H
         have H := H1
         clear H1
         obtain rfl := Option.some.inj H
         go_wp2_with (first | ((with_reducible refine gce (f := 11) rfl ?_); refine goesL_ (some 26) rfl rfl Tryd.func11 (by kernel_rfl) rfl #[.string a0] rfl (by (try simp only [lma, lmc, lmn]); first | done | rfl | (simp only [lld, llt]; rfl)) ?_; (with_reducible refine (lexer_Lex.calls kj3 a0 t294 t295 t296 _ ?side1 A8.out).mono ?_); (case side1 => exact Glob.mono hG (by repeat first | (with_reducible first | exact HB.out | apply ba | apply bn | apply bd) | exact HB.out)); rintro e w11 ⟨v297, rfl, ho0, hb⟩; refine ⟨_, rfl, ?_⟩; have n0_ := Aside0.mk (Kd.R_lower ho0 (below_size (by repeat first | (with_reducible first | exact HB.out | apply ba | apply bn | apply bd) | exact HB.out))); have n1_ := Aside0.mk (below_step (by repeat first | (with_reducible first | exact HB.out | apply ba | apply bn | apply bd) | exact HB.out) hb); clear HB; have HO298 := n0_; have HB := n1_; clear n0_ n1_; (try clear hb); (try clear hb2); (try clear hk); (try clear hi); (try clear ho0)))
         go_ret
         exact ⟨by first | rfl | (simp [errW_none, errW_some] <;> rfl) | (simp [*, errW_none, errW_some] <;> rfl), by repeat (first | (with_reducible first | exact HB.out | apply ba | apply bn | apply bd) | exact HB.out)⟩
       · replace c10 := Bool.eq_false_iff.mpr c10
         subst c10
         have H1 : (some false) = some r := by rw [if_neg (show ¬ (false = true) by decide)] at H; exact H
         clear H
         have H := H1
         clear H1
         obtain rfl := Option.some.inj H
         go_wp2_with (first | ((with_reducible refine gce (f := 11) rfl ?_); refine goesL_ (some 26) rfl rfl Tryd.func11 (by kernel_rfl) rfl #[.string a0] rfl (by (try simp only [lma, lmc, lmn]); first | done | rfl | (simp only [lld, llt]; rfl)) ?_; (with_reducible refine (lexer_Lex.calls kj3 a0 t294 t295 t296 _ ?side1 A8.out).mono ?_); (case side1 => exact Glob.mono hG (by repeat first | (with_reducible first | exact HB.out | apply ba | apply bn | apply bd) | exact HB.out)); rintro e w12 ⟨v297, rfl, ho0, hb⟩; refine ⟨_, rfl, ?_⟩; have n0_ := Aside0.mk (Kd.R_lower ho0 (below_size (by repeat first | (with_reducible first | exact HB.out | apply ba | apply bn | apply bd) | exact HB.out))); have n1_ := Aside0.mk (below_step (by repeat first | (with_reducible first | exact HB.out | apply ba | apply bn | apply bd) | exact HB.out) hb); clear HB; have HO298 := n0_; have HB := n1_; clear n0_ n1_; (try clear hb); (try clear hb2); (try clear hk); (try clear hi); (try clear ho0)))
         go_ret
         exact ⟨by first | rfl | (simp [errW_none, errW_some] <;> rfl) | (simp [*, errW_none, errW_some] <;> rfl), by repeat (first | (with_reducible first | exact HB.out | apply ba | apply bn | apply bd) | exact HB.out)⟩
     · rw [if_neg c9] at H
       have c9b0 : (t295 == 0) = false := beq_eq_false_iff_ne.mpr c9
       have c9b1 : (t295 != 0) = true := bne_iff_ne.mpr c9
       have HC13 := Aside0.mk H
       clear H
       go_upto_region 7 with (first | ((with_reducible refine gce (f := 11) rfl ?_); refine goesL_ (some 26) rfl rfl Tryd.func11 (by kernel_rfl) rfl #[.string a0] rfl (by (try simp only [lma, lmc, lmn]); first | done | rfl | (simp only [lld, llt]; rfl)) ?_; (with_reducible refine (lexer_Lex.calls kj3 a0 t294 t295 t296 _ ?side1 A8.out).mono ?_); (case side1 => exact Glob.mono hG (by repeat first | (with_reducible first | exact HB.out | apply ba | apply bn | apply bd) | exact HB.out)); rintro e w14 ⟨v297, rfl, ho0, hb⟩; refine ⟨_, rfl, ?_⟩; have n0_ := Aside0.mk (Kd.R_lower ho0 (below_size (by repeat first | (with_reducible first | exact HB.out | apply ba | apply bn | apply bd) | exact HB.out))); have n1_ := Aside0.mk (below_step (by repeat first | (with_reducible first | exact HB.out | apply ba | apply bn | apply bd) | exact HB.out) hb); clear HB; have HO298 := n0_; have HB := n1_; clear n0_ n1_; (try clear hb); (try clear hb2); (try clear hk); (try clear hi); (try clear ho0)))
       (try simp only [Act.put, List.setIfInBounds_toArray, List.set_cons_zero, List.set_cons_succ])
       go_cut [44] (fun v44 wc => ∃ (kq : Nat) (x44_12 : Bool), v44 = .bool x44_12 ∧ Aside0 (queuelablaw01_LexerErrors.j1 kq a0 a1 t293 t295 t296 x44_12 = some r) ∧ Aside0 (kq ≤ kj3) ∧ Aside0 (Below w.heap.size w wc))
       case first =>
        have H := HC13.out
        clear HC13
        by_cases c15 : t296 < 0
        · rw [if_pos c15] at H
          have c15b0 : decide (t296 < 0) = true := decide_eq_true c15
          clear c15
          (first | rw [c15b0] | (simp only [i64_w, i32_w]; rw [c15b0]) | skip)
          have H' := Aside0.mk H
          clear H
          go_wp2
          go_meet
          case rel => exact ⟨_, (true), (by first | rfl | (simp; done) | (simp [*]; done)), H', ⟨by have := HJ3.out; first | omega | exact Nat.le_refl _⟩, ⟨by repeat (first | (with_reducible first | exact HB.out | apply ba | apply bn | apply bd) | exact HB.out)⟩⟩
        · rw [if_neg c15] at H
          have c15b0 : decide (t296 < 0) = false := decide_eq_false c15
          clear c15
          (first | rw [c15b0] | (simp only [i64_w, i32_w]; rw [c15b0]) | skip)
          have H' := Aside0.mk H
          clear H
          go_wp2
          go_meet
          case rel => exact ⟨_, (decide (t296 ≥ (a0.size : Int))), (by first | rfl | (simp; done) | (simp [*]; done)), H', ⟨by have := HJ3.out; first | omega | exact Nat.le_refl _⟩, ⟨by repeat (first | (with_reducible first | exact HB.out | apply ba | apply bn | apply bd) | exact HB.out)⟩⟩
       case rest =>
        clear HC13
        try clear c1
        try clear p2
        try clear c6
        try clear c6b0
        try clear c6b1
        try clear c7
        try clear c8
        try clear c9
        try clear c9b0
        try clear c9b1
        try clear c10
        try clear c11
        try clear c15
        try clear c15b0
        try clear p2
        obtain ⟨kq, x44_12, rfl, HA, HJ12, HB⟩ := hcut
        cases kq with
        | zero => exact absurd HA.out (by simp [queuelablaw01_LexerErrors.j1])
        | succ kj12 =>
         have H := HA.out
         clear HA
         simp only [queuelablaw01_LexerErrors.j1] at H
         by_cases c16 : x44_12 = true
         · subst c16
           have H1 : (some false) = some r := by rw [if_pos rfl] at H; exact H
           clear H
           have H := H1
           clear H1
           obtain rfl := Option.some.inj H
           go_wp2
           go_ret
           exact ⟨by first | rfl | (simp [errW_none, errW_some] <;> rfl) | (simp [*, errW_none, errW_some] <;> rfl), by repeat (first | (with_reducible first | exact HB.out | apply ba | apply bn | apply bd) | exact HB.out)⟩
         · replace c16 := Bool.eq_false_iff.mpr c16
           subst c16
           have H1 : (if 0 ≤ t296 then (if t296 ≤ (a0.size : Int) then ((lexer_Lex.f kj12 (a0.extract 0 (t296 : Int).toNat)).bind fun bt299 => ((queuelabref01_End.f kj12 a0 t296).bind fun t304 => (if 0 ≤ (mx (wrap64 (t296 + 1)) t304) then (if (mx (wrap64 (t296 + 1)) t304) ≤ (a0.size : Int) then (if (a0.extract 0 ((mx (wrap64 (t296 + 1)) t304) : Int).toNat).size + 1 ≤ 9223372036854775807 then (if ((a0.extract 0 ((mx (wrap64 (t296 + 1)) t304) : Int).toNat) ++ (⟨#[32]⟩ : ByteArray)).size + a1.size ≤ 9223372036854775807 then (if bt299.2.1 = 0 then (if t295 = 2 then (queuelablaw01_LexerErrors.j2 kj12 t293 t295 t296 (((a0.extract 0 ((mx (wrap64 (t296 + 1)) t304) : Int).toNat) ++ (⟨#[32]⟩ : ByteArray)) ++ a1) ((bt299.1.length : Int) != 3000)) else (queuelablaw01_LexerErrors.j2 kj12 t293 t295 t296 (((a0.extract 0 ((mx (wrap64 (t296 + 1)) t304) : Int).toNat) ++ (⟨#[32]⟩ : ByteArray)) ++ a1) false)) else (queuelablaw01_LexerErrors.j2 kj12 t293 t295 t296 (((a0.extract 0 ((mx (wrap64 (t296 + 1)) t304) : Int).toNat) ++ (⟨#[32]⟩ : ByteArray)) ++ a1) true)) else (none)) else (none)) else (none)) else (none)))) else (none)) else (none)) = some r := by rw [if_neg (show ¬ (false = true) by decide)] at H; exact H
           clear H
           have H := H1
           clear H1
           by_cases c17 : 0 ≤ t296
           · rw [if_pos c17] at H
             have c17b0 := eq_true c17
             have c17b1 : decide (0 ≤ t296) = true := decide_eq_true c17
             clear c17
             by_cases c18 : t296 ≤ (a0.size : Int)
             · rw [if_pos c18] at H
               have c18b0 := eq_true c18
               have c18b1 : decide (t296 ≤ (a0.size : Int)) = true := decide_eq_true c18
               clear c18
               replace H := obs.mp H
               obtain ⟨⟨t299, t300, t301⟩, A190, H⟩ := H
               replace H : ((queuelabref01_End.f kj12 a0 t296).bind fun t304 => (if 0 ≤ (mx (wrap64 (t296 + 1)) t304) then (if (mx (wrap64 (t296 + 1)) t304) ≤ (a0.size : Int) then (if (a0.extract 0 ((mx (wrap64 (t296 + 1)) t304) : Int).toNat).size + 1 ≤ 9223372036854775807 then (if ((a0.extract 0 ((mx (wrap64 (t296 + 1)) t304) : Int).toNat) ++ (⟨#[32]⟩ : ByteArray)).size + a1.size ≤ 9223372036854775807 then (if t300 = 0 then (if t295 = 2 then (queuelablaw01_LexerErrors.j2 kj12 t293 t295 t296 (((a0.extract 0 ((mx (wrap64 (t296 + 1)) t304) : Int).toNat) ++ (⟨#[32]⟩ : ByteArray)) ++ a1) ((t299.length : Int) != 3000)) else (queuelablaw01_LexerErrors.j2 kj12 t293 t295 t296 (((a0.extract 0 ((mx (wrap64 (t296 + 1)) t304) : Int).toNat) ++ (⟨#[32]⟩ : ByteArray)) ++ a1) false)) else (queuelablaw01_LexerErrors.j2 kj12 t293 t295 t296 (((a0.extract 0 ((mx (wrap64 (t296 + 1)) t304) : Int).toNat) ++ (⟨#[32]⟩ : ByteArray)) ++ a1) true)) else (none)) else (none)) else (none)) else (none))) = some r := H
               have A19 := Aside0.mk A190
               clear A190
               replace H := obs.mp H
               obtain ⟨t304, A200, H⟩ := H
               replace H : (if 0 ≤ (mx (wrap64 (t296 + 1)) t304) then (if (mx (wrap64 (t296 + 1)) t304) ≤ (a0.size : Int) then (if (a0.extract 0 ((mx (wrap64 (t296 + 1)) t304) : Int).toNat).size + 1 ≤ 9223372036854775807 then (if ((a0.extract 0 ((mx (wrap64 (t296 + 1)) t304) : Int).toNat) ++ (⟨#[32]⟩ : ByteArray)).size + a1.size ≤ 9223372036854775807 then (if t300 = 0 then (if t295 = 2 then (queuelablaw01_LexerErrors.j2 kj12 t293 t295 t296 (((a0.extract 0 ((mx (wrap64 (t296 + 1)) t304) : Int).toNat) ++ (⟨#[32]⟩ : ByteArray)) ++ a1) ((t299.length : Int) != 3000)) else (queuelablaw01_LexerErrors.j2 kj12 t293 t295 t296 (((a0.extract 0 ((mx (wrap64 (t296 + 1)) t304) : Int).toNat) ++ (⟨#[32]⟩ : ByteArray)) ++ a1) false)) else (queuelablaw01_LexerErrors.j2 kj12 t293 t295 t296 (((a0.extract 0 ((mx (wrap64 (t296 + 1)) t304) : Int).toNat) ++ (⟨#[32]⟩ : ByteArray)) ++ a1) true)) else (none)) else (none)) else (none)) else (none)) = some r := H
               have A20 := Aside0.mk A200
               clear A200
               obtain ⟨ji21, hji21⟩ : ∃ j_ : Int, (mx (wrap64 (t296 + 1)) t304) = j_ := ⟨_, rfl⟩
               replace H : (if 0 ≤ (ji21) then (if (ji21) ≤ (a0.size : Int) then (if (a0.extract 0 ((ji21) : Int).toNat).size + 1 ≤ 9223372036854775807 then (if ((a0.extract 0 ((ji21) : Int).toNat) ++ (⟨#[32]⟩ : ByteArray)).size + a1.size ≤ 9223372036854775807 then (if t300 = 0 then (if t295 = 2 then (queuelablaw01_LexerErrors.j2 kj12 t293 t295 t296 (((a0.extract 0 ((ji21) : Int).toNat) ++ (⟨#[32]⟩ : ByteArray)) ++ a1) ((t299.length : Int) != 3000)) else (queuelablaw01_LexerErrors.j2 kj12 t293 t295 t296 (((a0.extract 0 ((ji21) : Int).toNat) ++ (⟨#[32]⟩ : ByteArray)) ++ a1) false)) else (queuelablaw01_LexerErrors.j2 kj12 t293 t295 t296 (((a0.extract 0 ((ji21) : Int).toNat) ++ (⟨#[32]⟩ : ByteArray)) ++ a1) true)) else (none)) else (none)) else (none)) else (none)) = some r := by first | (rw [hji21] at H; exact H) | (simp only [hji21] at H ⊢; exact H)
               (try rw [hji21] at A19)
               (try rw [hji21] at A20)
               have hji21_ : (if (wrap64 (t296 + 1)) < t304 then t304 else (wrap64 (t296 + 1))) = ji21 := hji21
               by_cases c22 : 0 ≤ (ji21)
               · rw [if_pos c22] at H
                 have c22b0 := eq_true c22
                 have c22b1 : decide (0 ≤ (ji21)) = true := decide_eq_true c22
                 clear c22
                 by_cases c23 : (ji21) ≤ (a0.size : Int)
                 · rw [if_pos c23] at H
                   have c23b0 := eq_true c23
                   have c23b1 : decide ((ji21) ≤ (a0.size : Int)) = true := decide_eq_true c23
                   clear c23
                   by_cases c24 : (a0.extract 0 ((ji21) : Int).toNat).size + 1 ≤ 9223372036854775807
                   · rw [if_pos c24] at H
                     have c24b0 := eq_true c24
                     have c24b1 : decide ((a0.extract 0 ((ji21) : Int).toNat).size + 1 ≤ 9223372036854775807) = true := decide_eq_true c24
                     try have c24b2 : (9223372036854775807 < (a0.extract 0 ((ji21) : Int).toNat).size + 1) = False := eq_false (Nat.not_lt.2 c24)
                     try have c24z : (9223372036854775807 < ji21.toNat + 1) = False := eq_false (by have h_ := c24; simp only [ByteArray.size_append, ByteArray.size_extract] at h_; have e0_ := of_eq_true (by assumption : (ji21 ≤ (a0.size : Int)) = True); omega)
                     by_cases c25 : ((a0.extract 0 ((ji21) : Int).toNat) ++ (⟨#[32]⟩ : ByteArray)).size + a1.size ≤ 9223372036854775807
                     · rw [if_pos c25] at H
                       have c25b0 := eq_true c25
                       have c25b1 : decide (((a0.extract 0 ((ji21) : Int).toNat) ++ (⟨#[32]⟩ : ByteArray)).size + a1.size ≤ 9223372036854775807) = true := decide_eq_true c25
                       try have c25b2 : (9223372036854775807 < ((a0.extract 0 ((ji21) : Int).toNat) ++ (⟨#[32]⟩ : ByteArray)).size + a1.size) = False := eq_false (Nat.not_lt.2 c25)
                       try have c25z : (9223372036854775807 < ji21.toNat + 1 + a1.size) = False := eq_false (by have h_ := c25; simp only [ByteArray.size_append, ByteArray.size_extract] at h_; have e0_ := of_eq_true (by assumption : (ji21 ≤ (a0.size : Int)) = True); omega)
                       have HC26 := Aside0.mk H
                       clear H
                       go_upto_region 12 with (first | ((with_reducible refine gce (f := 11) rfl ?_); refine goesL_ (some 49) rfl rfl Tryd.func11 (by kernel_rfl) rfl #[.string (a0.extract 0 (t296 : Int).toNat)] rfl (by (try simp only [lma, lmc, lmn]); first | done | rfl | (simp only [lld, llt]; rfl)) ?_; (with_reducible refine (lexer_Lex.calls kj12 (a0.extract 0 (t296 : Int).toNat) t299 t300 t301 _ ?side1 A19.out).mono ?_); (case side1 => exact Glob.mono hG (by repeat first | (with_reducible first | exact HB.out | apply ba | apply bn | apply bd) | exact HB.out)); rintro e w27 ⟨v302, rfl, ho0, hb⟩; refine ⟨_, rfl, ?_⟩; have n0_ := Aside0.mk (Kd.R_lower ho0 (below_size (by repeat first | (with_reducible first | exact HB.out | apply ba | apply bn | apply bd) | exact HB.out))); have n1_ := Aside0.mk (below_step (by repeat first | (with_reducible first | exact HB.out | apply ba | apply bn | apply bd) | exact HB.out) hb); clear HB; have HO303 := n0_; have HB := n1_; clear n0_ n1_; (try clear hb); (try clear hb2); (try clear hk); (try clear hi); (try clear ho0)) | ((with_reducible refine gce (f := 17) rfl ?_); refine goesL_ (some 57) rfl rfl Tryd.func17 (by kernel_rfl) rfl #[.string a0, .int .i64 t296] rfl (by (try simp only [lma, lmc, lmn]); first | done | rfl | (simp only [lld, llt]; rfl)) ?_; (with_reducible refine (queuelabref01_End.calls kj12 a0 t296 t304 _ A20.out).mono ?_); rintro e w28 ⟨rfl, hb⟩; refine ⟨_, rfl, ?_⟩; have n0_ := Aside0.mk (Kd.R_below (by (with_reducible repeat (first | apply ra | apply rn | apply rd1)); exact HO303.out) hb); have n1_ := Aside0.mk (below_step (by repeat first | (with_reducible first | exact HB.out | apply ba | apply bn | apply bd) | exact HB.out) hb); clear HO303; clear HB; have HO303 := n0_; have HB := n1_; clear n0_ n1_; (try clear hb); (try clear hb2); (try clear hk); (try clear hi)))
                       (try simp only [Act.put, List.setIfInBounds_toArray, List.set_cons_zero, List.set_cons_succ])
                       go_cut [75] (fun v75 wc => ∃ (kq : Nat) (x75_25 : Bool), v75 = .bool x75_25 ∧ Aside0 (queuelablaw01_LexerErrors.j2 kq t293 t295 t296 (((a0.extract 0 ((ji21) : Int).toNat) ++ (⟨#[32]⟩ : ByteArray)) ++ a1) x75_25 = some r) ∧ Aside0 (kq ≤ kj12) ∧ Aside0 (Below w.heap.size w wc))
                       case first =>
                        have H := HC26.out
                        clear HC26
                        by_cases c29 : t300 = 0
                        · rw [if_pos c29] at H
                          have c29b0 : (t300 == 0) = true := beq_iff_eq.mpr c29
                          have c29b1 : (t300 != 0) = false := bne_eq_false_iff_eq.mpr c29
                          clear c29
                          (first | rw [c29b0] | (simp only [i64_w, i32_w]; rw [c29b0]) | skip)
                          by_cases c30 : t295 = 2
                          · rw [if_pos c30] at H
                            have c30b0 : (t295 == 2) = true := beq_iff_eq.mpr c30
                            have c30b1 : (t295 != 2) = false := bne_eq_false_iff_eq.mpr c30
                            clear c30
                            have H' := Aside0.mk H
                            clear H
                            obtain ⟨Ao31, co31, eo31⟩ := Kd.R_slice HO303.out
                            subst eo31
                            go_wp2
                            go_meet
                            case rel => exact ⟨_, (((t299.length : Int) != 3000)), (by first | rfl | (simp; done) | (simp [*]; done)), H', ⟨by have := HJ3.out; have := HJ12.out; first | omega | exact Nat.le_refl _⟩, ⟨by repeat (first | (with_reducible first | exact HB.out | apply ba | apply bn | apply bd) | exact HB.out)⟩⟩
                          · rw [if_neg c30] at H
                            have c30b0 : (t295 == 2) = false := beq_eq_false_iff_ne.mpr c30
                            have c30b1 : (t295 != 2) = true := bne_iff_ne.mpr c30
                            have H' := Aside0.mk H
                            clear H
                            go_wp2
                            go_meet
                            case rel => exact ⟨_, (false), (by first | rfl | (simp; done) | (simp [*]; done)), H', ⟨by have := HJ3.out; have := HJ12.out; first | omega | exact Nat.le_refl _⟩, ⟨by repeat (first | (with_reducible first | exact HB.out | apply ba | apply bn | apply bd) | exact HB.out)⟩⟩
                        · rw [if_neg c29] at H
                          have c29b0 : (t300 == 0) = false := beq_eq_false_iff_ne.mpr c29
                          have c29b1 : (t300 != 0) = true := bne_iff_ne.mpr c29
                          (first | rw [c29b0] | (simp only [i64_w, i32_w]; rw [c29b0]) | skip)
                          have H' := Aside0.mk H
                          clear H
                          go_wp2
                          go_meet
                          case rel => exact ⟨_, (true), (by first | rfl | (simp; done) | (simp [*]; done)), H', ⟨by have := HJ3.out; have := HJ12.out; first | omega | exact Nat.le_refl _⟩, ⟨by repeat (first | (with_reducible first | exact HB.out | apply ba | apply bn | apply bd) | exact HB.out)⟩⟩
                       case rest =>
                        clear HC26
                        try clear c1
                        try clear c2
                        try clear p2
                        try clear c3
                        try clear c6
                        try clear c6b0
                        try clear c6b1
                        try clear p6
                        try clear c7
                        try clear c8
                        try clear c9
                        try clear c9b0
                        try clear c9b1
                        try clear c10
                        try clear c11
                        try clear c15
                        try clear c15b0
                        try clear c16
                        try clear c17
                        try clear c17b0
                        try clear c17b1
                        try clear c18
                        try clear c18b0
                        try clear c18b1
                        try clear c22
                        try clear c22b0
                        try clear c22b1
                        try clear c23
                        try clear c23b0
                        try clear c23b1
                        try clear c24
                        try clear c24b0
                        try clear c24b1
                        try clear c24b2
                        try clear c25
                        try clear c25b0
                        try clear c25b1
                        try clear c25b2
                        try clear c29
                        try clear c29b0
                        try clear c29b1
                        try clear c30
                        try clear c30b0
                        try clear c30b1
                        try clear p2
                        obtain ⟨kq, x75_25, rfl, HA, HJ25, HB⟩ := hcut
                        cases kq with
                        | zero => exact absurd HA.out (by simp [queuelablaw01_LexerErrors.j2])
                        | succ kj25 =>
                         have H := HA.out
                         clear HA
                         simp only [queuelablaw01_LexerErrors.j2] at H
                         by_cases c32 : x75_25 = true
                         · subst c32
                           have H1 : (some false) = some r := by rw [if_pos rfl] at H; exact H
                           clear H
                           have H := H1
                           clear H1
                           obtain rfl := Option.some.inj H
                           go_wp2
                           go_ret
                           exact ⟨by first | rfl | (simp [errW_none, errW_some] <;> rfl) | (simp only [← hji21]; first | rfl | (simp [errW_none, errW_some] <;> rfl)) | (simp [*, errW_none, errW_some] <;> rfl), by repeat (first | (with_reducible first | exact HB.out | apply ba | apply bn | apply bd) | exact HB.out)⟩
                         · replace c32 := Bool.eq_false_iff.mpr c32
                           subst c32
                           have H1 : (if t293 = true then (if ((((a0.extract 0 ((ji21) : Int).toNat) ++ (⟨#[32]⟩ : ByteArray)) ++ a1).size : Int) > 10000 then (some true) else ((queuelablaw01_fails.f kj25 (((a0.extract 0 ((ji21) : Int).toNat) ++ (⟨#[32]⟩ : ByteArray)) ++ a1) t295 t296).bind fun t305 => (some t305))) else (some false)) = some r := by rw [if_neg (show ¬ (false = true) by decide)] at H; exact H
                           clear H
                           have H := H1
                           clear H1
                           by_cases c33 : t293 = true
                           · subst c33
                             have H1 : (if ((((a0.extract 0 ((ji21) : Int).toNat) ++ (⟨#[32]⟩ : ByteArray)) ++ a1).size : Int) > 10000 then (some true) else ((queuelablaw01_fails.f kj25 (((a0.extract 0 ((ji21) : Int).toNat) ++ (⟨#[32]⟩ : ByteArray)) ++ a1) t295 t296).bind fun t305 => (some t305))) = some r := by rw [if_pos rfl] at H; exact H
                             clear H
                             have H := H1
                             clear H1
                             by_cases c34 : ((((a0.extract 0 ((ji21) : Int).toNat) ++ (⟨#[32]⟩ : ByteArray)) ++ a1).size : Int) > 10000
                             · rw [if_pos c34] at H
                               have c34b0 : decide (10000 < ((((a0.extract 0 ((ji21) : Int).toNat) ++ (⟨#[32]⟩ : ByteArray)) ++ a1).size : Int)) = true := decide_eq_true c34
                               try have c34y : decide (10000 < ((min ji21.toNat a0.size : Nat) : Int) + 1 + (a1.size : Int)) = true := by have h_ := of_decide_eq_true c34b0; have l0_ : (⟨#[32]⟩ : ByteArray).size = 1 := rfl; simp [ByteArray.size_append, ByteArray.size_extract] at h_; refine decide_eq_true ?_; omega
                               have c34b1 : decide (10000 < (((a0.extract 0 ((ji21) : Int).toNat) ++ (⟨#[32]⟩ : ByteArray)) ++ a1).size) = true := decide_eq_true (by omega)
                               clear c34
                               obtain rfl := Option.some.inj H
                               go_wp2
                               go_ret
                               exact ⟨by first | rfl | (simp [errW_none, errW_some] <;> rfl) | (simp only [← hji21]; first | rfl | (simp [errW_none, errW_some] <;> rfl)) | (simp [*, errW_none, errW_some] <;> rfl), by repeat (first | (with_reducible first | exact HB.out | apply ba | apply bn | apply bd) | exact HB.out)⟩
                             · rw [if_neg c34] at H
                               have c34b0 : decide (10000 < ((((a0.extract 0 ((ji21) : Int).toNat) ++ (⟨#[32]⟩ : ByteArray)) ++ a1).size : Int)) = false := decide_eq_false c34
                               try have c34y : decide (10000 < ((min ji21.toNat a0.size : Nat) : Int) + 1 + (a1.size : Int)) = false := by have h_ := of_decide_eq_false c34b0; have l0_ : (⟨#[32]⟩ : ByteArray).size = 1 := rfl; simp [ByteArray.size_append, ByteArray.size_extract] at h_; refine decide_eq_false ?_; omega
                               have c34b1 : decide (10000 < (((a0.extract 0 ((ji21) : Int).toNat) ++ (⟨#[32]⟩ : ByteArray)) ++ a1).size) = false := decide_eq_false (by omega)
                               clear c34
                               replace H := obs.mp H
                               obtain ⟨t305, A350, H⟩ := H
                               replace H : (some t305) = some r := H
                               have A35 := Aside0.mk A350
                               clear A350
                               obtain rfl := Option.some.inj H
                               go_wp2_with (first | (go_at_call 18; (with_reducible refine (queuelablaw01_fails.calls kj25 (((a0.extract 0 ((ji21) : Int).toNat) ++ (⟨#[32]⟩ : ByteArray)) ++ a1) t295 t296 t305 _ ?side1 A35.out).mono ?_); (case side1 => exact Glob.mono hG (by repeat first | (with_reducible first | exact HB.out | apply ba | apply bn | apply bd) | exact HB.out)); rintro e w36 ⟨rfl, hb⟩; have n0_ := Aside0.mk (below_step (by repeat first | (with_reducible first | exact HB.out | apply ba | apply bn | apply bd) | exact HB.out) hb); clear HB; have HB := n0_; clear n0_; (try clear hb); (try clear hb2); (try clear hk); (try clear hi)))
                               go_ret
                               exact ⟨by first | rfl | (simp [errW_none, errW_some] <;> rfl) | (simp only [← hji21]; first | rfl | (simp [errW_none, errW_some] <;> rfl)) | (simp [*, errW_none, errW_some] <;> rfl), by repeat (first | (with_reducible first | exact HB.out | apply ba | apply bn | apply bd) | exact HB.out)⟩
                           · replace c33 := Bool.eq_false_iff.mpr c33
                             subst c33
                             have H1 : (some false) = some r := by rw [if_neg (show ¬ (false = true) by decide)] at H; exact H
                             clear H
                             have H := H1
                             clear H1
                             obtain rfl := Option.some.inj H
                             go_wp2
                             go_ret
                             exact ⟨by first | rfl | (simp [errW_none, errW_some] <;> rfl) | (simp only [← hji21]; first | rfl | (simp [errW_none, errW_some] <;> rfl)) | (simp [*, errW_none, errW_some] <;> rfl), by repeat (first | (with_reducible first | exact HB.out | apply ba | apply bn | apply bd) | exact HB.out)⟩
                     · rw [if_neg c25] at H
                       exact absurd H (by simp)
                   · rw [if_neg c24] at H
                     exact absurd H (by simp)
                 · rw [if_neg c23] at H
                   exact absurd H (by simp)
               · rw [if_neg c22] at H
                 exact absurd H (by simp)
             · rw [if_neg c18] at H
               exact absurd H (by simp)
           · rw [if_neg c17] at H
             exact absurd H (by simp)

/-- THE ONE PURE STATEMENT of queuelablaw01_LexerErrors: yours. -/
def queuelablaw01_LexerErrors.Pure : Prop := ∀ (a0 : ByteArray) (a1 : ByteArray), a0.size ≤ 140737488351232 → a1.size ≤ 140737488351232 → ∃ k, queuelablaw01_LexerErrors.f k a0 a1 = some true
theorem queuelablaw01_LexerErrors.walk (P : queuelablaw01_LexerErrors.Pure) (a0 : ByteArray) (a1 : ByteArray) (w : World) (hG : Glob w) (w0 : a0.size ≤ 140737488351232) (w1 : a1.size ≤ 140737488351232) :
 Calls Tryd.prog 8 #[.string a0, .string a1] w fun e w' => e = .returned (.bool true) ∧ Below w.heap.size w w' := by
 obtain ⟨k, h⟩ := P a0 a1 w0 w1
 refine (queuelablaw01_LexerErrors.calls k a0 a1 true w hG h).mono ?_
 rintro e w' ⟨rfl, hd⟩
 exact ⟨rfl, hd⟩

end Go.Proofs.YtgkpjfbghjojoaaDoor.L
