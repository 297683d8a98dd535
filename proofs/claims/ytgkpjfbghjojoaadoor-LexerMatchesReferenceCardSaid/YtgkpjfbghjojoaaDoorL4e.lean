-- PRINTED by print.py (a twelfth state) out of the translation. Not trusted: Lean checks it.
import Derived.Test.YtgkpjfbghjojoaaDoorL0
import Derived.Test.YtgkpjfbghjojoaaDoorL1
import Derived.Test.YtgkpjfbghjojoaaDoorL2
import Derived.Test.YtgkpjfbghjojoaaDoorL3
import Derived.Test.YtgkpjfbghjojoaaDoorL4a
import Derived.Test.YtgkpjfbghjojoaaDoorL4b
import Derived.Test.YtgkpjfbghjojoaaDoorL4c
import Derived.Test.YtgkpjfbghjojoaaDoorL4d
namespace Go.Proofs.YtgkpjfbghjojoaaDoor.L
open Go.RowKit Go.Proofs.YtgkpjfbghjojoaaDoorW.PrintWords Go.Proofs.YtgkpjfbghjojoaaDoorW.PrintLast Go.Proofs.YtgkpjfbghjojoaaDoorW.PrintMore
attribute [local go_sem] max2_int min2_int max_two min_two max_three min_three max_four min_four   -- for this text's walks alone
set_option linter.unusedVariables false
set_option linter.unusedSimpArgs false

set_option maxHeartbeats 8000000 in
set_option maxRecDepth 100000 in
theorem queuelablaw01_LexerMatchesReference.calls (k : Nat) (a0 : ByteArray) (r : Bool) (w : World) (hG : Glob w) (h : queuelablaw01_LexerMatchesReference.f k a0 = some r) :
 Calls Tryd.prog 3 #[.string a0] w fun e w' => e = .returned (.bool r) ∧ Below w.heap.size w w' := by
 have HB := Aside0.mk (Below.refl w.heap.size w)
 have H : ((queuelablaw01_head.f k).bind fun t175 => (if (a0.size : Int) > 12000 then (some t175) else ((lexer_Lex.f k a0).bind fun bt176 => ((queuelabref01_Lex.f k a0).bind fun bt181 => (if t175 = true then ((queuelabref01_Same.f k bt176.1 bt181.1 0).bind fun t186 => (if t186 = true then (if bt176.2.1 = bt181.2.1 then (some (bt176.2.2 == bt181.2.2)) else (some false)) else (some false))) else (some false)))))) = some r := h
 clear h
 replace H := obs.mp H
 obtain ⟨t175, A20, H⟩ := H
 replace H : (if (a0.size : Int) > 12000 then (some t175) else ((lexer_Lex.f k a0).bind fun bt176 => ((queuelabref01_Lex.f k a0).bind fun bt181 => (if t175 = true then ((queuelabref01_Same.f k bt176.1 bt181.1 0).bind fun t186 => (if t186 = true then (if bt176.2.1 = bt181.2.1 then (some (bt176.2.2 == bt181.2.2)) else (some false)) else (some false))) else (some false))))) = some r := H
 have A2 := Aside0.mk A20
 clear A20
 by_cases c3 : (a0.size : Int) > 12000
 · rw [if_pos c3] at H
   have c3b0 : decide (12000 < (a0.size : Int)) = true := decide_eq_true c3
   have c3b1 : decide (12000 < a0.size) = true := decide_eq_true (by omega)
   clear c3
   obtain rfl := Option.some.inj H
   go_enter Tryd.func3, Tryd.ntmps3
   go_wp2_with (first | ((with_reducible refine gce (f := 10) rfl ?_); refine goesL_ (some 10) rfl rfl Tryd.func10 (by kernel_rfl) rfl #[] rfl (by (try simp only [lma, lmc, lmn]); first | done | rfl | (simp only [lld, llt]; rfl)) ?_; (with_reducible refine (queuelablaw01_head.calls k  t175 _ ?side1 A2.out).mono ?_); (case side1 => exact Glob.mono hG (by repeat first | (with_reducible first | exact HB.out | apply ba | apply bn | apply bd) | exact HB.out)); rintro e w4 ⟨rfl, hb⟩; refine ⟨_, rfl, ?_⟩; have n0_ := Aside0.mk (below_step (by repeat first | (with_reducible first | exact HB.out | apply ba | apply bn | apply bd) | exact HB.out) hb); clear HB; have HB := n0_; clear n0_; (try clear hb); (try clear hb2); (try clear hk); (try clear hi)))
   go_ret
   exact ⟨by first | rfl | (simp [errW_none, errW_some] <;> rfl) | (simp [*, errW_none, errW_some] <;> rfl), by repeat (first | (with_reducible first | exact HB.out | apply ba | apply bn | apply bd) | exact HB.out)⟩
 · rw [if_neg c3] at H
   have c3b0 : decide (12000 < (a0.size : Int)) = false := decide_eq_false c3
   have c3b1 : decide (12000 < a0.size) = false := decide_eq_false (by omega)
   clear c3
   replace H := obs.mp H
   obtain ⟨⟨t176, t177, t178⟩, A50, H⟩ := H
   replace H : ((queuelabref01_Lex.f k a0).bind fun bt181 => (if t175 = true then ((queuelabref01_Same.f k t176 bt181.1 0).bind fun t186 => (if t186 = true then (if t177 = bt181.2.1 then (some (t178 == bt181.2.2)) else (some false)) else (some false))) else (some false))) = some r := H
   have A5 := Aside0.mk A50
   clear A50
   replace H := obs.mp H
   obtain ⟨⟨t181, t182, t183⟩, A60, H⟩ := H
   replace H : (if t175 = true then ((queuelabref01_Same.f k t176 t181 0).bind fun t186 => (if t186 = true then (if t177 = t182 then (some (t178 == t183)) else (some false)) else (some false))) else (some false)) = some r := H
   have A6 := Aside0.mk A60
   clear A60
   by_cases c7 : t175 = true
   · subst c7
     have H1 : ((queuelabref01_Same.f k t176 t181 0).bind fun t186 => (if t186 = true then (if t177 = t182 then (some (t178 == t183)) else (some false)) else (some false))) = some r := by rw [if_pos rfl] at H; exact H
     clear H
     have H := H1
     clear H1
     replace H := obs.mp H
     obtain ⟨t186, A80, H⟩ := H
     replace H : (if t186 = true then (if t177 = t182 then (some (t178 == t183)) else (some false)) else (some false)) = some r := H
     have A8 := Aside0.mk A80
     clear A80
     by_cases c9 : t186 = true
     · subst c9
       have H1 : (if t177 = t182 then (some (t178 == t183)) else (some false)) = some r := by rw [if_pos rfl] at H; exact H
       clear H
       have H := H1
       clear H1
       by_cases c10 : t177 = t182
       · rw [if_pos c10] at H
         have c10b0 : (t177 == t182) = true := beq_iff_eq.mpr c10
         have c10b1 : (t177 != t182) = false := bne_eq_false_iff_eq.mpr c10
         clear c10
         obtain rfl := Option.some.inj H
         go_enter Tryd.func3, Tryd.ntmps3
         go_wp2_with (first | ((with_reducible refine gce (f := 10) rfl ?_); refine goesL_ (some 10) rfl rfl Tryd.func10 (by kernel_rfl) rfl #[] rfl (by (try simp only [lma, lmc, lmn]); first | done | rfl | (simp only [lld, llt]; rfl)) ?_; (with_reducible refine (queuelablaw01_head.calls k  true _ ?side1 A2.out).mono ?_); (case side1 => exact Glob.mono hG (by repeat first | (with_reducible first | exact HB.out | apply ba | apply bn | apply bd) | exact HB.out)); rintro e w11 ⟨rfl, hb⟩; refine ⟨_, rfl, ?_⟩; have n0_ := Aside0.mk (below_step (by repeat first | (with_reducible first | exact HB.out | apply ba | apply bn | apply bd) | exact HB.out) hb); clear HB; have HB := n0_; clear n0_; (try clear hb); (try clear hb2); (try clear hk); (try clear hi)) | ((with_reducible refine gce (f := 11) rfl ?_); refine goesL_ (some 17) rfl rfl Tryd.func11 (by kernel_rfl) rfl #[.string a0] rfl (by (try simp only [lma, lmc, lmn]); first | done | rfl | (simp only [lld, llt]; rfl)) ?_; (with_reducible refine (lexer_Lex.calls k a0 t176 t177 t178 _ ?side1 A5.out).mono ?_); (case side1 => exact Glob.mono hG (by repeat first | (with_reducible first | exact HB.out | apply ba | apply bn | apply bd) | exact HB.out)); rintro e w12 ⟨v179, rfl, ho0, hb⟩; refine ⟨_, rfl, ?_⟩; have n0_ := Aside0.mk (Kd.R_lower ho0 (below_size (by repeat first | (with_reducible first | exact HB.out | apply ba | apply bn | apply bd) | exact HB.out))); have n1_ := Aside0.mk (below_step (by repeat first | (with_reducible first | exact HB.out | apply ba | apply bn | apply bd) | exact HB.out) hb); clear HB; have HO180 := n0_; have HB := n1_; clear n0_ n1_; (try clear hb); (try clear hb2); (try clear hk); (try clear hi); (try clear ho0)) | ((with_reducible refine gce (f := 12) rfl ?_); refine goesL_ (some 23) rfl rfl Tryd.func12 (by kernel_rfl) rfl #[.string a0] rfl (by (try simp only [lma, lmc, lmn]); first | done | rfl | (simp only [lld, llt]; rfl)) ?_; (with_reducible refine (queuelabref01_Lex.calls k a0 t181 t182 t183 _ A6.out).mono ?_); rintro e w13 ⟨v184, rfl, ho0, hb⟩; refine ⟨_, rfl, ?_⟩; have n0_ := Aside0.mk (Kd.R_elder' (by (with_reducible repeat (first | apply ra | apply rn | apply rd1)); exact HO180.out) (Kd.R_base ho0) hb); have n1_ := Aside0.mk (Kd.R_lower (Kd.R_new' ho0 (Kd.R_lt (by (with_reducible repeat (first | apply ra | apply rn | apply rd1)); exact HO180.out))) (below_size (by repeat first | (with_reducible first | exact HB.out | apply ba | apply bn | apply bd) | exact HB.out))); have n2_ := Aside0.mk (below_step (by repeat first | (with_reducible first | exact HB.out | apply ba | apply bn | apply bd) | exact HB.out) hb); clear HO180; clear HB; have HO180 := n0_; have HO185 := n1_; have HB := n2_; clear n0_ n1_ n2_; (try clear hb); (try clear hb2); (try clear hk); (try clear hi); (try clear ho0); obtain ⟨Ao14, co14, eo14⟩ := Kd.R_slice HO180.out; subst eo14; obtain ⟨Ao15, co15, eo15⟩ := Kd.R_slice HO185.out; subst eo15) | (go_at_call 13; (with_reducible refine (queuelabref01_Same.calls k _ _ t176 _ _ t181 0 true _ ?side1 ?side2 ?side3 ?side4 A8.out).mono ?_); (case side1 => repeat (first | exact (Kd.R_reads' HO180.out).2.2 | (with_reducible refine Kd.C_alloc ?_ _) | (with_reducible refine Kd.C_drewN ?_ _) | (with_reducible refine Kd.C_drew ?_))); (case side2 => exact (Kd.R_reads' HO180.out).2.1); (case side3 => repeat (first | exact (Kd.R_reads' HO185.out).2.2 | (with_reducible refine Kd.C_alloc ?_ _) | (with_reducible refine Kd.C_drewN ?_ _) | (with_reducible refine Kd.C_drew ?_))); (case side4 => exact (Kd.R_reads' HO185.out).2.1); rintro e w' ⟨rfl, ⟨nd, rfl⟩⟩))
         go_ret
         exact ⟨by first | rfl | (simp [errW_none, errW_some] <;> rfl) | (simp [*, errW_none, errW_some] <;> rfl), by repeat (first | (with_reducible first | exact HB.out | apply ba | apply bn | apply bd) | exact HB.out)⟩
       · rw [if_neg c10] at H
         have c10b0 : (t177 == t182) = false := beq_eq_false_iff_ne.mpr c10
         have c10b1 : (t177 != t182) = true := bne_iff_ne.mpr c10
         obtain rfl := Option.some.inj H
         go_enter Tryd.func3, Tryd.ntmps3
         go_wp2_with (first | ((with_reducible refine gce (f := 10) rfl ?_); refine goesL_ (some 10) rfl rfl Tryd.func10 (by kernel_rfl) rfl #[] rfl (by (try simp only [lma, lmc, lmn]); first | done | rfl | (simp only [lld, llt]; rfl)) ?_; (with_reducible refine (queuelablaw01_head.calls k  true _ ?side1 A2.out).mono ?_); (case side1 => exact Glob.mono hG (by repeat first | (with_reducible first | exact HB.out | apply ba | apply bn | apply bd) | exact HB.out)); rintro e w16 ⟨rfl, hb⟩; refine ⟨_, rfl, ?_⟩; have n0_ := Aside0.mk (below_step (by repeat first | (with_reducible first | exact HB.out | apply ba | apply bn | apply bd) | exact HB.out) hb); clear HB; have HB := n0_; clear n0_; (try clear hb); (try clear hb2); (try clear hk); (try clear hi)) | ((with_reducible refine gce (f := 11) rfl ?_); refine goesL_ (some 17) rfl rfl Tryd.func11 (by kernel_rfl) rfl #[.string a0] rfl (by (try simp only [lma, lmc, lmn]); first | done | rfl | (simp only [lld, llt]; rfl)) ?_; (with_reducible refine (lexer_Lex.calls k a0 t176 t177 t178 _ ?side1 A5.out).mono ?_); (case side1 => exact Glob.mono hG (by repeat first | (with_reducible first | exact HB.out | apply ba | apply bn | apply bd) | exact HB.out)); rintro e w17 ⟨v179, rfl, ho0, hb⟩; refine ⟨_, rfl, ?_⟩; have n0_ := Aside0.mk (Kd.R_lower ho0 (below_size (by repeat first | (with_reducible first | exact HB.out | apply ba | apply bn | apply bd) | exact HB.out))); have n1_ := Aside0.mk (below_step (by repeat first | (with_reducible first | exact HB.out | apply ba | apply bn | apply bd) | exact HB.out) hb); clear HB; have HO180 := n0_; have HB := n1_; clear n0_ n1_; (try clear hb); (try clear hb2); (try clear hk); (try clear hi); (try clear ho0)) | ((with_reducible refine gce (f := 12) rfl ?_); refine goesL_ (some 23) rfl rfl Tryd.func12 (by kernel_rfl) rfl #[.string a0] rfl (by (try simp only [lma, lmc, lmn]); first | done | rfl | (simp only [lld, llt]; rfl)) ?_; (with_reducible refine (queuelabref01_Lex.calls k a0 t181 t182 t183 _ A6.out).mono ?_); rintro e w18 ⟨v184, rfl, ho0, hb⟩; refine ⟨_, rfl, ?_⟩; have n0_ := Aside0.mk (Kd.R_elder' (by (with_reducible repeat (first | apply ra | apply rn | apply rd1)); exact HO180.out) (Kd.R_base ho0) hb); have n1_ := Aside0.mk (Kd.R_lower (Kd.R_new' ho0 (Kd.R_lt (by (with_reducible repeat (first | apply ra | apply rn | apply rd1)); exact HO180.out))) (below_size (by repeat first | (with_reducible first | exact HB.out | apply ba | apply bn | apply bd) | exact HB.out))); have n2_ := Aside0.mk (below_step (by repeat first | (with_reducible first | exact HB.out | apply ba | apply bn | apply bd) | exact HB.out) hb); clear HO180; clear HB; have HO180 := n0_; have HO185 := n1_; have HB := n2_; clear n0_ n1_ n2_; (try clear hb); (try clear hb2); (try clear hk); (try clear hi); (try clear ho0); obtain ⟨Ao19, co19, eo19⟩ := Kd.R_slice HO180.out; subst eo19; obtain ⟨Ao20, co20, eo20⟩ := Kd.R_slice HO185.out; subst eo20) | (go_at_call 13; (with_reducible refine (queuelabref01_Same.calls k _ _ t176 _ _ t181 0 true _ ?side1 ?side2 ?side3 ?side4 A8.out).mono ?_); (case side1 => repeat (first | exact (Kd.R_reads' HO180.out).2.2 | (with_reducible refine Kd.C_alloc ?_ _) | (with_reducible refine Kd.C_drewN ?_ _) | (with_reducible refine Kd.C_drew ?_))); (case side2 => exact (Kd.R_reads' HO180.out).2.1); (case side3 => repeat (first | exact (Kd.R_reads' HO185.out).2.2 | (with_reducible refine Kd.C_alloc ?_ _) | (with_reducible refine Kd.C_drewN ?_ _) | (with_reducible refine Kd.C_drew ?_))); (case side4 => exact (Kd.R_reads' HO185.out).2.1); rintro e w' ⟨rfl, ⟨nd, rfl⟩⟩))
         go_ret
         exact ⟨by first | rfl | (simp [errW_none, errW_some] <;> rfl) | (simp [*, errW_none, errW_some] <;> rfl), by repeat (first | (with_reducible first | exact HB.out | apply ba | apply bn | apply bd) | exact HB.out)⟩
     · replace c9 := Bool.eq_false_iff.mpr c9
       subst c9
       have H1 : (some false) = some r := by rw [if_neg (show ¬ (false = true) by decide)] at H; exact H
       clear H
       have H := H1
       clear H1
       obtain rfl := Option.some.inj H
       go_enter Tryd.func3, Tryd.ntmps3
       go_wp2_with (first | ((with_reducible refine gce (f := 10) rfl ?_); refine goesL_ (some 10) rfl rfl Tryd.func10 (by kernel_rfl) rfl #[] rfl (by (try simp only [lma, lmc, lmn]); first | done | rfl | (simp only [lld, llt]; rfl)) ?_; (with_reducible refine (queuelablaw01_head.calls k  true _ ?side1 A2.out).mono ?_); (case side1 => exact Glob.mono hG (by repeat first | (with_reducible first | exact HB.out | apply ba | apply bn | apply bd) | exact HB.out)); rintro e w21 ⟨rfl, hb⟩; refine ⟨_, rfl, ?_⟩; have n0_ := Aside0.mk (below_step (by repeat first | (with_reducible first | exact HB.out | apply ba | apply bn | apply bd) | exact HB.out) hb); clear HB; have HB := n0_; clear n0_; (try clear hb); (try clear hb2); (try clear hk); (try clear hi)) | ((with_reducible refine gce (f := 11) rfl ?_); refine goesL_ (some 17) rfl rfl Tryd.func11 (by kernel_rfl) rfl #[.string a0] rfl (by (try simp only [lma, lmc, lmn]); first | done | rfl | (simp only [lld, llt]; rfl)) ?_; (with_reducible refine (lexer_Lex.calls k a0 t176 t177 t178 _ ?side1 A5.out).mono ?_); (case side1 => exact Glob.mono hG (by repeat first | (with_reducible first | exact HB.out | apply ba | apply bn | apply bd) | exact HB.out)); rintro e w22 ⟨v179, rfl, ho0, hb⟩; refine ⟨_, rfl, ?_⟩; have n0_ := Aside0.mk (Kd.R_lower ho0 (below_size (by repeat first | (with_reducible first | exact HB.out | apply ba | apply bn | apply bd) | exact HB.out))); have n1_ := Aside0.mk (below_step (by repeat first | (with_reducible first | exact HB.out | apply ba | apply bn | apply bd) | exact HB.out) hb); clear HB; have HO180 := n0_; have HB := n1_; clear n0_ n1_; (try clear hb); (try clear hb2); (try clear hk); (try clear hi); (try clear ho0)) | ((with_reducible refine gce (f := 12) rfl ?_); refine goesL_ (some 23) rfl rfl Tryd.func12 (by kernel_rfl) rfl #[.string a0] rfl (by (try simp only [lma, lmc, lmn]); first | done | rfl | (simp only [lld, llt]; rfl)) ?_; (with_reducible refine (queuelabref01_Lex.calls k a0 t181 t182 t183 _ A6.out).mono ?_); rintro e w23 ⟨v184, rfl, ho0, hb⟩; refine ⟨_, rfl, ?_⟩; have n0_ := Aside0.mk (Kd.R_elder' (by (with_reducible repeat (first | apply ra | apply rn | apply rd1)); exact HO180.out) (Kd.R_base ho0) hb); have n1_ := Aside0.mk (Kd.R_lower (Kd.R_new' ho0 (Kd.R_lt (by (with_reducible repeat (first | apply ra | apply rn | apply rd1)); exact HO180.out))) (below_size (by repeat first | (with_reducible first | exact HB.out | apply ba | apply bn | apply bd) | exact HB.out))); have n2_ := Aside0.mk (below_step (by repeat first | (with_reducible first | exact HB.out | apply ba | apply bn | apply bd) | exact HB.out) hb); clear HO180; clear HB; have HO180 := n0_; have HO185 := n1_; have HB := n2_; clear n0_ n1_ n2_; (try clear hb); (try clear hb2); (try clear hk); (try clear hi); (try clear ho0); obtain ⟨Ao24, co24, eo24⟩ := Kd.R_slice HO180.out; subst eo24; obtain ⟨Ao25, co25, eo25⟩ := Kd.R_slice HO185.out; subst eo25) | (go_at_call 13; (with_reducible refine (queuelabref01_Same.calls k _ _ t176 _ _ t181 0 false _ ?side1 ?side2 ?side3 ?side4 A8.out).mono ?_); (case side1 => repeat (first | exact (Kd.R_reads' HO180.out).2.2 | (with_reducible refine Kd.C_alloc ?_ _) | (with_reducible refine Kd.C_drewN ?_ _) | (with_reducible refine Kd.C_drew ?_))); (case side2 => exact (Kd.R_reads' HO180.out).2.1); (case side3 => repeat (first | exact (Kd.R_reads' HO185.out).2.2 | (with_reducible refine Kd.C_alloc ?_ _) | (with_reducible refine Kd.C_drewN ?_ _) | (with_reducible refine Kd.C_drew ?_))); (case side4 => exact (Kd.R_reads' HO185.out).2.1); rintro e w' ⟨rfl, ⟨nd, rfl⟩⟩))
       go_ret
       exact ⟨by first | rfl | (simp [errW_none, errW_some] <;> rfl) | (simp [*, errW_none, errW_some] <;> rfl), by repeat (first | (with_reducible first | exact HB.out | apply ba | apply bn | apply bd) | exact HB.out)⟩
   · replace c7 := Bool.eq_false_iff.mpr c7
     subst c7
     have H1 : (some false) = some r := by rw [if_neg (show ¬ (false = true) by decide)] at H; exact H
     clear H
     have H := H1
     clear H1
     obtain rfl := Option.some.inj H
     go_enter Tryd.func3, Tryd.ntmps3
     go_wp2_with (first | ((with_reducible refine gce (f := 10) rfl ?_); refine goesL_ (some 10) rfl rfl Tryd.func10 (by kernel_rfl) rfl #[] rfl (by (try simp only [lma, lmc, lmn]); first | done | rfl | (simp only [lld, llt]; rfl)) ?_; (with_reducible refine (queuelablaw01_head.calls k  false _ ?side1 A2.out).mono ?_); (case side1 => exact Glob.mono hG (by repeat first | (with_reducible first | exact HB.out | apply ba | apply bn | apply bd) | exact HB.out)); rintro e w26 ⟨rfl, hb⟩; refine ⟨_, rfl, ?_⟩; have n0_ := Aside0.mk (below_step (by repeat first | (with_reducible first | exact HB.out | apply ba | apply bn | apply bd) | exact HB.out) hb); clear HB; have HB := n0_; clear n0_; (try clear hb); (try clear hb2); (try clear hk); (try clear hi)) | ((with_reducible refine gce (f := 11) rfl ?_); refine goesL_ (some 17) rfl rfl Tryd.func11 (by kernel_rfl) rfl #[.string a0] rfl (by (try simp only [lma, lmc, lmn]); first | done | rfl | (simp only [lld, llt]; rfl)) ?_; (with_reducible refine (lexer_Lex.calls k a0 t176 t177 t178 _ ?side1 A5.out).mono ?_); (case side1 => exact Glob.mono hG (by repeat first | (with_reducible first | exact HB.out | apply ba | apply bn | apply bd) | exact HB.out)); rintro e w27 ⟨v179, rfl, ho0, hb⟩; refine ⟨_, rfl, ?_⟩; have n0_ := Aside0.mk (Kd.R_lower ho0 (below_size (by repeat first | (with_reducible first | exact HB.out | apply ba | apply bn | apply bd) | exact HB.out))); have n1_ := Aside0.mk (below_step (by repeat first | (with_reducible first | exact HB.out | apply ba | apply bn | apply bd) | exact HB.out) hb); clear HB; have HO180 := n0_; have HB := n1_; clear n0_ n1_; (try clear hb); (try clear hb2); (try clear hk); (try clear hi); (try clear ho0)) | ((with_reducible refine gce (f := 12) rfl ?_); refine goesL_ (some 23) rfl rfl Tryd.func12 (by kernel_rfl) rfl #[.string a0] rfl (by (try simp only [lma, lmc, lmn]); first | done | rfl | (simp only [lld, llt]; rfl)) ?_; (with_reducible refine (queuelabref01_Lex.calls k a0 t181 t182 t183 _ A6.out).mono ?_); rintro e w28 ⟨v184, rfl, ho0, hb⟩; refine ⟨_, rfl, ?_⟩; have n0_ := Aside0.mk (Kd.R_elder' (by (with_reducible repeat (first | apply ra | apply rn | apply rd1)); exact HO180.out) (Kd.R_base ho0) hb); have n1_ := Aside0.mk (Kd.R_lower (Kd.R_new' ho0 (Kd.R_lt (by (with_reducible repeat (first | apply ra | apply rn | apply rd1)); exact HO180.out))) (below_size (by repeat first | (with_reducible first | exact HB.out | apply ba | apply bn | apply bd) | exact HB.out))); have n2_ := Aside0.mk (below_step (by repeat first | (with_reducible first | exact HB.out | apply ba | apply bn | apply bd) | exact HB.out) hb); clear HO180; clear HB; have HO180 := n0_; have HO185 := n1_; have HB := n2_; clear n0_ n1_ n2_; (try clear hb); (try clear hb2); (try clear hk); (try clear hi); (try clear ho0)))
     go_ret
     exact ⟨by first | rfl | (simp [errW_none, errW_some] <;> rfl) | (simp [*, errW_none, errW_some] <;> rfl), by repeat (first | (with_reducible first | exact HB.out | apply ba | apply bn | apply bd) | exact HB.out)⟩

/-- THE ONE PURE STATEMENT of queuelablaw01_LexerMatchesReference: yours. -/
def queuelablaw01_LexerMatchesReference.Pure : Prop := ∀ (a0 : ByteArray), a0.size ≤ 140737488351232 → ∃ k, queuelablaw01_LexerMatchesReference.f k a0 = some true
theorem queuelablaw01_LexerMatchesReference.walk (P : queuelablaw01_LexerMatchesReference.Pure) (a0 : ByteArray) (w : World) (hG : Glob w) (w0 : a0.size ≤ 140737488351232) :
 Calls Tryd.prog 3 #[.string a0] w fun e w' => e = .returned (.bool true) ∧ Below w.heap.size w w' := by
 obtain ⟨k, h⟩ := P a0 w0
 refine (queuelablaw01_LexerMatchesReference.calls k a0 true w hG h).mono ?_
 rintro e w' ⟨rfl, hd⟩
 exact ⟨rfl, hd⟩


end Go.Proofs.YtgkpjfbghjojoaaDoor.L
