-- PRINTED by print.py (a twelfth state) out of the translation. Not trusted: Lean checks it.
import Derived.Test.YtgkpjfbghjojoaaDoorL0
import Derived.Test.YtgkpjfbghjojoaaDoorL1
import Derived.Test.YtgkpjfbghjojoaaDoorL2
import Derived.Test.YtgkpjfbghjojoaaDoorL5
namespace Go.Proofs.YtgkpjfbghjojoaaDoor.L
open Go.RowKit Go.Proofs.YtgkpjfbghjojoaaDoorW.PrintWords Go.Proofs.YtgkpjfbghjojoaaDoorW.PrintLast Go.Proofs.YtgkpjfbghjojoaaDoorW.PrintMore
attribute [local go_sem] max2_int min2_int max_two min_two max_three min_three max_four min_four   -- for this text's walks alone
set_option linter.unusedVariables false
set_option linter.unusedSimpArgs false

/-! ### queuelablaw01_LexerLongest: function 9 -/
mutual
def queuelablaw01_LexerLongest.l0 : Nat → ByteArray → Bool → List (S31) → Int → Option (Bool)
 | 0, _, _, _, _ => none
 | k + 1, x0, x3, x4, x7 => if x7 < (x4.length : Int) then (if 0 ≤ x7 then ((queuelabref01_Text.f k ((rd_T31 x4 x7).f0) ((rd_T31 x4 x7).f1) ((rd_T31 x4 x7).f2) ((rd_T31 x4 x7).f3)).bind fun t314 => (if ((rd_T31 x4 x7).f3) < 0 then (queuelablaw01_LexerLongest.j1 k x0 x3 x4 x7 (wrap64 (((rd_T31 x4 x7).f3) + (t314.size : Int))) true) else (if (wrap64 (((rd_T31 x4 x7).f3) + (t314.size : Int))) > (x0.size : Int) then (queuelablaw01_LexerLongest.j1 k x0 x3 x4 x7 (wrap64 (((rd_T31 x4 x7).f3) + (t314.size : Int))) true) else (queuelablaw01_LexerLongest.j1 k x0 x3 x4 x7 (wrap64 (((rd_T31 x4 x7).f3) + (t314.size : Int))) (decide ((wrap64 (((rd_T31 x4 x7).f3) + (t314.size : Int))) ≤ ((rd_T31 x4 x7).f3))))))) else (none)) else (some x3)
def queuelablaw01_LexerLongest.j1 : Nat → ByteArray → Bool → List (S31) → Int → Int → Bool → Option (Bool)
 | 0, _, _, _, _, _, _ => none
 | k + 1, x0, x3, x4, x7, x8, x64 => if x64 = true then (some false) else (if x8 = (x0.size : Int) then (queuelablaw01_LexerLongest.j2 k x0 x3 x4 x7 x8 true) else ((queuelabref01_Gap.f k x0 x8).bind fun t317 => (queuelablaw01_LexerLongest.j2 k x0 x3 x4 x7 x8 (decide (t317 > x8)))))
def queuelablaw01_LexerLongest.j2 : Nat → ByteArray → Bool → List (S31) → Int → Int → Bool → Option (Bool)
 | 0, _, _, _, _, _, _ => none
 | k + 1, x0, x3, x4, x7, x8, x75 => if x75 = true then (queuelablaw01_LexerLongest.l0 k x0 x3 x4 (wrap64 (x7 + 1))) else (if 0 ≤ x7 then (if x7 < (x4.length : Int) then (if 0 ≤ ((rd_T31 x4 x7).f3) then (if ((rd_T31 x4 x7).f3) ≤ (wrap64 (x8 + 1)) then (if (wrap64 (x8 + 1)) ≤ (x0.size : Int) then ((lexer_Lex.f k (x0.extract (((rd_T31 x4 x7).f3) : Int).toNat ((wrap64 (x8 + 1)) : Int).toNat)).bind fun bt319 => (if bt319.2.1 = 0 then (if (bt319.1.length : Int) < 2 then (some false) else (queuelablaw01_LexerLongest.l0 k x0 x3 x4 (wrap64 (x7 + 1)))) else (queuelablaw01_LexerLongest.l0 k x0 x3 x4 (wrap64 (x7 + 1))))) else (none)) else (none)) else (none)) else (none)) else (none))
end
def queuelablaw01_LexerLongest.f (k : Nat) (a0 : ByteArray) : Option (Bool) := (queuelablaw01_head.f k).bind fun t306 => (if (a0.size : Int) > 2000 then (some t306) else ((lexer_Lex.f k a0).bind fun bt307 => (if bt307.2.1 = 0 then (queuelablaw01_LexerLongest.l0 k a0 t306 bt307.1 0) else (some t306))))
theorem queuelablaw01_LexerLongest.mono_l : ∀ k, (∀ y0 y1 y2 y3, LeO (queuelablaw01_LexerLongest.l0 k y0 y1 y2 y3) (queuelablaw01_LexerLongest.l0 (k + 1) y0 y1 y2 y3)) ∧ (∀ y0 y1 y2 y3 y4 y5, LeO (queuelablaw01_LexerLongest.j1 k y0 y1 y2 y3 y4 y5) (queuelablaw01_LexerLongest.j1 (k + 1) y0 y1 y2 y3 y4 y5)) ∧ (∀ y0 y1 y2 y3 y4 y5, LeO (queuelablaw01_LexerLongest.j2 k y0 y1 y2 y3 y4 y5) (queuelablaw01_LexerLongest.j2 (k + 1) y0 y1 y2 y3 y4 y5))
 | 0 => ⟨fun _ _ _ _ r h => by simp [queuelablaw01_LexerLongest.l0] at h, fun _ _ _ _ _ _ r h => by simp [queuelablaw01_LexerLongest.j1] at h, fun _ _ _ _ _ _ r h => by simp [queuelablaw01_LexerLongest.j2] at h⟩
 | k + 1 => by
  obtain ⟨ih0, ih1, ih2⟩ := queuelablaw01_LexerLongest.mono_l k
  refine ⟨?_, ?_, ?_⟩
  · intro y0 y1 y2 y3
    unfold queuelablaw01_LexerLongest.l0
    repeat' first
    | (with_reducible exact ih0 _ _ _ _)
    | (with_reducible exact ih1 _ _ _ _ _ _)
    | (with_reducible exact ih2 _ _ _ _ _ _)
    | (with_reducible exact lexer_Lex.mono _ _)
    | (with_reducible exact queuelablaw01_head.mono _)
    | (with_reducible exact queuelabref01_Gap.mono _ _ _)
    | (with_reducible exact queuelabref01_Text.mono _ _ _ _ _)
    | (with_reducible exact LeO.refl _)
    | (with_reducible exact LeO.none _)
    | (with_reducible refine LeO.ite ?_ ?_)
    | (with_reducible refine LeO.bind ?_ (fun _ => ?_))
    | exact ih0 _ _ _ _
    | exact ih1 _ _ _ _ _ _
    | exact ih2 _ _ _ _ _ _
    | exact lexer_Lex.mono _ _
    | exact queuelablaw01_head.mono _
    | exact queuelabref01_Gap.mono _ _ _
    | exact queuelabref01_Text.mono _ _ _ _ _
    | exact LeO.none _
    | refine LeO.ite ?_ ?_
    | refine LeO.bind ?_ (fun _ => ?_)
  · intro y0 y1 y2 y3 y4 y5
    unfold queuelablaw01_LexerLongest.j1
    repeat' first
    | (with_reducible exact ih0 _ _ _ _)
    | (with_reducible exact ih1 _ _ _ _ _ _)
    | (with_reducible exact ih2 _ _ _ _ _ _)
    | (with_reducible exact lexer_Lex.mono _ _)
    | (with_reducible exact queuelablaw01_head.mono _)
    | (with_reducible exact queuelabref01_Gap.mono _ _ _)
    | (with_reducible exact queuelabref01_Text.mono _ _ _ _ _)
    | (with_reducible exact LeO.refl _)
    | (with_reducible exact LeO.none _)
    | (with_reducible refine LeO.ite ?_ ?_)
    | (with_reducible refine LeO.bind ?_ (fun _ => ?_))
    | exact ih0 _ _ _ _
    | exact ih1 _ _ _ _ _ _
    | exact ih2 _ _ _ _ _ _
    | exact lexer_Lex.mono _ _
    | exact queuelablaw01_head.mono _
    | exact queuelabref01_Gap.mono _ _ _
    | exact queuelabref01_Text.mono _ _ _ _ _
    | exact LeO.none _
    | refine LeO.ite ?_ ?_
    | refine LeO.bind ?_ (fun _ => ?_)
  · intro y0 y1 y2 y3 y4 y5
    unfold queuelablaw01_LexerLongest.j2
    repeat' first
    | (with_reducible exact ih0 _ _ _ _)
    | (with_reducible exact ih1 _ _ _ _ _ _)
    | (with_reducible exact ih2 _ _ _ _ _ _)
    | (with_reducible exact lexer_Lex.mono _ _)
    | (with_reducible exact queuelablaw01_head.mono _)
    | (with_reducible exact queuelabref01_Gap.mono _ _ _)
    | (with_reducible exact queuelabref01_Text.mono _ _ _ _ _)
    | (with_reducible exact LeO.refl _)
    | (with_reducible exact LeO.none _)
    | (with_reducible refine LeO.ite ?_ ?_)
    | (with_reducible refine LeO.bind ?_ (fun _ => ?_))
    | exact ih0 _ _ _ _
    | exact ih1 _ _ _ _ _ _
    | exact ih2 _ _ _ _ _ _
    | exact lexer_Lex.mono _ _
    | exact queuelablaw01_head.mono _
    | exact queuelabref01_Gap.mono _ _ _
    | exact queuelabref01_Text.mono _ _ _ _ _
    | exact LeO.none _
    | refine LeO.ite ?_ ?_
    | refine LeO.bind ?_ (fun _ => ?_)
theorem queuelablaw01_LexerLongest.mono : ∀ a0 k, LeO (queuelablaw01_LexerLongest.f k a0) (queuelablaw01_LexerLongest.f (k + 1) a0) := by
 intro a0 k
 obtain ⟨ih0, ih1, ih2⟩ := queuelablaw01_LexerLongest.mono_l k
 unfold queuelablaw01_LexerLongest.f
 repeat' first
  | (with_reducible exact ih0 _ _ _ _)
  | (with_reducible exact ih1 _ _ _ _ _ _)
  | (with_reducible exact ih2 _ _ _ _ _ _)
  | (with_reducible exact lexer_Lex.mono _ _)
  | (with_reducible exact queuelablaw01_head.mono _)
  | (with_reducible exact queuelabref01_Gap.mono _ _ _)
  | (with_reducible exact queuelabref01_Text.mono _ _ _ _ _)
  | (with_reducible exact LeO.refl _)
  | (with_reducible exact LeO.none _)
  | (with_reducible refine LeO.ite ?_ ?_)
  | (with_reducible refine LeO.bind ?_ (fun _ => ?_))
  | exact ih0 _ _ _ _
  | exact ih1 _ _ _ _ _ _
  | exact ih2 _ _ _ _ _ _
  | exact lexer_Lex.mono _ _
  | exact queuelablaw01_head.mono _
  | exact queuelabref01_Gap.mono _ _ _
  | exact queuelabref01_Text.mono _ _ _ _ _
  | exact LeO.none _
  | refine LeO.ite ?_ ?_
  | refine LeO.bind ?_ (fun _ => ?_)
def queuelablaw01_LexerLongest.T10 : Bool × List (List Nat × List Nat) := (true, [([], []), ([], []), ([0, 1], [0, 1]), ([2], [2]), ([3], [3]), ([], []), ([], []), ([5, 6], [5, 6]), ([7], [7]), ([8], [8]), ([9], [9]), ([4, 10], [4, 10]), ([11, 9, 0, 1, 2, 3, 4, 5, 6, 7, 8, 9, 10, 11], [11])])
def queuelablaw01_LexerLongest.B10 : List Nat := [0, 0, 3, 7, 15, 0, 0, 96, 224, 480, 992, 2047, 4095]
theorem queuelablaw01_LexerLongest.tab10 : rtab .any (opsOf Tryd.f9 10) = queuelablaw01_LexerLongest.T10 := by kernel_rfl
theorem queuelablaw01_LexerLongest.bits10 : waitsOk queuelablaw01_LexerLongest.T10.2 queuelablaw01_LexerLongest.B10 = true := by kernel_rfl
set_option maxHeartbeats 8000000 in
set_option maxRecDepth 100000 in
theorem queuelablaw01_LexerLongest.calls (k : Nat) (a0 : ByteArray) (r : Bool) (w : World) (hG : Glob w) (h : queuelablaw01_LexerLongest.f k a0 = some r) :
 Calls Tryd.prog 9 #[.string a0] w fun e w' => e = .returned (.bool r) ∧ Below w.heap.size w w' := by
 have hu31 := Tryd.underlying31
 have HB := Aside0.mk (Below.refl w.heap.size w)
 have H : ((queuelablaw01_head.f k).bind fun t306 => (if (a0.size : Int) > 2000 then (some t306) else ((lexer_Lex.f k a0).bind fun bt307 => (if bt307.2.1 = 0 then (queuelablaw01_LexerLongest.l0 k a0 t306 bt307.1 0) else (some t306))))) = some r := h
 clear h
 replace H := obs.mp H
 obtain ⟨t306, A20, H⟩ := H
 replace H : (if (a0.size : Int) > 2000 then (some t306) else ((lexer_Lex.f k a0).bind fun bt307 => (if bt307.2.1 = 0 then (queuelablaw01_LexerLongest.l0 k a0 t306 bt307.1 0) else (some t306)))) = some r := H
 have A2 := Aside0.mk A20
 clear A20
 by_cases c3 : (a0.size : Int) > 2000
 · rw [if_pos c3] at H
   have c3b0 : decide (2000 < (a0.size : Int)) = true := decide_eq_true c3
   have c3b1 : decide (2000 < a0.size) = true := decide_eq_true (by omega)
   clear c3
   obtain rfl := Option.some.inj H
   go_enter Tryd.func9, Tryd.ntmps9
   go_wp2_with (first | ((with_reducible refine gce (f := 10) rfl ?_); refine goesL_ (some 12) rfl rfl Tryd.func10 (by kernel_rfl) rfl #[] rfl (by (try simp only [lma, lmc, lmn]); first | done | rfl | (simp only [lld, llt]; rfl)) ?_; (with_reducible refine (queuelablaw01_head.calls k  t306 _ ?side1 A2.out).mono ?_); (case side1 => exact Glob.mono hG (by repeat first | (with_reducible first | exact HB.out | apply ba | apply bn | apply bd) | exact HB.out)); rintro e w4 ⟨rfl, hb⟩; refine ⟨_, rfl, ?_⟩; have n0_ := Aside0.mk (below_step (by repeat first | (with_reducible first | exact HB.out | apply ba | apply bn | apply bd) | exact HB.out) hb); clear HB; have HB := n0_; clear n0_; (try clear hb); (try clear hb2); (try clear hk); (try clear hi)))
   go_ret
   exact ⟨by first | rfl | (simp [errW_none, errW_some] <;> rfl) | (simp [*, errW_none, errW_some] <;> rfl), by repeat (first | (with_reducible first | exact HB.out | apply ba | apply bn | apply bd) | exact HB.out)⟩
 · rw [if_neg c3] at H
   have c3b0 : decide (2000 < (a0.size : Int)) = false := decide_eq_false c3
   have c3b1 : decide (2000 < a0.size) = false := decide_eq_false (by omega)
   clear c3
   replace H := obs.mp H
   obtain ⟨⟨t307, t308, t309⟩, A50, H⟩ := H
   replace H : (if t308 = 0 then (queuelablaw01_LexerLongest.l0 k a0 t306 t307 0) else (some t306)) = some r := H
   have A5 := Aside0.mk A50
   clear A50
   by_cases c6 : t308 = 0
   · rw [if_pos c6] at H
     have c6b0 : (t308 == 0) = true := beq_iff_eq.mpr c6
     have c6b1 : (t308 != 0) = false := bne_eq_false_iff_eq.mpr c6
     clear c6
     have H' := Aside0.mk H
     clear H
     go_enter Tryd.func9, Tryd.ntmps9
     go_wp2_with (first | ((with_reducible refine gce (f := 10) rfl ?_); refine goesL_ (some 12) rfl rfl Tryd.func10 (by kernel_rfl) rfl #[] rfl (by (try simp only [lma, lmc, lmn]); first | done | rfl | (simp only [lld, llt]; rfl)) ?_; (with_reducible refine (queuelablaw01_head.calls k  t306 _ ?side1 A2.out).mono ?_); (case side1 => exact Glob.mono hG (by repeat first | (with_reducible first | exact HB.out | apply ba | apply bn | apply bd) | exact HB.out)); rintro e w7 ⟨rfl, hb⟩; refine ⟨_, rfl, ?_⟩; have n0_ := Aside0.mk (below_step (by repeat first | (with_reducible first | exact HB.out | apply ba | apply bn | apply bd) | exact HB.out) hb); clear HB; have HB := n0_; clear n0_; (try clear hb); (try clear hb2); (try clear hk); (try clear hi)) | ((with_reducible refine gce (f := 11) rfl ?_); refine goesL_ (some 19) rfl rfl Tryd.func11 (by kernel_rfl) rfl #[.string a0] rfl (by (try simp only [lma, lmc, lmn]); first | done | rfl | (simp only [lld, llt]; rfl)) ?_; (with_reducible refine (lexer_Lex.calls k a0 t307 t308 t309 _ ?side1 A5.out).mono ?_); (case side1 => exact Glob.mono hG (by repeat first | (with_reducible first | exact HB.out | apply ba | apply bn | apply bd) | exact HB.out)); rintro e w8 ⟨v310, rfl, ho0, hb⟩; refine ⟨_, rfl, ?_⟩; have n0_ := Aside0.mk (Kd.R_lower ho0 (below_size (by repeat first | (with_reducible first | exact HB.out | apply ba | apply bn | apply bd) | exact HB.out))); have n1_ := Aside0.mk (below_step (by repeat first | (with_reducible first | exact HB.out | apply ba | apply bn | apply bd) | exact HB.out) hb); clear HB; have HO311 := n0_; have HB := n1_; clear n0_ n1_; (try clear hb); (try clear hb2); (try clear hk); (try clear hi); (try clear ho0)))
     go_loopg [7] k (fun kq v7 w' => ∃ (x7_1 : Int), v7 = .int .i64 x7_1 ∧ Aside0 (queuelablaw01_LexerLongest.l0 kq a0 t306 t307 x7_1 = some r) ∧ Aside0 (kq ≤ k) ∧ Aside0 (Kd.R k31 31 w' w.heap.size (fun _ => True) v310 t307) ∧ Aside0 (Below w.heap.size w w'))
     case atStart => exact ⟨(0), (by first | rfl | (simp; done) | (simp [*]; done)), H', ⟨Nat.le_refl _⟩, ⟨by (with_reducible repeat (first | apply ra | apply rn | apply rd1)); exact HO311.out⟩, ⟨by repeat (first | (with_reducible first | exact HB.out | apply ba | apply bn | apply bd) | exact HB.out)⟩⟩
     case round =>
      clear H'
      try clear c1
      try clear p2
      try clear c3
      try clear c3b0
      try clear c3b1
      try clear c6
      try clear c6b0
      try clear c6b1
      obtain ⟨x7_1, rfl, HA, HK1, HO_4, HB⟩ := hrel
      cases gk with
      | zero => exact absurd HA.out (by simp [queuelablaw01_LexerLongest.l0])
      | succ k1 =>
       have H := HA.out
       clear HA
       simp only [queuelablaw01_LexerLongest.l0] at H
       by_cases c9 : x7_1 < (t307.length : Int)
       · rw [if_pos c9] at H
         have c9b0 : decide (x7_1 < (t307.length : Int)) = true := decide_eq_true c9
         clear c9
         by_cases c10 : 0 ≤ x7_1
         · rw [if_pos c10] at H
           have c10b0 : decide (0 ≤ x7_1) = true := decide_eq_true c10
           clear c10
           replace H := obs.mp H
           obtain ⟨t314, A110, H⟩ := H
           replace H : (if ((rd_T31 t307 x7_1).f3) < 0 then (queuelablaw01_LexerLongest.j1 k1 a0 t306 t307 x7_1 (wrap64 (((rd_T31 t307 x7_1).f3) + (t314.size : Int))) true) else (if (wrap64 (((rd_T31 t307 x7_1).f3) + (t314.size : Int))) > (a0.size : Int) then (queuelablaw01_LexerLongest.j1 k1 a0 t306 t307 x7_1 (wrap64 (((rd_T31 t307 x7_1).f3) + (t314.size : Int))) true) else (queuelablaw01_LexerLongest.j1 k1 a0 t306 t307 x7_1 (wrap64 (((rd_T31 t307 x7_1).f3) + (t314.size : Int))) (decide ((wrap64 (((rd_T31 t307 x7_1).f3) + (t314.size : Int))) ≤ ((rd_T31 t307 x7_1).f3)))))) = some r := H
           have A11 := Aside0.mk A110
           clear A110
           have HC12 := Aside0.mk H
           clear H
           obtain ⟨Ao13, co13, eo13⟩ := Kd.R_slice HO_4.out
           subst eo13
           try go_wp2
           have n0_ := Aside0.mk (Kd.R_drew HO_4.out)
           have n1_ := Aside0.mk (below_drew1 HB.out)
           clear HO_4
           clear HB
           have HO_4 := n0_
           have HB := n1_
           clear n0_ n1_
           have p312 : 0 ≤ (x7_1 : Int) := of_decide_eq_true (by first | (with_reducible assumption) | assumption)
           have q312 : x7_1 < (t307.length : Int) := of_decide_eq_true (by first | (with_reducible assumption) | assumption)
           obtain ⟨ad312, e312, hx312_0, hx312_1, hx312_2, hx312_3⟩ := at_T31 (Kd.R_reads' HO_4.out).2.2 x7_1 p312 q312
           cases e312
           replace p312 := eq_true p312
           replace q312 := eq_true q312
           have p313 : 0 ≤ (x7_1 : Int) := of_decide_eq_true (by first | (with_reducible assumption) | assumption)
           have q313 : x7_1 < (t307.length : Int) := of_decide_eq_true (by first | (with_reducible assumption) | assumption)
           obtain ⟨ad313, e313, hx313_0, hx313_1, hx313_2, hx313_3⟩ := at_T31 (Kd.R_reads' HO_4.out).2.2 x7_1 p313 q313
           obtain rfl : ad312 = ad313 := (by injection e313)
           replace p313 := eq_true p313
           replace q313 := eq_true q313
           refine start_ (n := 13) (S := fun w' => w'.cell? (ad312.add ((x7_1).toNat * 4)) = some (.int .i64 ((rd_T31 t307 x7_1).f0)) ∧ w'.cell? ⟨(ad312.add ((x7_1).toNat * 4)).block, (ad312.add ((x7_1).toNat * 4)).off + 1, none⟩ = some (.string ((rd_T31 t307 x7_1).f1)) ∧ w'.cell? ⟨(ad312.add ((x7_1).toNat * 4)).block, (ad312.add ((x7_1).toNat * 4)).off + 2, none⟩ = some (.int .i64 ((rd_T31 t307 x7_1).f2)) ∧ w'.cell? ⟨(ad312.add ((x7_1).toNat * 4)).block, (ad312.add ((x7_1).toNat * 4)).off + 3, none⟩ = some (.int .i64 ((rd_T31 t307 x7_1).f3)) ∧ w'.cell? (ad312.add ((x7_1).toNat * 4)) = some (.int .i64 ((rd_T31 t307 x7_1).f0)) ∧ w'.cell? ⟨(ad312.add ((x7_1).toNat * 4)).block, (ad312.add ((x7_1).toNat * 4)).off + 1, none⟩ = some (.string ((rd_T31 t307 x7_1).f1)) ∧ w'.cell? ⟨(ad312.add ((x7_1).toNat * 4)).block, (ad312.add ((x7_1).toNat * 4)).off + 2, none⟩ = some (.int .i64 ((rd_T31 t307 x7_1).f2)) ∧ w'.cell? ⟨(ad312.add ((x7_1).toNat * 4)).block, (ad312.add ((x7_1).toNat * 4)).off + 3, none⟩ = some (.int .i64 ((rd_T31 t307 x7_1).f3))) (ds := []) #[false, false, false, false, false, false, false, false, false, false, false, false, false] (by kernel_rfl) rfl rfl ⟨hx312_0, hx312_1, hx312_2, hx312_3, hx313_0, hx313_1, hx313_2, hx313_3⟩ (fun hHeld => ?_); refine with_tabW queuelablaw01_LexerLongest.tab10 queuelablaw01_LexerLongest.bits10 (fun HT_ HW_ => ?_)
           generalize wr.drew = w14 at HO_4 HB hx312_0 hx312_1 hx312_2 hx312_3 hx313_0 hx313_1 hx313_2 hx313_3 hHeld ⊢
           refine pure_ (i := 0) (N := some 32) (v := ?_) (a' := ?_) #[true, false, false, false, false, false, false, false, false, false, false, false, false] rfl rfl (any_of HT_.out (by kernel_rfl)) (fun _ _ _ h => h) (Or.inl ⟨by rfl, ?_⟩) ?_ ?_
           rotate_left
           · intro w'
             go_simp
             with_reducible rfl
           rotate_left
           · simp only [Act.put, List.setIfInBounds_toArray, List.set_cons_zero, List.set_cons_succ, i64_w, i32_w]
             rfl
           refine pure_ (i := 1) (N := some 33) (v := ?_) (a' := ?_) #[true, true, false, false, false, false, false, false, false, false, false, false, false] rfl rfl (any_of HT_.out (by kernel_rfl)) (fun _ _ _ h => h) (Or.inl ⟨by rfl, ?_⟩) ?_ ?_
           rotate_left
           · intro w'
             go_simp
             with_reducible rfl
           rotate_left
           · simp only [Act.put, List.setIfInBounds_toArray, List.set_cons_zero, List.set_cons_succ, i64_w, i32_w]
             rfl
           refine pure_ (i := 2) (N := some 34) (v := ?_) (a' := ?_) #[true, true, true, false, false, false, false, false, false, false, false, false, false] rfl rfl (any_of HT_.out (by kernel_rfl)) (fun _ _ _ h => h) (Or.inl ⟨by rfl, ?_⟩) ?_ ?_
           rotate_left
           · intro w'
             go_simp
             with_reducible rfl
           rotate_left
           · simp only [Act.put, List.setIfInBounds_toArray, List.set_cons_zero, List.set_cons_succ, i64_w, i32_w]
             rfl
           refine pure_ (i := 3) (N := some 35) (v := ?_) (a' := ?_) #[true, true, true, true, false, false, false, false, false, false, false, false, false] rfl rfl (any_of HT_.out (by kernel_rfl)) (fun _ _ _ h => h) (Or.inl ⟨by rfl, ?_⟩) ?_ ?_
           rotate_left
           · intro w'
             go_simp
             with_reducible rfl
           rotate_left
           · simp only [Act.put, List.setIfInBounds_toArray, List.set_cons_zero, List.set_cons_succ, i64_w, i32_w]
             rfl
           refine pure_ (i := 5) (N := some 37) (v := ?_) (a' := ?_) #[true, true, true, true, false, true, false, false, false, false, false, false, false] rfl rfl (any_of HT_.out (by kernel_rfl)) (fun _ _ _ h => h) (Or.inl ⟨by rfl, ?_⟩) ?_ ?_
           rotate_left
           · intro w'
             go_simp
             with_reducible rfl
           rotate_left
           · simp only [Act.put, List.setIfInBounds_toArray, List.set_cons_zero, List.set_cons_succ, i64_w, i32_w]
             rfl
           refine pure_ (i := 6) (N := some 38) (v := ?_) (a' := ?_) #[true, true, true, true, false, true, true, false, false, false, false, false, false] rfl rfl (any_of HT_.out (by kernel_rfl)) (fun _ _ _ h => h) (Or.inl ⟨by rfl, ?_⟩) ?_ ?_
           rotate_left
           · intro w'
             go_simp
             with_reducible rfl
           rotate_left
           · simp only [Act.put, List.setIfInBounds_toArray, List.set_cons_zero, List.set_cons_succ, i64_w, i32_w]
             rfl
           refine pure_ (i := 7) (N := some 39) (v := ?_) (a' := ?_) #[true, true, true, true, false, true, true, true, false, false, false, false, false] rfl rfl (any_of HT_.out (by kernel_rfl)) (fun _ _ _ h => h) (Or.inl ⟨by rfl, ?_⟩) ?_ ?_
           rotate_left
           · intro w'
             go_simp
             with_reducible rfl
           rotate_left
           · simp only [Act.put, List.setIfInBounds_toArray, List.set_cons_zero, List.set_cons_succ, i64_w, i32_w]
             rfl
           refine take_ (i := 4) (N := some 36) (v := ?_) (a' := ?_) #[true, true, true, true, true, true, true, true, false, false, false, false, false] rfl rfl (take_ofW HT_.out HW_.out (by kernel_rfl)) (fun _ _ _ h => h) (Or.inl ⟨by rfl, ?_⟩) hHeld ?_ ?_
           rotate_left
           · rintro w' ⟨s0, s1, s2, s3, s4, s5, s6, s7⟩
             go_simp
             with_reducible rfl
           rotate_left
           · simp only [Act.put, List.setIfInBounds_toArray, List.set_cons_zero, List.set_cons_succ, i64_w, i32_w]
             rfl
           refine take_ (i := 8) (N := some 40) (v := ?_) (a' := ?_) #[true, true, true, true, true, true, true, true, true, false, false, false, false] rfl rfl (take_ofW HT_.out HW_.out (by kernel_rfl)) (fun _ _ _ h => h) (Or.inl ⟨by rfl, ?_⟩) hHeld ?_ ?_
           rotate_left
           · rintro w' ⟨s0, s1, s2, s3, s4, s5, s6, s7⟩
             go_simp
             with_reducible rfl
           rotate_left
           · simp only [Act.put, List.setIfInBounds_toArray, List.set_cons_zero, List.set_cons_succ, i64_w, i32_w]
             rfl
           refine one_ (i := 9) (N := some 41) #[true, true, true, true, true, true, true, true, true, true, false, false, false] rfl rfl (one_of HT_.out (by kernel_rfl)) (by decide) (fun K hK => ?_)
           refine goes_ Tryd.func14 (by kernel_rfl) rfl #[.agg #[.int .i64 ((rd_T31 t307 x7_1).f0), .string ((rd_T31 t307 x7_1).f1), .int .i64 ((rd_T31 t307 x7_1).f2), .int .i64 ((rd_T31 t307 x7_1).f3)]] (by rfl) rfl rfl (by (try simp only [lma, lmc, lmn]); first | done | rfl | (simp only [lld, llt]; rfl)) ?_
           with_reducible refine (queuelabref01_Text.calls k1 ((rd_T31 t307 x7_1).f0) ((rd_T31 t307 x7_1).f1) ((rd_T31 t307 x7_1).f2) ((rd_T31 t307 x7_1).f3) t314 _ A11.out).mono ?_
           rintro e w15 ⟨rfl, hb⟩
           have HS0_ := (hb.cell (World.block_lt_of_cell? _ _ (hHeld.1))).trans (hHeld.1)
           have HS1_ := (hb.cell (World.block_lt_of_cell? _ _ (hHeld.2.1))).trans (hHeld.2.1)
           have HS2_ := (hb.cell (World.block_lt_of_cell? _ _ (hHeld.2.2.1))).trans (hHeld.2.2.1)
           have HS3_ := (hb.cell (World.block_lt_of_cell? _ _ (hHeld.2.2.2.1))).trans (hHeld.2.2.2.1)
           have HS4_ := (hb.cell (World.block_lt_of_cell? _ _ (hHeld.2.2.2.2.1))).trans (hHeld.2.2.2.2.1)
           have HS5_ := (hb.cell (World.block_lt_of_cell? _ _ (hHeld.2.2.2.2.2.1))).trans (hHeld.2.2.2.2.2.1)
           have HS6_ := (hb.cell (World.block_lt_of_cell? _ _ (hHeld.2.2.2.2.2.2.1))).trans (hHeld.2.2.2.2.2.2.1)
           have HS7_ := (hb.cell (World.block_lt_of_cell? _ _ (hHeld.2.2.2.2.2.2.2))).trans (hHeld.2.2.2.2.2.2.2)
           refine ⟨_, rfl, ?_⟩
           have n0_ := Aside0.mk (Kd.R_below (by (with_reducible repeat (first | apply ra | apply rn | apply rd1)); exact HO_4.out) hb)
           have n1_ := Aside0.mk (below_step (by repeat first | (with_reducible first | exact HB.out | apply ba | apply bn | apply bd) | exact HB.out) hb)
           clear HO_4
           clear HB
           have HO_4 := n0_
           have HB := n1_
           clear n0_ n1_
           (try clear hb)
           (try clear hb2)
           (try clear hk)
           (try clear hi)
           refine hK.out _ _ ⟨HS0_, HS1_, HS2_, HS3_, HS4_, HS5_, HS6_, HS7_⟩ (fun hHeld => ?_)
           clear hK K
           refine norm_ (a' := ?_) ?_ ?_
           rotate_left
           · show Act.put _ (some 41) _ = _
             simp only [Act.put, List.setIfInBounds_toArray, List.set_cons_zero, List.set_cons_succ, i64_w, i32_w]
             rfl
           refine pure_ (i := 10) (N := some 42) (v := ?_) (a' := ?_) #[true, true, true, true, true, true, true, true, true, true, true, false, false] rfl rfl (any_of HT_.out (by kernel_rfl)) (fun _ _ _ h => h) (Or.inl ⟨by rfl, ?_⟩) ?_ ?_
           rotate_left
           · intro w'
             go_simp
             with_reducible rfl
           rotate_left
           · simp only [Act.put, List.setIfInBounds_toArray, List.set_cons_zero, List.set_cons_succ, i64_w, i32_w]
             rfl
           refine pure_ (i := 11) (N := some 43) (v := ?_) (a' := ?_) #[true, true, true, true, true, true, true, true, true, true, true, true, false] rfl rfl (any_of HT_.out (by kernel_rfl)) (fun _ _ _ h => h) (Or.inl ⟨by rfl, ?_⟩) ?_ ?_
           rotate_left
           · intro w'
             go_simp
             with_reducible rfl
           rotate_left
           · simp only [Act.put, List.setIfInBounds_toArray, List.set_cons_zero, List.set_cons_succ, i64_w, i32_w]
             rfl
           refine pure_ (i := 12) (N := some 8) (v := ?_) (a' := ?_) #[true, true, true, true, true, true, true, true, true, true, true, true, true] rfl rfl (any_of HT_.out (by kernel_rfl)) (fun _ _ _ h => h) (Or.inl ⟨by rfl, ?_⟩) ?_ ?_
           rotate_left
           · intro w'
             go_simp
             with_reducible rfl
           rotate_left
           · simp only [Act.put, List.setIfInBounds_toArray, List.set_cons_zero, List.set_cons_succ, i64_w, i32_w]
             rfl
           refine done_ (done_of HT_.out (by kernel_rfl)) ?_
           go_upto_region 11 with (fail)
           go_cut [64] (fun v64 wc => ∃ (kq : Nat) (x64_11 : Bool), v64 = .bool x64_11 ∧ Aside0 (queuelablaw01_LexerLongest.j1 kq a0 t306 t307 x7_1 (wrap64 (((rd_T31 t307 x7_1).f3) + (t314.size : Int))) x64_11 = some r) ∧ Aside0 (kq ≤ k1) ∧ Aside0 (Kd.R k31 31 wc w.heap.size (fun _ => True) (.slice (some ad312) t307.length co13) t307) ∧ Aside0 (Below w.heap.size w wc))
           case first =>
            have H := HC12.out
            clear HC12
            by_cases c16 : ((rd_T31 t307 x7_1).f3) < 0
            · rw [if_pos c16] at H
              have c16b0 : decide (((rd_T31 t307 x7_1).f3) < 0) = true := decide_eq_true c16
              clear c16
              (first | rw [c16b0] | (simp only [i64_w, i32_w]; rw [c16b0]) | skip)
              have H' := Aside0.mk H
              clear H
              have p315 : 0 ≤ (x7_1 : Int) := of_decide_eq_true (by first | (with_reducible assumption) | assumption)
              have q315 : x7_1 < (t307.length : Int) := of_decide_eq_true (by first | (with_reducible assumption) | assumption)
              obtain ⟨ad315, e315, hx315_0, hx315_1, hx315_2, hx315_3⟩ := at_T31 (Kd.R_reads' HO_4.out).2.2 x7_1 p315 q315
              obtain rfl : ad312 = ad315 := (by injection e315)
              replace p315 := eq_true p315
              replace q315 := eq_true q315
              go_wp2
              go_meet
              case rel => exact ⟨_, (true), (by first | rfl | (simp; done) | (simp [*]; done)), H', ⟨by have := HK1.out; first | omega | exact Nat.le_refl _⟩, ⟨by (with_reducible repeat (first | apply ra | apply rn | apply rd1)); exact HO_4.out⟩, ⟨by repeat (first | (with_reducible first | exact HB.out | apply ba | apply bn | apply bd) | exact HB.out)⟩⟩
            · rw [if_neg c16] at H
              have c16b0 : decide (((rd_T31 t307 x7_1).f3) < 0) = false := decide_eq_false c16
              clear c16
              (first | rw [c16b0] | (simp only [i64_w, i32_w]; rw [c16b0]) | skip)
              by_cases c17 : (wrap64 (((rd_T31 t307 x7_1).f3) + (t314.size : Int))) > (a0.size : Int)
              · rw [if_pos c17] at H
                have c17b0 : decide ((a0.size : Int) < (wrap64 (((rd_T31 t307 x7_1).f3) + (t314.size : Int)))) = true := decide_eq_true c17
                clear c17
                have H' := Aside0.mk H
                clear H
                have p315 : 0 ≤ (x7_1 : Int) := of_decide_eq_true (by first | (with_reducible assumption) | assumption)
                have q315 : x7_1 < (t307.length : Int) := of_decide_eq_true (by first | (with_reducible assumption) | assumption)
                obtain ⟨ad315, e315, hx315_0, hx315_1, hx315_2, hx315_3⟩ := at_T31 (Kd.R_reads' HO_4.out).2.2 x7_1 p315 q315
                obtain rfl : ad312 = ad315 := (by injection e315)
                replace p315 := eq_true p315
                replace q315 := eq_true q315
                go_wp2
                go_meet
                case rel => exact ⟨_, (true), (by first | rfl | (simp; done) | (simp [*]; done)), H', ⟨by have := HK1.out; first | omega | exact Nat.le_refl _⟩, ⟨by (with_reducible repeat (first | apply ra | apply rn | apply rd1)); exact HO_4.out⟩, ⟨by repeat (first | (with_reducible first | exact HB.out | apply ba | apply bn | apply bd) | exact HB.out)⟩⟩
              · rw [if_neg c17] at H
                have c17b0 : decide ((a0.size : Int) < (wrap64 (((rd_T31 t307 x7_1).f3) + (t314.size : Int)))) = false := decide_eq_false c17
                clear c17
                have H' := Aside0.mk H
                clear H
                have p315 : 0 ≤ (x7_1 : Int) := of_decide_eq_true (by first | (with_reducible assumption) | assumption)
                have q315 : x7_1 < (t307.length : Int) := of_decide_eq_true (by first | (with_reducible assumption) | assumption)
                obtain ⟨ad315, e315, hx315_0, hx315_1, hx315_2, hx315_3⟩ := at_T31 (Kd.R_reads' HO_4.out).2.2 x7_1 p315 q315
                obtain rfl : ad312 = ad315 := (by injection e315)
                replace p315 := eq_true p315
                replace q315 := eq_true q315
                have p316 : 0 ≤ (x7_1 : Int) := of_decide_eq_true (by first | (with_reducible assumption) | assumption)
                have q316 : x7_1 < (t307.length : Int) := of_decide_eq_true (by first | (with_reducible assumption) | assumption)
                obtain ⟨ad316, e316, hx316_0, hx316_1, hx316_2, hx316_3⟩ := at_T31 (Kd.R_reads' HO_4.out).2.2 x7_1 p316 q316
                obtain rfl : ad312 = ad316 := (by injection e316)
                replace p316 := eq_true p316
                replace q316 := eq_true q316
                go_wp2
                go_meet
                case rel => exact ⟨_, (decide ((wrap64 (((rd_T31 t307 x7_1).f3) + (t314.size : Int))) ≤ ((rd_T31 t307 x7_1).f3))), (by first | rfl | (simp; done) | (simp [*]; done)), H', ⟨by have := HK1.out; first | omega | exact Nat.le_refl _⟩, ⟨by (with_reducible repeat (first | apply ra | apply rn | apply rd1)); exact HO_4.out⟩, ⟨by repeat (first | (with_reducible first | exact HB.out | apply ba | apply bn | apply bd) | exact HB.out)⟩⟩
           case rest =>
            clear HC12
            try clear c1
            try clear p2
            try clear c3
            try clear c3b0
            try clear c3b1
            try clear p3
            try clear q3
            try clear hx3
            try clear c6
            try clear c6b0
            try clear c6b1
            try clear p6
            try clear c9
            try clear c9b0
            try clear c10
            try clear c10b0
            try clear c11
            try clear c14
            try clear c16
            try clear c16b0
            try clear c17
            try clear c17b0
            try clear hx312_0
            try clear hx312_1
            try clear hx312_2
            try clear hx312_3
            try clear hx313_0
            try clear hx313_1
            try clear hx313_2
            try clear hx313_3
            try clear hx315_0
            try clear hx315_1
            try clear hx315_2
            try clear hx315_3
            try clear hx316_0
            try clear hx316_1
            try clear hx316_2
            try clear hx316_3
            try clear p2
            try clear p312
            try clear p313
            try clear p315
            try clear p316
            try clear q312
            try clear q313
            try clear q315
            try clear q316
            obtain ⟨kq, x64_11, rfl, HA, HJ11, HO_4, HB⟩ := hcut
            cases kq with
            | zero => exact absurd HA.out (by simp [queuelablaw01_LexerLongest.j1])
            | succ kj11 =>
             have H := HA.out
             clear HA
             simp only [queuelablaw01_LexerLongest.j1] at H
             by_cases c18 : x64_11 = true
             · subst c18
               have H1 : (some false) = some r := by rw [if_pos rfl] at H; exact H
               clear H
               have H := H1
               clear H1
               obtain rfl := Option.some.inj H
               go_wp2
               go_ret
               exact ⟨by first | rfl | (simp [errW_none, errW_some] <;> rfl) | (simp [*, errW_none, errW_some] <;> rfl), by repeat (first | (with_reducible first | exact HB.out | apply ba | apply bn | apply bd) | exact HB.out)⟩
             · replace c18 := Bool.eq_false_iff.mpr c18
               subst c18
               have H1 : (if (wrap64 (((rd_T31 t307 x7_1).f3) + (t314.size : Int))) = (a0.size : Int) then (queuelablaw01_LexerLongest.j2 kj11 a0 t306 t307 x7_1 (wrap64 (((rd_T31 t307 x7_1).f3) + (t314.size : Int))) true) else ((queuelabref01_Gap.f kj11 a0 (wrap64 (((rd_T31 t307 x7_1).f3) + (t314.size : Int)))).bind fun t317 => (queuelablaw01_LexerLongest.j2 kj11 a0 t306 t307 x7_1 (wrap64 (((rd_T31 t307 x7_1).f3) + (t314.size : Int))) (decide (t317 > (wrap64 (((rd_T31 t307 x7_1).f3) + (t314.size : Int)))))))) = some r := by rw [if_neg (show ¬ (false = true) by decide)] at H; exact H
               clear H
               have H := H1
               clear H1
               have HC19 := Aside0.mk H
               clear H
               go_upto_region 13 with (fail)
               go_cut [75] (fun v75 wc => ∃ (kq : Nat) (x75_18 : Bool), v75 = .bool x75_18 ∧ Aside0 (queuelablaw01_LexerLongest.j2 kq a0 t306 t307 x7_1 (wrap64 (((rd_T31 t307 x7_1).f3) + (t314.size : Int))) x75_18 = some r) ∧ Aside0 (kq ≤ kj11) ∧ Aside0 (Kd.R k31 31 wc w.heap.size (fun _ => True) (.slice (some ad312) t307.length co13) t307) ∧ Aside0 (Below w.heap.size w wc))
               case first =>
                have H := HC19.out
                clear HC19
                by_cases c20 : (wrap64 (((rd_T31 t307 x7_1).f3) + (t314.size : Int))) = (a0.size : Int)
                · rw [if_pos c20] at H
                  have c20b0 : ((wrap64 (((rd_T31 t307 x7_1).f3) + (t314.size : Int))) == (a0.size : Int)) = true := beq_iff_eq.mpr c20
                  have c20b1 : ((wrap64 (((rd_T31 t307 x7_1).f3) + (t314.size : Int))) != (a0.size : Int)) = false := bne_eq_false_iff_eq.mpr c20
                  clear c20
                  (first | rw [c20b0] | (simp only [i64_w, i32_w]; rw [c20b0]) | skip)
                  have H' := Aside0.mk H
                  clear H
                  go_wp2
                  go_meet
                  case rel => exact ⟨_, (true), (by first | rfl | (simp; done) | (simp [*]; done)), H', ⟨by have := HK1.out; have := HJ11.out; first | omega | exact Nat.le_refl _⟩, ⟨by (with_reducible repeat (first | apply ra | apply rn | apply rd1)); exact HO_4.out⟩, ⟨by repeat (first | (with_reducible first | exact HB.out | apply ba | apply bn | apply bd) | exact HB.out)⟩⟩
                · rw [if_neg c20] at H
                  have c20b0 : ((wrap64 (((rd_T31 t307 x7_1).f3) + (t314.size : Int))) == (a0.size : Int)) = false := beq_eq_false_iff_ne.mpr c20
                  have c20b1 : ((wrap64 (((rd_T31 t307 x7_1).f3) + (t314.size : Int))) != (a0.size : Int)) = true := bne_iff_ne.mpr c20
                  (first | rw [c20b0] | (simp only [i64_w, i32_w]; rw [c20b0]) | skip)
                  replace H := obs.mp H
                  obtain ⟨t317, A210, H⟩ := H
                  replace H : (queuelablaw01_LexerLongest.j2 kj11 a0 t306 t307 x7_1 (wrap64 (((rd_T31 t307 x7_1).f3) + (t314.size : Int))) (decide (t317 > (wrap64 (((rd_T31 t307 x7_1).f3) + (t314.size : Int)))))) = some r := H
                  have A21 := Aside0.mk A210
                  clear A210
                  have H' := Aside0.mk H
                  clear H
                  go_wp2_with (first | (go_at_call 15; (with_reducible refine (queuelabref01_Gap.calls kj11 a0 (wrap64 (((rd_T31 t307 x7_1).f3) + (t314.size : Int))) t317 _ A21.out).mono ?_); rintro e w' ⟨rfl, ⟨nd, rfl⟩⟩))
                  go_meet
                  case rel => exact ⟨_, (decide (t317 > (wrap64 (((rd_T31 t307 x7_1).f3) + (t314.size : Int))))), (by first | rfl | (simp; done) | (simp [*]; done)), H', ⟨by have := HK1.out; have := HJ11.out; first | omega | exact Nat.le_refl _⟩, ⟨by (with_reducible repeat (first | apply ra | apply rn | apply rd1)); exact HO_4.out⟩, ⟨by repeat (first | (with_reducible first | exact HB.out | apply ba | apply bn | apply bd) | exact HB.out)⟩⟩
               case rest =>
                clear HC19
                try clear c1
                try clear c2
                try clear p2
                try clear c3
                try clear c3b0
                try clear c3b1
                try clear p3
                try clear q3
                try clear hx3
                try clear c6
                try clear c6b0
                try clear c6b1
                try clear p6
                try clear c9
                try clear c9b0
                try clear c10
                try clear c10b0
                try clear c11
                try clear c14
                try clear c16
                try clear c16b0
                try clear c17
                try clear c17b0
                try clear c18
                try clear c20
                try clear c20b0
                try clear c20b1
                try clear hx312_0
                try clear hx312_1
                try clear hx312_2
                try clear hx312_3
                try clear hx313_0
                try clear hx313_1
                try clear hx313_2
                try clear hx313_3
                try clear hx315_0
                try clear hx315_1
                try clear hx315_2
                try clear hx315_3
                try clear hx316_0
                try clear hx316_1
                try clear hx316_2
                try clear hx316_3
                try clear p2
                try clear p3
                try clear p312
                try clear p313
                try clear p315
                try clear p316
                try clear p6
                try clear q3
                try clear q312
                try clear q313
                try clear q315
                try clear q316
                obtain ⟨kq, x75_18, rfl, HA, HJ18, HO_4, HB⟩ := hcut
                cases kq with
                | zero => exact absurd HA.out (by simp [queuelablaw01_LexerLongest.j2])
                | succ kj18 =>
                 have H := HA.out
                 clear HA
                 simp only [queuelablaw01_LexerLongest.j2] at H
                 by_cases c22 : x75_18 = true
                 · subst c22
                   have H1 : (queuelablaw01_LexerLongest.l0 kj18 a0 t306 t307 (wrap64 (x7_1 + 1))) = some r := by rw [if_pos rfl] at H; exact H
                   clear H
                   have H := H1
                   clear H1
                   have H' := Aside0.mk H
                   clear H
                   go_wp2
                   go_roundg kj18
                   case measure => have := HK1.out; have := HJ11.out; have := HJ18.out; omega
                   case rel => exact ⟨(wrap64 (x7_1 + 1)), (by first | rfl | (simp; done) | (simp [*]; done)), H', ⟨by have := HK1.out; have := HJ11.out; have := HJ18.out; omega⟩, ⟨by (with_reducible repeat (first | apply ra | apply rn | apply rd1)); exact HO_4.out⟩, ⟨by repeat (first | (with_reducible first | exact HB.out | apply ba | apply bn | apply bd) | exact HB.out)⟩⟩
                 · replace c22 := Bool.eq_false_iff.mpr c22
                   subst c22
                   have H1 : (if 0 ≤ x7_1 then (if x7_1 < (t307.length : Int) then (if 0 ≤ ((rd_T31 t307 x7_1).f3) then (if ((rd_T31 t307 x7_1).f3) ≤ (wrap64 ((wrap64 (((rd_T31 t307 x7_1).f3) + (t314.size : Int))) + 1)) then (if (wrap64 ((wrap64 (((rd_T31 t307 x7_1).f3) + (t314.size : Int))) + 1)) ≤ (a0.size : Int) then ((lexer_Lex.f kj18 (a0.extract (((rd_T31 t307 x7_1).f3) : Int).toNat ((wrap64 ((wrap64 (((rd_T31 t307 x7_1).f3) + (t314.size : Int))) + 1)) : Int).toNat)).bind fun bt319 => (if bt319.2.1 = 0 then (if (bt319.1.length : Int) < 2 then (some false) else (queuelablaw01_LexerLongest.l0 kj18 a0 t306 t307 (wrap64 (x7_1 + 1)))) else (queuelablaw01_LexerLongest.l0 kj18 a0 t306 t307 (wrap64 (x7_1 + 1))))) else (none)) else (none)) else (none)) else (none)) else (none)) = some r := by rw [if_neg (show ¬ (false = true) by decide)] at H; exact H
                   clear H
                   have H := H1
                   clear H1
                   by_cases c23 : 0 ≤ x7_1
                   · rw [if_pos c23] at H
                     have c23b0 : decide (0 ≤ x7_1) = true := decide_eq_true c23
                     clear c23
                     by_cases c24 : x7_1 < (t307.length : Int)
                     · rw [if_pos c24] at H
                       have c24b0 : decide (x7_1 < (t307.length : Int)) = true := decide_eq_true c24
                       clear c24
                       by_cases c25 : 0 ≤ ((rd_T31 t307 x7_1).f3)
                       · rw [if_pos c25] at H
                         have c25b0 := eq_true c25
                         have c25b1 : decide (0 ≤ ((rd_T31 t307 x7_1).f3)) = true := decide_eq_true c25
                         clear c25
                         by_cases c26 : ((rd_T31 t307 x7_1).f3) ≤ (wrap64 ((wrap64 (((rd_T31 t307 x7_1).f3) + (t314.size : Int))) + 1))
                         · rw [if_pos c26] at H
                           have c26b0 := eq_true c26
                           have c26b1 : decide (((rd_T31 t307 x7_1).f3) ≤ (wrap64 ((wrap64 (((rd_T31 t307 x7_1).f3) + (t314.size : Int))) + 1))) = true := decide_eq_true c26
                           by_cases c27 : (wrap64 ((wrap64 (((rd_T31 t307 x7_1).f3) + (t314.size : Int))) + 1)) ≤ (a0.size : Int)
                           · rw [if_pos c27] at H
                             have c27b0 := eq_true c27
                             have c27b1 : decide ((wrap64 ((wrap64 (((rd_T31 t307 x7_1).f3) + (t314.size : Int))) + 1)) ≤ (a0.size : Int)) = true := decide_eq_true c27
                             replace H := obs.mp H
                             obtain ⟨⟨t319, t320, t321⟩, A280, H⟩ := H
                             replace H : (if t320 = 0 then (if (t319.length : Int) < 2 then (some false) else (queuelablaw01_LexerLongest.l0 kj18 a0 t306 t307 (wrap64 (x7_1 + 1)))) else (queuelablaw01_LexerLongest.l0 kj18 a0 t306 t307 (wrap64 (x7_1 + 1)))) = some r := H
                             have A28 := Aside0.mk A280
                             clear A280
                             by_cases c29 : t320 = 0
                             · rw [if_pos c29] at H
                               have c29b0 : (t320 == 0) = true := beq_iff_eq.mpr c29
                               have c29b1 : (t320 != 0) = false := bne_eq_false_iff_eq.mpr c29
                               clear c29
                               by_cases c30 : (t319.length : Int) < 2
                               · rw [if_pos c30] at H
                                 have c30b0 : decide ((t319.length : Int) < 2) = true := decide_eq_true c30
                                 have c30b1 : decide (t319.length < 2) = true := decide_eq_true (by omega)
                                 clear c30
                                 obtain rfl := Option.some.inj H
                                 have p318 : 0 ≤ (x7_1 : Int) := of_decide_eq_true (by first | (with_reducible assumption) | assumption)
                                 have q318 : x7_1 < (t307.length : Int) := of_decide_eq_true (by first | (with_reducible assumption) | assumption)
                                 obtain ⟨ad318, e318, hx318_0, hx318_1, hx318_2, hx318_3⟩ := at_T31 (Kd.R_reads' HO_4.out).2.2 x7_1 p318 q318
                                 obtain rfl : ad312 = ad318 := (by injection e318)
                                 replace p318 := eq_true p318
                                 replace q318 := eq_true q318
                                 go_wp2_with (first | ((with_reducible refine gce (f := 11) rfl ?_); refine goesL_ (some 86) rfl rfl Tryd.func11 (by kernel_rfl) rfl #[.string (a0.extract (((rd_T31 t307 x7_1).f3) : Int).toNat ((wrap64 ((wrap64 (((rd_T31 t307 x7_1).f3) + (t314.size : Int))) + 1)) : Int).toNat)] rfl (by (try simp only [lma, lmc, lmn]); first | done | rfl | (simp only [lld, llt]; rfl)) ?_; (with_reducible refine (lexer_Lex.calls kj18 (a0.extract (((rd_T31 t307 x7_1).f3) : Int).toNat ((wrap64 ((wrap64 (((rd_T31 t307 x7_1).f3) + (t314.size : Int))) + 1)) : Int).toNat) t319 t320 t321 _ ?side1 A28.out).mono ?_); (case side1 => exact Glob.mono hG (by repeat first | (with_reducible first | exact HB.out | apply ba | apply bn | apply bd) | exact HB.out)); rintro e w31 ⟨v322, rfl, ho0, hb⟩; refine ⟨_, rfl, ?_⟩; have n0_ := Aside0.mk (Kd.R_elder' (by (with_reducible repeat (first | apply ra | apply rn | apply rd1)); exact HO_4.out) (Kd.R_base ho0) hb); have n1_ := Aside0.mk (Kd.R_lower (Kd.R_new' ho0 (Kd.R_lt (by (with_reducible repeat (first | apply ra | apply rn | apply rd1)); exact HO_4.out))) (below_size (by repeat first | (with_reducible first | exact HB.out | apply ba | apply bn | apply bd) | exact HB.out))); have n2_ := Aside0.mk (below_step (by repeat first | (with_reducible first | exact HB.out | apply ba | apply bn | apply bd) | exact HB.out) hb); clear HO_4; clear HB; have HO_4 := n0_; have HO323 := n1_; have HB := n2_; clear n0_ n1_ n2_; (try clear hb); (try clear hb2); (try clear hk); (try clear hi); (try clear ho0); obtain ⟨Ao32, co32, eo32⟩ := Kd.R_slice HO323.out; subst eo32))
                                 go_ret
                                 exact ⟨by first | rfl | (simp [errW_none, errW_some] <;> rfl) | (simp [*, errW_none, errW_some] <;> rfl), by repeat (first | (with_reducible first | exact HB.out | apply ba | apply bn | apply bd) | exact HB.out)⟩
                               · rw [if_neg c30] at H
                                 have c30b0 : decide ((t319.length : Int) < 2) = false := decide_eq_false c30
                                 have c30b1 : decide (t319.length < 2) = false := decide_eq_false (by omega)
                                 clear c30
                                 have H' := Aside0.mk H
                                 clear H
                                 have p318 : 0 ≤ (x7_1 : Int) := of_decide_eq_true (by first | (with_reducible assumption) | assumption)
                                 have q318 : x7_1 < (t307.length : Int) := of_decide_eq_true (by first | (with_reducible assumption) | assumption)
                                 obtain ⟨ad318, e318, hx318_0, hx318_1, hx318_2, hx318_3⟩ := at_T31 (Kd.R_reads' HO_4.out).2.2 x7_1 p318 q318
                                 obtain rfl : ad312 = ad318 := (by injection e318)
                                 replace p318 := eq_true p318
                                 replace q318 := eq_true q318
                                 go_wp2_with (first | ((with_reducible refine gce (f := 11) rfl ?_); refine goesL_ (some 86) rfl rfl Tryd.func11 (by kernel_rfl) rfl #[.string (a0.extract (((rd_T31 t307 x7_1).f3) : Int).toNat ((wrap64 ((wrap64 (((rd_T31 t307 x7_1).f3) + (t314.size : Int))) + 1)) : Int).toNat)] rfl (by (try simp only [lma, lmc, lmn]); first | done | rfl | (simp only [lld, llt]; rfl)) ?_; (with_reducible refine (lexer_Lex.calls kj18 (a0.extract (((rd_T31 t307 x7_1).f3) : Int).toNat ((wrap64 ((wrap64 (((rd_T31 t307 x7_1).f3) + (t314.size : Int))) + 1)) : Int).toNat) t319 t320 t321 _ ?side1 A28.out).mono ?_); (case side1 => exact Glob.mono hG (by repeat first | (with_reducible first | exact HB.out | apply ba | apply bn | apply bd) | exact HB.out)); rintro e w33 ⟨v322, rfl, ho0, hb⟩; refine ⟨_, rfl, ?_⟩; have n0_ := Aside0.mk (Kd.R_elder' (by (with_reducible repeat (first | apply ra | apply rn | apply rd1)); exact HO_4.out) (Kd.R_base ho0) hb); have n1_ := Aside0.mk (Kd.R_lower (Kd.R_new' ho0 (Kd.R_lt (by (with_reducible repeat (first | apply ra | apply rn | apply rd1)); exact HO_4.out))) (below_size (by repeat first | (with_reducible first | exact HB.out | apply ba | apply bn | apply bd) | exact HB.out))); have n2_ := Aside0.mk (below_step (by repeat first | (with_reducible first | exact HB.out | apply ba | apply bn | apply bd) | exact HB.out) hb); clear HO_4; clear HB; have HO_4 := n0_; have HO323 := n1_; have HB := n2_; clear n0_ n1_ n2_; (try clear hb); (try clear hb2); (try clear hk); (try clear hi); (try clear ho0); obtain ⟨Ao34, co34, eo34⟩ := Kd.R_slice HO323.out; subst eo34))
                                 go_roundg kj18
                                 case measure => have := HK1.out; have := HJ11.out; have := HJ18.out; omega
                                 case rel => exact ⟨(wrap64 (x7_1 + 1)), (by first | rfl | (simp; done) | (simp [*]; done)), H', ⟨by have := HK1.out; have := HJ11.out; have := HJ18.out; omega⟩, ⟨by (with_reducible repeat (first | apply ra | apply rn | apply rd1)); exact Kd.R_mono HO_4.out (fun _ hk => trivial)⟩, ⟨by repeat (first | (with_reducible first | exact HB.out | apply ba | apply bn | apply bd) | exact HB.out)⟩⟩
                             · rw [if_neg c29] at H
                               have c29b0 : (t320 == 0) = false := beq_eq_false_iff_ne.mpr c29
                               have c29b1 : (t320 != 0) = true := bne_iff_ne.mpr c29
                               have H' := Aside0.mk H
                               clear H
                               have p318 : 0 ≤ (x7_1 : Int) := of_decide_eq_true (by first | (with_reducible assumption) | assumption)
                               have q318 : x7_1 < (t307.length : Int) := of_decide_eq_true (by first | (with_reducible assumption) | assumption)
                               obtain ⟨ad318, e318, hx318_0, hx318_1, hx318_2, hx318_3⟩ := at_T31 (Kd.R_reads' HO_4.out).2.2 x7_1 p318 q318
                               obtain rfl : ad312 = ad318 := (by injection e318)
                               replace p318 := eq_true p318
                               replace q318 := eq_true q318
                               go_wp2_with (first | ((with_reducible refine gce (f := 11) rfl ?_); refine goesL_ (some 86) rfl rfl Tryd.func11 (by kernel_rfl) rfl #[.string (a0.extract (((rd_T31 t307 x7_1).f3) : Int).toNat ((wrap64 ((wrap64 (((rd_T31 t307 x7_1).f3) + (t314.size : Int))) + 1)) : Int).toNat)] rfl (by (try simp only [lma, lmc, lmn]); first | done | rfl | (simp only [lld, llt]; rfl)) ?_; (with_reducible refine (lexer_Lex.calls kj18 (a0.extract (((rd_T31 t307 x7_1).f3) : Int).toNat ((wrap64 ((wrap64 (((rd_T31 t307 x7_1).f3) + (t314.size : Int))) + 1)) : Int).toNat) t319 t320 t321 _ ?side1 A28.out).mono ?_); (case side1 => exact Glob.mono hG (by repeat first | (with_reducible first | exact HB.out | apply ba | apply bn | apply bd) | exact HB.out)); rintro e w35 ⟨v322, rfl, ho0, hb⟩; refine ⟨_, rfl, ?_⟩; have n0_ := Aside0.mk (Kd.R_elder' (by (with_reducible repeat (first | apply ra | apply rn | apply rd1)); exact HO_4.out) (Kd.R_base ho0) hb); have n1_ := Aside0.mk (Kd.R_lower (Kd.R_new' ho0 (Kd.R_lt (by (with_reducible repeat (first | apply ra | apply rn | apply rd1)); exact HO_4.out))) (below_size (by repeat first | (with_reducible first | exact HB.out | apply ba | apply bn | apply bd) | exact HB.out))); have n2_ := Aside0.mk (below_step (by repeat first | (with_reducible first | exact HB.out | apply ba | apply bn | apply bd) | exact HB.out) hb); clear HO_4; clear HB; have HO_4 := n0_; have HO323 := n1_; have HB := n2_; clear n0_ n1_ n2_; (try clear hb); (try clear hb2); (try clear hk); (try clear hi); (try clear ho0)))
                               go_roundg kj18
                               case measure => have := HK1.out; have := HJ11.out; have := HJ18.out; omega
                               case rel => exact ⟨(wrap64 (x7_1 + 1)), (by first | rfl | (simp; done) | (simp [*]; done)), H', ⟨by have := HK1.out; have := HJ11.out; have := HJ18.out; omega⟩, ⟨by (with_reducible repeat (first | apply ra | apply rn | apply rd1)); exact Kd.R_mono HO_4.out (fun _ hk => trivial)⟩, ⟨by repeat (first | (with_reducible first | exact HB.out | apply ba | apply bn | apply bd) | exact HB.out)⟩⟩
                           · rw [if_neg c27] at H
                             exact absurd H (by simp)
                         · rw [if_neg c26] at H
                           exact absurd H (by simp)
                       · rw [if_neg c25] at H
                         exact absurd H (by simp)
                     · rw [if_neg c24] at H
                       exact absurd H (by simp)
                   · rw [if_neg c23] at H
                     exact absurd H (by simp)
         · rw [if_neg c10] at H
           exact absurd H (by simp)
       · rw [if_neg c9] at H
         have c9b0 : decide (x7_1 < (t307.length : Int)) = false := decide_eq_false c9
         clear c9
         obtain rfl := Option.some.inj H
         obtain ⟨Ao36, co36, eo36⟩ := Kd.R_slice HO_4.out
         subst eo36
         go_wp2
         go_ret
         exact ⟨by first | rfl | (simp [errW_none, errW_some] <;> rfl) | (simp [*, errW_none, errW_some] <;> rfl), by repeat (first | (with_reducible first | exact HB.out | apply ba | apply bn | apply bd) | exact HB.out)⟩
   · rw [if_neg c6] at H
     have c6b0 : (t308 == 0) = false := beq_eq_false_iff_ne.mpr c6
     have c6b1 : (t308 != 0) = true := bne_iff_ne.mpr c6
     obtain rfl := Option.some.inj H
     go_enter Tryd.func9, Tryd.ntmps9
     go_wp2_with (first | ((with_reducible refine gce (f := 10) rfl ?_); refine goesL_ (some 12) rfl rfl Tryd.func10 (by kernel_rfl) rfl #[] rfl (by (try simp only [lma, lmc, lmn]); first | done | rfl | (simp only [lld, llt]; rfl)) ?_; (with_reducible refine (queuelablaw01_head.calls k  t306 _ ?side1 A2.out).mono ?_); (case side1 => exact Glob.mono hG (by repeat first | (with_reducible first | exact HB.out | apply ba | apply bn | apply bd) | exact HB.out)); rintro e w37 ⟨rfl, hb⟩; refine ⟨_, rfl, ?_⟩; have n0_ := Aside0.mk (below_step (by repeat first | (with_reducible first | exact HB.out | apply ba | apply bn | apply bd) | exact HB.out) hb); clear HB; have HB := n0_; clear n0_; (try clear hb); (try clear hb2); (try clear hk); (try clear hi)) | ((with_reducible refine gce (f := 11) rfl ?_); refine goesL_ (some 19) rfl rfl Tryd.func11 (by kernel_rfl) rfl #[.string a0] rfl (by (try simp only [lma, lmc, lmn]); first | done | rfl | (simp only [lld, llt]; rfl)) ?_; (with_reducible refine (lexer_Lex.calls k a0 t307 t308 t309 _ ?side1 A5.out).mono ?_); (case side1 => exact Glob.mono hG (by repeat first | (with_reducible first | exact HB.out | apply ba | apply bn | apply bd) | exact HB.out)); rintro e w38 ⟨v310, rfl, ho0, hb⟩; refine ⟨_, rfl, ?_⟩; have n0_ := Aside0.mk (Kd.R_lower ho0 (below_size (by repeat first | (with_reducible first | exact HB.out | apply ba | apply bn | apply bd) | exact HB.out))); have n1_ := Aside0.mk (below_step (by repeat first | (with_reducible first | exact HB.out | apply ba | apply bn | apply bd) | exact HB.out) hb); clear HB; have HO311 := n0_; have HB := n1_; clear n0_ n1_; (try clear hb); (try clear hb2); (try clear hk); (try clear hi); (try clear ho0)))
     go_ret
     exact ⟨by first | rfl | (simp [errW_none, errW_some] <;> rfl) | (simp [*, errW_none, errW_some] <;> rfl), by repeat (first | (with_reducible first | exact HB.out | apply ba | apply bn | apply bd) | exact HB.out)⟩

/-- THE ONE PURE STATEMENT of queuelablaw01_LexerLongest: yours. -/
def queuelablaw01_LexerLongest.Pure : Prop := ∀ (a0 : ByteArray), a0.size ≤ 140737488351232 → ∃ k, queuelablaw01_LexerLongest.f k a0 = some true
theorem queuelablaw01_LexerLongest.walk (P : queuelablaw01_LexerLongest.Pure) (a0 : ByteArray) (w : World) (hG : Glob w) (w0 : a0.size ≤ 140737488351232) :
 Calls Tryd.prog 9 #[.string a0] w fun e w' => e = .returned (.bool true) ∧ Below w.heap.size w w' := by
 obtain ⟨k, h⟩ := P a0 w0
 refine (queuelablaw01_LexerLongest.calls k a0 true w hG h).mono ?_
 rintro e w' ⟨rfl, hd⟩
 exact ⟨rfl, hd⟩

end Go.Proofs.YtgkpjfbghjojoaaDoor.L
