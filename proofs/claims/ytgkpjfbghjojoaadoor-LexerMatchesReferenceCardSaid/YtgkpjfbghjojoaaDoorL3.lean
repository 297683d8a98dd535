-- PRINTED by print.py (a twelfth state) out of the translation. Not trusted: Lean checks it.
import Derived.Test.YtgkpjfbghjojoaaDoorL0
import Derived.Test.YtgkpjfbghjojoaaDoorL2
namespace Go.Proofs.YtgkpjfbghjojoaaDoor.L
open Go.RowKit Go.Proofs.YtgkpjfbghjojoaaDoorW.PrintWords Go.Proofs.YtgkpjfbghjojoaaDoorW.PrintLast Go.Proofs.YtgkpjfbghjojoaaDoorW.PrintMore
attribute [local go_sem] max2_int min2_int max_two min_two max_three min_three max_four min_four   -- for this text's walks alone
set_option linter.unusedVariables false
set_option linter.unusedSimpArgs false

/-! ### queuelabref01_End: function 17 -/
mutual
def queuelabref01_End.j0 : Nat → ByteArray → Int → Int → Bool → Bool → Option (Int)
 | 0, _, _, _, _, _ => none
 | k + 1, x0, x1, x5, x6, x30 => if x30 = true then (queuelabref01_End.l0 k x0 x5 x6) else ((queuelabref01_Punct.f).bind fun t155 => (queuelabref01_End.l1 k x0 x1 t155 0))
def queuelabref01_End.l0 : Nat → ByteArray → Int → Bool → Option (Int)
 | 0, _, _, _ => none
 | k + 1, x0, x5, x6 => if x5 < (x0.size : Int) then (if 0 ≤ x5 then ((queuelabref01_Letter.f (bt x0 x5)).bind fun t153 => ((queuelabref01_Digit.f (bt x0 x5)).bind fun t154 => (if t154 = true then (queuelabref01_End.j2 k x0 x5 x6 false) else (if x6 = true then (if t153 = true then (queuelabref01_End.j2 k x0 x5 x6 false) else (queuelabref01_End.j2 k x0 x5 x6 ((bt x0 x5) != 95))) else (queuelabref01_End.j2 k x0 x5 x6 true))))) else (none)) else (some x5)
def queuelabref01_End.j2 : Nat → ByteArray → Int → Bool → Bool → Option (Int)
 | 0, _, _, _, _ => none
 | k + 1, x0, x5, x6, x58 => if x58 = true then (some x5) else (queuelabref01_End.l0 k x0 (wrap64 (x5 + 1)) x6)
def queuelabref01_End.l1 : Nat → ByteArray → Int → List ByteArray → Int → Option (Int)
 | 0, _, _, _, _ => none
 | k + 1, x0, x1, x10, x11 => if x11 < (x10.length : Int) then (if 0 ≤ x11 then (if (wrap64 (x1 + ((rdOf ByteArray.empty x10 x11).size : Int))) ≤ (x0.size : Int) then (if 0 ≤ x1 then (if x1 ≤ (wrap64 (x1 + ((rdOf ByteArray.empty x10 x11).size : Int))) then (if (x0.extract (x1 : Int).toNat ((wrap64 (x1 + ((rdOf ByteArray.empty x10 x11).size : Int))) : Int).toNat).toList = (rdOf ByteArray.empty x10 x11).toList then (some (wrap64 (x1 + ((rdOf ByteArray.empty x10 x11).size : Int)))) else (queuelabref01_End.l1 k x0 x1 x10 (wrap64 (x11 + 1)))) else (none)) else (none)) else (queuelabref01_End.l1 k x0 x1 x10 (wrap64 (x11 + 1)))) else (none)) else (some x1)
end
def queuelabref01_End.f (k : Nat) (a0 : ByteArray) (a1 : Int) : Option (Int) := if a1 ≥ (a0.size : Int) then (some a1) else (if 0 ≤ a1 then (if a1 < (a0.size : Int) then ((queuelabref01_Letter.f (bt a0 a1)).bind fun t151 => ((queuelabref01_Digit.f (bt a0 a1)).bind fun t152 => (if t151 = true then (queuelabref01_End.j0 k a0 a1 a1 t151 true) else (queuelabref01_End.j0 k a0 a1 a1 t151 t152)))) else (none)) else (none))
theorem queuelabref01_End.mono_l : ∀ k, (∀ y0 y1 y2 y3 y4, LeO (queuelabref01_End.j0 k y0 y1 y2 y3 y4) (queuelabref01_End.j0 (k + 1) y0 y1 y2 y3 y4)) ∧ (∀ y0 y1 y2, LeO (queuelabref01_End.l0 k y0 y1 y2) (queuelabref01_End.l0 (k + 1) y0 y1 y2)) ∧ (∀ y0 y1 y2 y3, LeO (queuelabref01_End.j2 k y0 y1 y2 y3) (queuelabref01_End.j2 (k + 1) y0 y1 y2 y3)) ∧ (∀ y0 y1 y2 y3, LeO (queuelabref01_End.l1 k y0 y1 y2 y3) (queuelabref01_End.l1 (k + 1) y0 y1 y2 y3))
 | 0 => ⟨fun _ _ _ _ _ r h => by simp [queuelabref01_End.j0] at h, fun _ _ _ r h => by simp [queuelabref01_End.l0] at h, fun _ _ _ _ r h => by simp [queuelabref01_End.j2] at h, fun _ _ _ _ r h => by simp [queuelabref01_End.l1] at h⟩
 | k + 1 => by
  obtain ⟨ih0, ih1, ih2, ih3⟩ := queuelabref01_End.mono_l k
  refine ⟨?_, ?_, ?_, ?_⟩
  · intro y0 y1 y2 y3 y4
    unfold queuelabref01_End.j0
    repeat' first
    | (with_reducible exact ih0 _ _ _ _ _)
    | (with_reducible exact ih1 _ _ _)
    | (with_reducible exact ih2 _ _ _ _)
    | (with_reducible exact ih3 _ _ _ _)
    | (with_reducible exact LeO.refl _)
    | (with_reducible exact LeO.none _)
    | (with_reducible refine LeO.ite ?_ ?_)
    | (with_reducible refine LeO.bind ?_ (fun _ => ?_))
    | exact ih0 _ _ _ _ _
    | exact ih1 _ _ _
    | exact ih2 _ _ _ _
    | exact ih3 _ _ _ _
    | exact LeO.none _
    | refine LeO.ite ?_ ?_
    | refine LeO.bind ?_ (fun _ => ?_)
  · intro y0 y1 y2
    unfold queuelabref01_End.l0
    repeat' first
    | (with_reducible exact ih0 _ _ _ _ _)
    | (with_reducible exact ih1 _ _ _)
    | (with_reducible exact ih2 _ _ _ _)
    | (with_reducible exact ih3 _ _ _ _)
    | (with_reducible exact LeO.refl _)
    | (with_reducible exact LeO.none _)
    | (with_reducible refine LeO.ite ?_ ?_)
    | (with_reducible refine LeO.bind ?_ (fun _ => ?_))
    | exact ih0 _ _ _ _ _
    | exact ih1 _ _ _
    | exact ih2 _ _ _ _
    | exact ih3 _ _ _ _
    | exact LeO.none _
    | refine LeO.ite ?_ ?_
    | refine LeO.bind ?_ (fun _ => ?_)
  · intro y0 y1 y2 y3
    unfold queuelabref01_End.j2
    repeat' first
    | (with_reducible exact ih0 _ _ _ _ _)
    | (with_reducible exact ih1 _ _ _)
    | (with_reducible exact ih2 _ _ _ _)
    | (with_reducible exact ih3 _ _ _ _)
    | (with_reducible exact LeO.refl _)
    | (with_reducible exact LeO.none _)
    | (with_reducible refine LeO.ite ?_ ?_)
    | (with_reducible refine LeO.bind ?_ (fun _ => ?_))
    | exact ih0 _ _ _ _ _
    | exact ih1 _ _ _
    | exact ih2 _ _ _ _
    | exact ih3 _ _ _ _
    | exact LeO.none _
    | refine LeO.ite ?_ ?_
    | refine LeO.bind ?_ (fun _ => ?_)
  · intro y0 y1 y2 y3
    unfold queuelabref01_End.l1
    repeat' first
    | (with_reducible exact ih0 _ _ _ _ _)
    | (with_reducible exact ih1 _ _ _)
    | (with_reducible exact ih2 _ _ _ _)
    | (with_reducible exact ih3 _ _ _ _)
    | (with_reducible exact LeO.refl _)
    | (with_reducible exact LeO.none _)
    | (with_reducible refine LeO.ite ?_ ?_)
    | (with_reducible refine LeO.bind ?_ (fun _ => ?_))
    | exact ih0 _ _ _ _ _
    | exact ih1 _ _ _
    | exact ih2 _ _ _ _
    | exact ih3 _ _ _ _
    | exact LeO.none _
    | refine LeO.ite ?_ ?_
    | refine LeO.bind ?_ (fun _ => ?_)
theorem queuelabref01_End.mono : ∀ a0 a1 k, LeO (queuelabref01_End.f k a0 a1) (queuelabref01_End.f (k + 1) a0 a1) := by
 intro a0 a1 k
 obtain ⟨ih0, ih1, ih2, ih3⟩ := queuelabref01_End.mono_l k
 unfold queuelabref01_End.f
 repeat' first
  | (with_reducible exact ih0 _ _ _ _ _)
  | (with_reducible exact ih1 _ _ _)
  | (with_reducible exact ih2 _ _ _ _)
  | (with_reducible exact ih3 _ _ _ _)
  | (with_reducible exact LeO.refl _)
  | (with_reducible exact LeO.none _)
  | (with_reducible refine LeO.ite ?_ ?_)
  | (with_reducible refine LeO.bind ?_ (fun _ => ?_))
  | exact ih0 _ _ _ _ _
  | exact ih1 _ _ _
  | exact ih2 _ _ _ _
  | exact ih3 _ _ _ _
  | exact LeO.none _
  | refine LeO.ite ?_ ?_
  | refine LeO.bind ?_ (fun _ => ?_)
set_option maxHeartbeats 8000000 in
set_option maxRecDepth 100000 in
theorem queuelabref01_End.calls (k : Nat) (a0 : ByteArray) (a1 : Int) (r : Int) (w : World) (h : queuelabref01_End.f k a0 a1 = some r) :
 Calls Tryd.prog 17 #[.string a0, .int .i64 a1] w fun e w' => e = .returned (.int .i64 r) ∧ Below w.heap.size w w' := by
 have HB := Aside0.mk (Below.refl w.heap.size w)
 have H : (if a1 ≥ (a0.size : Int) then (some a1) else (if 0 ≤ a1 then (if a1 < (a0.size : Int) then ((queuelabref01_Letter.f (bt a0 a1)).bind fun t151 => ((queuelabref01_Digit.f (bt a0 a1)).bind fun t152 => (if t151 = true then (queuelabref01_End.j0 k a0 a1 a1 t151 true) else (queuelabref01_End.j0 k a0 a1 a1 t151 t152)))) else (none)) else (none))) = some r := h
 clear h
 by_cases c3 : a1 ≥ (a0.size : Int)
 · rw [if_pos c3] at H
   have c3b0 : decide ((a0.size : Int) ≤ a1) = true := decide_eq_true c3
   clear c3
   obtain rfl := Option.some.inj H
   go_enter Tryd.func17, Tryd.ntmps17
   go_wp2
   repeat (go_quiet (fail); try go_wp2)
   go_ret
   exact ⟨by first | rfl | (simp [errW_none, errW_some] <;> rfl) | (simp [*, errW_none, errW_some] <;> rfl), by repeat (first | (with_reducible first | exact HB.out | apply ba | apply bn | apply bd) | exact HB.out)⟩
 · rw [if_neg c3] at H
   have c3b0 : decide ((a0.size : Int) ≤ a1) = false := decide_eq_false c3
   clear c3
   by_cases c4 : 0 ≤ a1
   · rw [if_pos c4] at H
     have c4b0 : decide (0 ≤ a1) = true := decide_eq_true c4
     clear c4
     by_cases c5 : a1 < (a0.size : Int)
     · rw [if_pos c5] at H
       have c5b0 : decide (a1 < (a0.size : Int)) = true := decide_eq_true c5
       clear c5
       replace H := obs.mp H
       obtain ⟨t151, A70, H⟩ := H
       replace H : ((queuelabref01_Digit.f (bt a0 a1)).bind fun t152 => (if t151 = true then (queuelabref01_End.j0 k a0 a1 a1 t151 true) else (queuelabref01_End.j0 k a0 a1 a1 t151 t152))) = some r := H
       have A7 := Aside0.mk A70
       clear A70
       replace H := obs.mp H
       obtain ⟨t152, A90, H⟩ := H
       replace H : (if t151 = true then (queuelabref01_End.j0 k a0 a1 a1 t151 true) else (queuelabref01_End.j0 k a0 a1 a1 t151 t152)) = some r := H
       have A9 := Aside0.mk A90
       clear A90
       have HC10 := Aside0.mk H
       clear H
       have p6 : 0 ≤ (a1 : Int) := of_decide_eq_true (by first | (with_reducible assumption) | assumption)
       have q6 : a1 < (a0.size : Int) := of_decide_eq_true (by first | (with_reducible assumption) | assumption)
       have hx6 := bt_at a0 a1
       replace p6 := eq_true p6
       replace q6 := eq_true q6
       go_enter Tryd.func17, Tryd.ntmps17
       go_upto_region 6 with (first | (go_at_call 23; (with_reducible refine (queuelabref01_Letter.calls (bt a0 a1) t151 _ A7.out).mono ?_); rintro e w' ⟨rfl, ⟨nd, rfl⟩⟩; (try first | exact ⟨rfl, _, wdd _ _ _⟩ | exact ⟨rfl, _, Eq.trans (wdd _ _ _) (congrArg (World.drewN _) (Nat.add_assoc _ _ _))⟩); have p8 : 0 ≤ (a1 : Int) := of_decide_eq_true (by first | (with_reducible assumption) | assumption); have q8 : a1 < (a0.size : Int) := of_decide_eq_true (by first | (with_reducible assumption) | assumption); have hx8 := bt_at a0 a1; replace p8 := eq_true p8; replace q8 := eq_true q8) | (go_at_call 24; (with_reducible refine (queuelabref01_Digit.calls (bt a0 a1) t152 _ A9.out).mono ?_); rintro e w' ⟨rfl, ⟨nd, rfl⟩⟩; (try first | exact ⟨rfl, _, wdd _ _ _⟩ | exact ⟨rfl, _, Eq.trans (wdd _ _ _) (congrArg (World.drewN _) (Nat.add_assoc _ _ _))⟩)))
       repeat (go_quiet (first | (go_at_call 23; (with_reducible refine (queuelabref01_Letter.calls (bt a0 a1) t151 _ A7.out).mono ?_); rintro e w' ⟨rfl, ⟨nd, rfl⟩⟩; (try first | exact ⟨rfl, _, wdd _ _ _⟩ | exact ⟨rfl, _, Eq.trans (wdd _ _ _) (congrArg (World.drewN _) (Nat.add_assoc _ _ _))⟩); have p8 : 0 ≤ (a1 : Int) := of_decide_eq_true (by first | (with_reducible assumption) | assumption); have q8 : a1 < (a0.size : Int) := of_decide_eq_true (by first | (with_reducible assumption) | assumption); have hx8 := bt_at a0 a1; replace p8 := eq_true p8; replace q8 := eq_true q8) | (go_at_call 24; (with_reducible refine (queuelabref01_Digit.calls (bt a0 a1) t152 _ A9.out).mono ?_); rintro e w' ⟨rfl, ⟨nd, rfl⟩⟩; (try first | exact ⟨rfl, _, wdd _ _ _⟩ | exact ⟨rfl, _, Eq.trans (wdd _ _ _) (congrArg (World.drewN _) (Nat.add_assoc _ _ _))⟩))); go_upto_region 6 with (first | (go_at_call 23; (with_reducible refine (queuelabref01_Letter.calls (bt a0 a1) t151 _ A7.out).mono ?_); rintro e w' ⟨rfl, ⟨nd, rfl⟩⟩; (try first | exact ⟨rfl, _, wdd _ _ _⟩ | exact ⟨rfl, _, Eq.trans (wdd _ _ _) (congrArg (World.drewN _) (Nat.add_assoc _ _ _))⟩); have p8 : 0 ≤ (a1 : Int) := of_decide_eq_true (by first | (with_reducible assumption) | assumption); have q8 : a1 < (a0.size : Int) := of_decide_eq_true (by first | (with_reducible assumption) | assumption); have hx8 := bt_at a0 a1; replace p8 := eq_true p8; replace q8 := eq_true q8) | (go_at_call 24; (with_reducible refine (queuelabref01_Digit.calls (bt a0 a1) t152 _ A9.out).mono ?_); rintro e w' ⟨rfl, ⟨nd, rfl⟩⟩; (try first | exact ⟨rfl, _, wdd _ _ _⟩ | exact ⟨rfl, _, Eq.trans (wdd _ _ _) (congrArg (World.drewN _) (Nat.add_assoc _ _ _))⟩))))
       (try simp only [Act.put, List.setIfInBounds_toArray, List.set_cons_zero, List.set_cons_succ])
       go_cut [30] (fun v30 wc => ∃ (kq : Nat) (x30_9 : Bool), v30 = .bool x30_9 ∧ Aside0 (queuelabref01_End.j0 kq a0 a1 a1 t151 x30_9 = some r) ∧ Aside0 (kq ≤ k) ∧ Aside0 (Below w.heap.size w wc))
       case first =>
        have H := HC10.out
        clear HC10
        by_cases c11 : t151 = true
        · subst c11
          have H1 : (queuelabref01_End.j0 k a0 a1 a1 true true) = some r := by rw [if_pos rfl] at H; exact H
          clear H
          have H := H1
          clear H1
          have H' := Aside0.mk H
          clear H
          go_wp2
          repeat (go_quiet (fail); try go_wp2)
          go_meet
          case rel => exact ⟨_, (true), (by first | rfl | (simp; done) | (simp [*]; done)), H', ⟨by first | omega | exact Nat.le_refl _⟩, ⟨by repeat (first | (with_reducible first | exact HB.out | apply ba | apply bn | apply bd) | exact HB.out)⟩⟩
        · replace c11 := Bool.eq_false_iff.mpr c11
          subst c11
          have H1 : (queuelabref01_End.j0 k a0 a1 a1 false t152) = some r := by rw [if_neg (show ¬ (false = true) by decide)] at H; exact H
          clear H
          have H := H1
          clear H1
          have H' := Aside0.mk H
          clear H
          go_wp2
          repeat (go_quiet (fail); try go_wp2)
          go_meet
          case rel => exact ⟨_, (t152), (by first | rfl | (simp; done) | (simp [*]; done)), H', ⟨by first | omega | exact Nat.le_refl _⟩, ⟨by repeat (first | (with_reducible first | exact HB.out | apply ba | apply bn | apply bd) | exact HB.out)⟩⟩
       case rest =>
        clear HC10
        try clear c1
        try clear p2
        try clear c3
        try clear c3b0
        try clear c4
        try clear c4b0
        try clear c5
        try clear c5b0
        try clear p6
        try clear q6
        try clear hx6
        try clear p8
        try clear q8
        try clear hx8
        try clear c11
        try clear p6
        try clear p8
        try clear q6
        try clear q8
        obtain ⟨kq, x30_9, rfl, HA, HJ9, HB⟩ := hcut
        cases kq with
        | zero => exact absurd HA.out (by simp [queuelabref01_End.j0])
        | succ kj9 =>
         have H := HA.out
         clear HA
         simp only [queuelabref01_End.j0] at H
         by_cases c12 : x30_9 = true
         · subst c12
           have H1 : (queuelabref01_End.l0 kj9 a0 a1 t151) = some r := by rw [if_pos rfl] at H; exact H
           clear H
           have H := H1
           clear H1
           have H' := Aside0.mk H
           clear H
           go_wp2
           repeat (go_quiet (fail); try go_wp2)
           go_loopg [5] kj9 (fun kq v5 w' => ∃ (x5_2 : Int), v5 = .int .i64 x5_2 ∧ Aside0 (queuelabref01_End.l0 kq a0 x5_2 t151 = some r) ∧ Aside0 (kq ≤ kj9) ∧ Aside0 (Below w.heap.size w w'))
           case atStart => exact ⟨(a1), (by first | rfl | (simp; done) | (simp [*]; done)), H', ⟨Nat.le_refl _⟩, ⟨by repeat (first | (with_reducible first | exact HB.out | apply ba | apply bn | apply bd) | exact HB.out)⟩⟩
           case round =>
            clear H'
            try clear c1
            try clear p2
            try clear c3
            try clear c3b0
            try clear c4
            try clear c4b0
            try clear c5
            try clear c5b0
            try clear p6
            try clear q6
            try clear hx6
            try clear p8
            try clear q8
            try clear hx8
            try clear c11
            try clear c12
            try clear p2
            try clear p6
            try clear p8
            try clear q6
            try clear q8
            obtain ⟨x5_2, rfl, HA, HK2, HB⟩ := hrel
            cases gk with
            | zero => exact absurd HA.out (by simp [queuelabref01_End.l0])
            | succ k2 =>
             have H := HA.out
             clear HA
             simp only [queuelabref01_End.l0] at H
             by_cases c13 : x5_2 < (a0.size : Int)
             · rw [if_pos c13] at H
               have c13b0 : decide (x5_2 < (a0.size : Int)) = true := decide_eq_true c13
               clear c13
               by_cases c14 : 0 ≤ x5_2
               · rw [if_pos c14] at H
                 have c14b0 : decide (0 ≤ x5_2) = true := decide_eq_true c14
                 clear c14
                 replace H := obs.mp H
                 obtain ⟨t153, A160, H⟩ := H
                 replace H : ((queuelabref01_Digit.f (bt a0 x5_2)).bind fun t154 => (if t154 = true then (queuelabref01_End.j2 k2 a0 x5_2 t151 false) else (if t151 = true then (if t153 = true then (queuelabref01_End.j2 k2 a0 x5_2 t151 false) else (queuelabref01_End.j2 k2 a0 x5_2 t151 ((bt a0 x5_2) != 95))) else (queuelabref01_End.j2 k2 a0 x5_2 t151 true)))) = some r := H
                 have A16 := Aside0.mk A160
                 clear A160
                 replace H := obs.mp H
                 obtain ⟨t154, A180, H⟩ := H
                 replace H : (if t154 = true then (queuelabref01_End.j2 k2 a0 x5_2 t151 false) else (if t151 = true then (if t153 = true then (queuelabref01_End.j2 k2 a0 x5_2 t151 false) else (queuelabref01_End.j2 k2 a0 x5_2 t151 ((bt a0 x5_2) != 95))) else (queuelabref01_End.j2 k2 a0 x5_2 t151 true))) = some r := H
                 have A18 := Aside0.mk A180
                 clear A180
                 have HC19 := Aside0.mk H
                 clear H
                 have p15 : 0 ≤ (x5_2 : Int) := of_decide_eq_true (by first | (with_reducible assumption) | assumption)
                 have q15 : x5_2 < (a0.size : Int) := of_decide_eq_true (by first | (with_reducible assumption) | assumption)
                 have hx15 := bt_at a0 x5_2
                 replace p15 := eq_true p15
                 replace q15 := eq_true q15
                 go_upto_region 10 with (first | (go_at_call 23; (with_reducible refine (queuelabref01_Letter.calls (bt a0 x5_2) t153 _ A16.out).mono ?_); rintro e w' ⟨rfl, ⟨nd, rfl⟩⟩; (try first | exact ⟨rfl, _, wdd _ _ _⟩ | exact ⟨rfl, _, Eq.trans (wdd _ _ _) (congrArg (World.drewN _) (Nat.add_assoc _ _ _))⟩); have p17 : 0 ≤ (x5_2 : Int) := of_decide_eq_true (by first | (with_reducible assumption) | assumption); have q17 : x5_2 < (a0.size : Int) := of_decide_eq_true (by first | (with_reducible assumption) | assumption); have hx17 := bt_at a0 x5_2; replace p17 := eq_true p17; replace q17 := eq_true q17) | (go_at_call 24; (with_reducible refine (queuelabref01_Digit.calls (bt a0 x5_2) t154 _ A18.out).mono ?_); rintro e w' ⟨rfl, ⟨nd, rfl⟩⟩; (try first | exact ⟨rfl, _, wdd _ _ _⟩ | exact ⟨rfl, _, Eq.trans (wdd _ _ _) (congrArg (World.drewN _) (Nat.add_assoc _ _ _))⟩)))
                 repeat (go_quiet (first | (go_at_call 23; (with_reducible refine (queuelabref01_Letter.calls (bt a0 x5_2) t153 _ A16.out).mono ?_); rintro e w' ⟨rfl, ⟨nd, rfl⟩⟩; (try first | exact ⟨rfl, _, wdd _ _ _⟩ | exact ⟨rfl, _, Eq.trans (wdd _ _ _) (congrArg (World.drewN _) (Nat.add_assoc _ _ _))⟩); have p17 : 0 ≤ (x5_2 : Int) := of_decide_eq_true (by first | (with_reducible assumption) | assumption); have q17 : x5_2 < (a0.size : Int) := of_decide_eq_true (by first | (with_reducible assumption) | assumption); have hx17 := bt_at a0 x5_2; replace p17 := eq_true p17; replace q17 := eq_true q17) | (go_at_call 24; (with_reducible refine (queuelabref01_Digit.calls (bt a0 x5_2) t154 _ A18.out).mono ?_); rintro e w' ⟨rfl, ⟨nd, rfl⟩⟩; (try first | exact ⟨rfl, _, wdd _ _ _⟩ | exact ⟨rfl, _, Eq.trans (wdd _ _ _) (congrArg (World.drewN _) (Nat.add_assoc _ _ _))⟩))); go_upto_region 10 with (first | (go_at_call 23; (with_reducible refine (queuelabref01_Letter.calls (bt a0 x5_2) t153 _ A16.out).mono ?_); rintro e w' ⟨rfl, ⟨nd, rfl⟩⟩; (try first | exact ⟨rfl, _, wdd _ _ _⟩ | exact ⟨rfl, _, Eq.trans (wdd _ _ _) (congrArg (World.drewN _) (Nat.add_assoc _ _ _))⟩); have p17 : 0 ≤ (x5_2 : Int) := of_decide_eq_true (by first | (with_reducible assumption) | assumption); have q17 : x5_2 < (a0.size : Int) := of_decide_eq_true (by first | (with_reducible assumption) | assumption); have hx17 := bt_at a0 x5_2; replace p17 := eq_true p17; replace q17 := eq_true q17) | (go_at_call 24; (with_reducible refine (queuelabref01_Digit.calls (bt a0 x5_2) t154 _ A18.out).mono ?_); rintro e w' ⟨rfl, ⟨nd, rfl⟩⟩; (try first | exact ⟨rfl, _, wdd _ _ _⟩ | exact ⟨rfl, _, Eq.trans (wdd _ _ _) (congrArg (World.drewN _) (Nat.add_assoc _ _ _))⟩))))
                 (try simp only [Act.put, List.setIfInBounds_toArray, List.set_cons_zero, List.set_cons_succ])
                 go_cut [58] (fun v58 wc => ∃ (kq : Nat) (x58_18 : Bool), v58 = .bool x58_18 ∧ Aside0 (queuelabref01_End.j2 kq a0 x5_2 t151 x58_18 = some r) ∧ Aside0 (kq ≤ k2) ∧ Aside0 (Below w.heap.size w wc))
                 case first =>
                  have H := HC19.out
                  clear HC19
                  by_cases c20 : t154 = true
                  · subst c20
                    have H1 : (queuelabref01_End.j2 k2 a0 x5_2 t151 false) = some r := by rw [if_pos rfl] at H; exact H
                    clear H
                    have H := H1
                    clear H1
                    have H' := Aside0.mk H
                    clear H
                    go_wp2
                    repeat (go_quiet (fail); try go_wp2)
                    go_meet
                    case rel => exact ⟨_, (false), (by first | rfl | (simp; done) | (simp [*]; done)), H', ⟨by have := HJ9.out; have := HK2.out; first | omega | exact Nat.le_refl _⟩, ⟨by repeat (first | (with_reducible first | exact HB.out | apply ba | apply bn | apply bd) | exact HB.out)⟩⟩
                  · replace c20 := Bool.eq_false_iff.mpr c20
                    subst c20
                    have H1 : (if t151 = true then (if t153 = true then (queuelabref01_End.j2 k2 a0 x5_2 t151 false) else (queuelabref01_End.j2 k2 a0 x5_2 t151 ((bt a0 x5_2) != 95))) else (queuelabref01_End.j2 k2 a0 x5_2 t151 true)) = some r := by rw [if_neg (show ¬ (false = true) by decide)] at H; exact H
                    clear H
                    have H := H1
                    clear H1
                    by_cases c21 : t151 = true
                    · subst c21
                      have H1 : (if t153 = true then (queuelabref01_End.j2 k2 a0 x5_2 true false) else (queuelabref01_End.j2 k2 a0 x5_2 true ((bt a0 x5_2) != 95))) = some r := by rw [if_pos rfl] at H; exact H
                      clear H
                      have H := H1
                      clear H1
                      by_cases c22 : t153 = true
                      · subst c22
                        have H1 : (queuelabref01_End.j2 k2 a0 x5_2 true false) = some r := by rw [if_pos rfl] at H; exact H
                        clear H
                        have H := H1
                        clear H1
                        have H' := Aside0.mk H
                        clear H
                        go_wp2
                        repeat (go_quiet (fail); try go_wp2)
                        go_meet
                        case rel => exact ⟨_, (false), (by first | rfl | (simp; done) | (simp [*]; done)), H', ⟨by have := HJ9.out; have := HK2.out; first | omega | exact Nat.le_refl _⟩, ⟨by repeat (first | (with_reducible first | exact HB.out | apply ba | apply bn | apply bd) | exact HB.out)⟩⟩
                      · replace c22 := Bool.eq_false_iff.mpr c22
                        subst c22
                        have H1 : (queuelabref01_End.j2 k2 a0 x5_2 true ((bt a0 x5_2) != 95)) = some r := by rw [if_neg (show ¬ (false = true) by decide)] at H; exact H
                        clear H
                        have H := H1
                        clear H1
                        have H' := Aside0.mk H
                        clear H
                        have p23 : 0 ≤ (x5_2 : Int) := of_decide_eq_true (by first | (with_reducible assumption) | assumption)
                        have q23 : x5_2 < (a0.size : Int) := of_decide_eq_true (by first | (with_reducible assumption) | assumption)
                        have hx23 := bt_at a0 x5_2
                        replace p23 := eq_true p23
                        replace q23 := eq_true q23
                        go_wp2
                        repeat (go_quiet (fail); try go_wp2)
                        go_meet
                        case rel => exact ⟨_, (((bt a0 x5_2) != 95)), (by first | rfl | (simp; done) | (simp [*]; done)), H', ⟨by have := HJ9.out; have := HK2.out; first | omega | exact Nat.le_refl _⟩, ⟨by repeat (first | (with_reducible first | exact HB.out | apply ba | apply bn | apply bd) | exact HB.out)⟩⟩
                    · replace c21 := Bool.eq_false_iff.mpr c21
                      subst c21
                      have H1 : (queuelabref01_End.j2 k2 a0 x5_2 false true) = some r := by rw [if_neg (show ¬ (false = true) by decide)] at H; exact H
                      clear H
                      have H := H1
                      clear H1
                      have H' := Aside0.mk H
                      clear H
                      go_wp2
                      repeat (go_quiet (fail); try go_wp2)
                      go_meet
                      case rel => exact ⟨_, (true), (by first | rfl | (simp; done) | (simp [*]; done)), H', ⟨by have := HJ9.out; have := HK2.out; first | omega | exact Nat.le_refl _⟩, ⟨by repeat (first | (with_reducible first | exact HB.out | apply ba | apply bn | apply bd) | exact HB.out)⟩⟩
                 case rest =>
                  clear HC19
                  try clear c1
                  try clear p1
                  try clear q1
                  try clear hx1
                  try clear c2
                  try clear p2
                  try clear q2
                  try clear hx2
                  try clear c3
                  try clear c3b0
                  try clear c4
                  try clear c4b0
                  try clear c5
                  try clear c5b0
                  try clear p6
                  try clear q6
                  try clear hx6
                  try clear p8
                  try clear q8
                  try clear hx8
                  try clear c11
                  try clear c12
                  try clear c13
                  try clear c13b0
                  try clear c14
                  try clear c14b0
                  try clear p15
                  try clear q15
                  try clear hx15
                  try clear c17
                  try clear p17
                  try clear q17
                  try clear hx17
                  try clear c20
                  try clear c21
                  try clear c22
                  try clear p23
                  try clear q23
                  try clear hx23
                  try clear p15
                  try clear p17
                  try clear p2
                  try clear p23
                  try clear p6
                  try clear p8
                  try clear q15
                  try clear q17
                  try clear q23
                  try clear q6
                  try clear q8
                  obtain ⟨kq, x58_18, rfl, HA, HJ18, HB⟩ := hcut
                  cases kq with
                  | zero => exact absurd HA.out (by simp [queuelabref01_End.j2])
                  | succ kj18 =>
                   have H := HA.out
                   clear HA
                   simp only [queuelabref01_End.j2] at H
                   by_cases c24 : x58_18 = true
                   · subst c24
                     have H1 : (some x5_2) = some r := by rw [if_pos rfl] at H; exact H
                     clear H
                     have H := H1
                     clear H1
                     obtain rfl := Option.some.inj H
                     go_wp2
                     repeat (go_quiet (fail); try go_wp2)
                     go_ret
                     exact ⟨by first | rfl | (simp [errW_none, errW_some] <;> rfl) | (simp [*, errW_none, errW_some] <;> rfl), by repeat (first | (with_reducible first | exact HB.out | apply ba | apply bn | apply bd) | exact HB.out)⟩
                   · replace c24 := Bool.eq_false_iff.mpr c24
                     subst c24
                     have H1 : (queuelabref01_End.l0 kj18 a0 (wrap64 (x5_2 + 1)) t151) = some r := by rw [if_neg (show ¬ (false = true) by decide)] at H; exact H
                     clear H
                     have H := H1
                     clear H1
                     have H' := Aside0.mk H
                     clear H
                     go_wp2
                     repeat (go_quiet (fail); try go_wp2)
                     go_roundg kj18
                     case measure => have := HJ9.out; have := HK2.out; have := HJ18.out; omega
                     case rel => exact ⟨(wrap64 (x5_2 + 1)), (by first | rfl | (simp; done) | (simp [*]; done)), H', ⟨by have := HJ9.out; have := HK2.out; have := HJ18.out; omega⟩, ⟨by repeat (first | (with_reducible first | exact HB.out | apply ba | apply bn | apply bd) | exact HB.out)⟩⟩
               · rw [if_neg c14] at H
                 exact absurd H (by simp)
             · rw [if_neg c13] at H
               have c13b0 : decide (x5_2 < (a0.size : Int)) = false := decide_eq_false c13
               clear c13
               obtain rfl := Option.some.inj H
               go_wp2
               repeat (go_quiet (fail); try go_wp2)
               go_ret
               exact ⟨by first | rfl | (simp [errW_none, errW_some] <;> rfl) | (simp [*, errW_none, errW_some] <;> rfl), by repeat (first | (with_reducible first | exact HB.out | apply ba | apply bn | apply bd) | exact HB.out)⟩
         · replace c12 := Bool.eq_false_iff.mpr c12
           subst c12
           have H1 : ((queuelabref01_Punct.f).bind fun t155 => (queuelabref01_End.l1 kj9 a0 a1 t155 0)) = some r := by rw [if_neg (show ¬ (false = true) by decide)] at H; exact H
           clear H
           have H := H1
           clear H1
           replace H := obs.mp H
           obtain ⟨t155, A250, H⟩ := H
           replace H : (queuelabref01_End.l1 kj9 a0 a1 t155 0) = some r := H
           have A25 := Aside0.mk A250
           clear A250
           have H' := Aside0.mk H
           clear H
           go_wp2_with (first | (go_at_call 25; (with_reducible refine (queuelabref01_Punct.calls  t155 _ A25.out).mono ?_); rintro e w26 ⟨v156, rfl, ho0, hb⟩; have n0_ := Aside0.mk (Kd.R_lower ho0 (below_size (by repeat first | (with_reducible first | exact HB.out | apply ba | apply bn | apply bd) | exact HB.out))); have n1_ := Aside0.mk (below_step (by repeat first | (with_reducible first | exact HB.out | apply ba | apply bn | apply bd) | exact HB.out) hb); clear HB; have HO157 := n0_; have HB := n1_; clear n0_ n1_; (try clear hb); (try clear hb2); (try clear hk); (try clear hi); (try clear ho0)))
           repeat (go_quiet (first | (go_at_call 25; (with_reducible refine (queuelabref01_Punct.calls  t155 _ A25.out).mono ?_); rintro e w26 ⟨v156, rfl, ho0, hb⟩; have n0_ := Aside0.mk (Kd.R_lower ho0 (below_size (by repeat first | (with_reducible first | exact HB.out | apply ba | apply bn | apply bd) | exact HB.out))); have n1_ := Aside0.mk (below_step (by repeat first | (with_reducible first | exact HB.out | apply ba | apply bn | apply bd) | exact HB.out) hb); clear HB; have HO157 := n0_; have HB := n1_; clear n0_ n1_; (try clear hb); (try clear hb2); (try clear hk); (try clear hi); (try clear ho0))); try go_wp2_with (first | (go_at_call 25; (with_reducible refine (queuelabref01_Punct.calls  t155 _ A25.out).mono ?_); rintro e w26 ⟨v156, rfl, ho0, hb⟩; have n0_ := Aside0.mk (Kd.R_lower ho0 (below_size (by repeat first | (with_reducible first | exact HB.out | apply ba | apply bn | apply bd) | exact HB.out))); have n1_ := Aside0.mk (below_step (by repeat first | (with_reducible first | exact HB.out | apply ba | apply bn | apply bd) | exact HB.out) hb); clear HB; have HO157 := n0_; have HB := n1_; clear n0_ n1_; (try clear hb); (try clear hb2); (try clear hk); (try clear hi); (try clear ho0))))
           go_loopg [11] kj9 (fun kq v11 w' => ∃ (x11_2 : Int), v11 = .int .i64 x11_2 ∧ Aside0 (queuelabref01_End.l1 kq a0 a1 t155 x11_2 = some r) ∧ Aside0 (kq ≤ kj9) ∧ Aside0 (Kd.R Kd.string 9 w' w.heap.size (fun _ => True) v156 t155) ∧ Aside0 (Below w.heap.size w w'))
           case atStart => exact ⟨(0), (by first | rfl | (simp; done) | (simp [*]; done)), H', ⟨Nat.le_refl _⟩, ⟨by (with_reducible repeat (first | apply ra | apply rn | apply rd1)); exact HO157.out⟩, ⟨by repeat (first | (with_reducible first | exact HB.out | apply ba | apply bn | apply bd) | exact HB.out)⟩⟩
           case round =>
            clear H'
            try clear c1
            try clear p1
            try clear q1
            try clear hx1
            try clear c2
            try clear p2
            try clear q2
            try clear hx2
            try clear c3
            try clear c3b0
            try clear c4
            try clear c4b0
            try clear c5
            try clear c5b0
            try clear p6
            try clear q6
            try clear hx6
            try clear p8
            try clear q8
            try clear hx8
            try clear c11
            try clear c12
            try clear c13
            try clear c13b0
            try clear c14
            try clear c14b0
            try clear p15
            try clear q15
            try clear hx15
            try clear c17
            try clear p17
            try clear q17
            try clear hx17
            try clear c20
            try clear c21
            try clear c22
            try clear p23
            try clear q23
            try clear hx23
            try clear c24
            try clear p1
            try clear p15
            try clear p17
            try clear p2
            try clear p23
            try clear p6
            try clear p8
            try clear q1
            try clear q15
            try clear q17
            try clear q2
            try clear q23
            try clear q6
            try clear q8
            obtain ⟨x11_2, rfl, HA, HK2, HO_10, HB⟩ := hrel
            cases gk with
            | zero => exact absurd HA.out (by simp [queuelabref01_End.l1])
            | succ k2 =>
             have H := HA.out
             clear HA
             simp only [queuelabref01_End.l1] at H
             by_cases c27 : x11_2 < (t155.length : Int)
             · rw [if_pos c27] at H
               have c27b0 : decide (x11_2 < (t155.length : Int)) = true := decide_eq_true c27
               clear c27
               by_cases c28 : 0 ≤ x11_2
               · rw [if_pos c28] at H
                 have c28b0 : decide (0 ≤ x11_2) = true := decide_eq_true c28
                 clear c28
                 by_cases c29 : (wrap64 (a1 + ((rdOf ByteArray.empty t155 x11_2).size : Int))) ≤ (a0.size : Int)
                 · rw [if_pos c29] at H
                   have c29b0 : decide ((wrap64 (a1 + ((rdOf ByteArray.empty t155 x11_2).size : Int))) ≤ (a0.size : Int)) = true := decide_eq_true c29
                   clear c29
                   by_cases c30 : 0 ≤ a1
                   · rw [if_pos c30] at H
                     have c30b0 := eq_true c30
                     have c30b1 : decide (0 ≤ a1) = true := decide_eq_true c30
                     clear c30
                     by_cases c31 : a1 ≤ (wrap64 (a1 + ((rdOf ByteArray.empty t155 x11_2).size : Int)))
                     · rw [if_pos c31] at H
                       have c31b0 := eq_true c31
                       have c31b1 : decide (a1 ≤ (wrap64 (a1 + ((rdOf ByteArray.empty t155 x11_2).size : Int)))) = true := decide_eq_true c31
                       have c32b0 := eq_true (of_decide_eq_true (by first | (with_reducible assumption) | assumption) : (wrap64 (a1 + ((rdOf ByteArray.empty t155 x11_2).size : Int))) ≤ (a0.size : Int))
                       by_cases c33 : (a0.extract (a1 : Int).toNat ((wrap64 (a1 + ((rdOf ByteArray.empty t155 x11_2).size : Int))) : Int).toNat).toList = (rdOf ByteArray.empty t155 x11_2).toList
                       · rw [if_pos c33] at H
                         have c33b0 : ((a0.extract (a1 : Int).toNat ((wrap64 (a1 + ((rdOf ByteArray.empty t155 x11_2).size : Int))) : Int).toNat).toList == (rdOf ByteArray.empty t155 x11_2).toList) = true := beq_iff_eq.mpr c33
                         have c33b1 : ((a0.extract (a1 : Int).toNat ((wrap64 (a1 + ((rdOf ByteArray.empty t155 x11_2).size : Int))) : Int).toNat).toList != (rdOf ByteArray.empty t155 x11_2).toList) = false := bne_eq_false_iff_eq.mpr c33
                         clear c33
                         obtain rfl := Option.some.inj H
                         obtain ⟨Ao34, co34, eo34⟩ := Kd.R_slice HO_10.out
                         subst eo34
                         have p158 : 0 ≤ (x11_2 : Int) := of_decide_eq_true (by first | (with_reducible assumption) | assumption)
                         have q158 : x11_2 < (t155.length : Int) := of_decide_eq_true (by first | (with_reducible assumption) | assumption)
                         obtain ⟨ad158, e158, hx158_0⟩ := Kd.at_string (Kd.R_reads' HO_10.out).2.2 x11_2 p158 q158
                         cases e158
                         replace p158 := eq_true p158
                         replace q158 := eq_true q158
                         have p159 : 0 ≤ (x11_2 : Int) := of_decide_eq_true (by first | (with_reducible assumption) | assumption)
                         have q159 : x11_2 < (t155.length : Int) := of_decide_eq_true (by first | (with_reducible assumption) | assumption)
                         obtain ⟨ad159, e159, hx159_0⟩ := Kd.at_string (Kd.R_reads' HO_10.out).2.2 x11_2 p159 q159
                         obtain rfl : ad158 = ad159 := (by injection e159)
                         replace p159 := eq_true p159
                         replace q159 := eq_true q159
                         go_wp2
                         repeat (go_quiet (fail); try go_wp2)
                         go_ret
                         exact ⟨by first | rfl | (simp [errW_none, errW_some] <;> rfl) | (simp [*, errW_none, errW_some] <;> rfl), by repeat (first | (with_reducible first | exact HB.out | apply ba | apply bn | apply bd) | exact HB.out)⟩
                       · rw [if_neg c33] at H
                         have c33b0 : ((a0.extract (a1 : Int).toNat ((wrap64 (a1 + ((rdOf ByteArray.empty t155 x11_2).size : Int))) : Int).toNat).toList == (rdOf ByteArray.empty t155 x11_2).toList) = false := beq_eq_false_iff_ne.mpr c33
                         have c33b1 : ((a0.extract (a1 : Int).toNat ((wrap64 (a1 + ((rdOf ByteArray.empty t155 x11_2).size : Int))) : Int).toNat).toList != (rdOf ByteArray.empty t155 x11_2).toList) = true := bne_iff_ne.mpr c33
                         have H' := Aside0.mk H
                         clear H
                         obtain ⟨Ao35, co35, eo35⟩ := Kd.R_slice HO_10.out
                         subst eo35
                         have p158 : 0 ≤ (x11_2 : Int) := of_decide_eq_true (by first | (with_reducible assumption) | assumption)
                         have q158 : x11_2 < (t155.length : Int) := of_decide_eq_true (by first | (with_reducible assumption) | assumption)
                         obtain ⟨ad158, e158, hx158_0⟩ := Kd.at_string (Kd.R_reads' HO_10.out).2.2 x11_2 p158 q158
                         cases e158
                         replace p158 := eq_true p158
                         replace q158 := eq_true q158
                         have p159 : 0 ≤ (x11_2 : Int) := of_decide_eq_true (by first | (with_reducible assumption) | assumption)
                         have q159 : x11_2 < (t155.length : Int) := of_decide_eq_true (by first | (with_reducible assumption) | assumption)
                         obtain ⟨ad159, e159, hx159_0⟩ := Kd.at_string (Kd.R_reads' HO_10.out).2.2 x11_2 p159 q159
                         obtain rfl : ad158 = ad159 := (by injection e159)
                         replace p159 := eq_true p159
                         replace q159 := eq_true q159
                         go_wp2
                         repeat (go_quiet (fail); try go_wp2)
                         go_roundg k2
                         case measure => have := HJ9.out; have := HK2.out; omega
                         case rel => exact ⟨(wrap64 (x11_2 + 1)), (by first | rfl | (simp; done) | (simp [*]; done)), H', ⟨by have := HJ9.out; have := HK2.out; omega⟩, ⟨by (with_reducible repeat (first | apply ra | apply rn | apply rd1)); exact HO_10.out⟩, ⟨by repeat (first | (with_reducible first | exact HB.out | apply ba | apply bn | apply bd) | exact HB.out)⟩⟩
                     · rw [if_neg c31] at H
                       exact absurd H (by simp)
                   · rw [if_neg c30] at H
                     exact absurd H (by simp)
                 · rw [if_neg c29] at H
                   have c29b0 : decide ((wrap64 (a1 + ((rdOf ByteArray.empty t155 x11_2).size : Int))) ≤ (a0.size : Int)) = false := decide_eq_false c29
                   clear c29
                   have H' := Aside0.mk H
                   clear H
                   obtain ⟨Ao36, co36, eo36⟩ := Kd.R_slice HO_10.out
                   subst eo36
                   have p158 : 0 ≤ (x11_2 : Int) := of_decide_eq_true (by first | (with_reducible assumption) | assumption)
                   have q158 : x11_2 < (t155.length : Int) := of_decide_eq_true (by first | (with_reducible assumption) | assumption)
                   obtain ⟨ad158, e158, hx158_0⟩ := Kd.at_string (Kd.R_reads' HO_10.out).2.2 x11_2 p158 q158
                   cases e158
                   replace p158 := eq_true p158
                   replace q158 := eq_true q158
                   go_wp2
                   repeat (go_quiet (fail); try go_wp2)
                   go_roundg k2
                   case measure => have := HJ9.out; have := HK2.out; omega
                   case rel => exact ⟨(wrap64 (x11_2 + 1)), (by first | rfl | (simp; done) | (simp [*]; done)), H', ⟨by have := HJ9.out; have := HK2.out; omega⟩, ⟨by (with_reducible repeat (first | apply ra | apply rn | apply rd1)); exact HO_10.out⟩, ⟨by repeat (first | (with_reducible first | exact HB.out | apply ba | apply bn | apply bd) | exact HB.out)⟩⟩
               · rw [if_neg c28] at H
                 exact absurd H (by simp)
             · rw [if_neg c27] at H
               have c27b0 : decide (x11_2 < (t155.length : Int)) = false := decide_eq_false c27
               clear c27
               obtain rfl := Option.some.inj H
               obtain ⟨Ao37, co37, eo37⟩ := Kd.R_slice HO_10.out
               subst eo37
               go_wp2
               repeat (go_quiet (fail); try go_wp2)
               go_ret
               exact ⟨by first | rfl | (simp [errW_none, errW_some] <;> rfl) | (simp [*, errW_none, errW_some] <;> rfl), by repeat (first | (with_reducible first | exact HB.out | apply ba | apply bn | apply bd) | exact HB.out)⟩
     · rw [if_neg c5] at H
       exact absurd H (by simp)
   · rw [if_neg c4] at H
     exact absurd H (by simp)

end Go.Proofs.YtgkpjfbghjojoaaDoor.L
