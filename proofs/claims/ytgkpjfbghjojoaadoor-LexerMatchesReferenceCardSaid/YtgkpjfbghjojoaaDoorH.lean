import Derived.Test.YtgkpjfbghjojoaaDoorE2
import Derived.Test.YtgkpjfbghjojoaaDoorL3
/- R.End: where the token at an offset ends. -/
namespace Go.Proofs.YtgkpjfbghjojoaaDoor.L
open Go.RowKit Go.Proofs.YtgkpjfbghjojoaaDoorW.PrintWords Go.Proofs.YtgkpjfbghjojoaaDoorW.PrintLast Go.Proofs.YtgkpjfbghjojoaaDoorW.PrintMore
open QLex
set_option linter.unusedVariables false
set_option linter.unusedSimpArgs false
theorem Letter_eq (c : Nat) : queuelabref01_Letter.f (c : Int) = some (decide (cls c = 2)) := by
  unfold queuelabref01_Letter.f
  by_cases h : cls c = 2
  · have h' := (cls_two c).mp h
    rw [if_pos (by omega), decide_eq_true h, decide_eq_true (by omega)]
  · have h' : ¬ (97 ≤ c ∧ c ≤ 122) := fun q => h ((cls_two c).mpr q)
    rw [decide_eq_false h]
    split
    · rw [decide_eq_false (by omega)]
    · rfl
theorem Digit_eq (c : Nat) : queuelabref01_Digit.f (c : Int) = some (decide (cls c = 3)) := by
  unfold queuelabref01_Digit.f
  by_cases h : cls c = 3
  · have h' := (cls_three c).mp h
    rw [if_pos (by omega), decide_eq_true h, decide_eq_true (by omega)]
  · have h' : ¬ (48 ≤ c ∧ c ≤ 57) := fun q => h ((cls_three c).mpr q)
    rw [decide_eq_false h]
    split
    · rw [decide_eq_false (by omega)]
    · rfl
theorem End_l0_step (k : Nat) (s : ByteArray) (i : Int) (x6 a b : Bool) (hi : i < (s.size : Int)) (hi0 : 0 ≤ i) (ha : queuelabref01_Letter.f (bt s i) = some a) (hb : queuelabref01_Digit.f (bt s i) = some b) :
    queuelabref01_End.l0 (k + 1) s i x6 = queuelabref01_End.j2 k s i x6 (if b = true then false else if x6 = true then (if a = true then false else (bt s i) != 95) else true) := by
  simp only [queuelabref01_End.l0]
  rw [if_pos hi, if_pos hi0, ha, Option.bind_some, hb, Option.bind_some]
  cases a <;> cases b <;> cases x6 <;> rfl
theorem End_go (s : ByteArray) (hs : s.size ≤ 1000000000000) (x6 : Bool) : ∀ m i, i + m = s.size → Ev (fun k => queuelabref01_End.l0 k s (i : Int) x6) ((i + (((bl s).drop i).takeWhile (if x6 = true then nameC else digC)).length : Nat) : Int) := by
  intro m
  induction m with
  | zero =>
    intro i hi
    refine Ev.step (f := fun _ => some ((i + (((bl s).drop i).takeWhile (if x6 = true then nameC else digC)).length : Nat) : Int)) (fun k => ?_) (Ev.now _)
    simp only [queuelabref01_End.l0]
    rw [if_neg (by omega), List.drop_eq_nil_of_le (by rw [bl_len]; omega)]; rfl
  | succ m ih =>
    intro i hi
    have hlt : i < s.size := by omega
    have hg := bl_get s i hlt
    have hb := bt_get s i hlt
    rw [hg]
    refine Ev.step (fun k => End_l0_step k s (i : Int) x6 _ _ (by omega) (by omega) (by rw [hb]; exact Letter_eq _) (by rw [hb]; exact Digit_eq _)) ?_
    rw [hb]
    have hx : (if decide (cls s[i].toNat = 3) = true then false else if x6 = true then (if decide (cls s[i].toNat = 2) = true then false else ((s[i].toNat : Nat) : Int) != 95) else true) = !(if x6 = true then nameC else digC) s[i] := by
      by_cases h3 : cls s[i].toNat = 3
      · cases x6 <;> simp [h3, nameC, digC]
      · by_cases h2 : cls s[i].toNat = 2
        · cases x6 <;> simp [h2, h3, nameC, digC]
        · cases x6
          · simp [h3, digC]
          · simp [h2, h3, nameC]
            by_cases h95 : s[i].toNat = 95
            · simp [h95]
            · have : ((s[i].toNat : Nat) : Int) ≠ 95 := by omega
              simp [h95, this]
    rw [hx]
    cases hp : (if x6 = true then nameC else digC) s[i] with
    | false =>
      refine Ev.step (f := fun _ => some ((i : Nat) : Int)) (fun k => ?_) ?_
      · simp only [queuelabref01_End.j2]; rw [if_pos (by rfl)]
      · rw [List.takeWhile_cons, if_neg (by rw [hp]; simp)]; exact Ev.now _
    | true =>
      refine Ev.step (f := fun k => queuelabref01_End.l0 k s ((i + 1 : Nat) : Int) x6) (fun k => ?_) ?_
      · simp only [queuelabref01_End.j2]; rw [if_neg (by simp), w64 (by omega) (by omega)]; rfl
      · rw [List.takeWhile_cons, if_pos hp, List.length_cons]
        have := ih (i + 1) (by omega)
        rw [show i + ((((bl s).drop (i + 1)).takeWhile (if x6 = true then nameC else digC)).length + 1) = i + 1 + (((bl s).drop (i + 1)).takeWhile (if x6 = true then nameC else digC)).length by omega]
        exact this
/-- the first of some texts with which bytes begin -/
def firstN : List (List UInt8) → List UInt8 → Nat
  | [], _ => 0
  | p :: ps, d => if d.take p.length = p then p.length else firstN ps d
theorem End_l1_step (k : Nat) (s : ByteArray) (o i e : Int) (ps : List ByteArray) (p : ByteArray) (hi0 : 0 ≤ i) (hi : i < (ps.length : Int)) (hp : rdOf ByteArray.empty ps i = p) (ho : 0 ≤ o) (he : wrap64 (o + (p.size : Int)) = e) (hoe : o ≤ e) :
    queuelabref01_End.l1 (k + 1) s o ps i = if e ≤ (s.size : Int) ∧ (s.extract o.toNat e.toNat).toList = p.toList then some e else queuelabref01_End.l1 k s o ps (wrap64 (i + 1)) := by
  simp only [queuelabref01_End.l1]
  rw [if_pos hi, if_pos hi0, hp, he]
  by_cases h1 : e ≤ (s.size : Int)
  · rw [if_pos h1, if_pos ho, if_pos hoe]
    by_cases h2 : (s.extract o.toNat e.toNat).toList = p.toList
    · rw [if_pos h2, if_pos ⟨h1, h2⟩]
    · rw [if_neg h2, if_neg (fun q => h2 q.2)]
  · rw [if_neg h1, if_neg (fun q => h1 q.1)]
theorem End_l1_go (s : ByteArray) (hs : s.size ≤ 1000000000000) (o : Nat) (ho : o < s.size) (ps : List (List UInt8)) (hps : ps.length ≤ 1000) (hsm : ∀ p ∈ ps, p.length ≤ 1000) :
    ∀ m i, i + m = ps.length → Ev (fun k => queuelabref01_End.l1 k s (o : Int) (ps.map fun p => (⟨p.toArray⟩ : ByteArray)) (i : Int)) ((o + firstN (ps.drop i) ((bl s).drop o) : Nat) : Int) := by
  intro m
  induction m with
  | zero =>
    intro i hi
    refine Ev.step (f := fun _ => some ((o + firstN (ps.drop i) ((bl s).drop o) : Nat) : Int)) (fun k => ?_) (Ev.now _)
    simp only [queuelabref01_End.l1]
    rw [if_neg (by rw [List.length_map]; omega), List.drop_eq_nil_of_le (by omega)]; rfl
  | succ m ih =>
    intro i hi
    have hlt : i < ps.length := by omega
    have hl := hsm ps[i] (List.getElem_mem hlt)
    have hrd : rdOf ByteArray.empty (ps.map fun p => (⟨p.toArray⟩ : ByteArray)) (i : Int) = ⟨ps[i].toArray⟩ := by
      simp [rdOf, List.getD_eq_getElem?_getD, hlt]
    have hsz : (⟨ps[i].toArray⟩ : ByteArray).size = ps[i].length := rfl
    have hd : ps.drop i = ps[i] :: ps.drop (i + 1) := List.drop_eq_getElem_cons hlt
    refine Ev.step (fun k => End_l1_step k s (o : Int) (i : Int) ((o + ps[i].length : Nat) : Int) _ _ (by omega) (by rw [List.length_map]; omega) hrd (by omega) (by rw [hsz, w64 (by omega) (by omega)]; rfl) (by omega)) ?_
    have hcond : (((o + ps[i].length : Nat) : Int) ≤ (s.size : Int) ∧ (s.extract (o : Int).toNat ((o + ps[i].length : Nat) : Int).toNat).toList = (⟨ps[i].toArray⟩ : ByteArray).toList) ↔ ((bl s).drop o).take ps[i].length = ps[i] := by
      rw [Int.toNat_natCast, Int.toNat_natCast, ext_take, ByteArray.toList_mk, ByteArray.toList_mk]
      constructor
      · exact fun h => h.2
      · intro h
        refine ⟨?_, h⟩
        have h1 := congrArg List.length h
        rw [List.length_take, List.length_drop, bl_len] at h1
        omega
    rw [hd]
    simp only [firstN]
    by_cases hc : ((bl s).drop o).take ps[i].length = ps[i]
    · rw [if_pos hc]
      simp only [if_pos (hcond.mpr hc)]
      exact Ev.now _
    · rw [if_neg hc]
      simp only [if_neg (fun q => hc (hcond.mp q))]
      rw [w64 (by omega) (by omega)]
      exact ih (i + 1) (by omega)
def punctL : List (List UInt8) := [[60, 61], [62, 61], [61, 61], [33, 61], [59], [123], [125], [40], [41], [44], [43], [45], [42], [47], [61], [60], [62]]
theorem Punct_eq : queuelabref01_Punct.f = some (punctL.map fun p => (⟨p.toArray⟩ : ByteArray)) := rfl
/-- the same, of the first byte and whether '=' follows -/
def firstB : List (List UInt8) → UInt8 → Bool → Nat
  | [], _, _ => 0
  | p :: ps, c, b => if (p = [c] ∨ (p = [c, 61] ∧ b = true)) then p.length else firstB ps c b
theorem firstN_B (ps : List (List UInt8)) (hps : ∀ p ∈ ps, p.length = 1 ∨ ∃ x, p = [x, 61]) (c : UInt8) (r : List UInt8) : firstN ps (c :: r) = firstB ps c (decide (r.head?.map (·.toNat) = some 61)) := by
  induction ps with
  | nil => rfl
  | cons p ps ih =>
    have ih' := ih (fun q hq => hps q (by simp [hq]))
    simp only [firstN, firstB]
    have : ((c :: r).take p.length = p) ↔ (p = [c] ∨ (p = [c, 61] ∧ decide (r.head?.map (·.toNat) = some 61) = true)) := by
      rcases hps p (by simp) with h | ⟨x, rfl⟩
      · obtain ⟨x, rfl⟩ : ∃ x, p = [x] := by
          cases p with
          | nil => simp at h
          | cons x y => cases y with
            | nil => exact ⟨x, rfl⟩
            | cons z w => simp at h
        simp; exact eq_comm
      · cases r with
        | nil => simp
        | cons a b =>
          simp [← UInt8.toNat_inj]
          intro _; exact eq_comm
    by_cases hc : (c :: r).take p.length = p
    · rw [if_pos hc, if_pos (this.mp hc)]
    · rw [if_neg hc, if_neg (fun q => hc (this.mpr q)), ih']
theorem punct_form : ∀ p ∈ punctL, p.length = 1 ∨ ∃ x, p = [x, 61] := by
  have h : ∀ p ∈ punctL, p.length = 1 ∨ p = [p.headD 0, 61] := by decide
  exact fun p hp => (h p hp).imp id fun h => ⟨_, h⟩
def endB (c : Nat) (b : Bool) : Nat := if cls c = 4 then (if relC c = true ∧ b = true then 2 else if c = 33 then 0 else 1) else 0
theorem firstB_all : ∀ n, n < 256 → cls n ≠ 2 → cls n ≠ 3 → ∀ b, firstB punctL (UInt8.ofNat n) b = endB n b := by decide +kernel
/-- R.End -/
theorem End_ev (s : ByteArray) (hs : s.size ≤ 1000000000000) (o : Nat) (ho : o < s.size) : Ev (fun k => queuelabref01_End.f k s (o : Int)) ((o + endL ((bl s).drop o) : Nat) : Int) := by
  have hg := bl_get s o ho
  have hb := bt_get s o ho
  have hf : ∀ k, queuelabref01_End.f k s (o : Int) = queuelabref01_End.j0 k s (o : Int) (o : Int) (decide (cls s[o].toNat = 2)) (decide (cls s[o].toNat = 2) || decide (cls s[o].toNat = 3)) := by
    intro k
    unfold queuelabref01_End.f
    rw [if_neg (by omega), if_pos (by omega), if_pos (by omega), hb, Letter_eq, Option.bind_some, Digit_eq, Option.bind_some]
    by_cases h2 : cls s[o].toNat = 2 <;> simp [h2]
  refine Ev.congr hf ?_
  rw [hg]
  simp only [endL]
  by_cases h2 : cls s[o].toNat = 2
  · rw [if_pos h2]
    refine Ev.step (f := fun k => queuelabref01_End.l0 k s (o : Int) true) (fun k => ?_) ?_
    · simp [queuelabref01_End.j0, h2]
    · have := End_go s hs true (s.size - o) o (by omega)
      rw [hg] at this; exact this
  · rw [if_neg h2]
    by_cases h3 : cls s[o].toNat = 3
    · rw [if_pos h3]
      refine Ev.step (f := fun k => queuelabref01_End.l0 k s (o : Int) false) (fun k => ?_) ?_
      · simp [queuelabref01_End.j0, h2, h3]
      · have := End_go s hs false (s.size - o) o (by omega)
        rw [hg] at this; exact this
    · rw [if_neg h3]
      have h256 : s[o].toNat < 256 := s[o].toNat_lt
      refine Ev.step (f := fun k => queuelabref01_End.l1 k s (o : Int) (punctL.map fun p => (⟨p.toArray⟩ : ByteArray)) ((0 : Nat) : Int)) (fun k => ?_) ?_
      · simp only [queuelabref01_End.j0]
        rw [if_neg (by simp [h2, h3]), Punct_eq]; rfl
      · have hgo := End_l1_go s hs o ho punctL (by decide) (by decide) 17 0 (by decide)
        rw [List.drop_zero, hg, firstN_B punctL punct_form] at hgo
        have hall := firstB_all s[o].toNat h256 h2 h3 (decide (((bl s).drop (o + 1)).head?.map (·.toNat) = some 61))
        rw [show UInt8.ofNat s[o].toNat = s[o] by simp] at hall
        rw [hall] at hgo
        have e : endB s[o].toNat (decide (((bl s).drop (o + 1)).head?.map (·.toNat) = some 61)) = if cls s[o].toNat = 4 then (if relC s[o].toNat ∧ ((bl s).drop (o + 1)).head?.map (·.toNat) = some 61 then 2 else if s[o].toNat = 33 then 0 else 1) else 0 := by
          simp [endB]
        rw [e] at hgo
        exact hgo
end Go.Proofs.YtgkpjfbghjojoaaDoor.L
