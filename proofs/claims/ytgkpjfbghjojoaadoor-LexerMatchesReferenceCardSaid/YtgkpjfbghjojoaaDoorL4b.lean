-- PRINTED by print.py (a twelfth state) out of the translation. Not trusted: Lean checks it.
import Derived.Test.YtgkpjfbghjojoaaDoorL0
import Derived.Test.YtgkpjfbghjojoaaDoorL1
import Derived.Test.YtgkpjfbghjojoaaDoorL2
import Derived.Test.YtgkpjfbghjojoaaDoorL3
import Derived.Test.YtgkpjfbghjojoaaDoorL4a
namespace Go.Proofs.YtgkpjfbghjojoaaDoor.L
open Go.RowKit Go.Proofs.YtgkpjfbghjojoaaDoorW.PrintWords Go.Proofs.YtgkpjfbghjojoaaDoorW.PrintLast Go.Proofs.YtgkpjfbghjojoaaDoorW.PrintMore
attribute [local go_sem] max2_int min2_int max_two min_two max_three min_three max_four min_four   -- for this text's walks alone
set_option linter.unusedVariables false
set_option linter.unusedSimpArgs false

/-! ### queuelabref01_Lex: function 12 -/
def queuelabref01_Lex.l0 : Nat → ByteArray → List (S31) → Int → Option ((List (S31)) × Int × Int)
 | 0, _, _, _ => none
 | k + 1, x0, x5, x6 => if x6 < (x0.size : Int) then (if (x5.length : Int) = 3000 then (some (([] : List (S31)), 2, x6)) else ((queuelabref01_End.f k x0 x6).bind fun t164 => (if t164 = x6 then (some (([] : List (S31)), 7, x6)) else (if 0 ≤ x6 then (if x6 ≤ t164 then (if t164 ≤ (x0.size : Int) then ((queuelabref01_Token.f k (x0.extract (x6 : Int).toNat (t164 : Int).toNat)).bind fun bt165 => (if bt165.2.2.2.2 = 0 then (if x5.length < 3518437208883 then ((queuelabref01_Gap.f k x0 t164).bind fun t174 => (queuelabref01_Lex.l0 k x0 (x5 ++ [(⟨bt165.1, bt165.2.1, bt165.2.2.1, x6⟩ : S31)]) t174)) else (none)) else (some (([] : List (S31)), bt165.2.2.2.2, x6)))) else (none)) else (none)) else (none))))) else (some (x5, 0, 0))
def queuelabref01_Lex.f (k : Nat) (a0 : ByteArray) : Option ((List (S31)) × Int × Int) := if (a0.size : Int) > 10000 then (some (([] : List (S31)), 2, 0)) else ((queuelabref01_Gap.f k a0 0).bind fun t163 => (queuelabref01_Lex.l0 k a0 ([] : List (S31)) t163))
theorem queuelabref01_Lex.mono_l : ∀ k, (∀ y0 y1 y2, LeO (queuelabref01_Lex.l0 k y0 y1 y2) (queuelabref01_Lex.l0 (k + 1) y0 y1 y2))
 | 0 => fun _ _ _ r h => by simp [queuelabref01_Lex.l0] at h
 | k + 1 => by
  have ih0 := queuelabref01_Lex.mono_l k
  · intro y0 y1 y2
    unfold queuelabref01_Lex.l0
    repeat' first
    | (with_reducible exact ih0 _ _ _)
    | (with_reducible exact queuelabref01_End.mono _ _ _)
    | (with_reducible exact queuelabref01_Gap.mono _ _ _)
    | (with_reducible exact queuelabref01_Token.mono _ _)
    | (with_reducible exact LeO.refl _)
    | (with_reducible exact LeO.none _)
    | (with_reducible refine LeO.ite ?_ ?_)
    | (with_reducible refine LeO.bind ?_ (fun _ => ?_))
    | exact ih0 _ _ _
    | exact queuelabref01_End.mono _ _ _
    | exact queuelabref01_Gap.mono _ _ _
    | exact queuelabref01_Token.mono _ _
    | exact LeO.none _
    | refine LeO.ite ?_ ?_
    | refine LeO.bind ?_ (fun _ => ?_)
theorem queuelabref01_Lex.mono : ∀ a0 k, LeO (queuelabref01_Lex.f k a0) (queuelabref01_Lex.f (k + 1) a0) := by
 intro a0 k
 have ih0 := queuelabref01_Lex.mono_l k
 unfold queuelabref01_Lex.f
 repeat' first
  | (with_reducible exact ih0 _ _ _)
  | (with_reducible exact queuelabref01_End.mono _ _ _)
  | (with_reducible exact queuelabref01_Gap.mono _ _ _)
  | (with_reducible exact queuelabref01_Token.mono _ _)
  | (with_reducible exact LeO.refl _)
  | (with_reducible exact LeO.none _)
  | (with_reducible refine LeO.ite ?_ ?_)
  | (with_reducible refine LeO.bind ?_ (fun _ => ?_))
  | exact ih0 _ _ _
  | exact queuelabref01_End.mono _ _ _
  | exact queuelabref01_Gap.mono _ _ _
  | exact queuelabref01_Token.mono _ _
  | exact LeO.none _
  | refine LeO.ite ?_ ?_
  | refine LeO.bind ?_ (fun _ => ?_)
end Go.Proofs.YtgkpjfbghjojoaaDoor.L
