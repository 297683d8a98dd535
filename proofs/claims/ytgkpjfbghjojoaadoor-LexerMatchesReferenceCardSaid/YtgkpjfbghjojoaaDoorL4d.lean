-- PRINTED by print.py (a twelfth state) out of the translation. Not trusted: Lean checks it.
import Derived.Test.YtgkpjfbghjojoaaDoorL0
import Derived.Test.YtgkpjfbghjojoaaDoorL1
import Derived.Test.YtgkpjfbghjojoaaDoorL2
import Derived.Test.YtgkpjfbghjojoaaDoorL3
import Derived.Test.YtgkpjfbghjojoaaDoorL4a
import Derived.Test.YtgkpjfbghjojoaaDoorL4b
namespace Go.Proofs.YtgkpjfbghjojoaaDoor.L
open Go.RowKit Go.Proofs.YtgkpjfbghjojoaaDoorW.PrintWords Go.Proofs.YtgkpjfbghjojoaaDoorW.PrintLast Go.Proofs.YtgkpjfbghjojoaaDoorW.PrintMore
attribute [local go_sem] max2_int min2_int max_two min_two max_three min_three max_four min_four   -- for this text's walks alone
set_option linter.unusedVariables false
set_option linter.unusedSimpArgs false

/-! ### queuelablaw01_LexerMatchesReference: function 3 -/
def queuelablaw01_LexerMatchesReference.f (k : Nat) (a0 : ByteArray) : Option (Bool) := (queuelablaw01_head.f k).bind fun t175 => (if (a0.size : Int) > 12000 then (some t175) else ((lexer_Lex.f k a0).bind fun bt176 => ((queuelabref01_Lex.f k a0).bind fun bt181 => (if t175 = true then ((queuelabref01_Same.f k bt176.1 bt181.1 0).bind fun t186 => (if t186 = true then (if bt176.2.1 = bt181.2.1 then (some (bt176.2.2 == bt181.2.2)) else (some false)) else (some false))) else (some false)))))
theorem queuelablaw01_LexerMatchesReference.mono : ∀ a0 k, LeO (queuelablaw01_LexerMatchesReference.f k a0) (queuelablaw01_LexerMatchesReference.f (k + 1) a0) := by
 intro a0 k
 unfold queuelablaw01_LexerMatchesReference.f
 repeat' first
  | (with_reducible exact lexer_Lex.mono _ _)
  | (with_reducible exact queuelablaw01_head.mono _)
  | (with_reducible exact queuelabref01_Lex.mono _ _)
  | (with_reducible exact queuelabref01_Same.mono _ _ _ _)
  | (with_reducible exact LeO.refl _)
  | (with_reducible exact LeO.none _)
  | (with_reducible refine LeO.ite ?_ ?_)
  | (with_reducible refine LeO.bind ?_ (fun _ => ?_))
  | exact lexer_Lex.mono _ _
  | exact queuelablaw01_head.mono _
  | exact queuelabref01_Lex.mono _ _
  | exact queuelabref01_Same.mono _ _ _ _
  | exact LeO.none _
  | refine LeO.ite ?_ ?_
  | refine LeO.bind ?_ (fun _ => ?_)
end Go.Proofs.YtgkpjfbghjojoaaDoor.L
