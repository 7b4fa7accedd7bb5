/- Is there a row, an index into it, and flows: as the program asks. -/
import Derived.Test.YtcalhmjnoahliaaLibBS
import Derived.Test.YtcalhmjnoahliaaLibFl
import Derived.Test.YtcalhmjnoahliaaLibRun
import Derived.Test.YtcalhmjnoahliaaLibW
import Derived.Test.YtcalhmjnoahliaaPr18
namespace Go.Proofs.Ytcalhmjnoahliaa.Pure
open Go.RowKit Go.Proofs.Ytcalhmjnoahliaa.Pr Go.Proofs.YtcalhmjnoahliaaW.PrintWords Go.Proofs.YtcalhmjnoahliaaW.PrintLast
set_option linter.unusedVariables false
set_option linter.unusedSimpArgs false

theorem isBasinOf_ok (l : List BI) (a : Int) (fs : List Int) (hl : l.length ≤ 1048576) (hfl : fs.length ≤ 1048576) : impl_isBasinOf.f l a fs = some (askB l fs && inR 0 ((l.length : Int) - 1) a) := by
  unfold impl_isBasinOf.f askB
  rw [IsRow_ok _ hl, Option.bind_some]
  cases rowB l
  · rfl
  · rw [if_pos rfl, AreFlows_ok _ hfl, Option.bind_some]
    cases flowsB fs
    · rfl
    · rw [if_pos rfl, within_okR, Option.bind_some, w64 (i := (l.length : Int) - 1) (by omega) (by omega)]
      rfl

end Go.Proofs.Ytcalhmjnoahliaa.Pure
