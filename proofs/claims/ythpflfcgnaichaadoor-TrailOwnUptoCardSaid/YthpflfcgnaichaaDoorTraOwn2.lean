/-
TrailOwn: its code in parts, its frames, its memory.
-/
import Derived.Test.YthpflfcgnaichaaDoorTraOwn1
set_option linter.unusedVariables false
set_option linter.unusedSimpArgs false
namespace Go.Proofs.YthpflfcgnaichaaDoor
open Go Go.RowKit

/-- What stays in the slots: the second script, both logs, the text. -/
structure OP where
  mv : Value
  lb : Nat
  cb : Nat
  t : ByteArray

/-- Where the lists of lists lie. -/
structure OQ where
  ga : Nat
  na : Nat
  ca : Nat
  go : Nat
  no : Nat
  co : Nat

noncomputable def owA : Code := (ncl (ncr (ncr (ncr (ncr (ncr (ncr (ncr (ncx Tryd.f8.body)))))))))
noncomputable def owB : Code := (ncl (ncr (ncr (ncr (ncr (ncr (ncr (ncr (ncr (ncx Tryd.f8.body))))))))))
noncomputable def owC : Code := (ncl (ncr (ncr (ncr (ncr (ncr (ncr (ncr (ncr (ncr (ncx Tryd.f8.body)))))))))))
noncomputable def owD : Code := (ncl (ncr (ncr (ncr (ncr (ncr (ncr (ncr (ncr (ncr (ncr (ncr (ncr (ncx Tryd.f8.body))))))))))))))
noncomputable def owE : Code := (ncl (ncr (ncr (ncr (ncr (ncr (ncr (ncr (ncr (ncr (ncr (ncr (ncr (ncr (ncx Tryd.f8.body)))))))))))))))
noncomputable def owG : Code := (ncl (ncr (ncr (ncr (ncr (ncr (ncr (ncr (ncr (ncr (ncr (ncr (ncr (ncr (ncr (ncx Tryd.f8.body))))))))))))))))
noncomputable def owH : Code := (ncl (ncr (ncr (ncr (ncr (ncr (ncr (ncr (ncr (ncr (ncr (ncr (ncr (ncr (ncr (ncr (ncx Tryd.f8.body)))))))))))))))))
noncomputable def owI : Code := (ncl (ncr (ncr (ncr (ncr (ncr (ncr (ncr (ncr (ncr (ncr (ncr (ncr (ncr (ncr (ncr (ncr (ncx Tryd.f8.body))))))))))))))))))
noncomputable def owZ : Code := (ncl (ncr (ncr (ncr (ncr (ncr (ncr (ncr (ncr (ncr (ncr (ncr (ncr (ncr (ncr (ncr (ncr (ncr (ncx Tryd.f8.body)))))))))))))))))))
noncomputable def owR7 : Code := (ncr (ncr (ncr (ncr (ncr (ncr (ncr (ncx Tryd.f8.body))))))))
noncomputable def owR8 : Code := (ncr (ncr (ncr (ncr (ncr (ncr (ncr (ncr (ncx Tryd.f8.body)))))))))
noncomputable def owR9 : Code := (ncr (ncr (ncr (ncr (ncr (ncr (ncr (ncr (ncr (ncx Tryd.f8.body))))))))))
noncomputable def owR10 : Code := (ncr (ncr (ncr (ncr (ncr (ncr (ncr (ncr (ncr (ncr (ncx Tryd.f8.body)))))))))))
noncomputable def owR11 : Code := (ncr (ncr (ncr (ncr (ncr (ncr (ncr (ncr (ncr (ncr (ncr (ncx Tryd.f8.body))))))))))))
noncomputable def owR12 : Code := (ncr (ncr (ncr (ncr (ncr (ncr (ncr (ncr (ncr (ncr (ncr (ncr (ncx Tryd.f8.body)))))))))))))
noncomputable def owR13 : Code := (ncr (ncr (ncr (ncr (ncr (ncr (ncr (ncr (ncr (ncr (ncr (ncr (ncr (ncx Tryd.f8.body))))))))))))))
noncomputable def owR14 : Code := (ncr (ncr (ncr (ncr (ncr (ncr (ncr (ncr (ncr (ncr (ncr (ncr (ncr (ncr (ncx Tryd.f8.body)))))))))))))))
noncomputable def owR15 : Code := (ncr (ncr (ncr (ncr (ncr (ncr (ncr (ncr (ncr (ncr (ncr (ncr (ncr (ncr (ncr (ncx Tryd.f8.body))))))))))))))))
noncomputable def owR16 : Code := (ncr (ncr (ncr (ncr (ncr (ncr (ncr (ncr (ncr (ncr (ncr (ncr (ncr (ncr (ncr (ncr (ncx Tryd.f8.body)))))))))))))))))
noncomputable def owR17 : Code := (ncr (ncr (ncr (ncr (ncr (ncr (ncr (ncr (ncr (ncr (ncr (ncr (ncr (ncr (ncr (ncr (ncr (ncx Tryd.f8.body))))))))))))))))))
noncomputable def owR18 : Code := (ncr (ncr (ncr (ncr (ncr (ncr (ncr (ncr (ncr (ncr (ncr (ncr (ncr (ncr (ncr (ncr (ncr (ncr (ncx Tryd.f8.body)))))))))))))))))))
noncomputable def ow31 : Code := (ncl (ncr (ncr (ncr (ncr (ncr (ncr (ncr (ncr (ncr (ncr (ncx Tryd.f8.body))))))))))))
noncomputable def ow32 : Code := (ncl (ncr (ncr (ncr (ncr (ncr (ncr (ncr (ncr (ncr (ncr (ncr (ncx Tryd.f8.body)))))))))))))
noncomputable def owA0 : Code := (ncl (ncl (ncr (ncr (ncr (ncr (ncr (ncr (ncr (ncx Tryd.f8.body))))))))))
noncomputable def owAk : Code := (ncr (ncl (ncr (ncr (ncr (ncr (ncr (ncr (ncr (ncx Tryd.f8.body))))))))))
noncomputable def owAl : Code := (ncb (ncr (ncl (ncr (ncr (ncr (ncr (ncr (ncr (ncr (ncx Tryd.f8.body)))))))))))
noncomputable def owAt : Code := (ncl (nco (ncb (ncr (ncl (ncr (ncr (ncr (ncr (ncr (ncr (ncr (ncx Tryd.f8.body)))))))))))))
noncomputable def owAb : Code := (ncl (ncr (nco (ncb (ncr (ncl (ncr (ncr (ncr (ncr (ncr (ncr (ncr (ncx Tryd.f8.body))))))))))))))
noncomputable def owAs : Code := (ncr (ncr (nco (ncb (ncr (ncl (ncr (ncr (ncr (ncr (ncr (ncr (ncr (ncx Tryd.f8.body))))))))))))))
noncomputable def owB0 : Code := (ncl (ncl (ncr (ncr (ncr (ncr (ncr (ncr (ncr (ncr (ncx Tryd.f8.body)))))))))))
noncomputable def owBk : Code := (ncr (ncl (ncr (ncr (ncr (ncr (ncr (ncr (ncr (ncr (ncx Tryd.f8.body)))))))))))
noncomputable def owBl : Code := (ncb (ncr (ncl (ncr (ncr (ncr (ncr (ncr (ncr (ncr (ncr (ncx Tryd.f8.body))))))))))))
noncomputable def owBt : Code := (ncl (nco (ncb (ncr (ncl (ncr (ncr (ncr (ncr (ncr (ncr (ncr (ncr (ncx Tryd.f8.body))))))))))))))
noncomputable def owBb : Code := (ncl (ncr (nco (ncb (ncr (ncl (ncr (ncr (ncr (ncr (ncr (ncr (ncr (ncr (ncx Tryd.f8.body)))))))))))))))
noncomputable def owBs : Code := (ncr (ncr (nco (ncb (ncr (ncl (ncr (ncr (ncr (ncr (ncr (ncr (ncr (ncr (ncx Tryd.f8.body)))))))))))))))
noncomputable def owC0 : Code := (ncl (ncl (ncr (ncr (ncr (ncr (ncr (ncr (ncr (ncr (ncr (ncx Tryd.f8.body))))))))))))
noncomputable def owCk : Code := (ncr (ncl (ncr (ncr (ncr (ncr (ncr (ncr (ncr (ncr (ncr (ncx Tryd.f8.body))))))))))))
noncomputable def owCl : Code := (ncb (ncr (ncl (ncr (ncr (ncr (ncr (ncr (ncr (ncr (ncr (ncr (ncx Tryd.f8.body)))))))))))))
noncomputable def owCt : Code := (ncl (nco (ncb (ncr (ncl (ncr (ncr (ncr (ncr (ncr (ncr (ncr (ncr (ncr (ncx Tryd.f8.body)))))))))))))))
noncomputable def owCb : Code := (ncl (ncr (nco (ncb (ncr (ncl (ncr (ncr (ncr (ncr (ncr (ncr (ncr (ncr (ncr (ncx Tryd.f8.body))))))))))))))))
noncomputable def owCs : Code := (ncr (ncr (nco (ncb (ncr (ncl (ncr (ncr (ncr (ncr (ncr (ncr (ncr (ncr (ncr (ncx Tryd.f8.body))))))))))))))))
noncomputable def owD0 : Code := (ncl (ncl (ncr (ncr (ncr (ncr (ncr (ncr (ncr (ncr (ncr (ncr (ncr (ncr (ncx Tryd.f8.body)))))))))))))))
noncomputable def owDk : Code := (ncr (ncl (ncr (ncr (ncr (ncr (ncr (ncr (ncr (ncr (ncr (ncr (ncr (ncr (ncx Tryd.f8.body)))))))))))))))
noncomputable def owDl : Code := (ncb (ncr (ncl (ncr (ncr (ncr (ncr (ncr (ncr (ncr (ncr (ncr (ncr (ncr (ncr (ncx Tryd.f8.body))))))))))))))))
noncomputable def owDt : Code := (ncl (nco (ncb (ncr (ncl (ncr (ncr (ncr (ncr (ncr (ncr (ncr (ncr (ncr (ncr (ncr (ncr (ncx Tryd.f8.body))))))))))))))))))
noncomputable def owDb : Code := (ncl (ncr (nco (ncb (ncr (ncl (ncr (ncr (ncr (ncr (ncr (ncr (ncr (ncr (ncr (ncr (ncr (ncr (ncx Tryd.f8.body)))))))))))))))))))
noncomputable def owDs : Code := (ncr (ncr (nco (ncb (ncr (ncl (ncr (ncr (ncr (ncr (ncr (ncr (ncr (ncr (ncr (ncr (ncr (ncr (ncx Tryd.f8.body)))))))))))))))))))
noncomputable def owE0 : Code := (ncl (ncl (ncr (ncr (ncr (ncr (ncr (ncr (ncr (ncr (ncr (ncr (ncr (ncr (ncr (ncx Tryd.f8.body))))))))))))))))
noncomputable def owEk : Code := (ncr (ncl (ncr (ncr (ncr (ncr (ncr (ncr (ncr (ncr (ncr (ncr (ncr (ncr (ncr (ncx Tryd.f8.body))))))))))))))))
noncomputable def owEl : Code := (ncb (ncr (ncl (ncr (ncr (ncr (ncr (ncr (ncr (ncr (ncr (ncr (ncr (ncr (ncr (ncr (ncx Tryd.f8.body)))))))))))))))))
noncomputable def owEt : Code := (ncl (nco (ncb (ncr (ncl (ncr (ncr (ncr (ncr (ncr (ncr (ncr (ncr (ncr (ncr (ncr (ncr (ncr (ncx Tryd.f8.body)))))))))))))))))))
noncomputable def owEb : Code := (ncl (ncr (nco (ncb (ncr (ncl (ncr (ncr (ncr (ncr (ncr (ncr (ncr (ncr (ncr (ncr (ncr (ncr (ncr (ncx Tryd.f8.body))))))))))))))))))))
noncomputable def owEs : Code := (ncr (ncr (nco (ncb (ncr (ncl (ncr (ncr (ncr (ncr (ncr (ncr (ncr (ncr (ncr (ncr (ncr (ncr (ncr (ncx Tryd.f8.body))))))))))))))))))))
noncomputable def owG0 : Code := (ncl (ncl (ncr (ncr (ncr (ncr (ncr (ncr (ncr (ncr (ncr (ncr (ncr (ncr (ncr (ncr (ncx Tryd.f8.body)))))))))))))))))
noncomputable def owGk : Code := (ncr (ncl (ncr (ncr (ncr (ncr (ncr (ncr (ncr (ncr (ncr (ncr (ncr (ncr (ncr (ncr (ncx Tryd.f8.body)))))))))))))))))
noncomputable def owGl : Code := (ncb (ncr (ncl (ncr (ncr (ncr (ncr (ncr (ncr (ncr (ncr (ncr (ncr (ncr (ncr (ncr (ncr (ncx Tryd.f8.body))))))))))))))))))
noncomputable def owGt : Code := (ncl (nco (ncb (ncr (ncl (ncr (ncr (ncr (ncr (ncr (ncr (ncr (ncr (ncr (ncr (ncr (ncr (ncr (ncr (ncx Tryd.f8.body))))))))))))))))))))
noncomputable def owGb : Code := (ncl (ncr (nco (ncb (ncr (ncl (ncr (ncr (ncr (ncr (ncr (ncr (ncr (ncr (ncr (ncr (ncr (ncr (ncr (ncr (ncx Tryd.f8.body)))))))))))))))))))))
noncomputable def owGs : Code := (ncr (ncr (nco (ncb (ncr (ncl (ncr (ncr (ncr (ncr (ncr (ncr (ncr (ncr (ncr (ncr (ncr (ncr (ncr (ncr (ncx Tryd.f8.body)))))))))))))))))))))
noncomputable def owH0 : Code := (ncl (ncl (ncr (ncr (ncr (ncr (ncr (ncr (ncr (ncr (ncr (ncr (ncr (ncr (ncr (ncr (ncr (ncx Tryd.f8.body))))))))))))))))))
noncomputable def owHk : Code := (ncr (ncl (ncr (ncr (ncr (ncr (ncr (ncr (ncr (ncr (ncr (ncr (ncr (ncr (ncr (ncr (ncr (ncx Tryd.f8.body))))))))))))))))))
noncomputable def owHl : Code := (ncb (ncr (ncl (ncr (ncr (ncr (ncr (ncr (ncr (ncr (ncr (ncr (ncr (ncr (ncr (ncr (ncr (ncr (ncx Tryd.f8.body)))))))))))))))))))
noncomputable def owHt : Code := (ncl (nco (ncb (ncr (ncl (ncr (ncr (ncr (ncr (ncr (ncr (ncr (ncr (ncr (ncr (ncr (ncr (ncr (ncr (ncr (ncx Tryd.f8.body)))))))))))))))))))))
noncomputable def owHb : Code := (ncl (ncr (nco (ncb (ncr (ncl (ncr (ncr (ncr (ncr (ncr (ncr (ncr (ncr (ncr (ncr (ncr (ncr (ncr (ncr (ncr (ncx Tryd.f8.body))))))))))))))))))))))
noncomputable def owHs : Code := (ncr (ncr (nco (ncb (ncr (ncl (ncr (ncr (ncr (ncr (ncr (ncr (ncr (ncr (ncr (ncr (ncr (ncr (ncr (ncr (ncr (ncx Tryd.f8.body))))))))))))))))))))))
noncomputable def owI0 : Code := (ncl (ncl (ncr (ncr (ncr (ncr (ncr (ncr (ncr (ncr (ncr (ncr (ncr (ncr (ncr (ncr (ncr (ncr (ncx Tryd.f8.body)))))))))))))))))))
noncomputable def owIk : Code := (ncr (ncl (ncr (ncr (ncr (ncr (ncr (ncr (ncr (ncr (ncr (ncr (ncr (ncr (ncr (ncr (ncr (ncr (ncx Tryd.f8.body)))))))))))))))))))
noncomputable def owIl : Code := (ncb (ncr (ncl (ncr (ncr (ncr (ncr (ncr (ncr (ncr (ncr (ncr (ncr (ncr (ncr (ncr (ncr (ncr (ncr (ncx Tryd.f8.body))))))))))))))))))))
noncomputable def owIt : Code := (ncl (nco (ncb (ncr (ncl (ncr (ncr (ncr (ncr (ncr (ncr (ncr (ncr (ncr (ncr (ncr (ncr (ncr (ncr (ncr (ncr (ncx Tryd.f8.body))))))))))))))))))))))
noncomputable def owIb : Code := (ncl (ncr (nco (ncb (ncr (ncl (ncr (ncr (ncr (ncr (ncr (ncr (ncr (ncr (ncr (ncr (ncr (ncr (ncr (ncr (ncr (ncr (ncx Tryd.f8.body)))))))))))))))))))))))
noncomputable def owIs : Code := (ncr (ncr (nco (ncb (ncr (ncl (ncr (ncr (ncr (ncr (ncr (ncr (ncr (ncr (ncr (ncr (ncr (ncr (ncr (ncr (ncr (ncr (ncx Tryd.f8.body)))))))))))))))))))))))
noncomputable def owA1 : Code := (ncl (ncb (ncl (ncr (nco (ncb (ncr (ncl (ncr (ncr (ncr (ncr (ncr (ncr (ncr (ncx Tryd.f8.body))))))))))))))))
noncomputable def owA2 : Code := (ncl (ncr (ncb (ncl (ncr (nco (ncb (ncr (ncl (ncr (ncr (ncr (ncr (ncr (ncr (ncr (ncx Tryd.f8.body)))))))))))))))))
noncomputable def owA3 : Code := (ncl (ncr (ncr (ncb (ncl (ncr (nco (ncb (ncr (ncl (ncr (ncr (ncr (ncr (ncr (ncr (ncr (ncx Tryd.f8.body))))))))))))))))))
noncomputable def owA4 : Code := (ncl (ncr (ncr (ncr (ncb (ncl (ncr (nco (ncb (ncr (ncl (ncr (ncr (ncr (ncr (ncr (ncr (ncr (ncx Tryd.f8.body)))))))))))))))))))
noncomputable def owA5 : Code := (ncr (ncr (ncr (ncr (ncb (ncl (ncr (nco (ncb (ncr (ncl (ncr (ncr (ncr (ncr (ncr (ncr (ncr (ncx Tryd.f8.body)))))))))))))))))))
noncomputable def owBi : Code := (ncl (ncb (ncl (ncr (nco (ncb (ncr (ncl (ncr (ncr (ncr (ncr (ncr (ncr (ncr (ncr (ncx Tryd.f8.body)))))))))))))))))
noncomputable def owBj : Code := (ncr (ncb (ncl (ncr (nco (ncb (ncr (ncl (ncr (ncr (ncr (ncr (ncr (ncr (ncr (ncr (ncx Tryd.f8.body)))))))))))))))))
noncomputable def owBm : Code := (ncb (ncr (ncb (ncl (ncr (nco (ncb (ncr (ncl (ncr (ncr (ncr (ncr (ncr (ncr (ncr (ncr (ncx Tryd.f8.body))))))))))))))))))
noncomputable def owBu : Code := (ncl (nco (ncb (ncr (ncb (ncl (ncr (nco (ncb (ncr (ncl (ncr (ncr (ncr (ncr (ncr (ncr (ncr (ncr (ncx Tryd.f8.body))))))))))))))))))))
noncomputable def owBc : Code := (ncl (ncr (nco (ncb (ncr (ncb (ncl (ncr (nco (ncb (ncr (ncl (ncr (ncr (ncr (ncr (ncr (ncr (ncr (ncr (ncx Tryd.f8.body)))))))))))))))))))))
noncomputable def owBw : Code := (ncb (ncl (ncr (nco (ncb (ncr (ncb (ncl (ncr (nco (ncb (ncr (ncl (ncr (ncr (ncr (ncr (ncr (ncr (ncr (ncr (ncx Tryd.f8.body))))))))))))))))))))))
noncomputable def owBv : Code := (ncr (ncr (nco (ncb (ncr (ncb (ncl (ncr (nco (ncb (ncr (ncl (ncr (ncr (ncr (ncr (ncr (ncr (ncr (ncr (ncx Tryd.f8.body)))))))))))))))))))))
noncomputable def owCi : Code := (ncl (ncb (ncl (ncr (nco (ncb (ncr (ncl (ncr (ncr (ncr (ncr (ncr (ncr (ncr (ncr (ncr (ncx Tryd.f8.body))))))))))))))))))
noncomputable def owCj : Code := (ncr (ncb (ncl (ncr (nco (ncb (ncr (ncl (ncr (ncr (ncr (ncr (ncr (ncr (ncr (ncr (ncr (ncx Tryd.f8.body))))))))))))))))))
noncomputable def owCm : Code := (ncb (ncr (ncb (ncl (ncr (nco (ncb (ncr (ncl (ncr (ncr (ncr (ncr (ncr (ncr (ncr (ncr (ncr (ncx Tryd.f8.body)))))))))))))))))))
noncomputable def owCu : Code := (ncl (nco (ncb (ncr (ncb (ncl (ncr (nco (ncb (ncr (ncl (ncr (ncr (ncr (ncr (ncr (ncr (ncr (ncr (ncr (ncx Tryd.f8.body)))))))))))))))))))))
noncomputable def owCc : Code := (ncl (ncr (nco (ncb (ncr (ncb (ncl (ncr (nco (ncb (ncr (ncl (ncr (ncr (ncr (ncr (ncr (ncr (ncr (ncr (ncr (ncx Tryd.f8.body))))))))))))))))))))))
noncomputable def owCw : Code := (ncb (ncl (ncr (nco (ncb (ncr (ncb (ncl (ncr (nco (ncb (ncr (ncl (ncr (ncr (ncr (ncr (ncr (ncr (ncr (ncr (ncr (ncx Tryd.f8.body)))))))))))))))))))))))
noncomputable def owCv : Code := (ncr (ncr (nco (ncb (ncr (ncb (ncl (ncr (nco (ncb (ncr (ncl (ncr (ncr (ncr (ncr (ncr (ncr (ncr (ncr (ncr (ncx Tryd.f8.body))))))))))))))))))))))
noncomputable def owDw : Code := (ncb (ncl (ncr (nco (ncb (ncr (ncl (ncr (ncr (ncr (ncr (ncr (ncr (ncr (ncr (ncr (ncr (ncr (ncr (ncx Tryd.f8.body))))))))))))))))))))
noncomputable def owEw : Code := (ncb (ncl (ncr (nco (ncb (ncr (ncl (ncr (ncr (ncr (ncr (ncr (ncr (ncr (ncr (ncr (ncr (ncr (ncr (ncr (ncx Tryd.f8.body)))))))))))))))))))))
noncomputable def owGi : Code := (ncl (ncl (ncb (ncl (ncr (nco (ncb (ncr (ncl (ncr (ncr (ncr (ncr (ncr (ncr (ncr (ncr (ncr (ncr (ncr (ncr (ncr (ncr (ncx Tryd.f8.body))))))))))))))))))))))))
noncomputable def owGj : Code := (ncr (ncl (ncb (ncl (ncr (nco (ncb (ncr (ncl (ncr (ncr (ncr (ncr (ncr (ncr (ncr (ncr (ncr (ncr (ncr (ncr (ncr (ncr (ncx Tryd.f8.body))))))))))))))))))))))))
noncomputable def owGm : Code := (ncb (ncr (ncl (ncb (ncl (ncr (nco (ncb (ncr (ncl (ncr (ncr (ncr (ncr (ncr (ncr (ncr (ncr (ncr (ncr (ncr (ncr (ncr (ncr (ncx Tryd.f8.body)))))))))))))))))))))))))
noncomputable def owGu : Code := (ncl (nco (ncb (ncr (ncl (ncb (ncl (ncr (nco (ncb (ncr (ncl (ncr (ncr (ncr (ncr (ncr (ncr (ncr (ncr (ncr (ncr (ncr (ncr (ncr (ncr (ncx Tryd.f8.body)))))))))))))))))))))))))))
noncomputable def owGc : Code := (ncl (ncr (nco (ncb (ncr (ncl (ncb (ncl (ncr (nco (ncb (ncr (ncl (ncr (ncr (ncr (ncr (ncr (ncr (ncr (ncr (ncr (ncr (ncr (ncr (ncr (ncr (ncx Tryd.f8.body))))))))))))))))))))))))))))
noncomputable def owGw : Code := (ncb (ncl (ncr (nco (ncb (ncr (ncl (ncb (ncl (ncr (nco (ncb (ncr (ncl (ncr (ncr (ncr (ncr (ncr (ncr (ncr (ncr (ncr (ncr (ncr (ncr (ncr (ncr (ncx Tryd.f8.body)))))))))))))))))))))))))))))
noncomputable def owGv : Code := (ncr (ncr (nco (ncb (ncr (ncl (ncb (ncl (ncr (nco (ncb (ncr (ncl (ncr (ncr (ncr (ncr (ncr (ncr (ncr (ncr (ncr (ncr (ncr (ncr (ncr (ncr (ncx Tryd.f8.body))))))))))))))))))))))))))))
noncomputable def owGx : Code := (ncl (ncb (ncl (ncr (nco (ncb (ncr (ncl (ncr (ncr (ncr (ncr (ncr (ncr (ncr (ncr (ncr (ncr (ncr (ncr (ncr (ncr (ncx Tryd.f8.body)))))))))))))))))))))))
noncomputable def owGy : Code := (ncr (ncb (ncl (ncr (nco (ncb (ncr (ncl (ncr (ncr (ncr (ncr (ncr (ncr (ncr (ncr (ncr (ncr (ncr (ncr (ncr (ncr (ncx Tryd.f8.body)))))))))))))))))))))))
noncomputable def owHi : Code := (ncl (ncl (ncb (ncl (ncr (nco (ncb (ncr (ncl (ncr (ncr (ncr (ncr (ncr (ncr (ncr (ncr (ncr (ncr (ncr (ncr (ncr (ncr (ncr (ncx Tryd.f8.body)))))))))))))))))))))))))
noncomputable def owHj : Code := (ncr (ncl (ncb (ncl (ncr (nco (ncb (ncr (ncl (ncr (ncr (ncr (ncr (ncr (ncr (ncr (ncr (ncr (ncr (ncr (ncr (ncr (ncr (ncr (ncx Tryd.f8.body)))))))))))))))))))))))))
noncomputable def owHm : Code := (ncb (ncr (ncl (ncb (ncl (ncr (nco (ncb (ncr (ncl (ncr (ncr (ncr (ncr (ncr (ncr (ncr (ncr (ncr (ncr (ncr (ncr (ncr (ncr (ncr (ncx Tryd.f8.body))))))))))))))))))))))))))
noncomputable def owHu : Code := (ncl (nco (ncb (ncr (ncl (ncb (ncl (ncr (nco (ncb (ncr (ncl (ncr (ncr (ncr (ncr (ncr (ncr (ncr (ncr (ncr (ncr (ncr (ncr (ncr (ncr (ncr (ncx Tryd.f8.body))))))))))))))))))))))))))))
noncomputable def owHc : Code := (ncl (ncr (nco (ncb (ncr (ncl (ncb (ncl (ncr (nco (ncb (ncr (ncl (ncr (ncr (ncr (ncr (ncr (ncr (ncr (ncr (ncr (ncr (ncr (ncr (ncr (ncr (ncr (ncx Tryd.f8.body)))))))))))))))))))))))))))))
noncomputable def owHw : Code := (ncb (ncl (ncr (nco (ncb (ncr (ncl (ncb (ncl (ncr (nco (ncb (ncr (ncl (ncr (ncr (ncr (ncr (ncr (ncr (ncr (ncr (ncr (ncr (ncr (ncr (ncr (ncr (ncr (ncx Tryd.f8.body))))))))))))))))))))))))))))))
noncomputable def owHv : Code := (ncr (ncr (nco (ncb (ncr (ncl (ncb (ncl (ncr (nco (ncb (ncr (ncl (ncr (ncr (ncr (ncr (ncr (ncr (ncr (ncr (ncr (ncr (ncr (ncr (ncr (ncr (ncr (ncx Tryd.f8.body)))))))))))))))))))))))))))))
noncomputable def owHx : Code := (ncl (ncb (ncl (ncr (nco (ncb (ncr (ncl (ncr (ncr (ncr (ncr (ncr (ncr (ncr (ncr (ncr (ncr (ncr (ncr (ncr (ncr (ncr (ncx Tryd.f8.body))))))))))))))))))))))))
noncomputable def owHy : Code := (ncr (ncb (ncl (ncr (nco (ncb (ncr (ncl (ncr (ncr (ncr (ncr (ncr (ncr (ncr (ncr (ncr (ncr (ncr (ncr (ncr (ncr (ncr (ncx Tryd.f8.body))))))))))))))))))))))))
noncomputable def owIx : Code := (ncl (ncb (ncl (ncr (nco (ncb (ncr (ncl (ncr (ncr (ncr (ncr (ncr (ncr (ncr (ncr (ncr (ncr (ncr (ncr (ncr (ncr (ncr (ncr (ncx Tryd.f8.body)))))))))))))))))))))))))
noncomputable def owIy : Code := (ncr (ncb (ncl (ncr (nco (ncb (ncr (ncl (ncr (ncr (ncr (ncr (ncr (ncr (ncr (ncr (ncr (ncr (ncr (ncr (ncr (ncr (ncr (ncr (ncx Tryd.f8.body)))))))))))))))))))))))))

set_option maxRecDepth 20000 in
theorem ow_act (a : Act) (hs : a.tmps.size = 307) (hd : a.defers = []) : ∃ v : Nat → Value, (∀ (i : Nat) (x : Value), a.tmps[i]? = some x → v i = x) ∧ a = ⟨#[v 0, v 1, v 2, v 3, v 4, v 5, v 6, v 7, v 8, v 9, v 10, v 11, v 12, v 13, v 14, v 15, v 16, v 17, v 18, v 19, v 20, v 21, v 22, v 23, v 24, v 25, v 26, v 27, v 28, v 29, v 30, v 31, v 32, v 33, v 34, v 35, v 36, v 37, v 38, v 39, v 40, v 41, v 42, v 43, v 44, v 45, v 46, v 47, v 48, v 49, v 50, v 51, v 52, v 53, v 54, v 55, v 56, v 57, v 58, v 59, v 60, v 61, v 62, v 63, v 64, v 65, v 66, v 67, v 68, v 69, v 70, v 71, v 72, v 73, v 74, v 75, v 76, v 77, v 78, v 79, v 80, v 81, v 82, v 83, v 84, v 85, v 86, v 87, v 88, v 89, v 90, v 91, v 92, v 93, v 94, v 95, v 96, v 97, v 98, v 99, v 100, v 101, v 102, v 103, v 104, v 105, v 106, v 107, v 108, v 109, v 110, v 111, v 112, v 113, v 114, v 115, v 116, v 117, v 118, v 119, v 120, v 121, v 122, v 123, v 124, v 125, v 126, v 127, v 128, v 129, v 130, v 131, v 132, v 133, v 134, v 135, v 136, v 137, v 138, v 139, v 140, v 141, v 142, v 143, v 144, v 145, v 146, v 147, v 148, v 149, v 150, v 151, v 152, v 153, v 154, v 155, v 156, v 157, v 158, v 159, v 160, v 161, v 162, v 163, v 164, v 165, v 166, v 167, v 168, v 169, v 170, v 171, v 172, v 173, v 174, v 175, v 176, v 177, v 178, v 179, v 180, v 181, v 182, v 183, v 184, v 185, v 186, v 187, v 188, v 189, v 190, v 191, v 192, v 193, v 194, v 195, v 196, v 197, v 198, v 199, v 200, v 201, v 202, v 203, v 204, v 205, v 206, v 207, v 208, v 209, v 210, v 211, v 212, v 213, v 214, v 215, v 216, v 217, v 218, v 219, v 220, v 221, v 222, v 223, v 224, v 225, v 226, v 227, v 228, v 229, v 230, v 231, v 232, v 233, v 234, v 235, v 236, v 237, v 238, v 239, v 240, v 241, v 242, v 243, v 244, v 245, v 246, v 247, v 248, v 249, v 250, v 251, v 252, v 253, v 254, v 255, v 256, v 257, v 258, v 259, v 260, v 261, v 262, v 263, v 264, v 265, v 266, v 267, v 268, v 269, v 270, v 271, v 272, v 273, v 274, v 275, v 276, v 277, v 278, v 279, v 280, v 281, v 282, v 283, v 284, v 285, v 286, v 287, v 288, v 289, v 290, v 291, v 292, v 293, v 294, v 295, v 296, v 297, v 298, v 299, v 300, v 301, v 302, v 303, v 304, v 305, v 306], []⟩ := by
  obtain ⟨t, d⟩ := a
  obtain ⟨l⟩ := t
  obtain rfl : d = [] := hd
  have hl : l.length = 307 := hs
  refine ⟨fun i => l.getD i undef, fun i x hx => ?_, ?_⟩
  · have hx' : l[i]? = some x := by simpa using hx
    simp [List.getD, hx']
  · have e : l = (List.range 307).map (fun i => l.getD i undef) := by
      apply List.ext_getElem
      · simp [hl]
      · intro i h1 h2
        simp [List.getD, h1]
    generalize (fun i => l.getD i undef) = v at e ⊢
    subst e
    rfl

structure OwA (a : Act) (p : OP) (va : Value) (vo : Value) (i : Int) : Prop where
  size : a.tmps.size = 307
  dfr : a.defers = []
  s1 : a.tmps[1]? = some (p.mv)
  s5 : a.tmps[5]? = some (.pointer (some ⟨p.lb, 0, none⟩))
  s6 : a.tmps[6]? = some (.pointer (some ⟨p.cb, 0, none⟩))
  s7 : a.tmps[7]? = some (.string p.t)
  s8 : a.tmps[8]? = some (va)
  s9 : a.tmps[9]? = some (vo)
  s10 : a.tmps[10]? = some (.int .i64 i)

set_option maxRecDepth 20000 in
theorem OwA.shape {a : Act} {p : OP} {va : Value} {vo : Value} {i : Int} (h : OwA a p va vo i) : ∃ v : Nat → Value, a = ⟨#[v 0, p.mv, v 2, v 3, v 4, .pointer (some ⟨p.lb, 0, none⟩), .pointer (some ⟨p.cb, 0, none⟩), .string p.t, va, vo, .int .i64 i, v 11, v 12, v 13, v 14, v 15, v 16, v 17, v 18, v 19, v 20, v 21, v 22, v 23, v 24, v 25, v 26, v 27, v 28, v 29, v 30, v 31, v 32, v 33, v 34, v 35, v 36, v 37, v 38, v 39, v 40, v 41, v 42, v 43, v 44, v 45, v 46, v 47, v 48, v 49, v 50, v 51, v 52, v 53, v 54, v 55, v 56, v 57, v 58, v 59, v 60, v 61, v 62, v 63, v 64, v 65, v 66, v 67, v 68, v 69, v 70, v 71, v 72, v 73, v 74, v 75, v 76, v 77, v 78, v 79, v 80, v 81, v 82, v 83, v 84, v 85, v 86, v 87, v 88, v 89, v 90, v 91, v 92, v 93, v 94, v 95, v 96, v 97, v 98, v 99, v 100, v 101, v 102, v 103, v 104, v 105, v 106, v 107, v 108, v 109, v 110, v 111, v 112, v 113, v 114, v 115, v 116, v 117, v 118, v 119, v 120, v 121, v 122, v 123, v 124, v 125, v 126, v 127, v 128, v 129, v 130, v 131, v 132, v 133, v 134, v 135, v 136, v 137, v 138, v 139, v 140, v 141, v 142, v 143, v 144, v 145, v 146, v 147, v 148, v 149, v 150, v 151, v 152, v 153, v 154, v 155, v 156, v 157, v 158, v 159, v 160, v 161, v 162, v 163, v 164, v 165, v 166, v 167, v 168, v 169, v 170, v 171, v 172, v 173, v 174, v 175, v 176, v 177, v 178, v 179, v 180, v 181, v 182, v 183, v 184, v 185, v 186, v 187, v 188, v 189, v 190, v 191, v 192, v 193, v 194, v 195, v 196, v 197, v 198, v 199, v 200, v 201, v 202, v 203, v 204, v 205, v 206, v 207, v 208, v 209, v 210, v 211, v 212, v 213, v 214, v 215, v 216, v 217, v 218, v 219, v 220, v 221, v 222, v 223, v 224, v 225, v 226, v 227, v 228, v 229, v 230, v 231, v 232, v 233, v 234, v 235, v 236, v 237, v 238, v 239, v 240, v 241, v 242, v 243, v 244, v 245, v 246, v 247, v 248, v 249, v 250, v 251, v 252, v 253, v 254, v 255, v 256, v 257, v 258, v 259, v 260, v 261, v 262, v 263, v 264, v 265, v 266, v 267, v 268, v 269, v 270, v 271, v 272, v 273, v 274, v 275, v 276, v 277, v 278, v 279, v 280, v 281, v 282, v 283, v 284, v 285, v 286, v 287, v 288, v 289, v 290, v 291, v 292, v 293, v 294, v 295, v 296, v 297, v 298, v 299, v 300, v 301, v 302, v 303, v 304, v 305, v 306], []⟩ := by
  obtain ⟨v, hv, hd⟩ := ow_act a h.size h.dfr
  have e1 := hv 1 _ h.s1
  have e5 := hv 5 _ h.s5
  have e6 := hv 6 _ h.s6
  have e7 := hv 7 _ h.s7
  have e8 := hv 8 _ h.s8
  have e9 := hv 9 _ h.s9
  have e10 := hv 10 _ h.s10
  refine ⟨v, ?_⟩
  rw [hd]
  simp only [e1, e5, e6, e7, e8, e9, e10]

structure OwB (a : Act) (p : OP) (va : Value) (vo : Value) (i : Int) (xb : Nat) : Prop where
  size : a.tmps.size = 307
  dfr : a.defers = []
  s1 : a.tmps[1]? = some (p.mv)
  s5 : a.tmps[5]? = some (.pointer (some ⟨p.lb, 0, none⟩))
  s6 : a.tmps[6]? = some (.pointer (some ⟨p.cb, 0, none⟩))
  s7 : a.tmps[7]? = some (.string p.t)
  s8 : a.tmps[8]? = some (va)
  s9 : a.tmps[9]? = some (vo)
  s10 : a.tmps[10]? = some (.int .i64 i)
  s11 : a.tmps[11]? = some (.pointer (some ⟨xb, 0, none⟩))

set_option maxRecDepth 20000 in
theorem OwB.shape {a : Act} {p : OP} {va : Value} {vo : Value} {i : Int} {xb : Nat} (h : OwB a p va vo i xb) : ∃ v : Nat → Value, a = ⟨#[v 0, p.mv, v 2, v 3, v 4, .pointer (some ⟨p.lb, 0, none⟩), .pointer (some ⟨p.cb, 0, none⟩), .string p.t, va, vo, .int .i64 i, .pointer (some ⟨xb, 0, none⟩), v 12, v 13, v 14, v 15, v 16, v 17, v 18, v 19, v 20, v 21, v 22, v 23, v 24, v 25, v 26, v 27, v 28, v 29, v 30, v 31, v 32, v 33, v 34, v 35, v 36, v 37, v 38, v 39, v 40, v 41, v 42, v 43, v 44, v 45, v 46, v 47, v 48, v 49, v 50, v 51, v 52, v 53, v 54, v 55, v 56, v 57, v 58, v 59, v 60, v 61, v 62, v 63, v 64, v 65, v 66, v 67, v 68, v 69, v 70, v 71, v 72, v 73, v 74, v 75, v 76, v 77, v 78, v 79, v 80, v 81, v 82, v 83, v 84, v 85, v 86, v 87, v 88, v 89, v 90, v 91, v 92, v 93, v 94, v 95, v 96, v 97, v 98, v 99, v 100, v 101, v 102, v 103, v 104, v 105, v 106, v 107, v 108, v 109, v 110, v 111, v 112, v 113, v 114, v 115, v 116, v 117, v 118, v 119, v 120, v 121, v 122, v 123, v 124, v 125, v 126, v 127, v 128, v 129, v 130, v 131, v 132, v 133, v 134, v 135, v 136, v 137, v 138, v 139, v 140, v 141, v 142, v 143, v 144, v 145, v 146, v 147, v 148, v 149, v 150, v 151, v 152, v 153, v 154, v 155, v 156, v 157, v 158, v 159, v 160, v 161, v 162, v 163, v 164, v 165, v 166, v 167, v 168, v 169, v 170, v 171, v 172, v 173, v 174, v 175, v 176, v 177, v 178, v 179, v 180, v 181, v 182, v 183, v 184, v 185, v 186, v 187, v 188, v 189, v 190, v 191, v 192, v 193, v 194, v 195, v 196, v 197, v 198, v 199, v 200, v 201, v 202, v 203, v 204, v 205, v 206, v 207, v 208, v 209, v 210, v 211, v 212, v 213, v 214, v 215, v 216, v 217, v 218, v 219, v 220, v 221, v 222, v 223, v 224, v 225, v 226, v 227, v 228, v 229, v 230, v 231, v 232, v 233, v 234, v 235, v 236, v 237, v 238, v 239, v 240, v 241, v 242, v 243, v 244, v 245, v 246, v 247, v 248, v 249, v 250, v 251, v 252, v 253, v 254, v 255, v 256, v 257, v 258, v 259, v 260, v 261, v 262, v 263, v 264, v 265, v 266, v 267, v 268, v 269, v 270, v 271, v 272, v 273, v 274, v 275, v 276, v 277, v 278, v 279, v 280, v 281, v 282, v 283, v 284, v 285, v 286, v 287, v 288, v 289, v 290, v 291, v 292, v 293, v 294, v 295, v 296, v 297, v 298, v 299, v 300, v 301, v 302, v 303, v 304, v 305, v 306], []⟩ := by
  obtain ⟨v, hv, hd⟩ := ow_act a h.size h.dfr
  have e1 := hv 1 _ h.s1
  have e5 := hv 5 _ h.s5
  have e6 := hv 6 _ h.s6
  have e7 := hv 7 _ h.s7
  have e8 := hv 8 _ h.s8
  have e9 := hv 9 _ h.s9
  have e10 := hv 10 _ h.s10
  have e11 := hv 11 _ h.s11
  refine ⟨v, ?_⟩
  rw [hd]
  simp only [e1, e5, e6, e7, e8, e9, e10, e11]

structure OwC (a : Act) (p : OP) (va : Value) (vo : Value) (i : Int) (xb : Nat) (mv : Value) : Prop where
  size : a.tmps.size = 307
  dfr : a.defers = []
  s1 : a.tmps[1]? = some (p.mv)
  s5 : a.tmps[5]? = some (.pointer (some ⟨p.lb, 0, none⟩))
  s6 : a.tmps[6]? = some (.pointer (some ⟨p.cb, 0, none⟩))
  s7 : a.tmps[7]? = some (.string p.t)
  s8 : a.tmps[8]? = some (va)
  s9 : a.tmps[9]? = some (vo)
  s10 : a.tmps[10]? = some (.int .i64 i)
  s11 : a.tmps[11]? = some (.pointer (some ⟨xb, 0, none⟩))
  s12 : a.tmps[12]? = some (mv)

set_option maxRecDepth 20000 in
theorem OwC.shape {a : Act} {p : OP} {va : Value} {vo : Value} {i : Int} {xb : Nat} {mv : Value} (h : OwC a p va vo i xb mv) : ∃ v : Nat → Value, a = ⟨#[v 0, p.mv, v 2, v 3, v 4, .pointer (some ⟨p.lb, 0, none⟩), .pointer (some ⟨p.cb, 0, none⟩), .string p.t, va, vo, .int .i64 i, .pointer (some ⟨xb, 0, none⟩), mv, v 13, v 14, v 15, v 16, v 17, v 18, v 19, v 20, v 21, v 22, v 23, v 24, v 25, v 26, v 27, v 28, v 29, v 30, v 31, v 32, v 33, v 34, v 35, v 36, v 37, v 38, v 39, v 40, v 41, v 42, v 43, v 44, v 45, v 46, v 47, v 48, v 49, v 50, v 51, v 52, v 53, v 54, v 55, v 56, v 57, v 58, v 59, v 60, v 61, v 62, v 63, v 64, v 65, v 66, v 67, v 68, v 69, v 70, v 71, v 72, v 73, v 74, v 75, v 76, v 77, v 78, v 79, v 80, v 81, v 82, v 83, v 84, v 85, v 86, v 87, v 88, v 89, v 90, v 91, v 92, v 93, v 94, v 95, v 96, v 97, v 98, v 99, v 100, v 101, v 102, v 103, v 104, v 105, v 106, v 107, v 108, v 109, v 110, v 111, v 112, v 113, v 114, v 115, v 116, v 117, v 118, v 119, v 120, v 121, v 122, v 123, v 124, v 125, v 126, v 127, v 128, v 129, v 130, v 131, v 132, v 133, v 134, v 135, v 136, v 137, v 138, v 139, v 140, v 141, v 142, v 143, v 144, v 145, v 146, v 147, v 148, v 149, v 150, v 151, v 152, v 153, v 154, v 155, v 156, v 157, v 158, v 159, v 160, v 161, v 162, v 163, v 164, v 165, v 166, v 167, v 168, v 169, v 170, v 171, v 172, v 173, v 174, v 175, v 176, v 177, v 178, v 179, v 180, v 181, v 182, v 183, v 184, v 185, v 186, v 187, v 188, v 189, v 190, v 191, v 192, v 193, v 194, v 195, v 196, v 197, v 198, v 199, v 200, v 201, v 202, v 203, v 204, v 205, v 206, v 207, v 208, v 209, v 210, v 211, v 212, v 213, v 214, v 215, v 216, v 217, v 218, v 219, v 220, v 221, v 222, v 223, v 224, v 225, v 226, v 227, v 228, v 229, v 230, v 231, v 232, v 233, v 234, v 235, v 236, v 237, v 238, v 239, v 240, v 241, v 242, v 243, v 244, v 245, v 246, v 247, v 248, v 249, v 250, v 251, v 252, v 253, v 254, v 255, v 256, v 257, v 258, v 259, v 260, v 261, v 262, v 263, v 264, v 265, v 266, v 267, v 268, v 269, v 270, v 271, v 272, v 273, v 274, v 275, v 276, v 277, v 278, v 279, v 280, v 281, v 282, v 283, v 284, v 285, v 286, v 287, v 288, v 289, v 290, v 291, v 292, v 293, v 294, v 295, v 296, v 297, v 298, v 299, v 300, v 301, v 302, v 303, v 304, v 305, v 306], []⟩ := by
  obtain ⟨v, hv, hd⟩ := ow_act a h.size h.dfr
  have e1 := hv 1 _ h.s1
  have e5 := hv 5 _ h.s5
  have e6 := hv 6 _ h.s6
  have e7 := hv 7 _ h.s7
  have e8 := hv 8 _ h.s8
  have e9 := hv 9 _ h.s9
  have e10 := hv 10 _ h.s10
  have e11 := hv 11 _ h.s11
  have e12 := hv 12 _ h.s12
  refine ⟨v, ?_⟩
  rw [hd]
  simp only [e1, e5, e6, e7, e8, e9, e10, e11, e12]

structure OwS (a : Act) (p : OP) (q : OQ) : Prop where
  size : a.tmps.size = 307
  dfr : a.defers = []
  s1 : a.tmps[1]? = some (p.mv)
  s5 : a.tmps[5]? = some (.pointer (some ⟨p.lb, 0, none⟩))
  s6 : a.tmps[6]? = some (.pointer (some ⟨p.cb, 0, none⟩))
  s7 : a.tmps[7]? = some (.string p.t)
  s8 : a.tmps[8]? = some (.slice (some ⟨q.ga, 0, none⟩) q.na q.ca)
  s9 : a.tmps[9]? = some (.slice (some ⟨q.go, 0, none⟩) q.no q.co)

set_option maxRecDepth 20000 in
theorem OwS.shape {a : Act} {p : OP} {q : OQ} (h : OwS a p q) : ∃ v : Nat → Value, a = ⟨#[v 0, p.mv, v 2, v 3, v 4, .pointer (some ⟨p.lb, 0, none⟩), .pointer (some ⟨p.cb, 0, none⟩), .string p.t, .slice (some ⟨q.ga, 0, none⟩) q.na q.ca, .slice (some ⟨q.go, 0, none⟩) q.no q.co, v 10, v 11, v 12, v 13, v 14, v 15, v 16, v 17, v 18, v 19, v 20, v 21, v 22, v 23, v 24, v 25, v 26, v 27, v 28, v 29, v 30, v 31, v 32, v 33, v 34, v 35, v 36, v 37, v 38, v 39, v 40, v 41, v 42, v 43, v 44, v 45, v 46, v 47, v 48, v 49, v 50, v 51, v 52, v 53, v 54, v 55, v 56, v 57, v 58, v 59, v 60, v 61, v 62, v 63, v 64, v 65, v 66, v 67, v 68, v 69, v 70, v 71, v 72, v 73, v 74, v 75, v 76, v 77, v 78, v 79, v 80, v 81, v 82, v 83, v 84, v 85, v 86, v 87, v 88, v 89, v 90, v 91, v 92, v 93, v 94, v 95, v 96, v 97, v 98, v 99, v 100, v 101, v 102, v 103, v 104, v 105, v 106, v 107, v 108, v 109, v 110, v 111, v 112, v 113, v 114, v 115, v 116, v 117, v 118, v 119, v 120, v 121, v 122, v 123, v 124, v 125, v 126, v 127, v 128, v 129, v 130, v 131, v 132, v 133, v 134, v 135, v 136, v 137, v 138, v 139, v 140, v 141, v 142, v 143, v 144, v 145, v 146, v 147, v 148, v 149, v 150, v 151, v 152, v 153, v 154, v 155, v 156, v 157, v 158, v 159, v 160, v 161, v 162, v 163, v 164, v 165, v 166, v 167, v 168, v 169, v 170, v 171, v 172, v 173, v 174, v 175, v 176, v 177, v 178, v 179, v 180, v 181, v 182, v 183, v 184, v 185, v 186, v 187, v 188, v 189, v 190, v 191, v 192, v 193, v 194, v 195, v 196, v 197, v 198, v 199, v 200, v 201, v 202, v 203, v 204, v 205, v 206, v 207, v 208, v 209, v 210, v 211, v 212, v 213, v 214, v 215, v 216, v 217, v 218, v 219, v 220, v 221, v 222, v 223, v 224, v 225, v 226, v 227, v 228, v 229, v 230, v 231, v 232, v 233, v 234, v 235, v 236, v 237, v 238, v 239, v 240, v 241, v 242, v 243, v 244, v 245, v 246, v 247, v 248, v 249, v 250, v 251, v 252, v 253, v 254, v 255, v 256, v 257, v 258, v 259, v 260, v 261, v 262, v 263, v 264, v 265, v 266, v 267, v 268, v 269, v 270, v 271, v 272, v 273, v 274, v 275, v 276, v 277, v 278, v 279, v 280, v 281, v 282, v 283, v 284, v 285, v 286, v 287, v 288, v 289, v 290, v 291, v 292, v 293, v 294, v 295, v 296, v 297, v 298, v 299, v 300, v 301, v 302, v 303, v 304, v 305, v 306], []⟩ := by
  obtain ⟨v, hv, hd⟩ := ow_act a h.size h.dfr
  have e1 := hv 1 _ h.s1
  have e5 := hv 5 _ h.s5
  have e6 := hv 6 _ h.s6
  have e7 := hv 7 _ h.s7
  have e8 := hv 8 _ h.s8
  have e9 := hv 9 _ h.s9
  refine ⟨v, ?_⟩
  rw [hd]
  simp only [e1, e5, e6, e7, e8, e9]

structure OwM1 (a : Act) (p : OP) (q : OQ) (i : Int) : Prop where
  size : a.tmps.size = 307
  dfr : a.defers = []
  s1 : a.tmps[1]? = some (p.mv)
  s5 : a.tmps[5]? = some (.pointer (some ⟨p.lb, 0, none⟩))
  s6 : a.tmps[6]? = some (.pointer (some ⟨p.cb, 0, none⟩))
  s7 : a.tmps[7]? = some (.string p.t)
  s8 : a.tmps[8]? = some (.slice (some ⟨q.ga, 0, none⟩) q.na q.ca)
  s9 : a.tmps[9]? = some (.slice (some ⟨q.go, 0, none⟩) q.no q.co)
  s15 : a.tmps[15]? = some (.int .i64 i)

set_option maxRecDepth 20000 in
theorem OwM1.shape {a : Act} {p : OP} {q : OQ} {i : Int} (h : OwM1 a p q i) : ∃ v : Nat → Value, a = ⟨#[v 0, p.mv, v 2, v 3, v 4, .pointer (some ⟨p.lb, 0, none⟩), .pointer (some ⟨p.cb, 0, none⟩), .string p.t, .slice (some ⟨q.ga, 0, none⟩) q.na q.ca, .slice (some ⟨q.go, 0, none⟩) q.no q.co, v 10, v 11, v 12, v 13, v 14, .int .i64 i, v 16, v 17, v 18, v 19, v 20, v 21, v 22, v 23, v 24, v 25, v 26, v 27, v 28, v 29, v 30, v 31, v 32, v 33, v 34, v 35, v 36, v 37, v 38, v 39, v 40, v 41, v 42, v 43, v 44, v 45, v 46, v 47, v 48, v 49, v 50, v 51, v 52, v 53, v 54, v 55, v 56, v 57, v 58, v 59, v 60, v 61, v 62, v 63, v 64, v 65, v 66, v 67, v 68, v 69, v 70, v 71, v 72, v 73, v 74, v 75, v 76, v 77, v 78, v 79, v 80, v 81, v 82, v 83, v 84, v 85, v 86, v 87, v 88, v 89, v 90, v 91, v 92, v 93, v 94, v 95, v 96, v 97, v 98, v 99, v 100, v 101, v 102, v 103, v 104, v 105, v 106, v 107, v 108, v 109, v 110, v 111, v 112, v 113, v 114, v 115, v 116, v 117, v 118, v 119, v 120, v 121, v 122, v 123, v 124, v 125, v 126, v 127, v 128, v 129, v 130, v 131, v 132, v 133, v 134, v 135, v 136, v 137, v 138, v 139, v 140, v 141, v 142, v 143, v 144, v 145, v 146, v 147, v 148, v 149, v 150, v 151, v 152, v 153, v 154, v 155, v 156, v 157, v 158, v 159, v 160, v 161, v 162, v 163, v 164, v 165, v 166, v 167, v 168, v 169, v 170, v 171, v 172, v 173, v 174, v 175, v 176, v 177, v 178, v 179, v 180, v 181, v 182, v 183, v 184, v 185, v 186, v 187, v 188, v 189, v 190, v 191, v 192, v 193, v 194, v 195, v 196, v 197, v 198, v 199, v 200, v 201, v 202, v 203, v 204, v 205, v 206, v 207, v 208, v 209, v 210, v 211, v 212, v 213, v 214, v 215, v 216, v 217, v 218, v 219, v 220, v 221, v 222, v 223, v 224, v 225, v 226, v 227, v 228, v 229, v 230, v 231, v 232, v 233, v 234, v 235, v 236, v 237, v 238, v 239, v 240, v 241, v 242, v 243, v 244, v 245, v 246, v 247, v 248, v 249, v 250, v 251, v 252, v 253, v 254, v 255, v 256, v 257, v 258, v 259, v 260, v 261, v 262, v 263, v 264, v 265, v 266, v 267, v 268, v 269, v 270, v 271, v 272, v 273, v 274, v 275, v 276, v 277, v 278, v 279, v 280, v 281, v 282, v 283, v 284, v 285, v 286, v 287, v 288, v 289, v 290, v 291, v 292, v 293, v 294, v 295, v 296, v 297, v 298, v 299, v 300, v 301, v 302, v 303, v 304, v 305, v 306], []⟩ := by
  obtain ⟨v, hv, hd⟩ := ow_act a h.size h.dfr
  have e1 := hv 1 _ h.s1
  have e5 := hv 5 _ h.s5
  have e6 := hv 6 _ h.s6
  have e7 := hv 7 _ h.s7
  have e8 := hv 8 _ h.s8
  have e9 := hv 9 _ h.s9
  have e15 := hv 15 _ h.s15
  refine ⟨v, ?_⟩
  rw [hd]
  simp only [e1, e5, e6, e7, e8, e9, e15]

structure OwM3 (a : Act) (p : OP) (q : OQ) (i : Int) : Prop where
  size : a.tmps.size = 307
  dfr : a.defers = []
  s1 : a.tmps[1]? = some (p.mv)
  s5 : a.tmps[5]? = some (.pointer (some ⟨p.lb, 0, none⟩))
  s6 : a.tmps[6]? = some (.pointer (some ⟨p.cb, 0, none⟩))
  s7 : a.tmps[7]? = some (.string p.t)
  s8 : a.tmps[8]? = some (.slice (some ⟨q.ga, 0, none⟩) q.na q.ca)
  s9 : a.tmps[9]? = some (.slice (some ⟨q.go, 0, none⟩) q.no q.co)
  s17 : a.tmps[17]? = some (.int .i64 i)

set_option maxRecDepth 20000 in
theorem OwM3.shape {a : Act} {p : OP} {q : OQ} {i : Int} (h : OwM3 a p q i) : ∃ v : Nat → Value, a = ⟨#[v 0, p.mv, v 2, v 3, v 4, .pointer (some ⟨p.lb, 0, none⟩), .pointer (some ⟨p.cb, 0, none⟩), .string p.t, .slice (some ⟨q.ga, 0, none⟩) q.na q.ca, .slice (some ⟨q.go, 0, none⟩) q.no q.co, v 10, v 11, v 12, v 13, v 14, v 15, v 16, .int .i64 i, v 18, v 19, v 20, v 21, v 22, v 23, v 24, v 25, v 26, v 27, v 28, v 29, v 30, v 31, v 32, v 33, v 34, v 35, v 36, v 37, v 38, v 39, v 40, v 41, v 42, v 43, v 44, v 45, v 46, v 47, v 48, v 49, v 50, v 51, v 52, v 53, v 54, v 55, v 56, v 57, v 58, v 59, v 60, v 61, v 62, v 63, v 64, v 65, v 66, v 67, v 68, v 69, v 70, v 71, v 72, v 73, v 74, v 75, v 76, v 77, v 78, v 79, v 80, v 81, v 82, v 83, v 84, v 85, v 86, v 87, v 88, v 89, v 90, v 91, v 92, v 93, v 94, v 95, v 96, v 97, v 98, v 99, v 100, v 101, v 102, v 103, v 104, v 105, v 106, v 107, v 108, v 109, v 110, v 111, v 112, v 113, v 114, v 115, v 116, v 117, v 118, v 119, v 120, v 121, v 122, v 123, v 124, v 125, v 126, v 127, v 128, v 129, v 130, v 131, v 132, v 133, v 134, v 135, v 136, v 137, v 138, v 139, v 140, v 141, v 142, v 143, v 144, v 145, v 146, v 147, v 148, v 149, v 150, v 151, v 152, v 153, v 154, v 155, v 156, v 157, v 158, v 159, v 160, v 161, v 162, v 163, v 164, v 165, v 166, v 167, v 168, v 169, v 170, v 171, v 172, v 173, v 174, v 175, v 176, v 177, v 178, v 179, v 180, v 181, v 182, v 183, v 184, v 185, v 186, v 187, v 188, v 189, v 190, v 191, v 192, v 193, v 194, v 195, v 196, v 197, v 198, v 199, v 200, v 201, v 202, v 203, v 204, v 205, v 206, v 207, v 208, v 209, v 210, v 211, v 212, v 213, v 214, v 215, v 216, v 217, v 218, v 219, v 220, v 221, v 222, v 223, v 224, v 225, v 226, v 227, v 228, v 229, v 230, v 231, v 232, v 233, v 234, v 235, v 236, v 237, v 238, v 239, v 240, v 241, v 242, v 243, v 244, v 245, v 246, v 247, v 248, v 249, v 250, v 251, v 252, v 253, v 254, v 255, v 256, v 257, v 258, v 259, v 260, v 261, v 262, v 263, v 264, v 265, v 266, v 267, v 268, v 269, v 270, v 271, v 272, v 273, v 274, v 275, v 276, v 277, v 278, v 279, v 280, v 281, v 282, v 283, v 284, v 285, v 286, v 287, v 288, v 289, v 290, v 291, v 292, v 293, v 294, v 295, v 296, v 297, v 298, v 299, v 300, v 301, v 302, v 303, v 304, v 305, v 306], []⟩ := by
  obtain ⟨v, hv, hd⟩ := ow_act a h.size h.dfr
  have e1 := hv 1 _ h.s1
  have e5 := hv 5 _ h.s5
  have e6 := hv 6 _ h.s6
  have e7 := hv 7 _ h.s7
  have e8 := hv 8 _ h.s8
  have e9 := hv 9 _ h.s9
  have e17 := hv 17 _ h.s17
  refine ⟨v, ?_⟩
  rw [hd]
  simp only [e1, e5, e6, e7, e8, e9, e17]

structure OwM2 (a : Act) (p : OP) (q : OQ) (i : Int) (k : Int) : Prop where
  size : a.tmps.size = 307
  dfr : a.defers = []
  s1 : a.tmps[1]? = some (p.mv)
  s5 : a.tmps[5]? = some (.pointer (some ⟨p.lb, 0, none⟩))
  s6 : a.tmps[6]? = some (.pointer (some ⟨p.cb, 0, none⟩))
  s7 : a.tmps[7]? = some (.string p.t)
  s8 : a.tmps[8]? = some (.slice (some ⟨q.ga, 0, none⟩) q.na q.ca)
  s9 : a.tmps[9]? = some (.slice (some ⟨q.go, 0, none⟩) q.no q.co)
  s15 : a.tmps[15]? = some (.int .i64 i)
  s16 : a.tmps[16]? = some (.int .i64 k)

set_option maxRecDepth 20000 in
theorem OwM2.shape {a : Act} {p : OP} {q : OQ} {i : Int} {k : Int} (h : OwM2 a p q i k) : ∃ v : Nat → Value, a = ⟨#[v 0, p.mv, v 2, v 3, v 4, .pointer (some ⟨p.lb, 0, none⟩), .pointer (some ⟨p.cb, 0, none⟩), .string p.t, .slice (some ⟨q.ga, 0, none⟩) q.na q.ca, .slice (some ⟨q.go, 0, none⟩) q.no q.co, v 10, v 11, v 12, v 13, v 14, .int .i64 i, .int .i64 k, v 17, v 18, v 19, v 20, v 21, v 22, v 23, v 24, v 25, v 26, v 27, v 28, v 29, v 30, v 31, v 32, v 33, v 34, v 35, v 36, v 37, v 38, v 39, v 40, v 41, v 42, v 43, v 44, v 45, v 46, v 47, v 48, v 49, v 50, v 51, v 52, v 53, v 54, v 55, v 56, v 57, v 58, v 59, v 60, v 61, v 62, v 63, v 64, v 65, v 66, v 67, v 68, v 69, v 70, v 71, v 72, v 73, v 74, v 75, v 76, v 77, v 78, v 79, v 80, v 81, v 82, v 83, v 84, v 85, v 86, v 87, v 88, v 89, v 90, v 91, v 92, v 93, v 94, v 95, v 96, v 97, v 98, v 99, v 100, v 101, v 102, v 103, v 104, v 105, v 106, v 107, v 108, v 109, v 110, v 111, v 112, v 113, v 114, v 115, v 116, v 117, v 118, v 119, v 120, v 121, v 122, v 123, v 124, v 125, v 126, v 127, v 128, v 129, v 130, v 131, v 132, v 133, v 134, v 135, v 136, v 137, v 138, v 139, v 140, v 141, v 142, v 143, v 144, v 145, v 146, v 147, v 148, v 149, v 150, v 151, v 152, v 153, v 154, v 155, v 156, v 157, v 158, v 159, v 160, v 161, v 162, v 163, v 164, v 165, v 166, v 167, v 168, v 169, v 170, v 171, v 172, v 173, v 174, v 175, v 176, v 177, v 178, v 179, v 180, v 181, v 182, v 183, v 184, v 185, v 186, v 187, v 188, v 189, v 190, v 191, v 192, v 193, v 194, v 195, v 196, v 197, v 198, v 199, v 200, v 201, v 202, v 203, v 204, v 205, v 206, v 207, v 208, v 209, v 210, v 211, v 212, v 213, v 214, v 215, v 216, v 217, v 218, v 219, v 220, v 221, v 222, v 223, v 224, v 225, v 226, v 227, v 228, v 229, v 230, v 231, v 232, v 233, v 234, v 235, v 236, v 237, v 238, v 239, v 240, v 241, v 242, v 243, v 244, v 245, v 246, v 247, v 248, v 249, v 250, v 251, v 252, v 253, v 254, v 255, v 256, v 257, v 258, v 259, v 260, v 261, v 262, v 263, v 264, v 265, v 266, v 267, v 268, v 269, v 270, v 271, v 272, v 273, v 274, v 275, v 276, v 277, v 278, v 279, v 280, v 281, v 282, v 283, v 284, v 285, v 286, v 287, v 288, v 289, v 290, v 291, v 292, v 293, v 294, v 295, v 296, v 297, v 298, v 299, v 300, v 301, v 302, v 303, v 304, v 305, v 306], []⟩ := by
  obtain ⟨v, hv, hd⟩ := ow_act a h.size h.dfr
  have e1 := hv 1 _ h.s1
  have e5 := hv 5 _ h.s5
  have e6 := hv 6 _ h.s6
  have e7 := hv 7 _ h.s7
  have e8 := hv 8 _ h.s8
  have e9 := hv 9 _ h.s9
  have e15 := hv 15 _ h.s15
  have e16 := hv 16 _ h.s16
  refine ⟨v, ?_⟩
  rw [hd]
  simp only [e1, e5, e6, e7, e8, e9, e15, e16]

structure OwM4 (a : Act) (p : OP) (q : OQ) (i : Int) (k : Int) : Prop where
  size : a.tmps.size = 307
  dfr : a.defers = []
  s1 : a.tmps[1]? = some (p.mv)
  s5 : a.tmps[5]? = some (.pointer (some ⟨p.lb, 0, none⟩))
  s6 : a.tmps[6]? = some (.pointer (some ⟨p.cb, 0, none⟩))
  s7 : a.tmps[7]? = some (.string p.t)
  s8 : a.tmps[8]? = some (.slice (some ⟨q.ga, 0, none⟩) q.na q.ca)
  s9 : a.tmps[9]? = some (.slice (some ⟨q.go, 0, none⟩) q.no q.co)
  s17 : a.tmps[17]? = some (.int .i64 i)
  s18 : a.tmps[18]? = some (.int .i64 k)

set_option maxRecDepth 20000 in
theorem OwM4.shape {a : Act} {p : OP} {q : OQ} {i : Int} {k : Int} (h : OwM4 a p q i k) : ∃ v : Nat → Value, a = ⟨#[v 0, p.mv, v 2, v 3, v 4, .pointer (some ⟨p.lb, 0, none⟩), .pointer (some ⟨p.cb, 0, none⟩), .string p.t, .slice (some ⟨q.ga, 0, none⟩) q.na q.ca, .slice (some ⟨q.go, 0, none⟩) q.no q.co, v 10, v 11, v 12, v 13, v 14, v 15, v 16, .int .i64 i, .int .i64 k, v 19, v 20, v 21, v 22, v 23, v 24, v 25, v 26, v 27, v 28, v 29, v 30, v 31, v 32, v 33, v 34, v 35, v 36, v 37, v 38, v 39, v 40, v 41, v 42, v 43, v 44, v 45, v 46, v 47, v 48, v 49, v 50, v 51, v 52, v 53, v 54, v 55, v 56, v 57, v 58, v 59, v 60, v 61, v 62, v 63, v 64, v 65, v 66, v 67, v 68, v 69, v 70, v 71, v 72, v 73, v 74, v 75, v 76, v 77, v 78, v 79, v 80, v 81, v 82, v 83, v 84, v 85, v 86, v 87, v 88, v 89, v 90, v 91, v 92, v 93, v 94, v 95, v 96, v 97, v 98, v 99, v 100, v 101, v 102, v 103, v 104, v 105, v 106, v 107, v 108, v 109, v 110, v 111, v 112, v 113, v 114, v 115, v 116, v 117, v 118, v 119, v 120, v 121, v 122, v 123, v 124, v 125, v 126, v 127, v 128, v 129, v 130, v 131, v 132, v 133, v 134, v 135, v 136, v 137, v 138, v 139, v 140, v 141, v 142, v 143, v 144, v 145, v 146, v 147, v 148, v 149, v 150, v 151, v 152, v 153, v 154, v 155, v 156, v 157, v 158, v 159, v 160, v 161, v 162, v 163, v 164, v 165, v 166, v 167, v 168, v 169, v 170, v 171, v 172, v 173, v 174, v 175, v 176, v 177, v 178, v 179, v 180, v 181, v 182, v 183, v 184, v 185, v 186, v 187, v 188, v 189, v 190, v 191, v 192, v 193, v 194, v 195, v 196, v 197, v 198, v 199, v 200, v 201, v 202, v 203, v 204, v 205, v 206, v 207, v 208, v 209, v 210, v 211, v 212, v 213, v 214, v 215, v 216, v 217, v 218, v 219, v 220, v 221, v 222, v 223, v 224, v 225, v 226, v 227, v 228, v 229, v 230, v 231, v 232, v 233, v 234, v 235, v 236, v 237, v 238, v 239, v 240, v 241, v 242, v 243, v 244, v 245, v 246, v 247, v 248, v 249, v 250, v 251, v 252, v 253, v 254, v 255, v 256, v 257, v 258, v 259, v 260, v 261, v 262, v 263, v 264, v 265, v 266, v 267, v 268, v 269, v 270, v 271, v 272, v 273, v 274, v 275, v 276, v 277, v 278, v 279, v 280, v 281, v 282, v 283, v 284, v 285, v 286, v 287, v 288, v 289, v 290, v 291, v 292, v 293, v 294, v 295, v 296, v 297, v 298, v 299, v 300, v 301, v 302, v 303, v 304, v 305, v 306], []⟩ := by
  obtain ⟨v, hv, hd⟩ := ow_act a h.size h.dfr
  have e1 := hv 1 _ h.s1
  have e5 := hv 5 _ h.s5
  have e6 := hv 6 _ h.s6
  have e7 := hv 7 _ h.s7
  have e8 := hv 8 _ h.s8
  have e9 := hv 9 _ h.s9
  have e17 := hv 17 _ h.s17
  have e18 := hv 18 _ h.s18
  refine ⟨v, ?_⟩
  rw [hd]
  simp only [e1, e5, e6, e7, e8, e9, e17, e18]

structure OwT (a : Act) (p : OP) (q : OQ) (vl : Value) (vw : Value) : Prop where
  size : a.tmps.size = 307
  dfr : a.defers = []
  s1 : a.tmps[1]? = some (p.mv)
  s5 : a.tmps[5]? = some (.pointer (some ⟨p.lb, 0, none⟩))
  s6 : a.tmps[6]? = some (.pointer (some ⟨p.cb, 0, none⟩))
  s7 : a.tmps[7]? = some (.string p.t)
  s8 : a.tmps[8]? = some (.slice (some ⟨q.ga, 0, none⟩) q.na q.ca)
  s9 : a.tmps[9]? = some (.slice (some ⟨q.go, 0, none⟩) q.no q.co)
  s19 : a.tmps[19]? = some (vl)
  s20 : a.tmps[20]? = some (vw)

set_option maxRecDepth 20000 in
theorem OwT.shape {a : Act} {p : OP} {q : OQ} {vl : Value} {vw : Value} (h : OwT a p q vl vw) : ∃ v : Nat → Value, a = ⟨#[v 0, p.mv, v 2, v 3, v 4, .pointer (some ⟨p.lb, 0, none⟩), .pointer (some ⟨p.cb, 0, none⟩), .string p.t, .slice (some ⟨q.ga, 0, none⟩) q.na q.ca, .slice (some ⟨q.go, 0, none⟩) q.no q.co, v 10, v 11, v 12, v 13, v 14, v 15, v 16, v 17, v 18, vl, vw, v 21, v 22, v 23, v 24, v 25, v 26, v 27, v 28, v 29, v 30, v 31, v 32, v 33, v 34, v 35, v 36, v 37, v 38, v 39, v 40, v 41, v 42, v 43, v 44, v 45, v 46, v 47, v 48, v 49, v 50, v 51, v 52, v 53, v 54, v 55, v 56, v 57, v 58, v 59, v 60, v 61, v 62, v 63, v 64, v 65, v 66, v 67, v 68, v 69, v 70, v 71, v 72, v 73, v 74, v 75, v 76, v 77, v 78, v 79, v 80, v 81, v 82, v 83, v 84, v 85, v 86, v 87, v 88, v 89, v 90, v 91, v 92, v 93, v 94, v 95, v 96, v 97, v 98, v 99, v 100, v 101, v 102, v 103, v 104, v 105, v 106, v 107, v 108, v 109, v 110, v 111, v 112, v 113, v 114, v 115, v 116, v 117, v 118, v 119, v 120, v 121, v 122, v 123, v 124, v 125, v 126, v 127, v 128, v 129, v 130, v 131, v 132, v 133, v 134, v 135, v 136, v 137, v 138, v 139, v 140, v 141, v 142, v 143, v 144, v 145, v 146, v 147, v 148, v 149, v 150, v 151, v 152, v 153, v 154, v 155, v 156, v 157, v 158, v 159, v 160, v 161, v 162, v 163, v 164, v 165, v 166, v 167, v 168, v 169, v 170, v 171, v 172, v 173, v 174, v 175, v 176, v 177, v 178, v 179, v 180, v 181, v 182, v 183, v 184, v 185, v 186, v 187, v 188, v 189, v 190, v 191, v 192, v 193, v 194, v 195, v 196, v 197, v 198, v 199, v 200, v 201, v 202, v 203, v 204, v 205, v 206, v 207, v 208, v 209, v 210, v 211, v 212, v 213, v 214, v 215, v 216, v 217, v 218, v 219, v 220, v 221, v 222, v 223, v 224, v 225, v 226, v 227, v 228, v 229, v 230, v 231, v 232, v 233, v 234, v 235, v 236, v 237, v 238, v 239, v 240, v 241, v 242, v 243, v 244, v 245, v 246, v 247, v 248, v 249, v 250, v 251, v 252, v 253, v 254, v 255, v 256, v 257, v 258, v 259, v 260, v 261, v 262, v 263, v 264, v 265, v 266, v 267, v 268, v 269, v 270, v 271, v 272, v 273, v 274, v 275, v 276, v 277, v 278, v 279, v 280, v 281, v 282, v 283, v 284, v 285, v 286, v 287, v 288, v 289, v 290, v 291, v 292, v 293, v 294, v 295, v 296, v 297, v 298, v 299, v 300, v 301, v 302, v 303, v 304, v 305, v 306], []⟩ := by
  obtain ⟨v, hv, hd⟩ := ow_act a h.size h.dfr
  have e1 := hv 1 _ h.s1
  have e5 := hv 5 _ h.s5
  have e6 := hv 6 _ h.s6
  have e7 := hv 7 _ h.s7
  have e8 := hv 8 _ h.s8
  have e9 := hv 9 _ h.s9
  have e19 := hv 19 _ h.s19
  have e20 := hv 20 _ h.s20
  refine ⟨v, ?_⟩
  rw [hd]
  simp only [e1, e5, e6, e7, e8, e9, e19, e20]

structure OwL1 (a : Act) (p : OP) (q : OQ) (vl : Value) (vw : Value) (i : Int) : Prop where
  size : a.tmps.size = 307
  dfr : a.defers = []
  s1 : a.tmps[1]? = some (p.mv)
  s5 : a.tmps[5]? = some (.pointer (some ⟨p.lb, 0, none⟩))
  s6 : a.tmps[6]? = some (.pointer (some ⟨p.cb, 0, none⟩))
  s7 : a.tmps[7]? = some (.string p.t)
  s8 : a.tmps[8]? = some (.slice (some ⟨q.ga, 0, none⟩) q.na q.ca)
  s9 : a.tmps[9]? = some (.slice (some ⟨q.go, 0, none⟩) q.no q.co)
  s19 : a.tmps[19]? = some (vl)
  s20 : a.tmps[20]? = some (vw)
  s21 : a.tmps[21]? = some (.int .i64 i)

set_option maxRecDepth 20000 in
theorem OwL1.shape {a : Act} {p : OP} {q : OQ} {vl : Value} {vw : Value} {i : Int} (h : OwL1 a p q vl vw i) : ∃ v : Nat → Value, a = ⟨#[v 0, p.mv, v 2, v 3, v 4, .pointer (some ⟨p.lb, 0, none⟩), .pointer (some ⟨p.cb, 0, none⟩), .string p.t, .slice (some ⟨q.ga, 0, none⟩) q.na q.ca, .slice (some ⟨q.go, 0, none⟩) q.no q.co, v 10, v 11, v 12, v 13, v 14, v 15, v 16, v 17, v 18, vl, vw, .int .i64 i, v 22, v 23, v 24, v 25, v 26, v 27, v 28, v 29, v 30, v 31, v 32, v 33, v 34, v 35, v 36, v 37, v 38, v 39, v 40, v 41, v 42, v 43, v 44, v 45, v 46, v 47, v 48, v 49, v 50, v 51, v 52, v 53, v 54, v 55, v 56, v 57, v 58, v 59, v 60, v 61, v 62, v 63, v 64, v 65, v 66, v 67, v 68, v 69, v 70, v 71, v 72, v 73, v 74, v 75, v 76, v 77, v 78, v 79, v 80, v 81, v 82, v 83, v 84, v 85, v 86, v 87, v 88, v 89, v 90, v 91, v 92, v 93, v 94, v 95, v 96, v 97, v 98, v 99, v 100, v 101, v 102, v 103, v 104, v 105, v 106, v 107, v 108, v 109, v 110, v 111, v 112, v 113, v 114, v 115, v 116, v 117, v 118, v 119, v 120, v 121, v 122, v 123, v 124, v 125, v 126, v 127, v 128, v 129, v 130, v 131, v 132, v 133, v 134, v 135, v 136, v 137, v 138, v 139, v 140, v 141, v 142, v 143, v 144, v 145, v 146, v 147, v 148, v 149, v 150, v 151, v 152, v 153, v 154, v 155, v 156, v 157, v 158, v 159, v 160, v 161, v 162, v 163, v 164, v 165, v 166, v 167, v 168, v 169, v 170, v 171, v 172, v 173, v 174, v 175, v 176, v 177, v 178, v 179, v 180, v 181, v 182, v 183, v 184, v 185, v 186, v 187, v 188, v 189, v 190, v 191, v 192, v 193, v 194, v 195, v 196, v 197, v 198, v 199, v 200, v 201, v 202, v 203, v 204, v 205, v 206, v 207, v 208, v 209, v 210, v 211, v 212, v 213, v 214, v 215, v 216, v 217, v 218, v 219, v 220, v 221, v 222, v 223, v 224, v 225, v 226, v 227, v 228, v 229, v 230, v 231, v 232, v 233, v 234, v 235, v 236, v 237, v 238, v 239, v 240, v 241, v 242, v 243, v 244, v 245, v 246, v 247, v 248, v 249, v 250, v 251, v 252, v 253, v 254, v 255, v 256, v 257, v 258, v 259, v 260, v 261, v 262, v 263, v 264, v 265, v 266, v 267, v 268, v 269, v 270, v 271, v 272, v 273, v 274, v 275, v 276, v 277, v 278, v 279, v 280, v 281, v 282, v 283, v 284, v 285, v 286, v 287, v 288, v 289, v 290, v 291, v 292, v 293, v 294, v 295, v 296, v 297, v 298, v 299, v 300, v 301, v 302, v 303, v 304, v 305, v 306], []⟩ := by
  obtain ⟨v, hv, hd⟩ := ow_act a h.size h.dfr
  have e1 := hv 1 _ h.s1
  have e5 := hv 5 _ h.s5
  have e6 := hv 6 _ h.s6
  have e7 := hv 7 _ h.s7
  have e8 := hv 8 _ h.s8
  have e9 := hv 9 _ h.s9
  have e19 := hv 19 _ h.s19
  have e20 := hv 20 _ h.s20
  have e21 := hv 21 _ h.s21
  refine ⟨v, ?_⟩
  rw [hd]
  simp only [e1, e5, e6, e7, e8, e9, e19, e20, e21]

structure OwL2 (a : Act) (p : OP) (q : OQ) (vl : Value) (vw : Value) (i : Int) : Prop where
  size : a.tmps.size = 307
  dfr : a.defers = []
  s1 : a.tmps[1]? = some (p.mv)
  s5 : a.tmps[5]? = some (.pointer (some ⟨p.lb, 0, none⟩))
  s6 : a.tmps[6]? = some (.pointer (some ⟨p.cb, 0, none⟩))
  s7 : a.tmps[7]? = some (.string p.t)
  s8 : a.tmps[8]? = some (.slice (some ⟨q.ga, 0, none⟩) q.na q.ca)
  s9 : a.tmps[9]? = some (.slice (some ⟨q.go, 0, none⟩) q.no q.co)
  s19 : a.tmps[19]? = some (vl)
  s20 : a.tmps[20]? = some (vw)
  s22 : a.tmps[22]? = some (.int .i64 i)

set_option maxRecDepth 20000 in
theorem OwL2.shape {a : Act} {p : OP} {q : OQ} {vl : Value} {vw : Value} {i : Int} (h : OwL2 a p q vl vw i) : ∃ v : Nat → Value, a = ⟨#[v 0, p.mv, v 2, v 3, v 4, .pointer (some ⟨p.lb, 0, none⟩), .pointer (some ⟨p.cb, 0, none⟩), .string p.t, .slice (some ⟨q.ga, 0, none⟩) q.na q.ca, .slice (some ⟨q.go, 0, none⟩) q.no q.co, v 10, v 11, v 12, v 13, v 14, v 15, v 16, v 17, v 18, vl, vw, v 21, .int .i64 i, v 23, v 24, v 25, v 26, v 27, v 28, v 29, v 30, v 31, v 32, v 33, v 34, v 35, v 36, v 37, v 38, v 39, v 40, v 41, v 42, v 43, v 44, v 45, v 46, v 47, v 48, v 49, v 50, v 51, v 52, v 53, v 54, v 55, v 56, v 57, v 58, v 59, v 60, v 61, v 62, v 63, v 64, v 65, v 66, v 67, v 68, v 69, v 70, v 71, v 72, v 73, v 74, v 75, v 76, v 77, v 78, v 79, v 80, v 81, v 82, v 83, v 84, v 85, v 86, v 87, v 88, v 89, v 90, v 91, v 92, v 93, v 94, v 95, v 96, v 97, v 98, v 99, v 100, v 101, v 102, v 103, v 104, v 105, v 106, v 107, v 108, v 109, v 110, v 111, v 112, v 113, v 114, v 115, v 116, v 117, v 118, v 119, v 120, v 121, v 122, v 123, v 124, v 125, v 126, v 127, v 128, v 129, v 130, v 131, v 132, v 133, v 134, v 135, v 136, v 137, v 138, v 139, v 140, v 141, v 142, v 143, v 144, v 145, v 146, v 147, v 148, v 149, v 150, v 151, v 152, v 153, v 154, v 155, v 156, v 157, v 158, v 159, v 160, v 161, v 162, v 163, v 164, v 165, v 166, v 167, v 168, v 169, v 170, v 171, v 172, v 173, v 174, v 175, v 176, v 177, v 178, v 179, v 180, v 181, v 182, v 183, v 184, v 185, v 186, v 187, v 188, v 189, v 190, v 191, v 192, v 193, v 194, v 195, v 196, v 197, v 198, v 199, v 200, v 201, v 202, v 203, v 204, v 205, v 206, v 207, v 208, v 209, v 210, v 211, v 212, v 213, v 214, v 215, v 216, v 217, v 218, v 219, v 220, v 221, v 222, v 223, v 224, v 225, v 226, v 227, v 228, v 229, v 230, v 231, v 232, v 233, v 234, v 235, v 236, v 237, v 238, v 239, v 240, v 241, v 242, v 243, v 244, v 245, v 246, v 247, v 248, v 249, v 250, v 251, v 252, v 253, v 254, v 255, v 256, v 257, v 258, v 259, v 260, v 261, v 262, v 263, v 264, v 265, v 266, v 267, v 268, v 269, v 270, v 271, v 272, v 273, v 274, v 275, v 276, v 277, v 278, v 279, v 280, v 281, v 282, v 283, v 284, v 285, v 286, v 287, v 288, v 289, v 290, v 291, v 292, v 293, v 294, v 295, v 296, v 297, v 298, v 299, v 300, v 301, v 302, v 303, v 304, v 305, v 306], []⟩ := by
  obtain ⟨v, hv, hd⟩ := ow_act a h.size h.dfr
  have e1 := hv 1 _ h.s1
  have e5 := hv 5 _ h.s5
  have e6 := hv 6 _ h.s6
  have e7 := hv 7 _ h.s7
  have e8 := hv 8 _ h.s8
  have e9 := hv 9 _ h.s9
  have e19 := hv 19 _ h.s19
  have e20 := hv 20 _ h.s20
  have e22 := hv 22 _ h.s22
  refine ⟨v, ?_⟩
  rw [hd]
  simp only [e1, e5, e6, e7, e8, e9, e19, e20, e22]

structure OwK1 (a : Act) (p : OP) (q : OQ) (vl : Value) (vw : Value) (i : Int) : Prop where
  size : a.tmps.size = 307
  dfr : a.defers = []
  s1 : a.tmps[1]? = some (p.mv)
  s5 : a.tmps[5]? = some (.pointer (some ⟨p.lb, 0, none⟩))
  s6 : a.tmps[6]? = some (.pointer (some ⟨p.cb, 0, none⟩))
  s7 : a.tmps[7]? = some (.string p.t)
  s8 : a.tmps[8]? = some (.slice (some ⟨q.ga, 0, none⟩) q.na q.ca)
  s9 : a.tmps[9]? = some (.slice (some ⟨q.go, 0, none⟩) q.no q.co)
  s19 : a.tmps[19]? = some (vl)
  s20 : a.tmps[20]? = some (vw)
  s23 : a.tmps[23]? = some (.int .i64 i)

set_option maxRecDepth 20000 in
theorem OwK1.shape {a : Act} {p : OP} {q : OQ} {vl : Value} {vw : Value} {i : Int} (h : OwK1 a p q vl vw i) : ∃ v : Nat → Value, a = ⟨#[v 0, p.mv, v 2, v 3, v 4, .pointer (some ⟨p.lb, 0, none⟩), .pointer (some ⟨p.cb, 0, none⟩), .string p.t, .slice (some ⟨q.ga, 0, none⟩) q.na q.ca, .slice (some ⟨q.go, 0, none⟩) q.no q.co, v 10, v 11, v 12, v 13, v 14, v 15, v 16, v 17, v 18, vl, vw, v 21, v 22, .int .i64 i, v 24, v 25, v 26, v 27, v 28, v 29, v 30, v 31, v 32, v 33, v 34, v 35, v 36, v 37, v 38, v 39, v 40, v 41, v 42, v 43, v 44, v 45, v 46, v 47, v 48, v 49, v 50, v 51, v 52, v 53, v 54, v 55, v 56, v 57, v 58, v 59, v 60, v 61, v 62, v 63, v 64, v 65, v 66, v 67, v 68, v 69, v 70, v 71, v 72, v 73, v 74, v 75, v 76, v 77, v 78, v 79, v 80, v 81, v 82, v 83, v 84, v 85, v 86, v 87, v 88, v 89, v 90, v 91, v 92, v 93, v 94, v 95, v 96, v 97, v 98, v 99, v 100, v 101, v 102, v 103, v 104, v 105, v 106, v 107, v 108, v 109, v 110, v 111, v 112, v 113, v 114, v 115, v 116, v 117, v 118, v 119, v 120, v 121, v 122, v 123, v 124, v 125, v 126, v 127, v 128, v 129, v 130, v 131, v 132, v 133, v 134, v 135, v 136, v 137, v 138, v 139, v 140, v 141, v 142, v 143, v 144, v 145, v 146, v 147, v 148, v 149, v 150, v 151, v 152, v 153, v 154, v 155, v 156, v 157, v 158, v 159, v 160, v 161, v 162, v 163, v 164, v 165, v 166, v 167, v 168, v 169, v 170, v 171, v 172, v 173, v 174, v 175, v 176, v 177, v 178, v 179, v 180, v 181, v 182, v 183, v 184, v 185, v 186, v 187, v 188, v 189, v 190, v 191, v 192, v 193, v 194, v 195, v 196, v 197, v 198, v 199, v 200, v 201, v 202, v 203, v 204, v 205, v 206, v 207, v 208, v 209, v 210, v 211, v 212, v 213, v 214, v 215, v 216, v 217, v 218, v 219, v 220, v 221, v 222, v 223, v 224, v 225, v 226, v 227, v 228, v 229, v 230, v 231, v 232, v 233, v 234, v 235, v 236, v 237, v 238, v 239, v 240, v 241, v 242, v 243, v 244, v 245, v 246, v 247, v 248, v 249, v 250, v 251, v 252, v 253, v 254, v 255, v 256, v 257, v 258, v 259, v 260, v 261, v 262, v 263, v 264, v 265, v 266, v 267, v 268, v 269, v 270, v 271, v 272, v 273, v 274, v 275, v 276, v 277, v 278, v 279, v 280, v 281, v 282, v 283, v 284, v 285, v 286, v 287, v 288, v 289, v 290, v 291, v 292, v 293, v 294, v 295, v 296, v 297, v 298, v 299, v 300, v 301, v 302, v 303, v 304, v 305, v 306], []⟩ := by
  obtain ⟨v, hv, hd⟩ := ow_act a h.size h.dfr
  have e1 := hv 1 _ h.s1
  have e5 := hv 5 _ h.s5
  have e6 := hv 6 _ h.s6
  have e7 := hv 7 _ h.s7
  have e8 := hv 8 _ h.s8
  have e9 := hv 9 _ h.s9
  have e19 := hv 19 _ h.s19
  have e20 := hv 20 _ h.s20
  have e23 := hv 23 _ h.s23
  refine ⟨v, ?_⟩
  rw [hd]
  simp only [e1, e5, e6, e7, e8, e9, e19, e20, e23]

structure OwK3 (a : Act) (p : OP) (q : OQ) (vl : Value) (vw : Value) (i : Int) : Prop where
  size : a.tmps.size = 307
  dfr : a.defers = []
  s1 : a.tmps[1]? = some (p.mv)
  s5 : a.tmps[5]? = some (.pointer (some ⟨p.lb, 0, none⟩))
  s6 : a.tmps[6]? = some (.pointer (some ⟨p.cb, 0, none⟩))
  s7 : a.tmps[7]? = some (.string p.t)
  s8 : a.tmps[8]? = some (.slice (some ⟨q.ga, 0, none⟩) q.na q.ca)
  s9 : a.tmps[9]? = some (.slice (some ⟨q.go, 0, none⟩) q.no q.co)
  s19 : a.tmps[19]? = some (vl)
  s20 : a.tmps[20]? = some (vw)
  s25 : a.tmps[25]? = some (.int .i64 i)

set_option maxRecDepth 20000 in
theorem OwK3.shape {a : Act} {p : OP} {q : OQ} {vl : Value} {vw : Value} {i : Int} (h : OwK3 a p q vl vw i) : ∃ v : Nat → Value, a = ⟨#[v 0, p.mv, v 2, v 3, v 4, .pointer (some ⟨p.lb, 0, none⟩), .pointer (some ⟨p.cb, 0, none⟩), .string p.t, .slice (some ⟨q.ga, 0, none⟩) q.na q.ca, .slice (some ⟨q.go, 0, none⟩) q.no q.co, v 10, v 11, v 12, v 13, v 14, v 15, v 16, v 17, v 18, vl, vw, v 21, v 22, v 23, v 24, .int .i64 i, v 26, v 27, v 28, v 29, v 30, v 31, v 32, v 33, v 34, v 35, v 36, v 37, v 38, v 39, v 40, v 41, v 42, v 43, v 44, v 45, v 46, v 47, v 48, v 49, v 50, v 51, v 52, v 53, v 54, v 55, v 56, v 57, v 58, v 59, v 60, v 61, v 62, v 63, v 64, v 65, v 66, v 67, v 68, v 69, v 70, v 71, v 72, v 73, v 74, v 75, v 76, v 77, v 78, v 79, v 80, v 81, v 82, v 83, v 84, v 85, v 86, v 87, v 88, v 89, v 90, v 91, v 92, v 93, v 94, v 95, v 96, v 97, v 98, v 99, v 100, v 101, v 102, v 103, v 104, v 105, v 106, v 107, v 108, v 109, v 110, v 111, v 112, v 113, v 114, v 115, v 116, v 117, v 118, v 119, v 120, v 121, v 122, v 123, v 124, v 125, v 126, v 127, v 128, v 129, v 130, v 131, v 132, v 133, v 134, v 135, v 136, v 137, v 138, v 139, v 140, v 141, v 142, v 143, v 144, v 145, v 146, v 147, v 148, v 149, v 150, v 151, v 152, v 153, v 154, v 155, v 156, v 157, v 158, v 159, v 160, v 161, v 162, v 163, v 164, v 165, v 166, v 167, v 168, v 169, v 170, v 171, v 172, v 173, v 174, v 175, v 176, v 177, v 178, v 179, v 180, v 181, v 182, v 183, v 184, v 185, v 186, v 187, v 188, v 189, v 190, v 191, v 192, v 193, v 194, v 195, v 196, v 197, v 198, v 199, v 200, v 201, v 202, v 203, v 204, v 205, v 206, v 207, v 208, v 209, v 210, v 211, v 212, v 213, v 214, v 215, v 216, v 217, v 218, v 219, v 220, v 221, v 222, v 223, v 224, v 225, v 226, v 227, v 228, v 229, v 230, v 231, v 232, v 233, v 234, v 235, v 236, v 237, v 238, v 239, v 240, v 241, v 242, v 243, v 244, v 245, v 246, v 247, v 248, v 249, v 250, v 251, v 252, v 253, v 254, v 255, v 256, v 257, v 258, v 259, v 260, v 261, v 262, v 263, v 264, v 265, v 266, v 267, v 268, v 269, v 270, v 271, v 272, v 273, v 274, v 275, v 276, v 277, v 278, v 279, v 280, v 281, v 282, v 283, v 284, v 285, v 286, v 287, v 288, v 289, v 290, v 291, v 292, v 293, v 294, v 295, v 296, v 297, v 298, v 299, v 300, v 301, v 302, v 303, v 304, v 305, v 306], []⟩ := by
  obtain ⟨v, hv, hd⟩ := ow_act a h.size h.dfr
  have e1 := hv 1 _ h.s1
  have e5 := hv 5 _ h.s5
  have e6 := hv 6 _ h.s6
  have e7 := hv 7 _ h.s7
  have e8 := hv 8 _ h.s8
  have e9 := hv 9 _ h.s9
  have e19 := hv 19 _ h.s19
  have e20 := hv 20 _ h.s20
  have e25 := hv 25 _ h.s25
  refine ⟨v, ?_⟩
  rw [hd]
  simp only [e1, e5, e6, e7, e8, e9, e19, e20, e25]

structure OwK2 (a : Act) (p : OP) (q : OQ) (vl : Value) (vw : Value) (i : Int) (k : Int) : Prop where
  size : a.tmps.size = 307
  dfr : a.defers = []
  s1 : a.tmps[1]? = some (p.mv)
  s5 : a.tmps[5]? = some (.pointer (some ⟨p.lb, 0, none⟩))
  s6 : a.tmps[6]? = some (.pointer (some ⟨p.cb, 0, none⟩))
  s7 : a.tmps[7]? = some (.string p.t)
  s8 : a.tmps[8]? = some (.slice (some ⟨q.ga, 0, none⟩) q.na q.ca)
  s9 : a.tmps[9]? = some (.slice (some ⟨q.go, 0, none⟩) q.no q.co)
  s19 : a.tmps[19]? = some (vl)
  s20 : a.tmps[20]? = some (vw)
  s23 : a.tmps[23]? = some (.int .i64 i)
  s24 : a.tmps[24]? = some (.int .i64 k)

set_option maxRecDepth 20000 in
theorem OwK2.shape {a : Act} {p : OP} {q : OQ} {vl : Value} {vw : Value} {i : Int} {k : Int} (h : OwK2 a p q vl vw i k) : ∃ v : Nat → Value, a = ⟨#[v 0, p.mv, v 2, v 3, v 4, .pointer (some ⟨p.lb, 0, none⟩), .pointer (some ⟨p.cb, 0, none⟩), .string p.t, .slice (some ⟨q.ga, 0, none⟩) q.na q.ca, .slice (some ⟨q.go, 0, none⟩) q.no q.co, v 10, v 11, v 12, v 13, v 14, v 15, v 16, v 17, v 18, vl, vw, v 21, v 22, .int .i64 i, .int .i64 k, v 25, v 26, v 27, v 28, v 29, v 30, v 31, v 32, v 33, v 34, v 35, v 36, v 37, v 38, v 39, v 40, v 41, v 42, v 43, v 44, v 45, v 46, v 47, v 48, v 49, v 50, v 51, v 52, v 53, v 54, v 55, v 56, v 57, v 58, v 59, v 60, v 61, v 62, v 63, v 64, v 65, v 66, v 67, v 68, v 69, v 70, v 71, v 72, v 73, v 74, v 75, v 76, v 77, v 78, v 79, v 80, v 81, v 82, v 83, v 84, v 85, v 86, v 87, v 88, v 89, v 90, v 91, v 92, v 93, v 94, v 95, v 96, v 97, v 98, v 99, v 100, v 101, v 102, v 103, v 104, v 105, v 106, v 107, v 108, v 109, v 110, v 111, v 112, v 113, v 114, v 115, v 116, v 117, v 118, v 119, v 120, v 121, v 122, v 123, v 124, v 125, v 126, v 127, v 128, v 129, v 130, v 131, v 132, v 133, v 134, v 135, v 136, v 137, v 138, v 139, v 140, v 141, v 142, v 143, v 144, v 145, v 146, v 147, v 148, v 149, v 150, v 151, v 152, v 153, v 154, v 155, v 156, v 157, v 158, v 159, v 160, v 161, v 162, v 163, v 164, v 165, v 166, v 167, v 168, v 169, v 170, v 171, v 172, v 173, v 174, v 175, v 176, v 177, v 178, v 179, v 180, v 181, v 182, v 183, v 184, v 185, v 186, v 187, v 188, v 189, v 190, v 191, v 192, v 193, v 194, v 195, v 196, v 197, v 198, v 199, v 200, v 201, v 202, v 203, v 204, v 205, v 206, v 207, v 208, v 209, v 210, v 211, v 212, v 213, v 214, v 215, v 216, v 217, v 218, v 219, v 220, v 221, v 222, v 223, v 224, v 225, v 226, v 227, v 228, v 229, v 230, v 231, v 232, v 233, v 234, v 235, v 236, v 237, v 238, v 239, v 240, v 241, v 242, v 243, v 244, v 245, v 246, v 247, v 248, v 249, v 250, v 251, v 252, v 253, v 254, v 255, v 256, v 257, v 258, v 259, v 260, v 261, v 262, v 263, v 264, v 265, v 266, v 267, v 268, v 269, v 270, v 271, v 272, v 273, v 274, v 275, v 276, v 277, v 278, v 279, v 280, v 281, v 282, v 283, v 284, v 285, v 286, v 287, v 288, v 289, v 290, v 291, v 292, v 293, v 294, v 295, v 296, v 297, v 298, v 299, v 300, v 301, v 302, v 303, v 304, v 305, v 306], []⟩ := by
  obtain ⟨v, hv, hd⟩ := ow_act a h.size h.dfr
  have e1 := hv 1 _ h.s1
  have e5 := hv 5 _ h.s5
  have e6 := hv 6 _ h.s6
  have e7 := hv 7 _ h.s7
  have e8 := hv 8 _ h.s8
  have e9 := hv 9 _ h.s9
  have e19 := hv 19 _ h.s19
  have e20 := hv 20 _ h.s20
  have e23 := hv 23 _ h.s23
  have e24 := hv 24 _ h.s24
  refine ⟨v, ?_⟩
  rw [hd]
  simp only [e1, e5, e6, e7, e8, e9, e19, e20, e23, e24]

structure OwK4 (a : Act) (p : OP) (q : OQ) (vl : Value) (vw : Value) (i : Int) (k : Int) : Prop where
  size : a.tmps.size = 307
  dfr : a.defers = []
  s1 : a.tmps[1]? = some (p.mv)
  s5 : a.tmps[5]? = some (.pointer (some ⟨p.lb, 0, none⟩))
  s6 : a.tmps[6]? = some (.pointer (some ⟨p.cb, 0, none⟩))
  s7 : a.tmps[7]? = some (.string p.t)
  s8 : a.tmps[8]? = some (.slice (some ⟨q.ga, 0, none⟩) q.na q.ca)
  s9 : a.tmps[9]? = some (.slice (some ⟨q.go, 0, none⟩) q.no q.co)
  s19 : a.tmps[19]? = some (vl)
  s20 : a.tmps[20]? = some (vw)
  s25 : a.tmps[25]? = some (.int .i64 i)
  s26 : a.tmps[26]? = some (.int .i64 k)

set_option maxRecDepth 20000 in
theorem OwK4.shape {a : Act} {p : OP} {q : OQ} {vl : Value} {vw : Value} {i : Int} {k : Int} (h : OwK4 a p q vl vw i k) : ∃ v : Nat → Value, a = ⟨#[v 0, p.mv, v 2, v 3, v 4, .pointer (some ⟨p.lb, 0, none⟩), .pointer (some ⟨p.cb, 0, none⟩), .string p.t, .slice (some ⟨q.ga, 0, none⟩) q.na q.ca, .slice (some ⟨q.go, 0, none⟩) q.no q.co, v 10, v 11, v 12, v 13, v 14, v 15, v 16, v 17, v 18, vl, vw, v 21, v 22, v 23, v 24, .int .i64 i, .int .i64 k, v 27, v 28, v 29, v 30, v 31, v 32, v 33, v 34, v 35, v 36, v 37, v 38, v 39, v 40, v 41, v 42, v 43, v 44, v 45, v 46, v 47, v 48, v 49, v 50, v 51, v 52, v 53, v 54, v 55, v 56, v 57, v 58, v 59, v 60, v 61, v 62, v 63, v 64, v 65, v 66, v 67, v 68, v 69, v 70, v 71, v 72, v 73, v 74, v 75, v 76, v 77, v 78, v 79, v 80, v 81, v 82, v 83, v 84, v 85, v 86, v 87, v 88, v 89, v 90, v 91, v 92, v 93, v 94, v 95, v 96, v 97, v 98, v 99, v 100, v 101, v 102, v 103, v 104, v 105, v 106, v 107, v 108, v 109, v 110, v 111, v 112, v 113, v 114, v 115, v 116, v 117, v 118, v 119, v 120, v 121, v 122, v 123, v 124, v 125, v 126, v 127, v 128, v 129, v 130, v 131, v 132, v 133, v 134, v 135, v 136, v 137, v 138, v 139, v 140, v 141, v 142, v 143, v 144, v 145, v 146, v 147, v 148, v 149, v 150, v 151, v 152, v 153, v 154, v 155, v 156, v 157, v 158, v 159, v 160, v 161, v 162, v 163, v 164, v 165, v 166, v 167, v 168, v 169, v 170, v 171, v 172, v 173, v 174, v 175, v 176, v 177, v 178, v 179, v 180, v 181, v 182, v 183, v 184, v 185, v 186, v 187, v 188, v 189, v 190, v 191, v 192, v 193, v 194, v 195, v 196, v 197, v 198, v 199, v 200, v 201, v 202, v 203, v 204, v 205, v 206, v 207, v 208, v 209, v 210, v 211, v 212, v 213, v 214, v 215, v 216, v 217, v 218, v 219, v 220, v 221, v 222, v 223, v 224, v 225, v 226, v 227, v 228, v 229, v 230, v 231, v 232, v 233, v 234, v 235, v 236, v 237, v 238, v 239, v 240, v 241, v 242, v 243, v 244, v 245, v 246, v 247, v 248, v 249, v 250, v 251, v 252, v 253, v 254, v 255, v 256, v 257, v 258, v 259, v 260, v 261, v 262, v 263, v 264, v 265, v 266, v 267, v 268, v 269, v 270, v 271, v 272, v 273, v 274, v 275, v 276, v 277, v 278, v 279, v 280, v 281, v 282, v 283, v 284, v 285, v 286, v 287, v 288, v 289, v 290, v 291, v 292, v 293, v 294, v 295, v 296, v 297, v 298, v 299, v 300, v 301, v 302, v 303, v 304, v 305, v 306], []⟩ := by
  obtain ⟨v, hv, hd⟩ := ow_act a h.size h.dfr
  have e1 := hv 1 _ h.s1
  have e5 := hv 5 _ h.s5
  have e6 := hv 6 _ h.s6
  have e7 := hv 7 _ h.s7
  have e8 := hv 8 _ h.s8
  have e9 := hv 9 _ h.s9
  have e19 := hv 19 _ h.s19
  have e20 := hv 20 _ h.s20
  have e25 := hv 25 _ h.s25
  have e26 := hv 26 _ h.s26
  refine ⟨v, ?_⟩
  rw [hd]
  simp only [e1, e5, e6, e7, e8, e9, e19, e20, e25, e26]

structure OwU (a : Act) (p : OP) : Prop where
  size : a.tmps.size = 307
  dfr : a.defers = []
  s1 : a.tmps[1]? = some (p.mv)
  s5 : a.tmps[5]? = some (.pointer (some ⟨p.lb, 0, none⟩))
  s6 : a.tmps[6]? = some (.pointer (some ⟨p.cb, 0, none⟩))
  s7 : a.tmps[7]? = some (.string p.t)

set_option maxRecDepth 20000 in
theorem OwU.shape {a : Act} {p : OP} (h : OwU a p) : ∃ v : Nat → Value, a = ⟨#[v 0, p.mv, v 2, v 3, v 4, .pointer (some ⟨p.lb, 0, none⟩), .pointer (some ⟨p.cb, 0, none⟩), .string p.t, v 8, v 9, v 10, v 11, v 12, v 13, v 14, v 15, v 16, v 17, v 18, v 19, v 20, v 21, v 22, v 23, v 24, v 25, v 26, v 27, v 28, v 29, v 30, v 31, v 32, v 33, v 34, v 35, v 36, v 37, v 38, v 39, v 40, v 41, v 42, v 43, v 44, v 45, v 46, v 47, v 48, v 49, v 50, v 51, v 52, v 53, v 54, v 55, v 56, v 57, v 58, v 59, v 60, v 61, v 62, v 63, v 64, v 65, v 66, v 67, v 68, v 69, v 70, v 71, v 72, v 73, v 74, v 75, v 76, v 77, v 78, v 79, v 80, v 81, v 82, v 83, v 84, v 85, v 86, v 87, v 88, v 89, v 90, v 91, v 92, v 93, v 94, v 95, v 96, v 97, v 98, v 99, v 100, v 101, v 102, v 103, v 104, v 105, v 106, v 107, v 108, v 109, v 110, v 111, v 112, v 113, v 114, v 115, v 116, v 117, v 118, v 119, v 120, v 121, v 122, v 123, v 124, v 125, v 126, v 127, v 128, v 129, v 130, v 131, v 132, v 133, v 134, v 135, v 136, v 137, v 138, v 139, v 140, v 141, v 142, v 143, v 144, v 145, v 146, v 147, v 148, v 149, v 150, v 151, v 152, v 153, v 154, v 155, v 156, v 157, v 158, v 159, v 160, v 161, v 162, v 163, v 164, v 165, v 166, v 167, v 168, v 169, v 170, v 171, v 172, v 173, v 174, v 175, v 176, v 177, v 178, v 179, v 180, v 181, v 182, v 183, v 184, v 185, v 186, v 187, v 188, v 189, v 190, v 191, v 192, v 193, v 194, v 195, v 196, v 197, v 198, v 199, v 200, v 201, v 202, v 203, v 204, v 205, v 206, v 207, v 208, v 209, v 210, v 211, v 212, v 213, v 214, v 215, v 216, v 217, v 218, v 219, v 220, v 221, v 222, v 223, v 224, v 225, v 226, v 227, v 228, v 229, v 230, v 231, v 232, v 233, v 234, v 235, v 236, v 237, v 238, v 239, v 240, v 241, v 242, v 243, v 244, v 245, v 246, v 247, v 248, v 249, v 250, v 251, v 252, v 253, v 254, v 255, v 256, v 257, v 258, v 259, v 260, v 261, v 262, v 263, v 264, v 265, v 266, v 267, v 268, v 269, v 270, v 271, v 272, v 273, v 274, v 275, v 276, v 277, v 278, v 279, v 280, v 281, v 282, v 283, v 284, v 285, v 286, v 287, v 288, v 289, v 290, v 291, v 292, v 293, v 294, v 295, v 296, v 297, v 298, v 299, v 300, v 301, v 302, v 303, v 304, v 305, v 306], []⟩ := by
  obtain ⟨v, hv, hd⟩ := ow_act a h.size h.dfr
  have e1 := hv 1 _ h.s1
  have e5 := hv 5 _ h.s5
  have e6 := hv 6 _ h.s6
  have e7 := hv 7 _ h.s7
  refine ⟨v, ?_⟩
  rw [hd]
  simp only [e1, e5, e6, e7]

structure OwI (a : Act) (p : OP) (i : Int) : Prop where
  size : a.tmps.size = 307
  dfr : a.defers = []
  s1 : a.tmps[1]? = some (p.mv)
  s5 : a.tmps[5]? = some (.pointer (some ⟨p.lb, 0, none⟩))
  s6 : a.tmps[6]? = some (.pointer (some ⟨p.cb, 0, none⟩))
  s7 : a.tmps[7]? = some (.string p.t)
  s27 : a.tmps[27]? = some (.int .i64 i)

set_option maxRecDepth 20000 in
theorem OwI.shape {a : Act} {p : OP} {i : Int} (h : OwI a p i) : ∃ v : Nat → Value, a = ⟨#[v 0, p.mv, v 2, v 3, v 4, .pointer (some ⟨p.lb, 0, none⟩), .pointer (some ⟨p.cb, 0, none⟩), .string p.t, v 8, v 9, v 10, v 11, v 12, v 13, v 14, v 15, v 16, v 17, v 18, v 19, v 20, v 21, v 22, v 23, v 24, v 25, v 26, .int .i64 i, v 28, v 29, v 30, v 31, v 32, v 33, v 34, v 35, v 36, v 37, v 38, v 39, v 40, v 41, v 42, v 43, v 44, v 45, v 46, v 47, v 48, v 49, v 50, v 51, v 52, v 53, v 54, v 55, v 56, v 57, v 58, v 59, v 60, v 61, v 62, v 63, v 64, v 65, v 66, v 67, v 68, v 69, v 70, v 71, v 72, v 73, v 74, v 75, v 76, v 77, v 78, v 79, v 80, v 81, v 82, v 83, v 84, v 85, v 86, v 87, v 88, v 89, v 90, v 91, v 92, v 93, v 94, v 95, v 96, v 97, v 98, v 99, v 100, v 101, v 102, v 103, v 104, v 105, v 106, v 107, v 108, v 109, v 110, v 111, v 112, v 113, v 114, v 115, v 116, v 117, v 118, v 119, v 120, v 121, v 122, v 123, v 124, v 125, v 126, v 127, v 128, v 129, v 130, v 131, v 132, v 133, v 134, v 135, v 136, v 137, v 138, v 139, v 140, v 141, v 142, v 143, v 144, v 145, v 146, v 147, v 148, v 149, v 150, v 151, v 152, v 153, v 154, v 155, v 156, v 157, v 158, v 159, v 160, v 161, v 162, v 163, v 164, v 165, v 166, v 167, v 168, v 169, v 170, v 171, v 172, v 173, v 174, v 175, v 176, v 177, v 178, v 179, v 180, v 181, v 182, v 183, v 184, v 185, v 186, v 187, v 188, v 189, v 190, v 191, v 192, v 193, v 194, v 195, v 196, v 197, v 198, v 199, v 200, v 201, v 202, v 203, v 204, v 205, v 206, v 207, v 208, v 209, v 210, v 211, v 212, v 213, v 214, v 215, v 216, v 217, v 218, v 219, v 220, v 221, v 222, v 223, v 224, v 225, v 226, v 227, v 228, v 229, v 230, v 231, v 232, v 233, v 234, v 235, v 236, v 237, v 238, v 239, v 240, v 241, v 242, v 243, v 244, v 245, v 246, v 247, v 248, v 249, v 250, v 251, v 252, v 253, v 254, v 255, v 256, v 257, v 258, v 259, v 260, v 261, v 262, v 263, v 264, v 265, v 266, v 267, v 268, v 269, v 270, v 271, v 272, v 273, v 274, v 275, v 276, v 277, v 278, v 279, v 280, v 281, v 282, v 283, v 284, v 285, v 286, v 287, v 288, v 289, v 290, v 291, v 292, v 293, v 294, v 295, v 296, v 297, v 298, v 299, v 300, v 301, v 302, v 303, v 304, v 305, v 306], []⟩ := by
  obtain ⟨v, hv, hd⟩ := ow_act a h.size h.dfr
  have e1 := hv 1 _ h.s1
  have e5 := hv 5 _ h.s5
  have e6 := hv 6 _ h.s6
  have e7 := hv 7 _ h.s7
  have e27 := hv 27 _ h.s27
  refine ⟨v, ?_⟩
  rw [hd]
  simp only [e1, e5, e6, e7, e27]

theorem OwM1.toS {a : Act} {p : OP} {q : OQ} {i : Int} (h : OwM1 a p q i) : OwS a p q := ⟨h.size, h.dfr, h.s1, h.s5, h.s6, h.s7, h.s8, h.s9⟩
theorem OwM3.toS {a : Act} {p : OP} {q : OQ} {i : Int} (h : OwM3 a p q i) : OwS a p q := ⟨h.size, h.dfr, h.s1, h.s5, h.s6, h.s7, h.s8, h.s9⟩
theorem OwM2.to1 {a : Act} {p : OP} {q : OQ} {i k : Int} (h : OwM2 a p q i k) : OwM1 a p q i := ⟨h.size, h.dfr, h.s1, h.s5, h.s6, h.s7, h.s8, h.s9, h.s15⟩
theorem OwM4.to3 {a : Act} {p : OP} {q : OQ} {i k : Int} (h : OwM4 a p q i k) : OwM3 a p q i := ⟨h.size, h.dfr, h.s1, h.s5, h.s6, h.s7, h.s8, h.s9, h.s17⟩
theorem OwL1.toT {a : Act} {p : OP} {q : OQ} {vl vw : Value} {i : Int} (h : OwL1 a p q vl vw i) : OwT a p q vl vw := ⟨h.size, h.dfr, h.s1, h.s5, h.s6, h.s7, h.s8, h.s9, h.s19, h.s20⟩
theorem OwL2.toT {a : Act} {p : OP} {q : OQ} {vl vw : Value} {i : Int} (h : OwL2 a p q vl vw i) : OwT a p q vl vw := ⟨h.size, h.dfr, h.s1, h.s5, h.s6, h.s7, h.s8, h.s9, h.s19, h.s20⟩
theorem OwK1.toT {a : Act} {p : OP} {q : OQ} {vl vw : Value} {i : Int} (h : OwK1 a p q vl vw i) : OwT a p q vl vw := ⟨h.size, h.dfr, h.s1, h.s5, h.s6, h.s7, h.s8, h.s9, h.s19, h.s20⟩
theorem OwK3.toT {a : Act} {p : OP} {q : OQ} {vl vw : Value} {i : Int} (h : OwK3 a p q vl vw i) : OwT a p q vl vw := ⟨h.size, h.dfr, h.s1, h.s5, h.s6, h.s7, h.s8, h.s9, h.s19, h.s20⟩
theorem OwK2.to1 {a : Act} {p : OP} {q : OQ} {vl vw : Value} {i k : Int} (h : OwK2 a p q vl vw i k) : OwK1 a p q vl vw i := ⟨h.size, h.dfr, h.s1, h.s5, h.s6, h.s7, h.s8, h.s9, h.s19, h.s20, h.s23⟩
theorem OwK4.to3 {a : Act} {p : OP} {q : OQ} {vl vw : Value} {i k : Int} (h : OwK4 a p q vl vw i k) : OwK3 a p q vl vw i := ⟨h.size, h.dfr, h.s1, h.s5, h.s6, h.s7, h.s8, h.s9, h.s19, h.s20, h.s25⟩
theorem OwT.toU {a : Act} {p : OP} {q : OQ} {vl vw : Value} (h : OwT a p q vl vw) : OwU a p := ⟨h.size, h.dfr, h.s1, h.s5, h.s6, h.s7⟩
theorem OwI.toU {a : Act} {p : OP} {i : Int} (h : OwI a p i) : OwU a p := ⟨h.size, h.dfr, h.s1, h.s5, h.s6, h.s7⟩
theorem OwC.toA {a : Act} {p : OP} {va vo : Value} {i : Int} {xb : Nat} {mv : Value} (h : OwC a p va vo i xb mv) : OwA a p va vo i := ⟨h.size, h.dfr, h.s1, h.s5, h.s6, h.s7, h.s8, h.s9, h.s10⟩

end Go.Proofs.YthpflfcgnaichaaDoor

set_option linter.unusedVariables false
set_option linter.unusedSimpArgs false
namespace Go.Proofs.YthpflfcgnaichaaDoor
open Go Go.RowKit

/-- An entry with a number alone. -/
def markE (n : Int) : Ent := { Ent.zero with number := n }

def mkE (j : Nat) : List Value := (markE (-(j : Int) - 1)).cells
def fiE (j : Nat) : List Value := (markE (100 + (j : Int))).cells
def mkI (j : Nat) : List Value := [.int .i64 (-(j : Int) - 1)]
def fiI (j : Nat) : List Value := [.int .i64 (100 + (j : Int))]

theorem slinfo : (Tryd.prog.info? 25).map (fun i => (i.zero, i.size, i.bytes)) = some (some (.slice none 0 0), 1, 24) := by kernel_rfl
theorem iinfo : (Tryd.prog.info? 44).map (fun i => (i.zero, i.size, i.bytes)) = some (some (.slice none 0 0), 1, 24) := by kernel_rfl

theorem ents_flat (xs : List Ent) : ents xs = (xs.map Ent.cells).flatten := rfl
theorem intVs_flat : ∀ ks : List Int, intVs ks = (ks.map fun z => [Value.int .i64 z]).flatten
  | [] => rfl
  | k :: ks => by
    show Value.int .i64 k :: intVs ks = _
    rw [intVs_flat ks]
    rfl

/-- Both logs, among the items. -/
structure OwL (w0 w : World) (It : Nat → Item) (p : OP) (vl vc : Value) (xs : List Ent) : Prop where
  bg : Bg w0 w It
  l : It 2 = LI p.lb vl xs
  c : It 3 = LI p.cb vc xs
  len : xs.length ≤ 60

structure OwAS (w0 w : World) (It : Nat → Item) (p : OP) (vl vc : Value) (xs : List Ent) (va vo : Value) (vals vos : List Value) : Prop where
  m : OwL w0 w It p vl vc xs
  ra : It 0 = rowItem 25 1 va vals.length vals
  ro : It 1 = rowItem 44 1 vo vos.length vos
  a : Lst It 10 38 15 mkE vals 0 0
  o : Lst It 20 3 1 mkI vos 0 0
  na : vals.length ≤ 6
  no : vos.length ≤ 3

section
variable {w0 w : World} {It : Nat → Item} {p : OP} {vl vc : Value} {xs : List Ent} {va vo : Value} {vals vos : List Value}

theorem OwL.later (h : OwL w0 w It p vl vc xs) {w2 : World} (hb : Below w.heap.size w w2) : OwL w0 w2 It p vl vc xs := ⟨h.bg.later hb, h.l, h.c, h.len⟩
theorem OwAS.later (h : OwAS w0 w It p vl vc xs va vo vals vos) {w2 : World} (hb : Below w.heap.size w w2) : OwAS w0 w2 It p vl vc xs va vo vals vos := ⟨h.m.later hb, h.ra, h.ro, h.a, h.o, h.na, h.no⟩

theorem OwL.logs (h : OwL w0 w It p vl vc xs) : PLog w p.lb vl xs ∧ PLog w p.cb vc xs := by
  have h1 := h.bg.bag.holds 2
  have h2 := h.bg.bag.holds 3
  rw [h.l] at h1
  rw [h.c] at h2
  exact ⟨h1, h2⟩

/-- Either log, as it is named. -/
theorem OwL.log (h : OwL w0 w It p vl vc xs) {xb : Nat} (hx : xb = p.lb ∨ xb = p.cb) : ∃ v, PLog w xb v xs := by
  rcases hx with rfl | rfl
  · exact ⟨_, h.logs.1⟩
  · exact ⟨_, h.logs.2⟩

theorem OwL.put (h : OwL w0 w It p vl vc xs) {w2 : World} {k : Nat} {x : Item} (hb : Bg w0 w2 (upd It k x)) (h2 : 2 ≠ k) (h3 : 3 ≠ k) : OwL w0 w2 (upd It k x) p vl vc xs :=
  ⟨hb, by rw [upd_ne _ _ h2]; exact h.l, by rw [upd_ne _ _ h3]; exact h.c, h.len⟩

theorem OwAS.put (h : OwAS w0 w It p vl vc xs va vo vals vos) {w2 : World} {k : Nat} {x : Item} (hb : Bg w0 w2 (upd It k x)) (h4 : 4 ≤ k) (ha : ∀ j, j < vals.length → k ≠ 10 + j) (ho : ∀ j, j < vos.length → k ≠ 20 + j) : OwAS w0 w2 (upd It k x) p vl vc xs va vo vals vos :=
  ⟨h.m.put hb (by omega) (by omega), by rw [upd_ne _ _ (by omega)]; exact h.ra, by rw [upd_ne _ _ (by omega)]; exact h.ro, h.a.other k x ha, h.o.other k x ho, h.na, h.no⟩

/-- A row that a call made is put. -/
theorem Bg.fresh (h : Bg w0 w It) (k : Nat) {T : TypeId} {sz n : Nat} {v : Value} {vs : List Value} {w2 : World} (hb : Below w.heap.size w w2) (hr : w2.ownsRow 0 T sz v n vs) (hn : ∀ g, v.ownBlock = some g → w.heap.size ≤ g) : Bg w0 w2 (upd It k (rowItem T sz v n vs)) :=
  h.put k _ (Mod.ofBelow hb fun k hk h2 => absurd hk (by omega)) hr (fun g hg => (hr.lt g hg).2) (fun g hg => .inr (hn g hg))

/-- What Parse gave. -/
theorem OwAS.parsed (h : OwAS w0 w It p vl vc xs va vo vals vos) {w2 : World} {am : Option Addr} {n cm : Nat} (hb : Below w.heap.size w w2) (hr : w2.ownsRow 0 38 15 (.slice am n cm) n (ents xs)) (hn : ∀ g, (Value.slice am n cm).ownBlock = some g → w.heap.size ≤ g) :
    OwAS w0 w2 (upd It (11 + vals.length) (rowItem 38 15 (.slice am n cm) n (ents xs))) p vl vc xs va vo vals vos := by
  have h1 := h.na
  exact h.put (h.m.bg.fresh _ hb hr hn) (by omega) (fun j hj => by omega) (fun j hj => by omega)

/-- What Entries gave. -/
theorem OwAS.told (h : OwAS w0 w It p vl vc xs va vo vals vos) {w2 : World} {am ao : Option Addr} {n cm c : Nat} (hI : It (11 + vals.length) = rowItem 38 15 (.slice am n cm) n (ents xs)) (hb : Below w.heap.size w w2) (hr : w2.ownsRow 0 38 15 (.slice ao n c) n (ents xs)) (hn : ∀ g, (Value.slice ao n c).ownBlock = some g → w.heap.size ≤ g) :
    ∃ It', OwAS w0 w2 It' p vl vc xs va vo vals vos ∧ It' (10 + vals.length) = rowItem 38 15 (.slice ao n c) n (ents xs) ∧ It' (11 + vals.length) = rowItem 38 15 (.slice am n cm) n (ents xs) := by
  have h1 := h.na
  exact ⟨_, h.put (h.m.bg.fresh (10 + vals.length) hb hr hn) (by omega) (fun j hj => by omega) (fun j hj => by omega), upd_same _ _ _, by rw [upd_ne _ _ (by omega)]; exact hI⟩

theorem ents_cells (xs : List Ent) (t : Nat) (x : List Value) (h : (xs.map Ent.cells)[t]? = some x) : x.length = 15 := by
  rw [List.getElem?_map] at h
  cases hx : xs[t]? with
  | none => rw [hx] at h; cases h
  | some e => rw [hx] at h; cases h; rfl

theorem ints_cells (ks : List Int) (t : Nat) (x : List Value) (h : (ks.map fun z => [Value.int .i64 z])[t]? = some x) : x.length = 1 := by
  rw [List.getElem?_map] at h
  cases hx : ks[t]? with
  | none => rw [hx] at h; cases h
  | some e => rw [hx] at h; cases h; rfl

theorem Bg.grow (h : Bg w0 w It) (k : Nat) {T : TypeId} {sz n q : Nat} {v v' : Value} {vs vs' : List Value} {w2 : World} {o : Obj} (hI : It k = rowItem T sz v n vs) (hg : (w.alloc o).grownBy w2 v.ownBlock) (hr : w2.ownsRow 0 T sz v' q vs') (hn : ∀ g, v'.ownBlock = some g → v.ownBlock = some g ∨ (w.alloc o).heap.size ≤ g) : Bg w0 w2 (upd It k (rowItem T sz v' q vs')) := by
  refine h.put k _ ?_ hr (fun g hg => (hr.lt g hg).2) (fun g hg => ?_)
  · rw [hI]
    exact ((Mod.refl _ w).alloc o).grown hg (fun k hk _ => hk)
  · rw [hI]
    rcases hn g hg with q | q
    · exact .inl q
    · refine .inr (Nat.le_trans ?_ q)
      simp

/-- Both lists go behind the others. -/
theorem OwAS.all (h : OwAS w0 w It p vl vc xs va vo vals vos) (hn : vals.length < 5) {w2 : World} {o : Obj} {ao am ar : Option Addr} {n c cm q cr : Nat} (hxn : n = xs.length)
    (h10 : It (10 + vals.length) = rowItem 38 15 (.slice ao n c) n (ents xs)) (h11 : It (11 + vals.length) = rowItem 38 15 (.slice am n cm) n (ents xs))
    (hg : (w.alloc o).grownBy w2 va.ownBlock) (hr : w2.ownsRow 0 25 1 (.slice ar q cr) q (vals ++ [.slice ao n c, .slice am n cm])) (hnew : ∀ g, (Value.slice ar q cr).ownBlock = some g → va.ownBlock = some g ∨ (w.alloc o).heap.size ≤ g) :
    ∃ It', OwAS w0 w2 It' p vl vc xs (.slice ar q cr) vo (vals ++ [.slice ao n c, .slice am n cm]) vos := by
  subst hxn
  have hq : q = vals.length + 2 := by
    have := hr.1
    rw [List.length_append] at this
    simp at this
    omega
  have hle := h.m.len
  refine ⟨_, h.m.put (h.m.bg.grow 0 h.ra hg hr hnew) (by omega) (by omega), ?_, ?_, ?_, h.o.other _ _ (fun j _ => by omega), ?_, h.no⟩
  · rw [upd_same]
    congr 1
    rw [List.length_append]; exact hq
  · rw [upd_ne _ _ (by omega)]
    exact h.ro
  · have h1 := h.a.other 0 (rowItem 25 1 (.slice ar q cr) q (vals ++ [.slice ao xs.length c, .slice am xs.length cm])) (fun j _ => by omega)
    have h2 := h1.ext ao c (xs.map Ent.cells) (by rw [upd_ne _ _ (by omega), List.length_map]; exact h10) (by rw [List.length_map]; omega) (ents_cells xs)
    have h3 := h2.ext am cm (xs.map Ent.cells) (by rw [upd_ne _ _ (by omega), List.length_append, List.length_map, ← Nat.add_assoc]; rw [show 10 + vals.length + [Value.slice ao xs.length c].length = 11 + vals.length by simp; omega]; exact h11) (by rw [List.length_map]; omega) (ents_cells xs)
    rw [List.length_map, List.append_assoc] at h3
    exact h3
  · rw [List.length_append]; simp; omega

/-- What Open gave. -/
theorem OwAS.opened (h : OwAS w0 w It p vl vc xs va vo vals vos) (hn3 : vos.length < 3) {w2 : World} {ao : Option Addr} {n c : Nat} {vs : List Value} (hb : Below w.heap.size w w2) (hr : w2.ownsRow 0 3 1 (.slice ao n c) n vs) (hn : ∀ g, (Value.slice ao n c).ownBlock = some g → w.heap.size ≤ g) :
    ∃ It', OwAS w0 w2 It' p vl vc xs va vo vals vos ∧ It' (20 + vos.length) = rowItem 3 1 (.slice ao n c) n vs := by
  have h1 := h.na
  exact ⟨_, h.put (h.m.bg.fresh (20 + vos.length) hb hr hn) (by omega) (fun j hj => by omega) (fun j hj => by omega), upd_same _ _ _⟩

theorem OwAS.opens (h : OwAS w0 w It p vl vc xs va vo vals vos) (hn : vos.length < 3) {w2 : World} {o : Obj} {ao ar : Option Addr} {n c q cr : Nat} {ks : List Int} (hkn : n = ks.length) (hk : n ≤ 60)
    (h20 : It (20 + vos.length) = rowItem 3 1 (.slice ao n c) n (intVs ks))
    (hg : (w.alloc o).grownBy w2 vo.ownBlock) (hr : w2.ownsRow 0 44 1 (.slice ar q cr) q (vos ++ [.slice ao n c])) (hnew : ∀ g, (Value.slice ar q cr).ownBlock = some g → vo.ownBlock = some g ∨ (w.alloc o).heap.size ≤ g) :
    ∃ It', OwAS w0 w2 It' p vl vc xs va (.slice ar q cr) vals (vos ++ [.slice ao n c]) := by
  subst hkn
  have hq : q = vos.length + 1 := by
    have := hr.1
    rw [List.length_append] at this
    simp at this
    omega
  refine ⟨_, h.m.put (h.m.bg.grow 1 h.ro hg hr hnew) (by omega) (by omega), ?_, ?_, h.a.other _ _ (fun j _ => by omega), ?_, h.na, ?_⟩
  · rw [upd_ne _ _ (by omega)]
    exact h.ra
  · rw [upd_same]
    congr 1
    rw [List.length_append]; exact hq
  · have h1 := h.o.other 1 (rowItem 44 1 (.slice ar q cr) q (vos ++ [.slice ao ks.length c])) (fun j _ => by omega)
    have h2 := h1.ext ao c (ks.map fun z => [Value.int .i64 z]) (by rw [upd_ne _ _ (by omega), List.length_map, ← intVs_flat]; exact h20) (by rw [List.length_map]; omega) (ints_cells ks)
    rw [List.length_map] at h2
    exact h2
  · rw [List.length_append]; simp; omega

end

theorem open_len (xs : List Ent) : (opensL xs).length ≤ xs.length := by
  unfold opensL
  rw [List.length_map]
  exact List.length_filter_le _ _

end Go.Proofs.YthpflfcgnaichaaDoor
