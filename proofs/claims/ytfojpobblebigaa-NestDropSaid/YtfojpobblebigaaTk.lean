/- Small facts on levels and their sizes. -/
import Derived.Test.YtfojpobblebigaaPx3
import Derived.Test.YtfojpobblebigaaLp
import Derived.Test.YtfojpobblebigaaTj
namespace Go.Proofs.Ytfojpobblebigaa.Pure
open Go.RowKit Go.Proofs.Ytfojpobblebigaa.P Go.Proofs.YtfojpobblebigaaW.PrintWords
set_option linter.unusedVariables false
theorem san : hallmootlaw13_sanity.f = some true := by decide +kernel
theorem fin_some (l : List S62) (loc : Int) : nFind.f l loc = some (findL l loc) := rfl
theorem LIMv : LIM = 1099511627776 := rfl
theorem tot_snoc (m : List S62) (x : S62) : tot (m ++ [x]) = tot m + 1 + sz62 x := by
  unfold tot sz62
  simp
  omega
theorem tot_snoc2 (m : List S62) (x z : S62) : tot (m ++ [x, z]) = tot m + 2 + sz62 x + sz62 z := by
  rw [show m ++ [x, z] = (m ++ [x]) ++ [z] by simp, tot_snoc, tot_snoc]
  omega
end Go.Proofs.Ytfojpobblebigaa.Pure
