/- PLAIN: the error of an array's description. -/
import Derived.RowKit
namespace Go.Proofs.Ytlnikhijfamakaa.ArrayPlain
def arrLeast (k : Int) : Int := if k = 0 then 2 else if k = 1 then 2 else if k = 2 then 3 else 0
def arrErrOf (k m c : Int) (l : Bool) : Int := if arrLeast k = 0 then 1 else if m < arrLeast k then 4 else if 8 < m then 4 else if c ≤ 0 then 4 else if 16 < c then 4 else if l = true then (if k < 2 then 3 else 0) else 0
end Go.Proofs.Ytlnikhijfamakaa.ArrayPlain
