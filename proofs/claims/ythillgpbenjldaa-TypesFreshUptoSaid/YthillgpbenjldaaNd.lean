/- Limits, tables' types, globals' types at a place: the words 'Lm', 'Tb', 'Gl'; that the program's and the document's come to them. -/
import Derived.Test.YthillgpbenjldaaNc
namespace Go.Proofs.Ythillgpbenjldaa.LebM
open Go.RowKit Go.Proofs.YthillgpbenjldaaW.PrintWords Go.Proofs.YthillgpbenjldaaW.PrintLast Go.Proofs.YthillgpbenjldaaW.PrintMore Go.Proofs.Ythillgpbenjldaa.P

end Go.Proofs.Ythillgpbenjldaa.LebM
