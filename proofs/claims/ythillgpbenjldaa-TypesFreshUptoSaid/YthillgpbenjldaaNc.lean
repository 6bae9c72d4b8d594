/- Which values are of their types, which limits and tables fit: the words 'Hs', and that the program's and the document's come to them. -/
import Derived.Test.YthillgpbenjldaaNb
namespace Go.Proofs.Ythillgpbenjldaa.LebM
open Go.RowKit Go.Proofs.YthillgpbenjldaaW.PrintWords Go.Proofs.YthillgpbenjldaaW.PrintLast Go.Proofs.YthillgpbenjldaaW.PrintMore Go.Proofs.Ythillgpbenjldaa.P

end Go.Proofs.Ythillgpbenjldaa.LebM
