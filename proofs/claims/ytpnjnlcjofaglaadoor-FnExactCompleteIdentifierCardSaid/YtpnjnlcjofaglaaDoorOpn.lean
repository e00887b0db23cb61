/- What is read at each struct type of this seat's arguments: a value of its kind, within the bounds that every row's reach gives. No conditions. -/
import Derived.Test.YtpnjnlcjofaglaaDoorLOpen
namespace Go.Proofs.YtpnjnlcjofaglaaDoor.P
open Go.RowKit Go.Proofs.YtpnjnlcjofaglaaDoorW.PrintWords Go.Proofs.YtpnjnlcjofaglaaDoorW.PrintLast Go.Proofs.YtpnjnlcjofaglaaDoorW.PrintMore
set_option maxRecDepth 100000

end Go.Proofs.YtpnjnlcjofaglaaDoor.P
