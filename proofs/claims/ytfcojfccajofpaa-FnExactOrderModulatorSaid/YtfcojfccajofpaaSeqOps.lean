/- The contracts of AddSequences, SubSequences and ScaleSequence, of the program and of the reference. -/
import Derived.Test.YtfcojfccajofpaaPureS
namespace Go.Proofs.Ytfcojfccajofpaa
open Go.RowKit

end Go.Proofs.Ytfcojfccajofpaa
