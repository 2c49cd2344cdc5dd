/- Conformance. -/
import Derived.Test.YtgpknoakkkkapaaMtD
import Derived.Test.YtgpknoakkkkapaaFitW
namespace Go.Proofs.Ytgpknoakkkkapaa
set_option linter.unusedSimpArgs false
set_option linter.unusedVariables false
end Go.Proofs.Ytgpknoakkkkapaa
