/- A deterministic reading of the model's code: a slice of bools of at most so many, in all its forms. -/
import Derived.Test.YtpkefdoleieloaaCsz33
namespace Go.Dx
set_option linter.unusedVariables false
set_option linter.unusedSimpArgs false
end Go.Dx
