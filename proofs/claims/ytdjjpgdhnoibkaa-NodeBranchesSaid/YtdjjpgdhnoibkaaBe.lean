/- A number's bytes, the highest first. -/
import Derived.Test.YtdjjpgdhnoibkaaWWords
namespace Go.Proofs.Ytdjjpgdhnoibkaa.My
end Go.Proofs.Ytdjjpgdhnoibkaa.My
