import Derived.Test.YthpmfghgoabnhaaGreatKn
namespace Go.Proofs.YthpmfghgoabnhaaGreat
open Go.Abs Go.Proofs
theorem known_run : pcall L 1000 10 [] = some (.bool true) := by kernel_rfl
end Go.Proofs.YthpmfghgoabnhaaGreat
