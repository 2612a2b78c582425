/- How a cycle begins: the document's answer. -/
import Derived.Test.YthpmfghgoabnhaaGreatW15
set_option linter.all false
namespace Go.Proofs.YthpmfghgoabnhaaGreat
open Go.Abs Go.Proofs
theorem wp_cutE {L : Prog} {c : LCode} {st : St} {Q : Ex → St → Prop} (M : St → Prop) (h : Wp L c st fun e st' => e = .normal ∧ M st') (k : ∀ fr en cnt, M ⟨fr, en, cnt⟩ → Q .normal ⟨fr, en, cnt⟩) : Wp L c st Q :=
  Go.Abs.wp_mono c h fun e s hs => by obtain ⟨rfl, hs⟩ := hs; exact k _ _ _ hs
end Go.Proofs.YthpmfghgoabnhaaGreat
