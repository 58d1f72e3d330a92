/-
  A slice of the call's own that is written no more: it becomes a list. Generic: over any program.
-/
import Derived.Test.YtjmfaebimgnblaaAiO
namespace Go.Proofs.Ytjmfaebimgnblaa
open Go.RowKit
set_option linter.unusedVariables false
set_option linter.unusedSimpArgs false

theorem Ev.freeze {C : Ctx} {st : St} {Q : Exit → St → Prop} {c : Code} (id : Nat) {st' : St} (h : freezeS id st = some st') (he : Ev C c Q st') : Ev C c Q st := fun a w S μ hR => by
  obtain ⟨S', hR'⟩ := hR.freeze h
  exact he a w S' μ hR'

end Go.Proofs.Ytjmfaebimgnblaa
