/- Views where memory stays as it is. -/
import Derived.Test.YtlejgfeoffhjoaaFwLem
namespace Go.Fw
open Go.RowKit
def SlEq (s : Slots) : List (Nat × Value) → Prop
  | [] => True
  | (d, v) :: r => s d = v ∧ SlEq s r
theorem View.slots {L : Nat} {E : Env} {n : Nat} {s : Slots} {h : Heap} : ∀ {l : List (Nat × Value)}, SlEq s l → View L E n s h (layj l) h := fun {l} hs hL base μ w a S => by
  refine ⟨μ, ⟨S.rel, S.base_le, ?_, S.size, S.defers⟩, Tom.refl hL⟩
  induction l with
  | nil => exact fun i => .any _
  | cons p r ih =>
    obtain ⟨d, v⟩ := p
    obtain ⟨h1, h2⟩ := hs
    intro i
    have ih := ih h2
    simp only [layj, upd]
    split
    · rename_i e
      subst e
      rw [← h1]
      exact S.sl i
    · exact ih i
end Go.Fw
