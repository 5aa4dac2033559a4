/- What one answer tells of another. -/
import Derived.Test.YtkihjakbbcajbaaGreatPM33
namespace Go.Proofs.YtkihjakbbcajbaaGreat.PM
def Le {α : Type} (a b : Option α) : Prop := ∀ y, a = some y → b = some y
theorem Le.refl {α : Type} (a : Option α) : Le a a := fun _ h => h
theorem Le.none {α : Type} (a : Option α) : Le Option.none a := fun _ h => by cases h
theorem Le.cond {α : Type} {c : Bool} {x x' y y' : Option α} (h1 : Le x x') (h2 : Le y y') : Le (bif c then x else y) (bif c then x' else y') := by
  cases c with
  | true => exact h1
  | false => exact h2
theorem Le.bind {α β : Type} {a a' : Option α} {f g : α → Option β} (h1 : Le a a') (h2 : ∀ x, Le (f x) (g x)) : Le (a.bind f) (a'.bind g) := fun y h => by
  cases ha : a with
  | none => rw [ha] at h; cases h
  | some x =>
    rw [ha] at h
    rw [h1 x ha]
    exact h2 x y h
end Go.Proofs.YtkihjakbbcajbaaGreat.PM
