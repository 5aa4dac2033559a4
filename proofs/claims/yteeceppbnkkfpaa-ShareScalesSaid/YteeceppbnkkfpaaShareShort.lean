/- Short words for the walks of the laws: rows told anew over a call. -/
import Derived.Test.YteeceppbnkkfpaaPSharex0
namespace Go.Proofs.Yteeceppbnkkfpaa.PShare
open Go.RowKit Go.Proofs.YteeceppbnkkfpaaW.PrintWords Go.Proofs.YteeceppbnkkfpaaW.PrintLast
theorem Far3 {α : Type} {d : Kd α} {e : Nat} {w : World} {base : Nat} {ok : Nat → Prop} {v : Value} {xs : List α} {g t : Nat} {cells : Array Value} (h : d.R e w base ok v xs)
    (hb : w.heap[g]? = some (.cells cells t (0, 0))) (x y z : Value) (ht : ∀ q, q ∈ e :: d.E → q ≠ t := by decide) :
    d.R e (((w.setCell ⟨g, 0, none⟩ x).setCell ⟨g, 1, none⟩ y).setCell ⟨g, 2, none⟩ z) base ok v xs :=
  Kd.R_mono (Kd.R_far (p := ⟨g, 2, none⟩) (Kd.R_far (p := ⟨g, 1, none⟩) (Kd.R_far (p := ⟨g, 0, none⟩) (Kd.R_types h hb ht) (fun _ hk => hk.2) x) (fun _ hk => hk.2) y) (fun _ hk => hk.2) z) (fun _ h_ => h_.1)
theorem Far4 {α : Type} {d : Kd α} {e : Nat} {w : World} {base : Nat} {ok : Nat → Prop} {v : Value} {xs : List α} {g t : Nat} {cells : Array Value} (h : d.R e w base ok v xs)
    (hb : w.heap[g]? = some (.cells cells t (0, 0))) (x y z u : Value) (ht : ∀ q, q ∈ e :: d.E → q ≠ t := by decide) :
    d.R e ((((w.setCell ⟨g, 0, none⟩ x).setCell ⟨g, 1, none⟩ y).setCell ⟨g, 2, none⟩ z).setCell ⟨g, 3, none⟩ u) base ok v xs :=
  Kd.R_mono (Kd.R_far (p := ⟨g, 3, none⟩) (Kd.R_far (p := ⟨g, 2, none⟩) (Kd.R_far (p := ⟨g, 1, none⟩) (Kd.R_far (p := ⟨g, 0, none⟩) (Kd.R_types h hb ht) (fun _ hk => hk.2) x) (fun _ hk => hk.2) y) (fun _ hk => hk.2) z) (fun _ hk => hk.2) u) (fun _ h_ => h_.1)
theorem Rb1 {α : Type} {d : Kd α} {e : Nat} {w w1 w2 : World} {base : Nat} {ok : Nat → Prop} {v : Value} {xs : List α} (h : Aside0 (d.R e w base ok v xs)) (hb : Below w1.heap.size w1 w2)
    (hs : Below w.heap.size w w1 := by repeat (first | exact Below.refl _ _ | apply below_alloc | apply pw_below_drewN | apply below_drew1)) : Aside0 (d.R e w2 base ok v xs) := Aside0.mk (Kd.R_below (Kd.pR h.out hs) hb)
theorem Re1 {α β : Type} {d : Kd α} {d2 : Kd β} {e e2 : Nat} {w w1 w2 w3 : World} {base : Nat} {ok ok2 : Nat → Prop} {v v2 : Value} {xs : List α} {xs2 : List β} (h : Aside0 (d.R e w base ok v xs)) (ho : d2.R e2 w3 w1.heap.size ok2 v2 xs2) (hb : Below w1.heap.size w1 w2)
    (hs : Below w.heap.size w w1 := by repeat (first | exact Below.refl _ _ | apply below_alloc | apply pw_below_drewN | apply below_drew1)) : Aside0 (d.R e w2 base (fun k => ok k ∧ some k ≠ v2.ownBlock) v xs) := Aside0.mk (Kd.R_elder' (Kd.pR h.out hs) (Kd.R_base ho) hb)
theorem Re2 {α β : Type} {d : Kd α} {d2 : Kd β} {e e2 : Nat} {w w1 w2 w3 : World} {base : Nat} {ok ok2 : Nat → Prop} {v v2 : Value} {xs : List α} {xs2 : List β} (h : d.R e w base ok v xs) (ho : d2.R e2 w3 w1.heap.size ok2 v2 xs2) (hb : Below w1.heap.size w1 w2)
    (hs : Below w.heap.size w w1 := by repeat (first | exact Below.refl _ _ | apply below_alloc | apply pw_below_drewN | apply below_drew1)) : Aside0 (d.R e w2 base (fun k => ok k ∧ some k ≠ v2.ownBlock) v xs) := Aside0.mk (Kd.R_elder' (Kd.pR h hs) (Kd.R_base ho) hb)
theorem Rb5 {α : Type} {d : Kd α} {e : Nat} {w w1 w2 : World} {base : Nat} {ok : Nat → Prop} {v : Value} {xs : List α} (h : d.R e w base ok v xs) (hb : Below w1.heap.size w1 w2)
    (hs : Below w.heap.size w w1 := by repeat (first | exact Below.refl _ _ | apply below_alloc | apply pw_below_drewN | apply below_drew1)) : d.R e w2 base (fun _ => True) v xs := Kd.R_mono (Kd.R_below (Kd.pR h hs) hb) (fun _ _ => trivial)
theorem Re5 {α β : Type} {d : Kd α} {d2 : Kd β} {e e2 : Nat} {w w1 w2 w3 : World} {base : Nat} {ok ok2 : Nat → Prop} {v v2 : Value} {xs : List α} {xs2 : List β} (h : d.R e w base ok v xs) (ho : d2.R e2 w3 w1.heap.size ok2 v2 xs2) (hb : Below w1.heap.size w1 w2)
    (hs : Below w.heap.size w w1 := by repeat (first | exact Below.refl _ _ | apply below_alloc | apply pw_below_drewN | apply below_drew1)) : d.R e w2 base (fun _ => True) v xs := Kd.R_mono (Kd.R_elder' (Kd.pR h hs) (Kd.R_base ho) hb) (fun _ _ => trivial)
end Go.Proofs.Yteeceppbnkkfpaa.PShare
