/- The pure statement of ShareTells. -/
import Derived.Test.YteeceppbnkkfpaaPSharex31
import Derived.Test.YteeceppbnkkfpaaSharePlain4
namespace Go.Proofs.Yteeceppbnkkfpaa.Pure
open Go.RowKit Go.Proofs.Yteeceppbnkkfpaa.PShare Go.Proofs.YteeceppbnkkfpaaW.PrintWords Go.Proofs.YteeceppbnkkfpaaW.PrintLast Go.Proofs.Yteeceppbnkkfpaa.SharePlain

theorem fair_ev {l : List D} {S : Int} {w : List Int} {e : Int} (h1 : Ev (fun k => share_Split.f k l S) (w, e)) (h2 : Ev (fun k => spigotref36_Split.f k l S) (w, e)) {s : List Int} (hs : s.length ≤ 100000) :
    ∃ y, Ev (fun k => share_Fair.f k l S s) y ∧ Ev (fun k => spigotref36_Fair.f k l S s) y := by
  obtain ⟨K1, k1⟩ := Ev.get h1
  obtain ⟨K2, k2⟩ := Ev.get h2
  obtain ⟨_, q2, q3⟩ := same_ev (a := s) (b := w) hs
  obtain ⟨K3, k3⟩ := Ev.get q2
  obtain ⟨K4, k4⟩ := Ev.get q3
  by_cases c : e = 0
  · by_cases d : s.length = l.length
    · refine ⟨(decide (s = w), 0), ⟨K1 + K4, fun k hk => ?_⟩, ⟨K2 + K3, fun k hk => ?_⟩⟩
      · dsimp only; unfold share_Fair.f; rw [k1 k (by omega), Option.bind_some, if_pos c, if_pos (by omega), k4 k (by omega), Option.bind_some]
      · dsimp only; unfold spigotref36_Fair.f; rw [k2 k (by omega), Option.bind_some, if_pos c, if_pos (by omega), k3 k (by omega), Option.bind_some]
    · refine ⟨(false, 2), ⟨K1, fun k hk => ?_⟩, ⟨K2, fun k hk => ?_⟩⟩
      · dsimp only; unfold share_Fair.f; rw [k1 k (by omega), Option.bind_some, if_pos c, if_neg (by omega)]
      · dsimp only; unfold spigotref36_Fair.f; rw [k2 k (by omega), Option.bind_some, if_pos c, if_neg (by omega)]
  · refine ⟨(false, e), ⟨K1, fun k hk => ?_⟩, ⟨K2, fun k hk => ?_⟩⟩
    · dsimp only; unfold share_Fair.f; rw [k1 k (by omega), Option.bind_some, if_neg c]
    · dsimp only; unfold spigotref36_Fair.f; rw [k2 k (by omega), Option.bind_some, if_neg c]

theorem tells_l0 {l : List D} (hl : l.length ≤ 20) {e : Int} {s : List Int} {e2 : Int} {w : List Int} {e3 : Int} {y : Bool} {z a b : Int} (hs : s.length ≤ 100000) (hw : w.length ≤ 100000) : ∀ m j : Nat, j + m = l.length →
    Ev (fun k => spigotlaw36_ShareTells.l0 k l l e e s e2 s e2 w e3 w e3 y z y z (j : Int) a b a b) true := by
  intro m
  induction m with
  | zero =>
    intro j q
    obtain ⟨r, _, h1, h2⟩ := checks l
    obtain ⟨K1, k1⟩ := Ev.get h1
    obtain ⟨K2, k2⟩ := Ev.get h2
    obtain ⟨q1, _, _⟩ := same_ev (a := s) (b := s) hs
    obtain ⟨_, q2, _⟩ := same_ev (a := w) (b := w) hw
    obtain ⟨K3, k3⟩ := Ev.get q1
    obtain ⟨K4, k4⟩ := Ev.get q2
    refine ⟨K1 + K2 + K3 + K4 + 1, fun k hk => ?_⟩
    obtain ⟨k, rfl⟩ : ∃ j, k = j + 1 := ⟨k - 1, by omega⟩
    dsimp only
    rw [spigotlaw36_ShareTells.l0, if_neg (by omega), k1 k (by omega), Option.bind_some, k2 k (by omega), Option.bind_some, if_pos rfl, if_pos (by simp), if_pos rfl, k3 k (by omega), Option.bind_some, if_pos (by simp), if_pos rfl, k4 k (by omega), Option.bind_some, if_pos (by simp), if_pos rfl, if_pos (by simp)]
    simp
  | succ m ih =>
    intro j q
    refine Ev.step (fun k => ?_) (ih (j + 1) (by omega))
    rw [spigotlaw36_ShareTells.l0, if_pos (by omega), if_pos (by omega), if_pos (by omega), if_neg (by simp), w0 (by omega) (by omega)]
    rfl

theorem ShareTells : spigotlaw36_ShareTells.Pure := by
  intro l S s _ _ _
  by_cases g1 : l.length > 20
  · exact ⟨0, by unfold spigotlaw36_ShareTells.f; rw [if_pos (by omega)]⟩
  by_cases g2 : s.length > 20
  · exact ⟨0, by unfold spigotlaw36_ShareTells.f; rw [if_neg (by omega), if_pos (by omega)]⟩
  have main : ∃ (a b e : Int) (i : List Int) (e2 : Int) (w : List Int) (e3 : Int), i.length ≤ 100000 ∧ w.length ≤ 100000 ∧ Ev (fun k => share_Level.f k l S) (a, b, e) ∧ Ev (fun k => spigotref36_Level.f k l S) (a, b, e) ∧
      Ev (fun k => share_Short.f k l S) (i, e2) ∧ Ev (fun k => spigotref36_Short.f k l S) (i, e2) ∧ Ev (fun k => share_Split.f k l S) (w, e3) ∧ Ev (fun k => spigotref36_Split.f k l S) (w, e3) := by
    by_cases h : SharePlain.Ask l S
    · obtain ⟨a, b, ok, _, h1, h2, h3, h4, h5, h6⟩ := all_of h
      have hl := h.1
      have il := idxs_len 0 (Zs ok a b l)
      have zl : (Zs ok a b l).length = l.length := by simp [Zs]
      have sl := shr_len ok a b S l
      exact ⟨_, _, _, _, _, _, _, by omega, by omega, h1, h2, h3, h4, h5, h6⟩
    · obtain ⟨r, _, h1, h2, h3, h4, h5, h6⟩ := none_of h
      exact ⟨_, _, _, _, _, _, _, by simp, by simp, h1, h2, h3, h4, h5, h6⟩
  obtain ⟨a, b, e, i, e2, w, e3, li, lw, h1, h2, h3, h4, h5, h6⟩ := main
  obtain ⟨⟨y, z⟩, h7, h8⟩ := fair_ev h5 h6 (s := s) (by omega)
  obtain ⟨K1, k1⟩ := Ev.get h1
  obtain ⟨K2, k2⟩ := Ev.get h2
  obtain ⟨K3, k3⟩ := Ev.get h3
  obtain ⟨K4, k4⟩ := Ev.get h4
  obtain ⟨K5, k5⟩ := Ev.get h5
  obtain ⟨K6, k6⟩ := Ev.get h6
  obtain ⟨K7, k7⟩ := Ev.get h7
  obtain ⟨K8, k8⟩ := Ev.get h8
  obtain ⟨K9, k9⟩ := Ev.get (tells_l0 (l := l) (by omega) (e := e) (s := i) (e2 := e2) (w := w) (e3 := e3) (y := y) (z := z) (a := a) (b := b) li lw l.length 0 (by omega))
  refine ⟨K1 + K2 + K3 + K4 + K5 + K6 + K7 + K8 + K9, ?_⟩
  unfold spigotlaw36_ShareTells.f
  rw [if_neg (by omega), if_neg (by omega), Option.bind_some, if_pos (by simp; omega), k1 _ (by omega), Option.bind_some, k2 _ (by omega), Option.bind_some, k3 _ (by omega), Option.bind_some, k4 _ (by omega), Option.bind_some, k5 _ (by omega), Option.bind_some, k6 _ (by omega), Option.bind_some, k7 _ (by omega), Option.bind_some, k8 _ (by omega), Option.bind_some, List.nil_append]
  exact k9 _ (by omega)

end Go.Proofs.Yteeceppbnkkfpaa.Pure
