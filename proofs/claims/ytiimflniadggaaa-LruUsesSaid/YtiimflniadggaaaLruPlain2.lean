/- What the printed functions of the lists and orders come to: Made, In, All, Same, Without, and the two checks. -/
import Derived.Test.YtiimflniadggaaaLruPlain
import Derived.Test.YtiimflniadggaaaPLrux1
import Derived.Test.YtiimflniadggaaaPLrux2
import Derived.Test.YtiimflniadggaaaPLrux5
import Derived.Test.YtiimflniadggaaaPLrux7
import Derived.Test.YtiimflniadggaaaPLrux13
import Derived.Test.YtiimflniadggaaaPLrux14
import Derived.Test.YtiimflniadggaaaPLrux15
import Derived.Test.YtiimflniadggaaaPLrux16
namespace Go.Proofs.Ytiimflniadggaaa.LruPlain
open Go.RowKit Go.Proofs.Ytiimflniadggaaa.PLru Go.Proofs.YtiimflniadggaaaW.PrintWords Go.Proofs.YtiimflniadggaaaW.PrintLast

theorem rd_mid (A B : List Int) (y : Int) : rd (A ++ y :: B) (A.length : Int) = y := by
  unfold rd; simp [List.getD_eq_getElem?_getD]
theorem rd_last {A : List Int} (B : List Int) (h : A ≠ []) (c : Int) : rd (A ++ B) ((A.length : Int) - 1) = lst c A := by
  induction A generalizing c with
  | nil => exact absurd rfl h
  | cons y l ih =>
    cases l with
    | nil => simp [rd, lst]
    | cons z l =>
      have h2 := ih (by simp) y
      rw [lst, ← h2]
      unfold rd
      have e1 : (((y :: z :: l).length : Nat) : Int) - 1 = ((l.length + 1 : Nat) : Int) := by simp
      have e2 : (((z :: l).length : Nat) : Int) - 1 = ((l.length : Nat) : Int) := by simp
      rw [e1, e2]
      simp [List.getD_eq_getElem?_getD]

/-! ### Made -/
theorem made_l1 {n : Nat} (hn : n ≤ 1000) {L : List Int} (hL : Ok n L) : ∀ B A : List Int, L = A ++ B →
    Ev (fun k => spigotref15_Made.l1 k L (A.length : Int) (PV n A) (NX n A) (hd (-1) A) (lst (-1) A)) (PV n L, NX n L, hd (-1) L, lst (-1) L) := by
  intro B
  induction B with
  | nil =>
    intro A e
    rw [List.append_nil] at e
    subst e
    refine Ev.step (f := fun _ => some (PV n L, NX n L, hd (-1) L, lst (-1) L)) (fun k => ?_) (Ev.now _)
    rw [spigotref15_Made.l1, if_neg (by omega)]
  | cons y B ih =>
    intro A e
    have h1 := ih (A ++ [y]) (by rw [e]; simp)
    have e2 : L = (A ++ [y]) ++ B := by rw [e]; simp
    have hA1 : Ok n (A ++ [y]) := by rw [e2] at hL; exact hL.app.1
    have hlen := hL.len
    have hll : L.length = A.length + 1 + B.length := by rw [e]; simp; omega
    have hy : rd L (A.length : Int) = y := by rw [e]; exact rd_mid _ _ _
    have hyr := hA1.2 y (by simp)
    refine Ev.step (fun k => ?_) h1
    rw [spigotref15_Made.l1, if_pos (by omega), hy]
    by_cases c : A = []
    · subst c
      rw [if_pos (by simp), if_pos (by simp), w0 (by simp) (by simp)]
      rw [List.nil_append, PV_one, NX_one]
      rfl
    · have hp : 0 < A.length := List.length_pos_iff.2 c
      have hl : rd L ((A.length : Int) - 1) = lst (-1) A := by rw [e]; exact rd_last _ c _
      have hlr := hA1.app.1.2 _ (lst_mem c (-1))
      rw [if_neg (by omega), if_pos (by omega), w0 (i := (A.length : Int) - 1) (by omega) (by omega), hl, if_pos (by omega), if_pos (by omega), if_pos hyr.1, PV_len, if_pos hyr.2, if_pos hlr.1, NX_len, if_pos hlr.2, w0 (by omega) (by omega), ← PV_snoc hA1, ← NX_snoc hA1 c, lst_app, hd_app]
      have e4 : (A.length : Int) + 1 = ((A ++ [y]).length : Int) := by simp
      have e5 : hd (-1) A = hd (hd (-1) [y]) A := by cases A with
        | nil => exact absurd rfl c
        | cons => rfl
      rw [e4, e5]; rfl
theorem made_l0 {n : Nat} (hn : n ≤ 1000) {L : List Int} {h t : Int} {r : List Int × List Int × Int × Int} (hr : Ev (fun k => spigotref15_Made.l1 k L 0 (List.replicate n (-1)) (List.replicate n (-1)) h t) r) :
    ∀ m j : Nat, j + m = n → Ev (fun k => spigotref15_Made.l0 k n L (j : Int) (List.replicate j (-1)) (List.replicate j (-1)) h t) r := by
  intro m
  induction m with
  | zero =>
    intro j e
    obtain rfl : j = n := by omega
    refine Ev.step (fun k => ?_) hr
    rw [spigotref15_Made.l0, if_neg (by omega)]
  | succ m ih =>
    intro j e
    refine Ev.step (fun k => ?_) (ih (j + 1) (by omega))
    rw [spigotref15_Made.l0, if_pos (by omega)]
    simp only [Option.bind_some]
    rw [if_pos (by simp; omega), if_pos (by simp; omega), w0 (by omega) (by omega), ← List.replicate_succ']
    rfl
theorem made_ev {n : Nat} (hn : n ≤ 1000) {L : List Int} (hL : Ok n L) : Ev (fun k => spigotref15_Made.f k n L) (PV n L, NX n L, hd (-1) L, lst (-1) L) := by
  have h1 := made_l1 hn hL L [] rfl
  have e1 : PV n [] = List.replicate n (-1) := row_nil n
  have e2 : NX n [] = List.replicate n (-1) := row_nil n
  rw [e1, e2] at h1
  exact made_l0 hn h1 n 0 (by omega)

/-! ### In, SameInts, Same, Without -/
theorem in_l0 {l : List Int} {x : Int} (hl : l.length ≤ 100000) : ∀ B A : List Int, l = A ++ B → Ev (fun k => spigotref13_In.l0 k l x (A.length : Int)) (decide (x ∈ B)) := by
  intro B
  induction B with
  | nil =>
    intro A e
    rw [List.append_nil] at e
    subst e
    refine Ev.step (f := fun _ => some (decide (x ∈ ([] : List Int)))) (fun k => ?_) (Ev.now _)
    rw [spigotref13_In.l0, if_neg (by omega)]; simp
  | cons y B ih =>
    intro A e
    have h1 := ih (A ++ [y]) (by rw [e]; simp)
    have hll : l.length = A.length + 1 + B.length := by rw [e]; simp; omega
    have hy : rd l (A.length : Int) = y := by rw [e]; exact rd_mid _ _ _
    by_cases c : y = x
    · refine Ev.step (f := fun _ => some (decide (x ∈ y :: B))) (fun k => ?_) (Ev.now _)
      rw [spigotref13_In.l0, if_pos (by omega), if_pos (by omega), hy, if_pos c]; simp [c]
    · have e2 : decide (x ∈ y :: B) = decide (x ∈ B) := by simp [Ne.symm c]
      rw [e2]
      refine Ev.step (fun k => ?_) h1
      rw [spigotref13_In.l0, if_pos (by omega), if_pos (by omega), hy, if_neg c, w0 (by omega) (by omega)]
      have e4 : (A.length : Int) + 1 = ((A ++ [y]).length : Int) := by simp
      rw [e4]
theorem in_ev {l : List Int} (hl : l.length ≤ 100000) (x : Int) : Ev (fun k => spigotref13_In.f k l x) (decide (x ∈ l)) := in_l0 hl l [] rfl

theorem same_l0 {a b : List Int} (hl : a.length ≤ 100000) (he : a.length = b.length) : ∀ B C A : List Int, a = A ++ B → b = A ++ C → Ev (fun k => spigotref15_SameInts.l0 k a b (A.length : Int)) (decide (B = C)) := by
  intro B
  induction B with
  | nil =>
    intro C A e f
    have hC : C = [] := by
      have := congrArg List.length e; have := congrArg List.length f
      simp at *
      exact List.eq_nil_of_length_eq_zero (by omega)
    subst hC
    refine Ev.step (f := fun _ => some (decide (([] : List Int) = []))) (fun k => ?_) (Ev.now _)
    have := congrArg List.length e
    simp at this
    rw [spigotref15_SameInts.l0, if_neg (by omega)]; simp
  | cons y B ih =>
    intro C A e f
    cases C with
    | nil =>
      have := congrArg List.length e; have := congrArg List.length f
      simp at *
      omega
    | cons z C =>
      have l1 : a.length = A.length + 1 + B.length := by rw [e]; simp; omega
      have l2 : b.length = A.length + 1 + C.length := by rw [f]; simp; omega
      have hy : rd a (A.length : Int) = y := by rw [e]; exact rd_mid _ _ _
      have hz : rd b (A.length : Int) = z := by rw [f]; exact rd_mid _ _ _
      by_cases c : y = z
      · subst c
        have e2 : decide (y :: B = y :: C) = decide (B = C) := by simp
        rw [e2]
        refine Ev.step (fun k => ?_) (ih C (A ++ [y]) (by rw [e]; simp) (by rw [f]; simp))
        rw [spigotref15_SameInts.l0, if_pos (by omega), if_pos (by omega), if_pos (by omega), hy, hz, if_pos rfl, w0 (by omega) (by omega)]
        have e4 : (A.length : Int) + 1 = ((A ++ [y]).length : Int) := by simp
        rw [e4]
      · refine Ev.step (f := fun _ => some (decide (y :: B = z :: C))) (fun k => ?_) (Ev.now _)
        rw [spigotref15_SameInts.l0, if_pos (by omega), if_pos (by omega), if_pos (by omega), hy, hz, if_neg c]; simp [c]
theorem ints_ev {a b : List Int} (hl : a.length ≤ 100000) : Ev (fun k => spigotref15_SameInts.f k a b) (decide (a = b)) := by
  by_cases e : a.length = b.length
  · refine Ev.congr (fun k => ?_) (same_l0 hl e a b [] rfl rfl)
    unfold spigotref15_SameInts.f
    rw [if_pos (by omega)]; rfl
  · refine Ev.congr (f := fun _ => some (decide (a = b))) (fun k => ?_) (Ev.now _)
    unfold spigotref15_SameInts.f
    rw [if_neg (by omega), decide_eq_false (fun h => e (by rw [h]))]
theorem same_ev {P N P' N' : List Int} {h t h' t' : Int} (l1 : P.length ≤ 100000) (l2 : N.length ≤ 100000) : Ev (fun k => spigotref15_Same.f k P N h t P' N' h' t') (decide (P = P' ∧ N = N' ∧ h = h' ∧ t = t')) := by
  obtain ⟨K1, h1⟩ := Ev.get (ints_ev (b := P') l1)
  obtain ⟨K2, h2⟩ := Ev.get (ints_ev (b := N') l2)
  refine ⟨K1 + K2, fun k hk => ?_⟩
  dsimp only
  unfold spigotref15_Same.f
  rw [h1 k (by omega), Option.bind_some, h2 k (by omega)]
  by_cases c1 : P = P' <;> by_cases c2 : N = N' <;> by_cases c3 : h = h' <;> by_cases c4 : t = t' <;> simp [c1, c2, c3, c4]

/-- A list without a number. -/
def wo (p : Int) (L : List Int) : List Int := L.filter (fun x => decide (x ≠ p))
theorem wo_len (p : Int) (L : List Int) : (wo p L).length ≤ L.length := List.length_filter_le _ _
theorem without_l0 {l : List Int} {p : Int} (hl : l.length ≤ 100000) : ∀ B A : List Int, l = A ++ B → Ev (fun k => spigotref15_Without.l0 k l p (wo p A) (A.length : Int)) (wo p l) := by
  intro B
  induction B with
  | nil =>
    intro A e
    rw [List.append_nil] at e
    subst e
    refine Ev.step (f := fun _ => some (wo p l)) (fun k => ?_) (Ev.now _)
    rw [spigotref15_Without.l0, if_neg (by omega)]
  | cons y B ih =>
    intro A e
    have h1 := ih (A ++ [y]) (by rw [e]; simp)
    have hll : l.length = A.length + 1 + B.length := by rw [e]; simp; omega
    have hy : rd l (A.length : Int) = y := by rw [e]; exact rd_mid _ _ _
    have hw := wo_len p A
    refine Ev.step (fun k => ?_) h1
    have e4 : (A.length : Int) + 1 = ((A ++ [y]).length : Int) := by simp
    rw [spigotref15_Without.l0, if_pos (by omega), if_pos (by omega), hy, w0 (by omega) (by omega), e4]
    by_cases c : y = p
    · rw [if_pos c]; simp [wo, c]
    · rw [if_neg c, if_pos (by omega)]; simp [wo, c]
theorem without_ev {l : List Int} (hl : l.length ≤ 100000) (p : Int) : Ev (fun k => spigotref15_Without.f k l p) (wo p l) := without_l0 hl l [] rfl
theorem wo_out {p : Int} {L : List Int} (h : p ∉ L) : wo p L = L := List.filter_eq_self.2 fun x hx => decide_eq_true (fun e => h (by rw [← e]; exact hx))
theorem wo_mid {p : Int} {A B : List Int} (h : (A ++ p :: B).Nodup) : wo p (A ++ p :: B) = A ++ B := by
  obtain ⟨_, b, c⟩ := List.nodup_append.1 h
  have hA : p ∉ A := fun m => c p m p List.mem_cons_self rfl
  have hB : p ∉ B := (List.nodup_cons.1 b).1
  have e1 := wo_out hA; have e2 := wo_out hB
  unfold wo at *
  rw [List.filter_append, List.filter_cons_of_neg (by simp), e1, e2]

/-! ### All and the reference's Check -/
theorem all_l0 {P N : List Int} {h t : Int} (hn : N.length ≤ 1000) : ∀ (m : Nat) (acc : List Int) (i : Int), acc.length + m = N.length + 1 → Ok N.length acc →
    ∃ r, Ev (fun k => spigotref15_All.l0 k acc i P N h t) r ∧ ((∃ B, path N i B ∧ Ok N.length (acc ++ B) ∧ r = (acc ++ B, true)) ∨ (r = ([], false) ∧ ∀ B, path N i B → ¬ Ok N.length (acc ++ B))) := by
  intro m
  induction m with
  | zero => intro acc i e ho; have := ho.len; omega
  | succ m ih =>
    intro acc i e ho
    by_cases c1 : i = -1
    · refine ⟨(acc, true), ?_, .inl ⟨[], c1, by simpa using ho, by simp⟩⟩
      refine Ev.step (f := fun _ => some (acc, true)) (fun k => ?_) (Ev.now _)
      rw [spigotref15_All.l0, if_pos c1]
    by_cases c2 : 0 ≤ i ∧ i < N.length
    · by_cases c3 : i ∈ acc
      · refine ⟨([], false), ?_, .inr ⟨rfl, fun B hp hb => ?_⟩⟩
        · obtain ⟨K, hK⟩ := Ev.get (in_ev (l := acc) (by have := ho.len; omega) i)
          refine Ev.step (f := fun k => if K ≤ k then some ([], false) else spigotref15_All.l0 (k + 1) acc i P N h t) (fun k => ?_) ⟨K, fun k hk => if_pos hk⟩
          by_cases q : K ≤ k
          · rw [if_pos q, spigotref15_All.l0, if_neg c1, if_neg (by omega), if_neg (by omega), hK k q, Option.bind_some, if_pos (by simpa using c3)]
          · rw [if_neg q]
        · cases B with
          | nil => exact c1 hp
          | cons y l =>
            obtain ⟨_, _, hd_⟩ := hb.app
            exact hd_ i c3 (by rw [hp.1]; exact List.mem_cons_self)
      · by_cases c4 : Ok N.length (acc ++ [i])
        · obtain ⟨r, hr, hh⟩ := ih (acc ++ [i]) (rd N i) (by simp; omega) c4
          refine ⟨r, ?_, ?_⟩
          · obtain ⟨K, hK⟩ := Ev.get (in_ev (l := acc) (by have := ho.len; omega) i)
            obtain ⟨K2, hK2⟩ := Ev.get hr
            refine ⟨K + K2 + 1, fun k hk => ?_⟩
            obtain ⟨k, rfl⟩ : ∃ j, k = j + 1 := ⟨k - 1, by omega⟩
            dsimp only
            rw [spigotref15_All.l0, if_neg c1, if_neg (by omega), if_neg (by omega), hK k (by omega), Option.bind_some, if_neg (by simpa using c3), if_pos (by have := ho.len; omega), if_pos c2.1, if_pos c2.2, hK2 k (by omega)]
          · rcases hh with ⟨B, h1, h2, h3⟩ | ⟨h1, h2⟩
            · exact .inl ⟨i :: B, ⟨rfl, c1, h1⟩, by simpa using h2, by simpa using h3⟩
            · refine .inr ⟨h1, fun B hp hb => ?_⟩
              cases B with
              | nil => exact c1 hp
              | cons y l =>
                obtain ⟨h5, h6, h7⟩ := hp
                subst h5
                exact h2 l h7 (by simpa using hb)
        · exact absurd ⟨by
            rw [List.nodup_append]
            exact ⟨ho.1, by simp, fun a ha b hb => by rw [List.mem_singleton.1 hb]; exact fun e => c3 (by rw [← e]; exact ha)⟩, fun x hx => by
            rcases List.mem_append.1 hx with m | m
            · exact ho.2 x m
            · rw [List.mem_singleton.1 m]; exact c2⟩ c4
    · refine ⟨([], false), ?_, .inr ⟨rfl, fun B hp hb => ?_⟩⟩
      · refine Ev.step (f := fun _ => some ([], false)) (fun k => ?_) (Ev.now _)
        rw [spigotref15_All.l0, if_neg c1]
        by_cases q : i < 0
        · rw [if_pos q]
        · rw [if_neg q, if_pos (by omega)]
      · cases B with
        | nil => exact c1 hp
        | cons y l => exact c2 (by rw [hp.1]; exact hb.2 y (by simp))
theorem all_ev {P N : List Int} {h t : Int} (hn : N.length ≤ 1000) :
    ∃ r, Ev (fun k => spigotref15_All.f k P N h t) r ∧ ((∃ B, path N h B ∧ Ok N.length B ∧ r = (B, true)) ∨ (r = ([], false) ∧ ∀ B, path N h B → ¬ Ok N.length B)) :=
  all_l0 hn (N.length + 1) [] h (by simp) (Ok.nil _)

/-- A valid order. -/
def Val (P N : List Int) (h t : Int) : Prop := 1 ≤ P.length ∧ P.length ≤ 16 ∧ ∃ L, Ok P.length L ∧ P = PV P.length L ∧ N = NX P.length L ∧ h = hd (-1) L ∧ t = lst (-1) L
theorem Val.made {n : Nat} {L : List Int} (h1 : 1 ≤ n) (h2 : n ≤ 16) (hL : Ok n L) : Val (PV n L) (NX n L) (hd (-1) L) (lst (-1) L) := by
  unfold Val; rw [PV_len]; exact ⟨h1, h2, L, hL, rfl, rfl, rfl, rfl⟩
theorem all_made {n : Nat} {L : List Int} (hn : n ≤ 1000) (hL : Ok n L) (P : List Int) (t : Int) : Ev (fun k => spigotref15_All.f k P (NX n L) (hd (-1) L) t) (L, true) := by
  have hp : path (NX n L) (hd (-1) L) L := path_NX (A := []) hL
  obtain ⟨r, hr, hh⟩ := all_ev (P := P) (N := NX n L) (h := hd (-1) L) (t := t) (by rw [NX_len]; exact hn)
  rcases hh with ⟨B, h1, h2, h3⟩ | ⟨h1, h2⟩
  · rw [h3, path_one h1 hp] at hr; exact hr
  · exact absurd (by rw [NX_len]; exact hL) (h2 L hp)

theorem rcheck_ev (P N : List Int) (h t : Int) (hP : P.length ≤ 100) (hN : N.length ≤ 100) : ∃ r, Ev (fun k => spigotref15_Check.f k P N h t) r ∧ (r = 0 ∨ r = 8) ∧ (r = 0 ↔ Val P N h t) := by
  by_cases c : 1 ≤ P.length ∧ P.length ≤ 16 ∧ N.length = P.length
  · obtain ⟨c1, c2, c3⟩ := c
    obtain ⟨r, hr, hh⟩ := all_ev (P := P) (N := N) (h := h) (t := t) (by omega)
    obtain ⟨K1, hK1⟩ := Ev.get hr
    rcases hh with ⟨B, h1, h2, h3⟩ | ⟨h1, h2⟩
    · rw [c3] at h2
      obtain ⟨K2, hK2⟩ := Ev.get (made_ev (n := P.length) (by omega) h2)
      obtain ⟨K3, hK3⟩ := Ev.get (same_ev (P := P) (N := N) (h := h) (t := t) (P' := PV P.length B) (N' := NX P.length B) (h' := hd (-1) B) (t' := lst (-1) B) (by omega) (by omega))
      refine ⟨if P = PV P.length B ∧ N = NX P.length B ∧ h = hd (-1) B ∧ t = lst (-1) B then 0 else 8, ⟨K1 + K2 + K3 + 1, fun k hk => ?_⟩, ?_, ?_⟩
      · obtain ⟨k, rfl⟩ : ∃ j, k = j + 1 := ⟨k - 1, by omega⟩
        dsimp only
        unfold spigotref15_Check.f
        rw [if_neg (by omega), if_neg (by omega), spigotref15_Check.j0, if_neg (by simp; omega), hK1 k (by omega), h3, Option.bind_some, if_pos rfl, hK2 k (by omega), Option.bind_some, hK3 k (by omega), Option.bind_some]
        by_cases q : P = PV P.length B ∧ N = NX P.length B ∧ h = hd (-1) B ∧ t = lst (-1) B
        · rw [if_pos q, if_pos (decide_eq_true q)]
        · rw [if_neg q, if_neg (by rw [decide_eq_false q]; simp)]
      · split; exact .inl rfl; exact .inr rfl
      · constructor
        · intro e
          by_cases q : P = PV P.length B ∧ N = NX P.length B ∧ h = hd (-1) B ∧ t = lst (-1) B
          · exact ⟨c1, c2, B, h2, q⟩
          · rw [if_neg q] at e; omega
        · rintro ⟨_, _, L, hL, q⟩
          have hp : path N h L := by
            rw [q.2.1, q.2.2.1]; exact path_NX (A := []) hL
          rw [path_one h1 hp, if_pos q]
    · refine ⟨8, ⟨K1 + 1, fun k hk => ?_⟩, .inr rfl, ⟨fun e => by omega, ?_⟩⟩
      · obtain ⟨k, rfl⟩ : ∃ j, k = j + 1 := ⟨k - 1, by omega⟩
        dsimp only
        unfold spigotref15_Check.f
        rw [if_neg (by omega), if_neg (by omega), spigotref15_Check.j0, if_neg (by simp; omega), hK1 k (by omega), h1, Option.bind_some, if_neg (by simp)]
      · rintro ⟨_, _, L, hL, q⟩
        have hp : path N h L := by
          rw [q.2.1, q.2.2.1]; exact path_NX (A := []) hL
        exact absurd (by rw [c3]; exact hL) (h2 L hp)
  · refine ⟨8, ⟨1, fun k hk => ?_⟩, .inr rfl, ⟨fun e => by omega, ?_⟩⟩
    · obtain ⟨k, rfl⟩ : ∃ j, k = j + 1 := ⟨k - 1, by omega⟩
      dsimp only
      unfold spigotref15_Check.f
      by_cases q1 : (P.length : Int) < 1
      · rw [if_pos q1, spigotref15_Check.j0, if_pos rfl]
      · rw [if_neg q1]
        by_cases q2 : (P.length : Int) > 16
        · rw [if_pos q2, spigotref15_Check.j0, if_pos rfl]
        · rw [if_neg q2, spigotref15_Check.j0, if_pos (by simp; omega)]
    · rintro ⟨h1, h2, L, hL, e1, e2, _⟩
      refine absurd ⟨h1, h2, ?_⟩ c
      rw [e2, NX_len]

end Go.Proofs.Ytiimflniadggaaa.LruPlain
