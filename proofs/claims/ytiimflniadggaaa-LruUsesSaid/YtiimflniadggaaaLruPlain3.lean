/- What the printed functions of the orders come to: New, Check, Touch, Remove, List and Last on both sides. -/
import Derived.Test.YtiimflniadggaaaLruPlain2
import Derived.Test.YtiimflniadggaaaPLrux3
import Derived.Test.YtiimflniadggaaaPLrux4
import Derived.Test.YtiimflniadggaaaPLrux6
import Derived.Test.YtiimflniadggaaaPLrux8
import Derived.Test.YtiimflniadggaaaPLrux9
import Derived.Test.YtiimflniadggaaaPLrux10
import Derived.Test.YtiimflniadggaaaPLrux11
import Derived.Test.YtiimflniadggaaaPLrux17
import Derived.Test.YtiimflniadggaaaPLrux18
import Derived.Test.YtiimflniadggaaaPLrux19
import Derived.Test.YtiimflniadggaaaPLrux20
import Derived.Test.YtiimflniadggaaaPLrux21
namespace Go.Proofs.Ytiimflniadggaaa.LruPlain
open Go.RowKit Go.Proofs.Ytiimflniadggaaa.PLru Go.Proofs.YtiimflniadggaaaW.PrintWords Go.Proofs.YtiimflniadggaaaW.PrintLast

/-! ### Check -/
theorem chk_l1 {n : Nat} (hn : n ≤ 1000) {P N : List Int} {last h t : Int} {M : List Bool} (hM : M.length = n) (hP : P.length = n) (hN : N.length = n) : ∀ m j : Nat, j + m = n →
    ∃ r, Ev (fun k => lru_Check.l1 k last M (M.length : Int) (j : Int) P N h t) r ∧ (r = 0 ∨ r = 8) ∧ (r = 0 ↔ (t = last ∧ ∀ i : Int, (j : Int) ≤ i → i < n → rdOf false M i = false → rd P i = -1 ∧ rd N i = -1)) := by
  intro m
  induction m with
  | zero =>
    intro j e
    refine ⟨if t = last then 0 else 8, ?_, by split; exact .inl rfl; exact .inr rfl, ?_⟩
    · refine Ev.step (f := fun _ => some (if t = last then 0 else 8)) (fun k => ?_) (Ev.now _)
      rw [lru_Check.l1, if_neg (by omega)]
      split <;> rfl
    · by_cases q : t = last
      · rw [if_pos q]; exact ⟨fun _ => ⟨q, fun i _ _ => by omega⟩, fun _ => rfl⟩
      · rw [if_neg q]; exact ⟨fun e => by omega, fun e => absurd e.1 q⟩
  | succ m ih =>
    intro j e
    obtain ⟨r, hr, h1, h2⟩ := ih (j + 1) (by omega)
    have e4 : ((j : Int) + 1) = ((j + 1 : Nat) : Int) := by omega
    by_cases c : rdOf false M (j : Int) = true
    · refine ⟨r, ?_, h1, h2.trans ⟨fun ⟨a, b⟩ => ⟨a, fun i i0 i1 im => b i (by
        rcases Int.lt_or_eq_of_le i0 with q | q
        · omega
        · rw [← q, c] at im; cases im) i1 im⟩, fun ⟨a, b⟩ => ⟨a, fun i i0 => b i (by omega)⟩⟩⟩
      refine Ev.step (fun k => ?_) hr
      rw [lru_Check.l1, if_pos (by omega), if_pos (by omega), if_pos (by omega), if_pos c, w0 (by omega) (by omega), e4]
    · by_cases c2 : rd P (j : Int) = -1 ∧ rd N (j : Int) = -1
      · refine ⟨r, ?_, h1, h2.trans ⟨fun ⟨a, b⟩ => ⟨a, fun i i0 i1 im => by
          rcases Int.lt_or_eq_of_le i0 with q | q
          · exact b i (by omega) i1 im
          · rw [← q]; exact c2⟩, fun ⟨a, b⟩ => ⟨a, fun i i0 => b i (by omega)⟩⟩⟩
        refine Ev.step (fun k => ?_) hr
        rw [lru_Check.l1, if_pos (by omega), if_pos (by omega), if_pos (by omega), if_neg c, if_pos (by omega), if_pos c2.1, if_pos (by omega), if_pos c2.2, w0 (by omega) (by omega), e4]
      · refine ⟨8, ?_, .inr rfl, ⟨fun e => by omega, fun ⟨_, b⟩ => absurd (b j (Int.le_refl _) (by omega) (by simpa using c)) c2⟩⟩
        refine Ev.step (f := fun _ => some 8) (fun k => ?_) (Ev.now _)
        rw [lru_Check.l1, if_pos (by omega), if_pos (by omega), if_pos (by omega), if_neg c, if_pos (by omega)]
        by_cases q : rd P (j : Int) = -1
        · rw [if_pos q, if_pos (by omega), if_neg (fun e => c2 ⟨q, e⟩)]
        · rw [if_neg q]

theorem chk_l0 {n : Nat} (hn : n ≤ 1000) {P N : List Int} {h t : Int} (hP : P.length = n) (hN : N.length = n) : ∀ (m : Nat) (acc : List Int) (M : List Bool) (i : Int), acc.length + m = n + 1 → Ok n acc → M.length = n →
    (∀ x : Int, 0 ≤ x → x < n → rdOf false M x = decide (x ∈ acc)) →
    ∃ r, Ev (fun k => lru_Check.l0 k n M (lst (-1) acc) i P N h t) r ∧ (r = 0 ∨ r = 8) ∧
      (r = 0 ↔ ∃ B, both P N (lst (-1) acc) i B ∧ Ok n (acc ++ B) ∧ t = lst (-1) (acc ++ B) ∧ ∀ x : Int, 0 ≤ x → x < n → x ∉ acc ++ B → rd P x = -1 ∧ rd N x = -1) := by
  intro m
  induction m with
  | zero => intro acc M i e ho; have := ho.len; omega
  | succ m ih =>
    intro acc M i e ho hM hmk
    by_cases c1 : i = -1
    · obtain ⟨r, hr, h1, h2⟩ := chk_l1 hn (last := lst (-1) acc) (h := h) (t := t) hM hP hN n 0 (by omega)
      refine ⟨r, ?_, h1, h2.trans ⟨fun ⟨a, b⟩ => ⟨[], c1, by simpa using ho, by simpa using a, fun x x0 x1 xm => b x (by omega) x1 (by rw [hmk x x0 x1]; simpa using xm)⟩, ?_⟩⟩
      · refine Ev.step (fun k => ?_) hr
        rw [lru_Check.l0, if_pos c1]; rfl
      · rintro ⟨B, hB, _, ht, hx⟩
        cases B with
        | nil => exact ⟨by simpa using ht, fun x x0 x1 xm => hx x (by omega) x1 (by rw [hmk x (by omega) x1] at xm; simpa using xm)⟩
        | cons y l => exact absurd (hB.1.symm.trans c1) hB.2.1
    by_cases c2 : 0 ≤ i ∧ i < n
    · by_cases c3 : i ∈ acc
      · refine ⟨8, ?_, .inr rfl, ⟨fun e => by omega, ?_⟩⟩
        · refine Ev.step (f := fun _ => some 8) (fun k => ?_) (Ev.now _)
          rw [lru_Check.l0, if_neg c1, if_neg (by omega), if_neg (by omega), if_pos c2.1, if_pos (by omega), if_pos (by rw [hmk i c2.1 c2.2]; simpa using c3)]
        · rintro ⟨B, hp, hb, _⟩
          cases B with
          | nil => exact absurd hp c1
          | cons y l => exact absurd (by rw [hp.1]; exact List.mem_cons_self) (hb.app.2.2 i c3)
      · by_cases c4 : rd P i = lst (-1) acc
        · have ho2 : Ok n (acc ++ [i]) := ⟨by
            rw [List.nodup_append]
            exact ⟨ho.1, by simp, fun a ha b hb => by rw [List.mem_singleton.1 hb]; exact fun e => c3 (by rw [← e]; exact ha)⟩, fun x hx => by
            rcases List.mem_append.1 hx with m | m
            · exact ho.2 x m
            · rw [List.mem_singleton.1 m]; exact c2⟩
          obtain ⟨r, hr, h1, h2⟩ := ih (acc ++ [i]) (M.set i.toNat true) (rd N i) (by simp; omega) ho2 (by simpa using hM) (fun x x0 x1 => by
            unfold rdOf
            rw [List.getD_eq_getElem?_getD, List.getElem?_set]
            by_cases q : i.toNat = x.toNat
            · have : x = i := by omega
              rw [if_pos q, if_pos (by omega)]; simp [this]
            · have : x ≠ i := by omega
              have h9 := hmk x x0 x1
              unfold rdOf at h9
              rw [List.getD_eq_getElem?_getD] at h9
              rw [if_neg q, h9]; simp [this])
          refine ⟨r, ?_, h1, h2.trans ?_⟩
          · refine Ev.step (fun k => ?_) hr
            rw [lru_Check.l0, if_neg c1, if_neg (by omega), if_neg (by omega), if_pos c2.1, if_pos (by omega), if_neg (by rw [hmk i c2.1 c2.2]; simpa using c3), if_pos (by omega), if_pos c4, if_pos (by omega), lst_app]
            rfl
          · rw [lst_app]
            constructor
            · rintro ⟨B, a, b, c, d⟩
              exact ⟨i :: B, ⟨rfl, c1, c4, a⟩, by simpa using b, by simpa using c, fun x x0 x1 xm => d x x0 x1 (by simpa using xm)⟩
            · rintro ⟨B, a, b, c, d⟩
              cases B with
              | nil => exact absurd a c1
              | cons y l =>
                obtain ⟨rfl, a2, a3, a4⟩ := a
                exact ⟨l, a4, by simpa using b, by simpa using c, fun x x0 x1 xm => d x x0 x1 (by simpa using xm)⟩
        · refine ⟨8, ?_, .inr rfl, ⟨fun e => by omega, ?_⟩⟩
          · refine Ev.step (f := fun _ => some 8) (fun k => ?_) (Ev.now _)
            rw [lru_Check.l0, if_neg c1, if_neg (by omega), if_neg (by omega), if_pos c2.1, if_pos (by omega), if_neg (by rw [hmk i c2.1 c2.2]; simpa using c3), if_pos (by omega), if_neg c4]
          · rintro ⟨B, hp, hb, _⟩
            cases B with
            | nil => exact absurd hp c1
            | cons y l =>
              have h8 := hp.2.2.1
              rw [← hp.1] at h8
              exact absurd h8 c4
    · refine ⟨8, ?_, .inr rfl, ⟨fun e => by omega, ?_⟩⟩
      · refine Ev.step (f := fun _ => some 8) (fun k => ?_) (Ev.now _)
        rw [lru_Check.l0, if_neg c1]
        by_cases q : i < 0
        · rw [if_pos q]
        · rw [if_neg q, if_pos (by omega)]
      · rintro ⟨B, hp, hb, _⟩
        cases B with
        | nil => exact absurd hp c1
        | cons y l => exact absurd (by rw [hp.1]; exact hb.2 y (by simp)) c2

theorem check_ev (P N : List Int) (h t : Int) : ∃ r, Ev (fun k => lru_Check.f k P N h t) r ∧ (r = 0 ∨ r = 8) ∧ (r = 0 ↔ Val P N h t) := by
  by_cases c : 1 ≤ P.length ∧ P.length ≤ 16 ∧ N.length = P.length
  · obtain ⟨c1, c2, c3⟩ := c
    obtain ⟨r, hr, h1, h2⟩ := chk_l0 (n := P.length) (by omega) (P := P) (N := N) (h := h) (t := t) rfl c3 (P.length + 1) [] (List.replicate P.length false) h (by simp) (Ok.nil _) (by simp) (fun x x0 x1 => by
      unfold rdOf; rw [List.getD_eq_getElem?_getD, List.getElem?_replicate]; split <;> simp)
    refine ⟨r, ?_, h1, h2.trans ?_⟩
    · refine Ev.step (fun k => ?_) hr
      unfold lru_Check.f
      rw [if_neg (by omega), if_neg (by omega), lru_Check.j0, if_neg (by simp; omega), if_pos (by omega), if_pos (by simp; omega), Int.toNat_natCast]
      rfl
    · constructor
      · rintro ⟨B, a, b, d, e⟩
        rw [List.nil_append] at b d
        simp only [List.nil_append] at e
        have hp := both_path a
        obtain ⟨e1, e2⟩ := nx_of_path hp b.1
        have e3 := both_pv a b.1
        refine ⟨c1, c2, B, b, ?_, ?_, e1, d⟩
        · have eP : row P.length (rd P) = PV P.length B := row_congr fun i i0 i1 => by
            by_cases m : i ∈ B
            · exact e3 i m
            · rw [pv_out m]; exact (e i i0 i1 m).1
          exact (row_of P).trans eP
        · have eN : row N.length (rd N) = NX P.length B := by
            rw [c3]
            exact row_congr fun i i0 i1 => by
              by_cases m : i ∈ B
              · exact e2 i m
              · rw [nx_out m]; exact (e i i0 i1 m).2
          exact (row_of N).trans eN
      · rintro ⟨_, _, L, hL, e1, e2, e3, e4⟩
        have hb := both_made (A := []) hL
        rw [List.nil_append, ← e1, ← e2, ← e3] at hb
        refine ⟨L, hb, hL, e4, fun x x0 x1 xm => ?_⟩
        rw [List.nil_append] at xm
        have r1 := rd_PV (n := P.length) (L := L) x0 x1
        have r2 := rd_NX (n := P.length) (L := L) x0 x1
        rw [← e1] at r1
        rw [← e2] at r2
        rw [r1, r2, pv_out xm, nx_out xm]
        exact ⟨rfl, rfl⟩
  · refine ⟨8, ⟨1, fun k hk => ?_⟩, .inr rfl, ⟨fun e => by omega, ?_⟩⟩
    · obtain ⟨k, rfl⟩ : ∃ j, k = j + 1 := ⟨k - 1, by omega⟩
      dsimp only
      unfold lru_Check.f
      by_cases q1 : (P.length : Int) < 1
      · rw [if_pos q1, lru_Check.j0, if_pos rfl]
      · rw [if_neg q1]
        by_cases q2 : (P.length : Int) > 16
        · rw [if_pos q2, lru_Check.j0, if_pos rfl]
        · rw [if_neg q2, lru_Check.j0, if_pos (by simp; omega)]
    · rintro ⟨h1, h2, L, hL, e1, e2, _⟩
      refine absurd ⟨h1, h2, ?_⟩ c
      rw [e2, NX_len]

/-- Both checks return the same. -/
theorem checks (P N : List Int) (h t : Int) (hP : P.length ≤ 100) (hN : N.length ≤ 100) : ∃ r, Ev (fun k => lru_Check.f k P N h t) r ∧ Ev (fun k => spigotref15_Check.f k P N h t) r ∧ (r = 0 ∨ r = 8) ∧ (r = 0 ↔ Val P N h t) := by
  obtain ⟨r, a, b, c⟩ := check_ev P N h t
  obtain ⟨q, d, e, f⟩ := rcheck_ev P N h t hP hN
  have : q = r := by
    by_cases v : Val P N h t
    · rw [c.2 v, f.2 v]
    · have n1 : r ≠ 0 := fun e => v (c.1 e)
      have n2 : q ≠ 0 := fun e => v (f.1 e)
      omega
  subst this
  exact ⟨q, a, d, b, c⟩

end Go.Proofs.Ytiimflniadggaaa.LruPlain
