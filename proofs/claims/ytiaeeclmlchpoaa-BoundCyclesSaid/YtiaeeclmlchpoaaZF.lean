/- Plain facts about cycles: their numbers' product. No condition. -/
import Derived.Test.YtiaeeclmlchpoaaZ9
import Derived.Test.YtiaeeclmlchpoaaZD
import Derived.Test.YtiaeeclmlchpoaaZE
set_option linter.unusedVariables false
set_option linter.unusedSimpArgs false
namespace Go.Proofs.Ytiaeeclmlchpoaa
open Go.RowKit

/-- How many of the first numbers are odd. -/
def oddC (y : Nat → Nat) : Nat → Nat
  | 0 => 0
  | i + 1 => oddC y i + (if y i % 2 = 1 then 1 else 0)
def oddP (y : Nat → Nat) : Nat → Nat
  | 0 => 1
  | i + 1 => oddP y i * (if y i % 2 = 1 then y i else 1)
def oddS (q c : Nat) (y : Nat → Nat) : Nat → Nat
  | 0 => 1
  | i + 1 => oddS q c y i * (if y i % 2 = 1 then q * y i + c else 1)
/-- A step of the map that adds c to q times an odd number. -/
def kStep (q c : Nat) (y : Nat → Nat) (i : Nat) : Prop := (y i % 2 = 0 ∧ 2 * y (i + 1) = y i) ∨ (y i % 2 = 1 ∧ 2 * y (i + 1) = q * y i + c)
theorem odd_prod {q c : Nat} {y : Nat → Nat} {L : Nat} (h : ∀ i, i < L → kStep q c y i) : ∀ i, i ≤ L → 2 ^ i * y i * oddP y i = oddS q c y i * y 0 := by
  intro i
  induction i with
  | zero => intro _; simp [oddP, oddS]
  | succ i ih =>
    intro hi
    have ih := ih (by omega)
    unfold oddP oddS
    rcases h i (by omega) with ⟨h1, h2⟩ | ⟨h1, h2⟩
    · rw [if_neg (by omega), if_neg (by omega), Nat.mul_one, Nat.mul_one, ← ih, Nat.pow_succ, ← h2]
      simp only [Nat.mul_assoc]
    · rw [if_pos h1, if_pos h1]
      have e : 2 ^ (i + 1) * y (i + 1) * (oddP y i * y i) = 2 ^ i * y i * oddP y i * (2 * y (i + 1)) := by rw [Nat.pow_succ]; grind
      rw [e, ih, h2]; grind
theorem odd_pos {y : Nat → Nat} {L : Nat} (h : ∀ i, i < L → 0 < y i) : ∀ i, i ≤ L → 0 < oddP y i := by
  intro i
  induction i with
  | zero => intro _; simp [oddP]
  | succ i ih =>
    intro hi
    unfold oddP
    refine Nat.mul_pos (ih (by omega)) ?_
    split
    · exact h i (by omega)
    · omega
theorem odd_up {q c n : Nat} {y : Nat → Nat} {L : Nat} (h : ∀ i, i < L → n ≤ y i) : ∀ i, i ≤ L → oddS q c y i * n ^ oddC y i ≤ oddP y i * (q * n + c) ^ oddC y i := by
  intro i
  induction i with
  | zero => intro _; simp [oddP, oddS, oddC]
  | succ i ih =>
    intro hi
    have ih := ih (by omega)
    unfold oddS oddP oddC
    by_cases ho : y i % 2 = 1
    · rw [if_pos ho, if_pos ho, if_pos ho, Nat.pow_succ, Nat.pow_succ]
      have h1 : (q * y i + c) * n ≤ y i * (q * n + c) := by
        have := Nat.mul_le_mul_left c (h i (by omega))
        have e1 : (q * y i + c) * n = y i * (q * n) + c * n := by grind
        have e2 : y i * (q * n + c) = y i * (q * n) + c * y i := by grind
        omega
      have h2 := Nat.mul_le_mul ih h1
      have e1 : oddS q c y i * (q * y i + c) * (n ^ oddC y i * n) = oddS q c y i * n ^ oddC y i * ((q * y i + c) * n) := by grind
      have e2 : oddP y i * y i * ((q * n + c) ^ oddC y i * (q * n + c)) = oddP y i * (q * n + c) ^ oddC y i * (y i * (q * n + c)) := by grind
      rw [e1, e2]; exact h2
    · rw [if_neg ho, if_neg ho, if_neg ho, Nat.mul_one, Nat.mul_one, Nat.add_zero]; exact ih
theorem odd_low {q c : Nat} {y : Nat → Nat} {L : Nat} (hc : 0 < c) (hy : ∀ i, i < L → 0 < y i) : ∀ i, i ≤ L → q ^ oddC y i * oddP y i ≤ oddS q c y i ∧ (0 < oddC y i → q ^ oddC y i * oddP y i < oddS q c y i) := by
  intro i
  induction i with
  | zero => intro _; simp [oddP, oddS, oddC]
  | succ i ih =>
    intro hi
    obtain ⟨ih, ih2⟩ := ih (by omega)
    unfold oddS oddP oddC
    by_cases ho : y i % 2 = 1
    · rw [if_pos ho, if_pos ho, if_pos ho, Nat.pow_succ]
      have hp := odd_pos hy i (by omega)
      have hS : 0 < oddS q c y i ∨ q = 0 := by
        rcases Nat.eq_zero_or_pos q with h | h
        · exact .inr h
        · exact .inl (Nat.lt_of_lt_of_le (Nat.mul_pos (Nat.pow_pos h) hp) ih)
      have h2 := Nat.mul_le_mul_right (q * y i) ih
      have e1 : q ^ oddC y i * q * (oddP y i * y i) = q ^ oddC y i * oddP y i * (q * y i) := by grind
      have hSS : 0 < oddS q c y i := by
        rcases hS with h | h
        · exact h
        · have : ∀ j, j ≤ i → 0 < oddS q c y j := by
            intro j
            induction j with
            | zero => intro _; simp [oddS]
            | succ j ihj =>
              intro hj
              unfold oddS
              refine Nat.mul_pos (ihj (by omega)) ?_
              split <;> omega
          exact this i (Nat.le_refl _)
      have h3 : oddS q c y i * (q * y i) < oddS q c y i * (q * y i + c) := Nat.mul_lt_mul_of_pos_left (by omega) hSS
      rw [e1]
      exact ⟨by omega, fun _ => by omega⟩
    · rw [if_neg ho, if_neg ho, if_neg ho, Nat.mul_one, Nat.mul_one, Nat.add_zero]
      exact ⟨ih, ih2⟩
/-- Every cycle fits its least number and all smaller positive ones. -/
theorem cyc_fit {q c n L : Nat} {y : Nat → Nat} (hc : 0 < c) (hn : 0 < n) (hL : 0 < L) (h : ∀ i, i < L → kStep q c y i) (hle : ∀ i, i < L → n ≤ y i) (hend : y L = y 0) : 0 < oddC y L ∧ fitN q c n (oddC y L) L = true := by
  have hy : ∀ i, i < L → 0 < y i := fun i hi => Nat.lt_of_lt_of_le hn (hle i hi)
  have h1 := odd_prod h L (Nat.le_refl _)
  rw [hend] at h1
  have h0 : 0 < y 0 := hy 0 hL
  have h2 : 2 ^ L * oddP y L = oddS q c y L := by
    have e : 2 ^ L * oddP y L * y 0 = oddS q c y L * y 0 := by rw [← h1]; grind
    exact Nat.eq_of_mul_eq_mul_right h0 e
  have hP := odd_pos hy L (Nat.le_refl _)
  have hup := odd_up (q := q) (c := c) hle L (Nat.le_refl _)
  obtain ⟨hlow, hlow2⟩ := odd_low (q := q) hc hy L (Nat.le_refl _)
  have ha : 0 < oddC y L := by
    rcases Nat.eq_zero_or_pos (oddC y L) with h3 | h3
    · exfalso
      have hz : ∀ i, i ≤ L → oddC y i = 0 → oddP y i = 1 ∧ oddS q c y i = 1 := by
        intro i
        induction i with
        | zero => intro _ _; exact ⟨rfl, rfl⟩
        | succ i ih =>
          intro hi ho
          unfold oddC at ho
          have ho2 : ¬ y i % 2 = 1 := fun h4 => by rw [if_pos h4] at ho; omega
          rw [if_neg ho2] at ho
          obtain ⟨e1, e2⟩ := ih (by omega) (by omega)
          unfold oddP oddS
          rw [if_neg ho2, if_neg ho2, e1, e2]; exact ⟨rfl, rfl⟩
      obtain ⟨e1, e2⟩ := hz L (Nat.le_refl _) h3
      rw [e1, e2] at h2
      have : 2 ^ 1 ≤ 2 ^ L := Nat.pow_le_pow_right (by omega) hL
      omega
    · exact h3
  refine ⟨ha, ?_⟩
  unfold fitN
  simp only [Bool.and_eq_true, decide_eq_true_eq]
  constructor
  · have h3 := hlow2 ha
    rw [← h2] at h3
    exact Nat.lt_of_mul_lt_mul_right h3
  · rw [← h2] at hup
    have e : 2 ^ L * oddP y L * n ^ oddC y L = oddP y L * (n ^ oddC y L * 2 ^ L) := by grind
    rw [e] at hup
    exact Nat.le_of_mul_le_mul_left hup hP
theorem thr_exists {q c a : Nat} (hq : 1 ≤ q) : ∃ T, isThr q c a T := by
  have key : ∀ N, 0 < N → hasN q c a N = false → ∃ T, isThr q c a T := by
    intro N
    induction N with
    | zero => intro h; omega
    | succ N ih =>
      intro _ h
      rcases Nat.eq_zero_or_pos N with h0 | h0
      · subst h0; exact ⟨0, .inl rfl, h⟩
      · cases hN : hasN q c a N with
        | true => exact ⟨N, .inr hN, h⟩
        | false => exact ih h0 hN
  refine key (bnd q c a + 1) (by omega) ?_
  cases h : hasN q c a (bnd q c a + 1) with
  | false => rfl
  | true => have := has_le hq h (by omega); omega
end Go.Proofs.Ytiaeeclmlchpoaa

set_option linter.unusedVariables false
set_option linter.unusedSimpArgs false
namespace Go.Proofs.Ytiaeeclmlchpoaa
open Go.RowKit

def kinM (q c : Int) : Mp := ⟨2, [1, q], [0, c]⟩
theorem BlkI.far {w : World} {g : Nat} {e : TypeId} {k : IntKind} {l : List Int} {b o : Nat} {x : Value} (h : BlkI w g e k l) (hne : b ≠ g) : BlkI (w.setCell ⟨b, o, none⟩ x) g e k l := by
  unfold BlkI at h ⊢
  simp [World.setCell, Array.getElem?_modify, hne, h]
/-- Two blocks hold a kin's rows. -/
def KinAt (w : World) (g g' : Nat) (t : TypeId) (q c : Int) : Prop := BlkI w g t .i64 [1, q] ∧ BlkI w g' t .i64 [0, c]
theorem KinAt.isM {w : World} {g g' : Nat} {t : TypeId} {q c : Int} (h : KinAt w g g' t q c) : IsM w (.agg #[.int .i64 2, .slice (some ⟨g, 0, none⟩) 2 2, .slice (some ⟨g', 0, none⟩) 2 2]) (kinM q c) :=
  ⟨_, 2, _, 2, rfl, h.1.slI (by show 2 ≤ 9223372036854775807; decide), h.2.slI (by show 2 ≤ 9223372036854775807; decide)⟩
theorem kinIs (q c : Int) (w : World) (o : Obj) (t : TypeId) : KinAt (((w.alloc o).alloc (.cells #[.int .i64 1, .int .i64 q] t)).alloc (.cells #[.int .i64 0, .int .i64 c] t)) (w.heap.size + 1) (w.heap.size + 1 + 1) t q c := by
  have e1 : (w.alloc o).heap.size = w.heap.size + 1 := by simp
  have e2 : ((w.alloc o).alloc (.cells #[.int .i64 1, .int .i64 q] t)).heap.size = w.heap.size + 1 + 1 := by simp
  have h1 : BlkI ((w.alloc o).alloc (.cells #[.int .i64 1, .int .i64 q] t)) (w.alloc o).heap.size t .i64 [1, q] := heap_alloc_new _ _
  have h2 : BlkI (((w.alloc o).alloc (.cells #[.int .i64 1, .int .i64 q] t)).alloc (.cells #[.int .i64 0, .int .i64 c] t)) ((w.alloc o).alloc (.cells #[.int .i64 1, .int .i64 q] t)).heap.size t .i64 [0, c] := heap_alloc_new _ _
  have h1 := h1.below (below_alloc (Below.refl _ _) (.cells #[.int .i64 0, .int .i64 c] t))
  rw [e1] at h1
  rw [e2] at h2
  exact ⟨h1, h2⟩
set_option maxRecDepth 100000 in
set_option maxHeartbeats 4000000 in
theorem skin_c (q c : Int) (w : World) :
    Calls Try.prog 59 #[.int .i64 q, .int .i64 c] w fun e w' => ∃ g g', e = .returned (.agg #[.int .i64 2, .slice (some ⟨g, 0, none⟩) 2 2, .slice (some ⟨g', 0, none⟩) 2 2]) ∧ w.heap.size ≤ g ∧ w.heap.size ≤ g' ∧ Hid (KinAt w' g g' 3 q c) ∧ Below w.heap.size w w' := by
  go_enter Try.func59, Try.ntmps59
  go_wp2
  refine bodyPost_ret (v := .agg #[.int .i64 2, .slice (some ⟨w.heap.size + 1, 0, none⟩) 2 2, .slice (some ⟨w.heap.size + 1 + 1, 0, none⟩) 2 2]) (by simp [results, Try.results59, go_sem]) rfl ⟨_, _, rfl, by omega, by omega, kinIs q c w _ _, below_alloc (below_alloc (below_alloc (Below.refl _ _) _) _) _⟩
/-- Three cells for a result: a map. -/
theorem new3 (w : World) (t : TypeId) : (∀ o, o < 3 → ∃ u, (w.alloc (.cells #[.int .i64 0, .slice none 0 0, .slice none 0 0] t)).cell? ⟨w.heap.size, o, none⟩ = some u ∧ (w.alloc (.cells #[.int .i64 0, .slice none 0 0, .slice none 0 0] t)).frozen? ⟨w.heap.size, o, none⟩ = false) := by
  intro o ho
  match o, ho with
  | 0, _ => exact ⟨.int .i64 0, by simp [go_sem], by simp [go_sem]⟩
  | 1, _ => exact ⟨.slice none 0 0, by simp [go_sem], by simp [go_sem]⟩
  | 2, _ => exact ⟨.slice none 0 0, by simp [go_sem], by simp [go_sem]⟩

/-- Is there a kin of Collatz's map with q and c? -/
def kinG (q c : Int) : Bool := decide (q % 2 ≠ 0) && decide (c % 2 ≠ 0) && decide (1 ≤ q) && decide (q ≤ 999) && decide (-999999 ≤ c) && decide (c ≤ 999999)
theorem kinG_kin {q c : Int} (h : kinG q c = false) : kinB q c = false := by
  cases hk : kinB q c with
  | false => rfl
  | true =>
    exfalso
    unfold kinB at hk
    simp only [decide_eq_true_eq] at hk
    unfold kinG at h
    rw [decide_eq_true (show q % 2 ≠ 0 by omega), decide_eq_true (show c % 2 ≠ 0 by omega), decide_eq_true (show 1 ≤ q by omega), decide_eq_true (show q ≤ 999 by omega), decide_eq_true (show -999999 ≤ c by omega), decide_eq_true (show c ≤ 999999 by omega)] at h
    cases h
set_option maxRecDepth 100000 in
set_option maxHeartbeats 4000000 in
theorem sKin_c (q c : Int) (w : World) :
    Calls Try.prog 29 #[.int .i64 q, .int .i64 c] w fun e w' => ∃ md A n k A' n' k' er, e = .returned (.tuple #[.agg #[.int .i64 md, .slice A n k, .slice A' n' k'], .int .i64 er]) ∧ Below w.heap.size w w' ∧
      ((kinG q c = false ∧ er = 2) ∨ (kinG q c = true ∧ er = 0 ∧ Hid (IsM w' (.agg #[.int .i64 md, .slice A n k, .slice A' n' k']) (kinM q c)))) := by
  obtain ⟨tq, htq⟩ : ∃ t, q.tmod 2 = t := ⟨_, rfl⟩
  obtain ⟨tc, htc⟩ : ∃ t, c.tmod 2 = t := ⟨_, rfl⟩
  have e1 : tq = 0 ↔ q % 2 = 0 := by rw [← htq]; exact tmod_zero
  have e2 : tc = 0 ↔ c % 2 = 0 := by rw [← htc]; exact tmod_zero
  by_cases h1 : tq = 0
  · have HG : Hid (kinG q c = false) := by show _ = _; unfold kinG; rw [decide_eq_false (show ¬ q % 2 ≠ 0 by have := e1.1 h1; omega)]; simp
    have h1b : (tq == 0) = true := by simpa using h1
    clear h1 e1 e2
    go_enter Try.func29, Try.ntmps29
    go_wp2
    refine bodyPost_ret (v := .tuple #[.agg #[.int .i64 0, .slice none 0 0, .slice none 0 0], .int .i64 2]) (by simp [results, Try.results29, go_sem]) rfl ⟨_, _, _, _, _, _, _, _, rfl, below_alloc (Below.refl _ _) _, .inl ⟨HG.out, rfl⟩⟩
  · have h1b : (tq == 0) = false := by simpa using h1
    by_cases h2 : tc = 0
    · have HG : Hid (kinG q c = false) := by show _ = _; unfold kinG; rw [decide_eq_false (show ¬ c % 2 ≠ 0 by have := e2.1 h2; omega)]; simp
      have h2b : (tc == 0) = true := by simpa using h2
      clear h1 h2 e1 e2
      go_enter Try.func29, Try.ntmps29
      go_wp2
      refine bodyPost_ret (v := .tuple #[.agg #[.int .i64 0, .slice none 0 0, .slice none 0 0], .int .i64 2]) (by simp [results, Try.results29, go_sem]) rfl ⟨_, _, _, _, _, _, _, _, rfl, below_alloc (Below.refl _ _) _, .inl ⟨HG.out, rfl⟩⟩
    · have h2b : (tc == 0) = false := by simpa using h2
      by_cases h3 : q < 1
      · have HG : Hid (kinG q c = false) := by show _ = _; unfold kinG; rw [decide_eq_false (show ¬ 1 ≤ q by omega)]; simp
        clear h1 h2 e1 e2
        go_enter Try.func29, Try.ntmps29
        go_wp2
        refine bodyPost_ret (v := .tuple #[.agg #[.int .i64 0, .slice none 0 0, .slice none 0 0], .int .i64 2]) (by simp [results, Try.results29, go_sem]) rfl ⟨_, _, _, _, _, _, _, _, rfl, below_alloc (Below.refl _ _) _, .inl ⟨HG.out, rfl⟩⟩
      · by_cases h4 : 999 < q
        · have HG : Hid (kinG q c = false) := by show _ = _; unfold kinG; rw [decide_eq_false (show ¬ q ≤ 999 by omega)]; simp
          clear h1 h2 e1 e2
          go_enter Try.func29, Try.ntmps29
          go_wp2
          refine bodyPost_ret (v := .tuple #[.agg #[.int .i64 0, .slice none 0 0, .slice none 0 0], .int .i64 2]) (by simp [results, Try.results29, go_sem]) rfl ⟨_, _, _, _, _, _, _, _, rfl, below_alloc (Below.refl _ _) _, .inl ⟨HG.out, rfl⟩⟩
        · by_cases h5 : c < -999999
          · have HG : Hid (kinG q c = false) := by show _ = _; unfold kinG; rw [decide_eq_false (show ¬ -999999 ≤ c by omega)]; simp
            clear h1 h2 e1 e2
            go_enter Try.func29, Try.ntmps29
            go_wp2
            refine bodyPost_ret (v := .tuple #[.agg #[.int .i64 0, .slice none 0 0, .slice none 0 0], .int .i64 2]) (by simp [results, Try.results29, go_sem]) rfl ⟨_, _, _, _, _, _, _, _, rfl, below_alloc (Below.refl _ _) _, .inl ⟨HG.out, rfl⟩⟩
          · by_cases h6 : 999999 < c
            · have HG : Hid (kinG q c = false) := by show _ = _; unfold kinG; rw [decide_eq_false (show ¬ c ≤ 999999 by omega)]; simp
              clear h1 h2 e1 e2
              go_enter Try.func29, Try.ntmps29
              go_wp2
              refine bodyPost_ret (v := .tuple #[.agg #[.int .i64 0, .slice none 0 0, .slice none 0 0], .int .i64 2]) (by simp [results, Try.results29, go_sem]) rfl ⟨_, _, _, _, _, _, _, _, rfl, below_alloc (Below.refl _ _) _, .inl ⟨HG.out, rfl⟩⟩
            · have HG : Hid (kinG q c = true) := by
                show _ = _
                unfold kinG
                rw [decide_eq_true (show q % 2 ≠ 0 from fun h => h1 (e1.2 h)), decide_eq_true (show c % 2 ≠ 0 from fun h => h2 (e2.2 h)), decide_eq_true (show 1 ≤ q by omega), decide_eq_true (show q ≤ 999 by omega), decide_eq_true (show -999999 ≤ c by omega), decide_eq_true (show c ≤ 999999 by omega)]; rfl
              clear h1 h2 e1 e2
              go_enter Try.func29, Try.ntmps29
              go_wp2_with fail
              have N3 := new3 w 55
              generalize hW : w.alloc (Obj.cells #[Value.int .i64 0, Value.slice none 0 0, Value.slice none 0 0] 55) = W at *
              have HB0 : Below w.heap.size w W := by rw [← hW]; exact below_alloc (Below.refl _ _) _
              have hlt : w.heap.size < W.heap.size := by rw [← hW]; simp
              clear hW
              (with_reducible refine (skin_c q c _).mono ?_)
              rintro e w1 ⟨g, g', rfl, hg, hg', HK, hb1⟩
              have HB := below_step HB0 hb1
              obtain ⟨u0, a0, f0⟩ := N3 0 (by omega)
              obtain ⟨u1, a1, f1⟩ := N3 1 (by omega)
              obtain ⟨u2, a2, f2⟩ := N3 2 (by omega)
              replace a0 := kcell hb1 hlt a0
              replace a1 := kcell hb1 hlt a1
              replace a2 := kcell hb1 hlt a2
              replace f0 := kfroz hb1 hlt f0
              replace f1 := kfroz hb1 hlt f1
              replace f2 := kfroz hb1 hlt f2
              clear N3 hb1 HB0
              have HKs := ((HK.out.1.far (b := w.heap.size) (o := 0) (x := .int .i64 2) (by omega)).far (b := w.heap.size) (o := 1) (x := .slice (some ⟨g, 0, none⟩) 2 2) (by omega)).far (b := w.heap.size) (o := 2) (x := .slice (some ⟨g', 0, none⟩) 2 2) (by omega)
              have HKt := ((HK.out.2.far (b := w.heap.size) (o := 0) (x := .int .i64 2) (by omega)).far (b := w.heap.size) (o := 1) (x := .slice (some ⟨g, 0, none⟩) 2 2) (by omega)).far (b := w.heap.size) (o := 2) (x := .slice (some ⟨g', 0, none⟩) 2 2) (by omega)
              have HKM := Lib.hid (KinAt.isM ⟨HKs, HKt⟩)
              clear HK HKs HKt
              go_wp2
              refine bodyPost_ret (v := .tuple #[.agg #[.int .i64 2, .slice (some ⟨g, 0, none⟩) 2 2, .slice (some ⟨g', 0, none⟩) 2 2], .int .i64 0]) (by simp [results, Try.results29, go_sem, a0, a1, a2, hlt]) rfl ⟨_, _, _, _, _, _, _, _, rfl, below_set (below_set (below_set HB (by omega) _) (by omega) _) (by omega) _, .inr ⟨HG.out, rfl, HKM⟩⟩

/-- How many of the first numbers of a list are odd. -/
def oddsL (l : List Int) : Nat → Nat
  | 0 => 0
  | i + 1 => oddsL l i + (if gd l i % 2 = 1 then 1 else 0)
theorem oddsL_le (l : List Int) (i : Nat) : oddsL l i ≤ i := by
  induction i with
  | zero => exact Nat.le_refl _
  | succ i ih => unfold oddsL; split <;> omega
set_option maxRecDepth 100000 in
set_option maxHeartbeats 4000000 in
theorem odds_c (l : List Int) (A : Option Addr) (c : Nat) (w : World) (h : LsZ B9 .i64 w A c l) (hs : ∀ j, j < l.length → (dg B9 (gd l j)).length ≤ 1000000000) (hl : l.length ≤ 1000000000) :
    Calls Try.prog 32 #[.slice A l.length c] w fun e w' => e = .returned (.int .i64 (oddsL l l.length)) ∧ Below w.heap.size w w' := by
  have LL := Lib.hid h
  have HS := Lib.hid hs
  have HB : Below w.heap.size w w := Below.refl _ _
  obtain ⟨N, hN⟩ : ∃ N, l.length = N := ⟨_, rfl⟩
  rw [hN] at hl HS ⊢
  have HN := Lib.hid hN
  clear h hs hN
  go_enter Try.func32, Try.ntmps32
  go_wp2_with fail
  go_loopg [3, 4] N (fun g nv iv wr => ∃ (i : Nat), nv = .int .i64 (oddsL l i) ∧ iv = .int .i64 i ∧ g = N - i ∧ i ≤ N ∧ Hid (LsZ B9 .i64 wr A c l) ∧ Below w.heap.size w wr)
  case atStart => exact ⟨0, rfl, rfl, rfl, by omega, LL, HB⟩
  case round =>
    clear LL HB
    obtain ⟨i, rfl, rfl, hgk, hi, LL, HB⟩ := hrel
    have ho := oddsL_le l i
    have HO : Hid (oddsL l (i + 1) = oddsL l i + (if gd l i % 2 = 1 then 1 else 0)) := rfl
    obtain ⟨o, hoe⟩ : ∃ o, oddsL l i = o := ⟨_, rfl⟩
    rw [hoe] at ho HO ⊢
    have HOE := Lib.hid hoe
    clear hoe
    by_cases hiN : i < N
    · obtain ⟨b, off, nz, Az, mz, kz, rfl, hlt, p0, p1, HP⟩ := LL.out.at (j := i) (by rw [HN.out]; exact hiN)
      have hi0 : (0 : Int) ≤ (i : Int) := by omega
      have hiN2 : (i : Int) < (N : Int) := by omega
      obtain ⟨r, hr⟩ : ∃ r, gd l i % 2 = r := ⟨_, rfl⟩
      have HR := Lib.hid hr
      rw [hr] at HO
      clear hr
      go_wp2_with fail
      (with_reducible refine (Part_c (gd l i) 2 _ _ HP.out (by omega) (by omega) (HS.out i hiN)).mono ?_)
      rintro e w1 ⟨v, rfl, hv, hb1⟩
      rw [HR.out]
      obtain ⟨n1, A1, m1, k1, rfl, H1⟩ := hv.form
      replace LL := Lib.hid ((LL.out.below hb1).below (below_alloc (Below.refl w1.heap.size w1) (Obj.cells #[Value.bool n1, Value.slice A1 m1 k1] 28)))
      replace HB := below_alloc (below_step HB hb1) (Obj.cells #[Value.bool n1, Value.slice A1 m1 k1] 28)
      clear hb1 hv H1 p0 p1 HP
      by_cases hr1 : r = 1
      · subst hr1
        rw [if_pos rfl] at HO
        go_wp2
        go_roundg (N - (i + 1))
        case measure => omega
        case rel => exact ⟨i + 1, by rw [HO.out]; go_num, by go_num, rfl, by omega, LL, HB⟩
      · rw [if_neg hr1] at HO
        have hr2 : (r == 1) = false := by simpa using hr1
        clear hr1
        go_wp2
        go_roundg (N - (i + 1))
        case measure => omega
        case rel => exact ⟨i + 1, by rw [HO.out]; go_num, by go_num, rfl, by omega, LL, HB⟩
    · have hiN2 : i = N := by omega
      subst hiN2
      clear hgk hiN
      go_wp2
      go_ret
      exact ⟨by rw [HOE.out] <;> rfl, HB⟩
end Go.Proofs.Ytiaeeclmlchpoaa

set_option linter.unusedVariables false
set_option linter.unusedSimpArgs false
namespace Go.Proofs.Ytiaeeclmlchpoaa
open Go.RowKit

/-- The number after some steps. -/
def itZ (M : Mp) (z : Int) : Nat → Int
  | 0 => z
  | i + 1 => stepZ M (itZ M z i)
theorem itZ_shift (M : Mp) (z : Int) (i : Nat) : itZ M (stepZ M z) i = itZ M z (i + 1) := by
  induction i with
  | zero => rfl
  | succ i ih => show stepZ M _ = _; rw [ih]; rfl
theorem itZ_add (M : Mp) (z : Int) (i : Nat) : ∀ j, itZ M (itZ M z i) j = itZ M z (i + j) := by
  intro j
  induction j with
  | zero => rfl
  | succ j ih => show stepZ M _ = _; rw [ih]; rfl
theorem orbL_it (M : Mp) (k : Nat) : ∀ z j, j < (orbL M z k).length → gd (orbL M z k) j = itZ M z j := by
  induction k with
  | zero =>
    intro z j hj
    have : j = 0 := by simp [orbL] at hj; omega
    subst this
    simp [orbL, gd, itZ]
  | succ k ih =>
    intro z j hj
    unfold orbL at hj ⊢
    split at hj
    · rename_i hd
      rw [if_pos hd]
      cases j with
      | zero => simp [gd, itZ]
      | succ j =>
        have := ih (stepZ M z) j (by simpa using hj)
        rw [itZ_shift] at this
        simpa [gd] using this
    · rename_i hd
      rw [if_neg hd]
      have : j = 0 := by simp at hj; omega
      subst this
      simp [gd, itZ]
theorem atF_spec {l : List Int} {len : Nat} (f : Nat) : ∀ a, gd l (a + f) = gd l (a + f + len) → a ≤ atF l len f a ∧ atF l len f a ≤ a + f ∧ gd l (atF l len f a) = gd l (atF l len f a + len) := by
  induction f with
  | zero => intro a h; exact ⟨Nat.le_refl _, Nat.le_refl _, h⟩
  | succ f ih =>
    intro a h
    unfold atF
    split
    · rename_i he; exact ⟨Nat.le_refl _, by omega, he⟩
    · have := ih (a + 1) (by rw [show a + 1 + f = a + (f + 1) by omega]; exact h)
      exact ⟨by omega, by omega, this.2.2⟩
theorem leastF_spec {l : List Int} (f : Nat) : ∀ i m, m < i ∨ m = i → (leastF l f i m = m ∨ i ≤ leastF l f i m) ∧ (leastF l f i m = m ∨ leastF l f i m < i + f) ∧ gd l (leastF l f i m) ≤ gd l m ∧ ∀ j, i ≤ j → j < i + f → gd l (leastF l f i m) ≤ gd l j := by
  induction f with
  | zero => intro i m _; exact ⟨.inl rfl, .inl rfl, Int.le_refl _, fun j h1 h2 => by omega⟩
  | succ f ih =>
    intro i m hm
    unfold leastF
    by_cases hlt : gd l i < gd l m
    · rw [if_pos hlt]
      obtain ⟨h1, h2, h3, h4⟩ := ih (i + 1) i (.inl (by omega))
      refine ⟨.inr (by omega), .inr (by omega), by omega, fun j hj1 hj2 => ?_⟩
      rcases Nat.eq_or_lt_of_le hj1 with h | h
      · subst h; exact h3
      · exact h4 j (by omega) (by omega)
    · rw [if_neg hlt]
      obtain ⟨h1, h2, h3, h4⟩ := ih (i + 1) m (.inl (by omega))
      refine ⟨by omega, by omega, h3, fun j hj1 hj2 => ?_⟩
      rcases Nat.eq_or_lt_of_le hj1 with h | h
      · subst h; omega
      · exact h4 j (by omega) (by omega)
theorem kin_step {q c : Int} (h : kinB q c = true) {z : Int} (hz : 0 < z) : (z % 2 = 0 ∧ 2 * stepZ (kinM q c) z = z) ∨ (z % 2 = 1 ∧ 2 * stepZ (kinM q c) z = q * z + c) := by
  obtain ⟨k1, k2, k3, k4, k5, k6⟩ := kinB_spec h
  have h2 : (kinM q c).mod = 2 := rfl
  rcases (show z % 2 = 0 ∨ z % 2 = 1 by omega) with h0 | h0
  · refine .inl ⟨h0, ?_⟩
    unfold stepZ
    rw [h2, h0]
    have e1 : gd (kinM q c).mul (0 : Int).toNat = 1 := rfl
    have e2 : gd (kinM q c).add (0 : Int).toNat = 0 := rfl
    rw [e1, e2]; omega
  · refine .inr ⟨h0, ?_⟩
    unfold stepZ
    rw [h2, h0]
    have e1 : gd (kinM q c).mul (1 : Int).toNat = q := rfl
    have e2 : gd (kinM q c).add (1 : Int).toNat = c := rfl
    rw [e1, e2]
    obtain ⟨a, ha⟩ : ∃ a, q = 2 * a + 1 := ⟨q / 2, by omega⟩
    obtain ⟨b, hb⟩ : ∃ b, z = 2 * b + 1 := ⟨z / 2, by omega⟩
    have e : q * z = 2 * (2 * a * b + a + b) + 1 := by rw [ha, hb]; grind
    omega
theorem kin_pos {q c : Int} (h : kinB q c = true) {z : Int} (hz : 0 < z) (i : Nat) : 0 < itZ (kinM q c) z i := by
  induction i with
  | zero => exact hz
  | succ i ih =>
    obtain ⟨k1, k2, k3, k4, k5, k6⟩ := kinB_spec h
    have hp : 0 < q * itZ (kinM q c) z i := Int.mul_pos (by omega) ih
    show 0 < stepZ _ _
    rcases kin_step h ih with ⟨_, h2⟩ | ⟨_, h2⟩ <;> omega
theorem kin_ok {q c : Int} (h : kinB q c = true) : okM (kinM q c) := by
  obtain ⟨k1, k2, k3, k4, k5, k6⟩ := kinB_spec h
  refine ⟨by show (2 : Int) ≤ 2; omega, by show (2 : Int) ≤ 12; omega, rfl, rfl, fun r hr => ?_⟩
  have hr2 : r = 0 ∨ r = 1 := by have : (r : Int) < 2 := hr; omega
  rcases hr2 with rfl | rfl
  · refine ⟨?_, ?_, ?_, ?_, ?_⟩
    · show (1 : Int) ≤ 1; omega
    · show (1 : Int) ≤ 999; omega
    · show (-999999 : Int) ≤ 0; omega
    · show (0 : Int) ≤ 999999; omega
    · show ((1 : Int) * ((0 : Nat) : Int) + 0) % 2 = 0; omega
  · refine ⟨?_, ?_, ?_, ?_, ?_⟩
    · show (1 : Int) ≤ q; omega
    · show q ≤ 999; omega
    · show (-999999 : Int) ≤ c; omega
    · show c ≤ 999999; omega
    · show (q * ((1 : Nat) : Int) + c) % 2 = 0
      rw [show q * ((1 : Nat) : Int) = q by simp]; omega
theorem per_mod {f : Nat → Int} {a len : Nat} (hl : 0 < len) (h : ∀ j, f (a + j + len) = f (a + j)) (n : Nat) : f (a + n % len) = f (a + n) := by
  induction n using Nat.strongRecOn with
  | ind n ih =>
    rcases Nat.lt_or_ge n len with h1 | h1
    · rw [Nat.mod_eq_of_lt h1]
    · have := ih (n - len) (by omega)
      rw [Nat.mod_eq_sub_mod h1, this, ← h (n - len)]
      congr 1; omega
/-- What the reference's cycle is, where there is one. -/
theorem fate_cyc {M : Mp} {z : Int} {k : Nat} (h : (fateL (orbL M z k)).1 = 0) : ∃ s L, 0 < L ∧ L ≤ k ∧ (fateL (orbL M z k)).2.2.length = L ∧ (∀ i, i < L → gd (fateL (orbL M z k)).2.2 i = itZ M z (s + i)) ∧ itZ M z (s + L) = itZ M z s ∧ (∀ i, i < L → itZ M z s ≤ itZ M z (s + i)) := by
  obtain ⟨hl1, hl2⟩ := orbL_len M k z
  have hit := fun j hj => orbL_it M k z j hj
  generalize hl : orbL M z k = l at *
  unfold fateL at h ⊢
  by_cases h1 : 2000 < dl (gd l (l.length - 1))
  · rw [if_pos h1] at h; cases h
  · rw [if_neg h1] at h ⊢
    by_cases h2 : perF l (l.length - 1) (l.length - 1) = 0
    · rw [if_pos h2] at h; cases h
    · rw [if_neg h2]
      obtain ⟨last, hlast⟩ : ∃ last, l.length = last + 1 := ⟨l.length - 1, by omega⟩
      rw [hlast] at h1 h2 hit hl2 ⊢
      simp only [Nat.add_sub_cancel] at h1 h2 ⊢
      have hp1 := perF_le l last last (Nat.le_refl _)
      have hp2 := perF_eq (l := l) last (Nat.le_refl _) (by omega)
      generalize perF l last last = len at *
      obtain ⟨a1, a2, a3⟩ := atF_spec (l := l) (len := len) (last - len) 0 (by rw [Nat.zero_add, hp2]; congr 1; omega)
      generalize atF l len (last - len) 0 = a at *
      obtain ⟨m1, m2, m3, m4⟩ := leastF_spec (l := l) len a a (.inr rfl)
      generalize leastF l len a a = m at *
      have hlen : 0 < len := by omega
      have hper : ∀ j, itZ M z (a + j + len) = itZ M z (a + j) := by
        intro j
        have h5 : itZ M z (a + len) = itZ M z a := by rw [← hit a (by omega), ← hit (a + len) (by omega), a3]
        rw [show a + j + len = (a + len) + j by omega, ← itZ_add, h5, itZ_add]
      refine ⟨m, len, hlen, by omega, by simp, ?_, ?_, ?_⟩
      · intro i hi
        have hX := Nat.mod_lt (m - a + i) hlen
        have e : gd ((List.range len).map fun i => gd l (a + (m - a + i) % len)) i = gd l (a + (m - a + i) % len) := by
          rw [gd_lt (by simpa using hi)]; simp
        show gd ((List.range len).map fun i => gd l (a + (m - a + i) % len)) i = _
        rw [e, hit _ (by omega), per_mod (f := itZ M z) hlen hper]
        congr 1; omega
      · have := hper (m - a)
        rw [show a + (m - a) + len = m + len by omega, show a + (m - a) = m by omega] at this
        exact this
      · intro i hi
        have hX := Nat.mod_lt (m - a + i) hlen
        have h6 := per_mod (f := itZ M z) hlen hper (m - a + i)
        rw [show a + (m - a + i) = m + i by omega] at h6
        rw [← h6, ← hit m (by omega), ← hit _ (by omega)]
        exact m4 _ (by omega) (by omega)
/-- The cycle of a kin of Collatz's map, as natural numbers. -/
theorem kin_cyc {q c z : Int} {k : Nat} (hk : kinB q c = true) (hz : 0 < z) (h : (fateL (orbL (kinM q c) z k)).1 = 0) :
    ∃ (y : Nat → Nat) (L : Nat), 0 < L ∧ L ≤ k ∧ (fateL (orbL (kinM q c) z k)).2.2.length = L ∧ (∀ i, i < L → gd (fateL (orbL (kinM q c) z k)).2.2 i = (y i : Int)) ∧ (∀ i, i < L → kStep q.toNat c.toNat y i) ∧ y L = y 0 ∧ (∀ i, i < L → y 0 ≤ y i) ∧ 0 < y 0 := by
  obtain ⟨s, L, h1, h2, h3, h4, h5, h6⟩ := fate_cyc h
  have hp := fun i => kin_pos hk hz i
  obtain ⟨k1, k2, k3, k4, k5, k6⟩ := kinB_spec hk
  refine ⟨fun i => (itZ (kinM q c) z (s + i)).toNat, L, h1, h2, h3, fun i hi => ?_, fun i hi => ?_, ?_, fun i hi => ?_, ?_⟩
  · have := hp (s + i); rw [h4 i hi]; simp only []; omega
  · have h7 := hp (s + i)
    have h8 := hp (s + i + 1)
    have h9 : itZ (kinM q c) z (s + (i + 1)) = stepZ (kinM q c) (itZ (kinM q c) z (s + i)) := rfl
    rcases kin_step hk h7 with ⟨e1, e2⟩ | ⟨e1, e2⟩
    · refine .inl ⟨by simp only []; omega, ?_⟩
      simp only []; rw [h9]; omega
    · refine .inr ⟨by simp only []; omega, ?_⟩
      simp only []
      rw [h9]
      have h10 : 0 < stepZ (kinM q c) (itZ (kinM q c) z (s + i)) := h8
      generalize itZ (kinM q c) z (s + i) = x at *
      obtain ⟨X, rfl⟩ := Int.eq_ofNat_of_zero_le (show 0 ≤ x by omega)
      obtain ⟨Q, rfl⟩ := Int.eq_ofNat_of_zero_le (show 0 ≤ q by omega)
      obtain ⟨C, rfl⟩ := Int.eq_ofNat_of_zero_le (show 0 ≤ c by omega)
      simp only [Int.toNat_natCast]
      rw [← Int.natCast_mul, ← Int.natCast_add] at e2
      omega
  · simp only []; rw [h5]; rfl
  · have := h6 i hi; simp only [Nat.add_zero]; omega
  · have := hp (s + 0); simp only []; omega
theorem odds_cyc {l : List Int} {y : Nat → Nat} {L : Nat} (h : ∀ i, i < L → gd l i = (y i : Int)) : ∀ i, i ≤ L → oddsL l i = oddC y i := by
  intro i
  induction i with
  | zero => intro _; rfl
  | succ i ih =>
    intro hi
    unfold oddsL oddC
    rw [ih (by omega), h i (by omega)]
    congr 1
    by_cases ho : y i % 2 = 1
    · rw [if_pos ho, if_pos (by omega)]
    · rw [if_neg ho, if_neg (by omega)]
end Go.Proofs.Ytiaeeclmlchpoaa
