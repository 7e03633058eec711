/- The plain law of FnExactQueryOk: whatever the input, the printed function of this law answers true after enough rounds; conditions: only the sizes and kinds that the law's Pure states. -/
import Derived.Test.YthlabmfecmdlcaaDoorVSFnExactQueryOk
import Derived.Lib.Join
import Derived.Lib.IndexBytes
import Derived.Lib.SplitLaws
namespace Go.Proofs.YthlabmfecmdlcaaDoor.Pure
open Go.RowKit Go.Proofs.YthlabmfecmdlcaaDoor.PFnExactQueryOk Go.Proofs.YthlabmfecmdlcaaDoorW.PrintWords Go.Proofs.YthlabmfecmdlcaaDoorW.PrintLast Go.Proofs.YthlabmfecmdlcaaDoorW.PrintMore
set_option linter.unusedVariables false
set_option linter.unusedSimpArgs false

theorem wrap_id {x : Int} (h0 : -9223372036854775808 ≤ x) (h1 : x ≤ 9223372036854775807) : wrap64 x = x := by unfold wrap64; omega

theorem wsucc (j : Nat) (h : j < 9223372036854775807) : wrap64 ((j : Int) + 1) = ((j + 1 : Nat) : Int) := by rw [wrap_id (by omega) (by omega)]; omega

theorem rdq_get (l : List S29) (j : Nat) (h : j < l.length) : rd_T29 l (j : Int) = l[j] := by
  unfold rd_T29; simp [List.getD_eq_getElem?_getD, List.getElem?_eq_getElem h]

theorem eqQueryS_l0 (l : List S29) (hn : l.length ≤ 1048576) (hp : ∀ x ∈ l, Ev (fun k => laws_eqQuery.f k x.f0 x.f1 x.f2 x.f3 x.f4 x.f5 x.f0 x.f1 x.f2 x.f3 x.f4 x.f5) true) : ∀ (d i : Nat), i + d = l.length → Ev (fun k => laws_eqQueryS.l0 k l l (i : Int)) true := by
  intro d
  induction d with
  | zero =>
    intro i hi
    refine Ev.step (fun k => laws_eqQueryS.l0.eq_2 _ _ _ _) ?_
    simp only [if_neg (show ¬ ((i : Int) < (l.length : Int)) by omega)]; exact Ev.now _
  | succ d ih =>
    intro i hi
    have hlt : i < l.length := by omega
    refine Ev.step (fun k => laws_eqQueryS.l0.eq_2 _ _ _ _) ?_
    simp only [if_pos (show ((i : Int) < (l.length : Int)) by omega), if_pos (show 0 ≤ (i : Int) by omega), rdq_get l i hlt, wsucc i (by omega)]
    refine Ev.bind (hp _ (List.getElem_mem hlt)) ?_
    simp only [if_true]; exact ih (i + 1) (by omega)

/-- A question small enough to be looked at, at every depth. -/
inductive smallQ : S29 → Prop
  | mk (y : S29) : y.f1.size ≤ 1048576 → y.f2.size ≤ 1048576 → y.f5.length ≤ 1048576 → (∀ x ∈ y.f5, smallQ x) → smallQ y

theorem eqQuery_refl {q : S29} (hs : smallQ q) : Ev (fun k => laws_eqQuery.f k q.f0 q.f1 q.f2 q.f3 q.f4 q.f5 q.f0 q.f1 q.f2 q.f3 q.f4 q.f5) true := by
  induction hs with
  | mk y h1 h2 h5 _ ih =>
    refine Ev.step (fun k => laws_eqQuery.f.eq_2 _ _ _ _ _ _ _ _ _ _ _ _ _) ?_
    simp only [if_true]
    refine Ev.bind (a := true) (Ev.step (fun k => laws_eqQueryS.f.eq_2 _ _ _) ?_) ?_
    · simp only [if_true]; exact eqQueryS_l0 y.f5 h5 ih y.f5.length 0 (by omega)
    · simp only [if_true]; exact Ev.now _

inductive smallA : S24 → Prop
  | mk (y : S24) : y.f1.size ≤ 1048576 → y.f2.size ≤ 1048576 → y.f5.length ≤ 1048576 → (∀ x ∈ y.f5, smallA x) → smallA y

theorem mem_drop_step {α : Type} {l : List α} {j : Nat} {n : α} (h : j < l.length) : n ∈ l.drop j ↔ n = l[j] ∨ n ∈ l.drop (j + 1) := by
  rw [List.drop_eq_getElem_cons h, List.mem_cons]

theorem rda_get (l : List S24) (j : Nat) (h : j < l.length) : rd_T24 l (j : Int) = l[j] := by
  unfold rd_T24; simp [List.getD_eq_getElem?_getD, List.getElem?_eq_getElem h]

theorem szQueryS_l0 (l : List S24) (hn : l.length ≤ 9223372036854775800) (hP : ∀ x ∈ l, ∀ left : Int, 0 ≤ left → left ≤ 1048576 → ∃ r, Ev (fun k => laws_szQuery.f k x.f0 x.f1 x.f2 x.f3 x.f4 x.f5 left) r ∧ r ≤ left ∧ (0 ≤ r → smallA x)) :
    ∀ (d i : Nat) (left : Int), i + d = l.length → 0 ≤ left → left ≤ 1048576 → ∃ r, Ev (fun k => laws_szQueryS.l0 k l left (i : Int)) r ∧ r ≤ left ∧ (0 ≤ r → ∀ x ∈ l.drop i, smallA x) := by
  intro d
  induction d with
  | zero =>
    intro i left hi h0 h1
    refine ⟨left, Ev.step (fun k => laws_szQueryS.l0.eq_2 _ _ _ _) ?_, Int.le_refl _, fun _ => by rw [List.drop_eq_nil_of_le (by omega)]; simp⟩
    simp only [if_neg (show ¬ ((i : Int) < (l.length : Int)) by omega)]
    exact Ev.now _
  | succ d ih =>
    intro i left hi h0 h1
    have hlt : i < l.length := by omega
    obtain ⟨r1, hr, hle, hs⟩ := hP l[i] (List.getElem_mem hlt) left h0 h1
    by_cases hneg : r1 < 0
    · refine ⟨-1, Ev.step (fun k => laws_szQueryS.l0.eq_2 _ _ _ _) ?_, by omega, fun h => absurd h (by omega)⟩
      simp only [if_pos (show ((i : Int) < (l.length : Int)) by omega), if_pos (show 0 ≤ (i : Int) by omega), rda_get l i hlt]
      refine Ev.bind hr ?_
      simp only [if_pos hneg]; exact Ev.now _
    · obtain ⟨r2, hr2, hle2, hs2⟩ := ih (i + 1) r1 (by omega) (by omega) (by omega)
      refine ⟨r2, Ev.step (fun k => laws_szQueryS.l0.eq_2 _ _ _ _) ?_, by omega, fun h x hx => ?_⟩
      · simp only [if_pos (show ((i : Int) < (l.length : Int)) by omega), if_pos (show 0 ≤ (i : Int) by omega), rda_get l i hlt, wsucc i (by omega)]
        refine Ev.bind hr ?_
        simp only [if_neg hneg]; exact hr2
      · rcases (mem_drop_step hlt).1 hx with h3 | h3
        · rw [h3]; exact hs (by omega)
        · exact hs2 h x h3

theorem szQuery_ev {q : S24} (hg : good24 q) : ∀ left : Int, 0 ≤ left → left ≤ 1048576 → ∃ r, Ev (fun k => laws_szQuery.f k q.f0 q.f1 q.f2 q.f3 q.f4 q.f5 left) r ∧ r ≤ left ∧ (0 ≤ r → smallA q) := by
  have hmx : maxLen = 9223372036854775807 := rfl
  induction hg with
  | mk y h0 h1 h2 h3 h4 h5 h6 ih =>
    intro left hl0 hl1
    rw [hmx] at h1 h2 h5
    by_cases c1 : left - (y.f1.size : Int) < 0
    · refine ⟨-1, Ev.step (fun k => laws_szQuery.f.eq_2 _ _ _ _ _ _ _ _) ?_, by omega, fun h => absurd h (by omega)⟩
      simp only [wrap_id (show -9223372036854775808 ≤ left - (y.f1.size : Int) by omega) (by omega), if_pos c1]; exact Ev.now _
    by_cases c2 : left - (y.f1.size : Int) - (y.f2.size : Int) < 0
    · refine ⟨-1, Ev.step (fun k => laws_szQuery.f.eq_2 _ _ _ _ _ _ _ _) ?_, by omega, fun h => absurd h (by omega)⟩
      simp only [wrap_id (show -9223372036854775808 ≤ left - (y.f1.size : Int) by omega) (by omega), if_neg c1, wrap_id (show -9223372036854775808 ≤ left - (y.f1.size : Int) - (y.f2.size : Int) by omega) (by omega), if_pos c2]; exact Ev.now _
    by_cases c3 : left - (y.f1.size : Int) - (y.f2.size : Int) - (y.f5.length : Int) < 0
    · refine ⟨-1, Ev.step (fun k => laws_szQuery.f.eq_2 _ _ _ _ _ _ _ _) ?_, by omega, fun h => absurd h (by omega)⟩
      simp only [wrap_id (show -9223372036854775808 ≤ left - (y.f1.size : Int) by omega) (by omega), if_neg c1, wrap_id (show -9223372036854775808 ≤ left - (y.f1.size : Int) - (y.f2.size : Int) by omega) (by omega), if_neg c2]
      refine Ev.bind (a := (-1 : Int)) (Ev.step (fun k => laws_szQueryS.f.eq_2 _ _ _) ?_) ?_
      · simp only [wrap_id (show -9223372036854775808 ≤ left - (y.f1.size : Int) - (y.f2.size : Int) - (y.f5.length : Int) by omega) (by omega), if_pos c3]; exact Ev.now _
      · simp only [if_pos (show (-1 : Int) < 0 by decide)]; exact Ev.now _
    obtain ⟨r, hr, hle, hs⟩ := szQueryS_l0 y.f5 (by omega) ih y.f5.length 0 (left - (y.f1.size : Int) - (y.f2.size : Int) - (y.f5.length : Int)) (by omega) (by omega) (by omega)
    have hS : Ev (fun k => laws_szQueryS.f k y.f5 (left - (y.f1.size : Int) - (y.f2.size : Int))) r := by
      refine Ev.step (fun k => laws_szQueryS.f.eq_2 _ _ _) ?_
      simp only [wrap_id (show -9223372036854775808 ≤ left - (y.f1.size : Int) - (y.f2.size : Int) - (y.f5.length : Int) by omega) (by omega), if_neg c3]; exact hr
    by_cases c4 : r < 0
    · refine ⟨-1, Ev.step (fun k => laws_szQuery.f.eq_2 _ _ _ _ _ _ _ _) ?_, by omega, fun h => absurd h (by omega)⟩
      simp only [wrap_id (show -9223372036854775808 ≤ left - (y.f1.size : Int) by omega) (by omega), if_neg c1, wrap_id (show -9223372036854775808 ≤ left - (y.f1.size : Int) - (y.f2.size : Int) by omega) (by omega), if_neg c2]
      refine Ev.bind hS ?_
      simp only [if_pos c4]; exact Ev.now _
    · refine ⟨r, Ev.step (fun k => laws_szQuery.f.eq_2 _ _ _ _ _ _ _ _) ?_, by omega, fun _ => smallA.mk y (by omega) (by omega) (by omega) (fun x hx => hs (by omega) x (by rw [List.drop_zero]; exact hx))⟩
      simp only [wrap_id (show -9223372036854775808 ≤ left - (y.f1.size : Int) by omega) (by omega), if_neg c1, wrap_id (show -9223372036854775808 ≤ left - (y.f1.size : Int) - (y.f2.size : Int) by omega) (by omega), if_neg c2]
      refine Ev.bind hS ?_
      simp only [if_neg c4]; exact Ev.now _

theorem toNat_cast (i : Nat) : ((i : Int)).toNat = i := by simp

/-- The questions of a list, each turned. -/
theorem list_turn {α β : Type} (p : α → β → Prop) : ∀ l : List α, (∀ x ∈ l, ∃ y, p x y) → ∃ m : List β, m.length = l.length ∧ ∀ (i : Nat) (h : i < l.length) (h' : i < m.length), p l[i] m[i]
  | [], _ => ⟨[], rfl, fun i h => absurd h (by simp)⟩
  | x :: l, h => by
    obtain ⟨y, hy⟩ := h x (by simp)
    obtain ⟨m, hm, hp⟩ := list_turn p l (fun z hz => h z (List.mem_cons_of_mem _ hz))
    refine ⟨y :: m, by simp [hm], fun i h1 h2 => ?_⟩
    cases i with
    | zero => exact hy
    | succ i => exact hp i (by simpa using h1) (by simpa using h2)

theorem take_set_succ {α : Type} (l m : List α) (i : Nat) (v : α) (hl : i < l.length) (hm : i < m.length) (hv : m[i] = v) (h : l.take i = m.take i) : (l.set i v).take (i + 1) = m.take (i + 1) := by
  rw [List.take_add_one, List.take_add_one, List.take_set_of_le (Nat.le_refl _), h]
  congr 1
  rw [List.getElem?_set_self hl, List.getElem?_eq_getElem hm, hv]

theorem eta_query (x : S29) : x = ⟨x.f0, x.f1, x.f2, x.f3, x.f4, x.f5⟩ := by cases x; rfl

theorem toQueryS_l0 (l : List S24) (m : List S29) (hn : l.length ≤ 1048576) (hm : m.length = l.length)
    (hp : ∀ (i : Nat) (h : i < l.length) (h' : i < m.length), Ev (fun k => laws_toQuery.f k (l[i]).f0 (l[i]).f1 (l[i]).f2 (l[i]).f3 (l[i]).f4 (l[i]).f5) ((m[i]).f0, (m[i]).f1, (m[i]).f2, (m[i]).f3, (m[i]).f4, (m[i]).f5)) :
    ∀ (d i : Nat) (acc : List S29), i + d = l.length → acc.length = l.length → acc.take i = m.take i → Ev (fun k => laws_toQueryS.l0 k l acc (i : Int)) m := by
  intro d
  induction d with
  | zero =>
    intro i acc hi hl he
    refine Ev.step (fun k => laws_toQueryS.l0.eq_2 _ _ _ _) ?_
    simp only [if_neg (show ¬ ((i : Int) < (l.length : Int)) by omega)]
    rw [List.take_of_length_le (by omega), List.take_of_length_le (by omega)] at he
    rw [he]; exact Ev.now _
  | succ d ih =>
    intro i acc hi hl he
    have hlt : i < l.length := by omega
    refine Ev.step (fun k => laws_toQueryS.l0.eq_2 _ _ _ _) ?_
    simp only [if_pos (show ((i : Int) < (l.length : Int)) by omega), if_pos (show 0 ≤ (i : Int) by omega), rda_get l i hlt, wsucc i (by omega), toNat_cast]
    refine Ev.bind (hp i hlt (by omega)) ?_
    simp only [if_pos (show ((i : Int) < (acc.length : Int)) by omega)]
    exact ih (i + 1) _ (by omega) (by rw [List.length_set]; exact hl) (take_set_succ acc m i _ (by omega) (by omega) (eta_query _) he)

theorem toQuery_ev {q : S24} (hs : smallA q) : ∃ q' : S29, Ev (fun k => laws_toQuery.f k q.f0 q.f1 q.f2 q.f3 q.f4 q.f5) (q'.f0, q'.f1, q'.f2, q'.f3, q'.f4, q'.f5) ∧ smallQ q' := by
  induction hs with
  | mk y h1 h2 h5 _ ih =>
    obtain ⟨m, hm, hp⟩ := list_turn (fun (x : S24) (x' : S29) => Ev (fun k => laws_toQuery.f k x.f0 x.f1 x.f2 x.f3 x.f4 x.f5) (x'.f0, x'.f1, x'.f2, x'.f3, x'.f4, x'.f5) ∧ smallQ x') y.f5 ih
    refine ⟨⟨y.f0, y.f1, y.f2, y.f3, y.f4, m⟩, Ev.step (fun k => laws_toQuery.f.eq_2 _ _ _ _ _ _ _) ?_, smallQ.mk _ h1 h2 (by show m.length ≤ _; omega) (fun x hx => ?_)⟩
    · refine Ev.bind (a := m) (Ev.step (fun k => laws_toQueryS.f.eq_2 _ _) ?_) (Ev.now _)
      simp only [if_pos (show (0 : Int) ≤ (y.f5.length : Int) by omega), toNat_cast, if_pos (show y.f5.length ≤ 3518437208883 by omega)]
      exact toQueryS_l0 y.f5 m h5 hm (fun i h h' => (hp i h h').1) y.f5.length 0 _ (by omega) (by rw [List.length_replicate]) rfl
    · obtain ⟨i, hi, rfl⟩ := List.mem_iff_getElem.1 hx
      have hi' : i < m.length := hi
      exact (hp i (by omega) hi').2

theorem ff : ¬ (false = true) := by decide

def digP (c : Int) : Prop := 48 ≤ c ∧ c ≤ 57
instance (c : Int) : Decidable (digP c) := by unfold digP; infer_instance

def lowP (c : Int) : Prop := 97 ≤ c ∧ c ≤ 122
instance (c : Int) : Decidable (lowP c) := by unfold lowP; infer_instance

def nameFrom (l : List Int) (j : Nat) : Prop := (∀ (i : Nat) (h : i < l.length), j ≤ i → lowP l[i] ∨ (0 < i ∧ digP l[i])) ∧ 1 ≤ l.length ∧ l.length ≤ 8

open Classical in
noncomputable def nameB (l : List Int) : Bool := decide (nameFrom l 0)

theorem nameFrom_end {l : List Int} {j : Nat} (hj : l.length ≤ j) : nameFrom l j ↔ 1 ≤ l.length ∧ l.length ≤ 8 := ⟨fun h => h.2, fun h => ⟨fun i hi hji => by omega, h⟩⟩

theorem nameFrom_step {l : List Int} {j : Nat} (hj : j < l.length) : nameFrom l j ↔ (lowP l[j] ∨ (0 < j ∧ digP l[j])) ∧ nameFrom l (j + 1) := by
  constructor
  · rintro ⟨h, h2⟩
    exact ⟨h j hj (Nat.le_refl _), fun i hi hji => h i hi (by omega), h2⟩
  · rintro ⟨h, h1, h2⟩
    refine ⟨fun i hi hji => ?_, h2⟩
    rcases Nat.lt_or_ge j i with hlt | hge
    · exact h1 i hi hlt
    · obtain rfl : i = j := by omega
      exact h

theorem rd_get (l : List Int) (j : Nat) (h : j < l.length) : rd l (j : Int) = l[j] := by
  unfold rd; simp [List.getD_eq_getElem?_getD, List.getElem?_eq_getElem h]

theorem bt_get (s : ByteArray) (j : Nat) (h : j < (bytesOf s).length) : bt s (j : Int) = (bytesOf s)[j] := by
  rw [← rd_bytesOf, rd_get _ _ h]

theorem ev_eq {α : Type} {g : Nat → Option α} {r : α} (h : ∀ k, g k = some r) : Ev g r := ⟨0, fun k _ => h k⟩

theorem ev_prop {g : Nat → Option Bool} {p q : Prop} [Decidable p] [Decidable q] (h : p ↔ q) (k : Ev g (decide p)) : Ev g (decide q) := by
  have : decide p = decide q := decide_eq_decide.2 h
  rw [← this]; exact k

theorem impl_digit_eq (a : Int) : impl_digit.f a = some (decide (digP a)) := by
  unfold impl_digit.f digP
  by_cases h : a ≥ 48
  · rw [if_pos h]; congr 1; exact decide_eq_decide.2 (by omega)
  · rw [if_neg h]; congr 1; symm; exact decide_eq_false (by omega)

theorem impl_lower_eq (a : Int) : impl_lower.f a = some (decide (lowP a)) := by
  unfold impl_lower.f lowP
  by_cases h : a ≥ 97
  · rw [if_pos h]; congr 1; exact decide_eq_decide.2 (by omega)
  · rw [if_neg h]; congr 1; symm; exact decide_eq_false (by omega)

theorem impl_within_eq (a b c : Int) : impl_within.f a b c = some (decide (b ≤ a ∧ a ≤ c)) := by
  unfold impl_within.f
  by_cases h : a ≥ b
  · rw [if_pos h]; congr 1; exact decide_eq_decide.2 ⟨fun h2 => ⟨h, h2⟩, fun h2 => h2.2⟩
  · rw [if_neg h]; congr 1; symm; exact decide_eq_false (fun h2 => h h2.1)

open Classical in
theorem impl_NameOk_l0 (s : ByteArray) (hn : s.size < 4611686018427387904) : ∀ (d i : Nat), i + d = s.size → Ev (fun k => impl_NameOk.l0 k s (s.size : Int) (i : Int)) (decide (nameFrom (bytesOf s) i)) := by
  have hb := bytesOf_length s
  intro d
  induction d with
  | zero =>
    intro i hi
    refine Ev.step (fun k => impl_NameOk.l0.eq_2 _ _ _ _) ?_
    simp only [if_neg (show ¬ ((i : Int) < (s.size : Int)) by omega), impl_within_eq, Option.bind_some]
    refine ev_prop (nameFrom_end (by omega)).symm ?_
    refine ev_eq fun _ => ?_
    congr 1; exact decide_eq_decide.2 (by omega)
  | succ d ih =>
    intro i hi
    have hs := nameFrom_step (l := bytesOf s) (j := i) (by omega)
    refine Ev.step (fun k => impl_NameOk.l0.eq_2 _ _ _ _) ?_
    simp only [if_pos (show ((i : Int) < (s.size : Int)) by omega), if_pos (show 0 ≤ (i : Int) by omega), wsucc i (by omega), bt_get s i (by omega), impl_lower_eq, impl_digit_eq, Option.bind_some, decide_eq_true_eq]
    by_cases h1 : lowP (bytesOf s)[i]
    · simp only [if_pos h1]
      exact ev_prop (hs.trans ⟨fun h => h.2, fun h => ⟨.inl h1, h⟩⟩).symm (ih (i + 1) (by omega))
    · simp only [if_neg h1]
      by_cases h0 : (i : Int) = 0
      · simp only [if_pos h0]
        have : decide (nameFrom (bytesOf s) i) = false := decide_eq_false (fun h => by rcases (hs.1 h).1 with h2 | h2; exact h1 h2; omega)
        rw [this]; exact Ev.now _
      · simp only [if_neg h0]
        by_cases h2 : digP (bytesOf s)[i]
        · simp only [if_pos h2]
          exact ev_prop (hs.trans ⟨fun h => h.2, fun h => ⟨.inr ⟨by omega, h2⟩, h⟩⟩).symm (ih (i + 1) (by omega))
        · simp only [if_neg h2]
          have : decide (nameFrom (bytesOf s) i) = false := decide_eq_false (fun h => by rcases (hs.1 h).1 with h3 | h3; exact h1 h3; exact h2 h3.2)
          rw [this]; exact Ev.now _

theorem impl_NameOk_ev (s : ByteArray) (hn : s.size < 4611686018427387904) : Ev (fun k => impl_NameOk.f k s) (nameB (bytesOf s)) := impl_NameOk_l0 s hn s.size 0 (by omega)

def isE (s : ByteArray) : Bool := s.size == 0

noncomputable def fldB (q : S29) : Bool := isE q.f1 || nameB (bytesOf q.f1)

theorem toList_data (s : ByteArray) : s.toList = s.data.toList := by
  exact ByteArray.toList_eq s

theorem toList_inj {a b : ByteArray} : a.toList = b.toList ↔ a = b := by
  rw [toList_data, toList_data]
  constructor
  · intro h; exact ByteArray.ext (Array.toList_inj.1 h)
  · rintro rfl; rfl

def foldB (s : ByteArray) : ByteArray := strOfNums ((bytesOf s).map foldC)

theorem impl_Fold_eq (s : ByteArray) (hn : s.size < 70368744177664) : impl_Fold.f s = some (foldB s) := by
  unfold impl_Fold.f
  rw [if_pos (by omega)]; rfl

theorem bytesOf_range (s : ByteArray) : ∀ c ∈ bytesOf s, 0 ≤ c ∧ c ≤ 255 := by
  intro c hc
  obtain ⟨b, _, rfl⟩ := List.mem_map.1 hc
  have := b.toNat_lt
  omega

theorem bytesOf_strOfNums (l : List Int) (h : ∀ c ∈ l, 0 ≤ c ∧ c ≤ 255) : bytesOf (strOfNums l) = l := by
  unfold bytesOf
  rw [strOfNums_data, List.map_map]
  conv => rhs; rw [← List.map_id l]
  apply List.map_congr_left
  intro c hc
  have := h c hc
  simp only [Function.comp, id]
  rw [UInt8.toNat_ofNat']
  omega

theorem foldC_range (c : Int) (h : 0 ≤ c ∧ c ≤ 255) : 0 ≤ foldC c ∧ foldC c ≤ 255 := by
  unfold foldC; split <;> omega

theorem bytesOf_foldB (s : ByteArray) : bytesOf (foldB s) = (bytesOf s).map foldC := by
  unfold foldB
  apply bytesOf_strOfNums
  intro c hc
  obtain ⟨b, hb, rfl⟩ := List.mem_map.1 hc
  exact foldC_range b (bytesOf_range s b hb)

theorem foldB_size (s : ByteArray) : (foldB s).size = s.size := by
  rw [← bytesOf_length, bytesOf_foldB, List.length_map, bytesOf_length]

theorem rdOf_get {α : Type} (d : α) (l : List α) (j : Nat) (h : j < l.length) : rdOf d l (j : Int) = l[j] := by
  unfold rdOf; simp [List.getD_eq_getElem?_getD, List.getElem?_eq_getElem h]

theorem rdOf_str (l : List ByteArray) (j : Nat) (h : j < l.length) : rdOf ByteArray.empty l (j : Int) = l[j] := rdOf_get _ l j h

open Classical in
theorem slices_Index_string_string_l0 (l : List ByteArray) (n : ByteArray) (hn : l.length < 4611686018427387904) : ∀ (d i : Nat), i + d = l.length → ∃ r : Int, Ev (fun k => slices_Index_string_string.l0 k l n (l.length : Int) (i : Int)) r ∧ decide (r ≥ 0) = decide (n ∈ l.drop i) := by
  intro d
  induction d with
  | zero =>
    intro i hi
    refine ⟨-1, Ev.step (fun k => slices_Index_string_string.l0.eq_2 _ _ _ _ _) ?_, ?_⟩
    · simp only [if_neg (show ¬ ((i : Int) < (l.length : Int)) by omega)]
      exact Ev.now _
    · rw [List.drop_of_length_le (by omega)]; simp
  | succ d ih =>
    intro i hi
    have hs := mem_drop_step (l := l) (n := n) (show i < l.length by omega)
    by_cases h : n = l[i]
    · refine ⟨(i : Int), Ev.step (fun k => slices_Index_string_string.l0.eq_2 _ _ _ _ _) ?_, ?_⟩
      · simp only [if_pos (show ((i : Int) < (l.length : Int)) by omega), if_pos (show 0 ≤ (i : Int) by omega), rdOf_str l i (by omega), toList_inj, if_pos h]
        exact Ev.now _
      · rw [decide_eq_true (hs.2 (.inl h))]; simp
    · obtain ⟨r, h1, h2⟩ := ih (i + 1) (by omega)
      refine ⟨r, Ev.step (fun k => slices_Index_string_string.l0.eq_2 _ _ _ _ _) ?_, ?_⟩
      · simp only [if_pos (show ((i : Int) < (l.length : Int)) by omega), if_pos (show 0 ≤ (i : Int) by omega), rdOf_str l i (by omega), toList_inj, if_neg h, wsucc i (by omega)]
        exact h1
      · rw [h2]; exact decide_eq_decide.2 (hs.trans ⟨fun h1 => h1.resolve_left h, .inr⟩).symm

open Classical in
theorem slices_Contains_string_string_ev (l : List ByteArray) (n : ByteArray) (hn : l.length < 4611686018427387904) : Ev (fun k => slices_Contains_string_string.f k l n) (decide (n ∈ l)) := by
  obtain ⟨r, h1, h2⟩ := slices_Index_string_string_l0 l n hn l.length 0 (by omega)
  simp only [slices_Contains_string_string.f]
  refine Ev.bind (a := r) h1 ?_
  rw [h2]; exact Ev.now _

open Classical in
noncomputable def unStop (w : ByteArray) : ByteArray := if w ∈ stopsL then (⟨#[]⟩ : ByteArray) else w

open Classical in
theorem impl_Stem_j0 (x : ByteArray) (hx : x.size ≤ 100) (b : Bool) (hb : b = true → 1 ≤ x.size) : Ev (fun k => impl_Stem.j0 k x (x.size : Int) b) (unStop (if b = true then x.extract 0 (x.size - 1) else x)) := by
  refine Ev.step (fun k => impl_Stem.j0.eq_2 _ _ _ _) ?_
  cases b with
  | false =>
    simp only [if_neg (show ¬ (false = true) by decide)]
    refine Ev.bind (slices_Contains_string_string_ev stopsL x (by decide)) ?_
    unfold unStop
    by_cases h : x ∈ stopsL
    · simp only [if_pos h, decide_eq_true h, if_true]; exact Ev.now _
    · simp only [if_neg h, decide_eq_false h, if_neg (show ¬ (false = true) by decide)]; exact Ev.now _
  | true =>
    have h1 := hb rfl
    simp only [if_true, wrap_id (x := (x.size : Int) - 1) (by omega) (by omega), if_pos (show 0 ≤ (x.size : Int) - 1 by omega), if_pos (show (x.size : Int) - 1 ≤ (x.size : Int) by omega), show ((x.size : Int) - 1).toNat = x.size - 1 by omega]
    refine Ev.bind (slices_Contains_string_string_ev stopsL _ (by decide)) ?_
    unfold unStop
    by_cases h : x.extract 0 (x.size - 1) ∈ stopsL
    · simp only [if_pos h, decide_eq_true h, if_true]; exact Ev.now _
    · simp only [if_neg h, decide_eq_false h, if_neg (show ¬ (false = true) by decide)]; exact Ev.now _

def cut12 (w : ByteArray) : ByteArray := w.extract 0 (min w.size 12)

theorem extract_size (w : ByteArray) (n : Nat) (h : n ≤ w.size) : (w.extract 0 n).size = n := by rw [ByteArray.size_extract]; omega

theorem cut12_size (w : ByteArray) : (cut12 w).size = min w.size 12 := extract_size w _ (Nat.min_le_left _ _)

def lessS (w : ByteArray) : Bool := decide (w.size > 3 ∧ bt w ((w.size : Int) - 1) = 115 ∧ bt w ((w.size : Int) - 2) ≠ 115)

def noS (w : ByteArray) : ByteArray := if lessS w = true then w.extract 0 (w.size - 1) else w

noncomputable def stemB (s : ByteArray) : ByteArray := unStop (noS (cut12 (foldB s)))

theorem impl_Stem_ev (s : ByteArray) (hs : s.size < 70368744177664) : Ev (fun k => impl_Stem.f k s) (stemB s) := by
  simp only [impl_Stem.f]
  have hz := foldB_size s
  simp only [impl_Fold_eq s hs, Option.bind_some]
  have hmn : mn ((foldB s).size : Int) 12 = ((min (foldB s).size 12 : Nat) : Int) := by unfold mn; split <;> omega
  simp only [hmn, if_pos (show (0 : Int) ≤ ((min (foldB s).size 12 : Nat) : Int) by omega), if_pos (show ((min (foldB s).size 12 : Nat) : Int) ≤ ((foldB s).size : Int) by omega), Int.toNat_natCast]
  have hc : (foldB s).extract 0 (min (foldB s).size 12) = cut12 (foldB s) := rfl
  have hx : (cut12 (foldB s)).size ≤ 100 := by rw [cut12_size]; omega
  simp only [hc]
  unfold stemB
  generalize cut12 (foldB s) = x at hx
  have key : ∀ b : Bool, b = lessS x → Ev (fun k => impl_Stem.j0 k x (x.size : Int) b) (unStop (noS x)) := by
    intro b hb
    have := impl_Stem_j0 x hx b (fun h => by
      rw [hb] at h
      have := (of_decide_eq_true h).1
      omega)
    rw [hb] at this ⊢
    exact this
  by_cases h3 : (x.size : Int) > 3
  · simp only [if_pos h3, wrap_id (x := (x.size : Int) - 1) (by omega) (by omega), wrap_id (x := (x.size : Int) - 2) (by omega) (by omega), if_pos (show 0 ≤ (x.size : Int) - 1 by omega), if_pos (show (x.size : Int) - 1 < (x.size : Int) by omega), if_pos (show 0 ≤ (x.size : Int) - 2 by omega), if_pos (show (x.size : Int) - 2 < (x.size : Int) by omega)]
    by_cases h4 : bt x ((x.size : Int) - 1) = 115
    · simp only [if_pos h4]
      refine key _ ?_
      unfold lessS
      by_cases h5 : bt x ((x.size : Int) - 2) = 115
      · rw [decide_eq_false (fun h => h.2.2 h5)]; simp [h5]
      · rw [decide_eq_true ⟨by omega, h4, h5⟩]; simp [h5]
    · simp only [if_neg h4]
      refine key _ ?_
      unfold lessS
      rw [decide_eq_false (fun h => h4 h.2.1)]
  · simp only [if_neg h3]
    refine key _ ?_
    unfold lessS
    rw [decide_eq_false (fun h => by have := h.1; omega)]

theorem ev_eqB {α : Type} {g : Nat → Option α} {a b : α} (h : a = b) (k : Ev g a) : Ev g b := h ▸ k

def plB (q : S29) : Bool := decide (q.f3 = 0) && (q.f4 == 0)

def bareB (q : S29) : Bool := isE q.f1 && (isE q.f2 && plB q)

def rngB (n : Int) : Bool := decide (-999999999 ≤ n ∧ n ≤ 999999999)

def upP (c : Int) : Prop := 65 ≤ c ∧ c ≤ 90
instance (c : Int) : Decidable (upP c) := by unfold upP; infer_instance

def wordP (c : Int) : Prop := upP c ∨ lowP c ∨ digP c
instance (c : Int) : Decidable (wordP c) := by unfold wordP; infer_instance

/-- A text is a single word if it is not empty and all its bytes are of words. -/
def oneP (s : ByteArray) : Prop := (∀ c ∈ bytesOf s, wordP c) ∧ s.size ≠ 0

def joinT (xs : List ByteArray) (sep : ByteArray) : ByteArray := ⟨(Lib.join (xs.map (·.data.toList)) sep.data.toList).toArray⟩

/-- Where the words of a row of bytes stand: from position p on; st: where the open word began. -/
def wordsAt : Nat → Option Nat → List Int → List (Nat × Nat)
  | _, none, [] => []
  | p, some st, [] => [(st, p)]
  | p, none, c :: cs => if wordP c then wordsAt (p + 1) (some p) cs else wordsAt (p + 1) none cs
  | p, some st, c :: cs => if wordP c then wordsAt (p + 1) (some st) cs else (st, p) :: wordsAt (p + 1) none cs

def mkWord (s : ByteArray) (q : Nat × Nat) : S51 := ⟨s.extract q.1 q.2, (q.1 : Int), (q.2 : Int)⟩

def wordsOf (s : ByteArray) : List S51 := (wordsAt 0 none (bytesOf s)).map (mkWord s)

/-- The texts of a text's words. -/
def wordT (s : ByteArray) : List ByteArray := (wordsOf s).map (fun w => w.f0)

/-- How many words a text is, with single blanks between them and nothing else; 0 if it is not so. -/
def wordsN (s : ByteArray) : Nat := if joinT (wordT s) (⟨#[32]⟩ : ByteArray) = s then (wordT s).length else 0

open Classical in
noncomputable def leafB (fld pl : Bool) (q : S29) : Bool :=
  if q.f0 = 1 then (isE q.f1 && (isE q.f2 && pl))
  else if q.f0 = 2 then (fld && (pl && (decide (q.f2.size ≤ 60) && (decide (oneP q.f2) && !isE (stemB q.f2)))))
  else if q.f0 = 3 then (fld && (pl && (decide (q.f2.size ≤ 60) && decide (2 ≤ wordsN q.f2 ∧ wordsN q.f2 ≤ 4))))
  else if q.f0 = 4 then (fld && (pl && (decide (1 ≤ q.f2.size ∧ q.f2.size ≤ 12) && (decide (oneP q.f2) && decide (foldB q.f2 = q.f2)))))
  else if q.f0 = 5 then (nameB (bytesOf q.f1) && (isE q.f2 && (rngB q.f3 && rngB q.f4)))
  else if q.f0 = 6 then (nameB (bytesOf q.f1) && (nameB (bytesOf q.f2) && pl))
  else false

def nodeK (q : S29) : Bool := decide (((q.f0 = 7 ∨ q.f0 = 8) ∧ 2 ≤ q.f5.length ∧ q.f5.length ≤ 4) ∨ (q.f0 = 9 ∧ q.f5.length = 1))

noncomputable def okB : Nat → S29 → Bool
  | 0, _ => false
  | d + 1, q => if q.f5.length = 0 then leafB (fldB q) (plB q) q else q.f5.all (okB d) && (nodeK q && bareB q)

theorem impl_ok_l0 (d : Nat) (hd : d + 1 ≤ 4) (l : List S29) (hn : l.length ≤ 1048576) (hP : ∀ x ∈ l, Ev (fun k => impl_Query_ok.f k x.f0 x.f1 x.f2 x.f3 x.f4 x.f5 (5 - (d : Int))) (okB d x)) :
    ∀ (e i : Nat), i + e = l.length → Ev (fun k => impl_Query_ok.l0 k (5 - ((d + 1 : Nat) : Int)) l (l.length : Int) (i : Int)) ((l.drop i).all (okB d)) := by
  intro e
  induction e with
  | zero =>
    intro i hi
    refine Ev.step (fun k => impl_Query_ok.l0.eq_2 _ _ _ _ _) ?_
    rw [List.drop_eq_nil_of_le (by omega)]
    simp only [if_neg (show ¬ ((i : Int) < (l.length : Int)) by omega), List.all_nil]
    exact Ev.now _
  | succ e ih =>
    intro i hi
    have hlt : i < l.length := by omega
    have hw : wrap64 (5 - ((d + 1 : Nat) : Int) + 1) = 5 - (d : Int) := by rw [wrap_id (by omega) (by omega)]; omega
    refine Ev.step (fun k => impl_Query_ok.l0.eq_2 _ _ _ _ _) ?_
    simp only [if_pos (show ((i : Int) < (l.length : Int)) by omega), if_pos (show 0 ≤ (i : Int) by omega), rdq_get _ i hlt, wsucc i (by omega), hw]
    rw [List.drop_eq_getElem_cons hlt, List.all_cons]
    refine Ev.bind (hP _ (List.getElem_mem hlt)) ?_
    cases okB d (l[i]'hlt)
    · simp only [if_neg ff, Bool.false_and]; exact Ev.now _
    · simp only [if_true, Bool.true_and]; exact ih (i + 1) (by omega)

theorem toList_nil (s : ByteArray) : s.toList = ([] : List UInt8) ↔ isE s = true := by
  rw [toList_data]
  have h : s.data.toList.length = s.size := rfl
  unfold isE
  rw [beq_iff_eq, ← h]
  exact List.length_eq_zero_iff.symm

/-- Behind the kind and the number of parts: nothing else is said, and the parts are good. -/
theorem impl_ok_j3 (d : Nat) (hd : d + 1 ≤ 4) (q : S29) (hn : q.f5.length ≤ 1048576) (hP : ∀ x ∈ q.f5, Ev (fun k => impl_Query_ok.f k x.f0 x.f1 x.f2 x.f3 x.f4 x.f5 (5 - (d : Int))) (okB d x)) :
    Ev (fun k => impl_Query_ok.j3 k (5 - ((d + 1 : Nat) : Int)) (!isE q.f2) (!plB q) q.f0 q.f1 q.f2 q.f3 q.f4 q.f5) (q.f5.all (okB d) && bareB q) := by
  have hl := impl_ok_l0 d hd q.f5 hn hP q.f5.length 0 (by omega)
  rw [List.drop_zero] at hl
  refine Ev.step (fun k => impl_Query_ok.j3.eq_2 _ _ _ _ _ _ _ _ _ _) ?_
  unfold bareB
  simp only [toList_nil]
  cases isE q.f1
  · simp only [if_neg ff, Bool.false_and, Bool.and_false]
    refine Ev.step (fun k => impl_Query_ok.j4.eq_2 _ _ _ _ _ _ _ _ _) ?_
    simp only [if_true]; exact Ev.now _
  cases isE q.f2
  · simp only [Bool.not_false, if_true, Bool.false_and, Bool.and_false]
    refine Ev.step (fun k => impl_Query_ok.j4.eq_2 _ _ _ _ _ _ _ _ _) ?_
    simp only [if_true]; exact Ev.now _
  simp only [Bool.not_true, if_neg ff, if_true, Bool.true_and]
  refine Ev.step (fun k => impl_Query_ok.j4.eq_2 _ _ _ _ _ _ _ _ _) ?_
  cases plB q
  · simp only [Bool.not_false, if_true, Bool.and_false]; exact Ev.now _
  · simp only [Bool.not_true, if_neg ff, Bool.and_true]; exact hl

theorem impl_ok_j2 (d : Nat) (hd : d + 1 ≤ 4) (q : S29) (hn : q.f5.length ≤ 1048576) (hP : ∀ x ∈ q.f5, Ev (fun k => impl_Query_ok.f k x.f0 x.f1 x.f2 x.f3 x.f4 x.f5 (5 - (d : Int))) (okB d x)) (b : Bool) (hb : b = decide (q.f0 = 7 ∨ q.f0 = 8)) :
    Ev (fun k => impl_Query_ok.j2 k (5 - ((d + 1 : Nat) : Int)) (!isE q.f2) (!plB q) (q.f5.length : Int) q.f0 b q.f0 q.f1 q.f2 q.f3 q.f4 q.f5) (q.f5.all (okB d) && (nodeK q && bareB q)) := by
  have h3 := impl_ok_j3 d hd q hn hP
  refine Ev.step (fun k => impl_Query_ok.j2.eq_2 _ _ _ _ _ _ _ _ _ _ _ _ _) ?_
  unfold nodeK
  subst hb
  by_cases c : q.f0 = 7 ∨ q.f0 = 8
  · simp only [decide_eq_true c, if_true, impl_within_eq, Option.bind_some, decide_eq_true_eq]
    by_cases l : 2 ≤ q.f5.length ∧ q.f5.length ≤ 4
    · simp only [if_pos (show (2 : Int) ≤ (q.f5.length : Int) ∧ (q.f5.length : Int) ≤ 4 by omega), decide_eq_true (show ((q.f0 = 7 ∨ q.f0 = 8) ∧ 2 ≤ q.f5.length ∧ q.f5.length ≤ 4) ∨ (q.f0 = 9 ∧ q.f5.length = 1) from .inl ⟨c, l⟩), Bool.true_and]
      exact h3
    · simp only [if_neg (show ¬ ((2 : Int) ≤ (q.f5.length : Int) ∧ (q.f5.length : Int) ≤ 4) by omega), decide_eq_false (show ¬ (((q.f0 = 7 ∨ q.f0 = 8) ∧ 2 ≤ q.f5.length ∧ q.f5.length ≤ 4) ∨ (q.f0 = 9 ∧ q.f5.length = 1)) by omega), Bool.false_and, Bool.and_false]
      exact Ev.now _
  · simp only [decide_eq_false c, if_neg ff]
    by_cases c9 : q.f0 = 9
    · simp only [if_pos c9]
      by_cases l : q.f5.length = 1
      · simp only [if_pos (show (q.f5.length : Int) = 1 by omega), decide_eq_true (show ((q.f0 = 7 ∨ q.f0 = 8) ∧ 2 ≤ q.f5.length ∧ q.f5.length ≤ 4) ∨ (q.f0 = 9 ∧ q.f5.length = 1) from .inr ⟨c9, l⟩), Bool.true_and]
        exact h3
      · simp only [if_neg (show ¬ ((q.f5.length : Int) = 1) by omega), decide_eq_false (show ¬ (((q.f0 = 7 ∨ q.f0 = 8) ∧ 2 ≤ q.f5.length ∧ q.f5.length ≤ 4) ∨ (q.f0 = 9 ∧ q.f5.length = 1)) by omega), Bool.false_and, Bool.and_false]
        exact Ev.now _
    · simp only [if_neg c9, decide_eq_false (show ¬ (((q.f0 = 7 ∨ q.f0 = 8) ∧ 2 ≤ q.f5.length ∧ q.f5.length ≤ 4) ∨ (q.f0 = 9 ∧ q.f5.length = 1)) by omega), Bool.false_and, Bool.and_false]
      exact Ev.now _

/-- A text cut at a byte, so many times at most; acc: what stands of the first piece. -/
def cutW (c : UInt8) : Nat → List UInt8 → List UInt8 → List (List UInt8)
  | _, acc, [] => [acc]
  | 0, acc, x :: xs => [acc ++ x :: xs]
  | n + 1, acc, x :: xs => if x = c then acc :: cutW c n [] xs else cutW c (n + 1) (acc ++ [x]) xs

def mkT (l : List UInt8) : ByteArray := ⟨l.toArray⟩

/-- The pieces of a text between the bytes c. -/
def splitT (c : UInt8) (s : ByteArray) : List ByteArray := (cutW c (s.data.toList.count c) [] s.data.toList).map mkT

theorem mkT_data (s : ByteArray) : mkT s.data.toList = s := by cases s; rfl

theorem cutW_zero (c : UInt8) (acc l : List UInt8) : cutW c 0 acc l = [acc ++ l] := by cases l <;> simp [cutW]

theorem cutW_run (c : UInt8) : ∀ (x : List UInt8) (n : Nat) (acc r : List UInt8), c ∉ x → cutW c n acc (x ++ r) = cutW c n (acc ++ x) r
  | [], n, acc, r, _ => by simp
  | a :: x, 0, acc, r, _ => by rw [cutW_zero, cutW_zero]; simp
  | a :: x, n + 1, acc, r, h => by
    have h1 : a ≠ c := fun e => h (by simp [e])
    rw [List.cons_append, cutW, if_neg h1, cutW_run c x (n + 1) _ r (fun e => h (List.mem_cons_of_mem _ e))]
    simp

theorem indexByte_at (c : UInt8) (r : List UInt8) : ∀ (x : List UInt8), c ∉ x → Lib.indexByte (x ++ c :: r) c = (x.length : Int)
  | [], _ => by simp [Lib.indexByte]
  | a :: x, h => by
    have ha : a ≠ c := fun e => h (by simp [e])
    have := indexByte_at c r x (fun e => h (List.mem_cons_of_mem _ e))
    simp [Lib.indexByte, this, ha]

theorem indexByte_out (c : UInt8) : ∀ (l : List UInt8), c ∉ l → Lib.indexByte l c = -1
  | [], _ => rfl
  | x :: l, h => by
    have hx : x ≠ c := fun e => h (by simp [e])
    have := indexByte_out c l (fun e => h (List.mem_cons_of_mem _ e))
    simp [Lib.indexByte, this, hx]

theorem splitK_eq (c : UInt8) : ∀ (k : Nat) (l : List UInt8), Lib.splitK [c] 0 k l = cutW c k [] l
  | 0, l => by rw [cutW_zero]; rfl
  | k + 1, l => by
    unfold Lib.splitK
    rw [Lib.index_one]
    by_cases h : c ∈ l
    · obtain ⟨x, r, rfl, hx⟩ := List.eq_append_cons_of_mem h
      rw [indexByte_at c r x hx, if_neg (by simp), splitK_eq c k, cutW_run c x (k + 1) [] _ hx, cutW, if_pos rfl]
      simp
    · rw [indexByte_out c l h, if_pos (by decide)]
      have := cutW_run c l (k + 1) [] [] h
      rw [List.append_nil, List.nil_append] at this
      rw [this]; simp [cutW]

theorem Split_eq (c : UInt8) (s : ByteArray) (hs : s.size < 4294967281) : strings_Split.f s ⟨#[c]⟩ = some (splitT c s) := by
  unfold strings_Split.f
  rw [if_pos ⟨hs, Nat.le_refl _⟩]
  have e : (⟨#[c]⟩ : ByteArray).data.toList = [c] := rfl
  have h1 := Lib.splitB_data ⟨#[c]⟩ 0 (Lib.countB s ⟨#[c]⟩) s
  rw [e, splitK_eq] at h1
  have h2 : Lib.countB s ⟨#[c]⟩ = s.data.toList.count c := by
    show Lib.count s.data.toList [c] = _
    exact Lib.count_one c _
  rw [h2] at h1 ⊢
  unfold splitT
  rw [← h1, List.map_map]
  congr 1
  conv => lhs; rw [← List.map_id (Lib.splitB _ _ _ _)]
  exact List.map_congr_left (fun x _ => (mkT_data x).symm)

theorem cutW_length (c : UInt8) : ∀ (l : List UInt8) (n : Nat) (acc : List UInt8), (cutW c n acc l).length ≤ l.length + 1 ∧ (cutW c n acc l).length ≤ n + 1 ∧ 1 ≤ (cutW c n acc l).length
  | [], n, acc => by simp [cutW]
  | x :: xs, 0, acc => by simp [cutW]
  | x :: xs, n + 1, acc => by
    have h1 := cutW_length c xs n []
    have h2 := cutW_length c xs (n + 1) (acc ++ [x])
    unfold cutW
    split
    · simp only [List.length_cons]; omega
    · simp only [List.length_cons]; omega

theorem data_size (s : ByteArray) : s.data.toList.length = s.size := rfl

theorem splitT_length (c : UInt8) (s : ByteArray) : (splitT c s).length ≤ s.size + 1 ∧ 1 ≤ (splitT c s).length := by
  unfold splitT
  have := cutW_length c s.data.toList (s.data.toList.count c) []
  rw [List.length_map]; rw [data_size] at this; omega

theorem cutW_size (c : UInt8) : ∀ (l : List UInt8) (n : Nat) (acc : List UInt8), ∀ p ∈ cutW c n acc l, p.length ≤ acc.length + l.length
  | [], n, acc => by simp [cutW]
  | x :: xs, 0, acc => by simp [cutW]
  | x :: xs, n + 1, acc => by
    intro p hp
    unfold cutW at hp
    split at hp
    · rcases List.mem_cons.1 hp with rfl | hp
      · omega
      · have := cutW_size c xs n [] p hp
        simp only [List.length_nil, List.length_cons] at this ⊢; omega
    · have := cutW_size c xs (n + 1) (acc ++ [x]) p hp
      simp only [List.length_append, List.length_cons, List.length_nil] at this ⊢; omega

theorem mkT_size (l : List UInt8) : (mkT l).size = l.length := by simp [mkT, ByteArray.size]

theorem splitT_size {c : UInt8} {s p : ByteArray} (h : p ∈ splitT c s) : p.size ≤ s.size := by
  obtain ⟨x, hx, rfl⟩ := List.mem_map.1 h
  have := cutW_size c _ _ _ x hx
  rw [data_size] at this
  rw [mkT_size]; simpa using this

theorem ev_false {g : Nat → Option Bool} {p : Prop} [Decidable p] (h : ¬ p) (k : Ev g false) : Ev g (decide p) := by
  rw [decide_eq_false h]; exact k

theorem impl_upper_eq (a : Int) : impl_upper.f a = some (decide (upP a)) := by
  unfold impl_upper.f upP
  by_cases h : a ≥ 65
  · rw [if_pos h]; congr 1; exact decide_eq_decide.2 (by omega)
  · rw [if_neg h]; congr 1; symm; exact decide_eq_false (by omega)

theorem impl_wordByte_eq (c : Int) : impl_wordByte.f c = some (decide (wordP c)) := by
  simp only [impl_wordByte.f, impl_upper_eq, impl_lower_eq, impl_digit_eq, Option.bind_some, decide_eq_true_eq]
  by_cases h1 : upP c
  · rw [if_pos h1, decide_eq_true (show wordP c from .inl h1)]
  · rw [if_neg h1]
    by_cases h2 : lowP c
    · rw [if_pos h2, decide_eq_true (show wordP c from .inr (.inl h2))]
    · rw [if_neg h2]; congr 1; exact decide_eq_decide.2 ⟨fun h => .inr (.inr h), fun h => (h.resolve_left h1).resolve_left h2⟩

open Classical in
theorem impl_isWord_l0 (s : ByteArray) (hs : s.size < 70368744177664) : ∀ (d i : Nat), i + d = s.size → Ev (fun k => impl_isWord.l0 k s (s.size : Int) (i : Int)) (decide ((∀ c ∈ (bytesOf s).drop i, wordP c) ∧ s.size ≠ 0)) := by
  have hlen := bytesOf_length s
  intro d
  induction d with
  | zero =>
    intro i hi
    refine Ev.step (fun k => impl_isWord.l0.eq_2 _ _ _ _) ?_
    simp only [if_neg (show ¬ ((i : Int) < (s.size : Int)) by omega)]
    rw [List.drop_eq_nil_of_le (by omega)]
    have e : (s.toList != ([] : List UInt8)) = decide ((∀ c ∈ ([] : List Int), wordP c) ∧ s.size ≠ 0) := by
      rw [toList_data]
      by_cases h : s.size = 0
      · have : s.data.toList = [] := by
          apply List.length_eq_zero_iff.1
          have : s.data.toList.length = s.size := rfl
          omega
        rw [this, decide_eq_false (fun h2 => h2.2 h)]; rfl
      · have : s.data.toList ≠ [] := by
          intro h2
          have h3 : s.data.toList.length = s.size := rfl
          rw [h2] at h3; exact h h3.symm
        rw [decide_eq_true ⟨fun c hc => by simp at hc, h⟩]; exact bne_iff_ne.2 this
    rw [e]; exact Ev.now _
  | succ d ih =>
    intro i hi
    refine Ev.step (fun k => impl_isWord.l0.eq_2 _ _ _ _) ?_
    simp only [if_pos (show ((i : Int) < (s.size : Int)) by omega), if_pos (show 0 ≤ (i : Int) by omega), bt_get s i (by omega), impl_wordByte_eq, Option.bind_some, decide_eq_true_eq, wsucc i (by omega)]
    have e := List.drop_eq_getElem_cons (l := bytesOf s) (i := i) (by omega)
    by_cases hw : wordP (bytesOf s)[i]
    · simp only [if_pos hw]
      refine ev_prop ?_ (ih (i + 1) (by omega))
      rw [e]
      constructor
      · rintro ⟨h1, h2⟩
        exact ⟨fun c hc => by rcases List.mem_cons.1 hc with h | h; exact h ▸ hw; exact h1 c h, h2⟩
      · rintro ⟨h1, h2⟩
        exact ⟨fun c hc => h1 c (List.mem_cons_of_mem _ hc), h2⟩
    · simp only [if_neg hw]
      refine ev_false (fun h => hw (h.1 _ ?_)) (Ev.now _)
      rw [e]; exact List.mem_cons_self ..

open Classical in
theorem impl_isWord_ev (s : ByteArray) (hs : s.size < 70368744177664) : Ev (fun k => impl_isWord.f k s) (decide (oneP s)) := by
  simp only [impl_isWord.f]
  refine ev_prop ?_ (impl_isWord_l0 s hs s.size 0 (by omega))
  unfold oneP
  rw [List.drop_zero]

open Classical in
theorem impl_wordsOk_l0 (s : ByteArray) (a b : Int) (L : List ByteArray) (hn : L.length ≤ 1048578) (hs : ∀ p ∈ L, p.size ≤ 1048576) : ∀ (d i : Nat), i + d = L.length →
    Ev (fun k => impl_wordsOk.l0 k s a b L L (L.length : Int) (i : Int)) (decide ((∀ p ∈ L.drop i, oneP p) ∧ (a ≤ (L.length : Int) ∧ (L.length : Int) ≤ b) ∧ s.size ≤ 60)) := by
  intro d
  induction d with
  | zero =>
    intro i hi
    refine Ev.step (fun k => impl_wordsOk.l0.eq_2 _ _ _ _ _ _ _ _) ?_
    simp only [if_neg (show ¬ ((i : Int) < (L.length : Int)) by omega), impl_within_eq, Option.bind_some, decide_eq_true_eq]
    rw [List.drop_eq_nil_of_le (by omega)]
    by_cases h : a ≤ (L.length : Int) ∧ (L.length : Int) ≤ b
    · simp only [if_pos h]
      refine ev_prop (p := ((s.size : Int) ≤ 60)) ⟨fun h2 => ⟨by simp, h, by omega⟩, fun h2 => by have := h2.2.2; omega⟩ (Ev.now _)
    · simp only [if_neg h]
      exact ev_false (fun h2 => h h2.2.1) (Ev.now _)
  | succ d ih =>
    intro i hi
    refine Ev.step (fun k => impl_wordsOk.l0.eq_2 _ _ _ _ _ _ _ _) ?_
    simp only [if_pos (show ((i : Int) < (L.length : Int)) by omega), if_pos (show 0 ≤ (i : Int) by omega), rdOf_get _ L i (by omega), wsucc i (by omega)]
    refine Ev.bind (impl_isWord_ev _ (by have := hs _ (List.getElem_mem (show i < L.length by omega)); omega)) ?_
    by_cases h : oneP (L[i]'(by omega))
    · simp only [decide_eq_true h, if_true]
      refine ev_prop ?_ (ih (i + 1) (by omega))
      constructor
      · rintro ⟨h1, h2⟩
        exact ⟨fun p hp => by rcases (mem_drop_step (by omega)).1 hp with h3 | h3; exact h3 ▸ h; exact h1 p h3, h2⟩
      · rintro ⟨h1, h2⟩
        exact ⟨fun p hp => h1 p ((mem_drop_step (by omega)).2 (.inr hp)), h2⟩
    · simp only [decide_eq_false h, if_neg (show ¬ (false = true) by decide)]
      exact ev_false (fun h2 => h (h2.1 _ ((mem_drop_step (by omega)).2 (.inl rfl)))) (Ev.now _)

open Classical in
theorem impl_wordsOk_ev (s : ByteArray) (a b : Int) (hs : s.size ≤ 1048576) : Ev (fun k => impl_wordsOk.f k s a b) (decide ((∀ p ∈ splitT 32 s, oneP p) ∧ (a ≤ ((splitT 32 s).length : Int) ∧ ((splitT 32 s).length : Int) ≤ b) ∧ s.size ≤ 60)) := by
  have hl := splitT_length 32 s
  simp only [impl_wordsOk.f, Split_eq 32 s (show s.size < 4294967281 by omega), Option.bind_some]
  have := impl_wordsOk_l0 s a b (splitT 32 s) (by omega) (fun p hp => by have := splitT_size hp; omega) (splitT 32 s).length 0 (by omega)
  rw [List.drop_zero] at this
  exact this

theorem data_mkT (l : List UInt8) : (mkT l).data.toList = l := by simp [mkT]

theorem joinT_data (x0 : ByteArray) (xs : List ByteArray) (c : UInt8) : (joinT (x0 :: xs) ⟨#[c]⟩).data.toList = x0.data.toList ++ Lib.joinTail [c] (xs.map (·.data.toList)) := by
  unfold joinT
  rw [List.map_cons, Lib.join_cons]

theorem joinTail_cons1 (c : UInt8) (x : List UInt8) (xs : List (List UInt8)) : Lib.joinTail [c] (x :: xs) = c :: (x ++ Lib.joinTail [c] xs) := by
  unfold Lib.joinTail; simp

theorem cutW_join (c : UInt8) : ∀ (l : List UInt8) (n : Nat) (acc : List UInt8), ∃ x0 xs, cutW c n acc l = x0 :: xs ∧ x0 ++ Lib.joinTail [c] xs = acc ++ l
  | [], n, acc => ⟨acc, [], by cases n <;> rfl, rfl⟩
  | x :: xs, 0, acc => ⟨acc ++ x :: xs, [], rfl, List.append_nil _⟩
  | x :: xs, n + 1, acc => by
    by_cases h : x = c
    · obtain ⟨x0, ys, e, hj⟩ := cutW_join c xs n []
      refine ⟨acc, x0 :: ys, by rw [cutW, if_pos h, e], ?_⟩
      rw [joinTail_cons1, hj, List.nil_append, h]
    · obtain ⟨x0, ys, e, hj⟩ := cutW_join c xs (n + 1) (acc ++ [x])
      refine ⟨x0, ys, by rw [cutW, if_neg h, e], ?_⟩
      rw [hj, List.append_assoc]; rfl

theorem joinT_splitT (c : UInt8) (s : ByteArray) : joinT (splitT c s) (⟨#[c]⟩ : ByteArray) = s := by
  unfold splitT
  obtain ⟨x0, xs, e, hj⟩ := cutW_join c s.data.toList (s.data.toList.count c) []
  rw [e, List.map_cons]
  apply ByteArray.ext
  apply Array.toList_inj.1
  rw [joinT_data, List.map_map, data_mkT]
  have e2 : xs.map ((fun x : ByteArray => x.data.toList) ∘ mkT) = xs := by
    conv => rhs; rw [← List.map_id xs]
    exact List.map_congr_left (fun x _ => data_mkT x)
  rw [e2, hj]; rfl

theorem count_tail (c : UInt8) : ∀ (xs : List (List UInt8)), (∀ x ∈ xs, c ∉ x) → (Lib.joinTail [c] xs).count c = xs.length
  | [], _ => rfl
  | x :: xs, h => by
    rw [joinTail_cons1, List.count_cons_self, List.count_append, count_tail c xs (fun y hy => h y (List.mem_cons_of_mem _ hy)), List.count_eq_zero.2 (h x (by simp))]
    simp

/-- A text cut at the first n bytes c. -/
def cutT (c : UInt8) (n : Nat) (s : ByteArray) : List ByteArray := (cutW c n [] s.data.toList).map mkT

theorem cutW_tail (c : UInt8) : ∀ (xs : List (List UInt8)) (n : Nat) (x0 : List UInt8), (∀ x ∈ x0 :: xs, c ∉ x) → xs.length ≤ n → cutW c n [] (x0 ++ Lib.joinTail [c] xs) = x0 :: xs
  | [], n, x0, h, _ => by
    have e : Lib.joinTail [c] [] = [] := rfl
    rw [e, cutW_run c x0 n [] [] (h x0 (by simp))]
    cases n <;> simp [cutW]
  | x1 :: xs, 0, x0, h, hl => by simp at hl
  | x1 :: xs, n + 1, x0, h, hl => by
    rw [joinTail_cons1, cutW_run c x0 (n + 1) [] _ (h x0 (by simp)), cutW, if_pos rfl, cutW_tail c xs n x1 (fun x hx => h x (List.mem_cons_of_mem _ hx)) (by simp at hl; omega)]
    simp

theorem cutT_joinT (c : UInt8) (n : Nat) (x0 : ByteArray) (xs : List ByteArray) (h : ∀ x ∈ x0 :: xs, c ∉ x.data.toList) (hl : xs.length ≤ n) : cutT c n (joinT (x0 :: xs) ⟨#[c]⟩) = x0 :: xs := by
  unfold cutT
  rw [joinT_data, cutW_tail c _ n _ (by
    intro y hy
    rcases List.mem_cons.1 hy with rfl | hy
    · exact h x0 (by simp)
    · obtain ⟨z, hz, rfl⟩ := List.mem_map.1 hy
      exact h z (List.mem_cons_of_mem _ hz)) (by rw [List.length_map]; exact hl)]
  rw [List.map_cons, mkT_data, List.map_map]
  congr 1
  conv => rhs; rw [← List.map_id xs]
  exact List.map_congr_left (fun x _ => mkT_data x)

theorem splitT_joinT (c : UInt8) (x0 : ByteArray) (xs : List ByteArray) (h : ∀ x ∈ x0 :: xs, c ∉ x.data.toList) : splitT c (joinT (x0 :: xs) ⟨#[c]⟩) = x0 :: xs := by
  have e : (joinT (x0 :: xs) ⟨#[c]⟩).data.toList.count c = xs.length := by
    rw [joinT_data, List.count_append, List.count_eq_zero.2 (h x0 (by simp)), count_tail c _ (by
      intro y hy
      obtain ⟨z, hz, rfl⟩ := List.mem_map.1 hy
      exact h z (List.mem_cons_of_mem _ hz)), List.length_map, Nat.zero_add]
  have := cutT_joinT c xs.length x0 xs h (Nat.le_refl _)
  unfold splitT
  rw [e]; exact this

theorem oneP_blank {x : ByteArray} (h : oneP x) : (32 : UInt8) ∉ x.data.toList := by
  intro hm
  have h1 : (((32 : UInt8).toNat : Nat) : Int) ∈ bytesOf x := List.mem_map.2 ⟨32, hm, rfl⟩
  have h2 := h.1 _ h1
  have e : (((32 : UInt8).toNat : Nat) : Int) = 32 := rfl
  rw [e] at h2
  unfold wordP upP lowP digP at h2; omega

def Good (hi : Nat) : Nat → List (Nat × Nat) → Prop
  | _, [] => True
  | lo, q :: qs => lo ≤ q.1 ∧ q.1 < q.2 ∧ q.2 ≤ hi ∧ Good hi (q.2 + 1) qs

theorem Good.mem {hi : Nat} : ∀ {l : List (Nat × Nat)} {lo : Nat}, Good hi lo l → ∀ q ∈ l, q.1 < q.2 ∧ q.2 ≤ hi
  | [], _, _, q, hq => by simp at hq
  | x :: xs, lo, h, q, hq => by
    rcases List.mem_cons.1 hq with h1 | h1
    · subst h1; exact ⟨h.2.1, h.2.2.1⟩
    · exact Good.mem h.2.2.2 q h1

theorem bytesOf_extract (s : ByteArray) (a b : Nat) : bytesOf (s.extract a b) = ((bytesOf s).drop a).take (b - a) := by
  unfold bytesOf
  rw [ByteArray.data_extract, Array.toList_extract]
  simp [List.extract, List.map_take, List.map_drop]

theorem wordsAt_ge : ∀ (l : List Int) (p x y : Nat), ((x, y) ∈ wordsAt p none l → p ≤ x) ∧ ∀ st, (x, y) ∈ wordsAt p (some st) l → x = st ∨ p ≤ x
  | [], p, x, y => ⟨fun h => by simp [wordsAt] at h, fun st h => by simp [wordsAt] at h; exact .inl h.1⟩
  | c :: cs, p, x, y => by
    have ih := wordsAt_ge cs (p + 1) x y
    constructor
    · intro h
      by_cases hw : wordP c
      · simp only [wordsAt, if_pos hw] at h
        rcases ih.2 p h with h1 | h1 <;> omega
      · simp only [wordsAt, if_neg hw] at h
        have := ih.1 h; omega
    · intro st h
      by_cases hw : wordP c
      · simp only [wordsAt, if_pos hw] at h
        rcases ih.2 st h with h1 | h1
        · exact .inl h1
        · exact .inr (by omega)
      · simp only [wordsAt, if_neg hw, List.mem_cons] at h
        rcases h with h | h
        · exact .inl (congrArg Prod.fst h)
        · exact .inr (by have := ih.1 h; omega)

theorem wordsAt_in : ∀ (l : List Int) (p : Nat) (o : Option Nat) (x y : Nat), (x, y) ∈ wordsAt p o l → ∀ (q : Nat) (h : q < l.length), x ≤ p + q → p + q < y → wordP l[q]
  | [], p, o, x, y, _, q, h, _, _ => by simp at h
  | c :: cs, p, o, x, y, hm, q, h, h1, h2 => by
    by_cases hw : wordP c
    · cases q with
      | zero => exact hw
      | succ q =>
        have h' : q < cs.length := by simpa using h
        cases o with
        | none =>
          simp only [wordsAt, if_pos hw] at hm
          exact wordsAt_in cs (p + 1) _ x y hm q h' (by omega) (by omega)
        | some st =>
          simp only [wordsAt, if_pos hw] at hm
          exact wordsAt_in cs (p + 1) _ x y hm q h' (by omega) (by omega)
    · have tail : (x, y) ∈ wordsAt (p + 1) none cs → wordP (c :: cs)[q] := by
        intro hm'
        have hge := (wordsAt_ge cs (p + 1) x y).1 hm'
        cases q with
        | zero => omega
        | succ q =>
          have h' : q < cs.length := by simpa using h
          exact wordsAt_in cs (p + 1) none x y hm' q h' (by omega) (by omega)
      cases o with
      | none =>
        simp only [wordsAt, if_neg hw] at hm
        exact tail hm
      | some st =>
        simp only [wordsAt, if_neg hw, List.mem_cons] at hm
        rcases hm with hm | hm
        · have e2 : y = p := congrArg Prod.snd hm
          omega
        · exact tail hm

theorem Good.mono {hi : Nat} {lo lo' : Nat} {l : List (Nat × Nat)} (h : Good hi lo l) (hl : lo' ≤ lo) : Good hi lo' l := by
  cases l with
  | nil => trivial
  | cons q qs => exact ⟨by have := h.1; omega, h.2⟩

theorem wordsAt_good (hi : Nat) : ∀ (l : List Int) (p : Nat), p + l.length = hi → Good hi p (wordsAt p none l) ∧ ∀ st, st < p → Good hi st (wordsAt p (some st) l) := by
  intro l
  induction l with
  | nil =>
    intro p hp
    refine ⟨trivial, fun st hst => ?_⟩
    simp at hp
    exact ⟨Nat.le_refl _, hst, by show p ≤ hi; omega, trivial⟩
  | cons c cs ih =>
    intro p hp
    simp at hp
    have h := ih (p + 1) (by omega)
    constructor
    · by_cases hw : wordP c
      · simp only [wordsAt, if_pos hw]; exact h.2 p (by omega)
      · simp only [wordsAt, if_neg hw]; exact h.1.mono (by omega)
    · intro st hst
      by_cases hw : wordP c
      · simp only [wordsAt, if_pos hw]; exact h.2 st (by omega)
      · simp only [wordsAt, if_neg hw]; exact ⟨Nat.le_refl _, hst, by show p ≤ hi; omega, h.1⟩

theorem wordT_eq (s : ByteArray) : wordT s = (wordsAt 0 none (bytesOf s)).map (fun q => s.extract q.1 q.2) := by
  unfold wordT wordsOf
  rw [List.map_map]; rfl

theorem wordT_mem {s p : ByteArray} (h : p ∈ wordT s) : oneP p := by
  rw [wordT_eq] at h
  obtain ⟨q, hq, rfl⟩ := List.mem_map.1 h
  have hlen := bytesOf_length s
  have g := (wordsAt_good s.size (bytesOf s) 0 (by omega)).1
  have hg := Good.mem g q hq
  refine ⟨fun c hc => ?_, ?_⟩
  · rw [bytesOf_extract] at hc
    obtain ⟨j, hj, rfl⟩ := List.mem_iff_getElem.1 hc
    have hj' : j < q.2 - q.1 := by rw [List.length_take] at hj; omega
    rw [List.getElem_take, List.getElem_drop]
    exact wordsAt_in (bytesOf s) 0 none q.1 q.2 hq (q.1 + j) (by omega) (by omega) (by omega)
  · rw [ByteArray.size_extract]; omega

theorem split_wordT {s : ByteArray} (h0 : wordT s ≠ []) (h : joinT (wordT s) (⟨#[32]⟩ : ByteArray) = s) : splitT 32 s = wordT s := by
  have hm : ∀ p ∈ wordT s, oneP p := fun p hp => wordT_mem hp
  revert h0 h hm
  generalize wordT s = L
  intro h0 h hm
  cases L with
  | nil => exact absurd rfl h0
  | cons x0 xs => rw [← h]; exact splitT_joinT 32 x0 xs (fun x hx => oneP_blank (hm x hx))

theorem mk_append2 (a b : List UInt8) : (⟨(a ++ b).toArray⟩ : ByteArray) = (⟨a.toArray⟩ : ByteArray) ++ (⟨b.toArray⟩ : ByteArray) := by
  apply ByteArray.ext
  rw [ByteArray.data_append]
  simp

theorem mk_data (x : ByteArray) : (⟨x.data.toList.toArray⟩ : ByteArray) = x := by cases x; rfl

def tailT (xs : List ByteArray) (sep : ByteArray) : ByteArray := ⟨(Lib.joinTail sep.data.toList (xs.map (·.data.toList))).toArray⟩

theorem joinT_cons (x : ByteArray) (xs : List ByteArray) (sep : ByteArray) : joinT (x :: xs) sep = x ++ tailT xs sep := by
  unfold joinT tailT
  rw [List.map_cons, Lib.join_cons, mk_append2, mk_data]

theorem tailT_nil (sep : ByteArray) : tailT [] sep = ⟨#[]⟩ := rfl

theorem joinT_single (x sep : ByteArray) : joinT [x] sep = x := by
  rw [joinT_cons, tailT_nil]; exact ByteArray.append_empty

theorem tailT_cons (x : ByteArray) (xs : List ByteArray) (sep : ByteArray) : tailT (x :: xs) sep = (sep ++ x) ++ tailT xs sep := by
  unfold tailT Lib.joinTail
  rw [List.map_cons, List.map_cons, List.flatten_cons, mk_append2, mk_append2, mk_data, mk_data]

theorem joinT_two (x y : ByteArray) (xs : List ByteArray) (sep : ByteArray) : joinT (x :: y :: xs) sep = (x ++ sep) ++ joinT (y :: xs) sep := by
  rw [joinT_cons, tailT_cons, joinT_cons, ByteArray.append_assoc, ByteArray.append_assoc]

theorem bytesOf_append (a b : ByteArray) : bytesOf (a ++ b) = bytesOf a ++ bytesOf b := by
  unfold bytesOf
  rw [ByteArray.data_append, Array.toList_append, List.map_append]

theorem bytesOf_inj {a b : ByteArray} (h : bytesOf a = bytesOf b) : a = b := by
  have h1 : a.data.toList = b.data.toList := by
    have hl : a.data.toList.length = b.data.toList.length := by
      have := congrArg List.length h
      simpa [bytesOf] using this
    apply List.ext_getElem hl
    intro i h1 h2
    have h3 : (bytesOf a)[i]? = (bytesOf b)[i]? := by rw [h]
    simp only [bytesOf, List.getElem?_map, List.getElem?_eq_getElem h1, List.getElem?_eq_getElem h2, Option.map_some, Option.some.injEq] at h3
    exact UInt8.toNat_inj.1 (by omega)
  exact ByteArray.ext (Array.toList_inj.1 h1)

theorem wordsAt_blank : ∀ (l m : List Int) (p : Nat) (o : Option Nat), wordsAt p o (l ++ 32 :: m) = wordsAt p o l ++ wordsAt (p + l.length + 1) none m
  | [], m, p, none => by
    have h : ¬ wordP 32 := by unfold wordP upP lowP digP; omega
    simp only [List.nil_append, wordsAt, if_neg h, List.length_nil, Nat.add_zero]
  | [], m, p, some st => by
    have h : ¬ wordP 32 := by unfold wordP upP lowP digP; omega
    simp only [List.nil_append, wordsAt, if_neg h, List.length_nil, Nat.add_zero, List.cons_append]
  | c :: cs, m, p, none => by
    have e : p + (cs.length + 1) + 1 = p + 1 + cs.length + 1 := by omega
    by_cases h : wordP c
    · simp only [List.cons_append, wordsAt, if_pos h, List.length_cons, e]; exact wordsAt_blank cs m (p + 1) _
    · simp only [List.cons_append, wordsAt, if_neg h, List.length_cons, e]; exact wordsAt_blank cs m (p + 1) _
  | c :: cs, m, p, some st => by
    have e : p + (cs.length + 1) + 1 = p + 1 + cs.length + 1 := by omega
    by_cases h : wordP c
    · simp only [List.cons_append, wordsAt, if_pos h, List.length_cons, e]; exact wordsAt_blank cs m (p + 1) _
    · simp only [List.cons_append, wordsAt, if_neg h, List.length_cons, e]; rw [wordsAt_blank cs m (p + 1) _]

theorem wordsAt_shift (k : Nat) : ∀ (m : List Int) (p : Nat), wordsAt (p + k) none m = (wordsAt p none m).map (fun q => (q.1 + k, q.2 + k)) ∧ ∀ st, wordsAt (p + k) (some (st + k)) m = (wordsAt p (some st) m).map (fun q => (q.1 + k, q.2 + k))
  | [], p => ⟨rfl, fun _ => rfl⟩
  | c :: cs, p => by
    have ih := wordsAt_shift k cs (p + 1)
    have e : p + k + 1 = p + 1 + k := by omega
    constructor
    · by_cases h : wordP c
      · simp only [wordsAt, if_pos h, e]; exact ih.2 p
      · simp only [wordsAt, if_neg h, e]; exact ih.1
    · intro st
      by_cases h : wordP c
      · simp only [wordsAt, if_pos h, e]; exact ih.2 st
      · simp only [wordsAt, if_neg h, e, List.map_cons]; rw [ih.1]

theorem wordT_blank (a b : ByteArray) : wordT ((a ++ (⟨#[32]⟩ : ByteArray)) ++ b) = wordT a ++ wordT b := by
  have hl : bytesOf ((a ++ (⟨#[32]⟩ : ByteArray)) ++ b) = bytesOf a ++ 32 :: bytesOf b := by
    have h0 : bytesOf (⟨#[32]⟩ : ByteArray) = [32] := rfl
    rw [bytesOf_append, bytesOf_append, h0, List.append_assoc, List.singleton_append]
  have hla := bytesOf_length a
  have hlb := bytesOf_length b
  have ga := (wordsAt_good a.size (bytesOf a) 0 (by omega)).1
  rw [wordT_eq, wordT_eq, wordT_eq, hl, wordsAt_blank, List.map_append]
  refine congr (congrArg HAppend.hAppend ?_) ?_
  · refine List.map_congr_left (fun q hq => ?_)
    have hg := Good.mem ga q hq
    refine bytesOf_inj ?_
    rw [bytesOf_extract, bytesOf_extract, hl, List.drop_append_of_le_length (by omega), List.take_append_of_le_length (by rw [List.length_drop]; omega)]
  · have hs := (wordsAt_shift ((bytesOf a).length + 1) (bytesOf b) 0).1
    rw [show 0 + (bytesOf a).length + 1 = 0 + ((bytesOf a).length + 1) by omega, hs, List.map_map]
    refine List.map_congr_left (fun q hq => ?_)
    simp only [Function.comp]
    refine bytesOf_inj ?_
    rw [bytesOf_extract, bytesOf_extract, hl, show q.2 + ((bytesOf a).length + 1) - (q.1 + ((bytesOf a).length + 1)) = q.2 - q.1 by omega]
    refine congrArg (List.take (q.2 - q.1)) ?_
    rw [List.drop_append, List.drop_of_length_le (by omega), List.nil_append, show q.1 + ((bytesOf a).length + 1) - (bytesOf a).length = q.1 + 1 by omega, List.drop_succ_cons]

theorem extract_all (s : ByteArray) : s.extract 0 s.size = s := by
  apply ByteArray.ext
  rw [ByteArray.data_extract]
  show s.data.extract 0 s.data.size = s.data
  simp

theorem wordsAt_all : ∀ (l : List Int) (p st : Nat), (∀ c ∈ l, wordP c) → wordsAt p (some st) l = [(st, p + l.length)]
  | [], p, st, _ => rfl
  | c :: cs, p, st, h => by
    simp only [wordsAt, if_pos (h c (List.mem_cons_self ..))]
    rw [wordsAt_all cs (p + 1) st (fun x hx => h x (List.mem_cons_of_mem _ hx))]
    simp; omega

theorem wordsAt_whole (l : List Int) (hl : l ≠ []) (h : ∀ c ∈ l, wordP c) : wordsAt 0 none l = [(0, l.length)] := by
  cases l with
  | nil => exact absurd rfl hl
  | cons c cs =>
    simp only [wordsAt, if_pos (h c (List.mem_cons_self ..))]
    rw [wordsAt_all cs 1 0 (fun x hx => h x (List.mem_cons_of_mem _ hx))]
    simp; omega

theorem wordsOf_whole (s : ByteArray) (hl : s.size ≠ 0) (h : ∀ c ∈ bytesOf s, wordP c) : wordsOf s = [(⟨s, 0, (s.size : Int)⟩ : S51)] := by
  unfold wordsOf
  rw [wordsAt_whole (bytesOf s) (by intro e; apply hl; rw [← bytesOf_length, e]; rfl) h, bytesOf_length]
  show [mkWord s (0, s.size)] = _
  unfold mkWord
  rw [extract_all]; rfl

theorem wordT_one {s : ByteArray} (h : oneP s) : wordT s = [s] := by
  unfold wordT
  rw [wordsOf_whole s h.2 h.1]; rfl

theorem wordT_joinT : ∀ (xs : List ByteArray) (x0 : ByteArray), (∀ x ∈ x0 :: xs, oneP x) → wordT (joinT (x0 :: xs) (⟨#[32]⟩ : ByteArray)) = x0 :: xs
  | [], x0, h => by rw [joinT_single, wordT_one (h x0 (by simp))]
  | x1 :: xs, x0, h => by
    rw [joinT_two, wordT_blank, wordT_one (h x0 (by simp)), wordT_joinT xs x1 (fun x hx => h x (List.mem_cons_of_mem _ hx))]; rfl

theorem wordT_split {s : ByteArray} (h : ∀ p ∈ splitT 32 s, oneP p) : wordT s = splitT 32 s := by
  have hl := (splitT_length 32 s).2
  have hj := joinT_splitT 32 s
  revert h hl hj
  generalize splitT 32 s = L
  intro h hl hj
  cases L with
  | nil => exact absurd hl (by simp)
  | cons x0 xs => rw [← hj]; exact wordT_joinT xs x0 h

theorem wordsN_iff (s : ByteArray) (n : Nat) (hn : 0 < n) : wordsN s = n ↔ ((∀ p ∈ splitT 32 s, oneP p) ∧ (splitT 32 s).length = n) := by
  unfold wordsN
  constructor
  · intro h
    by_cases hj : joinT (wordT s) (⟨#[32]⟩ : ByteArray) = s
    · rw [if_pos hj] at h
      have h0 : wordT s ≠ [] := fun e => by rw [e] at h; simp at h; omega
      rw [split_wordT h0 hj]
      exact ⟨fun p hp => wordT_mem hp, h⟩
    · rw [if_neg hj] at h; omega
  · rintro ⟨h, hl⟩
    rw [wordT_split h, if_pos (joinT_splitT 32 s), hl]

open Classical in
theorem impl_wordsOk_many (s : ByteArray) (hs : s.size ≤ 1048576) : Ev (fun k => impl_wordsOk.f k s 2 4) (decide ((2 ≤ wordsN s ∧ wordsN s ≤ 4) ∧ s.size ≤ 60)) := by
  refine ev_prop ?_ (impl_wordsOk_ev s 2 4 hs)
  constructor
  · rintro ⟨h1, h2, h3⟩
    have := (wordsN_iff s (splitT 32 s).length (by omega)).2 ⟨h1, rfl⟩
    exact ⟨by omega, h3⟩
  · rintro ⟨h1, h3⟩
    obtain ⟨h4, h5⟩ := (wordsN_iff s (wordsN s) (by omega)).1 rfl
    exact ⟨h4, by omega, h3⟩

theorem wordsN_one (s : ByteArray) : wordsN s = 1 ↔ oneP s := by
  constructor
  · intro h
    obtain ⟨h1, h2⟩ := (wordsN_iff s 1 (by omega)).1 h
    have hj := joinT_splitT 32 s
    revert h1 h2 hj
    generalize splitT 32 s = L
    intro h1 h2 hj
    match L, h2 with
    | [x], _ => rw [joinT_single] at hj; rw [← hj]; exact h1 x (by simp)
  · intro h
    unfold wordsN
    rw [wordT_one h, joinT_single, if_pos rfl]; rfl

open Classical in
theorem impl_wordsOk_one (s : ByteArray) (hs : s.size ≤ 1048576) : Ev (fun k => impl_wordsOk.f k s 1 1) (decide (oneP s ∧ s.size ≤ 60)) := by
  refine ev_prop ?_ (impl_wordsOk_ev s 1 1 hs)
  constructor
  · rintro ⟨h1, h2, h3⟩
    exact ⟨(wordsN_one s).1 ((wordsN_iff s 1 (by omega)).2 ⟨h1, by omega⟩), h3⟩
  · rintro ⟨h1, h3⟩
    obtain ⟨h4, h5⟩ := (wordsN_iff s 1 (by omega)).1 ((wordsN_one s).2 h1)
    exact ⟨h4, by omega, h3⟩

/-- A question with no parts, or one of a kind that has parts. -/
noncomputable def levelB (fld : Bool) (d : Nat) (q : S29) : Bool := if q.f5.length = 0 then leafB fld (plB q) q else q.f5.all (okB d) && (nodeK q && bareB q)

theorem level_leaf (fld : Bool) (d : Nat) (q : S29) (h : q.f0 ≠ 7 ∧ q.f0 ≠ 8 ∧ q.f0 ≠ 9) : levelB fld d q = (leafB fld (plB q) q && ((q.f5.length : Int) == 0)) := by
  unfold levelB
  by_cases l : q.f5.length = 0
  · rw [if_pos l, show ((q.f5.length : Int) == 0) = true from beq_iff_eq.2 (by omega), Bool.and_true]
  · rw [if_neg l, show ((q.f5.length : Int) == 0) = false from beq_eq_false_iff_ne.2 (by omega), Bool.and_false]
    unfold nodeK
    rw [decide_eq_false (by omega), Bool.false_and, Bool.and_false]

theorem level_node (fld : Bool) (d : Nat) (q : S29) (h : ¬ q.f0 = 1 ∧ ¬ q.f0 = 2 ∧ ¬ q.f0 = 3 ∧ ¬ q.f0 = 4 ∧ ¬ q.f0 = 5 ∧ ¬ q.f0 = 6) : levelB fld d q = (q.f5.all (okB d) && (nodeK q && bareB q)) := by
  unfold levelB
  by_cases l : q.f5.length = 0
  · rw [if_pos l]
    have hk : nodeK q = false := by unfold nodeK; exact decide_eq_false (by omega)
    rw [hk, Bool.false_and, Bool.and_false]
    unfold leafB
    rw [if_neg h.1, if_neg h.2.1, if_neg h.2.2.1, if_neg h.2.2.2.1, if_neg h.2.2.2.2.1, if_neg h.2.2.2.2.2]
  · rw [if_neg l]

open Classical in
theorem impl_ok_j1 (d : Nat) (hd : d + 1 ≤ 4) (fld : Bool) (q : S29) (h1 : q.f1.size ≤ 1048576) (h2 : q.f2.size ≤ 1048576) (hn : q.f5.length ≤ 1048576) (hP : ∀ x ∈ q.f5, Ev (fun k => impl_Query_ok.f k x.f0 x.f1 x.f2 x.f3 x.f4 x.f5 (5 - (d : Int))) (okB d x)) :
    Ev (fun k => impl_Query_ok.j1 k (5 - ((d + 1 : Nat) : Int)) (!isE q.f2) (!plB q) (q.f5.length : Int) fld q.f0 q.f1 q.f2 q.f3 q.f4 q.f5) (levelB fld d q) := by
  refine Ev.step (fun k => impl_Query_ok.j1.eq_2 _ _ _ _ _ _ _ _ _ _ _ _) ?_
  by_cases c1 : q.f0 = 1
  · rw [level_leaf fld d q (by omega)]
    unfold leafB
    simp only [if_pos c1, toList_nil]
    cases isE q.f1
    · simp only [if_neg ff, Bool.false_and]; exact Ev.now _
    cases isE q.f2
    · simp only [Bool.not_false, if_true, Bool.false_and, Bool.and_false]; exact Ev.now _
    cases plB q
    · simp only [Bool.not_true, Bool.not_false, if_neg ff, if_true, Bool.false_and, Bool.and_false]; exact Ev.now _
    · simp only [Bool.not_true, if_neg ff, if_true, Bool.true_and]; exact Ev.now _
  by_cases c2 : q.f0 = 2
  · rw [level_leaf fld d q (by omega)]
    unfold leafB
    simp only [if_neg c1, if_pos c2]
    cases fld
    · simp only [if_neg ff, Bool.false_and]; exact Ev.now _
    simp only [if_true, Bool.true_and]
    refine Ev.bind (impl_wordsOk_one _ h2) ?_
    by_cases o : oneP q.f2 ∧ q.f2.size ≤ 60
    · simp only [decide_eq_true o, decide_eq_true o.1, decide_eq_true o.2, if_true, Bool.true_and]
      refine Ev.bind (impl_Stem_ev _ (by omega)) ?_
      simp only [toList_nil]
      cases isE (stemB q.f2)
      · cases plB q
        · simp only [Bool.not_false, if_neg ff, if_true, Bool.false_and]; exact Ev.now _
        · simp only [Bool.not_true, Bool.not_false, if_neg ff, Bool.true_and]; exact Ev.now _
      · simp only [Bool.not_true, if_true, Bool.false_and, Bool.and_false]; exact Ev.now _
    · simp only [decide_eq_false o, if_neg ff]
      refine ev_eqB ?_ (Ev.now _)
      by_cases o1 : oneP q.f2
      · rw [decide_eq_false (show ¬ q.f2.size ≤ 60 from fun h => o ⟨o1, h⟩), Bool.false_and, Bool.and_false, Bool.false_and]
      · rw [decide_eq_false o1, Bool.false_and, Bool.and_false, Bool.and_false, Bool.false_and]
  by_cases c3 : q.f0 = 3
  · rw [level_leaf fld d q (by omega)]
    unfold leafB
    simp only [if_neg c1, if_neg c2, if_pos c3]
    cases fld
    · simp only [if_neg ff, Bool.false_and]; exact Ev.now _
    simp only [if_true, Bool.true_and]
    refine Ev.bind (impl_wordsOk_many _ h2) ?_
    by_cases o : (2 ≤ wordsN q.f2 ∧ wordsN q.f2 ≤ 4) ∧ q.f2.size ≤ 60
    · simp only [decide_eq_true o, decide_eq_true o.1, decide_eq_true o.2, if_true, Bool.true_and]
      cases plB q
      · simp only [Bool.not_false, if_true, Bool.false_and]; exact Ev.now _
      · simp only [Bool.not_true, if_neg ff, Bool.true_and]; exact Ev.now _
    · simp only [decide_eq_false o, if_neg ff]
      refine ev_eqB ?_ (Ev.now _)
      by_cases o1 : 2 ≤ wordsN q.f2 ∧ wordsN q.f2 ≤ 4
      · rw [decide_eq_false (show ¬ q.f2.size ≤ 60 from fun h => o ⟨o1, h⟩), Bool.false_and, Bool.and_false, Bool.false_and]
      · rw [decide_eq_false o1, Bool.and_false, Bool.and_false, Bool.false_and]
  by_cases c4 : q.f0 = 4
  · rw [level_leaf fld d q (by omega)]
    unfold leafB
    simp only [if_neg c1, if_neg c2, if_neg c3, if_pos c4]
    cases fld
    · simp only [if_neg ff, Bool.false_and]; exact Ev.now _
    simp only [if_true, Bool.true_and]
    refine Ev.bind (impl_isWord_ev _ (by omega)) ?_
    by_cases o : oneP q.f2
    · simp only [decide_eq_true o, if_true, Bool.true_and]
      have hz := o.2
      by_cases e : q.f2.size ≤ 12
      · simp only [if_pos (show (q.f2.size : Int) ≤ 12 by omega), decide_eq_true (show 1 ≤ q.f2.size ∧ q.f2.size ≤ 12 by omega), Bool.true_and, impl_Fold_eq _ (show q.f2.size < 70368744177664 by omega), Option.bind_some, toList_inj]
        by_cases hf : foldB q.f2 = q.f2
        · simp only [if_pos hf, decide_eq_true hf, Bool.and_true]
          cases plB q
          · simp only [Bool.not_false, if_true, Bool.false_and]; exact Ev.now _
          · simp only [Bool.not_true, if_neg ff, Bool.true_and]; exact Ev.now _
        · simp only [if_neg hf, decide_eq_false hf, Bool.and_false, Bool.false_and]; exact Ev.now _
      · simp only [if_neg (show ¬ ((q.f2.size : Int) ≤ 12) by omega), decide_eq_false (show ¬ (1 ≤ q.f2.size ∧ q.f2.size ≤ 12) by omega), Bool.false_and, Bool.and_false]; exact Ev.now _
    · simp only [decide_eq_false o, if_neg ff, Bool.false_and, Bool.and_false]; exact Ev.now _
  by_cases c5 : q.f0 = 5
  · rw [level_leaf fld d q (by omega)]
    unfold leafB
    simp only [if_neg c1, if_neg c2, if_neg c3, if_neg c4, if_pos c5]
    refine Ev.bind (impl_NameOk_ev _ (by omega)) ?_
    cases nameB (bytesOf q.f1)
    · simp only [if_neg ff, Bool.false_and]; exact Ev.now _
    cases isE q.f2
    · simp only [Bool.not_false, if_true, Bool.false_and, Bool.and_false]; exact Ev.now _
    simp only [Bool.not_true, if_neg ff, if_true, Bool.true_and, impl_within_eq, Option.bind_some]
    show Ev (fun k => if rngB q.f3 = true then (if rngB q.f4 = true then some ((q.f5.length : Int) == 0) else some false) else some false) (rngB q.f3 && rngB q.f4 && ((q.f5.length : Int) == 0))
    cases rngB q.f3
    · simp only [if_neg ff, Bool.false_and]; exact Ev.now _
    cases rngB q.f4
    · simp only [if_neg ff, if_true, Bool.false_and, Bool.and_false]; exact Ev.now _
    · simp only [if_true, Bool.true_and]; exact Ev.now _
  by_cases c6 : q.f0 = 6
  · rw [level_leaf fld d q (by omega)]
    unfold leafB
    simp only [if_neg c1, if_neg c2, if_neg c3, if_neg c4, if_neg c5, if_pos c6]
    refine Ev.bind (impl_NameOk_ev _ (by omega)) ?_
    cases nameB (bytesOf q.f1)
    · simp only [if_neg ff, Bool.false_and]; exact Ev.now _
    simp only [if_true, Bool.true_and]
    refine Ev.bind (impl_NameOk_ev _ (by omega)) ?_
    cases nameB (bytesOf q.f2)
    · simp only [if_neg ff, Bool.false_and]; exact Ev.now _
    simp only [if_true, Bool.true_and]
    cases plB q
    · simp only [Bool.not_false, if_true, Bool.false_and]; exact Ev.now _
    · simp only [Bool.not_true, if_neg ff, Bool.true_and]; exact Ev.now _
  rw [level_node fld d q ⟨c1, c2, c3, c4, c5, c6⟩]
  simp only [if_neg c1, if_neg c2, if_neg c3, if_neg c4, if_neg c5, if_neg c6]
  by_cases c7 : q.f0 = 7
  · simp only [if_pos c7]
    exact impl_ok_j2 d hd q hn hP _ (by rw [beq_iff_eq.2 c7, decide_eq_true (.inl c7)])
  · simp only [if_neg c7]
    refine impl_ok_j2 d hd q hn hP _ ?_
    by_cases c8 : q.f0 = 8
    · rw [beq_iff_eq.2 c8, decide_eq_true (.inr c8)]
    · rw [beq_eq_false_iff_ne.2 c8, decide_eq_false (fun h => h.elim c7 c8)]

theorem impl_ok_j0 (d : Nat) (hd : d + 1 ≤ 4) (q : S29) (h1 : q.f1.size ≤ 1048576) (h2 : q.f2.size ≤ 1048576) (hn : q.f5.length ≤ 1048576) (hP : ∀ x ∈ q.f5, Ev (fun k => impl_Query_ok.f k x.f0 x.f1 x.f2 x.f3 x.f4 x.f5 (5 - (d : Int))) (okB d x)) :
    Ev (fun k => impl_Query_ok.j0 k (5 - ((d + 1 : Nat) : Int)) (!isE q.f2) (!plB q) (q.f5.length : Int) q.f0 q.f1 q.f2 q.f3 q.f4 q.f5) (okB (d + 1) q) := by
  have e : okB (d + 1) q = levelB (fldB q) d q := rfl
  rw [e]
  refine Ev.step (fun k => impl_Query_ok.j0.eq_2 _ _ _ _ _ _ _ _ _ _ _) ?_
  unfold fldB
  simp only [toList_nil]
  cases isE q.f1
  · simp only [if_neg ff, Bool.false_or]
    exact Ev.bind (impl_NameOk_ev _ (by omega)) (impl_ok_j1 d hd _ q h1 h2 hn hP)
  · simp only [if_true, Bool.true_or]; exact impl_ok_j1 d hd true q h1 h2 hn hP

theorem nums_not (q : S29) (h : q.f3 = 0) : (q.f4 != 0) = !plB q := by
  unfold plB
  rw [decide_eq_true h, Bool.true_and]; rfl

theorem nums_true (q : S29) (h : ¬ q.f3 = 0) : true = !plB q := by
  unfold plB
  rw [decide_eq_false h]; rfl

theorem toList_bne (s : ByteArray) : (s.toList != ([] : List UInt8)) = !isE s := by
  cases h : isE s with
  | true => rw [(toList_nil s).2 h]; rfl
  | false => exact bne_iff_ne.2 (fun e => by rw [(toList_nil s).1 e] at h; cases h)

theorem impl_ok_ev : ∀ (d : Nat), d ≤ 4 → ∀ q, smallQ q → Ev (fun k => impl_Query_ok.f k q.f0 q.f1 q.f2 q.f3 q.f4 q.f5 (5 - (d : Int))) (okB d q)
  | 0, _, q, _ => by
    refine Ev.step (fun k => impl_Query_ok.f.eq_2 _ _ _ _ _ _ _ _) ?_
    simp only [if_pos (show (5 : Int) - ((0 : Nat) : Int) > 4 by decide), okB]; exact Ev.now _
  | d + 1, hd, q, hq => by
    cases hq with
    | mk _ h1 h2 h5 h6 =>
    have h := impl_ok_j0 d hd q h1 h2 h5 (fun x hx => impl_ok_ev d (by omega) x (h6 x hx))
    refine Ev.step (fun k => impl_Query_ok.f.eq_2 _ _ _ _ _ _ _ _) ?_
    simp only [if_neg (show ¬ ((5 : Int) - ((d + 1 : Nat) : Int) > 4) by omega), toList_bne]
    by_cases c : q.f3 = 0
    · simp only [if_pos c]
      rw [nums_not q c]; exact h
    · simp only [if_neg c]
      rw [nums_true q c]; exact h

theorem impl_QueryOk_ev (q : S29) (hq : smallQ q) : Ev (fun k => impl_QueryOk.f k q.f0 q.f1 q.f2 q.f3 q.f4 q.f5) (okB 4 q) := by
  simp only [impl_QueryOk.f]
  exact Ev.bind (impl_ok_ev 4 (by omega) q hq) (Ev.now _)

theorem drop_get {α : Type} (l : List α) (j : Nat) (h : j < l.length) : l.drop j = l[j] :: l.drop (j + 1) := List.drop_eq_getElem_cons h

theorem foldC_eq (c : Int) : foldC c = if upP c then c + 32 else c := by
  unfold foldC
  by_cases h : 65 ≤ c ∧ c ≤ 90
  · rw [if_pos h, if_pos (show upP c from h)]
  · rw [if_neg h, if_neg (show ¬ upP c from h)]

theorem spec_l1Small_eq (c : Int) (h0 : 0 ≤ c) (h1 : c ≤ 255) : spec_l1Small.f c = some (if upP c then c + 32 else c) := by
  unfold spec_l1Small.f
  by_cases h : upP c
  · have h' : 65 ≤ c ∧ c ≤ 90 := h
    rw [if_pos h'.1, if_pos h'.2, if_pos h]; congr 1; omega
  · have h' : ¬ (65 ≤ c ∧ c ≤ 90) := h
    rw [if_neg h]
    by_cases h2 : c ≥ 65
    · rw [if_pos h2, if_neg (by omega)]
    · rw [if_neg h2]

theorem spec_Fold_l0 (s : ByteArray) (hn : s.size < 70368744177664) : ∀ (d i : Nat) (acc : List Int), i + d = s.size → acc.length ≤ i →
    Ev (fun k => spec_Fold.l0 k s acc (i : Int)) (strOfNums (acc ++ ((bytesOf s).drop i).map foldC)) := by
  have hb := bytesOf_length s
  have hr := bytesOf_range s
  intro d
  induction d with
  | zero =>
    intro i acc hi hacc
    refine Ev.step (fun k => spec_Fold.l0.eq_2 _ _ _ _) ?_
    simp only [if_neg (show ¬ ((i : Int) < (s.size : Int)) by omega)]
    rw [List.drop_of_length_le (by omega), List.map_nil, List.append_nil]
    exact Ev.now _
  | succ d ih =>
    intro i acc hi hacc
    have hc := hr (bytesOf s)[i] (List.getElem_mem _)
    refine Ev.step (fun k => spec_Fold.l0.eq_2 _ _ _ _) ?_
    simp only [if_pos (show ((i : Int) < (s.size : Int)) by omega), if_pos (show 0 ≤ (i : Int) by omega), bt_get s i (by omega), spec_l1Small_eq _ hc.1 hc.2, Option.bind_some, if_pos (show acc.length < 140737488355328 by omega), wsucc i (by omega), ← foldC_eq]
    have := ih (i + 1) (acc ++ [foldC (bytesOf s)[i]]) (by omega) (by simp; omega)
    rw [drop_get (bytesOf s) i (by omega), List.map_cons]
    rw [List.append_assoc, List.singleton_append] at this
    exact this

theorem spec_Fold_ev (s : ByteArray) (hn : s.size < 70368744177664) : Ev (fun k => spec_Fold.f k s) (foldB s) := by
  have := spec_Fold_l0 s hn s.size 0 [] (by omega) (by simp)
  rw [List.nil_append, List.drop_zero] at this
  exact this

theorem spec_l1In_eq (a b c : Int) : spec_l1In.f a b c = some (decide (b ≤ a ∧ a ≤ c)) := by
  unfold spec_l1In.f
  by_cases h : a ≥ b
  · rw [if_pos h]; congr 1; exact decide_eq_decide.2 ⟨fun h2 => ⟨h, h2⟩, fun h2 => h2.2⟩
  · rw [if_neg h]; congr 1; symm; exact decide_eq_false (fun h2 => h h2.1)

open Classical in
theorem spec_NameOk_l0 (s : ByteArray) (hn : s.size < 4611686018427387904) : ∀ (d i : Nat), i + d = s.size → Ev (fun k => spec_NameOk.l0 k s (i : Int)) (decide (nameFrom (bytesOf s) i)) := by
  have hb := bytesOf_length s
  intro d
  induction d with
  | zero =>
    intro i hi
    refine Ev.step (fun k => spec_NameOk.l0.eq_2 _ _ _) ?_
    simp only [if_neg (show ¬ ((i : Int) < (s.size : Int)) by omega), spec_l1In_eq, Option.bind_some]
    refine ev_prop (nameFrom_end (by omega)).symm ?_
    refine ev_eq fun _ => ?_
    congr 1; exact decide_eq_decide.2 (by omega)
  | succ d ih =>
    intro i hi
    have hs := nameFrom_step (l := bytesOf s) (j := i) (by omega)
    refine Ev.step (fun k => spec_NameOk.l0.eq_2 _ _ _) ?_
    simp only [if_pos (show ((i : Int) < (s.size : Int)) by omega), if_pos (show 0 ≤ (i : Int) by omega), wsucc i (by omega), bt_get s i (by omega)]
    by_cases h1 : lowP (bytesOf s)[i]
    · simp only [if_pos (show (bytesOf s)[i] ≥ 97 from h1.1), if_pos h1.2]
      exact ev_prop (hs.trans ⟨fun h => h.2, fun h => ⟨.inl h1, h⟩⟩).symm (ih (i + 1) (by omega))
    · have key : Ev (fun k => if (i : Int) = 0 then some false else if (bytesOf s)[i] < 48 then some false else if (bytesOf s)[i] > 57 then some false else spec_NameOk.l0 k s ((i + 1 : Nat) : Int)) (decide (nameFrom (bytesOf s) i)) := by
        by_cases h0 : (i : Int) = 0
        · simp only [if_pos h0]
          have : decide (nameFrom (bytesOf s) i) = false := decide_eq_false (fun h => by rcases (hs.1 h).1 with h2 | h2; exact h1 h2; omega)
          rw [this]; exact Ev.now _
        · simp only [if_neg h0]
          by_cases h2 : digP (bytesOf s)[i]
          · simp only [if_neg (show ¬ (bytesOf s)[i] < 48 by have := h2.1; omega), if_neg (show ¬ (bytesOf s)[i] > 57 by have := h2.2; omega)]
            exact ev_prop (hs.trans ⟨fun h => h.2, fun h => ⟨.inr ⟨by omega, h2⟩, h⟩⟩).symm (ih (i + 1) (by omega))
          · have : decide (nameFrom (bytesOf s) i) = false := decide_eq_false (fun h => by rcases (hs.1 h).1 with h3 | h3; exact h1 h3; exact h2 h3.2)
            rw [this]
            by_cases h3 : (bytesOf s)[i] < 48
            · simp only [if_pos h3]; exact Ev.now _
            · simp only [if_neg h3, if_pos (show (bytesOf s)[i] > 57 by unfold digP at h2; omega)]; exact Ev.now _
      by_cases h3 : (bytesOf s)[i] ≥ 97
      · simp only [if_pos h3, if_neg (show ¬ (bytesOf s)[i] ≤ 122 by unfold lowP at h1; omega)]; exact key
      · simp only [if_neg h3]; exact key

theorem spec_NameOk_ev (s : ByteArray) (hn : s.size < 4611686018427387904) : Ev (fun k => spec_NameOk.f k s) (nameB (bytesOf s)) := spec_NameOk_l0 s hn s.size 0 (by omega)

theorem ev_true {g : Nat → Option Bool} {p : Prop} [Decidable p] (h : p) (k : Ev g true) : Ev g (decide p) := by
  rw [decide_eq_true h]; exact k

open Classical in
theorem spec_l1Stop_l0 (s : ByteArray) (l : List ByteArray) (hl : l.length < 100) : ∀ (d i : Nat), i + d = l.length → Ev (fun k => spec_l1Stop.l0 k s l (i : Int)) (decide (s ∈ l.drop i)) := by
  intro d
  induction d with
  | zero =>
    intro i hi
    refine Ev.step (fun k => spec_l1Stop.l0.eq_2 _ _ _ _) ?_
    simp only [if_neg (show ¬ ((i : Int) < (l.length : Int)) by omega)]
    refine ev_false (fun h => ?_) (Ev.now _)
    rw [List.drop_eq_nil_of_le (by omega)] at h; simp at h
  | succ d ih =>
    intro i hi
    refine Ev.step (fun k => spec_l1Stop.l0.eq_2 _ _ _ _) ?_
    have e := List.drop_eq_getElem_cons (l := l) (i := i) (by omega)
    simp only [if_pos (show ((i : Int) < (l.length : Int)) by omega), if_pos (show 0 ≤ (i : Int) by omega), rdOf_str l i (by omega), wsucc i (by omega), toList_inj]
    by_cases h : l[i] = s
    · simp only [if_pos h]
      exact ev_true (by rw [e, h]; exact List.mem_cons_self ..) (Ev.now _)
    · simp only [if_neg h]
      refine ev_prop ?_ (ih (i + 1) (by omega))
      rw [e, List.mem_cons]
      exact ⟨.inr, fun h2 => h2.resolve_left (fun h3 => h h3.symm)⟩

open Classical in
theorem spec_l1Stop_ev (s : ByteArray) : Ev (fun k => spec_l1Stop.f k s) (decide (s ∈ stopsL)) := by
  simp only [spec_l1Stop.f]
  exact spec_l1Stop_l0 s stopsL (by decide) 6 0 rfl

open Classical in
theorem spec_Stem_j1 (x : ByteArray) (hx : x.size ≤ 100) (b : Bool) (hb : b = true → 1 ≤ x.size) : Ev (fun k => spec_Stem.j1 k x (x.size : Int) b) (unStop (if b = true then x.extract 0 (x.size - 1) else x)) := by
  refine Ev.step (fun k => spec_Stem.j1.eq_2 _ _ _ _) ?_
  cases b with
  | false =>
    simp only [if_neg (show ¬ (false = true) by decide)]
    refine Ev.bind (spec_l1Stop_ev x) ?_
    unfold unStop
    by_cases h : x ∈ stopsL
    · simp only [if_pos h, decide_eq_true h, if_true]; exact Ev.now _
    · simp only [if_neg h, decide_eq_false h, if_neg (show ¬ (false = true) by decide)]; exact Ev.now _
  | true =>
    have h1 := hb rfl
    simp only [if_true, wrap_id (x := (x.size : Int) - 1) (by omega) (by omega), if_pos (show 0 ≤ (x.size : Int) - 1 by omega), if_pos (show (x.size : Int) - 1 ≤ (x.size : Int) by omega), show ((x.size : Int) - 1).toNat = x.size - 1 by omega]
    refine Ev.bind (spec_l1Stop_ev _) ?_
    unfold unStop
    by_cases h : x.extract 0 (x.size - 1) ∈ stopsL
    · simp only [if_pos h, decide_eq_true h, if_true]; exact Ev.now _
    · simp only [if_neg h, decide_eq_false h, if_neg (show ¬ (false = true) by decide)]; exact Ev.now _

theorem spec_Stem_j0 (x : ByteArray) (hx : x.size ≤ 100) : Ev (fun k => spec_Stem.j0 k x) (unStop (noS x)) := by
  refine Ev.step (fun k => spec_Stem.j0.eq_2 _ _) ?_
  have key : ∀ b : Bool, b = lessS x → Ev (fun k => spec_Stem.j1 k x (x.size : Int) b) (unStop (noS x)) := by
    intro b hb
    have := spec_Stem_j1 x hx b (fun h => by
      rw [hb] at h
      have := (of_decide_eq_true h).1
      omega)
    rw [hb] at this ⊢
    exact this
  by_cases h3 : (x.size : Int) > 3
  · simp only [if_pos h3, wrap_id (x := (x.size : Int) - 1) (by omega) (by omega), wrap_id (x := (x.size : Int) - 2) (by omega) (by omega), if_pos (show 0 ≤ (x.size : Int) - 1 by omega), if_pos (show (x.size : Int) - 1 < (x.size : Int) by omega), if_pos (show 0 ≤ (x.size : Int) - 2 by omega), if_pos (show (x.size : Int) - 2 < (x.size : Int) by omega)]
    by_cases h4 : bt x ((x.size : Int) - 1) = 115
    · simp only [if_pos h4]
      refine key _ ?_
      unfold lessS
      by_cases h5 : bt x ((x.size : Int) - 2) = 115
      · rw [decide_eq_false (fun h => h.2.2 h5)]; simp [h5]
      · rw [decide_eq_true ⟨by omega, h4, h5⟩]; simp [h5]
    · simp only [if_neg h4]
      refine key _ ?_
      unfold lessS
      rw [decide_eq_false (fun h => h4 h.2.1)]
  · simp only [if_neg h3]
    refine key _ ?_
    unfold lessS
    rw [decide_eq_false (fun h => by have := h.1; omega)]

theorem cut12_long (w : ByteArray) (h : 12 < w.size) : cut12 w = w.extract 0 12 := by unfold cut12; rw [Nat.min_eq_right (by omega)]

theorem extract_self (w : ByteArray) : w.extract 0 w.size = w := by
  apply ByteArray.ext
  rw [ByteArray.data_extract]
  exact Array.extract_size

theorem cut12_short (w : ByteArray) (h : w.size ≤ 12) : cut12 w = w := by unfold cut12; rw [Nat.min_eq_left h]; exact extract_self w

theorem spec_Stem_ev (s : ByteArray) (hs : s.size < 70368744177664) : Ev (fun k => spec_Stem.f k s) (stemB s) := by
  simp only [spec_Stem.f]
  have hz := foldB_size s
  refine Ev.bind (spec_Fold_ev s hs) ?_
  unfold stemB
  by_cases h : ((foldB s).size : Int) > 12
  · simp only [if_pos h, if_pos (show (0 : Int) ≤ 12 by omega), if_pos (show (12 : Int) ≤ ((foldB s).size : Int) by omega)]
    rw [cut12_long _ (by omega)]
    exact spec_Stem_j0 _ (by rw [extract_size _ _ (by omega)]; omega)
  · simp only [if_neg h]
    rw [cut12_short _ (by omega)]
    exact spec_Stem_j0 _ (by omega)

theorem beq_texts (a b : ByteArray) (h : a = b) : (a.toList == b.toList) = true := by rw [h]; exact beq_self_eq_true _

theorem bne_texts (a b : ByteArray) (h : a ≠ b) : (a.toList == b.toList) = false := by
  rw [beq_eq_false_iff_ne]; exact fun h2 => h (toList_inj.1 h2)

theorem joinT_nil (sep : ByteArray) : joinT [] sep = ⟨#[]⟩ := rfl

theorem spec_l1Part_eq (c : Int) (h0 : 0 ≤ c) (h1 : c ≤ 255) : spec_l1Part.f c = some (decide (wordP c)) := by
  simp only [spec_l1Part.f, spec_l1Small_eq c h0 h1, Option.bind_some]
  by_cases h : upP c
  · have h' : 65 ≤ c ∧ c ≤ 90 := h
    simp only [if_pos h, if_pos (show c + 32 ≥ 97 by omega), if_pos (show c + 32 ≤ 122 by omega)]
    congr 1; symm; exact decide_eq_true (.inl h)
  · have h' : ¬ (65 ≤ c ∧ c ≤ 90) := h
    simp only [if_neg h]
    by_cases h2 : c ≥ 97
    · simp only [if_pos h2]
      by_cases h3 : c ≤ 122
      · simp only [if_pos h3]; congr 1; symm; exact decide_eq_true (.inr (.inl ⟨h2, h3⟩))
      · simp only [if_neg h3, if_pos (show c ≥ 48 by omega)]; congr 1; exact decide_eq_decide.2 ⟨fun h4 => .inr (.inr ⟨by omega, h4⟩), fun h4 => by rcases h4 with h4 | h4 | h4; exact absurd h4 h; exact absurd h4.2 h3; exact h4.2⟩
    · simp only [if_neg h2]
      by_cases h3 : c ≥ 48
      · simp only [if_pos h3]; congr 1; exact decide_eq_decide.2 ⟨fun h4 => .inr (.inr ⟨by omega, h4⟩), fun h4 => by rcases h4 with h4 | h4 | h4; exact absurd h4 h; exact absurd h4.1 h2; exact h4.2⟩
      · simp only [if_neg h3]; congr 1; symm; exact decide_eq_false (fun h4 => by rcases h4 with h4 | h4 | h4; exact absurd h4 h; exact absurd h4.1 h2; exact absurd h4.1 h3)

theorem spec_Words_l (s : ByteArray) (hn : s.size < 1099511627776) : ∀ (d : Nat),
    (∀ (i : Nat) (acc : List S51), i + d = s.size → acc.length ≤ i → Ev (fun k => spec_Words.l0 k s acc (i : Int)) (acc ++ (wordsAt i none ((bytesOf s).drop i)).map (mkWord s))) ∧
    (∀ (i j : Nat) (acc : List S51), i + d = s.size → j < i → acc.length ≤ j → Ev (fun k => spec_Words.l1 k s acc (j : Int) (i : Int)) (acc ++ (wordsAt i (some j) ((bytesOf s).drop i)).map (mkWord s))) := by
  have hb := bytesOf_length s
  intro d
  induction d with
  | zero =>
    have h0 : ∀ (i : Nat) (acc : List S51), s.size ≤ i → Ev (fun k => spec_Words.l0 k s acc (i : Int)) acc := by
      intro i acc hi
      refine Ev.step (fun k => spec_Words.l0.eq_2 _ _ _ _) ?_
      simp only [if_neg (show ¬ ((i : Int) < (s.size : Int)) by omega)]
      exact Ev.now _
    constructor
    · intro i acc hi hacc
      rw [List.drop_of_length_le (by omega)]
      simpa [wordsAt] using h0 i acc (by omega)
    · intro i j acc hi hj hacc
      rw [List.drop_of_length_le (by omega)]
      refine Ev.step (fun k => spec_Words.l1.eq_2 _ _ _ _ _) ?_
      simp only [if_neg (show ¬ ((i : Int) < (s.size : Int)) by omega), if_neg (show ¬ (i : Int) = (j : Int) by omega), if_pos (show 0 ≤ (j : Int) by omega), if_pos (show (j : Int) ≤ (i : Int) by omega), if_pos (show (i : Int) ≤ (s.size : Int) by omega), if_pos (show acc.length < 4398046511104 by omega), toNat_cast]
      exact h0 i _ (by omega)
  | succ d ih =>
    have hr : ∀ c ∈ bytesOf s, 0 ≤ c ∧ c ≤ 255 := bytesOf_range s
    have hstep : ∀ (i : Nat) (acc : List S51), i + (d + 1) = s.size → acc.length ≤ i → Ev (fun k => spec_Words.l0 k s acc (i : Int)) (acc ++ (wordsAt i none ((bytesOf s).drop i)).map (mkWord s)) := by
      intro i acc hi hacc
      have hc := hr (bytesOf s)[i] (List.getElem_mem _)
      refine Ev.step (fun k => spec_Words.l0.eq_2 _ _ _ _) ?_
      simp only [if_pos (show ((i : Int) < (s.size : Int)) by omega)]
      refine Ev.step (fun k => spec_Words.l1.eq_2 _ _ _ _ _) ?_
      simp only [if_pos (show ((i : Int) < (s.size : Int)) by omega), if_pos (show 0 ≤ (i : Int) by omega), bt_get s i (by omega), spec_l1Part_eq _ hc.1 hc.2, Option.bind_some, decide_eq_true_eq, wsucc i (by omega), if_true]
      rw [drop_get (bytesOf s) i (by omega)]
      by_cases hw : wordP (bytesOf s)[i]
      · simp only [if_pos hw, wordsAt]
        exact ih.2 (i + 1) i acc (by omega) (by omega) (by omega)
      · simp only [if_neg hw, wordsAt]
        exact ih.1 (i + 1) acc (by omega) (by omega)
    refine ⟨hstep, ?_⟩
    intro i j acc hi hj hacc
    have hc := hr (bytesOf s)[i] (List.getElem_mem _)
    refine Ev.step (fun k => spec_Words.l1.eq_2 _ _ _ _ _) ?_
    simp only [if_pos (show ((i : Int) < (s.size : Int)) by omega), if_pos (show 0 ≤ (i : Int) by omega), bt_get s i (by omega), spec_l1Part_eq _ hc.1 hc.2, Option.bind_some, decide_eq_true_eq, wsucc i (by omega)]
    have hd := drop_get (bytesOf s) i (by omega)
    by_cases hw : wordP (bytesOf s)[i]
    · rw [hd]
      simp only [if_pos hw, wordsAt]
      exact ih.2 (i + 1) j acc (by omega) (by omega) (by omega)
    · simp only [if_neg hw, if_neg (show ¬ (i : Int) = (j : Int) by omega), if_pos (show 0 ≤ (j : Int) by omega), if_pos (show (j : Int) ≤ (i : Int) by omega), if_pos (show (i : Int) ≤ (s.size : Int) by omega), if_pos (show acc.length < 4398046511104 by omega), toNat_cast]
      have := hstep i (acc ++ [mkWord s (j, i)]) hi (by simp; omega)
      rw [hd] at this ⊢
      simp only [wordsAt, if_neg hw, List.append_assoc] at this ⊢
      exact this

theorem spec_Words_ev (s : ByteArray) (hn : s.size < 1099511627776) : Ev (fun k => spec_Words.f k s) (wordsOf s) := by
  have := (spec_Words_l s hn s.size).1 0 [] (by omega) (by simp)
  rw [List.nil_append, List.drop_zero] at this
  exact this

theorem extract_size_le (s : ByteArray) (a b : Nat) : (s.extract a b).size ≤ s.size := by rw [ByteArray.size_extract]; omega

theorem wordsOf_small (s : ByteArray) : ∀ w ∈ wordsOf s, w.f0.size ≤ s.size := by
  intro w hw
  obtain ⟨q, _, rfl⟩ := List.mem_map.1 hw
  exact extract_size_le s _ _

theorem tailT_size (m : Nat) (sep : ByteArray) : ∀ (xs : List ByteArray), (∀ x ∈ xs, x.size ≤ m) → (tailT xs sep).size ≤ (sep.size + m) * xs.length
  | [], _ => by rw [tailT_nil]; exact Nat.zero_le _
  | x :: xs, h => by
    have h1 := tailT_size m sep xs (fun y hy => h y (List.mem_cons_of_mem _ hy))
    have h2 := h x (by simp)
    rw [tailT_cons, ByteArray.size_append, ByteArray.size_append, List.length_cons, Nat.mul_succ]
    omega

theorem joinT_size (m : Nat) (sep : ByteArray) (xs : List ByteArray) (h : ∀ x ∈ xs, x.size ≤ m) : (joinT xs sep).size ≤ (sep.size + m) * xs.length := by
  cases xs with
  | nil => rw [joinT_nil]; exact Nat.zero_le _
  | cons x xs =>
    have h1 := tailT_size m sep xs (fun y hy => h y (List.mem_cons_of_mem _ hy))
    have h2 := h x (by simp)
    rw [joinT_cons, ByteArray.size_append, List.length_cons, Nat.mul_succ]
    omega

theorem rd_word_get (l : List S51) (j : Nat) (h : j < l.length) : rd_T51 l (j : Int) = l[j] := by
  unfold rd_T51; simp [List.getD_eq_getElem?_getD, List.getElem?_eq_getElem h]

theorem tailT_snoc (x sep : ByteArray) : ∀ xs : List ByteArray, tailT (xs ++ [x]) sep = tailT xs sep ++ (sep ++ x)
  | [] => by rw [List.nil_append, tailT_cons, tailT_nil, show (⟨#[]⟩ : ByteArray) = ByteArray.empty from rfl, ByteArray.append_empty, ByteArray.empty_append]
  | y :: ys => by
    rw [List.cons_append, tailT_cons, tailT_cons, tailT_snoc x sep ys]
    exact ByteArray.append_assoc.symm

theorem joinT_snoc (x sep : ByteArray) {xs : List ByteArray} (h : xs ≠ []) : joinT (xs ++ [x]) sep = joinT xs sep ++ (sep ++ x) := by
  cases xs with
  | nil => exact absurd rfl h
  | cons y ys => rw [List.cons_append, joinT_cons, joinT_cons, tailT_snoc, ByteArray.append_assoc]

theorem wordsAt_length : ∀ (l : List Int) (p : Nat) (o : Option Nat), (wordsAt p o l).length ≤ l.length + (if o.isSome then 1 else 0) := by
  intro l
  induction l with
  | nil => intro p o; cases o <;> simp [wordsAt]
  | cons c cs ih =>
    intro p o
    cases o with
    | none =>
      by_cases h : wordP c
      · simp only [wordsAt, if_pos h]; have := ih (p + 1) (some p); simp at this ⊢; omega
      · simp only [wordsAt, if_neg h]; have := ih (p + 1) none; simp at this ⊢; omega
    | some st =>
      by_cases h : wordP c
      · simp only [wordsAt, if_pos h]; have := ih (p + 1) (some st); simp at this ⊢; omega
      · simp only [wordsAt, if_neg h]; have := ih (p + 1) none; simp at this ⊢; omega

theorem wordsOf_length (s : ByteArray) : (wordsOf s).length ≤ s.size := by
  unfold wordsOf
  rw [List.length_map]
  have := wordsAt_length (bytesOf s) 0 none
  rw [bytesOf_length] at this
  simpa using this

theorem wordT_length (s : ByteArray) : (wordT s).length = (wordsOf s).length := List.length_map ..

theorem wordT_size {s p : ByteArray} (h : p ∈ wordT s) : p.size ≤ s.size := by
  obtain ⟨w, hw, rfl⟩ := List.mem_map.1 h
  exact wordsOf_small s w hw

theorem spec_l5Words_l0 (s : ByteArray) (hs : s.size ≤ 1000) : ∀ (d i : Nat), i + d = (wordsOf s).length → Ev (fun k => spec_l5Words.l0 k s (wordsOf s) (joinT ((wordT s).take i) (⟨#[32]⟩ : ByteArray)) (i : Int)) ((wordsN s : Nat) : Int) := by
  have hl := wordsOf_length s
  have hl2 := wordT_length s
  intro d
  induction d with
  | zero =>
    intro i hi
    refine Ev.step (fun k => spec_l5Words.l0.eq_2 _ _ _ _ _) ?_
    simp only [if_neg (show ¬ ((i : Int) < ((wordsOf s).length : Int)) by omega), toList_inj]
    rw [List.take_of_length_le (by omega)]
    unfold wordsN
    by_cases h : joinT (wordT s) (⟨#[32]⟩ : ByteArray) = s
    · simp only [if_pos h, hl2]; exact Ev.now _
    · simp only [if_neg h]; exact Ev.now _
  | succ d ih =>
    intro i hi
    have hget : (wordT s)[i]'(by omega) = ((wordsOf s)[i]'(by omega)).f0 := List.getElem_map ..
    have hx : ((wordsOf s)[i]'(by omega)).f0.size ≤ 1000 := by have := wordsOf_small s _ (List.getElem_mem (show i < (wordsOf s).length by omega)); omega
    have hz := joinT_size s.size (⟨#[32]⟩ : ByteArray) ((wordT s).take i) (fun x hx => wordT_size (List.mem_of_mem_take hx))
    have hz2 : (((⟨#[32]⟩ : ByteArray)).size + s.size) * ((wordT s).take i).length ≤ 1001 * 1000 := Nat.mul_le_mul (by have : ((⟨#[32]⟩ : ByteArray)).size = 1 := rfl; omega) (by rw [List.length_take]; omega)
    have e1 : (wordT s).take (i + 1) = (wordT s).take i ++ [((wordsOf s)[i]'(by omega)).f0] := by
      rw [List.take_add_one, List.getElem?_eq_getElem (by omega), hget]; rfl
    refine Ev.step (fun k => spec_l5Words.l0.eq_2 _ _ _ _ _) ?_
    simp only [if_pos (show ((i : Int) < ((wordsOf s).length : Int)) by omega), if_pos (show 0 ≤ (i : Int) by omega), rd_word_get _ i (show i < (wordsOf s).length by omega), wsucc i (by omega)]
    have hih := ih (i + 1) (by omega)
    rw [e1] at hih
    by_cases h0 : i = 0
    · subst h0
      simp only [if_neg (show ¬ (((0 : Nat) : Int) > 0) by omega), if_pos (show (joinT ((wordT s).take 0) (⟨#[32]⟩ : ByteArray)).size + ((wordsOf s)[0]'(by omega)).f0.size ≤ 9223372036854775807 by omega)]
      have e2 : joinT ((wordT s).take 0 ++ [((wordsOf s)[0]'(by omega)).f0]) (⟨#[32]⟩ : ByteArray) = joinT ((wordT s).take 0) (⟨#[32]⟩ : ByteArray) ++ ((wordsOf s)[0]'(by omega)).f0 := by
        rw [List.take_zero, List.nil_append, joinT_single, joinT_nil]; exact ByteArray.empty_append.symm
      rw [e2] at hih
      exact hih
    · have hne : (wordT s).take i ≠ [] := by
        intro e
        have := congrArg List.length e
        rw [List.length_take, List.length_nil] at this; omega
      have z1 : (joinT ((wordT s).take i) (⟨#[32]⟩ : ByteArray) ++ (⟨#[32]⟩ : ByteArray)).size = (joinT ((wordT s).take i) (⟨#[32]⟩ : ByteArray)).size + 1 := by rw [ByteArray.size_append]; rfl
      simp only [if_pos (show ((i : Int) > 0) by omega), if_pos (show (joinT ((wordT s).take i) (⟨#[32]⟩ : ByteArray)).size + 1 ≤ 9223372036854775807 by omega), if_pos (show (joinT ((wordT s).take i) (⟨#[32]⟩ : ByteArray) ++ (⟨#[32]⟩ : ByteArray)).size + ((wordsOf s)[i]'(by omega)).f0.size ≤ 9223372036854775807 by omega)]
      rw [joinT_snoc _ _ hne, ← ByteArray.append_assoc] at hih
      exact hih

theorem spec_l5Words_ev (s : ByteArray) (hs : s.size ≤ 1000) : Ev (fun k => spec_l5Words.f k s) ((wordsN s : Nat) : Int) := by
  simp only [spec_l5Words.f]
  refine Ev.bind (spec_Words_ev s (by omega)) ?_
  have := spec_l5Words_l0 s hs (wordsOf s).length 0 (by omega)
  rw [List.take_zero, joinT_nil] at this
  exact this

open Classical in
theorem spec_leaf_j1 (fld pl : Bool) (q : S29) (h1 : q.f1.size ≤ 1048576) (h2 : q.f2.size ≤ 1048576) : Ev (fun k => spec_l5Leaf.j1 k fld pl q.f0 q.f1 q.f2 q.f3 q.f4 q.f5) (leafB fld pl q) := by
  refine Ev.step (fun k => spec_l5Leaf.j1.eq_2 _ _ _ _ _ _ _ _ _) ?_
  unfold leafB
  by_cases c1 : q.f0 = 1
  · simp only [if_pos c1, toList_nil]
    cases isE q.f1
    · simp only [if_neg ff, Bool.false_and]; exact Ev.now _
    · cases isE q.f2
      · simp only [if_neg ff, if_true, Bool.false_and, Bool.and_false]; exact Ev.now _
      · simp only [if_true, Bool.true_and]; exact Ev.now _
  by_cases c2 : q.f0 = 2
  · simp only [if_neg c1, if_pos c2]
    cases fld
    · simp only [if_neg ff, Bool.false_and]; exact Ev.now _
    cases pl
    · simp only [if_neg ff, if_true, Bool.false_and, Bool.and_false]; exact Ev.now _
    simp only [if_true, Bool.true_and]
    by_cases e : q.f2.size ≤ 60
    · simp only [if_pos (show ((q.f2.size : Int) ≤ 60) by omega), decide_eq_true e, Bool.true_and]
      refine Ev.bind (spec_l5Words_ev _ (by omega)) ?_
      by_cases o : oneP q.f2
      · have hw := (wordsN_one _).2 o
        simp only [if_pos (show ((wordsN q.f2 : Nat) : Int) = 1 by omega), decide_eq_true o, Bool.true_and]
        refine Ev.bind (spec_Stem_ev _ (by omega)) ?_
        rw [toList_bne]; exact Ev.now _
      · have hw : wordsN q.f2 ≠ 1 := fun h => o ((wordsN_one _).1 h)
        simp only [if_neg (show ¬ (((wordsN q.f2 : Nat) : Int) = 1) by omega), decide_eq_false o, Bool.false_and]; exact Ev.now _
    · simp only [if_neg (show ¬ ((q.f2.size : Int) ≤ 60) by omega), decide_eq_false e, Bool.false_and]; exact Ev.now _
  by_cases c3 : q.f0 = 3
  · simp only [if_neg c1, if_neg c2, if_pos c3]
    cases fld
    · simp only [if_neg ff, Bool.false_and]; exact Ev.now _
    cases pl
    · simp only [if_neg ff, if_true, Bool.false_and, Bool.and_false]; exact Ev.now _
    simp only [if_true, Bool.true_and]
    by_cases e : q.f2.size ≤ 60
    · simp only [if_pos (show ((q.f2.size : Int) ≤ 60) by omega), decide_eq_true e, Bool.true_and]
      refine Ev.bind (spec_l5Words_ev _ (by omega)) ?_
      simp only [spec_l1In_eq, Option.bind_some]
      exact ev_eqB (decide_eq_decide.2 ⟨fun h => by omega, fun h => by omega⟩) (Ev.now _)
    · simp only [if_neg (show ¬ ((q.f2.size : Int) ≤ 60) by omega), decide_eq_false e, Bool.false_and]; exact Ev.now _
  by_cases c4 : q.f0 = 4
  · simp only [if_neg c1, if_neg c2, if_neg c3, if_pos c4]
    cases fld
    · simp only [if_neg ff, Bool.false_and]; exact Ev.now _
    cases pl
    · simp only [if_neg ff, if_true, Bool.false_and, Bool.and_false]; exact Ev.now _
    simp only [if_true, Bool.true_and, spec_l1In_eq, Option.bind_some, decide_eq_true_eq]
    by_cases e : 1 ≤ q.f2.size ∧ q.f2.size ≤ 12
    · simp only [if_pos (show (1 : Int) ≤ (q.f2.size : Int) ∧ (q.f2.size : Int) ≤ 12 by omega), decide_eq_true e, Bool.true_and]
      refine Ev.bind (spec_l5Words_ev _ (by omega)) ?_
      by_cases o : oneP q.f2
      · have hw := (wordsN_one _).2 o
        simp only [if_pos (show ((wordsN q.f2 : Nat) : Int) = 1 by omega), decide_eq_true o, Bool.true_and]
        refine Ev.bind (spec_Fold_ev _ (by omega)) ?_
        by_cases hf : foldB q.f2 = q.f2
        · rw [beq_texts _ _ hf, decide_eq_true hf]; exact Ev.now _
        · rw [bne_texts _ _ hf, decide_eq_false hf]; exact Ev.now _
      · have hw : wordsN q.f2 ≠ 1 := fun h => o ((wordsN_one _).1 h)
        simp only [if_neg (show ¬ (((wordsN q.f2 : Nat) : Int) = 1) by omega), decide_eq_false o, Bool.false_and]; exact Ev.now _
    · simp only [if_neg (show ¬ ((1 : Int) ≤ (q.f2.size : Int) ∧ (q.f2.size : Int) ≤ 12) by omega), decide_eq_false e, Bool.false_and]; exact Ev.now _
  by_cases c5 : q.f0 = 5
  · simp only [if_neg c1, if_neg c2, if_neg c3, if_neg c4, if_pos c5]
    refine Ev.bind (spec_NameOk_ev _ (by omega)) ?_
    cases nameB (bytesOf q.f1)
    · simp only [if_neg ff, Bool.false_and]; exact Ev.now _
    simp only [if_true, Bool.true_and, toList_nil]
    cases isE q.f2
    · simp only [if_neg ff, Bool.false_and]; exact Ev.now _
    simp only [if_true, Bool.true_and, spec_l1In_eq, Option.bind_some]
    show Ev (fun k => if rngB q.f3 = true then some (rngB q.f4) else some false) (rngB q.f3 && rngB q.f4)
    cases rngB q.f3
    · simp only [if_neg ff, Bool.false_and]; exact Ev.now _
    · simp only [if_true, Bool.true_and]; exact Ev.now _
  by_cases c6 : q.f0 = 6
  · simp only [if_neg c1, if_neg c2, if_neg c3, if_neg c4, if_neg c5, if_pos c6]
    refine Ev.bind (spec_NameOk_ev _ (by omega)) ?_
    cases nameB (bytesOf q.f1)
    · simp only [if_neg ff, Bool.false_and]; exact Ev.now _
    simp only [if_true, Bool.true_and]
    refine Ev.bind (spec_NameOk_ev _ (by omega)) ?_
    cases nameB (bytesOf q.f2)
    · simp only [if_neg ff, Bool.false_and]; exact Ev.now _
    simp only [if_true, Bool.true_and]; exact Ev.now _
  simp only [if_neg c1, if_neg c2, if_neg c3, if_neg c4, if_neg c5, if_neg c6]; exact Ev.now _

theorem spec_leaf_j0 (fld : Bool) (q : S29) (h1 : q.f1.size ≤ 1048576) (h2 : q.f2.size ≤ 1048576) : Ev (fun k => spec_l5Leaf.j0 k fld q.f0 q.f1 q.f2 q.f3 q.f4 q.f5) (leafB fld (plB q) q) := by
  refine Ev.step (fun k => spec_l5Leaf.j0.eq_2 _ _ _ _ _ _ _ _) ?_
  unfold plB
  by_cases c : q.f3 = 0
  · simp only [if_pos c, decide_eq_true c, Bool.true_and]; exact spec_leaf_j1 fld _ q h1 h2
  · simp only [if_neg c, decide_eq_false c, Bool.false_and]; exact spec_leaf_j1 fld _ q h1 h2

theorem spec_l5Leaf_ev (q : S29) (h1 : q.f1.size ≤ 1048576) (h2 : q.f2.size ≤ 1048576) : Ev (fun k => spec_l5Leaf.f k q.f0 q.f1 q.f2 q.f3 q.f4 q.f5) (leafB (fldB q) (plB q) q) := by
  simp only [spec_l5Leaf.f, toList_nil]
  unfold fldB
  cases isE q.f1
  · simp only [if_neg ff, Bool.false_or]
    exact Ev.bind (spec_NameOk_ev _ (by omega)) (spec_leaf_j0 _ q h1 h2)
  · simp only [if_true, Bool.true_or]; exact spec_leaf_j0 true q h1 h2

theorem wpred (j : Nat) (h : j < 9223372036854775807) : wrap64 (((j + 1 : Nat) : Int) - 1) = (j : Int) := by rw [wrap_id (by omega) (by omega)]; omega

theorem spec_bare (q : S29) : Ev (fun _ => if q.f1.toList = ([] : List UInt8) then (if q.f2.toList = ([] : List UInt8) then (if q.f3 = 0 then (some (q.f4 == 0)) else (some false)) else (some false)) else (some false)) (bareB q) := by
  unfold bareB plB
  simp only [toList_nil]
  cases isE q.f1
  · simp only [if_neg ff, Bool.false_and]; exact Ev.now _
  cases isE q.f2
  · simp only [if_neg ff, if_true, Bool.false_and, Bool.and_false]; exact Ev.now _
  by_cases c : q.f3 = 0
  · simp only [if_pos c, if_true, Bool.true_and, decide_eq_true c]; exact Ev.now _
  · simp only [if_neg c, if_true, Bool.true_and, decide_eq_false c, Bool.false_and]; exact Ev.now _

theorem spec_l5Ok_l0 (d : Nat) (hd : d ≤ 4) (q : S29) (hn : q.f5.length ≤ 1048576) (hP : ∀ x ∈ q.f5, Ev (fun k => spec_l5Ok.f k x.f0 x.f1 x.f2 x.f3 x.f4 x.f5 (d : Int)) (okB d x)) :
    ∀ (e i : Nat), i + e = q.f5.length → Ev (fun k => spec_l5Ok.l0 k ((d + 1 : Nat) : Int) (q.f5.length : Int) (i : Int) q.f0 q.f1 q.f2 q.f3 q.f4 q.f5) ((q.f5.drop i).all (okB d) && (nodeK q && bareB q)) := by
  intro e
  induction e with
  | zero =>
    intro i hi
    refine Ev.step (fun k => spec_l5Ok.l0.eq_2 _ _ _ _ _ _ _ _ _ _) ?_
    rw [List.drop_eq_nil_of_le (by omega)]
    have hb := spec_bare q
    simp only [if_neg (show ¬ ((i : Int) < (q.f5.length : Int)) by omega), List.all_nil, Bool.true_and, spec_l1In_eq, Option.bind_some, decide_eq_true_eq]
    unfold nodeK
    by_cases c7 : q.f0 = 7
    · simp only [if_pos c7, if_neg (show ¬ q.f0 = 9 by omega)]
      by_cases l : 2 ≤ q.f5.length ∧ q.f5.length ≤ 4
      · simp only [if_pos (show (2 : Int) ≤ (q.f5.length : Int) ∧ (q.f5.length : Int) ≤ 4 by omega), decide_eq_true (show ((q.f0 = 7 ∨ q.f0 = 8) ∧ 2 ≤ q.f5.length ∧ q.f5.length ≤ 4) ∨ (q.f0 = 9 ∧ q.f5.length = 1) from .inl ⟨.inl c7, l⟩), Bool.true_and]
        exact hb
      · simp only [if_neg (show ¬ ((2 : Int) ≤ (q.f5.length : Int) ∧ (q.f5.length : Int) ≤ 4) by omega), decide_eq_false (show ¬ (((q.f0 = 7 ∨ q.f0 = 8) ∧ 2 ≤ q.f5.length ∧ q.f5.length ≤ 4) ∨ (q.f0 = 9 ∧ q.f5.length = 1)) by omega), Bool.false_and]
        exact Ev.now _
    by_cases c8 : q.f0 = 8
    · simp only [if_neg c7, if_pos c8, if_neg (show ¬ q.f0 = 9 by omega)]
      by_cases l : 2 ≤ q.f5.length ∧ q.f5.length ≤ 4
      · simp only [if_pos (show (2 : Int) ≤ (q.f5.length : Int) ∧ (q.f5.length : Int) ≤ 4 by omega), decide_eq_true (show ((q.f0 = 7 ∨ q.f0 = 8) ∧ 2 ≤ q.f5.length ∧ q.f5.length ≤ 4) ∨ (q.f0 = 9 ∧ q.f5.length = 1) from .inl ⟨.inr c8, l⟩), Bool.true_and]
        exact hb
      · simp only [if_neg (show ¬ ((2 : Int) ≤ (q.f5.length : Int) ∧ (q.f5.length : Int) ≤ 4) by omega), decide_eq_false (show ¬ (((q.f0 = 7 ∨ q.f0 = 8) ∧ 2 ≤ q.f5.length ∧ q.f5.length ≤ 4) ∨ (q.f0 = 9 ∧ q.f5.length = 1)) by omega), Bool.false_and]
        exact Ev.now _
    by_cases c9 : q.f0 = 9
    · simp only [if_neg c7, if_neg c8, if_pos c9]
      by_cases l : q.f5.length = 1
      · simp only [if_pos (show (q.f5.length : Int) = 1 by omega), decide_eq_true (show ((q.f0 = 7 ∨ q.f0 = 8) ∧ 2 ≤ q.f5.length ∧ q.f5.length ≤ 4) ∨ (q.f0 = 9 ∧ q.f5.length = 1) from .inr ⟨c9, l⟩), Bool.true_and]
        exact hb
      · simp only [if_neg (show ¬ ((q.f5.length : Int) = 1) by omega), decide_eq_false (show ¬ (((q.f0 = 7 ∨ q.f0 = 8) ∧ 2 ≤ q.f5.length ∧ q.f5.length ≤ 4) ∨ (q.f0 = 9 ∧ q.f5.length = 1)) by omega), Bool.false_and]
        exact Ev.now _
    simp only [if_neg c7, if_neg c8, if_neg c9, decide_eq_false (show ¬ (((q.f0 = 7 ∨ q.f0 = 8) ∧ 2 ≤ q.f5.length ∧ q.f5.length ≤ 4) ∨ (q.f0 = 9 ∧ q.f5.length = 1)) by omega), Bool.false_and]
    exact Ev.now _
  | succ e ih =>
    intro i hi
    have hlt : i < q.f5.length := by omega
    refine Ev.step (fun k => spec_l5Ok.l0.eq_2 _ _ _ _ _ _ _ _ _ _) ?_
    simp only [if_pos (show ((i : Int) < (q.f5.length : Int)) by omega), if_pos (show 0 ≤ (i : Int) by omega), rdq_get _ i hlt, wsucc i (by omega), wpred d (by omega)]
    rw [List.drop_eq_getElem_cons hlt, List.all_cons]
    refine Ev.bind (hP _ (List.getElem_mem hlt)) ?_
    cases okB d (q.f5[i]'hlt)
    · simp only [if_neg ff, Bool.false_and]; exact Ev.now _
    · simp only [if_true, Bool.true_and]; exact ih (i + 1) (by omega)

theorem spec_l5Ok_ev : ∀ (d : Nat), d ≤ 4 → ∀ q, smallQ q → Ev (fun k => spec_l5Ok.f k q.f0 q.f1 q.f2 q.f3 q.f4 q.f5 (d : Int)) (okB d q)
  | 0, _, q, _ => by
    refine Ev.step (fun k => spec_l5Ok.f.eq_2 _ _ _ _ _ _ _ _) ?_
    simp only [if_pos (show ((0 : Nat) : Int) < 1 by decide), okB]; exact Ev.now _
  | d + 1, hd, q, hq => by
    cases hq with
    | mk _ h1 h2 h5 h6 =>
    refine Ev.step (fun k => spec_l5Ok.f.eq_2 _ _ _ _ _ _ _ _) ?_
    simp only [if_neg (show ¬ (((d + 1 : Nat) : Int) < 1) by omega), okB]
    by_cases l : q.f5.length = 0
    · simp only [if_pos (show ((q.f5.length : Int) = 0) by omega), if_pos l]
      exact Ev.bind (spec_l5Leaf_ev q h1 h2) (Ev.now _)
    · simp only [if_neg (show ¬ ((q.f5.length : Int) = 0) by omega), if_neg l]
      have := spec_l5Ok_l0 d (by omega) q h5 (fun x hx => spec_l5Ok_ev d (by omega) x (h6 x hx)) q.f5.length 0 (by omega)
      rw [List.drop_zero] at this
      exact this

theorem spec_QueryOk_ev (q : S29) (hq : smallQ q) : Ev (fun k => spec_QueryOk.f k q.f0 q.f1 q.f2 q.f3 q.f4 q.f5) (okB 4 q) := by
  simp only [spec_QueryOk.f]
  exact Ev.bind (spec_l5Ok_ev 4 (by omega) q hq) (Ev.now _)

theorem FnExactQueryOk : laws_FnExactQueryOk.PureX := by
  intro a0 a1 a2 a3 a4 l hw0 hw1 hw2 hw3 hw4 hl
  refine Ev.rounds (g := fun k => laws_FnExactQueryOk.f k a0 a1 a2 a3 a4 l) ?_
  simp only [laws_FnExactQueryOk.f]
  have hg : good24 ⟨a0, a1, a2, a3, a4, l⟩ := good24.mk _ hw0 hw1 hw2 hw3 hw4 hl.1 hl.2
  obtain ⟨r, hr, _, hs⟩ := szQuery_ev hg 1048576 (by omega) (by omega)
  refine Ev.bind hr ?_
  by_cases h0 : r < 0
  · simp only [if_pos h0]; exact Ev.now _
  simp only [if_neg h0]
  obtain ⟨q, h1, hq⟩ := toQuery_ev (hs (by omega))
  refine Ev.bind h1 ?_
  refine Ev.bind (spec_QueryOk_ev q hq) ?_
  refine Ev.bind h1 ?_
  refine Ev.bind (impl_QueryOk_ev q hq) ?_
  simp only [bne_self_eq_false, if_neg ff]
  refine Ev.bind h1 ?_
  refine Ev.bind (eqQuery_refl hq) ?_
  simp only [if_true]; exact Ev.now _

end Go.Proofs.YthlabmfecmdlcaaDoor.Pure
