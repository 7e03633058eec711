/- The plain law of FnExactDocPut: whatever the input, the printed function of this law answers true after enough rounds; conditions: only the sizes and kinds that the law's Pure states. -/
import Derived.Test.YtifenfjjekpflaaSFnExactDocPut
namespace Go.Proofs.Ytifenfjjekpflaa.Pure
open Go.RowKit Go.Proofs.Ytifenfjjekpflaa.PFnExactDocPut Go.Proofs.YtifenfjjekpflaaW.PrintWords Go.Proofs.YtifenfjjekpflaaW.PrintLast Go.Proofs.YtifenfjjekpflaaW.PrintMore
set_option linter.unusedVariables false
set_option linter.unusedSimpArgs false

theorem toList_data (s : ByteArray) : s.toList = s.data.toList := by
  exact ByteArray.toList_eq s

theorem toList_inj {a b : ByteArray} : a.toList = b.toList ↔ a = b := by
  rw [toList_data, toList_data]
  constructor
  · intro h; exact ByteArray.ext (Array.toList_inj.1 h)
  · rintro rfl; rfl

open Classical in
theorem eqCell_eq (x y : S38) : laws_eqCell.f x.f0 x.f1 y.f0 y.f1 = some (decide (x = y)) := by
  obtain ⟨a0, a1⟩ := x
  obtain ⟨b0, b1⟩ := y
  simp only [laws_eqCell.f, toList_inj]
  by_cases h0 : a0 = b0
  case neg => simp [h0]
  by_cases h1 : a1 = b1
  case neg => simp [h0, h1]
  simp [h0, h1]

theorem rdi_Cell (l : List S38) (j : Nat) (h : j < l.length) : rd_T38 l (j : Int) = l[j] := by
  unfold rd_T38; simp [List.getD_eq_getElem?_getD, List.getElem?_eq_getElem h]

theorem drop_eq_step {α : Type} {a b : List α} {j : Nat} (ha : j < a.length) (hb : j < b.length) : a.drop j = b.drop j ↔ a[j] = b[j] ∧ a.drop (j + 1) = b.drop (j + 1) := by
  rw [List.drop_eq_getElem_cons ha, List.drop_eq_getElem_cons hb, List.cons.injEq]

theorem ev_false {g : Nat → Option Bool} {p : Prop} [Decidable p] (h : ¬ p) (k : Ev g false) : Ev g (decide p) := by
  rw [decide_eq_false h]; exact k

theorem ev_prop {g : Nat → Option Bool} {p q : Prop} [Decidable p] [Decidable q] (h : p ↔ q) (k : Ev g (decide p)) : Ev g (decide q) := by
  have : decide p = decide q := decide_eq_decide.2 h
  rw [← this]; exact k

theorem ev_true {g : Nat → Option Bool} {p : Prop} [Decidable p] (h : p) (k : Ev g true) : Ev g (decide p) := by
  rw [decide_eq_true h]; exact k

theorem wrap_id {x : Int} (h0 : -9223372036854775808 ≤ x) (h1 : x ≤ 9223372036854775807) : wrap64 x = x := by unfold wrap64; omega

theorem wsucc (j : Nat) (h : j < 9223372036854775807) : wrap64 ((j : Int) + 1) = ((j + 1 : Nat) : Int) := by rw [wrap_id (by omega) (by omega)]; omega

open Classical in
theorem eqCellS_l0 (a b : List S38) (hn : a.length < 4611686018427387904) (hl : a.length = b.length) : ∀ (d i : Nat), i + d = a.length →
    Ev (fun k => laws_eqCellS.l0 k a b (i : Int)) (decide (a.drop i = b.drop i)) := by
  intro d
  induction d with
  | zero =>
    intro i hi
    refine Ev.step (fun k => laws_eqCellS.l0.eq_2 _ _ _ _) ?_
    simp only [if_neg (show ¬ ((i : Int) < (a.length : Int)) by omega)]
    rw [List.drop_of_length_le (by omega), List.drop_of_length_le (by omega)]
    exact ev_true rfl (Ev.now _)
  | succ d ih =>
    intro i hi
    refine Ev.step (fun k => laws_eqCellS.l0.eq_2 _ _ _ _) ?_
    simp only [if_pos (show ((i : Int) < (a.length : Int)) by omega), if_pos (show 0 ≤ (i : Int) by omega), if_pos (show ((i : Int) < (b.length : Int)) by omega), wsucc i (by omega), rdi_Cell a i (by omega), rdi_Cell b i (by omega), eqCell_eq, Option.bind_some, decide_eq_true_eq]
    have hs := drop_eq_step (a := a) (b := b) (show i < a.length by omega) (show i < b.length by omega)
    by_cases h : a[i] = b[i]
    · simp only [if_pos h]
      exact ev_prop (hs.trans ⟨fun h1 => h1.2, fun h1 => ⟨h, h1⟩⟩).symm (ih (i + 1) (by omega))
    · simp only [if_neg h]
      exact ev_false (fun h1 => h (hs.1 h1).1) (Ev.now _)

open Classical in
theorem eqCellS_ev (a b : List S38) (hn : a.length < 4611686018427387904) : Ev (fun k => laws_eqCellS.f k a b) (decide (a = b)) := by
  simp only [laws_eqCellS.f]
  by_cases hl : a.length = b.length
  · simp only [if_pos (show (a.length : Int) = (b.length : Int) by omega)]
    exact eqCellS_l0 a b hn hl a.length 0 (by omega)
  · simp only [if_neg (show ¬ (a.length : Int) = (b.length : Int) by omega)]
    exact ev_false (fun h => hl (by rw [h])) (Ev.now _)

open Classical in
theorem eqDoc_ev (k1 : ByteArray) (c1 : List S38) (k2 : ByteArray) (c2 : List S38) (hn : c1.length < 4611686018427387904) : Ev (fun k => laws_eqDoc.f k k1 c1 k2 c2) (decide (k1 = k2 ∧ c1 = c2)) := by
  simp only [laws_eqDoc.f, toList_inj]
  by_cases h : k1 = k2
  · simp only [if_pos h]
    refine Ev.bind (eqCellS_ev c1 c2 hn) ?_
    by_cases h2 : c1 = c2
    · simp only [decide_eq_true h2, if_true]; exact ev_true ⟨h, h2⟩ (Ev.now _)
    · simp only [decide_eq_false h2]; exact ev_false (fun h3 => h2 h3.2) (Ev.now _)
  · simp only [if_neg h]; exact ev_false (fun h3 => h h3.1) (Ev.now _)

open Classical in
theorem eqDoc_refl (k1 : ByteArray) (c1 : List S38) (hn : c1.length < 4611686018427387904) : Ev (fun k => laws_eqDoc.f k k1 c1 k1 c1) true := by
  have := eqDoc_ev k1 c1 k1 c1 hn
  rwa [decide_eq_true ⟨rfl, rfl⟩] at this

def smallCell (x : S88) : Prop := x.f0.size ≤ 1048576 ∧ x.f1.size ≤ 1048576

theorem rdl_Cell (l : List S88) (j : Nat) (h : j < l.length) : rd_T88 l (j : Int) = l[j] := by
  unfold rd_T88; simp [List.getD_eq_getElem?_getD, List.getElem?_eq_getElem h]

def wideCell (x : S88) : Prop := x.f0.size ≤ 9223372036854775807 ∧ x.f1.size ≤ 9223372036854775807

theorem szCell_eq (x : S88) (a : Int) (hx : wideCell x) (h0 : 0 ≤ a) (h1 : a ≤ 1048576) : ∃ r, laws_szCell.f x.f0 x.f1 a = some r ∧ (r = -1 ∨ (0 ≤ r ∧ r ≤ a ∧ smallCell x)) := by
  unfold wideCell at hx
  unfold smallCell
  unfold laws_szCell.f
  rw [wrap_id (x := a - (x.f0.size : Int)) (by omega) (by omega)]
  by_cases h20 : a - (x.f0.size : Int) < 0
  · rw [if_pos h20]; exact ⟨_, rfl, .inl rfl⟩
  rw [if_neg h20]
  rw [wrap_id (x := a - (x.f0.size : Int) - (x.f1.size : Int)) (by omega) (by omega)]
  by_cases h21 : a - (x.f0.size : Int) - (x.f1.size : Int) < 0
  · rw [if_pos h21]; exact ⟨_, rfl, .inl rfl⟩
  rw [if_neg h21]
  exact ⟨_, rfl, .inr ⟨by omega, by omega, by omega⟩⟩

theorem mem_drop_step {α : Type} {l : List α} {j : Nat} {n : α} (h : j < l.length) : n ∈ l.drop j ↔ n = l[j] ∨ n ∈ l.drop (j + 1) := by
  rw [List.drop_eq_getElem_cons h, List.mem_cons]

theorem szCellS_l0 (l : List S88) (hl : l.length ≤ 1048576) (hg : ∀ x ∈ l, wideCell x) : ∀ (d i : Nat) (a : Int), i + d = l.length → 0 ≤ a → a ≤ 1048576 →
    ∃ r, Ev (fun k => laws_szCellS.l0 k l a (i : Int)) r ∧ (r = -1 ∨ (0 ≤ r ∧ r ≤ a ∧ ∀ x ∈ l.drop i, smallCell x)) := by
  intro d
  induction d with
  | zero =>
    intro i a hi h0 h1
    refine ⟨a, Ev.step (fun k => laws_szCellS.l0.eq_2 _ _ _ _) ?_, .inr ⟨h0, Int.le_refl _, fun x hx => ?_⟩⟩
    · simp only [if_neg (show ¬ ((i : Int) < (l.length : Int)) by omega)]; exact Ev.now _
    · rw [List.drop_of_length_le (by omega)] at hx; cases hx
  | succ d ih =>
    intro i a hi h0 h1
    obtain ⟨r1, hr1, hc⟩ := szCell_eq l[i] a (hg _ (List.getElem_mem _)) h0 h1
    rcases hc with hc | ⟨hc0, hc1, hc2⟩
    · refine ⟨-1, Ev.step (fun k => laws_szCellS.l0.eq_2 _ _ _ _) ?_, .inl rfl⟩
      simp only [if_pos (show ((i : Int) < (l.length : Int)) by omega), if_pos (show 0 ≤ (i : Int) by omega), rdl_Cell l i (by omega), hr1, Option.bind_some, hc]
      exact Ev.now _
    · obtain ⟨r, hr, hq⟩ := ih (i + 1) r1 (by omega) hc0 (by omega)
      refine ⟨r, Ev.step (fun k => laws_szCellS.l0.eq_2 _ _ _ _) ?_, ?_⟩
      · simp only [if_pos (show ((i : Int) < (l.length : Int)) by omega), if_pos (show 0 ≤ (i : Int) by omega), rdl_Cell l i (by omega), hr1, Option.bind_some, if_neg (show ¬ r1 < 0 by omega), wsucc i (by omega)]
        exact hr
      · rcases hq with hq | ⟨q0, q1, q2⟩
        · exact .inl hq
        · refine .inr ⟨q0, by omega, fun x hx => ?_⟩
          rcases (mem_drop_step (show i < l.length by omega)).1 hx with hx | hx
          · rw [hx]; exact hc2
          · exact q2 x hx

theorem szCellS_ev (l : List S88) (hl : l.length ≤ 9223372036854775807) (hg : ∀ x ∈ l, wideCell x) (a : Int) (h0 : 0 ≤ a) (h1 : a ≤ 1048576) :
    ∃ r, Ev (fun k => laws_szCellS.f k l a) r ∧ (r = -1 ∨ (0 ≤ r ∧ r ≤ a ∧ l.length ≤ 1048576 ∧ ∀ x ∈ l, smallCell x)) := by
  simp only [laws_szCellS.f, wrap_id (x := a - (l.length : Int)) (by omega) (by omega)]
  by_cases h2 : a - (l.length : Int) < 0
  · simp only [if_pos h2]; exact ⟨-1, Ev.now _, .inl rfl⟩
  · simp only [if_neg h2]
    obtain ⟨r, hr, hq⟩ := szCellS_l0 l (by omega) hg l.length 0 (a - (l.length : Int)) (by omega) (by omega) (by omega)
    refine ⟨r, hr, ?_⟩
    rcases hq with hq | ⟨q0, q1, q2⟩
    · exact .inl hq
    · exact .inr ⟨q0, by omega, by omega, q2⟩

theorem szDoc_ev (key : ByteArray) (l : List S88) (hk : key.size ≤ 9223372036854775807) (hl : l.length ≤ 9223372036854775807) (hg : ∀ x ∈ l, wideCell x) (a : Int) (h0 : 0 ≤ a) (h1 : a ≤ 1048576) :
    ∃ r, Ev (fun k => laws_szDoc.f k key l a) r ∧ (r = -1 ∨ (0 ≤ r ∧ r ≤ a ∧ key.size ≤ 1048576 ∧ l.length ≤ 1048576 ∧ ∀ x ∈ l, smallCell x)) := by
  simp only [laws_szDoc.f, wrap_id (x := a - (key.size : Int)) (by omega) (by omega)]
  by_cases h2 : a - (key.size : Int) < 0
  · simp only [if_pos h2]; exact ⟨-1, Ev.now _, .inl rfl⟩
  · simp only [if_neg h2]
    obtain ⟨r, hr, hq⟩ := szCellS_ev l hl hg (a - (key.size : Int)) (by omega) (by omega)
    rcases hq with hq | ⟨q0, q1, q2, q3⟩
    · refine ⟨-1, Ev.bind hr ?_, .inl rfl⟩
      simp only [hq, if_pos (show (-1 : Int) < 0 by omega)]; exact Ev.now _
    · refine ⟨r, Ev.bind hr ?_, .inr ⟨q0, by omega, by omega, q2, q3⟩⟩
      simp only [if_neg (show ¬ r < 0 by omega)]; exact Ev.now _

def cCell (x : S88) : S38 := ⟨x.f0, x.f1⟩

theorem take_set_succ {α : Type} (l m : List α) (i : Nat) (v : α) (hl : i < l.length) (hm : i < m.length) (hv : m[i] = v) (h : l.take i = m.take i) : (l.set i v).take (i + 1) = m.take (i + 1) := by
  rw [List.take_add_one, List.take_add_one, List.take_set_of_le (Nat.le_refl _), h]
  congr 1
  rw [List.getElem?_set_self hl, List.getElem?_eq_getElem hm, hv]

theorem toNat_cast (i : Nat) : ((i : Int)).toNat = i := by simp

theorem toCellS_l0 (l : List S88) (hn : l.length ≤ 1048576) : ∀ (d i : Nat) (acc : List S38), i + d = l.length → acc.length = l.length → acc.take i = (l.map cCell).take i →
    Ev (fun k => laws_toCellS.l0 k l acc (i : Int)) (l.map cCell) := by
  intro d
  induction d with
  | zero =>
    intro i acc hi hl ht
    refine Ev.step (fun k => laws_toCellS.l0.eq_2 _ _ _ _) ?_
    simp only [if_neg (show ¬ ((i : Int) < (l.length : Int)) by omega)]
    have : acc = l.map cCell := by rw [List.take_of_length_le (by omega), List.take_of_length_le (by rw [List.length_map]; omega)] at ht; exact ht
    rw [this]; exact Ev.now _
  | succ d ih =>
    intro i acc hi hl ht
    refine Ev.step (fun k => laws_toCellS.l0.eq_2 _ _ _ _) ?_
    simp only [if_pos (show ((i : Int) < (l.length : Int)) by omega), if_pos (show 0 ≤ (i : Int) by omega), laws_toCell.f, Option.bind_some, if_pos (show ((i : Int) < (acc.length : Int)) by omega), wsucc i (by omega), toNat_cast, rdl_Cell l i (by omega)]
    exact ih (i + 1) _ (by omega) (by simp [hl]) (take_set_succ _ _ _ _ (by omega) (by rw [List.length_map]; omega) (by rw [List.getElem_map]; rfl) ht)

theorem toCellS_ev (l : List S88) (hn : l.length ≤ 1048576) : Ev (fun k => laws_toCellS.f k l) (l.map cCell) := by
  simp only [laws_toCellS.f, if_pos (show 0 ≤ (l.length : Int) by omega), toNat_cast]
  refine Ev.congr (f := fun k => laws_toCellS.l0 k l (List.replicate l.length z38) 0) (fun k => if_pos (by omega)) ?_
  exact toCellS_l0 l hn l.length 0 _ (by omega) (by simp) rfl

theorem toDoc_ev (key : ByteArray) (l : List S88) (hn : l.length ≤ 1048576) : Ev (fun k => laws_toDoc.f k key l) (key, l.map cCell) := by
  simp only [laws_toDoc.f]
  exact Ev.bind (toCellS_ev l hn) (Ev.now _)

theorem small_map_Cell {l : List S88} (h : ∀ x ∈ l, smallCell x) : ∀ x ∈ l.map cCell, x.f0.size ≤ 1048576 ∧ x.f1.size ≤ 1048576 := by
  intro x hx
  obtain ⟨y, hy, rfl⟩ := List.mem_map.1 hx
  exact h y hy

def digP (c : Int) : Prop := 48 ≤ c ∧ c ≤ 57
instance (c : Int) : Decidable (digP c) := by unfold digP; infer_instance

def lowP (c : Int) : Prop := 97 ≤ c ∧ c ≤ 122
instance (c : Int) : Decidable (lowP c) := by unfold lowP; infer_instance

def nameFrom (l : List Int) (j : Nat) : Prop := (∀ (i : Nat) (h : i < l.length), j ≤ i → lowP l[i] ∨ (0 < i ∧ digP l[i])) ∧ 1 ≤ l.length ∧ l.length ≤ 8

open Classical in
noncomputable def nameB (l : List Int) : Bool := decide (nameFrom l 0)

def lessT (a b : ByteArray) : Prop := Op.bytesLess a.toList b.toList = true

def seenP (c : Int) : Prop := 32 ≤ c ∧ c ≤ 126

open Classical in
noncomputable def plainB (s : ByteArray) (m : Int) : Bool := decide ((∀ c ∈ bytesOf s, seenP c) ∧ (s.size : Int) ≤ m)

/-- From place j on each cell has a name and a text, and the names rise; the key is a name; there are at most four cells. -/
def formFrom (key : ByteArray) (l : List S38) (j : Nat) : Prop := (∀ (i : Nat) (h : i < l.length), j ≤ i → nameB (bytesOf l[i].f0) = true ∧ plainB l[i].f1 60 = true ∧ ∀ h0 : 0 < i, lessT (l[i - 1]'(by omega)).f0 l[i].f0) ∧ nameB (bytesOf key) = true ∧ l.length ≤ 4

open Classical in
noncomputable def formB (key : ByteArray) (l : List S38) : Bool := decide (formFrom key l 0)

theorem formFrom_end {key : ByteArray} {l : List S38} {j : Nat} (hj : l.length ≤ j) : formFrom key l j ↔ nameB (bytesOf key) = true ∧ l.length ≤ 4 := ⟨fun h => h.2, fun h => ⟨fun i hi hji => by omega, h⟩⟩

theorem formFrom_step {key : ByteArray} {l : List S38} {j : Nat} (hj : j < l.length) : formFrom key l j ↔ (nameB (bytesOf l[j].f0) = true ∧ plainB l[j].f1 60 = true ∧ ∀ h0 : 0 < j, lessT (l[j - 1]'(by omega)).f0 l[j].f0) ∧ formFrom key l (j + 1) := by
  constructor
  · rintro ⟨h, h2⟩
    exact ⟨h j hj (Nat.le_refl _), fun i hi hji => h i hi (by omega), h2⟩
  · rintro ⟨h, h1, h2⟩
    refine ⟨fun i hi hji => ?_, h2⟩
    rcases Nat.lt_or_ge j i with hlt | hge
    · exact h1 i hi hlt
    · obtain rfl : i = j := by omega
      exact h

theorem nameFrom_end {l : List Int} {j : Nat} (hj : l.length ≤ j) : nameFrom l j ↔ 1 ≤ l.length ∧ l.length ≤ 8 := ⟨fun h => h.2, fun h => ⟨fun i hi hji => by omega, h⟩⟩

theorem nameFrom_step {l : List Int} {j : Nat} (hj : j < l.length) : nameFrom l j ↔ (lowP l[j] ∨ (0 < j ∧ digP l[j])) ∧ nameFrom l (j + 1) := by
  constructor
  · rintro ⟨h, h2⟩
    exact ⟨h j hj (Nat.le_refl _), fun i hi hji => h i hi (by omega), h2⟩
  · rintro ⟨h, h1, h2⟩
    refine ⟨fun i hi hji => ?_, h2⟩
    rcases Nat.lt_or_ge j i with hlt | hge
    · exact h1 i hi hlt
    · obtain rfl : i = j := by omega
      exact h

theorem rd_get (l : List Int) (j : Nat) (h : j < l.length) : rd l (j : Int) = l[j] := by
  unfold rd; simp [List.getD_eq_getElem?_getD, List.getElem?_eq_getElem h]

theorem bt_get (s : ByteArray) (j : Nat) (h : j < (bytesOf s).length) : bt s (j : Int) = (bytesOf s)[j] := by
  rw [← rd_bytesOf, rd_get _ _ h]

theorem ev_eq {α : Type} {g : Nat → Option α} {r : α} (h : ∀ k, g k = some r) : Ev g r := ⟨0, fun k _ => h k⟩

theorem impl_digit_eq (a : Int) : impl_digit.f a = some (decide (digP a)) := by
  unfold impl_digit.f digP
  by_cases h : a ≥ 48
  · rw [if_pos h]; congr 1; exact decide_eq_decide.2 (by omega)
  · rw [if_neg h]; congr 1; symm; exact decide_eq_false (by omega)

theorem impl_lower_eq (a : Int) : impl_lower.f a = some (decide (lowP a)) := by
  unfold impl_lower.f lowP
  by_cases h : a ≥ 97
  · rw [if_pos h]; congr 1; exact decide_eq_decide.2 (by omega)
  · rw [if_neg h]; congr 1; symm; exact decide_eq_false (by omega)

theorem impl_within_eq (a b c : Int) : impl_within.f a b c = some (decide (b ≤ a ∧ a ≤ c)) := by
  unfold impl_within.f
  by_cases h : a ≥ b
  · rw [if_pos h]; congr 1; exact decide_eq_decide.2 ⟨fun h2 => ⟨h, h2⟩, fun h2 => h2.2⟩
  · rw [if_neg h]; congr 1; symm; exact decide_eq_false (fun h2 => h h2.1)

open Classical in
theorem impl_NameOk_l0 (s : ByteArray) (hn : s.size < 4611686018427387904) : ∀ (d i : Nat), i + d = s.size → Ev (fun k => impl_NameOk.l0 k s (s.size : Int) (i : Int)) (decide (nameFrom (bytesOf s) i)) := by
  have hb := bytesOf_length s
  intro d
  induction d with
  | zero =>
    intro i hi
    refine Ev.step (fun k => impl_NameOk.l0.eq_2 _ _ _ _) ?_
    simp only [if_neg (show ¬ ((i : Int) < (s.size : Int)) by omega), impl_within_eq, Option.bind_some]
    refine ev_prop (nameFrom_end (by omega)).symm ?_
    refine ev_eq fun _ => ?_
    congr 1; exact decide_eq_decide.2 (by omega)
  | succ d ih =>
    intro i hi
    have hs := nameFrom_step (l := bytesOf s) (j := i) (by omega)
    refine Ev.step (fun k => impl_NameOk.l0.eq_2 _ _ _ _) ?_
    simp only [if_pos (show ((i : Int) < (s.size : Int)) by omega), if_pos (show 0 ≤ (i : Int) by omega), wsucc i (by omega), bt_get s i (by omega), impl_lower_eq, impl_digit_eq, Option.bind_some, decide_eq_true_eq]
    by_cases h1 : lowP (bytesOf s)[i]
    · simp only [if_pos h1]
      exact ev_prop (hs.trans ⟨fun h => h.2, fun h => ⟨.inl h1, h⟩⟩).symm (ih (i + 1) (by omega))
    · simp only [if_neg h1]
      by_cases h0 : (i : Int) = 0
      · simp only [if_pos h0]
        have : decide (nameFrom (bytesOf s) i) = false := decide_eq_false (fun h => by rcases (hs.1 h).1 with h2 | h2; exact h1 h2; omega)
        rw [this]; exact Ev.now _
      · simp only [if_neg h0]
        by_cases h2 : digP (bytesOf s)[i]
        · simp only [if_pos h2]
          exact ev_prop (hs.trans ⟨fun h => h.2, fun h => ⟨.inr ⟨by omega, h2⟩, h⟩⟩).symm (ih (i + 1) (by omega))
        · simp only [if_neg h2]
          have : decide (nameFrom (bytesOf s) i) = false := decide_eq_false (fun h => by rcases (hs.1 h).1 with h3 | h3; exact h1 h3; exact h2 h3.2)
          rw [this]; exact Ev.now _

theorem impl_NameOk_ev (s : ByteArray) (hn : s.size < 4611686018427387904) : Ev (fun k => impl_NameOk.f k s) (nameB (bytesOf s)) := impl_NameOk_l0 s hn s.size 0 (by omega)

theorem bytesOf_range (s : ByteArray) : ∀ c ∈ bytesOf s, 0 ≤ c ∧ c ≤ 255 := by
  intro c hc
  obtain ⟨b, _, rfl⟩ := List.mem_map.1 hc
  have := b.toNat_lt
  omega

theorem bt_wrap (s : ByteArray) (j : Nat) (h : j < (bytesOf s).length) : wrap64 (bt s (j : Int)) = (bytesOf s)[j] := by
  rw [bt_get s j h]
  have := bytesOf_range s _ (List.getElem_mem h)
  exact wrap_id (by omega) (by omega)

open Classical in
theorem impl_plain_l0 (s : ByteArray) (m : Int) (hs : s.size < 4611686018427387904) : ∀ (d i : Nat), i + d = s.size → Ev (fun k => impl_plain.l0 k s m (s.size : Int) (i : Int)) (decide ((∀ c ∈ (bytesOf s).drop i, seenP c) ∧ (s.size : Int) ≤ m)) := by
  have hlen := bytesOf_length s
  intro d
  induction d with
  | zero =>
    intro i hi
    refine Ev.step (fun k => impl_plain.l0.eq_2 _ _ _ _ _) ?_
    simp only [if_neg (show ¬ ((i : Int) < (s.size : Int)) by omega)]
    refine ev_prop ?_ (Ev.now _)
    rw [List.drop_eq_nil_of_le (by omega)]
    exact ⟨fun h => ⟨fun c hc => by simp at hc, h⟩, fun h => h.2⟩
  | succ d ih =>
    intro i hi
    refine Ev.step (fun k => impl_plain.l0.eq_2 _ _ _ _ _) ?_
    simp only [if_pos (show ((i : Int) < (s.size : Int)) by omega), if_pos (show 0 ≤ (i : Int) by omega), bt_wrap s i (by omega), impl_within_eq, Option.bind_some, decide_eq_true_eq, wsucc i (by omega)]
    have e := List.drop_eq_getElem_cons (l := bytesOf s) (i := i) (by omega)
    by_cases hw : 32 ≤ (bytesOf s)[i] ∧ (bytesOf s)[i] ≤ 126
    · simp only [if_pos hw]
      refine ev_prop ?_ (ih (i + 1) (by omega))
      rw [e]
      constructor
      · rintro ⟨h1, h2⟩
        exact ⟨fun c hc => by rcases List.mem_cons.1 hc with h | h; exact h ▸ hw; exact h1 c h, h2⟩
      · rintro ⟨h1, h2⟩
        exact ⟨fun c hc => h1 c (List.mem_cons_of_mem _ hc), h2⟩
    · simp only [if_neg hw]
      refine ev_false (fun h => hw (h.1 _ ?_)) (Ev.now _)
      rw [e]; exact List.mem_cons_self ..

theorem impl_plain_ev (s : ByteArray) (m : Int) (hs : s.size < 4611686018427387904) : Ev (fun k => impl_plain.f k s m) (plainB s m) := by
  simp only [impl_plain.f, plainB]
  exact impl_plain_l0 s m hs s.size 0 (by omega)

theorem impl_textOk_ev (s : ByteArray) (hs : s.size < 4611686018427387904) : Ev (fun k => impl_textOk.f k s) (plainB s 60) := by
  simp only [impl_textOk.f]
  exact Ev.bind (impl_plain_ev s 60 hs) (Ev.now _)

open Classical in
theorem impl_wellFormed_l0 (key : ByteArray) (l : List S38) (hk : key.size ≤ 1048576) (hn : l.length ≤ 1048576) (hs : ∀ x ∈ l, x.f0.size ≤ 1048576 ∧ x.f1.size ≤ 1048576) : ∀ (d i : Nat), i + d = l.length →
    Ev (fun k => impl_wellFormed.l0 k l (l.length : Int) (i : Int) key l) (decide (formFrom key l i)) := by
  intro d
  induction d with
  | zero =>
    intro i hi
    refine Ev.step (fun k => impl_wellFormed.l0.eq_2 _ _ _ _ _ _) ?_
    simp only [if_neg (show ¬ ((i : Int) < (l.length : Int)) by omega)]
    refine ev_prop (formFrom_end (by omega)).symm ?_
    refine Ev.bind (impl_NameOk_ev key (by omega)) ?_
    cases hnm : nameB (bytesOf key) with
    | false => simp only [if_neg (show ¬ (false = true) by decide)]; exact ev_false (fun h => by cases h.1) (Ev.now _)
    | true =>
      simp only [if_true]
      exact ev_prop ⟨fun h => ⟨(by first | trivial | rfl), by omega⟩, fun h => by have := h.2; omega⟩ (Ev.now _)
  | succ d ih =>
    intro i hi
    have hst := formFrom_step (key := key) (l := l) (j := i) (by omega)
    have hsz := hs l[i] (List.getElem_mem _)
    have hnext := ih (i + 1) (by omega)
    refine Ev.step (fun k => impl_wellFormed.l0.eq_2 _ _ _ _ _ _) ?_
    simp only [if_pos (show ((i : Int) < (l.length : Int)) by omega), if_pos (show 0 ≤ (i : Int) by omega), rdi_Cell l i (by omega), wsucc i (by omega)]
    refine Ev.bind (impl_NameOk_ev l[i].f0 (by omega)) ?_
    cases hnm : nameB (bytesOf l[i].f0) with
    | false => simp only [if_neg (show ¬ (false = true) by decide)]; exact ev_false (fun h => by have := (hst.1 h).1.1; rw [hnm] at this; cases this) (Ev.now _)
    | true =>
      simp only [if_true]
      refine Ev.bind (impl_textOk_ev l[i].f1 (by omega)) ?_
      cases htx : plainB l[i].f1 60 with
      | false => simp only [if_neg (show ¬ (false = true) by decide)]; exact ev_false (fun h => by have := (hst.1 h).1.2.1; rw [htx] at this; cases this) (Ev.now _)
      | true =>
        simp only [if_true]
        by_cases h0 : (i : Int) > 0
        · have he : wrap64 ((i : Int) - 1) = ((i - 1 : Nat) : Int) := by rw [wrap_id (by omega) (by omega)]; omega
          simp only [if_pos h0, he, if_pos (show 0 ≤ ((i - 1 : Nat) : Int) by omega), if_pos (show ((i - 1 : Nat) : Int) < (l.length : Int) by omega), rdi_Cell l (i - 1) (by omega)]
          by_cases hl : lessT (l[i - 1]'(by omega)).f0 l[i].f0
          · have hl2 : Op.bytesLess (l[i - 1]'(by omega)).f0.toList l[i].f0.toList = true := hl
            simp only [hl2, if_true]
            exact ev_prop (hst.trans ⟨fun h => h.2, fun h => ⟨⟨hnm, htx, fun _ => hl⟩, h⟩⟩).symm hnext
          · have hl2 : Op.bytesLess (l[i - 1]'(by omega)).f0.toList l[i].f0.toList = false := Bool.eq_false_iff.2 hl
            simp only [hl2, if_neg (show ¬ (false = true) by decide)]
            exact ev_false (fun h => hl ((hst.1 h).1.2.2 (by omega))) (Ev.now _)
        · simp only [if_neg h0]
          exact ev_prop (hst.trans ⟨fun h => h.2, fun h => ⟨⟨hnm, htx, fun h1 => by omega⟩, h⟩⟩).symm hnext

theorem impl_wellFormed_ev (key : ByteArray) (l : List S38) (hk : key.size ≤ 1048576) (hn : l.length ≤ 1048576) (hs : ∀ x ∈ l, x.f0.size ≤ 1048576 ∧ x.f1.size ≤ 1048576) : Ev (fun k => impl_wellFormed.f k key l) (formB key l) := impl_wellFormed_l0 key l hk hn hs l.length 0 (by omega)

/-- A document's text: the key, and a line a cell. -/
def putFrom (acc : ByteArray) : List S38 → ByteArray
  | [] => acc
  | c :: cs => putFrom ((((acc ++ (⟨#[10]⟩ : ByteArray)) ++ c.f0) ++ (⟨#[61]⟩ : ByteArray)) ++ c.f1) cs

noncomputable def docPutB (key : ByteArray) (l : List S38) : ByteArray := if formB key l = true then putFrom key l else (⟨#[]⟩ : ByteArray)

theorem drop_get {α : Type} (l : List α) (j : Nat) (h : j < l.length) : l.drop j = l[j] :: l.drop (j + 1) := List.drop_eq_getElem_cons h

theorem size10 : (⟨#[10]⟩ : ByteArray).size = 1 := rfl

theorem size61 : (⟨#[61]⟩ : ByteArray).size = 1 := rfl

theorem impl_DocPut_l0 (l : List S38) (hn : l.length ≤ 1048576) (hs : ∀ x ∈ l, x.f0.size ≤ 1048576 ∧ x.f1.size ≤ 1048576) : ∀ (d i : Nat) (acc : ByteArray), i + d = l.length → acc.size + 3000000 * d ≤ 10000000000000 →
    Ev (fun k => impl_DocPut.l0 k acc l (l.length : Int) (i : Int)) (putFrom acc (l.drop i)) := by
  intro d
  induction d with
  | zero =>
    intro i acc hi ha
    refine Ev.step (fun k => impl_DocPut.l0.eq_2 _ _ _ _ _) ?_
    simp only [if_neg (show ¬ ((i : Int) < (l.length : Int)) by omega)]
    rw [List.drop_eq_nil_of_le (by omega)]; exact Ev.now _
  | succ d ih =>
    intro i acc hi ha
    have hsz := hs l[i] (List.getElem_mem _)
    have z2 : ((⟨#[10]⟩ : ByteArray) ++ l[i].f0).size = 1 + l[i].f0.size := by rw [ByteArray.size_append, size10]
    have z3 : (((⟨#[10]⟩ : ByteArray) ++ l[i].f0) ++ (⟨#[61]⟩ : ByteArray)).size = 1 + l[i].f0.size + 1 := by rw [ByteArray.size_append, z2, size61]
    have z4 : ((((⟨#[10]⟩ : ByteArray) ++ l[i].f0) ++ (⟨#[61]⟩ : ByteArray)) ++ l[i].f1).size = 1 + l[i].f0.size + 1 + l[i].f1.size := by rw [ByteArray.size_append, z3]
    have e : acc ++ ((((⟨#[10]⟩ : ByteArray) ++ l[i].f0) ++ (⟨#[61]⟩ : ByteArray)) ++ l[i].f1) = (((acc ++ (⟨#[10]⟩ : ByteArray)) ++ l[i].f0) ++ (⟨#[61]⟩ : ByteArray)) ++ l[i].f1 := by
      rw [← ByteArray.append_assoc, ← ByteArray.append_assoc, ← ByteArray.append_assoc]
    have h := ih (i + 1) (acc ++ ((((⟨#[10]⟩ : ByteArray) ++ l[i].f0) ++ (⟨#[61]⟩ : ByteArray)) ++ l[i].f1)) (by omega) (by rw [ByteArray.size_append, z4]; omega)
    refine Ev.step (fun k => impl_DocPut.l0.eq_2 _ _ _ _ _) ?_
    simp only [if_pos (show ((i : Int) < (l.length : Int)) by omega), if_pos (show 0 ≤ (i : Int) by omega), rdi_Cell l i (by omega), wsucc i (by omega), z2, z3, z4, if_pos (show 1 + l[i].f0.size ≤ 9223372036854775807 by omega), if_pos (show 1 + l[i].f0.size + 1 ≤ 9223372036854775807 by omega), if_pos (show 1 + l[i].f0.size + 1 + l[i].f1.size ≤ 9223372036854775807 by omega), if_pos (show acc.size + (1 + l[i].f0.size + 1 + l[i].f1.size) ≤ 9223372036854775807 by omega)]
    rw [drop_get l i (by omega)]
    rw [e] at h
    simp only [e]
    exact h

theorem impl_DocPut_ev (key : ByteArray) (l : List S38) (hk : key.size ≤ 1048576) (hn : l.length ≤ 1048576) (hs : ∀ x ∈ l, x.f0.size ≤ 1048576 ∧ x.f1.size ≤ 1048576) : Ev (fun k => impl_DocPut.f k key l) (docPutB key l) := by
  simp only [impl_DocPut.f, docPutB]
  refine Ev.bind (impl_wellFormed_ev key l hk hn hs) ?_
  cases formB key l with
  | false => exact Ev.now _
  | true => simp only [if_true]; exact impl_DocPut_l0 l hn hs l.length 0 key (by omega) (by omega)

theorem spec_l1In_eq (a b c : Int) : spec_l1In.f a b c = some (decide (b ≤ a ∧ a ≤ c)) := by
  unfold spec_l1In.f
  by_cases h : a ≥ b
  · rw [if_pos h]; congr 1; exact decide_eq_decide.2 ⟨fun h2 => ⟨h, h2⟩, fun h2 => h2.2⟩
  · rw [if_neg h]; congr 1; symm; exact decide_eq_false (fun h2 => h h2.1)

open Classical in
theorem spec_NameOk_l0 (s : ByteArray) (hn : s.size < 4611686018427387904) : ∀ (d i : Nat), i + d = s.size → Ev (fun k => spec_NameOk.l0 k s (i : Int)) (decide (nameFrom (bytesOf s) i)) := by
  have hb := bytesOf_length s
  intro d
  induction d with
  | zero =>
    intro i hi
    refine Ev.step (fun k => spec_NameOk.l0.eq_2 _ _ _) ?_
    simp only [if_neg (show ¬ ((i : Int) < (s.size : Int)) by omega), spec_l1In_eq, Option.bind_some]
    refine ev_prop (nameFrom_end (by omega)).symm ?_
    refine ev_eq fun _ => ?_
    congr 1; exact decide_eq_decide.2 (by omega)
  | succ d ih =>
    intro i hi
    have hs := nameFrom_step (l := bytesOf s) (j := i) (by omega)
    refine Ev.step (fun k => spec_NameOk.l0.eq_2 _ _ _) ?_
    simp only [if_pos (show ((i : Int) < (s.size : Int)) by omega), if_pos (show 0 ≤ (i : Int) by omega), wsucc i (by omega), bt_get s i (by omega)]
    by_cases h1 : lowP (bytesOf s)[i]
    · simp only [if_pos (show (bytesOf s)[i] ≥ 97 from h1.1), if_pos h1.2]
      exact ev_prop (hs.trans ⟨fun h => h.2, fun h => ⟨.inl h1, h⟩⟩).symm (ih (i + 1) (by omega))
    · have key : Ev (fun k => if (i : Int) = 0 then some false else if (bytesOf s)[i] < 48 then some false else if (bytesOf s)[i] > 57 then some false else spec_NameOk.l0 k s ((i + 1 : Nat) : Int)) (decide (nameFrom (bytesOf s) i)) := by
        by_cases h0 : (i : Int) = 0
        · simp only [if_pos h0]
          have : decide (nameFrom (bytesOf s) i) = false := decide_eq_false (fun h => by rcases (hs.1 h).1 with h2 | h2; exact h1 h2; omega)
          rw [this]; exact Ev.now _
        · simp only [if_neg h0]
          by_cases h2 : digP (bytesOf s)[i]
          · simp only [if_neg (show ¬ (bytesOf s)[i] < 48 by have := h2.1; omega), if_neg (show ¬ (bytesOf s)[i] > 57 by have := h2.2; omega)]
            exact ev_prop (hs.trans ⟨fun h => h.2, fun h => ⟨.inr ⟨by omega, h2⟩, h⟩⟩).symm (ih (i + 1) (by omega))
          · have : decide (nameFrom (bytesOf s) i) = false := decide_eq_false (fun h => by rcases (hs.1 h).1 with h3 | h3; exact h1 h3; exact h2 h3.2)
            rw [this]
            by_cases h3 : (bytesOf s)[i] < 48
            · simp only [if_pos h3]; exact Ev.now _
            · simp only [if_neg h3, if_pos (show (bytesOf s)[i] > 57 by unfold digP at h2; omega)]; exact Ev.now _
      by_cases h3 : (bytesOf s)[i] ≥ 97
      · simp only [if_pos h3, if_neg (show ¬ (bytesOf s)[i] ≤ 122 by unfold lowP at h1; omega)]; exact key
      · simp only [if_neg h3]; exact key

theorem spec_NameOk_ev (s : ByteArray) (hn : s.size < 4611686018427387904) : Ev (fun k => spec_NameOk.f k s) (nameB (bytesOf s)) := spec_NameOk_l0 s hn s.size 0 (by omega)

open Classical in
theorem spec_l2Text_l0 (s : ByteArray) (hs : s.size < 4611686018427387904) : ∀ (d i : Nat), i + d = s.size → Ev (fun k => spec_l2Text.l0 k s (i : Int)) (decide ((∀ c ∈ (bytesOf s).drop i, seenP c) ∧ (s.size : Int) ≤ 60)) := by
  have hlen := bytesOf_length s
  intro d
  induction d with
  | zero =>
    intro i hi
    refine Ev.step (fun k => spec_l2Text.l0.eq_2 _ _ _) ?_
    simp only [if_neg (show ¬ ((i : Int) < (s.size : Int)) by omega)]
    refine ev_prop ?_ (Ev.now _)
    rw [List.drop_eq_nil_of_le (by omega)]
    exact ⟨fun h => ⟨fun c hc => by simp at hc, h⟩, fun h => h.2⟩
  | succ d ih =>
    intro i hi
    refine Ev.step (fun k => spec_l2Text.l0.eq_2 _ _ _) ?_
    simp only [if_pos (show ((i : Int) < (s.size : Int)) by omega), if_pos (show 0 ≤ (i : Int) by omega), bt_wrap s i (by omega), spec_l1In_eq, Option.bind_some, decide_eq_true_eq, wsucc i (by omega)]
    have e := List.drop_eq_getElem_cons (l := bytesOf s) (i := i) (by omega)
    by_cases hw : 32 ≤ (bytesOf s)[i] ∧ (bytesOf s)[i] ≤ 126
    · simp only [if_pos hw]
      refine ev_prop ?_ (ih (i + 1) (by omega))
      rw [e]
      constructor
      · rintro ⟨h1, h2⟩
        exact ⟨fun c hc => by rcases List.mem_cons.1 hc with h | h; exact h ▸ hw; exact h1 c h, h2⟩
      · rintro ⟨h1, h2⟩
        exact ⟨fun c hc => h1 c (List.mem_cons_of_mem _ hc), h2⟩
    · simp only [if_neg hw]
      refine ev_false (fun h => hw (h.1 _ ?_)) (Ev.now _)
      rw [e]; exact List.mem_cons_self ..

theorem spec_l2Text_ev (s : ByteArray) (hs : s.size < 4611686018427387904) : Ev (fun k => spec_l2Text.f k s) (plainB s 60) := by
  simp only [spec_l2Text.f, plainB]
  exact spec_l2Text_l0 s hs s.size 0 (by omega)

open Classical in
theorem spec_l2Form_l0 (key : ByteArray) (l : List S38) (hk : key.size ≤ 1048576) (hn : l.length ≤ 1048576) (hs : ∀ x ∈ l, x.f0.size ≤ 1048576 ∧ x.f1.size ≤ 1048576) : ∀ (d i : Nat), i + d = l.length →
    Ev (fun k => spec_l2Form.l0 k (i : Int) key l) (decide (formFrom key l i)) := by
  intro d
  induction d with
  | zero =>
    intro i hi
    refine Ev.step (fun k => spec_l2Form.l0.eq_2 _ _ _ _) ?_
    simp only [if_neg (show ¬ ((i : Int) < (l.length : Int)) by omega)]
    refine ev_prop (formFrom_end (by omega)).symm ?_
    refine Ev.bind (spec_NameOk_ev key (by omega)) ?_
    cases hnm : nameB (bytesOf key) with
    | false => simp only [if_neg (show ¬ (false = true) by decide)]; exact ev_false (fun h => by cases h.1) (Ev.now _)
    | true =>
      simp only [if_true]
      exact ev_prop ⟨fun h => ⟨(by first | trivial | rfl), by omega⟩, fun h => by have := h.2; omega⟩ (Ev.now _)
  | succ d ih =>
    intro i hi
    have hst := formFrom_step (key := key) (l := l) (j := i) (by omega)
    have hsz := hs l[i] (List.getElem_mem _)
    have hnext := ih (i + 1) (by omega)
    refine Ev.step (fun k => spec_l2Form.l0.eq_2 _ _ _ _) ?_
    simp only [if_pos (show ((i : Int) < (l.length : Int)) by omega), if_pos (show 0 ≤ (i : Int) by omega), rdi_Cell l i (by omega), wsucc i (by omega)]
    refine Ev.bind (spec_NameOk_ev l[i].f0 (by omega)) ?_
    cases hnm : nameB (bytesOf l[i].f0) with
    | false => simp only [if_neg (show ¬ (false = true) by decide)]; exact ev_false (fun h => by have := (hst.1 h).1.1; rw [hnm] at this; cases this) (Ev.now _)
    | true =>
      simp only [if_true]
      refine Ev.bind (spec_l2Text_ev l[i].f1 (by omega)) ?_
      cases htx : plainB l[i].f1 60 with
      | false => simp only [if_neg (show ¬ (false = true) by decide)]; exact ev_false (fun h => by have := (hst.1 h).1.2.1; rw [htx] at this; cases this) (Ev.now _)
      | true =>
        simp only [if_true]
        by_cases h0 : (i : Int) > 0
        · have he : wrap64 ((i : Int) - 1) = ((i - 1 : Nat) : Int) := by rw [wrap_id (by omega) (by omega)]; omega
          simp only [if_pos h0, he, if_pos (show 0 ≤ ((i - 1 : Nat) : Int) by omega), if_pos (show ((i - 1 : Nat) : Int) < (l.length : Int) by omega), rdi_Cell l (i - 1) (by omega)]
          by_cases hl : lessT (l[i - 1]'(by omega)).f0 l[i].f0
          · have hl2 : Op.bytesLess (l[i - 1]'(by omega)).f0.toList l[i].f0.toList = true := hl
            simp only [hl2, if_true]
            exact ev_prop (hst.trans ⟨fun h => h.2, fun h => ⟨⟨hnm, htx, fun _ => hl⟩, h⟩⟩).symm hnext
          · have hl2 : Op.bytesLess (l[i - 1]'(by omega)).f0.toList l[i].f0.toList = false := Bool.eq_false_iff.2 hl
            simp only [hl2, if_neg (show ¬ (false = true) by decide)]
            exact ev_false (fun h => hl ((hst.1 h).1.2.2 (by omega))) (Ev.now _)
        · simp only [if_neg h0]
          exact ev_prop (hst.trans ⟨fun h => h.2, fun h => ⟨⟨hnm, htx, fun h1 => by omega⟩, h⟩⟩).symm hnext

theorem spec_l2Form_ev (key : ByteArray) (l : List S38) (hk : key.size ≤ 1048576) (hn : l.length ≤ 1048576) (hs : ∀ x ∈ l, x.f0.size ≤ 1048576 ∧ x.f1.size ≤ 1048576) : Ev (fun k => spec_l2Form.f k key l) (formB key l) := spec_l2Form_l0 key l hk hn hs l.length 0 (by omega)

theorem spec_l2DocPut_l0 (key : ByteArray) (l : List S38) (hn : l.length ≤ 1048576) (hs : ∀ x ∈ l, x.f0.size ≤ 1048576 ∧ x.f1.size ≤ 1048576) : ∀ (d i : Nat) (acc : ByteArray), i + d = l.length → acc.size + 3000000 * d ≤ 10000000000000 →
    Ev (fun k => spec_l2DocPut.l0 k acc (i : Int) key l) (putFrom acc (l.drop i)) := by
  intro d
  induction d with
  | zero =>
    intro i acc hi ha
    refine Ev.step (fun k => spec_l2DocPut.l0.eq_2 _ _ _ _ _) ?_
    simp only [if_neg (show ¬ ((i : Int) < (l.length : Int)) by omega)]
    rw [List.drop_eq_nil_of_le (by omega)]; exact Ev.now _
  | succ d ih =>
    intro i acc hi ha
    have hsz := hs l[i] (List.getElem_mem _)
    have z1 : (acc ++ (⟨#[10]⟩ : ByteArray)).size = acc.size + 1 := by rw [ByteArray.size_append, size10]
    have z2 : ((acc ++ (⟨#[10]⟩ : ByteArray)) ++ l[i].f0).size = acc.size + 1 + l[i].f0.size := by rw [ByteArray.size_append, z1]
    have z3 : (((acc ++ (⟨#[10]⟩ : ByteArray)) ++ l[i].f0) ++ (⟨#[61]⟩ : ByteArray)).size = acc.size + 1 + l[i].f0.size + 1 := by rw [ByteArray.size_append, z2, size61]
    have z4 : ((((acc ++ (⟨#[10]⟩ : ByteArray)) ++ l[i].f0) ++ (⟨#[61]⟩ : ByteArray)) ++ l[i].f1).size = acc.size + 1 + l[i].f0.size + 1 + l[i].f1.size := by rw [ByteArray.size_append, z3]
    have h := ih (i + 1) _ (by omega) (show ((((acc ++ (⟨#[10]⟩ : ByteArray)) ++ l[i].f0) ++ (⟨#[61]⟩ : ByteArray)) ++ l[i].f1).size + 3000000 * d ≤ 10000000000000 by omega)
    refine Ev.step (fun k => spec_l2DocPut.l0.eq_2 _ _ _ _ _) ?_
    simp only [if_pos (show ((i : Int) < (l.length : Int)) by omega), if_pos (show 0 ≤ (i : Int) by omega), rdi_Cell l i (by omega), wsucc i (by omega), z1, z2, z3, if_pos (show acc.size + 1 ≤ 9223372036854775807 by omega), if_pos (show acc.size + 1 + l[i].f0.size ≤ 9223372036854775807 by omega), if_pos (show acc.size + 1 + l[i].f0.size + 1 ≤ 9223372036854775807 by omega), if_pos (show acc.size + 1 + l[i].f0.size + 1 + l[i].f1.size ≤ 9223372036854775807 by omega)]
    rw [drop_get l i (by omega)]
    exact h

theorem spec_l2DocPut_ev (key : ByteArray) (l : List S38) (hk : key.size ≤ 1048576) (hn : l.length ≤ 1048576) (hs : ∀ x ∈ l, x.f0.size ≤ 1048576 ∧ x.f1.size ≤ 1048576) : Ev (fun k => spec_l2DocPut.f k key l) (putFrom key l) := spec_l2DocPut_l0 key l hn hs l.length 0 key (by omega) (by omega)

theorem spec_DocPut_ev (key : ByteArray) (l : List S38) (hk : key.size ≤ 1048576) (hn : l.length ≤ 1048576) (hs : ∀ x ∈ l, x.f0.size ≤ 1048576 ∧ x.f1.size ≤ 1048576) : Ev (fun k => spec_DocPut.f k key l) (docPutB key l) := by
  simp only [spec_DocPut.f, docPutB]
  refine Ev.bind (spec_l2Form_ev key l hk hn hs) ?_
  cases formB key l with
  | false => exact Ev.now _
  | true => simp only [if_true]; exact Ev.bind (spec_l2DocPut_ev key l hk hn hs) (Ev.now _)

theorem FnExactDocPut : laws_FnExactDocPut.PureX := by
  intro key l hk hl
  have hm : maxLen = 9223372036854775807 := rfl
  refine Ev.rounds (g := fun k => laws_FnExactDocPut.f k key l) ?_
  simp only [laws_FnExactDocPut.f]
  obtain ⟨r, hr, hq⟩ := szDoc_ev key l (by omega) (by omega) (fun x hx => by have := hl.2 x hx; unfold wideCell; exact ⟨by have := this.1; omega, by have := this.2; omega⟩) 1048576 (by omega) (by omega)
  refine Ev.bind hr ?_
  rcases hq with hq | ⟨q0, q1, q2, q3, q4⟩
  · simp only [hq, if_pos (show (-1 : Int) < 0 by omega)]; exact Ev.now _
  simp only [if_neg (show ¬ r < 0 by omega)]
  have hlen : (l.map cCell).length ≤ 1048576 := by rw [List.length_map]; omega
  refine Ev.bind (toDoc_ev key l q3) ?_
  refine Ev.bind (spec_DocPut_ev key _ q2 hlen (small_map_Cell q4)) ?_
  refine Ev.bind (toDoc_ev key l q3) ?_
  refine Ev.bind (impl_DocPut_ev key _ q2 hlen (small_map_Cell q4)) ?_
  simp only [if_true]
  refine Ev.bind (toDoc_ev key l q3) ?_
  refine Ev.bind (eqDoc_refl _ _ (by omega)) ?_
  simp only [if_true]
  exact Ev.now _

end Go.Proofs.Ytifenfjjekpflaa.Pure
