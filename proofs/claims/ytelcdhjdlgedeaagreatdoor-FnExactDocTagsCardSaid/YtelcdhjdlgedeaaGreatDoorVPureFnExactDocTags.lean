/- The plain law of FnExactDocTags: whatever the input, the printed function of this law answers true after enough rounds; conditions: only the sizes and kinds that the law's Pure states. -/
import Derived.Test.YtelcdhjdlgedeaaGreatDoorVSFnExactDocTags
import Derived.Lib.IndexBytes
import Derived.Lib.SplitLaws
import Derived.Lib.AtoiAllCases
import Derived.Lib.ItoaNum
import Derived.Lib.SlicesCompact
import Derived.Lib.Strings
namespace Go.Proofs.YtelcdhjdlgedeaaGreatDoor.Pure
open Go.RowKit Go.Proofs.YtelcdhjdlgedeaaGreatDoor.PFnExactDocTags Go.Proofs.YtelcdhjdlgedeaaGreatDoorW.PrintWords Go.Proofs.YtelcdhjdlgedeaaGreatDoorW.PrintLast Go.Proofs.YtelcdhjdlgedeaaGreatDoorW.PrintMore
set_option linter.unusedVariables false
set_option linter.unusedSimpArgs false

theorem toList_data (s : ByteArray) : s.toList = s.data.toList := by
  exact ByteArray.toList_eq s

theorem toList_inj {a b : ByteArray} : a.toList = b.toList ↔ a = b := by
  rw [toList_data, toList_data]
  constructor
  · intro h; exact ByteArray.ext (Array.toList_inj.1 h)
  · rintro rfl; rfl

open Classical in
theorem eqCell_eq (x y : S96) : laws_eqCell.f x.f0 x.f1 y.f0 y.f1 = some (decide (x = y)) := by
  obtain ⟨a0, a1⟩ := x
  obtain ⟨b0, b1⟩ := y
  simp only [laws_eqCell.f, toList_inj]
  by_cases h0 : a0 = b0
  case neg => simp [h0]
  by_cases h1 : a1 = b1
  case neg => simp [h0, h1]
  simp [h0, h1]

theorem rdi_Cell (l : List S96) (j : Nat) (h : j < l.length) : rd_T96 l (j : Int) = l[j] := by
  unfold rd_T96; simp [List.getD_eq_getElem?_getD, List.getElem?_eq_getElem h]

theorem drop_eq_step {α : Type} {a b : List α} {j : Nat} (ha : j < a.length) (hb : j < b.length) : a.drop j = b.drop j ↔ a[j] = b[j] ∧ a.drop (j + 1) = b.drop (j + 1) := by
  rw [List.drop_eq_getElem_cons ha, List.drop_eq_getElem_cons hb, List.cons.injEq]

theorem ev_false {g : Nat → Option Bool} {p : Prop} [Decidable p] (h : ¬ p) (k : Ev g false) : Ev g (decide p) := by
  rw [decide_eq_false h]; exact k

theorem ev_prop {g : Nat → Option Bool} {p q : Prop} [Decidable p] [Decidable q] (h : p ↔ q) (k : Ev g (decide p)) : Ev g (decide q) := by
  have : decide p = decide q := decide_eq_decide.2 h
  rw [← this]; exact k

theorem ev_true {g : Nat → Option Bool} {p : Prop} [Decidable p] (h : p) (k : Ev g true) : Ev g (decide p) := by
  rw [decide_eq_true h]; exact k

theorem wrap_id {x : Int} (h0 : -9223372036854775808 ≤ x) (h1 : x ≤ 9223372036854775807) : wrap64 x = x := by unfold wrap64; omega

theorem wsucc (j : Nat) (h : j < 9223372036854775807) : wrap64 ((j : Int) + 1) = ((j + 1 : Nat) : Int) := by rw [wrap_id (by omega) (by omega)]; omega

open Classical in
theorem eqCellS_l0 (a b : List S96) (hn : a.length < 4611686018427387904) (hl : a.length = b.length) : ∀ (d i : Nat), i + d = a.length →
    Ev (fun k => laws_eqCellS.l0 k a b (i : Int)) (decide (a.drop i = b.drop i)) := by
  intro d
  induction d with
  | zero =>
    intro i hi
    refine Ev.step (fun k => laws_eqCellS.l0.eq_2 _ _ _ _) ?_
    simp only [if_neg (show ¬ ((i : Int) < (a.length : Int)) by omega)]
    rw [List.drop_of_length_le (by omega), List.drop_of_length_le (by omega)]
    exact ev_true rfl (Ev.now _)
  | succ d ih =>
    intro i hi
    refine Ev.step (fun k => laws_eqCellS.l0.eq_2 _ _ _ _) ?_
    simp only [if_pos (show ((i : Int) < (a.length : Int)) by omega), if_pos (show 0 ≤ (i : Int) by omega), if_pos (show ((i : Int) < (b.length : Int)) by omega), wsucc i (by omega), rdi_Cell a i (by omega), rdi_Cell b i (by omega), eqCell_eq, Option.bind_some, decide_eq_true_eq]
    have hs := drop_eq_step (a := a) (b := b) (show i < a.length by omega) (show i < b.length by omega)
    by_cases h : a[i] = b[i]
    · simp only [if_pos h]
      exact ev_prop (hs.trans ⟨fun h1 => h1.2, fun h1 => ⟨h, h1⟩⟩).symm (ih (i + 1) (by omega))
    · simp only [if_neg h]
      exact ev_false (fun h1 => h (hs.1 h1).1) (Ev.now _)

open Classical in
theorem eqCellS_ev (a b : List S96) (hn : a.length < 4611686018427387904) : Ev (fun k => laws_eqCellS.f k a b) (decide (a = b)) := by
  simp only [laws_eqCellS.f]
  by_cases hl : a.length = b.length
  · simp only [if_pos (show (a.length : Int) = (b.length : Int) by omega)]
    exact eqCellS_l0 a b hn hl a.length 0 (by omega)
  · simp only [if_neg (show ¬ (a.length : Int) = (b.length : Int) by omega)]
    exact ev_false (fun h => hl (by rw [h])) (Ev.now _)

open Classical in
theorem eqDoc_ev (k1 : ByteArray) (c1 : List S96) (k2 : ByteArray) (c2 : List S96) (hn : c1.length < 4611686018427387904) : Ev (fun k => laws_eqDoc.f k k1 c1 k2 c2) (decide (k1 = k2 ∧ c1 = c2)) := by
  simp only [laws_eqDoc.f, toList_inj]
  by_cases h : k1 = k2
  · simp only [if_pos h]
    refine Ev.bind (eqCellS_ev c1 c2 hn) ?_
    by_cases h2 : c1 = c2
    · simp only [decide_eq_true h2, if_true]; exact ev_true ⟨h, h2⟩ (Ev.now _)
    · simp only [decide_eq_false h2]; exact ev_false (fun h3 => h2 h3.2) (Ev.now _)
  · simp only [if_neg h]; exact ev_false (fun h3 => h h3.1) (Ev.now _)

open Classical in
theorem eqDoc_refl (k1 : ByteArray) (c1 : List S96) (hn : c1.length < 4611686018427387904) : Ev (fun k => laws_eqDoc.f k k1 c1 k1 c1) true := by
  have := eqDoc_ev k1 c1 k1 c1 hn
  rwa [decide_eq_true ⟨rfl, rfl⟩] at this

def smallCell (x : S117) : Prop := x.f0.size ≤ 1048576 ∧ x.f1.size ≤ 1048576

theorem rdl_Cell (l : List S117) (j : Nat) (h : j < l.length) : rd_T117 l (j : Int) = l[j] := by
  unfold rd_T117; simp [List.getD_eq_getElem?_getD, List.getElem?_eq_getElem h]

def wideCell (x : S117) : Prop := x.f0.size ≤ 9223372036854775807 ∧ x.f1.size ≤ 9223372036854775807

theorem szCell_eq (x : S117) (a : Int) (hx : wideCell x) (h0 : 0 ≤ a) (h1 : a ≤ 1048576) : ∃ r, laws_szCell.f x.f0 x.f1 a = some r ∧ (r = -1 ∨ (0 ≤ r ∧ r ≤ a ∧ smallCell x)) := by
  unfold wideCell at hx
  unfold smallCell
  unfold laws_szCell.f
  rw [wrap_id (x := a - (x.f0.size : Int)) (by omega) (by omega)]
  by_cases h20 : a - (x.f0.size : Int) < 0
  · rw [if_pos h20]; exact ⟨_, rfl, .inl rfl⟩
  rw [if_neg h20]
  rw [wrap_id (x := a - (x.f0.size : Int) - (x.f1.size : Int)) (by omega) (by omega)]
  by_cases h21 : a - (x.f0.size : Int) - (x.f1.size : Int) < 0
  · rw [if_pos h21]; exact ⟨_, rfl, .inl rfl⟩
  rw [if_neg h21]
  exact ⟨_, rfl, .inr ⟨by omega, by omega, by omega⟩⟩

theorem mem_drop_step {α : Type} {l : List α} {j : Nat} {n : α} (h : j < l.length) : n ∈ l.drop j ↔ n = l[j] ∨ n ∈ l.drop (j + 1) := by
  rw [List.drop_eq_getElem_cons h, List.mem_cons]

theorem szCellS_l0 (l : List S117) (hl : l.length ≤ 1048576) (hg : ∀ x ∈ l, wideCell x) : ∀ (d i : Nat) (a : Int), i + d = l.length → 0 ≤ a → a ≤ 1048576 →
    ∃ r, Ev (fun k => laws_szCellS.l0 k l a (i : Int)) r ∧ (r = -1 ∨ (0 ≤ r ∧ r ≤ a ∧ ∀ x ∈ l.drop i, smallCell x)) := by
  intro d
  induction d with
  | zero =>
    intro i a hi h0 h1
    refine ⟨a, Ev.step (fun k => laws_szCellS.l0.eq_2 _ _ _ _) ?_, .inr ⟨h0, Int.le_refl _, fun x hx => ?_⟩⟩
    · simp only [if_neg (show ¬ ((i : Int) < (l.length : Int)) by omega)]; exact Ev.now _
    · rw [List.drop_of_length_le (by omega)] at hx; cases hx
  | succ d ih =>
    intro i a hi h0 h1
    obtain ⟨r1, hr1, hc⟩ := szCell_eq l[i] a (hg _ (List.getElem_mem _)) h0 h1
    rcases hc with hc | ⟨hc0, hc1, hc2⟩
    · refine ⟨-1, Ev.step (fun k => laws_szCellS.l0.eq_2 _ _ _ _) ?_, .inl rfl⟩
      simp only [if_pos (show ((i : Int) < (l.length : Int)) by omega), if_pos (show 0 ≤ (i : Int) by omega), rdl_Cell l i (by omega), hr1, Option.bind_some, hc]
      exact Ev.now _
    · obtain ⟨r, hr, hq⟩ := ih (i + 1) r1 (by omega) hc0 (by omega)
      refine ⟨r, Ev.step (fun k => laws_szCellS.l0.eq_2 _ _ _ _) ?_, ?_⟩
      · simp only [if_pos (show ((i : Int) < (l.length : Int)) by omega), if_pos (show 0 ≤ (i : Int) by omega), rdl_Cell l i (by omega), hr1, Option.bind_some, if_neg (show ¬ r1 < 0 by omega), wsucc i (by omega)]
        exact hr
      · rcases hq with hq | ⟨q0, q1, q2⟩
        · exact .inl hq
        · refine .inr ⟨q0, by omega, fun x hx => ?_⟩
          rcases (mem_drop_step (show i < l.length by omega)).1 hx with hx | hx
          · rw [hx]; exact hc2
          · exact q2 x hx

theorem szCellS_ev (l : List S117) (hl : l.length ≤ 9223372036854775807) (hg : ∀ x ∈ l, wideCell x) (a : Int) (h0 : 0 ≤ a) (h1 : a ≤ 1048576) :
    ∃ r, Ev (fun k => laws_szCellS.f k l a) r ∧ (r = -1 ∨ (0 ≤ r ∧ r ≤ a ∧ l.length ≤ 1048576 ∧ ∀ x ∈ l, smallCell x)) := by
  simp only [laws_szCellS.f, wrap_id (x := a - (l.length : Int)) (by omega) (by omega)]
  by_cases h2 : a - (l.length : Int) < 0
  · simp only [if_pos h2]; exact ⟨-1, Ev.now _, .inl rfl⟩
  · simp only [if_neg h2]
    obtain ⟨r, hr, hq⟩ := szCellS_l0 l (by omega) hg l.length 0 (a - (l.length : Int)) (by omega) (by omega) (by omega)
    refine ⟨r, hr, ?_⟩
    rcases hq with hq | ⟨q0, q1, q2⟩
    · exact .inl hq
    · exact .inr ⟨q0, by omega, by omega, q2⟩

theorem szDoc_ev (key : ByteArray) (l : List S117) (hk : key.size ≤ 9223372036854775807) (hl : l.length ≤ 9223372036854775807) (hg : ∀ x ∈ l, wideCell x) (a : Int) (h0 : 0 ≤ a) (h1 : a ≤ 1048576) :
    ∃ r, Ev (fun k => laws_szDoc.f k key l a) r ∧ (r = -1 ∨ (0 ≤ r ∧ r ≤ a ∧ key.size ≤ 1048576 ∧ l.length ≤ 1048576 ∧ ∀ x ∈ l, smallCell x)) := by
  simp only [laws_szDoc.f, wrap_id (x := a - (key.size : Int)) (by omega) (by omega)]
  by_cases h2 : a - (key.size : Int) < 0
  · simp only [if_pos h2]; exact ⟨-1, Ev.now _, .inl rfl⟩
  · simp only [if_neg h2]
    obtain ⟨r, hr, hq⟩ := szCellS_ev l hl hg (a - (key.size : Int)) (by omega) (by omega)
    rcases hq with hq | ⟨q0, q1, q2, q3⟩
    · refine ⟨-1, Ev.bind hr ?_, .inl rfl⟩
      simp only [hq, if_pos (show (-1 : Int) < 0 by omega)]; exact Ev.now _
    · refine ⟨r, Ev.bind hr ?_, .inr ⟨q0, by omega, by omega, q2, q3⟩⟩
      simp only [if_neg (show ¬ r < 0 by omega)]; exact Ev.now _

def cCell (x : S117) : S96 := ⟨x.f0, x.f1⟩

theorem take_set_succ {α : Type} (l m : List α) (i : Nat) (v : α) (hl : i < l.length) (hm : i < m.length) (hv : m[i] = v) (h : l.take i = m.take i) : (l.set i v).take (i + 1) = m.take (i + 1) := by
  rw [List.take_add_one, List.take_add_one, List.take_set_of_le (Nat.le_refl _), h]
  congr 1
  rw [List.getElem?_set_self hl, List.getElem?_eq_getElem hm, hv]

theorem toNat_cast (i : Nat) : ((i : Int)).toNat = i := by simp

theorem toCellS_l0 (l : List S117) (hn : l.length ≤ 1048576) : ∀ (d i : Nat) (acc : List S96), i + d = l.length → acc.length = l.length → acc.take i = (l.map cCell).take i →
    Ev (fun k => laws_toCellS.l0 k l acc (i : Int)) (l.map cCell) := by
  intro d
  induction d with
  | zero =>
    intro i acc hi hl ht
    refine Ev.step (fun k => laws_toCellS.l0.eq_2 _ _ _ _) ?_
    simp only [if_neg (show ¬ ((i : Int) < (l.length : Int)) by omega)]
    have : acc = l.map cCell := by rw [List.take_of_length_le (by omega), List.take_of_length_le (by rw [List.length_map]; omega)] at ht; exact ht
    rw [this]; exact Ev.now _
  | succ d ih =>
    intro i acc hi hl ht
    refine Ev.step (fun k => laws_toCellS.l0.eq_2 _ _ _ _) ?_
    simp only [if_pos (show ((i : Int) < (l.length : Int)) by omega), if_pos (show 0 ≤ (i : Int) by omega), laws_toCell.f, Option.bind_some, if_pos (show ((i : Int) < (acc.length : Int)) by omega), wsucc i (by omega), toNat_cast, rdl_Cell l i (by omega)]
    exact ih (i + 1) _ (by omega) (by simp [hl]) (take_set_succ _ _ _ _ (by omega) (by rw [List.length_map]; omega) (by rw [List.getElem_map]; rfl) ht)

theorem toCellS_ev (l : List S117) (hn : l.length ≤ 1048576) : Ev (fun k => laws_toCellS.f k l) (l.map cCell) := by
  simp only [laws_toCellS.f, if_pos (show 0 ≤ (l.length : Int) by omega), toNat_cast]
  refine Ev.congr (f := fun k => laws_toCellS.l0 k l (List.replicate l.length z96) 0) (fun k => if_pos (by omega)) ?_
  exact toCellS_l0 l hn l.length 0 _ (by omega) (by simp) rfl

theorem toDoc_ev (key : ByteArray) (l : List S117) (hn : l.length ≤ 1048576) : Ev (fun k => laws_toDoc.f k key l) (key, l.map cCell) := by
  simp only [laws_toDoc.f]
  exact Ev.bind (toCellS_ev l hn) (Ev.now _)

def cField (x : S72) : S79 := ⟨x.f0, x.f1, x.f2⟩

open Classical in
theorem eqField_eq (x y : S79) : laws_eqField.f x.f0 x.f1 x.f2 y.f0 y.f1 y.f2 = some (decide (x = y)) := by
  obtain ⟨a0, a1, a2⟩ := x
  obtain ⟨b0, b1, b2⟩ := y
  simp only [laws_eqField.f, toList_inj]
  by_cases h0 : a0 = b0
  case neg => simp [h0]
  by_cases h1 : a1 = b1
  case neg => simp [h0, h1]
  by_cases h2 : a2 = b2
  case neg => simp [h0, h1, h2]
  simp [h0, h1, h2]

theorem rdi_Field (l : List S79) (j : Nat) (h : j < l.length) : rd_T79 l (j : Int) = l[j] := by
  unfold rd_T79; simp [List.getD_eq_getElem?_getD, List.getElem?_eq_getElem h]

open Classical in
theorem eqFieldS_l0 (a b : List S79) (hn : a.length < 4611686018427387904) (hl : a.length = b.length) : ∀ (d i : Nat), i + d = a.length →
    Ev (fun k => laws_eqFieldS.l0 k a b (i : Int)) (decide (a.drop i = b.drop i)) := by
  intro d
  induction d with
  | zero =>
    intro i hi
    refine Ev.step (fun k => laws_eqFieldS.l0.eq_2 _ _ _ _) ?_
    simp only [if_neg (show ¬ ((i : Int) < (a.length : Int)) by omega)]
    rw [List.drop_of_length_le (by omega), List.drop_of_length_le (by omega)]
    exact ev_true rfl (Ev.now _)
  | succ d ih =>
    intro i hi
    refine Ev.step (fun k => laws_eqFieldS.l0.eq_2 _ _ _ _) ?_
    simp only [if_pos (show ((i : Int) < (a.length : Int)) by omega), if_pos (show 0 ≤ (i : Int) by omega), if_pos (show ((i : Int) < (b.length : Int)) by omega), wsucc i (by omega), rdi_Field a i (by omega), rdi_Field b i (by omega), eqField_eq, Option.bind_some, decide_eq_true_eq]
    have hs := drop_eq_step (a := a) (b := b) (show i < a.length by omega) (show i < b.length by omega)
    by_cases h : a[i] = b[i]
    · simp only [if_pos h]
      exact ev_prop (hs.trans ⟨fun h1 => h1.2, fun h1 => ⟨h, h1⟩⟩).symm (ih (i + 1) (by omega))
    · simp only [if_neg h]
      exact ev_false (fun h1 => h (hs.1 h1).1) (Ev.now _)

open Classical in
theorem eqFieldS_ev (a b : List S79) (hn : a.length < 4611686018427387904) : Ev (fun k => laws_eqFieldS.f k a b) (decide (a = b)) := by
  simp only [laws_eqFieldS.f]
  by_cases hl : a.length = b.length
  · simp only [if_pos (show (a.length : Int) = (b.length : Int) by omega)]
    exact eqFieldS_l0 a b hn hl a.length 0 (by omega)
  · simp only [if_neg (show ¬ (a.length : Int) = (b.length : Int) by omega)]
    exact ev_false (fun h => hl (by rw [h])) (Ev.now _)

open Classical in
theorem eqFieldS_refl (a : List S79) (hn : a.length < 4611686018427387904) : Ev (fun k => laws_eqFieldS.f k a a) true := by
  have := eqFieldS_ev a a hn
  rwa [decide_eq_true rfl] at this

def smallField (x : S72) : Prop := x.f0.size ≤ 1048576

theorem rdl_Field (l : List S72) (j : Nat) (h : j < l.length) : rd_T72 l (j : Int) = l[j] := by
  unfold rd_T72; simp [List.getD_eq_getElem?_getD, List.getElem?_eq_getElem h]

def wideField (x : S72) : Prop := x.f0.size ≤ 9223372036854775807

theorem szField_eq (x : S72) (a : Int) (hx : wideField x) (h0 : 0 ≤ a) (h1 : a ≤ 1048576) : ∃ r, laws_szField.f x.f0 x.f1 x.f2 a = some r ∧ (r = -1 ∨ (0 ≤ r ∧ r ≤ a ∧ smallField x)) := by
  unfold wideField at hx
  unfold smallField
  unfold laws_szField.f
  rw [wrap_id (x := a - (x.f0.size : Int)) (by omega) (by omega)]
  by_cases h20 : a - (x.f0.size : Int) < 0
  · rw [if_pos h20]; exact ⟨_, rfl, .inl rfl⟩
  rw [if_neg h20]
  exact ⟨_, rfl, .inr ⟨by omega, by omega, by omega⟩⟩

theorem szFieldS_l0 (l : List S72) (hl : l.length ≤ 1048576) (hg : ∀ x ∈ l, wideField x) : ∀ (d i : Nat) (a : Int), i + d = l.length → 0 ≤ a → a ≤ 1048576 →
    ∃ r, Ev (fun k => laws_szFieldS.l0 k l a (i : Int)) r ∧ (r = -1 ∨ (0 ≤ r ∧ r ≤ a ∧ ∀ x ∈ l.drop i, smallField x)) := by
  intro d
  induction d with
  | zero =>
    intro i a hi h0 h1
    refine ⟨a, Ev.step (fun k => laws_szFieldS.l0.eq_2 _ _ _ _) ?_, .inr ⟨h0, Int.le_refl _, fun x hx => ?_⟩⟩
    · simp only [if_neg (show ¬ ((i : Int) < (l.length : Int)) by omega)]; exact Ev.now _
    · rw [List.drop_of_length_le (by omega)] at hx; cases hx
  | succ d ih =>
    intro i a hi h0 h1
    obtain ⟨r1, hr1, hc⟩ := szField_eq l[i] a (hg _ (List.getElem_mem _)) h0 h1
    rcases hc with hc | ⟨hc0, hc1, hc2⟩
    · refine ⟨-1, Ev.step (fun k => laws_szFieldS.l0.eq_2 _ _ _ _) ?_, .inl rfl⟩
      simp only [if_pos (show ((i : Int) < (l.length : Int)) by omega), if_pos (show 0 ≤ (i : Int) by omega), rdl_Field l i (by omega), hr1, Option.bind_some, hc]
      exact Ev.now _
    · obtain ⟨r, hr, hq⟩ := ih (i + 1) r1 (by omega) hc0 (by omega)
      refine ⟨r, Ev.step (fun k => laws_szFieldS.l0.eq_2 _ _ _ _) ?_, ?_⟩
      · simp only [if_pos (show ((i : Int) < (l.length : Int)) by omega), if_pos (show 0 ≤ (i : Int) by omega), rdl_Field l i (by omega), hr1, Option.bind_some, if_neg (show ¬ r1 < 0 by omega), wsucc i (by omega)]
        exact hr
      · rcases hq with hq | ⟨q0, q1, q2⟩
        · exact .inl hq
        · refine .inr ⟨q0, by omega, fun x hx => ?_⟩
          rcases (mem_drop_step (show i < l.length by omega)).1 hx with hx | hx
          · rw [hx]; exact hc2
          · exact q2 x hx

theorem szFieldS_ev (l : List S72) (hl : l.length ≤ 9223372036854775807) (hg : ∀ x ∈ l, wideField x) (a : Int) (h0 : 0 ≤ a) (h1 : a ≤ 1048576) :
    ∃ r, Ev (fun k => laws_szFieldS.f k l a) r ∧ (r = -1 ∨ (0 ≤ r ∧ r ≤ a ∧ l.length ≤ 1048576 ∧ ∀ x ∈ l, smallField x)) := by
  simp only [laws_szFieldS.f, wrap_id (x := a - (l.length : Int)) (by omega) (by omega)]
  by_cases h2 : a - (l.length : Int) < 0
  · simp only [if_pos h2]; exact ⟨-1, Ev.now _, .inl rfl⟩
  · simp only [if_neg h2]
    obtain ⟨r, hr, hq⟩ := szFieldS_l0 l (by omega) hg l.length 0 (a - (l.length : Int)) (by omega) (by omega) (by omega)
    refine ⟨r, hr, ?_⟩
    rcases hq with hq | ⟨q0, q1, q2⟩
    · exact .inl hq
    · exact .inr ⟨q0, by omega, by omega, q2⟩

theorem toFieldS_l0 (l : List S72) (hn : l.length ≤ 1048576) : ∀ (d i : Nat) (acc : List S79), i + d = l.length → acc.length = l.length → acc.take i = (l.map cField).take i →
    Ev (fun k => laws_toFieldS.l0 k l acc (i : Int)) (l.map cField) := by
  intro d
  induction d with
  | zero =>
    intro i acc hi hl ht
    refine Ev.step (fun k => laws_toFieldS.l0.eq_2 _ _ _ _) ?_
    simp only [if_neg (show ¬ ((i : Int) < (l.length : Int)) by omega)]
    have : acc = l.map cField := by rw [List.take_of_length_le (by omega), List.take_of_length_le (by rw [List.length_map]; omega)] at ht; exact ht
    rw [this]; exact Ev.now _
  | succ d ih =>
    intro i acc hi hl ht
    refine Ev.step (fun k => laws_toFieldS.l0.eq_2 _ _ _ _) ?_
    simp only [if_pos (show ((i : Int) < (l.length : Int)) by omega), if_pos (show 0 ≤ (i : Int) by omega), laws_toField.f, Option.bind_some, if_pos (show ((i : Int) < (acc.length : Int)) by omega), wsucc i (by omega), toNat_cast, rdl_Field l i (by omega)]
    exact ih (i + 1) _ (by omega) (by simp [hl]) (take_set_succ _ _ _ _ (by omega) (by rw [List.length_map]; omega) (by rw [List.getElem_map]; rfl) ht)

theorem toFieldS_ev (l : List S72) (hn : l.length ≤ 1048576) : Ev (fun k => laws_toFieldS.f k l) (l.map cField) := by
  simp only [laws_toFieldS.f, if_pos (show 0 ≤ (l.length : Int) by omega), toNat_cast]
  refine Ev.congr (f := fun k => laws_toFieldS.l0 k l (List.replicate l.length z79) 0) (fun k => if_pos (by omega)) ?_
  exact toFieldS_l0 l hn l.length 0 _ (by omega) (by simp) rfl

theorem small_map_CellT {l : List S117} (h : ∀ x ∈ l, smallCell x) : ∀ x ∈ l.map cCell, x.f0.size ≤ 1048576 ∧ x.f1.size ≤ 1048576 := by
  intro x hx
  obtain ⟨y, hy, rfl⟩ := List.mem_map.1 hx
  exact h y hy

theorem small_map_FieldT {l : List S72} (h : ∀ x ∈ l, smallField x) : ∀ x ∈ l.map cField, x.f0.size ≤ 1048576 := by
  intro x hx
  obtain ⟨y, hy, rfl⟩ := List.mem_map.1 hx
  exact h y hy

def fieldP (f : S79) : Prop := (f.f1 = 1 ∧ 1 ≤ f.f2 ∧ f.f2 ≤ 9) ∨ (2 ≤ f.f1 ∧ f.f1 ≤ 3 ∧ f.f2 = 0)

def digP (c : Int) : Prop := 48 ≤ c ∧ c ≤ 57
instance (c : Int) : Decidable (digP c) := by unfold digP; infer_instance

def lowP (c : Int) : Prop := 97 ≤ c ∧ c ≤ 122
instance (c : Int) : Decidable (lowP c) := by unfold lowP; infer_instance

def nameFrom (l : List Int) (j : Nat) : Prop := (∀ (i : Nat) (h : i < l.length), j ≤ i → lowP l[i] ∨ (0 < i ∧ digP l[i])) ∧ 1 ≤ l.length ∧ l.length ≤ 8

def fieldsFrom (l : List S79) (j : Nat) : Prop := (∀ (i : Nat) (h : i < l.length), j ≤ i → nameFrom (bytesOf l[i].f0) 0 ∧ fieldP l[i] ∧ ∀ m (hm : m < i), l[m].f0 ≠ l[i].f0) ∧ 1 ≤ l.length ∧ l.length ≤ 4

open Classical in
noncomputable def fieldsB (l : List S79) : Bool := decide (fieldsFrom l 0)

open Classical in
noncomputable def nameB (l : List Int) : Bool := decide (nameFrom l 0)

def lessT (a b : ByteArray) : Prop := Op.bytesLess a.toList b.toList = true

def seenP (c : Int) : Prop := 32 ≤ c ∧ c ≤ 126

open Classical in
noncomputable def plainB (s : ByteArray) (m : Int) : Bool := decide ((∀ c ∈ bytesOf s, seenP c) ∧ (s.size : Int) ≤ m)

/-- From place j on each cell has a name and a text, and the names rise; the key is a name; there are at most four cells. -/
def formFrom (key : ByteArray) (l : List S96) (j : Nat) : Prop := (∀ (i : Nat) (h : i < l.length), j ≤ i → nameB (bytesOf l[i].f0) = true ∧ plainB l[i].f1 60 = true ∧ ∀ h0 : 0 < i, lessT (l[i - 1]'(by omega)).f0 l[i].f0) ∧ nameB (bytesOf key) = true ∧ l.length ≤ 4

open Classical in
noncomputable def formB (key : ByteArray) (l : List S96) : Bool := decide (formFrom key l 0)

/-- The tags of a text are names. -/
def namesP (l : List ByteArray) : Prop := ∀ x ∈ l, nameB (bytesOf x) = true

/-- A text cut at a byte, so many times at most; acc: what stands of the first piece. -/
def cutW (c : UInt8) : Nat → List UInt8 → List UInt8 → List (List UInt8)
  | _, acc, [] => [acc]
  | 0, acc, x :: xs => [acc ++ x :: xs]
  | n + 1, acc, x :: xs => if x = c then acc :: cutW c n [] xs else cutW c (n + 1) (acc ++ [x]) xs

def mkT (l : List UInt8) : ByteArray := ⟨l.toArray⟩

/-- The pieces of a text between the bytes c. -/
def splitT (c : UInt8) (s : ByteArray) : List ByteArray := (cutW c (s.data.toList.count c) [] s.data.toList).map mkT

def tagsP (s : ByteArray) : Prop := namesP (splitT 44 s) ∧ (splitT 44 s).length ≤ 4

/-- The number that a text is: it is written just so, and lies between the bounds. -/
def numB (s : ByteArray) : Int × Bool := match Lib.atoiAll s.data.toList with
  | .ok n => if -999999999 ≤ n ∧ n ≤ 999999999 ∧ Lib.itoa n = s.data.toList then (n, true) else (0, false)
  | _ => (0, false)

/-- What a cell's text must be, by its field's kind. -/
def cellK (kind : Int) (s : ByteArray) : Prop := kind = 1 ∨ (kind = 2 ∧ (numB s).2 = true) ∨ (kind = 3 ∧ tagsP s)

/-- The field of a name: the first; without one, of kind nought. -/
def fieldAt (n : ByteArray) : List S79 → ByteArray × Int × Int
  | [] => (⟨#[]⟩, 0, 0)
  | f :: F => if f.f0 = n then (f.f0, f.f1, f.f2) else fieldAt n F

def kindOf (F : List S79) (n : ByteArray) : Int := (fieldAt n F).2.1

def docOkP (F : List S79) (key : ByteArray) (l : List S96) : Prop := fieldsB F = true ∧ formB key l = true ∧ ∀ c ∈ l, cellK (kindOf F c.f0) c.f1

open Classical in
noncomputable def docOkB (F : List S79) (key : ByteArray) (l : List S96) : Bool := decide (docOkP F key l)

/-- The text of the first cell of a name. -/
def docText (name : ByteArray) : List S96 → ByteArray × Bool
  | [] => ((⟨#[]⟩ : ByteArray), false)
  | c :: cs => if c.f0 = name then (c.f1, true) else docText name cs

def insB (s : ByteArray) : List ByteArray → List ByteArray
  | [] => [s]
  | x :: xs => if Op.bytesLess x.toList s.toList = true then x :: insB s xs else if x = s then x :: xs else s :: x :: xs

def insAllB (acc : List ByteArray) (l : List ByteArray) : List ByteArray := l.foldl (fun a s => insB s a) acc

/-- The tags of a document's cell, where its field is one of tags. -/
def docTagsI (F : List S79) (n : ByteArray) (l : List S96) : List ByteArray := if kindOf F n = 3 then (if (docText n l).2 = true then insAllB [] (splitT 44 (docText n l).1) else []) else []

open Classical in
noncomputable def docTagsB (F : List S79) (key n : ByteArray) (l : List S96) : List ByteArray := if docOkB F key l = true then docTagsI F n l else []

theorem docText_mem {n : ByteArray} : ∀ {l : List S96}, (docText n l).2 = true → ∃ c ∈ l, c.f0 = n ∧ c.f1 = (docText n l).1
  | [], h => by cases h
  | c :: l, h => by
    unfold docText at h ⊢
    by_cases e : c.f0 = n
    · rw [if_pos e]; exact ⟨c, by simp, e, rfl⟩
    · rw [if_neg e] at h ⊢
      obtain ⟨x, hx, h1, h2⟩ := docText_mem h
      exact ⟨x, List.mem_cons_of_mem _ hx, h1, h2⟩

theorem docText_size {n : ByteArray} {l : List S96} (hs : ∀ x ∈ l, x.f0.size ≤ 1048576 ∧ x.f1.size ≤ 1048576) : (docText n l).1.size ≤ 1048576 := by
  by_cases h : (docText n l).2 = true
  · obtain ⟨c, hc, _, h2⟩ := docText_mem h
    rw [← h2]; exact (hs c hc).2
  · have : ∀ l : List S96, ¬ (docText n l).2 = true → (docText n l).1.size ≤ 1048576 := by
      intro l
      induction l with
      | nil => intro _; exact Nat.zero_le _
      | cons c l ih =>
        intro h
        unfold docText at h ⊢
        by_cases e : c.f0 = n
        · rw [if_pos e] at h; exact absurd rfl h
        · rw [if_neg e] at h ⊢; exact ih h
    exact this l h

theorem insAllB_cons (acc : List ByteArray) (s : ByteArray) (l : List ByteArray) : insAllB acc (s :: l) = insAllB (insB s acc) l := rfl

theorem insB_length (s : ByteArray) : ∀ l : List ByteArray, (insB s l).length ≤ l.length + 1
  | [] => by simp [insB]
  | x :: xs => by
    have := insB_length s xs
    unfold insB
    split
    · simp only [List.length_cons]; omega
    · split <;> simp

theorem insAllB_length : ∀ (l acc : List ByteArray), (insAllB acc l).length ≤ acc.length + l.length
  | [], acc => by simp [insAllB]
  | s :: l, acc => by
    have h1 := insAllB_length l (insB s acc)
    have h2 := insB_length s acc
    rw [insAllB_cons, List.length_cons]; omega

theorem cutW_length (c : UInt8) : ∀ (l : List UInt8) (n : Nat) (acc : List UInt8), (cutW c n acc l).length ≤ l.length + 1 ∧ (cutW c n acc l).length ≤ n + 1 ∧ 1 ≤ (cutW c n acc l).length
  | [], n, acc => by simp [cutW]
  | x :: xs, 0, acc => by simp [cutW]
  | x :: xs, n + 1, acc => by
    have h1 := cutW_length c xs n []
    have h2 := cutW_length c xs (n + 1) (acc ++ [x])
    unfold cutW
    split
    · simp only [List.length_cons]; omega
    · simp only [List.length_cons]; omega

theorem data_size (s : ByteArray) : s.data.toList.length = s.size := rfl

theorem splitT_length (c : UInt8) (s : ByteArray) : (splitT c s).length ≤ s.size + 1 ∧ 1 ≤ (splitT c s).length := by
  unfold splitT
  have := cutW_length c s.data.toList (s.data.toList.count c) []
  rw [List.length_map]; rw [data_size] at this; omega

theorem docTagsB_length (F : List S79) (key n : ByteArray) (l : List S96) (hs : ∀ x ∈ l, x.f0.size ≤ 1048576 ∧ x.f1.size ≤ 1048576) : (docTagsB F key n l).length ≤ 1048577 := by
  unfold docTagsB docTagsI
  have hz := docText_size (n := n) hs
  have hl := splitT_length 44 (docText n l).1
  have hi := insAllB_length (splitT 44 (docText n l).1) []
  rw [List.length_nil] at hi
  split
  · split
    · split
      · omega
      · simp
    · simp
  · simp

theorem formFrom_end {key : ByteArray} {l : List S96} {j : Nat} (hj : l.length ≤ j) : formFrom key l j ↔ nameB (bytesOf key) = true ∧ l.length ≤ 4 := ⟨fun h => h.2, fun h => ⟨fun i hi hji => by omega, h⟩⟩

theorem formFrom_step {key : ByteArray} {l : List S96} {j : Nat} (hj : j < l.length) : formFrom key l j ↔ (nameB (bytesOf l[j].f0) = true ∧ plainB l[j].f1 60 = true ∧ ∀ h0 : 0 < j, lessT (l[j - 1]'(by omega)).f0 l[j].f0) ∧ formFrom key l (j + 1) := by
  constructor
  · rintro ⟨h, h2⟩
    exact ⟨h j hj (Nat.le_refl _), fun i hi hji => h i hi (by omega), h2⟩
  · rintro ⟨h, h1, h2⟩
    refine ⟨fun i hi hji => ?_, h2⟩
    rcases Nat.lt_or_ge j i with hlt | hge
    · exact h1 i hi hlt
    · obtain rfl : i = j := by omega
      exact h

theorem nameFrom_end {l : List Int} {j : Nat} (hj : l.length ≤ j) : nameFrom l j ↔ 1 ≤ l.length ∧ l.length ≤ 8 := ⟨fun h => h.2, fun h => ⟨fun i hi hji => by omega, h⟩⟩

theorem nameFrom_step {l : List Int} {j : Nat} (hj : j < l.length) : nameFrom l j ↔ (lowP l[j] ∨ (0 < j ∧ digP l[j])) ∧ nameFrom l (j + 1) := by
  constructor
  · rintro ⟨h, h2⟩
    exact ⟨h j hj (Nat.le_refl _), fun i hi hji => h i hi (by omega), h2⟩
  · rintro ⟨h, h1, h2⟩
    refine ⟨fun i hi hji => ?_, h2⟩
    rcases Nat.lt_or_ge j i with hlt | hge
    · exact h1 i hi hlt
    · obtain rfl : i = j := by omega
      exact h

theorem rd_get (l : List Int) (j : Nat) (h : j < l.length) : rd l (j : Int) = l[j] := by
  unfold rd; simp [List.getD_eq_getElem?_getD, List.getElem?_eq_getElem h]

theorem bt_get (s : ByteArray) (j : Nat) (h : j < (bytesOf s).length) : bt s (j : Int) = (bytesOf s)[j] := by
  rw [← rd_bytesOf, rd_get _ _ h]

theorem ev_eq {α : Type} {g : Nat → Option α} {r : α} (h : ∀ k, g k = some r) : Ev g r := ⟨0, fun k _ => h k⟩

theorem impl_digit_eq (a : Int) : impl_digit.f a = some (decide (digP a)) := by
  unfold impl_digit.f digP
  by_cases h : a ≥ 48
  · rw [if_pos h]; congr 1; exact decide_eq_decide.2 (by omega)
  · rw [if_neg h]; congr 1; symm; exact decide_eq_false (by omega)

theorem impl_lower_eq (a : Int) : impl_lower.f a = some (decide (lowP a)) := by
  unfold impl_lower.f lowP
  by_cases h : a ≥ 97
  · rw [if_pos h]; congr 1; exact decide_eq_decide.2 (by omega)
  · rw [if_neg h]; congr 1; symm; exact decide_eq_false (by omega)

theorem impl_within_eq (a b c : Int) : impl_within.f a b c = some (decide (b ≤ a ∧ a ≤ c)) := by
  unfold impl_within.f
  by_cases h : a ≥ b
  · rw [if_pos h]; congr 1; exact decide_eq_decide.2 ⟨fun h2 => ⟨h, h2⟩, fun h2 => h2.2⟩
  · rw [if_neg h]; congr 1; symm; exact decide_eq_false (fun h2 => h h2.1)

open Classical in
theorem impl_NameOk_l0 (s : ByteArray) (hn : s.size < 4611686018427387904) : ∀ (d i : Nat), i + d = s.size → Ev (fun k => impl_NameOk.l0 k s (s.size : Int) (i : Int)) (decide (nameFrom (bytesOf s) i)) := by
  have hb := bytesOf_length s
  intro d
  induction d with
  | zero =>
    intro i hi
    refine Ev.step (fun k => impl_NameOk.l0.eq_2 _ _ _ _) ?_
    simp only [if_neg (show ¬ ((i : Int) < (s.size : Int)) by omega), impl_within_eq, Option.bind_some]
    refine ev_prop (nameFrom_end (by omega)).symm ?_
    refine ev_eq fun _ => ?_
    congr 1; exact decide_eq_decide.2 (by omega)
  | succ d ih =>
    intro i hi
    have hs := nameFrom_step (l := bytesOf s) (j := i) (by omega)
    refine Ev.step (fun k => impl_NameOk.l0.eq_2 _ _ _ _) ?_
    simp only [if_pos (show ((i : Int) < (s.size : Int)) by omega), if_pos (show 0 ≤ (i : Int) by omega), wsucc i (by omega), bt_get s i (by omega), impl_lower_eq, impl_digit_eq, Option.bind_some, decide_eq_true_eq]
    by_cases h1 : lowP (bytesOf s)[i]
    · simp only [if_pos h1]
      exact ev_prop (hs.trans ⟨fun h => h.2, fun h => ⟨.inl h1, h⟩⟩).symm (ih (i + 1) (by omega))
    · simp only [if_neg h1]
      by_cases h0 : (i : Int) = 0
      · simp only [if_pos h0]
        have : decide (nameFrom (bytesOf s) i) = false := decide_eq_false (fun h => by rcases (hs.1 h).1 with h2 | h2; exact h1 h2; omega)
        rw [this]; exact Ev.now _
      · simp only [if_neg h0]
        by_cases h2 : digP (bytesOf s)[i]
        · simp only [if_pos h2]
          exact ev_prop (hs.trans ⟨fun h => h.2, fun h => ⟨.inr ⟨by omega, h2⟩, h⟩⟩).symm (ih (i + 1) (by omega))
        · simp only [if_neg h2]
          have : decide (nameFrom (bytesOf s) i) = false := decide_eq_false (fun h => by rcases (hs.1 h).1 with h3 | h3; exact h1 h3; exact h2 h3.2)
          rw [this]; exact Ev.now _

theorem impl_NameOk_ev (s : ByteArray) (hn : s.size < 4611686018427387904) : Ev (fun k => impl_NameOk.f k s) (nameB (bytesOf s)) := impl_NameOk_l0 s hn s.size 0 (by omega)

theorem bytesOf_range (s : ByteArray) : ∀ c ∈ bytesOf s, 0 ≤ c ∧ c ≤ 255 := by
  intro c hc
  obtain ⟨b, _, rfl⟩ := List.mem_map.1 hc
  have := b.toNat_lt
  omega

theorem bt_wrap (s : ByteArray) (j : Nat) (h : j < (bytesOf s).length) : wrap64 (bt s (j : Int)) = (bytesOf s)[j] := by
  rw [bt_get s j h]
  have := bytesOf_range s _ (List.getElem_mem h)
  exact wrap_id (by omega) (by omega)

open Classical in
theorem impl_plain_l0 (s : ByteArray) (m : Int) (hs : s.size < 4611686018427387904) : ∀ (d i : Nat), i + d = s.size → Ev (fun k => impl_plain.l0 k s m (s.size : Int) (i : Int)) (decide ((∀ c ∈ (bytesOf s).drop i, seenP c) ∧ (s.size : Int) ≤ m)) := by
  have hlen := bytesOf_length s
  intro d
  induction d with
  | zero =>
    intro i hi
    refine Ev.step (fun k => impl_plain.l0.eq_2 _ _ _ _ _) ?_
    simp only [if_neg (show ¬ ((i : Int) < (s.size : Int)) by omega)]
    refine ev_prop ?_ (Ev.now _)
    rw [List.drop_eq_nil_of_le (by omega)]
    exact ⟨fun h => ⟨fun c hc => by simp at hc, h⟩, fun h => h.2⟩
  | succ d ih =>
    intro i hi
    refine Ev.step (fun k => impl_plain.l0.eq_2 _ _ _ _ _) ?_
    simp only [if_pos (show ((i : Int) < (s.size : Int)) by omega), if_pos (show 0 ≤ (i : Int) by omega), bt_wrap s i (by omega), impl_within_eq, Option.bind_some, decide_eq_true_eq, wsucc i (by omega)]
    have e := List.drop_eq_getElem_cons (l := bytesOf s) (i := i) (by omega)
    by_cases hw : 32 ≤ (bytesOf s)[i] ∧ (bytesOf s)[i] ≤ 126
    · simp only [if_pos hw]
      refine ev_prop ?_ (ih (i + 1) (by omega))
      rw [e]
      constructor
      · rintro ⟨h1, h2⟩
        exact ⟨fun c hc => by rcases List.mem_cons.1 hc with h | h; exact h ▸ hw; exact h1 c h, h2⟩
      · rintro ⟨h1, h2⟩
        exact ⟨fun c hc => h1 c (List.mem_cons_of_mem _ hc), h2⟩
    · simp only [if_neg hw]
      refine ev_false (fun h => hw (h.1 _ ?_)) (Ev.now _)
      rw [e]; exact List.mem_cons_self ..

theorem impl_plain_ev (s : ByteArray) (m : Int) (hs : s.size < 4611686018427387904) : Ev (fun k => impl_plain.f k s m) (plainB s m) := by
  simp only [impl_plain.f, plainB]
  exact impl_plain_l0 s m hs s.size 0 (by omega)

theorem impl_textOk_ev (s : ByteArray) (hs : s.size < 4611686018427387904) : Ev (fun k => impl_textOk.f k s) (plainB s 60) := by
  simp only [impl_textOk.f]
  exact Ev.bind (impl_plain_ev s 60 hs) (Ev.now _)

open Classical in
theorem impl_wellFormed_l0 (key : ByteArray) (l : List S96) (hk : key.size ≤ 1048576) (hn : l.length ≤ 1048576) (hs : ∀ x ∈ l, x.f0.size ≤ 1048576 ∧ x.f1.size ≤ 1048576) : ∀ (d i : Nat), i + d = l.length →
    Ev (fun k => impl_wellFormed.l0 k l (l.length : Int) (i : Int) key l) (decide (formFrom key l i)) := by
  intro d
  induction d with
  | zero =>
    intro i hi
    refine Ev.step (fun k => impl_wellFormed.l0.eq_2 _ _ _ _ _ _) ?_
    simp only [if_neg (show ¬ ((i : Int) < (l.length : Int)) by omega)]
    refine ev_prop (formFrom_end (by omega)).symm ?_
    refine Ev.bind (impl_NameOk_ev key (by omega)) ?_
    cases hnm : nameB (bytesOf key) with
    | false => simp only [if_neg (show ¬ (false = true) by decide)]; exact ev_false (fun h => by cases h.1) (Ev.now _)
    | true =>
      simp only [if_true]
      exact ev_prop ⟨fun h => ⟨(by first | trivial | rfl), by omega⟩, fun h => by have := h.2; omega⟩ (Ev.now _)
  | succ d ih =>
    intro i hi
    have hst := formFrom_step (key := key) (l := l) (j := i) (by omega)
    have hsz := hs l[i] (List.getElem_mem _)
    have hnext := ih (i + 1) (by omega)
    refine Ev.step (fun k => impl_wellFormed.l0.eq_2 _ _ _ _ _ _) ?_
    simp only [if_pos (show ((i : Int) < (l.length : Int)) by omega), if_pos (show 0 ≤ (i : Int) by omega), rdi_Cell l i (by omega), wsucc i (by omega)]
    refine Ev.bind (impl_NameOk_ev l[i].f0 (by omega)) ?_
    cases hnm : nameB (bytesOf l[i].f0) with
    | false => simp only [if_neg (show ¬ (false = true) by decide)]; exact ev_false (fun h => by have := (hst.1 h).1.1; rw [hnm] at this; cases this) (Ev.now _)
    | true =>
      simp only [if_true]
      refine Ev.bind (impl_textOk_ev l[i].f1 (by omega)) ?_
      cases htx : plainB l[i].f1 60 with
      | false => simp only [if_neg (show ¬ (false = true) by decide)]; exact ev_false (fun h => by have := (hst.1 h).1.2.1; rw [htx] at this; cases this) (Ev.now _)
      | true =>
        simp only [if_true]
        by_cases h0 : (i : Int) > 0
        · have he : wrap64 ((i : Int) - 1) = ((i - 1 : Nat) : Int) := by rw [wrap_id (by omega) (by omega)]; omega
          simp only [if_pos h0, he, if_pos (show 0 ≤ ((i - 1 : Nat) : Int) by omega), if_pos (show ((i - 1 : Nat) : Int) < (l.length : Int) by omega), rdi_Cell l (i - 1) (by omega)]
          by_cases hl : lessT (l[i - 1]'(by omega)).f0 l[i].f0
          · have hl2 : Op.bytesLess (l[i - 1]'(by omega)).f0.toList l[i].f0.toList = true := hl
            simp only [hl2, if_true]
            exact ev_prop (hst.trans ⟨fun h => h.2, fun h => ⟨⟨hnm, htx, fun _ => hl⟩, h⟩⟩).symm hnext
          · have hl2 : Op.bytesLess (l[i - 1]'(by omega)).f0.toList l[i].f0.toList = false := Bool.eq_false_iff.2 hl
            simp only [hl2, if_neg (show ¬ (false = true) by decide)]
            exact ev_false (fun h => hl ((hst.1 h).1.2.2 (by omega))) (Ev.now _)
        · simp only [if_neg h0]
          exact ev_prop (hst.trans ⟨fun h => h.2, fun h => ⟨⟨hnm, htx, fun h1 => by omega⟩, h⟩⟩).symm hnext

theorem impl_wellFormed_ev (key : ByteArray) (l : List S96) (hk : key.size ≤ 1048576) (hn : l.length ≤ 1048576) (hs : ∀ x ∈ l, x.f0.size ≤ 1048576 ∧ x.f1.size ≤ 1048576) : Ev (fun k => impl_wellFormed.f k key l) (formB key l) := impl_wellFormed_l0 key l hk hn hs l.length 0 (by omega)

theorem ev_falseI {g : Nat → Option Bool} {p : Prop} {ip : Decidable p} (h : ¬ p) (k : Ev g false) : Ev g (@decide p ip) := by
  rw [decide_eq_false h]; exact k

theorem ev_propI {g : Nat → Option Bool} {p q : Prop} {ip : Decidable p} {iq : Decidable q} (h : p ↔ q) (k : Ev g (@decide p ip)) : Ev g (@decide q iq) := by
  have e : @decide p ip = @decide q iq := decide_eq_decide.2 h
  rw [← e]; exact k

theorem drop_get {α : Type} (l : List α) (j : Nat) (h : j < l.length) : l.drop j = l[j] :: l.drop (j + 1) := List.drop_eq_getElem_cons h

def cellsP (F : List S79) (l : List S96) : Prop := ∀ c ∈ l, cellK (kindOf F c.f0) c.f1

theorem ev_trueI {g : Nat → Option Bool} {p : Prop} {ip : Decidable p} (h : p) (k : Ev g true) : Ev g (@decide p ip) := by
  rw [decide_eq_true h]; exact k

theorem impl_fieldOf_l0 (n : ByteArray) (F : List S79) (hn : F.length < 4611686018427387904) : ∀ (d i : Nat), i + d = F.length → Ev (fun k => impl_fieldOf.l0 k n F (F.length : Int) (i : Int)) (fieldAt n (F.drop i)) := by
  intro d
  induction d with
  | zero =>
    intro i hi
    refine Ev.step (fun k => impl_fieldOf.l0.eq_2 _ _ _ _ _) ?_
    simp only [if_neg (show ¬ ((i : Int) < (F.length : Int)) by omega)]
    rw [List.drop_eq_nil_of_le (by omega)]
    exact Ev.now _
  | succ d ih =>
    intro i hi
    have hil : i < F.length := by omega
    refine Ev.step (fun k => impl_fieldOf.l0.eq_2 _ _ _ _ _) ?_
    rw [drop_get F i hil]
    simp only [if_pos (show ((i : Int) < (F.length : Int)) by omega), if_pos (show 0 ≤ (i : Int) by omega), rdi_Field F i hil, toList_inj, wsucc i (by omega), fieldAt]
    by_cases h : F[i].f0 = n
    · simp only [if_pos h]; exact Ev.now _
    · simp only [if_neg h]; exact ih (i + 1) (by omega)

theorem impl_fieldOf_ev (n : ByteArray) (F : List S79) (hn : F.length < 4611686018427387904) : Ev (fun k => impl_fieldOf.f k F n) (fieldAt n F) := by
  have := impl_fieldOf_l0 n F hn F.length 0 (by omega)
  simpa [impl_fieldOf.f] using this

theorem rdOf_get {α : Type} (d : α) (l : List α) (j : Nat) (h : j < l.length) : rdOf d l (j : Int) = l[j] := by
  unfold rdOf; simp [List.getD_eq_getElem?_getD, List.getElem?_eq_getElem h]

theorem namesP_cons {x : ByteArray} {l : List ByteArray} : namesP (x :: l) ↔ nameB (bytesOf x) = true ∧ namesP l := by
  unfold namesP
  constructor
  · intro h; exact ⟨h x (by simp), fun y hy => h y (List.mem_cons_of_mem _ hy)⟩
  · rintro ⟨h1, h2⟩ y hy
    rcases List.mem_cons.1 hy with rfl | hy
    · exact h1
    · exact h2 y hy

open Classical in
theorem impl_tagsOk_l0 (L : List ByteArray) (hL : L.length ≤ 1048577) (hx : ∀ x ∈ L, x.size ≤ 1048576) : ∀ (d i : Nat), i + d = L.length → Ev (fun k => impl_tagsOk.l0 k L L (L.length : Int) (i : Int)) (decide (namesP (L.drop i) ∧ L.length ≤ 4)) := by
  intro d
  induction d with
  | zero =>
    intro i hi
    refine Ev.step (fun k => impl_tagsOk.l0.eq_2 _ _ _ _ _) ?_
    simp only [if_neg (show ¬ ((i : Int) < (L.length : Int)) by omega)]
    rw [List.drop_eq_nil_of_le (by omega)]
    refine ev_propI ?_ (Ev.now _)
    exact ⟨fun h => ⟨fun x hx => by simp at hx, by omega⟩, fun h => by have := h.2; omega⟩
  | succ d ih =>
    intro i hi
    have hil : i < L.length := by omega
    have hxi := hx L[i] (List.getElem_mem _)
    refine Ev.step (fun k => impl_tagsOk.l0.eq_2 _ _ _ _ _) ?_
    simp only [if_pos (show ((i : Int) < (L.length : Int)) by omega), if_pos (show 0 ≤ (i : Int) by omega), rdOf_get _ L i hil, wsucc i (by omega)]
    refine Ev.bind (impl_NameOk_ev L[i] (by omega)) ?_
    rw [drop_get L i hil]
    cases hnm : nameB (bytesOf L[i]) with
    | false => simp only [if_neg (show ¬ (false = true) by decide)]; exact ev_falseI (fun h => by have := (namesP_cons.1 h.1).1; rw [hnm] at this; cases this) (Ev.now _)
    | true =>
      simp only [if_true]
      exact ev_propI ⟨fun h => ⟨namesP_cons.2 ⟨hnm, h.1⟩, h.2⟩, fun h => ⟨(namesP_cons.1 h.1).2, h.2⟩⟩ (ih (i + 1) (by omega))

theorem mkT_data (s : ByteArray) : mkT s.data.toList = s := by cases s; rfl

theorem cutW_zero (c : UInt8) (acc l : List UInt8) : cutW c 0 acc l = [acc ++ l] := by cases l <;> simp [cutW]

theorem cutW_run (c : UInt8) : ∀ (x : List UInt8) (n : Nat) (acc r : List UInt8), c ∉ x → cutW c n acc (x ++ r) = cutW c n (acc ++ x) r
  | [], n, acc, r, _ => by simp
  | a :: x, 0, acc, r, _ => by rw [cutW_zero, cutW_zero]; simp
  | a :: x, n + 1, acc, r, h => by
    have h1 : a ≠ c := fun e => h (by simp [e])
    rw [List.cons_append, cutW, if_neg h1, cutW_run c x (n + 1) _ r (fun e => h (List.mem_cons_of_mem _ e))]
    simp

theorem indexByte_at (c : UInt8) (r : List UInt8) : ∀ (x : List UInt8), c ∉ x → Lib.indexByte (x ++ c :: r) c = (x.length : Int)
  | [], _ => by simp [Lib.indexByte]
  | a :: x, h => by
    have ha : a ≠ c := fun e => h (by simp [e])
    have := indexByte_at c r x (fun e => h (List.mem_cons_of_mem _ e))
    simp [Lib.indexByte, this, ha]

theorem indexByte_out (c : UInt8) : ∀ (l : List UInt8), c ∉ l → Lib.indexByte l c = -1
  | [], _ => rfl
  | x :: l, h => by
    have hx : x ≠ c := fun e => h (by simp [e])
    have := indexByte_out c l (fun e => h (List.mem_cons_of_mem _ e))
    simp [Lib.indexByte, this, hx]

theorem splitK_eq (c : UInt8) : ∀ (k : Nat) (l : List UInt8), Lib.splitK [c] 0 k l = cutW c k [] l
  | 0, l => by rw [cutW_zero]; rfl
  | k + 1, l => by
    unfold Lib.splitK
    rw [Lib.index_one]
    by_cases h : c ∈ l
    · obtain ⟨x, r, rfl, hx⟩ := List.eq_append_cons_of_mem h
      rw [indexByte_at c r x hx, if_neg (by simp), splitK_eq c k, cutW_run c x (k + 1) [] _ hx, cutW, if_pos rfl]
      simp
    · rw [indexByte_out c l h, if_pos (by decide)]
      have := cutW_run c l (k + 1) [] [] h
      rw [List.append_nil, List.nil_append] at this
      rw [this]; simp [cutW]

theorem Split_eq (c : UInt8) (s : ByteArray) (hs : s.size < 4294967281) : strings_Split.f s ⟨#[c]⟩ = some (splitT c s) := by
  unfold strings_Split.f
  rw [if_pos ⟨hs, Nat.le_refl _⟩]
  have e : (⟨#[c]⟩ : ByteArray).data.toList = [c] := rfl
  have h1 := Lib.splitB_data ⟨#[c]⟩ 0 (Lib.countB s ⟨#[c]⟩) s
  rw [e, splitK_eq] at h1
  have h2 : Lib.countB s ⟨#[c]⟩ = s.data.toList.count c := by
    show Lib.count s.data.toList [c] = _
    exact Lib.count_one c _
  rw [h2] at h1 ⊢
  unfold splitT
  rw [← h1, List.map_map]
  congr 1
  conv => lhs; rw [← List.map_id (Lib.splitB _ _ _ _)]
  exact List.map_congr_left (fun x _ => (mkT_data x).symm)

theorem cutW_size (c : UInt8) : ∀ (l : List UInt8) (n : Nat) (acc : List UInt8), ∀ p ∈ cutW c n acc l, p.length ≤ acc.length + l.length
  | [], n, acc => by simp [cutW]
  | x :: xs, 0, acc => by simp [cutW]
  | x :: xs, n + 1, acc => by
    intro p hp
    unfold cutW at hp
    split at hp
    · rcases List.mem_cons.1 hp with rfl | hp
      · omega
      · have := cutW_size c xs n [] p hp
        simp only [List.length_nil, List.length_cons] at this ⊢; omega
    · have := cutW_size c xs (n + 1) (acc ++ [x]) p hp
      simp only [List.length_append, List.length_cons, List.length_nil] at this ⊢; omega

theorem mkT_size (l : List UInt8) : (mkT l).size = l.length := by simp [mkT, ByteArray.size]

theorem splitT_size {c : UInt8} {s p : ByteArray} (h : p ∈ splitT c s) : p.size ≤ s.size := by
  obtain ⟨x, hx, rfl⟩ := List.mem_map.1 h
  have := cutW_size c _ _ _ x hx
  rw [data_size] at this
  rw [mkT_size]; simpa using this

open Classical in
theorem impl_tagsOk_ev (s : ByteArray) (hs : s.size ≤ 1048576) : Ev (fun k => impl_tagsOk.f k s) (decide (tagsP s)) := by
  have hlen := splitT_length 44 s
  simp only [impl_tagsOk.f, Split_eq 44 s (show s.size < 4294967281 by omega), Option.bind_some]
  have h := impl_tagsOk_l0 (splitT 44 s) (by omega) (fun x hx => by have := splitT_size hx; omega) (splitT 44 s).length 0 (by omega)
  rw [List.drop_zero] at h
  exact ev_propI Iff.rfl h

theorem number_eq (s : ByteArray) (hs : s.size ≤ 140737488355328) : impl_number.f s = some (numB s) := by
  unfold impl_number.f
  rw [if_pos hs]; rfl

open Classical in
theorem impl_DocOk_l0 (F : List S79) (hF : F.length ≤ 1048576) (l : List S96) (hn : l.length ≤ 1048576) (hs : ∀ x ∈ l, x.f0.size ≤ 1048576 ∧ x.f1.size ≤ 1048576) : ∀ (d i : Nat), i + d = l.length →
    Ev (fun k => impl_DocOk.l0 k F l (l.length : Int) (i : Int)) (decide (cellsP F (l.drop i))) := by
  intro d
  induction d with
  | zero =>
    intro i hi
    refine Ev.step (fun k => impl_DocOk.l0.eq_2 _ _ _ _ _) ?_
    simp only [if_neg (show ¬ ((i : Int) < (l.length : Int)) by omega)]
    rw [List.drop_eq_nil_of_le (by omega)]
    exact ev_trueI (fun c hc => by simp at hc) (Ev.now _)
  | succ d ih =>
    intro i hi
    have hil : i < l.length := by omega
    have hsz := hs l[i] (List.getElem_mem _)
    have hnx := ih (i + 1) (by omega)
    have yes : cellK (kindOf F l[i].f0) l[i].f1 → Ev (fun k => impl_DocOk.l0 k F l (l.length : Int) ((i + 1 : Nat) : Int)) (decide (cellsP F (l[i] :: l.drop (i + 1)))) := by
      intro h
      refine ev_propI ⟨fun h2 c hc => ?_, fun h2 c hc => h2 c (List.mem_cons_of_mem _ hc)⟩ hnx
      rcases List.mem_cons.1 hc with rfl | hc
      · exact h
      · exact h2 c hc
    have no : ¬ cellK (kindOf F l[i].f0) l[i].f1 → Ev (fun _ : Nat => some false) (decide (cellsP F (l[i] :: l.drop (i + 1)))) := fun h => ev_falseI (fun h2 => h (h2 _ (List.mem_cons_self ..))) (Ev.now _)
    refine Ev.step (fun k => impl_DocOk.l0.eq_2 _ _ _ _ _) ?_
    rw [drop_get l i hil]
    simp only [if_pos (show ((i : Int) < (l.length : Int)) by omega), if_pos (show 0 ≤ (i : Int) by omega), rdi_Cell l i hil, wsucc i (by omega)]
    refine Ev.bind (impl_fieldOf_ev l[i].f0 F (by omega)) ?_
    have hkd : (fieldAt l[i].f0 F).2.1 = kindOf F l[i].f0 := rfl
    rw [hkd]
    by_cases h1 : kindOf F l[i].f0 = 1
    · simp only [if_pos h1]; exact yes (Or.inl h1)
    · simp only [if_neg h1]
      by_cases h2 : kindOf F l[i].f0 = 2
      · simp only [if_pos h2, number_eq l[i].f1 (by omega), Option.bind_some]
        cases hnum : (numB l[i].f1).2 with
        | true => simp only [if_true]; exact yes (Or.inr (Or.inl ⟨h2, hnum⟩))
        | false =>
          simp only [if_neg (show ¬ (false = true) by decide)]
          refine no (fun h => ?_)
          rcases h with h | ⟨_, h⟩ | ⟨h, _⟩
          · exact h1 h
          · rw [hnum] at h; cases h
          · omega
      · simp only [if_neg h2]
        by_cases h3 : kindOf F l[i].f0 = 3
        · simp only [if_pos h3]
          refine Ev.bind (impl_tagsOk_ev l[i].f1 hsz.2) ?_
          by_cases ht : tagsP l[i].f1
          · rw [decide_eq_true ht]; simp only [if_true]; exact yes (Or.inr (Or.inr ⟨h3, ht⟩))
          · rw [decide_eq_false ht]
            simp only [if_neg (show ¬ (false = true) by decide)]
            refine no (fun h => ?_)
            rcases h with h | ⟨h, _⟩ | ⟨_, h⟩
            · exact h1 h
            · exact h2 h
            · exact ht h
        · simp only [if_neg h3]
          refine no (fun h => ?_)
          rcases h with h | ⟨h, _⟩ | ⟨h, _⟩
          · exact h1 h
          · exact h2 h
          · exact h3 h

theorem fieldsFrom_end {l : List S79} {j : Nat} (hj : l.length ≤ j) : fieldsFrom l j ↔ 1 ≤ l.length ∧ l.length ≤ 4 := ⟨fun h => h.2, fun h => ⟨fun i hi hji => by omega, h⟩⟩

theorem fieldsFrom_step {l : List S79} {j : Nat} (hj : j < l.length) : fieldsFrom l j ↔ (nameFrom (bytesOf l[j].f0) 0 ∧ fieldP l[j] ∧ ∀ m (hm : m < j), l[m].f0 ≠ l[j].f0) ∧ fieldsFrom l (j + 1) := by
  constructor
  · rintro ⟨h, h2⟩
    exact ⟨h j hj (Nat.le_refl _), fun i hi hji => h i hi (by omega), h2⟩
  · rintro ⟨h, h1, h2⟩
    refine ⟨fun i hi hji => ?_, h2⟩
    rcases Nat.lt_or_ge j i with hlt | hge
    · exact h1 i hi hlt
    · obtain rfl : i = j := by omega
      exact h

open Classical in
theorem nameB_iff {l : List Int} : nameB l = true ↔ nameFrom l 0 := by unfold nameB; exact decide_eq_true_iff

theorem rdOf_str (l : List ByteArray) (j : Nat) (h : j < l.length) : rdOf ByteArray.empty l (j : Int) = l[j] := rdOf_get _ l j h

open Classical in
theorem slices_Index_string_string_l0 (l : List ByteArray) (n : ByteArray) (hn : l.length < 4611686018427387904) : ∀ (d i : Nat), i + d = l.length → ∃ r : Int, Ev (fun k => slices_Index_string_string.l0 k l n (l.length : Int) (i : Int)) r ∧ decide (r ≥ 0) = decide (n ∈ l.drop i) := by
  intro d
  induction d with
  | zero =>
    intro i hi
    refine ⟨-1, Ev.step (fun k => slices_Index_string_string.l0.eq_2 _ _ _ _ _) ?_, ?_⟩
    · simp only [if_neg (show ¬ ((i : Int) < (l.length : Int)) by omega)]
      exact Ev.now _
    · rw [List.drop_of_length_le (by omega)]; simp
  | succ d ih =>
    intro i hi
    have hs := mem_drop_step (l := l) (n := n) (show i < l.length by omega)
    by_cases h : n = l[i]
    · refine ⟨(i : Int), Ev.step (fun k => slices_Index_string_string.l0.eq_2 _ _ _ _ _) ?_, ?_⟩
      · simp only [if_pos (show ((i : Int) < (l.length : Int)) by omega), if_pos (show 0 ≤ (i : Int) by omega), rdOf_str l i (by omega), toList_inj, if_pos h]
        exact Ev.now _
      · rw [decide_eq_true (hs.2 (.inl h))]; simp
    · obtain ⟨r, h1, h2⟩ := ih (i + 1) (by omega)
      refine ⟨r, Ev.step (fun k => slices_Index_string_string.l0.eq_2 _ _ _ _ _) ?_, ?_⟩
      · simp only [if_pos (show ((i : Int) < (l.length : Int)) by omega), if_pos (show 0 ≤ (i : Int) by omega), rdOf_str l i (by omega), toList_inj, if_neg h, wsucc i (by omega)]
        exact h1
      · rw [h2]; exact decide_eq_decide.2 (hs.trans ⟨fun h1 => h1.resolve_left h, .inr⟩).symm

open Classical in
theorem slices_Contains_string_string_ev (l : List ByteArray) (n : ByteArray) (hn : l.length < 4611686018427387904) : Ev (fun k => slices_Contains_string_string.f k l n) (decide (n ∈ l)) := by
  obtain ⟨r, h1, h2⟩ := slices_Index_string_string_l0 l n hn l.length 0 (by omega)
  simp only [slices_Contains_string_string.f]
  refine Ev.bind (a := r) h1 ?_
  rw [h2]; exact Ev.now _

open Classical in
theorem impl_FieldsOk_l0 (l : List S79) (hn : l.length ≤ 1048577) (hs : ∀ x ∈ l, x.f0.size ≤ 1048576) : ∀ (d i : Nat), i + d = l.length →
    Ev (fun k => impl_FieldsOk.l0 k l ((l.take i).map (fun x => x.f0)) l (l.length : Int) (i : Int)) (decide (fieldsFrom l i)) := by
  intro d
  induction d with
  | zero =>
    intro i hi
    refine Ev.step (fun k => impl_FieldsOk.l0.eq_2 _ _ _ _ _ _) ?_
    simp only [if_neg (show ¬ ((i : Int) < (l.length : Int)) by omega), impl_within_eq, Option.bind_some]
    refine ev_prop (fieldsFrom_end (by omega)).symm ?_
    refine ev_eq fun _ => ?_
    congr 1; exact decide_eq_decide.2 (by omega)
  | succ d ih =>
    intro i hi
    have hst := fieldsFrom_step (l := l) (j := i) (by omega)
    have hsz := hs l[i] (List.getElem_mem _)
    have hlen : ((l.take i).map (fun x => x.f0)).length = i := by rw [List.length_map, List.length_take]; omega
    have hmem : l[i].f0 ∈ (l.take i).map (fun x => x.f0) ↔ ∃ m, ∃ hm : m < i, l[m].f0 = l[i].f0 := by
      rw [List.mem_map]
      constructor
      · rintro ⟨x, hx, he⟩
        obtain ⟨m, hm, rfl⟩ := List.mem_iff_getElem.1 hx
        rw [List.length_take] at hm
        exact ⟨m, by omega, by rw [← he, List.getElem_take]⟩
      · rintro ⟨m, hm, he⟩
        exact ⟨l[m], List.mem_iff_getElem.2 ⟨m, by rw [List.length_take]; omega, by rw [List.getElem_take]⟩, he⟩
    have hnx : (l.take (i + 1)).map (fun x => x.f0) = (l.take i).map (fun x => x.f0) ++ [l[i].f0] := by
      rw [List.take_add_one, List.getElem?_eq_getElem (by omega), List.map_append]; rfl
    refine Ev.step (fun k => impl_FieldsOk.l0.eq_2 _ _ _ _ _ _) ?_
    simp only [if_pos (show ((i : Int) < (l.length : Int)) by omega), if_pos (show 0 ≤ (i : Int) by omega), rdi_Field l i (by omega), impl_within_eq, Option.bind_some]
    have hj1 : ∀ (t : Bool), ((t = true ∧ 1 ≤ l[i].f1 ∧ l[i].f1 ≤ 3) ↔ fieldP l[i]) → Ev (fun k => impl_FieldsOk.j1 k l ((l.take i).map (fun x => x.f0)) t l (l.length : Int) (i : Int) l[i].f0 l[i].f1 l[i].f2) (decide (fieldsFrom l i)) := by
      intro t ht
      refine Ev.step (fun k => impl_FieldsOk.j1.eq_2 _ _ _ _ _ _ _ _ _ _) ?_
      refine Ev.bind (impl_NameOk_ev l[i].f0 (by omega)) ?_
      cases hnm : nameB (bytesOf l[i].f0) with
      | false =>
        simp only [if_neg (show ¬ (false = true) by decide)]
        refine ev_false (fun h => ?_) (Ev.now _)
        have := nameB_iff.2 (hst.1 h).1.1
        rw [hnm] at this; cases this
      | true =>
        simp only [if_true]
        refine Ev.bind (slices_Contains_string_string_ev _ _ (by rw [hlen]; omega)) ?_
        simp only [decide_eq_true_eq, impl_within_eq, Option.bind_some]
        by_cases hc : l[i].f0 ∈ (l.take i).map (fun x => x.f0)
        · simp only [if_pos hc]
          obtain ⟨m, hm, he⟩ := hmem.1 hc
          exact ev_false (fun h => (hst.1 h).1.2.2 m hm he) (Ev.now _)
        · simp only [if_neg hc]
          by_cases hp : fieldP l[i]
          · obtain ⟨h1, h2⟩ := ht.2 hp
            simp only [if_pos h2, h1, if_true, hlen, if_pos (show i < 8796093022208 by omega), wsucc i (by omega)]
            have hnext := ih (i + 1) (by omega)
            rw [hnx] at hnext
            exact ev_prop (hst.trans ⟨fun h => h.2, fun h => ⟨⟨nameB_iff.1 hnm, hp, fun m hm he => hc (hmem.2 ⟨m, hm, he⟩)⟩, h⟩⟩).symm hnext
          · have hf : Ev (fun _ => some false) (decide (fieldsFrom l i)) := ev_false (fun h => hp (hst.1 h).1.2.1) (Ev.now _)
            by_cases h2 : 1 ≤ l[i].f1 ∧ l[i].f1 ≤ 3
            · have h1 : t = false := by
                cases t
                · rfl
                · exact absurd (ht.1 ⟨rfl, h2⟩) hp
              simp only [if_pos h2, h1, if_neg (show ¬ (false = true) by decide)]; exact hf
            · simp only [if_neg h2]; exact hf
    by_cases h1 : l[i].f1 = 1
    · simp only [if_pos h1]
      refine hj1 _ ?_
      unfold fieldP
      rw [decide_eq_true_eq]
      constructor
      · intro h; exact .inl ⟨h1, h.1⟩
      · intro h
        rcases h with h | h
        · exact ⟨h.2, by omega, by omega⟩
        · omega
    · simp only [if_neg h1]
      refine hj1 _ ?_
      unfold fieldP
      rw [beq_iff_eq]
      constructor
      · intro h; exact .inr ⟨by omega, h.2.2, h.1⟩
      · intro h
        rcases h with h | h
        · exact absurd h.1 h1
        · exact ⟨h.2.2, by omega, h.2.1⟩

theorem impl_FieldsOk_ev (l : List S79) (hn : l.length ≤ 1048577) (hs : ∀ x ∈ l, x.f0.size ≤ 1048576) : Ev (fun k => impl_FieldsOk.f k l) (fieldsB l) := impl_FieldsOk_l0 l hn hs l.length 0 (by omega)

open Classical in
theorem impl_DocOk_ev (F : List S79) (hF : F.length ≤ 1048576) (hFs : ∀ x ∈ F, x.f0.size ≤ 1048576) (key : ByteArray) (l : List S96) (hk : key.size ≤ 1048576) (hn : l.length ≤ 1048576) (hs : ∀ x ∈ l, x.f0.size ≤ 1048576 ∧ x.f1.size ≤ 1048576) : Ev (fun k => impl_DocOk.f k F key l) (docOkB F key l) := by
  simp only [impl_DocOk.f, docOkB]
  have stop : ¬ docOkP F key l → Ev (fun k => impl_DocOk.j0 k F true key l) (decide (docOkP F key l)) := by
    intro h
    refine Ev.step (fun k => impl_DocOk.j0.eq_2 _ _ _ _ _) ?_
    simp only [if_true]
    exact ev_falseI h (Ev.now _)
  refine Ev.bind (impl_FieldsOk_ev F (by omega) hFs) ?_
  cases hf : fieldsB F with
  | false => simp only [if_neg (show ¬ (false = true) by decide)]; exact stop (fun h => by have := h.1; rw [hf] at this; cases this)
  | true =>
    simp only [if_true]
    refine Ev.bind (impl_wellFormed_ev key l hk hn hs) ?_
    cases hm : formB key l with
    | false => exact stop (fun h => by have := h.2.1; rw [hm] at this; cases this)
    | true =>
      simp only [Bool.not_true]
      refine Ev.step (fun k => impl_DocOk.j0.eq_2 _ _ _ _ _) ?_
      simp only [if_neg (show ¬ (false = true) by decide)]
      have h := impl_DocOk_l0 F hF l hn hs l.length 0 (by omega)
      rw [List.drop_zero] at h
      refine ev_propI ?_ h
      unfold docOkP
      exact ⟨fun h => ⟨hf, hm, h⟩, fun h => h.2.2⟩

theorem impl_DocText_l0 (name : ByteArray) (l : List S96) (hn : l.length < 4611686018427387904) : ∀ (d i : Nat), i + d = l.length → Ev (fun k => impl_DocText.l0 k name l (l.length : Int) (i : Int)) (docText name (l.drop i)) := by
  intro d
  induction d with
  | zero =>
    intro i hi
    refine Ev.step (fun k => impl_DocText.l0.eq_2 _ _ _ _ _) ?_
    simp only [if_neg (show ¬ ((i : Int) < (l.length : Int)) by omega)]
    rw [List.drop_of_length_le (by omega)]; exact Ev.now _
  | succ d ih =>
    intro i hi
    refine Ev.step (fun k => impl_DocText.l0.eq_2 _ _ _ _ _) ?_
    simp only [if_pos (show ((i : Int) < (l.length : Int)) by omega), if_pos (show 0 ≤ (i : Int) by omega), wsucc i (by omega), rdi_Cell l i (by omega), toList_inj]
    rw [drop_get l i (by omega)]
    by_cases h : l[i].f0 = name
    · simp only [if_pos h, docText]; exact Ev.now _
    · simp only [if_neg h, docText]; exact ih (i + 1) (by omega)

theorem impl_DocText_ev (name key : ByteArray) (l : List S96) (hn : l.length < 4611686018427387904) : Ev (fun k => impl_DocText.f k key l name) (docText name l) := impl_DocText_l0 name l hn l.length 0 (by omega)

theorem data_textOf (l : List (List UInt8)) : (l.map textOf).map (fun x : ByteArray => x.data.toList) = l := by
  rw [List.map_map]
  exact List.map_id l

theorem less_eq : ∀ (x y : List UInt8), Op.bytesLess x y = decide (x < y)
  | [], [] => by simp [Op.bytesLess]
  | _ :: _, [] => by simp [Op.bytesLess]
  | [], _ :: _ => by simp [Op.bytesLess]
  | a :: x, b :: y => by
    rw [Op.bytesLess, less_eq x y]
    simp only [List.cons_lt_cons_iff]
    by_cases h1 : a < b <;> by_cases h2 : a = b <;> by_cases h3 : x < y <;> simp [h1, h2, h3]

/-- A text among others that rise, once. -/
def insL (s : List UInt8) : List (List UInt8) → List (List UInt8)
  | [] => [s]
  | x :: xs => if x < s then x :: insL s xs else if x = s then x :: xs else s :: x :: xs

theorem insB_data (s : ByteArray) : ∀ l : List ByteArray, (insB s l).map (·.data.toList) = insL s.data.toList (l.map (·.data.toList))
  | [] => rfl
  | x :: xs => by
    unfold insB
    rw [List.map_cons, insL, less_eq, toList_data, toList_data]
    by_cases h1 : x.data.toList < s.data.toList
    · rw [decide_eq_true h1, if_pos rfl, if_pos h1, List.map_cons, insB_data s xs]
    · rw [decide_eq_false h1, if_neg (by decide), if_neg h1]
      by_cases h2 : x = s
      · rw [if_pos h2, if_pos (by rw [h2]), List.map_cons]
      · rw [if_neg h2, if_neg (fun e => h2 (ByteArray.ext (Array.toList_inj.1 e))), List.map_cons, List.map_cons]

def insAll (acc : List (List UInt8)) (l : List (List UInt8)) : List (List UInt8) := l.foldl (fun a s => insL s a) acc

theorem insAllB_data : ∀ (l acc : List ByteArray), (insAllB acc l).map (fun x : ByteArray => x.data.toList) = insAll (acc.map (fun x : ByteArray => x.data.toList)) (l.map (fun x : ByteArray => x.data.toList))
  | [], _ => rfl
  | s :: l, acc => by
    rw [insAllB_cons, insAllB_data l (insB s acc), insB_data]
    rfl

theorem textOf_map (l : List ByteArray) : (l.map (fun x : ByteArray => x.data.toList)).map textOf = l := by
  rw [List.map_map]
  have : (textOf ∘ fun x : ByteArray => x.data.toList) = id := by funext x; cases x; rfl
  rw [this, List.map_id]

def uniqL (l : List (List UInt8)) : List (List UInt8) := Lib.compact (l.mergeSort fun x y => decide (x ≤ y))

theorem mem_insL (s : List UInt8) : ∀ (l : List (List UInt8)) (z : List UInt8), z ∈ insL s l ↔ z = s ∨ z ∈ l
  | [], z => by simp [insL]
  | x :: xs, z => by
    unfold insL
    split
    · rw [List.mem_cons, mem_insL s xs, List.mem_cons]
      constructor
      · rintro (h | h | h); exact .inr (.inl h); exact .inl h; exact .inr (.inr h)
      · rintro (h | h | h); exact .inr (.inl h); exact .inl h; exact .inr (.inr h)
    · split
      · rename_i h; subst h
        constructor
        · intro h; exact .inr h
        · rintro (h | h); subst h; exact List.mem_cons_self ..; exact h
      · rw [List.mem_cons]

theorem lt_of_not {a b : List UInt8} (h1 : ¬ a < b) (h2 : a ≠ b) : b < a := by
  rcases Std.lt_trichotomy a b with h | h | h
  · exact absurd h h1
  · exact absurd h h2
  · exact h

theorem rising_insL (s : List UInt8) : ∀ (l : List (List UInt8)), l.Pairwise (· < ·) → (insL s l).Pairwise (· < ·)
  | [], _ => by simp [insL]
  | x :: xs, h => by
    have h' := List.pairwise_cons.1 h
    unfold insL
    split
    · rename_i hx
      refine List.pairwise_cons.2 ⟨fun z hz => ?_, rising_insL s xs h'.2⟩
      rcases (mem_insL s xs z).1 hz with h1 | h1
      · rw [h1]; exact hx
      · exact h'.1 z h1
    · rename_i hx
      split
      · exact h
      · rename_i hne
        have hsx := lt_of_not hx hne
        refine List.pairwise_cons.2 ⟨fun z hz => ?_, h⟩
        rcases List.mem_cons.1 hz with h1 | h1
        · rw [h1]; exact hsx
        · exact List.lt_trans hsx (h'.1 z h1)

theorem insAll_props : ∀ (l acc : List (List UInt8)), acc.Pairwise (· < ·) → (insAll acc l).Pairwise (· < ·) ∧ ∀ z, z ∈ insAll acc l ↔ z ∈ acc ∨ z ∈ l
  | [], acc, h => ⟨h, fun z => by simp [insAll]⟩
  | s :: l, acc, h => by
    have := insAll_props l (insL s acc) (rising_insL s acc h)
    refine ⟨this.1, fun z => ?_⟩
    show z ∈ insAll (insL s acc) l ↔ _
    rw [this.2, mem_insL, List.mem_cons]
    constructor
    · rintro ((h | h) | h); exact .inr (.inl h); exact .inl h; exact .inr (.inr h)
    · rintro (h | h | h); exact .inl (.inr h); exact .inl (.inl h); exact .inr h

theorem kept_someT (d : Array (List UInt8)) : ∀ i : Nat, ∃ j, j ≤ i ∧ Lib.keeps d j = true ∧ d[j]! = d[i]!
  | 0 => ⟨0, Nat.le_refl _, by simp [Lib.keeps], rfl⟩
  | i + 1 => by
    by_cases h : d[i + 1]! = d[i]!
    · obtain ⟨j, h1, h2, h3⟩ := kept_someT d i
      exact ⟨j, by omega, h2, h3.trans h.symm⟩
    · exact ⟨i + 1, Nat.le_refl _, by simp only [Lib.keeps, Nat.add_sub_cancel]; exact decide_eq_true (.inr h), rfl⟩

theorem mem_compactUpToT (d : Array (List UInt8)) (m : Nat) (z : List UInt8) : z ∈ Lib.compactUpTo d m ↔ ∃ j, j < m ∧ Lib.keeps d j = true ∧ d[j]! = z := by
  unfold Lib.compactUpTo
  simp only [List.mem_map, List.mem_filter, List.mem_range]
  constructor
  · rintro ⟨j, ⟨h1, h2⟩, h3⟩; exact ⟨j, h1, h2, h3⟩
  · rintro ⟨j, h1, h2, h3⟩; exact ⟨j, ⟨h1, h2⟩, h3⟩

theorem mem_compactT (l : List (List UInt8)) (z : List UInt8) : z ∈ Lib.compact l ↔ z ∈ l := by
  unfold Lib.compact
  rw [mem_compactUpToT]
  constructor
  · rintro ⟨j, h1, _, h3⟩
    have h4 : l.toArray[j]! = l[j] := by rw [getElem!_pos l.toArray j (by simpa using h1)]; simp
    rw [h4] at h3
    exact h3 ▸ List.getElem_mem h1
  · intro h
    obtain ⟨i, hi, rfl⟩ := List.mem_iff_getElem.1 h
    obtain ⟨j, h1, h2, h3⟩ := kept_someT l.toArray i
    refine ⟨j, by omega, h2, h3.trans ?_⟩
    rw [getElem!_pos l.toArray i (by simpa using hi)]; simp

theorem lt_of_le_ne {a b : List UInt8} (h1 : a ≤ b) (h2 : a ≠ b) : a < b := by
  rcases Std.lt_trichotomy a b with h | h | h
  · exact h
  · exact absurd h h2
  · exact absurd h (List.not_lt.2 h1)

theorem rising_compactT (l : List (List UInt8)) (h : l.Pairwise (· ≤ ·)) : (Lib.compact l).Pairwise (· < ·) := by
  unfold Lib.compact Lib.compactUpTo
  rw [List.pairwise_map, List.pairwise_filter]
  refine List.Pairwise.imp_of_mem ?_ List.pairwise_lt_range
  intro i j hi hj hij _ hk
  have hi := List.mem_range.1 hi
  have hj := List.mem_range.1 hj
  have g : ∀ q (hq : q < l.length), l.toArray[q]! = l[q] := fun q hq => by rw [getElem!_pos l.toArray q (by simpa using hq)]; simp
  have hk := of_decide_eq_true hk
  rcases hk with hk | hk
  · omega
  · rw [g j hj, g (j - 1) (by omega)] at hk
    have h1 : l[i] ≤ l[j - 1] := by
      rcases Nat.lt_or_ge i (j - 1) with h2 | h2
      · exact List.pairwise_iff_getElem.1 h i (j - 1) hi (by omega) h2
      · have : i = j - 1 := by omega
        subst this; exact List.le_refl _
    have h2 := List.pairwise_iff_getElem.1 h (j - 1) j (by omega) hj (by omega)
    rw [g i hi, g j hj]
    exact List.lt_of_le_of_lt h1 (lt_of_le_ne h2 (fun e => hk e.symm))

theorem strict_ext {α : Type} {r : α → α → Prop} (hirr : ∀ a, ¬ r a a) (htr : ∀ a b c, r a b → r b c → r a c) : ∀ {a b : List α}, a.Pairwise r → b.Pairwise r → (∀ x, x ∈ a ↔ x ∈ b) → a = b
  | [], [], _, _, _ => rfl
  | [], y :: b, _, _, h => by have := (h y).2 (by simp); simp at this
  | x :: a, [], _, _, h => by have := (h x).1 (by simp); simp at this
  | x :: a, y :: b, ha, hb, h => by
    have ha' := List.pairwise_cons.1 ha
    have hb' := List.pairwise_cons.1 hb
    have hxy : x = y := by
      rcases List.mem_cons.1 ((h x).1 (by simp)) with h1 | h1
      · exact h1
      · rcases List.mem_cons.1 ((h y).2 (by simp)) with h2 | h2
        · exact h2.symm
        · exact absurd (htr _ _ _ (hb'.1 x h1) (ha'.1 y h2)) (hirr _)
    subst hxy
    congr 1
    refine strict_ext hirr htr ha'.2 hb'.2 (fun z => ⟨fun hz => ?_, fun hz => ?_⟩)
    · rcases List.mem_cons.1 ((h z).1 (List.mem_cons_of_mem _ hz)) with h1 | h1
      · subst h1; exact absurd (ha'.1 z hz) (hirr _)
      · exact h1
    · rcases List.mem_cons.1 ((h z).2 (List.mem_cons_of_mem _ hz)) with h1 | h1
      · subst h1; exact absurd (hb'.1 z hz) (hirr _)
      · exact h1

theorem uniqL_eq (l : List (List UInt8)) : uniqL l = insAll [] l := by
  have hi := insAll_props l [] List.Pairwise.nil
  refine strict_ext (r := fun a b : List UInt8 => a < b) (fun a => List.lt_irrefl a) (fun a b c => List.lt_trans) (rising_compactT _ ?_) hi.1 (fun x => ?_)
  · have := List.pairwise_mergeSort (le := fun x y : List UInt8 => decide (x ≤ y)) (fun a b c h1 h2 => by simp only [decide_eq_true_eq] at *; exact List.le_trans h1 h2) (fun a b => by simp only [Bool.or_eq_true, decide_eq_true_eq]; exact List.le_total a b) l
    exact this.imp (fun h => by simpa using h)
  · show x ∈ Lib.compact _ ↔ _
    rw [mem_compactT, List.mem_mergeSort, hi.2]; simp

theorem unique_eq (l : List ByteArray) : compactT (sortT l) = insAllB [] l := by
  unfold compactT sortT
  rw [data_textOf]
  have h1 : Lib.compact ((l.map (fun x : ByteArray => x.data.toList)).mergeSort fun x y => decide (x ≤ y)) = uniqL (l.map (fun x : ByteArray => x.data.toList)) := rfl
  rw [h1, uniqL_eq, show ([] : List (List UInt8)) = ([] : List ByteArray).map (fun x : ByteArray => x.data.toList) from rfl, ← insAllB_data, textOf_map]

theorem impl_unique_eq (l : List ByteArray) (hn : l.length ≤ 1048577) : impl_unique.f l = some (insAllB [] l) := by
  have h1 := insAllB_length l []
  have h2 : ((0 : Nat) + (insAllB [] l).length < 8796093022208) := by rw [List.length_nil] at h1; omega
  simp only [impl_unique.f, Option.bind_some, List.nil_append, List.length_nil, if_pos (show 0 + l.length < 8796093022208 by omega), slices_Sort_string_string.f, if_pos (show l.length < 4611686018427387904 by omega), slices_Compact_string_string.f, unique_eq, if_pos h2]

theorem impl_tags_ev (F : List S79) (hF : F.length ≤ 1048576) (key n : ByteArray) (l : List S96) (hn : l.length ≤ 1048576) (hs : ∀ x ∈ l, x.f0.size ≤ 1048576 ∧ x.f1.size ≤ 1048576) : Ev (fun k => impl_tags.f k F key l n) (docTagsI F n l) := by
  simp only [impl_tags.f, docTagsI]
  have hc : Ev (fun k => impl_cell.f k F key l n 3) (if kindOf F n = 3 then docText n l else ((⟨#[]⟩ : ByteArray), false)) := by
    simp only [impl_cell.f]
    refine Ev.bind (impl_fieldOf_ev n F (by omega)) ?_
    show Ev (fun k => if kindOf F n = 3 then _ else _) _
    by_cases h : kindOf F n = 3
    · simp only [if_pos h]; exact Ev.bind (impl_DocText_ev n key l (by omega)) (Ev.now _)
    · simp only [if_neg h]; exact Ev.now _
  refine Ev.bind hc ?_
  by_cases h : kindOf F n = 3
  · simp only [if_pos h]
    by_cases h2 : (docText n l).2 = true
    · have hz := docText_size (n := n) hs
      have hl := splitT_length 44 (docText n l).1
      simp only [if_pos h2, Split_eq 44 (docText n l).1 (show (docText n l).1.size < 4294967281 by omega), Option.bind_some, impl_unique_eq _ (show (splitT 44 (docText n l).1).length ≤ 1048577 by omega)]
      exact Ev.now _
    · simp only [if_neg h2]; exact Ev.now _
  · simp only [if_neg h, if_neg (show ¬ (false = true) by decide)]; exact Ev.now _

theorem impl_DocTags_ev (F : List S79) (hF : F.length ≤ 1048576) (hFs : ∀ x ∈ F, x.f0.size ≤ 1048576) (key n : ByteArray) (l : List S96) (hk : key.size ≤ 1048576) (hn : l.length ≤ 1048576) (hs : ∀ x ∈ l, x.f0.size ≤ 1048576 ∧ x.f1.size ≤ 1048576) : Ev (fun k => impl_DocTags.f k F key l n) (docTagsB F key n l) := by
  simp only [impl_DocTags.f, docTagsB]
  refine Ev.bind (impl_DocOk_ev F hF hFs key l hk hn hs) ?_
  by_cases h : docOkB F key l = true
  · simp only [if_pos h]; exact Ev.bind (impl_tags_ev F hF key n l hn hs) (Ev.now _)
  · simp only [if_neg h]; exact Ev.now _

open Classical in
noncomputable def MT (n : Int) : ByteArray := if h : ∃ r, Ev (fun k => laws_markText.f k n) r then Classical.choose h else ByteArray.empty

noncomputable def mkCells (a : Int) : Nat → List S96
  | 0 => []
  | m + 1 => ⟨MT a, MT (a + 1)⟩ :: mkCells (a + 2) m

theorem markText_l0 : ∀ (d : Nat) (n : Int) (s : ByteArray), 0 ≤ n → n ≤ 9223372036854775807 → n < 10 ^ d → s.size + d ≤ 1000 → ∃ r, Ev (fun k => laws_markText.l0 k n s) r := by
  intro d
  induction d with
  | zero =>
    intro n s h0 hm h1 hs
    refine ⟨(⟨#[109]⟩ : ByteArray) ++ s, Ev.step (fun k => laws_markText.l0.eq_2 _ _ _) ?_⟩
    simp only [if_neg (show ¬ n > 0 by simp at h1; omega), if_pos (show 1 + s.size ≤ 9223372036854775807 by omega)]
    exact Ev.now _
  | succ d ih =>
    intro n s h0 hm h1 hs
    by_cases hp : n > 0
    · have e : Int.tdiv n 10 = n / 10 := Int.tdiv_eq_ediv_of_nonneg h0
      have hq : n / 10 < 10 ^ d := by
        have : n < 10 ^ d * 10 := by rw [← Int.pow_succ]; exact h1
        omega
      obtain ⟨r, hr⟩ := ih (n / 10) ((strOfNums [(wrap64 (48 + (Int.tmod n 10))) % 256]) ++ s) (by omega) (by omega) hq (by rw [ByteArray.size_append, strOfNums_size]; simp; omega)
      refine ⟨r, Ev.step (fun k => laws_markText.l0.eq_2 _ _ _) ?_⟩
      simp only [if_pos hp, Option.bind_some, strOfNums_size, List.length_singleton, if_pos (show 1 + s.size ≤ 9223372036854775807 by omega), e, wrap_id (x := n / 10) (by omega) (by omega)]
      exact hr
    · refine ⟨(⟨#[109]⟩ : ByteArray) ++ s, Ev.step (fun k => laws_markText.l0.eq_2 _ _ _) ?_⟩
      simp only [if_neg hp, if_pos (show 1 + s.size ≤ 9223372036854775807 by omega)]
      exact Ev.now _

theorem markText_ex (n : Int) (h0 : 0 ≤ n) (h1 : n ≤ 9223372036854775807) : ∃ r, Ev (fun k => laws_markText.f k n) r := by
  simp only [laws_markText.f]
  by_cases h : n ≤ 0
  · simp only [if_pos h]; exact ⟨_, Ev.now _⟩
  · simp only [if_neg h]
    exact markText_l0 20 n _ h0 h1 (by omega) (by decide)

theorem markText_ev (n : Int) (h0 : 0 ≤ n) (h1 : n ≤ 4611686018427387904) : Ev (fun k => laws_markText.f k n) (MT n) := by
  have h := markText_ex n h0 (by omega)
  unfold MT
  rw [dif_pos h]
  exact Classical.choose_spec h

theorem markCellS_l0 : ∀ (d i : Nat) (l : List S96) (a : Int), i + d = l.length → l.length < 1152921504606846976 → 0 ≤ a → a + 2 * d < 4611686018427387904 →
    Ev (fun k => laws_markCellS.l0 k l a (i : Int)) (a + 2 * d, l.take i ++ mkCells a d) := by
  intro d
  induction d with
  | zero =>
    intro i l a hi hn ha hb
    refine Ev.step (fun k => laws_markCellS.l0.eq_2 _ _ _ _) ?_
    simp only [if_neg (show ¬ ((i : Int) < (l.length : Int)) by omega)]
    have : (a + 2 * ((0 : Nat) : Int), l.take i ++ mkCells a 0) = (a, l) := by simp [mkCells, List.take_of_length_le (show l.length ≤ i by omega)]
    rw [this]; exact Ev.now _
  | succ d ih =>
    intro i l a hi hn ha hb
    refine Ev.step (fun k => laws_markCellS.l0.eq_2 _ _ _ _) ?_
    simp only [if_pos (show ((i : Int) < (l.length : Int)) by omega), if_pos (show 0 ≤ (i : Int) by omega), wsucc i (by omega), toNat_cast, wrap_id (x := a + 1) (by omega) (by omega), wrap_id (x := a + 1 + 1) (by omega) (by omega)]
    refine Ev.bind (markText_ev a ha (by omega)) ?_
    simp only [Option.bind_some]
    refine Ev.bind (markText_ev (a + 1) (by omega) (by omega)) ?_
    rw [rdi_Cell (l.set i _) i (by simp; omega), List.getElem_set_self, List.set_set]
    have h := ih (i + 1) (l.set i ⟨MT a, MT (a + 1)⟩) (a + 2) (by simp; omega) (by simp; omega) (by omega) (by omega)
    rw [List.take_add_one, List.take_set_of_le (Nat.le_refl _), List.getElem?_set_self (by omega)] at h
    have e2 : (a + 2 + 2 * (d : Int), l.take i ++ (some (⟨MT a, MT (a + 1)⟩ : S96)).toList ++ mkCells (a + 2) d) = (a + 2 * ((d + 1 : Nat) : Int), l.take i ++ mkCells a (d + 1)) := by
      simp [mkCells]; omega
    have e3 : a + 1 + 1 = a + 2 := by omega
    rw [← e2, e3]; exact h

theorem markDocA_ev (key : ByteArray) (l : List S96) (a : Int) (ha : 0 ≤ a) (hb : a ≤ 1125899906842624) (hn : l.length < 1125899906842624) : Ev (fun k => laws_markDoc.f k key l a) (a + 2 * (l.length : Int), mkCells a l.length) := by
  simp only [laws_markDoc.f]
  have h := markCellS_l0 l.length 0 l a (by omega) (by omega) ha (by omega)
  have h2 : Ev (fun k => laws_markCellS.f k l a) (a + 2 * (l.length : Int), mkCells a l.length) := by simpa [laws_markCellS.f] using h
  exact Ev.bind h2 (Ev.now _)

theorem spec_DocText_l0 (name key : ByteArray) (l : List S96) (hn : l.length < 4611686018427387904) : ∀ (d i : Nat), i + d = l.length → Ev (fun k => spec_DocText.l0 k name (i : Int) key l) (docText name (l.drop i)) := by
  intro d
  induction d with
  | zero =>
    intro i hi
    refine Ev.step (fun k => spec_DocText.l0.eq_2 _ _ _ _ _) ?_
    simp only [if_neg (show ¬ ((i : Int) < (l.length : Int)) by omega)]
    rw [List.drop_of_length_le (by omega)]; exact Ev.now _
  | succ d ih =>
    intro i hi
    refine Ev.step (fun k => spec_DocText.l0.eq_2 _ _ _ _ _) ?_
    simp only [if_pos (show ((i : Int) < (l.length : Int)) by omega), if_pos (show 0 ≤ (i : Int) by omega), wsucc i (by omega), rdi_Cell l i (by omega), toList_inj]
    rw [drop_get l i (by omega)]
    by_cases h : l[i].f0 = name
    · simp only [if_pos h, docText]; exact Ev.now _
    · simp only [if_neg h, docText]; exact ih (i + 1) (by omega)

theorem spec_DocText_ev (name key : ByteArray) (l : List S96) (hn : l.length < 4611686018427387904) : Ev (fun k => spec_DocText.f k key l name) (docText name l) := spec_DocText_l0 name key l hn l.length 0 (by omega)

open Classical in
theorem form_cells {key : ByteArray} {l : List S96} (h : formB key l = true) : (∀ c ∈ l, nameB (bytesOf c.f0) = true ∧ plainB c.f1 60 = true) ∧ nameB (bytesOf key) = true ∧ l.length ≤ 4 := by
  unfold formB at h
  have h1 := decide_eq_true_iff.1 h
  refine ⟨fun c hc => ?_, h1.2⟩
  obtain ⟨i, hi, rfl⟩ := List.mem_iff_getElem.1 hc
  have h2 := h1.1 i hi (Nat.zero_le _)
  exact ⟨h2.1, h2.2.1⟩

theorem spec_l1In_eq (a b c : Int) : spec_l1In.f a b c = some (decide (b ≤ a ∧ a ≤ c)) := by
  unfold spec_l1In.f
  by_cases h : a ≥ b
  · rw [if_pos h]; congr 1; exact decide_eq_decide.2 ⟨fun h2 => ⟨h, h2⟩, fun h2 => h2.2⟩
  · rw [if_neg h]; congr 1; symm; exact decide_eq_false (fun h2 => h h2.1)

open Classical in
theorem spec_NameOk_l0 (s : ByteArray) (hn : s.size < 4611686018427387904) : ∀ (d i : Nat), i + d = s.size → Ev (fun k => spec_NameOk.l0 k s (i : Int)) (decide (nameFrom (bytesOf s) i)) := by
  have hb := bytesOf_length s
  intro d
  induction d with
  | zero =>
    intro i hi
    refine Ev.step (fun k => spec_NameOk.l0.eq_2 _ _ _) ?_
    simp only [if_neg (show ¬ ((i : Int) < (s.size : Int)) by omega), spec_l1In_eq, Option.bind_some]
    refine ev_prop (nameFrom_end (by omega)).symm ?_
    refine ev_eq fun _ => ?_
    congr 1; exact decide_eq_decide.2 (by omega)
  | succ d ih =>
    intro i hi
    have hs := nameFrom_step (l := bytesOf s) (j := i) (by omega)
    refine Ev.step (fun k => spec_NameOk.l0.eq_2 _ _ _) ?_
    simp only [if_pos (show ((i : Int) < (s.size : Int)) by omega), if_pos (show 0 ≤ (i : Int) by omega), wsucc i (by omega), bt_get s i (by omega)]
    by_cases h1 : lowP (bytesOf s)[i]
    · simp only [if_pos (show (bytesOf s)[i] ≥ 97 from h1.1), if_pos h1.2]
      exact ev_prop (hs.trans ⟨fun h => h.2, fun h => ⟨.inl h1, h⟩⟩).symm (ih (i + 1) (by omega))
    · have key : Ev (fun k => if (i : Int) = 0 then some false else if (bytesOf s)[i] < 48 then some false else if (bytesOf s)[i] > 57 then some false else spec_NameOk.l0 k s ((i + 1 : Nat) : Int)) (decide (nameFrom (bytesOf s) i)) := by
        by_cases h0 : (i : Int) = 0
        · simp only [if_pos h0]
          have : decide (nameFrom (bytesOf s) i) = false := decide_eq_false (fun h => by rcases (hs.1 h).1 with h2 | h2; exact h1 h2; omega)
          rw [this]; exact Ev.now _
        · simp only [if_neg h0]
          by_cases h2 : digP (bytesOf s)[i]
          · simp only [if_neg (show ¬ (bytesOf s)[i] < 48 by have := h2.1; omega), if_neg (show ¬ (bytesOf s)[i] > 57 by have := h2.2; omega)]
            exact ev_prop (hs.trans ⟨fun h => h.2, fun h => ⟨.inr ⟨by omega, h2⟩, h⟩⟩).symm (ih (i + 1) (by omega))
          · have : decide (nameFrom (bytesOf s) i) = false := decide_eq_false (fun h => by rcases (hs.1 h).1 with h3 | h3; exact h1 h3; exact h2 h3.2)
            rw [this]
            by_cases h3 : (bytesOf s)[i] < 48
            · simp only [if_pos h3]; exact Ev.now _
            · simp only [if_neg h3, if_pos (show (bytesOf s)[i] > 57 by unfold digP at h2; omega)]; exact Ev.now _
      by_cases h3 : (bytesOf s)[i] ≥ 97
      · simp only [if_pos h3, if_neg (show ¬ (bytesOf s)[i] ≤ 122 by unfold lowP at h1; omega)]; exact key
      · simp only [if_neg h3]; exact key

theorem spec_NameOk_ev (s : ByteArray) (hn : s.size < 4611686018427387904) : Ev (fun k => spec_NameOk.f k s) (nameB (bytesOf s)) := spec_NameOk_l0 s hn s.size 0 (by omega)

open Classical in
theorem spec_l2Text_l0 (s : ByteArray) (hs : s.size < 4611686018427387904) : ∀ (d i : Nat), i + d = s.size → Ev (fun k => spec_l2Text.l0 k s (i : Int)) (decide ((∀ c ∈ (bytesOf s).drop i, seenP c) ∧ (s.size : Int) ≤ 60)) := by
  have hlen := bytesOf_length s
  intro d
  induction d with
  | zero =>
    intro i hi
    refine Ev.step (fun k => spec_l2Text.l0.eq_2 _ _ _) ?_
    simp only [if_neg (show ¬ ((i : Int) < (s.size : Int)) by omega)]
    refine ev_prop ?_ (Ev.now _)
    rw [List.drop_eq_nil_of_le (by omega)]
    exact ⟨fun h => ⟨fun c hc => by simp at hc, h⟩, fun h => h.2⟩
  | succ d ih =>
    intro i hi
    refine Ev.step (fun k => spec_l2Text.l0.eq_2 _ _ _) ?_
    simp only [if_pos (show ((i : Int) < (s.size : Int)) by omega), if_pos (show 0 ≤ (i : Int) by omega), bt_wrap s i (by omega), spec_l1In_eq, Option.bind_some, decide_eq_true_eq, wsucc i (by omega)]
    have e := List.drop_eq_getElem_cons (l := bytesOf s) (i := i) (by omega)
    by_cases hw : 32 ≤ (bytesOf s)[i] ∧ (bytesOf s)[i] ≤ 126
    · simp only [if_pos hw]
      refine ev_prop ?_ (ih (i + 1) (by omega))
      rw [e]
      constructor
      · rintro ⟨h1, h2⟩
        exact ⟨fun c hc => by rcases List.mem_cons.1 hc with h | h; exact h ▸ hw; exact h1 c h, h2⟩
      · rintro ⟨h1, h2⟩
        exact ⟨fun c hc => h1 c (List.mem_cons_of_mem _ hc), h2⟩
    · simp only [if_neg hw]
      refine ev_false (fun h => hw (h.1 _ ?_)) (Ev.now _)
      rw [e]; exact List.mem_cons_self ..

theorem spec_l2Text_ev (s : ByteArray) (hs : s.size < 4611686018427387904) : Ev (fun k => spec_l2Text.f k s) (plainB s 60) := by
  simp only [spec_l2Text.f, plainB]
  exact spec_l2Text_l0 s hs s.size 0 (by omega)

open Classical in
theorem spec_l2Form_l0 (key : ByteArray) (l : List S96) (hk : key.size ≤ 1048576) (hn : l.length ≤ 1048576) (hs : ∀ x ∈ l, x.f0.size ≤ 1048576 ∧ x.f1.size ≤ 1048576) : ∀ (d i : Nat), i + d = l.length →
    Ev (fun k => spec_l2Form.l0 k (i : Int) key l) (decide (formFrom key l i)) := by
  intro d
  induction d with
  | zero =>
    intro i hi
    refine Ev.step (fun k => spec_l2Form.l0.eq_2 _ _ _ _) ?_
    simp only [if_neg (show ¬ ((i : Int) < (l.length : Int)) by omega)]
    refine ev_prop (formFrom_end (by omega)).symm ?_
    refine Ev.bind (spec_NameOk_ev key (by omega)) ?_
    cases hnm : nameB (bytesOf key) with
    | false => simp only [if_neg (show ¬ (false = true) by decide)]; exact ev_false (fun h => by cases h.1) (Ev.now _)
    | true =>
      simp only [if_true]
      exact ev_prop ⟨fun h => ⟨(by first | trivial | rfl), by omega⟩, fun h => by have := h.2; omega⟩ (Ev.now _)
  | succ d ih =>
    intro i hi
    have hst := formFrom_step (key := key) (l := l) (j := i) (by omega)
    have hsz := hs l[i] (List.getElem_mem _)
    have hnext := ih (i + 1) (by omega)
    refine Ev.step (fun k => spec_l2Form.l0.eq_2 _ _ _ _) ?_
    simp only [if_pos (show ((i : Int) < (l.length : Int)) by omega), if_pos (show 0 ≤ (i : Int) by omega), rdi_Cell l i (by omega), wsucc i (by omega)]
    refine Ev.bind (spec_NameOk_ev l[i].f0 (by omega)) ?_
    cases hnm : nameB (bytesOf l[i].f0) with
    | false => simp only [if_neg (show ¬ (false = true) by decide)]; exact ev_false (fun h => by have := (hst.1 h).1.1; rw [hnm] at this; cases this) (Ev.now _)
    | true =>
      simp only [if_true]
      refine Ev.bind (spec_l2Text_ev l[i].f1 (by omega)) ?_
      cases htx : plainB l[i].f1 60 with
      | false => simp only [if_neg (show ¬ (false = true) by decide)]; exact ev_false (fun h => by have := (hst.1 h).1.2.1; rw [htx] at this; cases this) (Ev.now _)
      | true =>
        simp only [if_true]
        by_cases h0 : (i : Int) > 0
        · have he : wrap64 ((i : Int) - 1) = ((i - 1 : Nat) : Int) := by rw [wrap_id (by omega) (by omega)]; omega
          simp only [if_pos h0, he, if_pos (show 0 ≤ ((i - 1 : Nat) : Int) by omega), if_pos (show ((i - 1 : Nat) : Int) < (l.length : Int) by omega), rdi_Cell l (i - 1) (by omega)]
          by_cases hl : lessT (l[i - 1]'(by omega)).f0 l[i].f0
          · have hl2 : Op.bytesLess (l[i - 1]'(by omega)).f0.toList l[i].f0.toList = true := hl
            simp only [hl2, if_true]
            exact ev_prop (hst.trans ⟨fun h => h.2, fun h => ⟨⟨hnm, htx, fun _ => hl⟩, h⟩⟩).symm hnext
          · have hl2 : Op.bytesLess (l[i - 1]'(by omega)).f0.toList l[i].f0.toList = false := Bool.eq_false_iff.2 hl
            simp only [hl2, if_neg (show ¬ (false = true) by decide)]
            exact ev_false (fun h => hl ((hst.1 h).1.2.2 (by omega))) (Ev.now _)
        · simp only [if_neg h0]
          exact ev_prop (hst.trans ⟨fun h => h.2, fun h => ⟨⟨hnm, htx, fun h1 => by omega⟩, h⟩⟩).symm hnext

theorem spec_l2Form_ev (key : ByteArray) (l : List S96) (hk : key.size ≤ 1048576) (hn : l.length ≤ 1048576) (hs : ∀ x ∈ l, x.f0.size ≤ 1048576 ∧ x.f1.size ≤ 1048576) : Ev (fun k => spec_l2Form.f k key l) (formB key l) := spec_l2Form_l0 key l hk hn hs l.length 0 (by omega)

theorem fieldAt_none {n : ByteArray} : ∀ {F : List S79}, (∀ x ∈ F, x.f0 ≠ n) → fieldAt n F = (⟨#[]⟩, 0, 0)
  | [], _ => rfl
  | f :: F, h => by
    rw [fieldAt, if_neg (h f (by simp))]
    exact fieldAt_none (fun x hx => h x (List.mem_cons_of_mem _ hx))

theorem fieldAt_some {n : ByteArray} : ∀ {F : List S79} {j : Nat} (hj : j < F.length), F[j].f0 = n → (∀ m (hm : m < j), F[m].f0 ≠ n) → fieldAt n F = (F[j].f0, F[j].f1, F[j].f2)
  | [], _, hj, _, _ => by simp at hj
  | f :: F, 0, _, h, _ => by
    rw [fieldAt]
    have h' : f.f0 = n := h
    rw [if_pos h']; rfl
  | f :: F, j + 1, hj, h, hb => by
    have h0 : f.f0 ≠ n := hb 0 (by omega)
    rw [fieldAt, if_neg h0]
    exact fieldAt_some (F := F) (j := j) (by simpa using hj) (by simpa using h) (fun m hm => by have := hb (m + 1) (by omega); simpa using this)

def isD (c : UInt8) : Prop := 48 ≤ c.toNat ∧ c.toNat ≤ 57
instance (c : UInt8) : Decidable (isD c) := by unfold isD; infer_instance

def CanonD (l : List UInt8) : Prop := l ≠ [] ∧ (∀ c ∈ l, isD c) ∧ (1 < l.length → l.head? ≠ some 48)

theorem canon_not {l : List UInt8} {i : Nat} (h : i < l.length) (hd : ¬ isD l[i]) : ¬ CanonD l := fun hc => hd (hc.2.1 _ (List.getElem_mem h))

/-- The number that digits spell behind acc. -/
def valD (acc : Nat) (l : List UInt8) : Nat := l.foldl (fun a c => a * 10 + (c.toNat - 48)) acc

theorem valD_append (a : List UInt8) (acc : Nat) (b : List UInt8) : valD acc (a ++ b) = valD (valD acc a) b := by unfold valD; rw [List.foldl_append]

theorem valD_cons (acc : Nat) (c : UInt8) (r : List UInt8) : valD acc (c :: r) = valD (acc * 10 + (c.toNat - 48)) r := by unfold valD; rw [List.foldl_cons]

theorem valD_nil (acc : Nat) : valD acc [] = acc := rfl

theorem valD_step {l : List UInt8} {i : Nat} (h : i < l.length) : valD 0 (l.take (i + 1)) = valD 0 (l.take i) * 10 + (l[i].toNat - 48) := by
  rw [List.take_add_one, List.getElem?_eq_getElem h]
  show valD 0 (l.take i ++ [l[i]]) = _
  rw [valD_append, valD_cons, valD_nil]

theorem bt_u8 (s : ByteArray) (i : Nat) (h : i < s.data.toList.length) : bt s (i : Int) = ((s.data.toList[i]).toNat : Int) := by
  rw [bt_get s i (by rw [bytesOf_length]; exact h)]
  unfold bytesOf
  rw [List.getElem_map]

open Classical in
/-- The number that at most nine figures are; -1 if they are none, more, or have noughts ahead. -/
noncomputable def figB (s : ByteArray) : Int := if CanonD s.data.toList ∧ s.size ≤ 9 then (valD 0 s.data.toList : Int) else -1

theorem valD_lt : ∀ (l : List UInt8) (acc : Nat), (∀ c ∈ l, isD c) → valD acc l < (acc + 1) * 10 ^ l.length
  | [], acc, _ => by rw [valD_nil]; simp
  | c :: l, acc, h => by
    have hc := h c (by simp)
    unfold isD at hc
    have h1 := valD_lt l (acc * 10 + (c.toNat - 48)) (fun x hx => h x (List.mem_cons_of_mem _ hx))
    rw [valD_cons, List.length_cons, Nat.pow_succ, Nat.mul_comm (10 ^ l.length) 10, ← Nat.mul_assoc]
    refine Nat.lt_of_lt_of_le h1 (Nat.mul_le_mul_right _ (by omega))

theorem l1Figures_l0 (s : ByteArray) (hs : s.size ≤ 1099511627776) : ∀ (d i : Nat), i + d = s.size → i ≤ 9 → (∀ c ∈ s.data.toList.take i, isD c) →
    Ev (fun k => spec_l1Figures.l0 k s ((valD 0 (s.data.toList.take i) : Nat) : Int) (i : Int)) (figB s) := by
  have hlen := data_size s
  intro d
  induction d with
  | zero =>
    intro i hi h9 hd
    refine Ev.step (fun k => spec_l1Figures.l0.eq_2 _ _ _ _) ?_
    have et : s.data.toList.take i = s.data.toList := List.take_of_length_le (by omega)
    rw [et] at hd ⊢
    simp only [if_neg (show ¬ ((i : Int) < (s.size : Int)) by omega)]
    by_cases h0 : s.size = 0
    · have e0 : figB s = -1 := by unfold figB; rw [if_neg (fun hc => hc.1.1 (List.length_eq_zero_iff.1 (by omega)))]
      rw [e0]
      simp only [if_pos (show (s.size : Int) = 0 by omega)]
      exact Ev.now _
    · simp only [if_neg (show ¬ (s.size : Int) = 0 by omega)]
      have hne : s.data.toList ≠ [] := fun e => h0 (by rw [← hlen, e]; rfl)
      by_cases h1 : (s.size : Int) > 1
      · have hb := bt_u8 s 0 (by omega)
        have hb0 : bt s 0 = ((s.data.toList[0]'(by omega)).toNat : Int) := hb
        simp only [if_pos h1, if_pos (show 0 < (s.size : Int) by omega), hb0]
        have hh : s.data.toList.head? = some (s.data.toList[0]'(by omega)) := by
          rw [List.head?_eq_getElem?, List.getElem?_eq_getElem]
        by_cases h48 : ((s.data.toList[0]'(by omega)).toNat : Int) = 48
        · have e48 : s.data.toList[0]'(by omega) = 48 := UInt8.toNat_inj.1 (show _ = 48 by omega)
          have e0 : figB s = -1 := by unfold figB; rw [if_neg (fun hc => hc.1.2.2 (by omega) (by rw [hh, e48]))]
          rw [e0]
          simp only [if_pos h48]
          exact Ev.now _
        · have e0 : figB s = ((valD 0 s.data.toList : Nat) : Int) := by unfold figB; rw [if_pos ⟨⟨hne, hd, fun _ he => by rw [hh] at he; exact h48 (by rw [Option.some.inj he]; rfl)⟩, by omega⟩]
          rw [e0]
          simp only [if_neg h48]
          exact Ev.now _
      · have e0 : figB s = ((valD 0 s.data.toList : Nat) : Int) := by unfold figB; rw [if_pos ⟨⟨hne, hd, fun h => by omega⟩, by omega⟩]
        rw [e0]
        simp only [if_neg h1]
        exact Ev.now _
  | succ d ih =>
    intro i hi h9 hd
    have hil : i < s.data.toList.length := by omega
    have hb := bt_u8 s i hil
    refine Ev.step (fun k => spec_l1Figures.l0.eq_2 _ _ _ _) ?_
    simp only [if_pos (show ((i : Int) < (s.size : Int)) by omega), if_pos (show 0 ≤ (i : Int) by omega), hb]
    have hno : ∀ (h : ¬ isD s.data.toList[i]), figB s = -1 := fun h => by unfold figB; rw [if_neg (fun hc => canon_not hil h hc.1)]
    by_cases h1 : ((s.data.toList[i]).toNat : Int) < 48
    · simp only [if_pos h1]
      rw [hno (by unfold isD; omega)]; exact Ev.now _
    · by_cases h2 : ((s.data.toList[i]).toNat : Int) > 57
      · simp only [if_neg h1, if_pos h2]
        rw [hno (by unfold isD; omega)]; exact Ev.now _
      · by_cases h3 : (i : Int) ≥ 9
        · simp only [if_neg h1, if_neg h2, if_pos h3]
          have : figB s = -1 := by unfold figB; rw [if_neg (fun hc => by have := hc.2; omega)]
          rw [this]; exact Ev.now _
        · have hlt := valD_lt (s.data.toList.take i) 0 hd
          have hl1 : (s.data.toList.take i).length = i := by rw [List.length_take]; omega
          rw [hl1] at hlt
          have hp : 10 ^ i ≤ 10 ^ 9 := Nat.pow_le_pow_right (by decide) (by omega)
          have e9 : (10 : Nat) ^ 9 = 1000000000 := by decide
          have hstep := valD_step hil
          have ew : wrap64 (wrap64 (((valD 0 (s.data.toList.take i) : Nat) : Int) * 10) + ((((s.data.toList[i]).toNat : Int) - 48) % 256)) = ((valD 0 (s.data.toList.take (i + 1)) : Nat) : Int) := by
            rw [hstep, wrap_id (x := ((valD 0 (s.data.toList.take i) : Nat) : Int) * 10) (by omega) (by omega), wrap_id (by omega) (by omega)]
            omega
          simp only [if_neg h1, if_neg h2, if_neg h3, ew, wsucc i (by omega)]
          refine ih (i + 1) (by omega) (by omega) (fun c hc => ?_)
          rw [List.take_add_one, List.getElem?_eq_getElem hil] at hc
          rcases List.mem_append.1 hc with h | h
          · exact hd c h
          · have : c = s.data.toList[i] := by simpa using h
            rw [this]; unfold isD; omega

theorem spec_l1Figures_ev (s : ByteArray) (hs : s.size ≤ 1099511627776) : Ev (fun k => spec_l1Figures.f k s) (figB s) := by
  have := l1Figures_l0 s hs s.size 0 (by omega) (by omega) (fun c hc => by simp at hc)
  simpa [spec_l1Figures.f, valD_nil] using this

theorem itoa_nn {n : Int} (h : 0 ≤ n) : Lib.itoa n = Lib.decDigits n.toNat := by unfold Lib.itoa; rw [if_neg (by omega)]

theorem dig_val (v : Nat) (h : v < 10) : (UInt8.ofNat (48 + v)).toNat = 48 + v := by rw [UInt8.toNat_ofNat']; exact Nat.mod_eq_of_lt (by omega)

theorem dec_dig (u : Nat) : ∀ c ∈ Lib.decDigits u, isD c := by
  induction u using Nat.strongRecOn with
  | _ u ih =>
    intro c hc
    unfold isD
    by_cases h : u < 10
    · rw [Lib.decDigits, dif_pos h, List.mem_singleton] at hc
      rw [hc, dig_val u h]; omega
    · rw [Lib.decDigits, dif_neg h] at hc
      rcases List.mem_append.1 hc with h1 | h1
      · exact ih (u / 10) (by omega) c h1
      · rw [List.mem_singleton] at h1
        rw [h1, dig_val (u % 10) (by omega)]; omega

theorem dec_not45 (u : Nat) (t : List UInt8) : Lib.decDigits u ≠ 45 :: t := by
  intro h
  have := dec_dig u 45 (by rw [h]; simp)
  exact absurd this (by decide)

theorem nDigits_le : ∀ (k u : Nat), u < 10 ^ (k + 1) → Lib.nDigits u ≤ k + 1
  | 0, u, h => by rw [Lib.nDigits_small (by simpa using h)]; exact Nat.le_refl _
  | k + 1, u, h => by
    by_cases h1 : u < 10
    · rw [Lib.nDigits_small h1]; omega
    · rw [Lib.nDigits_big h1]
      have := nDigits_le k (u / 10) (by rw [Nat.pow_succ] at h; omega)
      omega

theorem dec_ne (u : Nat) : Lib.decDigits u ≠ [] := by
  intro h
  have h1 := Lib.decDigits_length u
  have h2 := Lib.nDigits_pos u
  rw [h] at h1
  simp at h1; omega

theorem dec_head (u : Nat) : 1 ≤ u → ∀ c r, Lib.decDigits u = c :: r → 49 ≤ c.toNat := by
  induction u using Nat.strongRecOn with
  | _ u ih =>
    intro hu c r he
    by_cases h : u < 10
    · rw [Lib.decDigits, dif_pos h] at he
      have := (List.cons.inj he).1
      rw [← this, dig_val u h]; omega
    · rw [Lib.decDigits, dif_neg h] at he
      obtain ⟨c', r', e'⟩ : ∃ c' r', Lib.decDigits (u / 10) = c' :: r' := by
        cases hd : Lib.decDigits (u / 10) with
        | nil => exact absurd hd (dec_ne _)
        | cons c' r' => exact ⟨c', r', rfl⟩
      have := ih (u / 10) (by omega) (by omega) c' r' e'
      rw [e', List.cons_append] at he
      rw [← (List.cons.inj he).1]; exact this

theorem canon_dec (u : Nat) : CanonD (Lib.decDigits u) := by
  refine ⟨dec_ne u, dec_dig u, fun hl => ?_⟩
  intro he
  have hu : 1 ≤ u := by
    rcases Nat.lt_or_ge u 1 with h | h
    · obtain rfl : u = 0 := by omega
      rw [Lib.decDigits, dif_pos (by omega)] at hl; simp at hl
    · exact h
  cases hd : Lib.decDigits u with
  | nil => exact dec_ne u hd
  | cons c r =>
    have := dec_head u hu c r hd
    rw [hd] at he
    simp at he
    rw [he] at this
    exact absurd this (by decide)

theorem valD_ge : ∀ (l : List UInt8) (acc : Nat), acc ≤ valD acc l
  | [], _ => Nat.le_refl _
  | c :: l, acc => by
    have := valD_ge l (acc * 10 + (c.toNat - 48))
    rw [valD_cons]; omega

theorem dec_of_val : ∀ (n : Nat) (l : List UInt8), l.length = n → CanonD l → Lib.decDigits (valD 0 l) = l
  | 0, l, hn, h => absurd (List.length_eq_zero_iff.1 hn) h.1
  | n + 1, l, hn, h => by
    obtain ⟨a, c, rfl⟩ : ∃ a c, l = a ++ [c] := ⟨l.dropLast, l.getLast h.1, (List.dropLast_concat_getLast h.1).symm⟩
    have hc := h.2.1 c (by simp)
    unfold isD at hc
    have hcc : UInt8.ofNat (48 + (c.toNat - 48)) = c := UInt8.toNat_inj.1 (by rw [dig_val _ (by omega)]; omega)
    have ev : valD 0 (a ++ [c]) = valD 0 a * 10 + (c.toNat - 48) := by rw [valD_append, valD_cons, valD_nil]
    by_cases ha : a = []
    · subst ha
      rw [ev, valD_nil, Nat.zero_mul, Nat.zero_add, Lib.decDigits, dif_pos (by omega), hcc]; rfl
    · obtain ⟨x, r, rfl⟩ : ∃ x r, a = x :: r := by
        cases a with
        | nil => exact absurd rfl ha
        | cons x r => exact ⟨x, r, rfl⟩
      have hx := h.2.1 x (by simp)
      unfold isD at hx
      have hx48 : x ≠ 48 := fun e => h.2.2 (by simp) (by simp [e])
      have hx49 : 49 ≤ x.toNat := by
        rcases Nat.lt_or_ge x.toNat 49 with h1 | h1
        · exact absurd (UInt8.toNat_inj.1 (show x.toNat = (48 : UInt8).toNat by show _ = 48; omega)) hx48
        · exact h1
      have hge := valD_ge r (0 * 10 + (x.toNat - 48))
      have hv : 1 ≤ valD 0 (x :: r) := by rw [valD_cons]; omega
      have hcan : CanonD (x :: r) := ⟨by simp, fun y hy => h.2.1 y (List.mem_append_left _ hy), fun _ => by simpa using hx48⟩
      have ih := dec_of_val n (x :: r) (by simp at hn ⊢; omega) hcan
      rw [ev, Lib.decDigits, dif_neg (by omega), show (valD 0 (x :: r) * 10 + (c.toNat - 48)) / 10 = valD 0 (x :: r) by omega, show (valD 0 (x :: r) * 10 + (c.toNat - 48)) % 10 = c.toNat - 48 by omega, ih, hcc]

theorem dec_val (u : Nat) : valD 0 (Lib.decDigits u) = u := by
  induction u using Nat.strongRecOn with
  | _ u ih =>
    by_cases h : u < 10
    · rw [Lib.decDigits, dif_pos h, valD_cons, valD_nil, dig_val u h]; omega
    · rw [Lib.decDigits, dif_neg h, valD_append, ih (u / 10) (by omega), valD_cons, valD_nil, dig_val (u % 10) (by omega)]; omega

theorem figB_yes {s : ByteArray} {u : Nat} : figB s = (u : Int) ↔ u ≤ 999999999 ∧ Lib.decDigits u = s.data.toList := by
  constructor
  · intro h
    unfold figB at h
    split at h
    · rename_i hc
      have hu : valD 0 s.data.toList = u := by omega
      have hl := valD_lt s.data.toList 0 hc.1.2.1
      have hp : 10 ^ s.data.toList.length ≤ 10 ^ 9 := Nat.pow_le_pow_right (by decide) hc.2
      have e9 : (10 : Nat) ^ 9 = 1000000000 := by decide
      refine ⟨by omega, ?_⟩
      rw [← hu]; exact dec_of_val _ _ rfl hc.1
    · omega
  · rintro ⟨h1, h2⟩
    have hs : s.size ≤ 9 := by
      have h3 := nDigits_le 8 u (by omega)
      rw [← Lib.decDigits_length, h2] at h3; exact h3
    have hcan := canon_dec u
    rw [h2] at hcan
    unfold figB
    rw [if_pos ⟨hcan, hs⟩, ← h2, dec_val]

theorem figB_cases (s : ByteArray) : figB s = -1 ∨ ∃ u : Nat, u ≤ 999999999 ∧ figB s = (u : Int) ∧ Lib.decDigits u = s.data.toList := by
  by_cases h : ∃ u : Nat, figB s = (u : Int)
  · obtain ⟨u, hu⟩ := h
    have := figB_yes.1 hu
    exact Or.inr ⟨u, this.1, hu, this.2⟩
  · refine Or.inl ?_
    unfold figB
    split
    · rename_i hc
      exact absurd ⟨_, show figB s = ((valD 0 s.data.toList : Nat) : Int) by unfold figB; rw [if_pos hc]⟩ h
    · rfl

theorem figB_pos_iff (s : ByteArray) : 0 < figB s ↔ ∃ u : Nat, 1 ≤ u ∧ u ≤ 999999999 ∧ Lib.decDigits u = s.data.toList := by
  constructor
  · intro h
    rcases figB_cases s with h1 | ⟨u, h1, h2, h3⟩
    · omega
    · exact ⟨u, by omega, h1, h3⟩
  · rintro ⟨u, h0, h1, h2⟩
    have := figB_yes.2 (show u ≤ 999999999 ∧ Lib.decDigits u = s.data.toList from ⟨h1, h2⟩)
    omega

theorem itoa_lt {n : Int} (h : n < 0) : Lib.itoa n = 45 :: Lib.decDigits n.natAbs := by unfold Lib.itoa; rw [if_pos h]

theorem parse_val : ∀ (l : List UInt8) (acc : Nat), (∀ c ∈ l, isD c) → valD acc l < 1844674407370955162 → Lib.parseUint10 acc l = .ok (valD acc l)
  | [], _, _, _ => rfl
  | c :: r, acc, h, hv => by
    have hc := h c (by simp)
    unfold isD at hc
    rw [valD_cons] at hv
    have hg := valD_ge r (acc * 10 + (c.toNat - 48))
    rw [Lib.parseUint10, if_pos hc, if_neg (by omega), if_neg (by omega), parse_val r _ (fun x hx => h x (List.mem_cons_of_mem _ hx)) hv, valD_cons]

theorem mag_dec (u : Nat) (h : u ≤ 999999999999) : Lib.parseMag (Lib.decDigits u) = .ok u := by
  unfold Lib.parseMag
  rw [if_neg (dec_ne u), parse_val _ 0 (dec_dig u) (by rw [dec_val]; omega), dec_val]

theorem atoi_dec (u : Nat) (h : u ≤ 999999999999) : Lib.atoiAll (Lib.decDigits u) = .ok (u : Int) := by
  obtain ⟨c, r, e⟩ : ∃ c r, Lib.decDigits u = c :: r := by
    cases hd : Lib.decDigits u with
    | nil => exact absurd hd (dec_ne _)
    | cons c r => exact ⟨c, r, rfl⟩
  have hc := dec_dig u c (by rw [e]; simp)
  unfold isD at hc
  have hm := mag_dec u h
  rw [e] at hm ⊢
  rw [Lib.atoiAll_plain c r (by omega) (by omega), hm]
  simp only [Lib.signless, if_neg (show ¬ 9223372036854775808 ≤ u by omega)]

theorem atoi_neg (u : Nat) (h : u ≤ 999999999999) : Lib.atoiAll (45 :: Lib.decDigits u) = .ok (-(u : Int)) := by
  rw [Lib.atoiAll_minus, mag_dec u h]
  simp only [Lib.signed, if_neg (show ¬ 9223372036854775808 < u by omega)]

theorem atoi_itoa (n : Int) (h0 : -999999999999 ≤ n) (h1 : n ≤ 999999999999) : Lib.atoiAll (Lib.itoa n) = .ok n := by
  unfold Lib.itoa
  by_cases h : n < 0
  · rw [if_pos h, atoi_neg _ (by omega)]; congr 1; omega
  · rw [if_neg h, atoi_dec _ (by omega)]; congr 1; omega

theorem numB_yes {s : ByteArray} {n : Int} : numB s = (n, true) ↔ -999999999 ≤ n ∧ n ≤ 999999999 ∧ Lib.itoa n = s.data.toList := by
  constructor
  · intro h
    unfold numB at h
    split at h
    · split at h
      · rename_i hc; rw [← (Prod.mk.inj h).1]; exact hc
      · cases (Prod.mk.inj h).2
    · cases (Prod.mk.inj h).2
  · rintro ⟨h0, h1, h2⟩
    unfold numB
    rw [← h2, atoi_itoa n (by omega) (by omega)]
    simp only [if_pos (show -999999999 ≤ n ∧ n ≤ 999999999 ∧ True from ⟨h0, h1, trivial⟩)]

theorem numB_ok_iff (s : ByteArray) : (numB s).2 = true ↔ ∃ n : Int, -999999999 ≤ n ∧ n ≤ 999999999 ∧ Lib.itoa n = s.data.toList := by
  constructor
  · intro h
    exact ⟨(numB s).1, numB_yes.1 (by rw [← h])⟩
  · rintro ⟨n, h⟩
    rw [numB_yes.2 h]

theorem num_ok_neg (s r : ByteArray) (h : s.data.toList = 45 :: r.data.toList) : (numB s).2 = true ↔ 0 < figB r := by
  rw [numB_ok_iff, figB_pos_iff]
  constructor
  · rintro ⟨n, h0, h1, h2⟩
    rw [h] at h2
    by_cases hn : n < 0
    · rw [itoa_lt hn] at h2
      exact ⟨n.natAbs, by omega, by omega, (List.cons.inj h2).2⟩
    · rw [itoa_nn (by omega)] at h2
      exact absurd h2 (dec_not45 _ _)
  · rintro ⟨u, h0, h1, h2⟩
    refine ⟨-(u : Int), by omega, by omega, ?_⟩
    rw [itoa_lt (by omega), h, ← h2]
    congr 2; omega

theorem figB_nn_iff (s : ByteArray) : 0 ≤ figB s ↔ ∃ u : Nat, u ≤ 999999999 ∧ Lib.decDigits u = s.data.toList := by
  constructor
  · intro h
    rcases figB_cases s with h1 | ⟨u, h1, h2, h3⟩
    · omega
    · exact ⟨u, h1, h3⟩
  · rintro ⟨u, h1, h2⟩
    have := figB_yes.2 (show u ≤ 999999999 ∧ Lib.decDigits u = s.data.toList from ⟨h1, h2⟩)
    omega

theorem num_ok_pos (s : ByteArray) (h : ∀ t, s.data.toList = 45 :: t → t = []) : (numB s).2 = true ↔ 0 ≤ figB s := by
  rw [numB_ok_iff, figB_nn_iff]
  constructor
  · rintro ⟨n, h0, h1, h2⟩
    by_cases hn : n < 0
    · rw [itoa_lt hn] at h2
      exact absurd (h _ h2.symm) (dec_ne _)
    · rw [itoa_nn (by omega)] at h2
      exact ⟨n.toNat, by omega, h2⟩
  · rintro ⟨u, h1, h2⟩
    exact ⟨(u : Int), by omega, by omega, by rw [itoa_nn (by omega)]; exact h2⟩

theorem spec_l1Number_ev (s : ByteArray) (hs : s.size ≤ 1048576) : ∃ v, Ev (fun k => spec_l1Number.f k s) (v, (numB s).2) := by
  have hlen := data_size s
  simp only [spec_l1Number.f]
  have pos : (∀ t, s.data.toList = 45 :: t → t = []) → ∃ v, Ev (fun k => spec_l1Number.j0 k s false) (v, (numB s).2) := by
    intro h
    refine ⟨figB s, Ev.step (fun k => spec_l1Number.j0.eq_2 _ _ _) ?_⟩
    simp only [if_neg (show ¬ (false = true) by decide)]
    refine Ev.bind (spec_l1Figures_ev s (by omega)) ?_
    have e : decide (figB s ≥ 0) = (numB s).2 := by
      rw [Bool.eq_iff_iff, decide_eq_true_eq]
      exact (num_ok_pos s h).symm
    rw [e]; exact Ev.now _
  by_cases h1 : (s.size : Int) > 1
  · have hb : bt s 0 = ((s.data.toList[0]'(by omega)).toNat : Int) := bt_u8 s 0 (by omega)
    simp only [if_pos h1, if_pos (show 0 < (s.size : Int) by omega), hb]
    obtain ⟨x, r, hx⟩ : ∃ x r, s.data.toList = x :: r := by
      cases hd : s.data.toList with
      | nil => rw [hd] at hlen; simp at hlen; omega
      | cons x r => exact ⟨x, r, rfl⟩
    have h0 : s.data.toList[0]'(by omega) = x := by simp [hx]
    rw [h0]
    by_cases h45 : (x.toNat : Int) = 45
    · have e45 : ((x.toNat : Int) == 45) = true := by simpa using h45
      have ex : x = 45 := UInt8.toNat_inj.1 (show _ = 45 by omega)
      subst ex
      have hr : (s.extract 1 s.size).data.toList = r := by
        rw [Lib.extract_data, hx, List.drop_succ_cons, List.drop_zero]
        apply List.take_of_length_le
        rw [hx, List.length_cons] at hlen
        omega
      have hz : (s.extract 1 s.size).size ≤ 1048576 := by rw [ByteArray.size_extract]; omega
      rw [e45]
      refine ⟨wrap64 (-figB (s.extract 1 s.size)), Ev.step (fun k => spec_l1Number.j0.eq_2 _ _ _) ?_⟩
      simp only [if_true, if_pos (show 1 ≤ (s.size : Int) by omega)]
      refine Ev.bind (spec_l1Figures_ev _ (by omega)) ?_
      have e : decide (figB (s.extract 1 s.size) > 0) = (numB s).2 := by
        rw [Bool.eq_iff_iff, decide_eq_true_eq]
        exact (num_ok_neg s (s.extract 1 s.size) (by rw [hr, hx])).symm
      rw [e]; exact Ev.now _
    · have e45 : ((x.toNat : Int) == 45) = false := by simpa using h45
      rw [e45]
      exact pos (fun t ht => absurd (show (x.toNat : Int) = 45 by rw [hx] at ht; rw [(List.cons.inj ht).1]; rfl) h45)
  · simp only [if_neg h1]
    exact pos (fun t ht => by
      rw [ht, List.length_cons] at hlen
      exact List.length_eq_zero_iff.1 (by omega))

/-- A text cut at the first n bytes c. -/
def cutT (c : UInt8) (n : Nat) (s : ByteArray) : List ByteArray := (cutW c n [] s.data.toList).map mkT

theorem cutW_more (c : UInt8) : ∀ (l : List UInt8) (n : Nat) (acc : List UInt8), l.count c ≤ n → cutW c n acc l = cutW c (l.count c) acc l
  | [], n, acc, _ => by simp [cutW]
  | x :: xs, n, acc, h => by
    by_cases hx : x = c
    · subst hx
      rw [List.count_cons_self] at h ⊢
      obtain ⟨m, rfl⟩ : ∃ m, n = m + 1 := ⟨n - 1, by omega⟩
      rw [cutW, cutW, if_pos rfl, if_pos rfl, cutW_more x xs m [] (by omega)]
    · have e : (x :: xs).count c = xs.count c := List.count_cons_of_ne (by simpa using hx)
      rw [e] at h ⊢
      have h1 := cutW_more c xs n (acc ++ [x]) h
      have e0 : ∀ k, cutW c k acc (x :: xs) = cutW c k (acc ++ [x]) xs := by
        intro k
        have := cutW_run c [x] k acc xs (by simpa using fun h => hx h.symm)
        exact this
      rw [e0, e0, h1]

theorem cutT_all (c : UInt8) (s : ByteArray) : cutT c (s.size + 1) s = splitT c s := by
  unfold cutT splitT
  have h : s.data.toList.count c ≤ s.data.toList.length := List.count_le_length
  rw [data_size] at h
  rw [cutW_more c _ (s.size + 1) [] (by omega)]

theorem spec_l2Add_l0 (s : ByteArray) (l : List ByteArray) (hn : l.length ≤ 1099511627776) : ∀ (d i : Nat), i + d = l.length → Ev (fun k => spec_l2Add.l0 k l s (i : Int)) (l.take i ++ insB s (l.drop i)) := by
  intro d
  induction d with
  | zero =>
    intro i hi
    refine Ev.step (fun k => spec_l2Add.l0.eq_2 _ _ _ _) ?_
    have e1 : l.take i = l := List.take_of_length_le (by omega)
    have e2 : l.drop i = [] := List.drop_eq_nil_of_le (by omega)
    simp only [if_neg (show ¬ ((i : Int) < (l.length : Int)) by omega), Option.bind_some, if_pos (show 0 ≤ (i : Int) by omega), if_pos (show (i : Int) ≤ (l.length : Int) by omega), toNat_cast, e1, e2, insB, List.nil_append, List.length_nil, Nat.zero_add, if_pos (show l.length < 8796093022208 by omega), List.length_cons, List.length_append, Nat.add_zero, if_pos (show l.length + 1 < 8796093022208 by omega), List.append_nil]
    exact Ev.now _
  | succ d ih =>
    intro i hi
    have hil : i < l.length := by omega
    have ed : l.drop i = l[i] :: l.drop (i + 1) := drop_get l i hil
    refine Ev.step (fun k => spec_l2Add.l0.eq_2 _ _ _ _) ?_
    simp only [if_pos (show ((i : Int) < (l.length : Int)) by omega), if_pos (show 0 ≤ (i : Int) by omega), rdOf_get _ l i hil, toList_inj, wsucc i (by omega)]
    by_cases h1 : Op.bytesLess l[i].toList s.toList = true
    · simp only [if_pos h1]
      have e : l.take i ++ insB s (l.drop i) = l.take (i + 1) ++ insB s (l.drop (i + 1)) := by
        rw [ed, insB, if_pos h1, List.take_add_one, List.getElem?_eq_getElem hil, List.append_assoc]; rfl
      rw [e]
      exact ih (i + 1) (by omega)
    · simp only [if_neg h1]
      by_cases h2 : l[i] = s
      · simp only [if_pos h2]
        have e : l.take i ++ insB s (l.drop i) = l := by rw [ed, insB, if_neg h1, if_pos h2, ← ed, List.take_append_drop]
        rw [e]; exact Ev.now _
      · have lt : (l.take i).length = i := by rw [List.length_take]; omega
        have ld : (l.drop i).length = l.length - i := List.length_drop
        simp only [if_neg h2, Option.bind_some, if_pos (show (i : Int) ≤ (l.length : Int) by omega), toNat_cast, List.nil_append, List.length_nil, Nat.zero_add, lt, if_pos (show i < 8796093022208 by omega), List.length_cons, List.length_append, Nat.add_zero, if_pos (show i + 1 < 8796093022208 by omega), ld, if_pos (show i + 1 + (l.length - i) < 8796093022208 by omega)]
        have e : l.take i ++ insB s (l.drop i) = l.take i ++ [s] ++ l.drop i := by rw [ed, insB, if_neg h1, if_neg h2, List.append_assoc]; rfl
        rw [e]; exact Ev.now _

theorem spec_l2Add_ev (s : ByteArray) (l : List ByteArray) (hn : l.length ≤ 1099511627776) : Ev (fun k => spec_l2Add.f k l s) (insB s l) := by
  have := spec_l2Add_l0 s l hn l.length 0 (by omega)
  simpa [spec_l2Add.f] using this

open Classical in
theorem spec_l2Tags_l0 (L : List ByteArray) (hL : L.length ≤ 1048577) (hx : ∀ x ∈ L, x.size ≤ 1048576) : ∀ (d i : Nat) (acc : List ByteArray), i + d = L.length → acc.length ≤ i →
    Ev (fun k => spec_l2Tags.l0 k acc L (i : Int)) (if namesP (L.drop i) then (insAllB acc (L.drop i), decide (L.length ≤ 4)) else ([], false)) := by
  intro d
  induction d with
  | zero =>
    intro i acc hi ha
    refine Ev.step (fun k => spec_l2Tags.l0.eq_2 _ _ _ _) ?_
    simp only [if_neg (show ¬ ((i : Int) < (L.length : Int)) by omega)]
    rw [List.drop_eq_nil_of_le (by omega), if_pos (show namesP [] from fun x hx => by simp at hx)]
    have e : decide ((L.length : Int) ≤ 4) = decide (L.length ≤ 4) := decide_eq_decide.2 ⟨fun h => by omega, fun h => by omega⟩
    rw [e]
    exact Ev.now _
  | succ d ih =>
    intro i acc hi ha
    have hil : i < L.length := by omega
    have hxi := hx L[i] (List.getElem_mem _)
    have hl2 := insB_length L[i] acc
    refine Ev.step (fun k => spec_l2Tags.l0.eq_2 _ _ _ _) ?_
    simp only [if_pos (show ((i : Int) < (L.length : Int)) by omega), if_pos (show 0 ≤ (i : Int) by omega), rdOf_get _ L i hil, wsucc i (by omega)]
    refine Ev.bind (spec_NameOk_ev L[i] (by omega)) ?_
    rw [drop_get L i hil]
    cases hnm : nameB (bytesOf L[i]) with
    | false =>
      simp only [if_neg (show ¬ (false = true) by decide)]
      rw [if_neg (fun h => by have := (namesP_cons.1 h).1; rw [hnm] at this; cases this)]
      exact Ev.now _
    | true =>
      simp only [if_true]
      refine Ev.bind (spec_l2Add_ev L[i] acc (by omega)) ?_
      have h := ih (i + 1) (insB L[i] acc) (by omega) (by omega)
      rw [insAllB_cons]
      by_cases hp : namesP (L.drop (i + 1))
      · rw [if_pos hp] at h
        rw [if_pos (namesP_cons.2 ⟨hnm, hp⟩)]
        exact h
      · rw [if_neg hp] at h
        rw [if_neg (fun h2 => hp (namesP_cons.1 h2).2)]
        exact h

open Classical in
noncomputable def tagsRes (s : ByteArray) : List ByteArray × Bool := if namesP (splitT 44 s) then (insAllB [] (splitT 44 s), decide ((splitT 44 s).length ≤ 4)) else ([], false)

theorem extract_mkT (s : ByteArray) (a b : Nat) : s.extract a b = mkT ((s.data.toList.drop a).take (b - a)) := by
  rw [← mkT_data (s.extract a b), Lib.extract_data]

theorem take_rest (l : List UInt8) {f i : Nat} (hf : f ≤ i) : (l.drop f).take (i - f) ++ l.drop i = l.drop f := by
  have := List.take_append_drop (i - f) (l.drop f)
  rw [List.drop_drop, show f + (i - f) = i by omega] at this
  exact this

theorem take_step {l : List UInt8} {f i : Nat} (hf : f ≤ i) (hi : i < l.length) : (l.drop f).take (i + 1 - f) = (l.drop f).take (i - f) ++ [l[i]] := by
  have e : i + 1 - f = (i - f) + 1 := by omega
  rw [e, List.take_add_one, List.getElem?_drop, show f + (i - f) = i by omega, List.getElem?_eq_getElem hi]; rfl

theorem u8_eq_iff (a b : UInt8) : ((a.toNat : Int) = (b.toNat : Int)) ↔ a = b := ⟨fun h => UInt8.toNat_inj.1 (by omega), fun h => by rw [h]⟩

theorem l1Cut_l0 (c : UInt8) (s : ByteArray) (hs : s.size ≤ 1099511627776) (most : Nat) : ∀ (d i f n : Nat) (out : List ByteArray), i + d = s.size → f ≤ i → out.length + n = most → out.length ≤ i →
    Ev (fun k => spec_l1Cut.l0 k s (c.toNat : Int) (most : Int) out (f : Int) (i : Int)) (out ++ (cutW c n ((s.data.toList.drop f).take (i - f)) (s.data.toList.drop i)).map mkT) := by
  have hlen := data_size s
  have fin : ∀ (i f : Nat) (out : List ByteArray), f ≤ i → i ≤ s.size → out.length ≤ i → ∀ k, spec_l1Cut.j1 (k + 1) s (c.toNat : Int) (most : Int) out (f : Int) (i : Int) false = some (out ++ [mkT (s.data.toList.drop f)]) := by
    intro i f out hf hi ho k
    have e := extract_mkT s f s.size
    rw [List.take_of_length_le (by rw [List.length_drop]; omega)] at e
    rw [spec_l1Cut.j1.eq_2]
    simp only [if_neg (show ¬ (false = true) by decide), if_pos (show 0 ≤ (f : Int) by omega), if_pos (show (f : Int) ≤ (s.size : Int) by omega), if_pos (show out.length < 8796093022208 by omega), toNat_cast, e]
  have finE : ∀ (i f : Nat) (out : List ByteArray), f ≤ i → i ≤ s.size → out.length ≤ i → Ev (fun k => spec_l1Cut.j1 k s (c.toNat : Int) (most : Int) out (f : Int) (i : Int) false) (out ++ [mkT (s.data.toList.drop f)]) := by
    intro i f out hf hi ho
    refine ⟨1, fun k hk => ?_⟩
    obtain ⟨k, rfl⟩ : ∃ m, k = m + 1 := ⟨k - 1, by omega⟩
    exact fin i f out hf hi ho k
  intro d
  induction d with
  | zero =>
    intro i f n out hi hf hn ho
    refine Ev.step (fun k => spec_l1Cut.l0.eq_2 _ _ _ _ _ _ _) ?_
    simp only [if_neg (show ¬ ((i : Int) < (s.size : Int)) by omega)]
    have e := take_rest s.data.toList hf
    have e0 : s.data.toList.drop i = [] := List.drop_eq_nil_of_le (by omega)
    rw [e0, List.append_nil] at e
    have hc : cutW c n ((s.data.toList.drop f).take (i - f)) (s.data.toList.drop i) = [s.data.toList.drop f] := by
      rw [e0, e]; cases n <;> rfl
    rw [hc]
    exact finE i f out hf (by omega) ho
  | succ d ih =>
    intro i f n out hi hf hn ho
    refine Ev.step (fun k => spec_l1Cut.l0.eq_2 _ _ _ _ _ _ _) ?_
    simp only [if_pos (show ((i : Int) < (s.size : Int)) by omega)]
    cases n with
    | zero =>
      rw [decide_eq_false (show ¬ (out.length : Int) < (most : Int) by omega), cutW_zero, take_rest _ hf]
      exact finE i f out hf (by omega) ho
    | succ n =>
      rw [decide_eq_true (show (out.length : Int) < (most : Int) by omega)]
      refine Ev.step (fun k => spec_l1Cut.j1.eq_2 _ _ _ _ _ _ _ _) ?_
      have hil : i < s.data.toList.length := by omega
      have ed : s.data.toList.drop i = s.data.toList[i] :: s.data.toList.drop (i + 1) := List.drop_eq_getElem_cons hil
      rw [ed]
      simp only [if_true, if_pos (show 0 ≤ (i : Int) by omega), if_pos (show ((i : Int) < (s.size : Int)) by omega), bt_u8 s i hil, u8_eq_iff, wsucc i (by omega)]
      by_cases hb : s.data.toList[i] = c
      · have e := extract_mkT s f i
        rw [cutW, if_pos hb]
        simp only [if_pos hb, if_pos (show 0 ≤ (f : Int) by omega), if_pos (show (f : Int) ≤ (i : Int) by omega), if_pos (show (i : Int) ≤ (s.size : Int) by omega), if_pos (show out.length < 8796093022208 by omega), toNat_cast, e]
        have h := ih (i + 1) (i + 1) n (out ++ [mkT ((s.data.toList.drop f).take (i - f))]) (by omega) (Nat.le_refl _) (by simp; omega) (by simp; omega)
        rw [Nat.sub_self, List.take_zero, List.append_assoc] at h
        exact h
      · rw [cutW, if_neg hb]
        simp only [if_neg hb]
        have h := ih (i + 1) f (n + 1) out (by omega) (by omega) hn (by omega)
        rw [take_step hf hil] at h
        exact h

theorem spec_l1Cut_ev (c : UInt8) (n : Nat) (s : ByteArray) (hs : s.size ≤ 1099511627776) : Ev (fun k => spec_l1Cut.f k s (c.toNat : Int) (n : Int)) (cutT c n s) := by
  simp only [spec_l1Cut.f, cutT]
  have := l1Cut_l0 c s hs n s.size 0 0 n [] (by omega) (Nat.le_refl _) (by simp) (by simp)
  simpa using this

theorem spec_l2Tags_ev (s : ByteArray) (hs : s.size ≤ 1048576) : Ev (fun k => spec_l2Tags.f k s) (tagsRes s) := by
  have hlen := splitT_length 44 s
  simp only [spec_l2Tags.f, wsucc s.size (by omega)]
  have h1 := spec_l1Cut_ev 44 (s.size + 1) s (by omega)
  rw [cutT_all] at h1
  refine Ev.bind h1 ?_
  have h := spec_l2Tags_l0 (splitT 44 s) (by omega) (fun x hx => by have := splitT_size hx; omega) (splitT 44 s).length 0 [] (by omega) (by simp)
  rw [List.drop_zero] at h
  exact h

theorem tagsRes_ok (s : ByteArray) : (tagsRes s).2 = true ↔ tagsP s := by
  unfold tagsRes tagsP
  split
  · rename_i h
    simp only [decide_eq_true_eq]
    exact ⟨fun h2 => ⟨h, h2⟩, fun h2 => h2.2⟩
  · rename_i h
    exact ⟨(fun h2 => by cases h2), fun h2 => absurd h2.1 h⟩

open Classical in
theorem spec_l2Cell_ev (a : ByteArray) (b c : Int) (s : ByteArray) (hs : s.size ≤ 1048576) : Ev (fun k => spec_l2Cell.f k a b c s) (decide (plainB s 60 = true ∧ cellK b s)) := by
  obtain ⟨v, hv⟩ := spec_l1Number_ev s hs
  have ht := tagsRes_ok s
  simp only [spec_l2Cell.f]
  refine Ev.bind hv ?_
  refine Ev.bind (spec_l2Tags_ev s hs) ?_
  refine Ev.bind (spec_l2Text_ev s (by omega)) ?_
  unfold cellK
  cases hp : plainB s 60 with
  | false => simp only [if_neg (show ¬ (false = true) by decide)]; exact ev_falseI (fun h => by cases h.1) (Ev.now _)
  | true =>
    simp only [if_true]
    have third : Ev (fun _ : Nat => some ((tagsRes s).2)) (decide (tagsP s)) := by
      have e : (tagsRes s).2 = decide (tagsP s) := by rw [Bool.eq_iff_iff, decide_eq_true_eq]; exact ht
      rw [e]; exact Ev.now _
    by_cases h1 : b = 1
    · simp only [if_pos h1]; exact ev_trueI ⟨(by first | trivial | rfl), Or.inl h1⟩ (Ev.now _)
    · simp only [if_neg h1]
      by_cases h2 : b = 2
      · simp only [if_pos h2]
        cases hn : (numB s).2 with
        | true => simp only [if_true]; exact ev_trueI ⟨(by first | trivial | rfl), Or.inr (Or.inl ⟨h2, (by first | trivial | rfl)⟩)⟩ (Ev.now _)
        | false =>
          simp only [if_neg (show ¬ (false = true) by decide), if_neg (show ¬ b = 3 by omega)]
          refine ev_falseI (fun h => ?_) (Ev.now _)
          rcases h.2 with h | ⟨_, h⟩ | ⟨h, _⟩
          · exact h1 h
          · first | exact absurd h (by simp) | cases h
          · omega
      · simp only [if_neg h2]
        by_cases h3 : b = 3
        · simp only [if_pos h3]
          refine ev_propI ?_ third
          exact ⟨fun h => ⟨(by first | trivial | rfl), Or.inr (Or.inr ⟨h3, h⟩)⟩, fun h => by
            rcases h.2 with h | ⟨h, _⟩ | ⟨_, h⟩
            · exact absurd h h1
            · exact absurd h h2
            · exact h⟩
        · simp only [if_neg h3]
          refine ev_falseI (fun h => ?_) (Ev.now _)
          rcases h.2 with h | ⟨h, _⟩ | ⟨h, _⟩
          · exact h1 h
          · exact h2 h
          · exact h3 h

theorem spec_l2Field_l0 (l : List S79) (n : ByteArray) (hn : l.length < 4611686018427387904) : ∀ (d i : Nat), i + d = l.length → (∀ m (hm : m < l.length), m < i → l[m].f0 ≠ n) →
    ∃ r, Ev (fun k => spec_l2Field.l0 k l n (i : Int)) r ∧ ((r = -1 ∧ ∀ x ∈ l, x.f0 ≠ n) ∨ ∃ (j : Nat) (hj : j < l.length), r = (j : Int) ∧ l[j].f0 = n ∧ ∀ m (hm : m < j), l[m].f0 ≠ n) := by
  intro d
  induction d with
  | zero =>
    intro i hi hb
    refine ⟨-1, Ev.step (fun k => spec_l2Field.l0.eq_2 _ _ _ _) ?_, .inl ⟨rfl, fun x hx => ?_⟩⟩
    · simp only [if_neg (show ¬ ((i : Int) < (l.length : Int)) by omega)]; exact Ev.now _
    · obtain ⟨m, hm, rfl⟩ := List.mem_iff_getElem.1 hx
      exact hb m hm (by omega)
  | succ d ih =>
    intro i hi hb
    by_cases h : l[i].f0 = n
    · refine ⟨(i : Int), Ev.step (fun k => spec_l2Field.l0.eq_2 _ _ _ _) ?_, .inr ⟨i, by omega, rfl, h, fun m hm => hb m (by omega) hm⟩⟩
      simp only [if_pos (show ((i : Int) < (l.length : Int)) by omega), if_pos (show 0 ≤ (i : Int) by omega), rdi_Field l i (by omega), toList_inj, if_pos h]
      exact Ev.now _
    · obtain ⟨r, hr, hq⟩ := ih (i + 1) (by omega) (fun m hm hlt => by
        rcases Nat.lt_or_ge m i with h1 | h1
        · exact hb m hm h1
        · obtain rfl : m = i := by omega
          exact h)
      refine ⟨r, Ev.step (fun k => spec_l2Field.l0.eq_2 _ _ _ _) ?_, hq⟩
      simp only [if_pos (show ((i : Int) < (l.length : Int)) by omega), if_pos (show 0 ≤ (i : Int) by omega), rdi_Field l i (by omega), toList_inj, if_neg h, wsucc i (by omega)]
      exact hr

theorem spec_l2Field_ev (l : List S79) (n : ByteArray) (hn : l.length < 4611686018427387904) :
    ∃ r, Ev (fun k => spec_l2Field.f k l n) r ∧ ((r = -1 ∧ ∀ x ∈ l, x.f0 ≠ n) ∨ ∃ (j : Nat) (hj : j < l.length), r = (j : Int) ∧ l[j].f0 = n ∧ ∀ m (hm : m < j), l[m].f0 ≠ n) :=
  spec_l2Field_l0 l n hn l.length 0 (by omega) (fun m hm h => absurd h (by omega))

open Classical in
theorem spec_FieldsOk_l0 (l : List S79) (hn : l.length ≤ 1048577) (hs : ∀ x ∈ l, x.f0.size ≤ 1048576) : ∀ (d i : Nat), i + d = l.length → Ev (fun k => spec_FieldsOk.l0 k l (i : Int)) (decide (fieldsFrom l i)) := by
  intro d
  induction d with
  | zero =>
    intro i hi
    refine Ev.step (fun k => spec_FieldsOk.l0.eq_2 _ _ _) ?_
    simp only [if_neg (show ¬ ((i : Int) < (l.length : Int)) by omega), spec_l1In_eq, Option.bind_some]
    refine ev_prop (fieldsFrom_end (by omega)).symm ?_
    refine ev_eq fun _ => ?_
    congr 1; exact decide_eq_decide.2 (by omega)
  | succ d ih =>
    intro i hi
    have hst := fieldsFrom_step (l := l) (j := i) (by omega)
    have hsz := hs l[i] (List.getElem_mem _)
    refine Ev.step (fun k => spec_FieldsOk.l0.eq_2 _ _ _) ?_
    simp only [if_pos (show ((i : Int) < (l.length : Int)) by omega), if_pos (show 0 ≤ (i : Int) by omega), rdi_Field l i (by omega), spec_l1In_eq, Option.bind_some]
    have hj2 : ∀ (t o : Bool), ((t || o) = true ↔ fieldP l[i]) → Ev (fun k => spec_FieldsOk.j2 k l (i : Int) t o l[i].f0 l[i].f1 l[i].f2) (decide (fieldsFrom l i)) := by
      intro t o hto
      refine Ev.step (fun k => spec_FieldsOk.j2.eq_2 _ _ _ _ _ _ _ _) ?_
      refine Ev.bind (spec_NameOk_ev l[i].f0 (by omega)) ?_
      cases hnm : nameB (bytesOf l[i].f0) with
      | false =>
        simp only [if_neg (show ¬ (false = true) by decide)]
        refine ev_false (fun h => ?_) (Ev.now _)
        have := nameB_iff.2 (hst.1 h).1.1
        rw [hnm] at this; cases this
      | true =>
        simp only [if_true]
        obtain ⟨r, hr, hq⟩ := spec_l2Field_ev l l[i].f0 (by omega)
        refine Ev.bind hr ?_
        by_cases he : r = (i : Int)
        · have hfirst : ∀ m (hm : m < i), l[m].f0 ≠ l[i].f0 := by
            rcases hq with hq | ⟨j, hj, h1, h2, h3⟩
            · omega
            · obtain rfl : j = i := by omega
              exact h3
          simp only [if_pos he, wsucc i (by omega)]
          have hnext := ih (i + 1) (by omega)
          by_cases hp : fieldP l[i]
          · have hb := hto.2 hp
            have hgoal : Ev (fun k => spec_FieldsOk.l0 k l ((i + 1 : Nat) : Int)) (decide (fieldsFrom l i)) := ev_prop (hst.trans ⟨fun h => h.2, fun h => ⟨⟨nameB_iff.1 hnm, hp, hfirst⟩, h⟩⟩).symm hnext
            cases t with
            | true => simp only [if_true]; exact hgoal
            | false =>
              have ho : o = true := by simpa using hb
              simp only [if_neg (show ¬ (false = true) by decide), ho, if_true]; exact hgoal
          · have hb : (t || o) = false := by rw [Bool.eq_false_iff]; exact fun h => hp (hto.1 h)
            have ht : t = false := by cases t; rfl; simp at hb
            have ho : o = false := by cases o; rfl; simp at hb
            simp only [ht, ho, if_neg (show ¬ (false = true) by decide)]
            exact ev_false (fun h => hp (hst.1 h).1.2.1) (Ev.now _)
        · simp only [if_neg he]
          refine ev_false (fun h => ?_) (Ev.now _)
          have h4 := (hst.1 h).1.2.2
          rcases hq with ⟨h1, h2⟩ | ⟨j, hj, h1, h2, h3⟩
          · exact h2 l[i] (List.getElem_mem _) rfl
          · rcases Nat.lt_trichotomy j i with h5 | h5 | h5
            · exact h4 j h5 h2
            · exact he (by omega)
            · exact h3 i h5 rfl
    have hj1 : ∀ (t : Bool), (t = true ↔ (l[i].f1 = 1 ∧ 1 ≤ l[i].f2 ∧ l[i].f2 ≤ 9)) → Ev (fun k => spec_FieldsOk.j1 k l (i : Int) t l[i].f0 l[i].f1 l[i].f2) (decide (fieldsFrom l i)) := by
      intro t ht
      refine Ev.step (fun k => spec_FieldsOk.j1.eq_2 _ _ _ _ _ _ _) ?_
      simp only [spec_l1In_eq, Option.bind_some, decide_eq_true_eq]
      by_cases h2 : 2 ≤ l[i].f1 ∧ l[i].f1 ≤ 3
      · simp only [if_pos h2]
        refine hj2 t _ ?_
        unfold fieldP
        rw [Bool.or_eq_true, ht, beq_iff_eq]
        constructor
        · rintro (h | h)
          · exact .inl h
          · exact .inr ⟨h2.1, h2.2, h⟩
        · rintro (h | h)
          · exact .inl h
          · exact .inr h.2.2
      · simp only [if_neg h2]
        refine hj2 t false ?_
        unfold fieldP
        rw [Bool.or_false, ht]
        exact ⟨.inl, fun h => h.resolve_right (fun h3 => h2 ⟨h3.1, h3.2.1⟩)⟩
    by_cases h1 : l[i].f1 = 1
    · simp only [if_pos h1]
      refine hj1 _ ?_
      rw [decide_eq_true_eq]
      exact ⟨fun h => ⟨h1, h⟩, fun h => h.2⟩
    · simp only [if_neg h1]
      exact hj1 false ⟨(fun h => by cases h), fun h => absurd h.1 h1⟩

theorem spec_FieldsOk_ev (l : List S79) (hn : l.length ≤ 1048577) (hs : ∀ x ∈ l, x.f0.size ≤ 1048576) : Ev (fun k => spec_FieldsOk.f k l) (fieldsB l) := spec_FieldsOk_l0 l hn hs l.length 0 (by omega)

open Classical in
theorem spec_DocOk_l0 (F : List S79) (hF : F.length ≤ 1048576) (hFs : ∀ x ∈ F, x.f0.size ≤ 1048576) (key : ByteArray) (l : List S96) (hk : key.size ≤ 1048576) (hn : l.length ≤ 1048576) (hs : ∀ x ∈ l, x.f0.size ≤ 1048576 ∧ x.f1.size ≤ 1048576) : ∀ (d i : Nat), i + d = l.length →
    Ev (fun k => spec_DocOk.l0 k F (i : Int) key l) (decide ((∀ c ∈ l.drop i, plainB c.f1 60 = true ∧ cellK (kindOf F c.f0) c.f1) ∧ fieldsB F = true ∧ formB key l = true)) := by
  intro d
  induction d with
  | zero =>
    intro i hi
    refine Ev.step (fun k => spec_DocOk.l0.eq_2 _ _ _ _ _) ?_
    simp only [if_neg (show ¬ ((i : Int) < (l.length : Int)) by omega)]
    rw [List.drop_eq_nil_of_le (by omega)]
    refine Ev.bind (spec_FieldsOk_ev F (by omega) hFs) ?_
    cases hf : fieldsB F with
    | false => simp only [if_neg (show ¬ (false = true) by decide)]; exact ev_falseI (fun h => by cases h.2.1) (Ev.now _)
    | true =>
      simp only [if_true]
      refine Ev.bind (spec_l2Form_ev key l hk hn hs) ?_
      cases hm : formB key l with
      | false => exact ev_falseI (fun h => by cases h.2.2) (Ev.now _)
      | true => exact ev_trueI ⟨fun c hc => by simp at hc, (by first | trivial | rfl), (by first | trivial | rfl)⟩ (Ev.now _)
  | succ d ih =>
    intro i hi
    have hil : i < l.length := by omega
    have hsz := hs l[i] (List.getElem_mem _)
    obtain ⟨r, hr, hq⟩ := spec_l2Field_ev F l[i].f0 (by omega)
    refine Ev.step (fun k => spec_DocOk.l0.eq_2 _ _ _ _ _) ?_
    rw [drop_get l i hil]
    simp only [if_pos (show ((i : Int) < (l.length : Int)) by omega), if_pos (show 0 ≤ (i : Int) by omega), rdi_Cell l i hil, wsucc i (by omega)]
    refine Ev.bind hr ?_
    rcases hq with ⟨rfl, hno⟩ | ⟨j, hj, rfl, hj2, hjb⟩
    · simp only [if_pos (show (-1 : Int) < 0 by decide)]
      refine ev_falseI (fun h => ?_) (Ev.now _)
      have h1 := (h.1 l[i] (List.mem_cons_self ..)).2
      unfold kindOf at h1
      rw [fieldAt_none hno] at h1
      rcases h1 with h1 | ⟨h1, _⟩ | ⟨h1, _⟩ <;> exact absurd h1 (by decide)
    · have hk2 : kindOf F l[i].f0 = F[j].f1 := by unfold kindOf; rw [fieldAt_some hj hj2 hjb]
      simp only [if_neg (show ¬ (j : Int) < 0 by omega), if_pos (show 0 ≤ (j : Int) by omega), if_pos (show (j : Int) < (F.length : Int) by omega), rdi_Field F j hj]
      refine Ev.bind (spec_l2Cell_ev _ _ _ l[i].f1 hsz.2) ?_
      by_cases hc : plainB l[i].f1 60 = true ∧ cellK F[j].f1 l[i].f1
      · rw [decide_eq_true hc]
        simp only [if_true]
        refine ev_propI ⟨fun h => ⟨fun c hcm => ?_, h.2⟩, fun h => ⟨fun c hcm => h.1 c (List.mem_cons_of_mem _ hcm), h.2⟩⟩ (ih (i + 1) (by omega))
        rcases List.mem_cons.1 hcm with rfl | hcm
        · rw [hk2]; exact hc
        · exact h.1 c hcm
      · rw [decide_eq_false hc]
        simp only [if_neg (show ¬ (false = true) by decide)]
        refine ev_falseI (fun h => hc ?_) (Ev.now _)
        have := h.1 l[i] (List.mem_cons_self ..)
        rw [hk2] at this
        exact this

open Classical in
theorem spec_DocOk_ev (F : List S79) (hF : F.length ≤ 1048576) (hFs : ∀ x ∈ F, x.f0.size ≤ 1048576) (key : ByteArray) (l : List S96) (hk : key.size ≤ 1048576) (hn : l.length ≤ 1048576) (hs : ∀ x ∈ l, x.f0.size ≤ 1048576 ∧ x.f1.size ≤ 1048576) : Ev (fun k => spec_DocOk.f k F key l) (docOkB F key l) := by
  simp only [spec_DocOk.f, docOkB]
  have h := spec_DocOk_l0 F hF hFs key l hk hn hs l.length 0 (by omega)
  rw [List.drop_zero] at h
  refine ev_propI ?_ h
  unfold docOkP
  exact ⟨fun h => ⟨h.2.1, h.2.2, fun c hc => (h.1 c hc).2⟩, fun h => ⟨fun c hc => ⟨((form_cells h.2.1).1 c hc).2, h.2.2 c hc⟩, h.1, h.2.1⟩⟩

theorem spec_l2Kind_ev (F : List S79) (hF : F.length ≤ 1048576) (n : ByteArray) : Ev (fun k => spec_l2Kind.f k F n 3) (kindOf F n == 3) := by
  simp only [spec_l2Kind.f]
  obtain ⟨r, hr, hq⟩ := spec_l2Field_ev F n (by omega)
  refine Ev.bind hr ?_
  rcases hq with ⟨rfl, h⟩ | ⟨j, hj, rfl, h1, h2⟩
  · simp only [if_neg (show ¬ ((-1 : Int) ≥ 0) by omega), kindOf, fieldAt_none h]
    exact Ev.now _
  · simp only [if_pos (show ((j : Int) ≥ 0) by omega), if_pos (show (0 : Int) ≤ (j : Int) by omega), if_pos (show ((j : Int) < (F.length : Int)) by omega), rdi_Field F j hj, kindOf, fieldAt_some hj h1 h2]
    exact Ev.now _

open Classical in
theorem spec_DocTags_ev (F : List S79) (hF : F.length ≤ 1048576) (hFs : ∀ x ∈ F, x.f0.size ≤ 1048576) (key n : ByteArray) (l : List S96) (hk : key.size ≤ 1048576) (hn : l.length ≤ 1048576) (hs : ∀ x ∈ l, x.f0.size ≤ 1048576 ∧ x.f1.size ≤ 1048576) : Ev (fun k => spec_DocTags.f k F key l n) (docTagsB F key n l) := by
  simp only [spec_DocTags.f, docTagsB]
  refine Ev.bind (spec_DocText_ev n key l (by omega)) ?_
  refine Ev.bind (spec_DocOk_ev F hF hFs key l hk hn hs) ?_
  by_cases h : docOkB F key l = true
  · simp only [if_pos h, docTagsI]
    have hp : docOkP F key l := by unfold docOkB at h; exact of_decide_eq_true h
    by_cases h2 : (docText n l).2 = true
    · simp only [if_pos h2]
      refine Ev.bind (spec_l2Kind_ev F hF n) ?_
      by_cases h3 : kindOf F n = 3
      · simp only [h3, beq_self_eq_true, if_true]
        have hz := docText_size (n := n) hs
        obtain ⟨c, hc, e1, e2⟩ := docText_mem h2
        have hk3 := hp.2.2 c hc
        rw [e1, e2, h3] at hk3
        have ht : tagsP (docText n l).1 := by
          rcases hk3 with q | ⟨q, _⟩ | ⟨_, q⟩
          · exact absurd q (by decide)
          · exact absurd q (by decide)
          · exact q
        have hr : (tagsRes (docText n l).1).1 = insAllB [] (splitT 44 (docText n l).1) := by unfold tagsRes; rw [if_pos ht.1]
        refine Ev.bind (spec_l2Tags_ev _ hz) ?_
        simp only [hr]; exact Ev.now _
      · have hb : (kindOf F n == 3) = false := by simpa using h3
        simp only [hb, if_neg (show ¬ (false = true) by decide), if_neg h3]; exact Ev.now _
    · simp only [if_neg h2, ite_self]; exact Ev.now _
  · simp only [if_neg h]; exact Ev.now _

noncomputable def mkFields (a : Int) : Nat → List S79
  | 0 => []
  | m + 1 => ⟨MT a, a + 1, a + 2⟩ :: mkFields (a + 3) m

theorem take_set_eq {α : Type} (l : List α) (i : Nat) (v : α) (h : i < l.length) : (l.set i v).take (i + 1) = l.take i ++ [v] := by
  rw [List.take_add_one, List.take_set_of_le (Nat.le_refl _), List.getElem?_set_self h]; rfl

theorem markFieldS_l0 : ∀ (d i : Nat) (l : List S79) (a : Int), i + d = l.length → l.length < 1152921504606846976 → 0 ≤ a → a + 3 * d < 4611686018427387904 →
    Ev (fun k => laws_markFieldS.l0 k l a (i : Int)) (a + 3 * d, l.take i ++ mkFields a d) := by
  intro d
  induction d with
  | zero =>
    intro i l a hi hn ha hb
    refine Ev.step (fun k => laws_markFieldS.l0.eq_2 _ _ _ _) ?_
    simp only [if_neg (show ¬ ((i : Int) < (l.length : Int)) by omega)]
    have : (a + 3 * ((0 : Nat) : Int), l.take i ++ mkFields a 0) = (a, l) := by simp [mkFields, List.take_of_length_le (show l.length ≤ i by omega)]
    rw [this]; exact Ev.now _
  | succ d ih =>
    intro i l a hi hn ha hb
    refine Ev.step (fun k => laws_markFieldS.l0.eq_2 _ _ _ _) ?_
    simp only [if_pos (show ((i : Int) < (l.length : Int)) by omega), if_pos (show 0 ≤ (i : Int) by omega), wsucc i (by omega), toNat_cast, Option.bind_some, wrap_id (x := a + 1) (by omega) (by omega), wrap_id (x := a + 1 + 1) (by omega) (by omega), wrap_id (x := a + 1 + 1 + 1) (by omega) (by omega)]
    refine Ev.bind (markText_ev a ha (by omega)) ?_
    have g : ∀ v : S79, rd_T79 (l.set i v) (i : Int) = v := fun v => by rw [rdi_Field _ i (by simp; omega)]; simp
    simp only [g, List.set_set, show a + 1 + 1 = a + 2 by omega, show a + 2 + 1 = a + 3 by omega]
    have h := ih (i + 1) (l.set i ⟨MT a, a + 1, a + 2⟩) (a + 3) (by simp; omega) (by simp; omega) (by omega) (by omega)
    rw [take_set_eq l i _ (by omega)] at h
    have e2 : (a + 3 + 3 * (d : Int), l.take i ++ [(⟨MT a, a + 1, a + 2⟩ : S79)] ++ mkFields (a + 3) d) = (a + 3 * ((d + 1 : Nat) : Int), l.take i ++ mkFields a (d + 1)) := by
      simp [mkFields]; omega
    rw [← e2]; exact h

theorem markFieldS_ev (l : List S79) (hn : l.length < 1125899906842624) : Ev (fun k => laws_markFieldS.f k l 1) (1 + 3 * l.length, mkFields 1 l.length) :=
  markFieldS_l0 l.length 0 l 1 (by omega) (by omega) (by omega) (by omega)

open Classical in
theorem eqStringS_l0 (a b : List ByteArray) (hn : a.length < 4611686018427387904) (hl : a.length = b.length) : ∀ (d i : Nat), i + d = a.length → Ev (fun k => laws_eqStringS.l0 k a b (i : Int)) (decide (a.drop i = b.drop i)) := by
  intro d
  induction d with
  | zero =>
    intro i hi
    refine Ev.step (fun k => laws_eqStringS.l0.eq_2 _ _ _ _) ?_
    simp only [if_neg (show ¬ ((i : Int) < (a.length : Int)) by omega)]
    exact ev_true (by rw [List.drop_eq_nil_of_le (by omega), List.drop_eq_nil_of_le (by omega)]) (Ev.now _)
  | succ d ih =>
    intro i hi
    refine Ev.step (fun k => laws_eqStringS.l0.eq_2 _ _ _ _) ?_
    simp only [if_pos (show ((i : Int) < (a.length : Int)) by omega), if_pos (show ((i : Int) < (b.length : Int)) by omega), if_pos (show 0 ≤ (i : Int) by omega), rdOf_str a i (by omega), rdOf_str b i (by omega), wsucc i (by omega), toList_inj]
    by_cases h : a[i]'(by omega) = b[i]'(by omega)
    · simp only [if_pos h]
      refine ev_prop ?_ (ih (i + 1) (by omega))
      rw [drop_eq_step (a := a) (b := b) (j := i) (by omega) (by omega)]
      exact ⟨fun h2 => ⟨h, h2⟩, fun h2 => h2.2⟩
    · simp only [if_neg h]
      refine ev_false (fun h2 => ?_) (Ev.now _)
      rw [drop_eq_step (a := a) (b := b) (j := i) (by omega) (by omega)] at h2
      exact h h2.1

open Classical in
theorem eqStringS_ev (a b : List ByteArray) (hn : a.length < 4611686018427387904) : Ev (fun k => laws_eqStringS.f k a b) (decide (a = b)) := by
  simp only [laws_eqStringS.f]
  by_cases hl : a.length = b.length
  · simp only [if_pos (show (a.length : Int) = (b.length : Int) by omega)]
    exact eqStringS_l0 a b hn hl a.length 0 (by omega)
  · simp only [if_neg (show ¬ (a.length : Int) = (b.length : Int) by omega)]
    exact ev_false (fun h => hl (by rw [h])) (Ev.now _)

theorem eqStringS_refl (a : List ByteArray) (hn : a.length < 4611686018427387904) : Ev (fun k => laws_eqStringS.f k a a) true := by
  have := eqStringS_ev a a hn
  rwa [decide_eq_true rfl] at this

noncomputable def mkTexts (a : Int) : Nat → List ByteArray
  | 0 => []
  | n + 1 => MT a :: mkTexts (a + 1) n

theorem heldStringS_l0 (l : List ByteArray) (hn : l.length < 1152921504606846976) : ∀ (d i : Nat) (a : Int), i + d = l.length → 0 ≤ a → a + d < 4611686018427387904 → l.drop i = mkTexts a d →
    Ev (fun k => laws_heldStringS.l0 k l a (i : Int)) (a + d) := by
  intro d
  induction d with
  | zero =>
    intro i a hi ha hb hd
    refine Ev.step (fun k => laws_heldStringS.l0.eq_2 _ _ _ _) ?_
    simp only [if_neg (show ¬ ((i : Int) < (l.length : Int)) by omega)]
    simpa using Ev.now a
  | succ d ih =>
    intro i a hi ha hb hd
    refine Ev.step (fun k => laws_heldStringS.l0.eq_2 _ _ _ _) ?_
    rw [drop_get l i (by omega)] at hd
    simp only [mkTexts, List.cons.injEq] at hd
    simp only [if_pos (show ((i : Int) < (l.length : Int)) by omega), if_pos (show 0 ≤ (i : Int) by omega), wsucc i (by omega), rdOf_str l i (by omega), hd.1, wrap_id (x := a + 1) (by omega) (by omega)]
    refine Ev.bind (markText_ev a ha (by omega)) ?_
    simp only [if_true]
    have h := ih (i + 1) (a + 1) (by omega) (by omega) (by omega) hd.2
    have e : a + 1 + (d : Int) = a + ((d + 1 : Nat) : Int) := by omega
    rw [← e]; exact h

theorem mkTexts_length (a : Int) (n : Nat) : (mkTexts a n).length = n := by
  induction n generalizing a with
  | zero => rfl
  | succ n ih => simp [mkTexts, ih]

theorem heldStringS_ev (n : Nat) (hn : n < 1125899906842624) : Ev (fun k => laws_heldStringS.f k (mkTexts 1 n) 1) (1 + (n : Int)) :=
  heldStringS_l0 (mkTexts 1 n) (by rw [mkTexts_length]; omega) n 0 1 (by rw [mkTexts_length]; omega) (by omega) (by omega) rfl

theorem markStringS_l0 : ∀ (d i : Nat) (l : List ByteArray) (a : Int), i + d = l.length → l.length < 1152921504606846976 → 0 ≤ a → a + d < 4611686018427387904 →
    Ev (fun k => laws_markStringS.l0 k l a (i : Int)) (a + d, l.take i ++ mkTexts a d) := by
  intro d
  induction d with
  | zero =>
    intro i l a hi hn ha hb
    refine Ev.step (fun k => laws_markStringS.l0.eq_2 _ _ _ _) ?_
    simp only [if_neg (show ¬ ((i : Int) < (l.length : Int)) by omega)]
    have : (a + ((0 : Nat) : Int), l.take i ++ mkTexts a 0) = (a, l) := by simp [mkTexts, List.take_of_length_le (show l.length ≤ i by omega)]
    rw [this]; exact Ev.now _
  | succ d ih =>
    intro i l a hi hn ha hb
    refine Ev.step (fun k => laws_markStringS.l0.eq_2 _ _ _ _) ?_
    simp only [if_pos (show ((i : Int) < (l.length : Int)) by omega), if_pos (show 0 ≤ (i : Int) by omega), wsucc i (by omega), toNat_cast, wrap_id (x := a + 1) (by omega) (by omega)]
    refine Ev.bind (markText_ev a ha (by omega)) ?_
    have h := ih (i + 1) (l.set i (MT a)) (a + 1) (by simp; omega) (by simp; omega) (by omega) (by omega)
    rw [List.take_add_one, List.take_set_of_le (Nat.le_refl _), List.getElem?_set_self (by omega)] at h
    have e2 : (a + 1 + (d : Int), l.take i ++ (some (MT a)).toList ++ mkTexts (a + 1) d) = (a + ((d + 1 : Nat) : Int), l.take i ++ mkTexts a (d + 1)) := by
      simp [mkTexts]; omega
    rw [← e2]; exact h

theorem markStringS_ev (l : List ByteArray) (hn : l.length < 1125899906842624) : Ev (fun k => laws_markStringS.f k l 1) (1 + (l.length : Int), mkTexts 1 l.length) :=
  markStringS_l0 l.length 0 l 1 (by omega) (by omega) (by omega) (by omega)

theorem FnExactDocTags : laws_FnExactDocTags.PureX := by
  intro F key l name hF hk hl hnm
  have hm : maxLen = 9223372036854775807 := rfl
  refine Ev.rounds (g := fun k => laws_FnExactDocTags.f k F key l name) ?_
  simp only [laws_FnExactDocTags.f]
  by_cases hnb : (name.size : Int) > 1048576
  · simp only [if_pos hnb]; exact Ev.now _
  simp only [if_neg hnb]
  obtain ⟨r0, hr0, hq0⟩ := szFieldS_ev F (by omega) (fun x hx => by have := hF.2 x hx; unfold wideField; have := this.1; omega) 1048576 (by omega) (by omega)
  refine Ev.bind hr0 ?_
  rcases hq0 with hq0 | ⟨f0, f1, f2, f3⟩
  · simp only [hq0, if_pos (show (-1 : Int) < 0 by omega)]; exact Ev.now _
  simp only [if_neg (show ¬ r0 < 0 by omega)]
  obtain ⟨r, hr, hq⟩ := szDoc_ev key l (by omega) (by omega) (fun x hx => by have := hl.2 x hx; unfold wideCell; exact ⟨by have := this.1; omega, by have := this.2; omega⟩) r0 (by omega) (by omega)
  refine Ev.bind hr ?_
  rcases hq with hq | ⟨q0, q1, q2, q3, q4⟩
  · simp only [hq, if_pos (show (-1 : Int) < 0 by omega)]; exact Ev.now _
  simp only [if_neg (show ¬ r < 0 by omega)]
  have hlen : (l.map cCell).length ≤ 1048576 := by rw [List.length_map]; omega
  have hlenF : (F.map cField).length ≤ 1048576 := by rw [List.length_map]; omega
  have hi := impl_DocTags_ev (F.map cField) hlenF (small_map_FieldT f3) key name (l.map cCell) q2 hlen (small_map_CellT q4)
  have hs := spec_DocTags_ev (F.map cField) hlenF (small_map_FieldT f3) key name (l.map cCell) q2 hlen (small_map_CellT q4)
  have hz := docTagsB_length (F.map cField) key name (l.map cCell) (small_map_CellT q4)
  refine Ev.bind (toFieldS_ev F f2) ?_
  refine Ev.bind (toDoc_ev key l q3) ?_
  refine Ev.bind hs ?_
  refine Ev.bind (toFieldS_ev F f2) ?_
  refine Ev.bind (toDoc_ev key l q3) ?_
  refine Ev.bind hi ?_
  refine Ev.bind (eqStringS_refl _ (by omega)) ?_
  simp only [if_true]
  refine Ev.bind (toFieldS_ev F f2) ?_
  refine Ev.bind (eqFieldS_refl _ (by omega)) ?_
  simp only [if_true]
  refine Ev.bind (toDoc_ev key l q3) ?_
  refine Ev.bind (eqDoc_refl _ _ (by omega)) ?_
  simp only [if_true]
  refine Ev.bind (markFieldS_ev _ (by omega)) ?_
  refine Ev.bind (markDocA_ev key (l.map cCell) (1 + 3 * ((F.map cField).length : Int)) (by omega) (by omega) (by omega)) ?_
  simp only [if_neg (show ¬ (1 + 3 * ((F.map cField).length : Int) + 2 * ((l.map cCell).length : Int) < 0) by omega)]
  refine Ev.bind (eqStringS_refl _ (by omega)) ?_
  simp only [Bool.not_true]
  refine Ev.step (fun k => laws_FnExactDocTags.j0.eq_2 _ _ _ _ _ _ _ _) ?_
  simp only [if_neg (show ¬ (false = true) by decide)]
  refine Ev.bind (markStringS_ev _ (by omega)) ?_
  refine Ev.bind (heldStringS_ev _ (by omega)) ?_
  simp only [if_neg (show ¬ (1 + ((docTagsB (F.map cField) key name (l.map cCell)).length : Int) < 0) by omega), if_true]
  refine Ev.bind (toFieldS_ev F f2) ?_
  refine Ev.bind (toDoc_ev key l q3) ?_
  refine Ev.bind hi ?_
  refine Ev.bind (eqStringS_refl _ (by omega)) ?_
  simp only [if_true]
  refine Ev.bind (heldStringS_ev _ (by omega)) ?_
  simp only [if_neg (show ¬ (1 + ((docTagsB (F.map cField) key name (l.map cCell)).length : Int) < 0) by omega), if_true]
  exact Ev.now _

end Go.Proofs.YtelcdhjdlgedeaaGreatDoor.Pure
