/- The plain law of FnExactDocText: whatever the input, the printed function of this law answers true after enough rounds; conditions: only the sizes and kinds that the law's Pure states. -/
import Derived.Test.YtalddeknbjfgcaaSFnExactDocText
namespace Go.Proofs.Ytalddeknbjfgcaa.Pure
open Go.RowKit Go.Proofs.Ytalddeknbjfgcaa.PFnExactDocText Go.Proofs.YtalddeknbjfgcaaW.PrintWords Go.Proofs.YtalddeknbjfgcaaW.PrintLast
set_option linter.unusedVariables false
set_option linter.unusedSimpArgs false

theorem toList_data (s : ByteArray) : s.toList = s.data.toList := by
  exact ByteArray.toList_eq s

theorem toList_inj {a b : ByteArray} : a.toList = b.toList ↔ a = b := by
  rw [toList_data, toList_data]
  constructor
  · intro h; exact ByteArray.ext (Array.toList_inj.1 h)
  · rintro rfl; rfl

open Classical in
theorem eqCell_eq (x y : S64) : laws_eqCell.f x.f0 x.f1 y.f0 y.f1 = some (decide (x = y)) := by
  obtain ⟨a0, a1⟩ := x
  obtain ⟨b0, b1⟩ := y
  simp only [laws_eqCell.f, toList_inj]
  by_cases h0 : a0 = b0
  case neg => simp [h0]
  by_cases h1 : a1 = b1
  case neg => simp [h0, h1]
  simp [h0, h1]

theorem rdi_Cell (l : List S64) (j : Nat) (h : j < l.length) : rd_T64 l (j : Int) = l[j] := by
  unfold rd_T64; simp [List.getD_eq_getElem?_getD, List.getElem?_eq_getElem h]

theorem drop_eq_step {α : Type} {a b : List α} {j : Nat} (ha : j < a.length) (hb : j < b.length) : a.drop j = b.drop j ↔ a[j] = b[j] ∧ a.drop (j + 1) = b.drop (j + 1) := by
  rw [List.drop_eq_getElem_cons ha, List.drop_eq_getElem_cons hb, List.cons.injEq]

theorem ev_false {g : Nat → Option Bool} {p : Prop} [Decidable p] (h : ¬ p) (k : Ev g false) : Ev g (decide p) := by
  rw [decide_eq_false h]; exact k

theorem ev_prop {g : Nat → Option Bool} {p q : Prop} [Decidable p] [Decidable q] (h : p ↔ q) (k : Ev g (decide p)) : Ev g (decide q) := by
  have : decide p = decide q := decide_eq_decide.2 h
  rw [← this]; exact k

theorem ev_true {g : Nat → Option Bool} {p : Prop} [Decidable p] (h : p) (k : Ev g true) : Ev g (decide p) := by
  rw [decide_eq_true h]; exact k

theorem wrap_id {x : Int} (h0 : -9223372036854775808 ≤ x) (h1 : x ≤ 9223372036854775807) : wrap64 x = x := by unfold wrap64; omega

theorem wsucc (j : Nat) (h : j < 9223372036854775807) : wrap64 ((j : Int) + 1) = ((j + 1 : Nat) : Int) := by rw [wrap_id (by omega) (by omega)]; omega

open Classical in
theorem eqCellS_l0 (a b : List S64) (hn : a.length < 4611686018427387904) (hl : a.length = b.length) : ∀ (d i : Nat), i + d = a.length →
    Ev (fun k => laws_eqCellS.l0 k a b (i : Int)) (decide (a.drop i = b.drop i)) := by
  intro d
  induction d with
  | zero =>
    intro i hi
    refine Ev.step (fun k => laws_eqCellS.l0.eq_2 _ _ _ _) ?_
    simp only [if_neg (show ¬ ((i : Int) < (a.length : Int)) by omega)]
    rw [List.drop_of_length_le (by omega), List.drop_of_length_le (by omega)]
    exact ev_true rfl (Ev.now _)
  | succ d ih =>
    intro i hi
    refine Ev.step (fun k => laws_eqCellS.l0.eq_2 _ _ _ _) ?_
    simp only [if_pos (show ((i : Int) < (a.length : Int)) by omega), if_pos (show 0 ≤ (i : Int) by omega), if_pos (show ((i : Int) < (b.length : Int)) by omega), wsucc i (by omega), rdi_Cell a i (by omega), rdi_Cell b i (by omega), eqCell_eq, Option.bind_some, decide_eq_true_eq]
    have hs := drop_eq_step (a := a) (b := b) (show i < a.length by omega) (show i < b.length by omega)
    by_cases h : a[i] = b[i]
    · simp only [if_pos h]
      exact ev_prop (hs.trans ⟨fun h1 => h1.2, fun h1 => ⟨h, h1⟩⟩).symm (ih (i + 1) (by omega))
    · simp only [if_neg h]
      exact ev_false (fun h1 => h (hs.1 h1).1) (Ev.now _)

open Classical in
theorem eqCellS_ev (a b : List S64) (hn : a.length < 4611686018427387904) : Ev (fun k => laws_eqCellS.f k a b) (decide (a = b)) := by
  simp only [laws_eqCellS.f]
  by_cases hl : a.length = b.length
  · simp only [if_pos (show (a.length : Int) = (b.length : Int) by omega)]
    exact eqCellS_l0 a b hn hl a.length 0 (by omega)
  · simp only [if_neg (show ¬ (a.length : Int) = (b.length : Int) by omega)]
    exact ev_false (fun h => hl (by rw [h])) (Ev.now _)

open Classical in
theorem eqDoc_ev (k1 : ByteArray) (c1 : List S64) (k2 : ByteArray) (c2 : List S64) (hn : c1.length < 4611686018427387904) : Ev (fun k => laws_eqDoc.f k k1 c1 k2 c2) (decide (k1 = k2 ∧ c1 = c2)) := by
  simp only [laws_eqDoc.f, toList_inj]
  by_cases h : k1 = k2
  · simp only [if_pos h]
    refine Ev.bind (eqCellS_ev c1 c2 hn) ?_
    by_cases h2 : c1 = c2
    · simp only [decide_eq_true h2, if_true]; exact ev_true ⟨h, h2⟩ (Ev.now _)
    · simp only [decide_eq_false h2]; exact ev_false (fun h3 => h2 h3.2) (Ev.now _)
  · simp only [if_neg h]; exact ev_false (fun h3 => h h3.1) (Ev.now _)

open Classical in
theorem eqDoc_refl (k1 : ByteArray) (c1 : List S64) (hn : c1.length < 4611686018427387904) : Ev (fun k => laws_eqDoc.f k k1 c1 k1 c1) true := by
  have := eqDoc_ev k1 c1 k1 c1 hn
  rwa [decide_eq_true ⟨rfl, rfl⟩] at this

/-- The text of the first cell of a name. -/
def docText (name : ByteArray) : List S64 → ByteArray × Bool
  | [] => ((⟨#[]⟩ : ByteArray), false)
  | c :: cs => if c.f0 = name then (c.f1, true) else docText name cs

theorem drop_get {α : Type} (l : List α) (j : Nat) (h : j < l.length) : l.drop j = l[j] :: l.drop (j + 1) := List.drop_eq_getElem_cons h

theorem impl_DocText_l0 (name : ByteArray) (l : List S64) (hn : l.length < 4611686018427387904) : ∀ (d i : Nat), i + d = l.length → Ev (fun k => impl_DocText.l0 k name l (l.length : Int) (i : Int)) (docText name (l.drop i)) := by
  intro d
  induction d with
  | zero =>
    intro i hi
    refine Ev.step (fun k => impl_DocText.l0.eq_2 _ _ _ _ _) ?_
    simp only [if_neg (show ¬ ((i : Int) < (l.length : Int)) by omega)]
    rw [List.drop_of_length_le (by omega)]; exact Ev.now _
  | succ d ih =>
    intro i hi
    refine Ev.step (fun k => impl_DocText.l0.eq_2 _ _ _ _ _) ?_
    simp only [if_pos (show ((i : Int) < (l.length : Int)) by omega), if_pos (show 0 ≤ (i : Int) by omega), wsucc i (by omega), rdi_Cell l i (by omega), toList_inj]
    rw [drop_get l i (by omega)]
    by_cases h : l[i].f0 = name
    · simp only [if_pos h, docText]; exact Ev.now _
    · simp only [if_neg h, docText]; exact ih (i + 1) (by omega)

theorem impl_DocText_ev (name key : ByteArray) (l : List S64) (hn : l.length < 4611686018427387904) : Ev (fun k => impl_DocText.f k key l name) (docText name l) := impl_DocText_l0 name l hn l.length 0 (by omega)

theorem spec_DocText_l0 (name key : ByteArray) (l : List S64) (hn : l.length < 4611686018427387904) : ∀ (d i : Nat), i + d = l.length → Ev (fun k => spec_DocText.l0 k name (i : Int) key l) (docText name (l.drop i)) := by
  intro d
  induction d with
  | zero =>
    intro i hi
    refine Ev.step (fun k => spec_DocText.l0.eq_2 _ _ _ _ _) ?_
    simp only [if_neg (show ¬ ((i : Int) < (l.length : Int)) by omega)]
    rw [List.drop_of_length_le (by omega)]; exact Ev.now _
  | succ d ih =>
    intro i hi
    refine Ev.step (fun k => spec_DocText.l0.eq_2 _ _ _ _ _) ?_
    simp only [if_pos (show ((i : Int) < (l.length : Int)) by omega), if_pos (show 0 ≤ (i : Int) by omega), wsucc i (by omega), rdi_Cell l i (by omega), toList_inj]
    rw [drop_get l i (by omega)]
    by_cases h : l[i].f0 = name
    · simp only [if_pos h, docText]; exact Ev.now _
    · simp only [if_neg h, docText]; exact ih (i + 1) (by omega)

theorem spec_DocText_ev (name key : ByteArray) (l : List S64) (hn : l.length < 4611686018427387904) : Ev (fun k => spec_DocText.f k key l name) (docText name l) := spec_DocText_l0 name key l hn l.length 0 (by omega)

def smallCell (x : S75) : Prop := x.f0.size ≤ 1048576 ∧ x.f1.size ≤ 1048576

theorem rdl_Cell (l : List S75) (j : Nat) (h : j < l.length) : rd_T75 l (j : Int) = l[j] := by
  unfold rd_T75; simp [List.getD_eq_getElem?_getD, List.getElem?_eq_getElem h]

def wideCell (x : S75) : Prop := x.f0.size ≤ 9223372036854775807 ∧ x.f1.size ≤ 9223372036854775807

theorem szCell_eq (x : S75) (a : Int) (hx : wideCell x) (h0 : 0 ≤ a) (h1 : a ≤ 1048576) : ∃ r, laws_szCell.f x.f0 x.f1 a = some r ∧ (r = -1 ∨ (0 ≤ r ∧ r ≤ a ∧ smallCell x)) := by
  unfold wideCell at hx
  unfold smallCell
  unfold laws_szCell.f
  rw [wrap_id (x := a - (x.f0.size : Int)) (by omega) (by omega)]
  by_cases h20 : a - (x.f0.size : Int) < 0
  · rw [if_pos h20]; exact ⟨_, rfl, .inl rfl⟩
  rw [if_neg h20]
  rw [wrap_id (x := a - (x.f0.size : Int) - (x.f1.size : Int)) (by omega) (by omega)]
  by_cases h21 : a - (x.f0.size : Int) - (x.f1.size : Int) < 0
  · rw [if_pos h21]; exact ⟨_, rfl, .inl rfl⟩
  rw [if_neg h21]
  exact ⟨_, rfl, .inr ⟨by omega, by omega, by omega⟩⟩

theorem mem_drop_step {α : Type} {l : List α} {j : Nat} {n : α} (h : j < l.length) : n ∈ l.drop j ↔ n = l[j] ∨ n ∈ l.drop (j + 1) := by
  rw [List.drop_eq_getElem_cons h, List.mem_cons]

theorem szCellS_l0 (l : List S75) (hl : l.length ≤ 1048576) (hg : ∀ x ∈ l, wideCell x) : ∀ (d i : Nat) (a : Int), i + d = l.length → 0 ≤ a → a ≤ 1048576 →
    ∃ r, Ev (fun k => laws_szCellS.l0 k l a (i : Int)) r ∧ (r = -1 ∨ (0 ≤ r ∧ r ≤ a ∧ ∀ x ∈ l.drop i, smallCell x)) := by
  intro d
  induction d with
  | zero =>
    intro i a hi h0 h1
    refine ⟨a, Ev.step (fun k => laws_szCellS.l0.eq_2 _ _ _ _) ?_, .inr ⟨h0, Int.le_refl _, fun x hx => ?_⟩⟩
    · simp only [if_neg (show ¬ ((i : Int) < (l.length : Int)) by omega)]; exact Ev.now _
    · rw [List.drop_of_length_le (by omega)] at hx; cases hx
  | succ d ih =>
    intro i a hi h0 h1
    obtain ⟨r1, hr1, hc⟩ := szCell_eq l[i] a (hg _ (List.getElem_mem _)) h0 h1
    rcases hc with hc | ⟨hc0, hc1, hc2⟩
    · refine ⟨-1, Ev.step (fun k => laws_szCellS.l0.eq_2 _ _ _ _) ?_, .inl rfl⟩
      simp only [if_pos (show ((i : Int) < (l.length : Int)) by omega), if_pos (show 0 ≤ (i : Int) by omega), rdl_Cell l i (by omega), hr1, Option.bind_some, hc]
      exact Ev.now _
    · obtain ⟨r, hr, hq⟩ := ih (i + 1) r1 (by omega) hc0 (by omega)
      refine ⟨r, Ev.step (fun k => laws_szCellS.l0.eq_2 _ _ _ _) ?_, ?_⟩
      · simp only [if_pos (show ((i : Int) < (l.length : Int)) by omega), if_pos (show 0 ≤ (i : Int) by omega), rdl_Cell l i (by omega), hr1, Option.bind_some, if_neg (show ¬ r1 < 0 by omega), wsucc i (by omega)]
        exact hr
      · rcases hq with hq | ⟨q0, q1, q2⟩
        · exact .inl hq
        · refine .inr ⟨q0, by omega, fun x hx => ?_⟩
          rcases (mem_drop_step (show i < l.length by omega)).1 hx with hx | hx
          · rw [hx]; exact hc2
          · exact q2 x hx

theorem szCellS_ev (l : List S75) (hl : l.length ≤ 9223372036854775807) (hg : ∀ x ∈ l, wideCell x) (a : Int) (h0 : 0 ≤ a) (h1 : a ≤ 1048576) :
    ∃ r, Ev (fun k => laws_szCellS.f k l a) r ∧ (r = -1 ∨ (0 ≤ r ∧ r ≤ a ∧ l.length ≤ 1048576 ∧ ∀ x ∈ l, smallCell x)) := by
  simp only [laws_szCellS.f, wrap_id (x := a - (l.length : Int)) (by omega) (by omega)]
  by_cases h2 : a - (l.length : Int) < 0
  · simp only [if_pos h2]; exact ⟨-1, Ev.now _, .inl rfl⟩
  · simp only [if_neg h2]
    obtain ⟨r, hr, hq⟩ := szCellS_l0 l (by omega) hg l.length 0 (a - (l.length : Int)) (by omega) (by omega) (by omega)
    refine ⟨r, hr, ?_⟩
    rcases hq with hq | ⟨q0, q1, q2⟩
    · exact .inl hq
    · exact .inr ⟨q0, by omega, by omega, q2⟩

theorem szDoc_ev (key : ByteArray) (l : List S75) (hk : key.size ≤ 9223372036854775807) (hl : l.length ≤ 9223372036854775807) (hg : ∀ x ∈ l, wideCell x) (a : Int) (h0 : 0 ≤ a) (h1 : a ≤ 1048576) :
    ∃ r, Ev (fun k => laws_szDoc.f k key l a) r ∧ (r = -1 ∨ (0 ≤ r ∧ r ≤ a ∧ key.size ≤ 1048576 ∧ l.length ≤ 1048576 ∧ ∀ x ∈ l, smallCell x)) := by
  simp only [laws_szDoc.f, wrap_id (x := a - (key.size : Int)) (by omega) (by omega)]
  by_cases h2 : a - (key.size : Int) < 0
  · simp only [if_pos h2]; exact ⟨-1, Ev.now _, .inl rfl⟩
  · simp only [if_neg h2]
    obtain ⟨r, hr, hq⟩ := szCellS_ev l hl hg (a - (key.size : Int)) (by omega) (by omega)
    rcases hq with hq | ⟨q0, q1, q2, q3⟩
    · refine ⟨-1, Ev.bind hr ?_, .inl rfl⟩
      simp only [hq, if_pos (show (-1 : Int) < 0 by omega)]; exact Ev.now _
    · refine ⟨r, Ev.bind hr ?_, .inr ⟨q0, by omega, by omega, q2, q3⟩⟩
      simp only [if_neg (show ¬ r < 0 by omega)]; exact Ev.now _

def cCell (x : S75) : S64 := ⟨x.f0, x.f1⟩

theorem take_set_succ {α : Type} (l m : List α) (i : Nat) (v : α) (hl : i < l.length) (hm : i < m.length) (hv : m[i] = v) (h : l.take i = m.take i) : (l.set i v).take (i + 1) = m.take (i + 1) := by
  rw [List.take_add_one, List.take_add_one, List.take_set_of_le (Nat.le_refl _), h]
  congr 1
  rw [List.getElem?_set_self hl, List.getElem?_eq_getElem hm, hv]

theorem toNat_cast (i : Nat) : ((i : Int)).toNat = i := by simp

theorem toCellS_l0 (l : List S75) (hn : l.length ≤ 1048576) : ∀ (d i : Nat) (acc : List S64), i + d = l.length → acc.length = l.length → acc.take i = (l.map cCell).take i →
    Ev (fun k => laws_toCellS.l0 k l acc (i : Int)) (l.map cCell) := by
  intro d
  induction d with
  | zero =>
    intro i acc hi hl ht
    refine Ev.step (fun k => laws_toCellS.l0.eq_2 _ _ _ _) ?_
    simp only [if_neg (show ¬ ((i : Int) < (l.length : Int)) by omega)]
    have : acc = l.map cCell := by rw [List.take_of_length_le (by omega), List.take_of_length_le (by rw [List.length_map]; omega)] at ht; exact ht
    rw [this]; exact Ev.now _
  | succ d ih =>
    intro i acc hi hl ht
    refine Ev.step (fun k => laws_toCellS.l0.eq_2 _ _ _ _) ?_
    simp only [if_pos (show ((i : Int) < (l.length : Int)) by omega), if_pos (show 0 ≤ (i : Int) by omega), laws_toCell.f, Option.bind_some, if_pos (show ((i : Int) < (acc.length : Int)) by omega), wsucc i (by omega), toNat_cast, rdl_Cell l i (by omega)]
    exact ih (i + 1) _ (by omega) (by simp [hl]) (take_set_succ _ _ _ _ (by omega) (by rw [List.length_map]; omega) (by rw [List.getElem_map]; rfl) ht)

theorem toCellS_ev (l : List S75) (hn : l.length ≤ 1048576) : Ev (fun k => laws_toCellS.f k l) (l.map cCell) := by
  simp only [laws_toCellS.f, if_pos (show 0 ≤ (l.length : Int) by omega), toNat_cast]
  refine Ev.congr (f := fun k => laws_toCellS.l0 k l (List.replicate l.length z64) 0) (fun k => if_pos (by omega)) ?_
  exact toCellS_l0 l hn l.length 0 _ (by omega) (by simp) rfl

theorem toDoc_ev (key : ByteArray) (l : List S75) (hn : l.length ≤ 1048576) : Ev (fun k => laws_toDoc.f k key l) (key, l.map cCell) := by
  simp only [laws_toDoc.f]
  exact Ev.bind (toCellS_ev l hn) (Ev.now _)

theorem FnExactDocText : laws_FnExactDocText.PureX := by
  intro key l name hk hl hn
  have hm : maxLen = 9223372036854775807 := rfl
  refine Ev.rounds (g := fun k => laws_FnExactDocText.f k key l name) ?_
  simp only [laws_FnExactDocText.f]
  by_cases hg : (name.size : Int) > 1048576
  · simp only [if_pos hg]; exact Ev.now _
  simp only [if_neg hg]
  obtain ⟨r, hr, hq⟩ := szDoc_ev key l (by omega) (by omega) (fun x hx => by have := hl.2 x hx; unfold wideCell; exact ⟨by have := this.1; omega, by have := this.2; omega⟩) 1048576 (by omega) (by omega)
  refine Ev.bind hr ?_
  rcases hq with hq | ⟨q0, q1, q2, q3, q4⟩
  · simp only [hq, if_pos (show (-1 : Int) < 0 by omega)]; exact Ev.now _
  simp only [if_neg (show ¬ r < 0 by omega)]
  have hlen : (l.map cCell).length < 4611686018427387904 := by rw [List.length_map]; omega
  refine Ev.bind (toDoc_ev key l q3) ?_
  refine Ev.bind (spec_DocText_ev name key _ hlen) ?_
  refine Ev.bind (toDoc_ev key l q3) ?_
  refine Ev.bind (impl_DocText_ev name key _ hlen) ?_
  simp only [if_true, bne_self_eq_false]
  refine Ev.step (fun k => laws_FnExactDocText.j0.eq_2 _ _ _ _ _ _) ?_
  simp only [if_neg (show ¬ (false = true) by decide)]
  refine Ev.bind (toDoc_ev key l q3) ?_
  refine Ev.bind (eqDoc_refl _ _ hlen) ?_
  simp only [if_true]
  exact Ev.now _

end Go.Proofs.Ytalddeknbjfgcaa.Pure
