/- The plain law of FnDocOk: whatever the input, the printed function of this law answers true after enough rounds; conditions: only the sizes and kinds that the law's Pure states. -/
import Derived.Test.YtelcdhjdlgedeaaDoorVSFnDocOk
import Derived.Lib.IndexBytes
import Derived.Lib.SplitLaws
import Derived.Lib.AtoiAllCases
import Derived.Lib.ItoaNum
import Derived.Lib.Strings
namespace Go.Proofs.YtelcdhjdlgedeaaDoor.Pure
open Go.RowKit Go.Proofs.YtelcdhjdlgedeaaDoor.PFnDocOk Go.Proofs.YtelcdhjdlgedeaaDoorW.PrintWords Go.Proofs.YtelcdhjdlgedeaaDoorW.PrintLast Go.Proofs.YtelcdhjdlgedeaaDoorW.PrintMore
set_option linter.unusedVariables false
set_option linter.unusedSimpArgs false

def fieldP (f : S75) : Prop := (f.f1 = 1 ∧ 1 ≤ f.f2 ∧ f.f2 ≤ 9) ∨ (2 ≤ f.f1 ∧ f.f1 ≤ 3 ∧ f.f2 = 0)

def digP (c : Int) : Prop := 48 ≤ c ∧ c ≤ 57
instance (c : Int) : Decidable (digP c) := by unfold digP; infer_instance

def lowP (c : Int) : Prop := 97 ≤ c ∧ c ≤ 122
instance (c : Int) : Decidable (lowP c) := by unfold lowP; infer_instance

def nameFrom (l : List Int) (j : Nat) : Prop := (∀ (i : Nat) (h : i < l.length), j ≤ i → lowP l[i] ∨ (0 < i ∧ digP l[i])) ∧ 1 ≤ l.length ∧ l.length ≤ 8

def fieldsFrom (l : List S75) (j : Nat) : Prop := (∀ (i : Nat) (h : i < l.length), j ≤ i → nameFrom (bytesOf l[i].f0) 0 ∧ fieldP l[i] ∧ ∀ m (hm : m < i), l[m].f0 ≠ l[i].f0) ∧ 1 ≤ l.length ∧ l.length ≤ 4

open Classical in
noncomputable def fieldsB (l : List S75) : Bool := decide (fieldsFrom l 0)

theorem toNat_cast (i : Nat) : ((i : Int)).toNat = i := by simp

theorem wrap_id {x : Int} (h0 : -9223372036854775808 ≤ x) (h1 : x ≤ 9223372036854775807) : wrap64 x = x := by unfold wrap64; omega

open Classical in
noncomputable def nameB (l : List Int) : Bool := decide (nameFrom l 0)

def lessT (a b : ByteArray) : Prop := Op.bytesLess a.toList b.toList = true

def seenP (c : Int) : Prop := 32 ≤ c ∧ c ≤ 126

open Classical in
noncomputable def plainB (s : ByteArray) (m : Int) : Bool := decide ((∀ c ∈ bytesOf s, seenP c) ∧ (s.size : Int) ≤ m)

/-- From place j on each cell has a name and a text, and the names rise; the key is a name; there are at most four cells. -/
def formFrom (key : ByteArray) (l : List S46) (j : Nat) : Prop := (∀ (i : Nat) (h : i < l.length), j ≤ i → nameB (bytesOf l[i].f0) = true ∧ plainB l[i].f1 60 = true ∧ ∀ h0 : 0 < i, lessT (l[i - 1]'(by omega)).f0 l[i].f0) ∧ nameB (bytesOf key) = true ∧ l.length ≤ 4

open Classical in
noncomputable def formB (key : ByteArray) (l : List S46) : Bool := decide (formFrom key l 0)

/-- The tags of a text are names. -/
def namesP (l : List ByteArray) : Prop := ∀ x ∈ l, nameB (bytesOf x) = true

/-- A text cut at a byte, so many times at most; acc: what stands of the first piece. -/
def cutW (c : UInt8) : Nat → List UInt8 → List UInt8 → List (List UInt8)
  | _, acc, [] => [acc]
  | 0, acc, x :: xs => [acc ++ x :: xs]
  | n + 1, acc, x :: xs => if x = c then acc :: cutW c n [] xs else cutW c (n + 1) (acc ++ [x]) xs

def mkT (l : List UInt8) : ByteArray := ⟨l.toArray⟩

/-- The pieces of a text between the bytes c. -/
def splitT (c : UInt8) (s : ByteArray) : List ByteArray := (cutW c (s.data.toList.count c) [] s.data.toList).map mkT

def tagsP (s : ByteArray) : Prop := namesP (splitT 44 s) ∧ (splitT 44 s).length ≤ 4

/-- The number that a text is: it is written just so, and lies between the bounds. -/
def numB (s : ByteArray) : Int × Bool := match Lib.atoiAll s.data.toList with
  | .ok n => if -999999999 ≤ n ∧ n ≤ 999999999 ∧ Lib.itoa n = s.data.toList then (n, true) else (0, false)
  | _ => (0, false)

/-- What a cell's text must be, by its field's kind. -/
def cellK (kind : Int) (s : ByteArray) : Prop := kind = 1 ∨ (kind = 2 ∧ (numB s).2 = true) ∨ (kind = 3 ∧ tagsP s)

/-- The field of a name: the first; without one, of kind nought. -/
def fieldAt (n : ByteArray) : List S75 → ByteArray × Int × Int
  | [] => (⟨#[]⟩, 0, 0)
  | f :: F => if f.f0 = n then (f.f0, f.f1, f.f2) else fieldAt n F

def kindOf (F : List S75) (n : ByteArray) : Int := (fieldAt n F).2.1

def docOkP (F : List S75) (key : ByteArray) (l : List S46) : Prop := fieldsB F = true ∧ formB key l = true ∧ ∀ c ∈ l, cellK (kindOf F c.f0) c.f1

open Classical in
noncomputable def docOkB (F : List S75) (key : ByteArray) (l : List S46) : Bool := decide (docOkP F key l)

theorem rdi_Cell (l : List S46) (j : Nat) (h : j < l.length) : rd_T46 l (j : Int) = l[j] := by
  unfold rd_T46; simp [List.getD_eq_getElem?_getD, List.getElem?_eq_getElem h]

theorem ev_false {g : Nat → Option Bool} {p : Prop} [Decidable p] (h : ¬ p) (k : Ev g false) : Ev g (decide p) := by
  rw [decide_eq_false h]; exact k

theorem ev_prop {g : Nat → Option Bool} {p q : Prop} [Decidable p] [Decidable q] (h : p ↔ q) (k : Ev g (decide p)) : Ev g (decide q) := by
  have : decide p = decide q := decide_eq_decide.2 h
  rw [← this]; exact k

theorem wsucc (j : Nat) (h : j < 9223372036854775807) : wrap64 ((j : Int) + 1) = ((j + 1 : Nat) : Int) := by rw [wrap_id (by omega) (by omega)]; omega

theorem formFrom_end {key : ByteArray} {l : List S46} {j : Nat} (hj : l.length ≤ j) : formFrom key l j ↔ nameB (bytesOf key) = true ∧ l.length ≤ 4 := ⟨fun h => h.2, fun h => ⟨fun i hi hji => by omega, h⟩⟩

theorem formFrom_step {key : ByteArray} {l : List S46} {j : Nat} (hj : j < l.length) : formFrom key l j ↔ (nameB (bytesOf l[j].f0) = true ∧ plainB l[j].f1 60 = true ∧ ∀ h0 : 0 < j, lessT (l[j - 1]'(by omega)).f0 l[j].f0) ∧ formFrom key l (j + 1) := by
  constructor
  · rintro ⟨h, h2⟩
    exact ⟨h j hj (Nat.le_refl _), fun i hi hji => h i hi (by omega), h2⟩
  · rintro ⟨h, h1, h2⟩
    refine ⟨fun i hi hji => ?_, h2⟩
    rcases Nat.lt_or_ge j i with hlt | hge
    · exact h1 i hi hlt
    · obtain rfl : i = j := by omega
      exact h

theorem nameFrom_end {l : List Int} {j : Nat} (hj : l.length ≤ j) : nameFrom l j ↔ 1 ≤ l.length ∧ l.length ≤ 8 := ⟨fun h => h.2, fun h => ⟨fun i hi hji => by omega, h⟩⟩

theorem nameFrom_step {l : List Int} {j : Nat} (hj : j < l.length) : nameFrom l j ↔ (lowP l[j] ∨ (0 < j ∧ digP l[j])) ∧ nameFrom l (j + 1) := by
  constructor
  · rintro ⟨h, h2⟩
    exact ⟨h j hj (Nat.le_refl _), fun i hi hji => h i hi (by omega), h2⟩
  · rintro ⟨h, h1, h2⟩
    refine ⟨fun i hi hji => ?_, h2⟩
    rcases Nat.lt_or_ge j i with hlt | hge
    · exact h1 i hi hlt
    · obtain rfl : i = j := by omega
      exact h

theorem rd_get (l : List Int) (j : Nat) (h : j < l.length) : rd l (j : Int) = l[j] := by
  unfold rd; simp [List.getD_eq_getElem?_getD, List.getElem?_eq_getElem h]

theorem bt_get (s : ByteArray) (j : Nat) (h : j < (bytesOf s).length) : bt s (j : Int) = (bytesOf s)[j] := by
  rw [← rd_bytesOf, rd_get _ _ h]

theorem ev_eq {α : Type} {g : Nat → Option α} {r : α} (h : ∀ k, g k = some r) : Ev g r := ⟨0, fun k _ => h k⟩

theorem impl_digit_eq (a : Int) : impl_digit.f a = some (decide (digP a)) := by
  unfold impl_digit.f digP
  by_cases h : a ≥ 48
  · rw [if_pos h]; congr 1; exact decide_eq_decide.2 (by omega)
  · rw [if_neg h]; congr 1; symm; exact decide_eq_false (by omega)

theorem impl_lower_eq (a : Int) : impl_lower.f a = some (decide (lowP a)) := by
  unfold impl_lower.f lowP
  by_cases h : a ≥ 97
  · rw [if_pos h]; congr 1; exact decide_eq_decide.2 (by omega)
  · rw [if_neg h]; congr 1; symm; exact decide_eq_false (by omega)

theorem impl_within_eq (a b c : Int) : impl_within.f a b c = some (decide (b ≤ a ∧ a ≤ c)) := by
  unfold impl_within.f
  by_cases h : a ≥ b
  · rw [if_pos h]; congr 1; exact decide_eq_decide.2 ⟨fun h2 => ⟨h, h2⟩, fun h2 => h2.2⟩
  · rw [if_neg h]; congr 1; symm; exact decide_eq_false (fun h2 => h h2.1)

open Classical in
theorem impl_NameOk_l0 (s : ByteArray) (hn : s.size < 4611686018427387904) : ∀ (d i : Nat), i + d = s.size → Ev (fun k => impl_NameOk.l0 k s (s.size : Int) (i : Int)) (decide (nameFrom (bytesOf s) i)) := by
  have hb := bytesOf_length s
  intro d
  induction d with
  | zero =>
    intro i hi
    refine Ev.step (fun k => impl_NameOk.l0.eq_2 _ _ _ _) ?_
    simp only [if_neg (show ¬ ((i : Int) < (s.size : Int)) by omega), impl_within_eq, Option.bind_some]
    refine ev_prop (nameFrom_end (by omega)).symm ?_
    refine ev_eq fun _ => ?_
    congr 1; exact decide_eq_decide.2 (by omega)
  | succ d ih =>
    intro i hi
    have hs := nameFrom_step (l := bytesOf s) (j := i) (by omega)
    refine Ev.step (fun k => impl_NameOk.l0.eq_2 _ _ _ _) ?_
    simp only [if_pos (show ((i : Int) < (s.size : Int)) by omega), if_pos (show 0 ≤ (i : Int) by omega), wsucc i (by omega), bt_get s i (by omega), impl_lower_eq, impl_digit_eq, Option.bind_some, decide_eq_true_eq]
    by_cases h1 : lowP (bytesOf s)[i]
    · simp only [if_pos h1]
      exact ev_prop (hs.trans ⟨fun h => h.2, fun h => ⟨.inl h1, h⟩⟩).symm (ih (i + 1) (by omega))
    · simp only [if_neg h1]
      by_cases h0 : (i : Int) = 0
      · simp only [if_pos h0]
        have : decide (nameFrom (bytesOf s) i) = false := decide_eq_false (fun h => by rcases (hs.1 h).1 with h2 | h2; exact h1 h2; omega)
        rw [this]; exact Ev.now _
      · simp only [if_neg h0]
        by_cases h2 : digP (bytesOf s)[i]
        · simp only [if_pos h2]
          exact ev_prop (hs.trans ⟨fun h => h.2, fun h => ⟨.inr ⟨by omega, h2⟩, h⟩⟩).symm (ih (i + 1) (by omega))
        · simp only [if_neg h2]
          have : decide (nameFrom (bytesOf s) i) = false := decide_eq_false (fun h => by rcases (hs.1 h).1 with h3 | h3; exact h1 h3; exact h2 h3.2)
          rw [this]; exact Ev.now _

theorem impl_NameOk_ev (s : ByteArray) (hn : s.size < 4611686018427387904) : Ev (fun k => impl_NameOk.f k s) (nameB (bytesOf s)) := impl_NameOk_l0 s hn s.size 0 (by omega)

theorem bytesOf_range (s : ByteArray) : ∀ c ∈ bytesOf s, 0 ≤ c ∧ c ≤ 255 := by
  intro c hc
  obtain ⟨b, _, rfl⟩ := List.mem_map.1 hc
  have := b.toNat_lt
  omega

theorem bt_wrap (s : ByteArray) (j : Nat) (h : j < (bytesOf s).length) : wrap64 (bt s (j : Int)) = (bytesOf s)[j] := by
  rw [bt_get s j h]
  have := bytesOf_range s _ (List.getElem_mem h)
  exact wrap_id (by omega) (by omega)

open Classical in
theorem impl_plain_l0 (s : ByteArray) (m : Int) (hs : s.size < 4611686018427387904) : ∀ (d i : Nat), i + d = s.size → Ev (fun k => impl_plain.l0 k s m (s.size : Int) (i : Int)) (decide ((∀ c ∈ (bytesOf s).drop i, seenP c) ∧ (s.size : Int) ≤ m)) := by
  have hlen := bytesOf_length s
  intro d
  induction d with
  | zero =>
    intro i hi
    refine Ev.step (fun k => impl_plain.l0.eq_2 _ _ _ _ _) ?_
    simp only [if_neg (show ¬ ((i : Int) < (s.size : Int)) by omega)]
    refine ev_prop ?_ (Ev.now _)
    rw [List.drop_eq_nil_of_le (by omega)]
    exact ⟨fun h => ⟨fun c hc => by simp at hc, h⟩, fun h => h.2⟩
  | succ d ih =>
    intro i hi
    refine Ev.step (fun k => impl_plain.l0.eq_2 _ _ _ _ _) ?_
    simp only [if_pos (show ((i : Int) < (s.size : Int)) by omega), if_pos (show 0 ≤ (i : Int) by omega), bt_wrap s i (by omega), impl_within_eq, Option.bind_some, decide_eq_true_eq, wsucc i (by omega)]
    have e := List.drop_eq_getElem_cons (l := bytesOf s) (i := i) (by omega)
    by_cases hw : 32 ≤ (bytesOf s)[i] ∧ (bytesOf s)[i] ≤ 126
    · simp only [if_pos hw]
      refine ev_prop ?_ (ih (i + 1) (by omega))
      rw [e]
      constructor
      · rintro ⟨h1, h2⟩
        exact ⟨fun c hc => by rcases List.mem_cons.1 hc with h | h; exact h ▸ hw; exact h1 c h, h2⟩
      · rintro ⟨h1, h2⟩
        exact ⟨fun c hc => h1 c (List.mem_cons_of_mem _ hc), h2⟩
    · simp only [if_neg hw]
      refine ev_false (fun h => hw (h.1 _ ?_)) (Ev.now _)
      rw [e]; exact List.mem_cons_self ..

theorem impl_plain_ev (s : ByteArray) (m : Int) (hs : s.size < 4611686018427387904) : Ev (fun k => impl_plain.f k s m) (plainB s m) := by
  simp only [impl_plain.f, plainB]
  exact impl_plain_l0 s m hs s.size 0 (by omega)

theorem impl_textOk_ev (s : ByteArray) (hs : s.size < 4611686018427387904) : Ev (fun k => impl_textOk.f k s) (plainB s 60) := by
  simp only [impl_textOk.f]
  exact Ev.bind (impl_plain_ev s 60 hs) (Ev.now _)

open Classical in
theorem impl_wellFormed_l0 (key : ByteArray) (l : List S46) (hk : key.size ≤ 1048576) (hn : l.length ≤ 1048576) (hs : ∀ x ∈ l, x.f0.size ≤ 1048576 ∧ x.f1.size ≤ 1048576) : ∀ (d i : Nat), i + d = l.length →
    Ev (fun k => impl_wellFormed.l0 k l (l.length : Int) (i : Int) key l) (decide (formFrom key l i)) := by
  intro d
  induction d with
  | zero =>
    intro i hi
    refine Ev.step (fun k => impl_wellFormed.l0.eq_2 _ _ _ _ _ _) ?_
    simp only [if_neg (show ¬ ((i : Int) < (l.length : Int)) by omega)]
    refine ev_prop (formFrom_end (by omega)).symm ?_
    refine Ev.bind (impl_NameOk_ev key (by omega)) ?_
    cases hnm : nameB (bytesOf key) with
    | false => simp only [if_neg (show ¬ (false = true) by decide)]; exact ev_false (fun h => by cases h.1) (Ev.now _)
    | true =>
      simp only [if_true]
      exact ev_prop ⟨fun h => ⟨(by first | trivial | rfl), by omega⟩, fun h => by have := h.2; omega⟩ (Ev.now _)
  | succ d ih =>
    intro i hi
    have hst := formFrom_step (key := key) (l := l) (j := i) (by omega)
    have hsz := hs l[i] (List.getElem_mem _)
    have hnext := ih (i + 1) (by omega)
    refine Ev.step (fun k => impl_wellFormed.l0.eq_2 _ _ _ _ _ _) ?_
    simp only [if_pos (show ((i : Int) < (l.length : Int)) by omega), if_pos (show 0 ≤ (i : Int) by omega), rdi_Cell l i (by omega), wsucc i (by omega)]
    refine Ev.bind (impl_NameOk_ev l[i].f0 (by omega)) ?_
    cases hnm : nameB (bytesOf l[i].f0) with
    | false => simp only [if_neg (show ¬ (false = true) by decide)]; exact ev_false (fun h => by have := (hst.1 h).1.1; rw [hnm] at this; cases this) (Ev.now _)
    | true =>
      simp only [if_true]
      refine Ev.bind (impl_textOk_ev l[i].f1 (by omega)) ?_
      cases htx : plainB l[i].f1 60 with
      | false => simp only [if_neg (show ¬ (false = true) by decide)]; exact ev_false (fun h => by have := (hst.1 h).1.2.1; rw [htx] at this; cases this) (Ev.now _)
      | true =>
        simp only [if_true]
        by_cases h0 : (i : Int) > 0
        · have he : wrap64 ((i : Int) - 1) = ((i - 1 : Nat) : Int) := by rw [wrap_id (by omega) (by omega)]; omega
          simp only [if_pos h0, he, if_pos (show 0 ≤ ((i - 1 : Nat) : Int) by omega), if_pos (show ((i - 1 : Nat) : Int) < (l.length : Int) by omega), rdi_Cell l (i - 1) (by omega)]
          by_cases hl : lessT (l[i - 1]'(by omega)).f0 l[i].f0
          · have hl2 : Op.bytesLess (l[i - 1]'(by omega)).f0.toList l[i].f0.toList = true := hl
            simp only [hl2, if_true]
            exact ev_prop (hst.trans ⟨fun h => h.2, fun h => ⟨⟨hnm, htx, fun _ => hl⟩, h⟩⟩).symm hnext
          · have hl2 : Op.bytesLess (l[i - 1]'(by omega)).f0.toList l[i].f0.toList = false := Bool.eq_false_iff.2 hl
            simp only [hl2, if_neg (show ¬ (false = true) by decide)]
            exact ev_false (fun h => hl ((hst.1 h).1.2.2 (by omega))) (Ev.now _)
        · simp only [if_neg h0]
          exact ev_prop (hst.trans ⟨fun h => h.2, fun h => ⟨⟨hnm, htx, fun h1 => by omega⟩, h⟩⟩).symm hnext

theorem impl_wellFormed_ev (key : ByteArray) (l : List S46) (hk : key.size ≤ 1048576) (hn : l.length ≤ 1048576) (hs : ∀ x ∈ l, x.f0.size ≤ 1048576 ∧ x.f1.size ≤ 1048576) : Ev (fun k => impl_wellFormed.f k key l) (formB key l) := impl_wellFormed_l0 key l hk hn hs l.length 0 (by omega)

theorem ev_falseI {g : Nat → Option Bool} {p : Prop} {ip : Decidable p} (h : ¬ p) (k : Ev g false) : Ev g (@decide p ip) := by
  rw [decide_eq_false h]; exact k

theorem ev_propI {g : Nat → Option Bool} {p q : Prop} {ip : Decidable p} {iq : Decidable q} (h : p ↔ q) (k : Ev g (@decide p ip)) : Ev g (@decide q iq) := by
  have e : @decide p ip = @decide q iq := decide_eq_decide.2 h
  rw [← e]; exact k

theorem drop_get {α : Type} (l : List α) (j : Nat) (h : j < l.length) : l.drop j = l[j] :: l.drop (j + 1) := List.drop_eq_getElem_cons h

def cellsP (F : List S75) (l : List S46) : Prop := ∀ c ∈ l, cellK (kindOf F c.f0) c.f1

theorem ev_trueI {g : Nat → Option Bool} {p : Prop} {ip : Decidable p} (h : p) (k : Ev g true) : Ev g (@decide p ip) := by
  rw [decide_eq_true h]; exact k

theorem rdi_Field (l : List S75) (j : Nat) (h : j < l.length) : rd_T75 l (j : Int) = l[j] := by
  unfold rd_T75; simp [List.getD_eq_getElem?_getD, List.getElem?_eq_getElem h]

theorem toList_data (s : ByteArray) : s.toList = s.data.toList := by
  exact ByteArray.toList_eq s

theorem toList_inj {a b : ByteArray} : a.toList = b.toList ↔ a = b := by
  rw [toList_data, toList_data]
  constructor
  · intro h; exact ByteArray.ext (Array.toList_inj.1 h)
  · rintro rfl; rfl

theorem impl_fieldOf_l0 (n : ByteArray) (F : List S75) (hn : F.length < 4611686018427387904) : ∀ (d i : Nat), i + d = F.length → Ev (fun k => impl_fieldOf.l0 k n F (F.length : Int) (i : Int)) (fieldAt n (F.drop i)) := by
  intro d
  induction d with
  | zero =>
    intro i hi
    refine Ev.step (fun k => impl_fieldOf.l0.eq_2 _ _ _ _ _) ?_
    simp only [if_neg (show ¬ ((i : Int) < (F.length : Int)) by omega)]
    rw [List.drop_eq_nil_of_le (by omega)]
    exact Ev.now _
  | succ d ih =>
    intro i hi
    have hil : i < F.length := by omega
    refine Ev.step (fun k => impl_fieldOf.l0.eq_2 _ _ _ _ _) ?_
    rw [drop_get F i hil]
    simp only [if_pos (show ((i : Int) < (F.length : Int)) by omega), if_pos (show 0 ≤ (i : Int) by omega), rdi_Field F i hil, toList_inj, wsucc i (by omega), fieldAt]
    by_cases h : F[i].f0 = n
    · simp only [if_pos h]; exact Ev.now _
    · simp only [if_neg h]; exact ih (i + 1) (by omega)

theorem impl_fieldOf_ev (n : ByteArray) (F : List S75) (hn : F.length < 4611686018427387904) : Ev (fun k => impl_fieldOf.f k F n) (fieldAt n F) := by
  have := impl_fieldOf_l0 n F hn F.length 0 (by omega)
  simpa [impl_fieldOf.f] using this

theorem rdOf_get {α : Type} (d : α) (l : List α) (j : Nat) (h : j < l.length) : rdOf d l (j : Int) = l[j] := by
  unfold rdOf; simp [List.getD_eq_getElem?_getD, List.getElem?_eq_getElem h]

theorem namesP_cons {x : ByteArray} {l : List ByteArray} : namesP (x :: l) ↔ nameB (bytesOf x) = true ∧ namesP l := by
  unfold namesP
  constructor
  · intro h; exact ⟨h x (by simp), fun y hy => h y (List.mem_cons_of_mem _ hy)⟩
  · rintro ⟨h1, h2⟩ y hy
    rcases List.mem_cons.1 hy with rfl | hy
    · exact h1
    · exact h2 y hy

open Classical in
theorem impl_tagsOk_l0 (L : List ByteArray) (hL : L.length ≤ 1048577) (hx : ∀ x ∈ L, x.size ≤ 1048576) : ∀ (d i : Nat), i + d = L.length → Ev (fun k => impl_tagsOk.l0 k L L (L.length : Int) (i : Int)) (decide (namesP (L.drop i) ∧ L.length ≤ 4)) := by
  intro d
  induction d with
  | zero =>
    intro i hi
    refine Ev.step (fun k => impl_tagsOk.l0.eq_2 _ _ _ _ _) ?_
    simp only [if_neg (show ¬ ((i : Int) < (L.length : Int)) by omega)]
    rw [List.drop_eq_nil_of_le (by omega)]
    refine ev_propI ?_ (Ev.now _)
    exact ⟨fun h => ⟨fun x hx => by simp at hx, by omega⟩, fun h => by have := h.2; omega⟩
  | succ d ih =>
    intro i hi
    have hil : i < L.length := by omega
    have hxi := hx L[i] (List.getElem_mem _)
    refine Ev.step (fun k => impl_tagsOk.l0.eq_2 _ _ _ _ _) ?_
    simp only [if_pos (show ((i : Int) < (L.length : Int)) by omega), if_pos (show 0 ≤ (i : Int) by omega), rdOf_get _ L i hil, wsucc i (by omega)]
    refine Ev.bind (impl_NameOk_ev L[i] (by omega)) ?_
    rw [drop_get L i hil]
    cases hnm : nameB (bytesOf L[i]) with
    | false => simp only [if_neg (show ¬ (false = true) by decide)]; exact ev_falseI (fun h => by have := (namesP_cons.1 h.1).1; rw [hnm] at this; cases this) (Ev.now _)
    | true =>
      simp only [if_true]
      exact ev_propI ⟨fun h => ⟨namesP_cons.2 ⟨hnm, h.1⟩, h.2⟩, fun h => ⟨(namesP_cons.1 h.1).2, h.2⟩⟩ (ih (i + 1) (by omega))

theorem mkT_data (s : ByteArray) : mkT s.data.toList = s := by cases s; rfl

theorem cutW_zero (c : UInt8) (acc l : List UInt8) : cutW c 0 acc l = [acc ++ l] := by cases l <;> simp [cutW]

theorem cutW_run (c : UInt8) : ∀ (x : List UInt8) (n : Nat) (acc r : List UInt8), c ∉ x → cutW c n acc (x ++ r) = cutW c n (acc ++ x) r
  | [], n, acc, r, _ => by simp
  | a :: x, 0, acc, r, _ => by rw [cutW_zero, cutW_zero]; simp
  | a :: x, n + 1, acc, r, h => by
    have h1 : a ≠ c := fun e => h (by simp [e])
    rw [List.cons_append, cutW, if_neg h1, cutW_run c x (n + 1) _ r (fun e => h (List.mem_cons_of_mem _ e))]
    simp

theorem indexByte_at (c : UInt8) (r : List UInt8) : ∀ (x : List UInt8), c ∉ x → Lib.indexByte (x ++ c :: r) c = (x.length : Int)
  | [], _ => by simp [Lib.indexByte]
  | a :: x, h => by
    have ha : a ≠ c := fun e => h (by simp [e])
    have := indexByte_at c r x (fun e => h (List.mem_cons_of_mem _ e))
    simp [Lib.indexByte, this, ha]

theorem indexByte_out (c : UInt8) : ∀ (l : List UInt8), c ∉ l → Lib.indexByte l c = -1
  | [], _ => rfl
  | x :: l, h => by
    have hx : x ≠ c := fun e => h (by simp [e])
    have := indexByte_out c l (fun e => h (List.mem_cons_of_mem _ e))
    simp [Lib.indexByte, this, hx]

theorem splitK_eq (c : UInt8) : ∀ (k : Nat) (l : List UInt8), Lib.splitK [c] 0 k l = cutW c k [] l
  | 0, l => by rw [cutW_zero]; rfl
  | k + 1, l => by
    unfold Lib.splitK
    rw [Lib.index_one]
    by_cases h : c ∈ l
    · obtain ⟨x, r, rfl, hx⟩ := List.eq_append_cons_of_mem h
      rw [indexByte_at c r x hx, if_neg (by simp), splitK_eq c k, cutW_run c x (k + 1) [] _ hx, cutW, if_pos rfl]
      simp
    · rw [indexByte_out c l h, if_pos (by decide)]
      have := cutW_run c l (k + 1) [] [] h
      rw [List.append_nil, List.nil_append] at this
      rw [this]; simp [cutW]

theorem Split_eq (c : UInt8) (s : ByteArray) (hs : s.size < 4294967281) : strings_Split.f s ⟨#[c]⟩ = some (splitT c s) := by
  unfold strings_Split.f
  rw [if_pos ⟨hs, Nat.le_refl _⟩]
  have e : (⟨#[c]⟩ : ByteArray).data.toList = [c] := rfl
  have h1 := Lib.splitB_data ⟨#[c]⟩ 0 (Lib.countB s ⟨#[c]⟩) s
  rw [e, splitK_eq] at h1
  have h2 : Lib.countB s ⟨#[c]⟩ = s.data.toList.count c := by
    show Lib.count s.data.toList [c] = _
    exact Lib.count_one c _
  rw [h2] at h1 ⊢
  unfold splitT
  rw [← h1, List.map_map]
  congr 1
  conv => lhs; rw [← List.map_id (Lib.splitB _ _ _ _)]
  exact List.map_congr_left (fun x _ => (mkT_data x).symm)

theorem cutW_length (c : UInt8) : ∀ (l : List UInt8) (n : Nat) (acc : List UInt8), (cutW c n acc l).length ≤ l.length + 1 ∧ (cutW c n acc l).length ≤ n + 1 ∧ 1 ≤ (cutW c n acc l).length
  | [], n, acc => by simp [cutW]
  | x :: xs, 0, acc => by simp [cutW]
  | x :: xs, n + 1, acc => by
    have h1 := cutW_length c xs n []
    have h2 := cutW_length c xs (n + 1) (acc ++ [x])
    unfold cutW
    split
    · simp only [List.length_cons]; omega
    · simp only [List.length_cons]; omega

theorem data_size (s : ByteArray) : s.data.toList.length = s.size := rfl

theorem splitT_length (c : UInt8) (s : ByteArray) : (splitT c s).length ≤ s.size + 1 ∧ 1 ≤ (splitT c s).length := by
  unfold splitT
  have := cutW_length c s.data.toList (s.data.toList.count c) []
  rw [List.length_map]; rw [data_size] at this; omega

theorem cutW_size (c : UInt8) : ∀ (l : List UInt8) (n : Nat) (acc : List UInt8), ∀ p ∈ cutW c n acc l, p.length ≤ acc.length + l.length
  | [], n, acc => by simp [cutW]
  | x :: xs, 0, acc => by simp [cutW]
  | x :: xs, n + 1, acc => by
    intro p hp
    unfold cutW at hp
    split at hp
    · rcases List.mem_cons.1 hp with rfl | hp
      · omega
      · have := cutW_size c xs n [] p hp
        simp only [List.length_nil, List.length_cons] at this ⊢; omega
    · have := cutW_size c xs (n + 1) (acc ++ [x]) p hp
      simp only [List.length_append, List.length_cons, List.length_nil] at this ⊢; omega

theorem mkT_size (l : List UInt8) : (mkT l).size = l.length := by simp [mkT, ByteArray.size]

theorem splitT_size {c : UInt8} {s p : ByteArray} (h : p ∈ splitT c s) : p.size ≤ s.size := by
  obtain ⟨x, hx, rfl⟩ := List.mem_map.1 h
  have := cutW_size c _ _ _ x hx
  rw [data_size] at this
  rw [mkT_size]; simpa using this

open Classical in
theorem impl_tagsOk_ev (s : ByteArray) (hs : s.size ≤ 1048576) : Ev (fun k => impl_tagsOk.f k s) (decide (tagsP s)) := by
  have hlen := splitT_length 44 s
  simp only [impl_tagsOk.f, Split_eq 44 s (show s.size < 4294967281 by omega), Option.bind_some]
  have h := impl_tagsOk_l0 (splitT 44 s) (by omega) (fun x hx => by have := splitT_size hx; omega) (splitT 44 s).length 0 (by omega)
  rw [List.drop_zero] at h
  exact ev_propI Iff.rfl h

theorem number_eq (s : ByteArray) (hs : s.size ≤ 140737488355328) : impl_number.f s = some (numB s) := by
  unfold impl_number.f
  rw [if_pos hs]; rfl

open Classical in
theorem impl_DocOk_l0 (F : List S75) (hF : F.length ≤ 1048576) (l : List S46) (hn : l.length ≤ 1048576) (hs : ∀ x ∈ l, x.f0.size ≤ 1048576 ∧ x.f1.size ≤ 1048576) : ∀ (d i : Nat), i + d = l.length →
    Ev (fun k => impl_DocOk.l0 k F l (l.length : Int) (i : Int)) (decide (cellsP F (l.drop i))) := by
  intro d
  induction d with
  | zero =>
    intro i hi
    refine Ev.step (fun k => impl_DocOk.l0.eq_2 _ _ _ _ _) ?_
    simp only [if_neg (show ¬ ((i : Int) < (l.length : Int)) by omega)]
    rw [List.drop_eq_nil_of_le (by omega)]
    exact ev_trueI (fun c hc => by simp at hc) (Ev.now _)
  | succ d ih =>
    intro i hi
    have hil : i < l.length := by omega
    have hsz := hs l[i] (List.getElem_mem _)
    have hnx := ih (i + 1) (by omega)
    have yes : cellK (kindOf F l[i].f0) l[i].f1 → Ev (fun k => impl_DocOk.l0 k F l (l.length : Int) ((i + 1 : Nat) : Int)) (decide (cellsP F (l[i] :: l.drop (i + 1)))) := by
      intro h
      refine ev_propI ⟨fun h2 c hc => ?_, fun h2 c hc => h2 c (List.mem_cons_of_mem _ hc)⟩ hnx
      rcases List.mem_cons.1 hc with rfl | hc
      · exact h
      · exact h2 c hc
    have no : ¬ cellK (kindOf F l[i].f0) l[i].f1 → Ev (fun _ : Nat => some false) (decide (cellsP F (l[i] :: l.drop (i + 1)))) := fun h => ev_falseI (fun h2 => h (h2 _ (List.mem_cons_self ..))) (Ev.now _)
    refine Ev.step (fun k => impl_DocOk.l0.eq_2 _ _ _ _ _) ?_
    rw [drop_get l i hil]
    simp only [if_pos (show ((i : Int) < (l.length : Int)) by omega), if_pos (show 0 ≤ (i : Int) by omega), rdi_Cell l i hil, wsucc i (by omega)]
    refine Ev.bind (impl_fieldOf_ev l[i].f0 F (by omega)) ?_
    have hkd : (fieldAt l[i].f0 F).2.1 = kindOf F l[i].f0 := rfl
    rw [hkd]
    by_cases h1 : kindOf F l[i].f0 = 1
    · simp only [if_pos h1]; exact yes (Or.inl h1)
    · simp only [if_neg h1]
      by_cases h2 : kindOf F l[i].f0 = 2
      · simp only [if_pos h2, number_eq l[i].f1 (by omega), Option.bind_some]
        cases hnum : (numB l[i].f1).2 with
        | true => simp only [if_true]; exact yes (Or.inr (Or.inl ⟨h2, hnum⟩))
        | false =>
          simp only [if_neg (show ¬ (false = true) by decide)]
          refine no (fun h => ?_)
          rcases h with h | ⟨_, h⟩ | ⟨h, _⟩
          · exact h1 h
          · rw [hnum] at h; cases h
          · omega
      · simp only [if_neg h2]
        by_cases h3 : kindOf F l[i].f0 = 3
        · simp only [if_pos h3]
          refine Ev.bind (impl_tagsOk_ev l[i].f1 hsz.2) ?_
          by_cases ht : tagsP l[i].f1
          · rw [decide_eq_true ht]; simp only [if_true]; exact yes (Or.inr (Or.inr ⟨h3, ht⟩))
          · rw [decide_eq_false ht]
            simp only [if_neg (show ¬ (false = true) by decide)]
            refine no (fun h => ?_)
            rcases h with h | ⟨h, _⟩ | ⟨_, h⟩
            · exact h1 h
            · exact h2 h
            · exact ht h
        · simp only [if_neg h3]
          refine no (fun h => ?_)
          rcases h with h | ⟨h, _⟩ | ⟨h, _⟩
          · exact h1 h
          · exact h2 h
          · exact h3 h

theorem fieldsFrom_end {l : List S75} {j : Nat} (hj : l.length ≤ j) : fieldsFrom l j ↔ 1 ≤ l.length ∧ l.length ≤ 4 := ⟨fun h => h.2, fun h => ⟨fun i hi hji => by omega, h⟩⟩

theorem fieldsFrom_step {l : List S75} {j : Nat} (hj : j < l.length) : fieldsFrom l j ↔ (nameFrom (bytesOf l[j].f0) 0 ∧ fieldP l[j] ∧ ∀ m (hm : m < j), l[m].f0 ≠ l[j].f0) ∧ fieldsFrom l (j + 1) := by
  constructor
  · rintro ⟨h, h2⟩
    exact ⟨h j hj (Nat.le_refl _), fun i hi hji => h i hi (by omega), h2⟩
  · rintro ⟨h, h1, h2⟩
    refine ⟨fun i hi hji => ?_, h2⟩
    rcases Nat.lt_or_ge j i with hlt | hge
    · exact h1 i hi hlt
    · obtain rfl : i = j := by omega
      exact h

open Classical in
theorem nameB_iff {l : List Int} : nameB l = true ↔ nameFrom l 0 := by unfold nameB; exact decide_eq_true_iff

theorem mem_drop_step {α : Type} {l : List α} {j : Nat} {n : α} (h : j < l.length) : n ∈ l.drop j ↔ n = l[j] ∨ n ∈ l.drop (j + 1) := by
  rw [List.drop_eq_getElem_cons h, List.mem_cons]

theorem rdOf_str (l : List ByteArray) (j : Nat) (h : j < l.length) : rdOf ByteArray.empty l (j : Int) = l[j] := rdOf_get _ l j h

open Classical in
theorem slices_Index_string_string_l0 (l : List ByteArray) (n : ByteArray) (hn : l.length < 4611686018427387904) : ∀ (d i : Nat), i + d = l.length → ∃ r : Int, Ev (fun k => slices_Index_string_string.l0 k l n (l.length : Int) (i : Int)) r ∧ decide (r ≥ 0) = decide (n ∈ l.drop i) := by
  intro d
  induction d with
  | zero =>
    intro i hi
    refine ⟨-1, Ev.step (fun k => slices_Index_string_string.l0.eq_2 _ _ _ _ _) ?_, ?_⟩
    · simp only [if_neg (show ¬ ((i : Int) < (l.length : Int)) by omega)]
      exact Ev.now _
    · rw [List.drop_of_length_le (by omega)]; simp
  | succ d ih =>
    intro i hi
    have hs := mem_drop_step (l := l) (n := n) (show i < l.length by omega)
    by_cases h : n = l[i]
    · refine ⟨(i : Int), Ev.step (fun k => slices_Index_string_string.l0.eq_2 _ _ _ _ _) ?_, ?_⟩
      · simp only [if_pos (show ((i : Int) < (l.length : Int)) by omega), if_pos (show 0 ≤ (i : Int) by omega), rdOf_str l i (by omega), toList_inj, if_pos h]
        exact Ev.now _
      · rw [decide_eq_true (hs.2 (.inl h))]; simp
    · obtain ⟨r, h1, h2⟩ := ih (i + 1) (by omega)
      refine ⟨r, Ev.step (fun k => slices_Index_string_string.l0.eq_2 _ _ _ _ _) ?_, ?_⟩
      · simp only [if_pos (show ((i : Int) < (l.length : Int)) by omega), if_pos (show 0 ≤ (i : Int) by omega), rdOf_str l i (by omega), toList_inj, if_neg h, wsucc i (by omega)]
        exact h1
      · rw [h2]; exact decide_eq_decide.2 (hs.trans ⟨fun h1 => h1.resolve_left h, .inr⟩).symm

open Classical in
theorem slices_Contains_string_string_ev (l : List ByteArray) (n : ByteArray) (hn : l.length < 4611686018427387904) : Ev (fun k => slices_Contains_string_string.f k l n) (decide (n ∈ l)) := by
  obtain ⟨r, h1, h2⟩ := slices_Index_string_string_l0 l n hn l.length 0 (by omega)
  simp only [slices_Contains_string_string.f]
  refine Ev.bind (a := r) h1 ?_
  rw [h2]; exact Ev.now _

open Classical in
theorem impl_FieldsOk_l0 (l : List S75) (hn : l.length ≤ 1048577) (hs : ∀ x ∈ l, x.f0.size ≤ 1048576) : ∀ (d i : Nat), i + d = l.length →
    Ev (fun k => impl_FieldsOk.l0 k l ((l.take i).map (fun x => x.f0)) l (l.length : Int) (i : Int)) (decide (fieldsFrom l i)) := by
  intro d
  induction d with
  | zero =>
    intro i hi
    refine Ev.step (fun k => impl_FieldsOk.l0.eq_2 _ _ _ _ _ _) ?_
    simp only [if_neg (show ¬ ((i : Int) < (l.length : Int)) by omega), impl_within_eq, Option.bind_some]
    refine ev_prop (fieldsFrom_end (by omega)).symm ?_
    refine ev_eq fun _ => ?_
    congr 1; exact decide_eq_decide.2 (by omega)
  | succ d ih =>
    intro i hi
    have hst := fieldsFrom_step (l := l) (j := i) (by omega)
    have hsz := hs l[i] (List.getElem_mem _)
    have hlen : ((l.take i).map (fun x => x.f0)).length = i := by rw [List.length_map, List.length_take]; omega
    have hmem : l[i].f0 ∈ (l.take i).map (fun x => x.f0) ↔ ∃ m, ∃ hm : m < i, l[m].f0 = l[i].f0 := by
      rw [List.mem_map]
      constructor
      · rintro ⟨x, hx, he⟩
        obtain ⟨m, hm, rfl⟩ := List.mem_iff_getElem.1 hx
        rw [List.length_take] at hm
        exact ⟨m, by omega, by rw [← he, List.getElem_take]⟩
      · rintro ⟨m, hm, he⟩
        exact ⟨l[m], List.mem_iff_getElem.2 ⟨m, by rw [List.length_take]; omega, by rw [List.getElem_take]⟩, he⟩
    have hnx : (l.take (i + 1)).map (fun x => x.f0) = (l.take i).map (fun x => x.f0) ++ [l[i].f0] := by
      rw [List.take_add_one, List.getElem?_eq_getElem (by omega), List.map_append]; rfl
    refine Ev.step (fun k => impl_FieldsOk.l0.eq_2 _ _ _ _ _ _) ?_
    simp only [if_pos (show ((i : Int) < (l.length : Int)) by omega), if_pos (show 0 ≤ (i : Int) by omega), rdi_Field l i (by omega), impl_within_eq, Option.bind_some]
    have hj1 : ∀ (t : Bool), ((t = true ∧ 1 ≤ l[i].f1 ∧ l[i].f1 ≤ 3) ↔ fieldP l[i]) → Ev (fun k => impl_FieldsOk.j1 k l ((l.take i).map (fun x => x.f0)) t l (l.length : Int) (i : Int) l[i].f0 l[i].f1 l[i].f2) (decide (fieldsFrom l i)) := by
      intro t ht
      refine Ev.step (fun k => impl_FieldsOk.j1.eq_2 _ _ _ _ _ _ _ _ _ _) ?_
      refine Ev.bind (impl_NameOk_ev l[i].f0 (by omega)) ?_
      cases hnm : nameB (bytesOf l[i].f0) with
      | false =>
        simp only [if_neg (show ¬ (false = true) by decide)]
        refine ev_false (fun h => ?_) (Ev.now _)
        have := nameB_iff.2 (hst.1 h).1.1
        rw [hnm] at this; cases this
      | true =>
        simp only [if_true]
        refine Ev.bind (slices_Contains_string_string_ev _ _ (by rw [hlen]; omega)) ?_
        simp only [decide_eq_true_eq, impl_within_eq, Option.bind_some]
        by_cases hc : l[i].f0 ∈ (l.take i).map (fun x => x.f0)
        · simp only [if_pos hc]
          obtain ⟨m, hm, he⟩ := hmem.1 hc
          exact ev_false (fun h => (hst.1 h).1.2.2 m hm he) (Ev.now _)
        · simp only [if_neg hc]
          by_cases hp : fieldP l[i]
          · obtain ⟨h1, h2⟩ := ht.2 hp
            simp only [if_pos h2, h1, if_true, hlen, if_pos (show i < 8796093022208 by omega), wsucc i (by omega)]
            have hnext := ih (i + 1) (by omega)
            rw [hnx] at hnext
            exact ev_prop (hst.trans ⟨fun h => h.2, fun h => ⟨⟨nameB_iff.1 hnm, hp, fun m hm he => hc (hmem.2 ⟨m, hm, he⟩)⟩, h⟩⟩).symm hnext
          · have hf : Ev (fun _ => some false) (decide (fieldsFrom l i)) := ev_false (fun h => hp (hst.1 h).1.2.1) (Ev.now _)
            by_cases h2 : 1 ≤ l[i].f1 ∧ l[i].f1 ≤ 3
            · have h1 : t = false := by
                cases t
                · rfl
                · exact absurd (ht.1 ⟨rfl, h2⟩) hp
              simp only [if_pos h2, h1, if_neg (show ¬ (false = true) by decide)]; exact hf
            · simp only [if_neg h2]; exact hf
    by_cases h1 : l[i].f1 = 1
    · simp only [if_pos h1]
      refine hj1 _ ?_
      unfold fieldP
      rw [decide_eq_true_eq]
      constructor
      · intro h; exact .inl ⟨h1, h.1⟩
      · intro h
        rcases h with h | h
        · exact ⟨h.2, by omega, by omega⟩
        · omega
    · simp only [if_neg h1]
      refine hj1 _ ?_
      unfold fieldP
      rw [beq_iff_eq]
      constructor
      · intro h; exact .inr ⟨by omega, h.2.2, h.1⟩
      · intro h
        rcases h with h | h
        · exact absurd h.1 h1
        · exact ⟨h.2.2, by omega, h.2.1⟩

theorem impl_FieldsOk_ev (l : List S75) (hn : l.length ≤ 1048577) (hs : ∀ x ∈ l, x.f0.size ≤ 1048576) : Ev (fun k => impl_FieldsOk.f k l) (fieldsB l) := impl_FieldsOk_l0 l hn hs l.length 0 (by omega)

open Classical in
theorem impl_DocOk_ev (F : List S75) (hF : F.length ≤ 1048576) (hFs : ∀ x ∈ F, x.f0.size ≤ 1048576) (key : ByteArray) (l : List S46) (hk : key.size ≤ 1048576) (hn : l.length ≤ 1048576) (hs : ∀ x ∈ l, x.f0.size ≤ 1048576 ∧ x.f1.size ≤ 1048576) : Ev (fun k => impl_DocOk.f k F key l) (docOkB F key l) := by
  simp only [impl_DocOk.f, docOkB]
  have stop : ¬ docOkP F key l → Ev (fun k => impl_DocOk.j0 k F true key l) (decide (docOkP F key l)) := by
    intro h
    refine Ev.step (fun k => impl_DocOk.j0.eq_2 _ _ _ _ _) ?_
    simp only [if_true]
    exact ev_falseI h (Ev.now _)
  refine Ev.bind (impl_FieldsOk_ev F (by omega) hFs) ?_
  cases hf : fieldsB F with
  | false => simp only [if_neg (show ¬ (false = true) by decide)]; exact stop (fun h => by have := h.1; rw [hf] at this; cases this)
  | true =>
    simp only [if_true]
    refine Ev.bind (impl_wellFormed_ev key l hk hn hs) ?_
    cases hm : formB key l with
    | false => exact stop (fun h => by have := h.2.1; rw [hm] at this; cases this)
    | true =>
      simp only [Bool.not_true]
      refine Ev.step (fun k => impl_DocOk.j0.eq_2 _ _ _ _ _) ?_
      simp only [if_neg (show ¬ (false = true) by decide)]
      have h := impl_DocOk_l0 F hF l hn hs l.length 0 (by omega)
      rw [List.drop_zero] at h
      refine ev_propI ?_ h
      unfold docOkP
      exact ⟨fun h => ⟨hf, hm, h⟩, fun h => h.2.2⟩

open Classical in
theorem form_cells {key : ByteArray} {l : List S46} (h : formB key l = true) : (∀ c ∈ l, nameB (bytesOf c.f0) = true ∧ plainB c.f1 60 = true) ∧ nameB (bytesOf key) = true ∧ l.length ≤ 4 := by
  unfold formB at h
  have h1 := decide_eq_true_iff.1 h
  refine ⟨fun c hc => ?_, h1.2⟩
  obtain ⟨i, hi, rfl⟩ := List.mem_iff_getElem.1 hc
  have h2 := h1.1 i hi (Nat.zero_le _)
  exact ⟨h2.1, h2.2.1⟩

theorem spec_l1In_eq (a b c : Int) : spec_l1In.f a b c = some (decide (b ≤ a ∧ a ≤ c)) := by
  unfold spec_l1In.f
  by_cases h : a ≥ b
  · rw [if_pos h]; congr 1; exact decide_eq_decide.2 ⟨fun h2 => ⟨h, h2⟩, fun h2 => h2.2⟩
  · rw [if_neg h]; congr 1; symm; exact decide_eq_false (fun h2 => h h2.1)

open Classical in
theorem spec_NameOk_l0 (s : ByteArray) (hn : s.size < 4611686018427387904) : ∀ (d i : Nat), i + d = s.size → Ev (fun k => spec_NameOk.l0 k s (i : Int)) (decide (nameFrom (bytesOf s) i)) := by
  have hb := bytesOf_length s
  intro d
  induction d with
  | zero =>
    intro i hi
    refine Ev.step (fun k => spec_NameOk.l0.eq_2 _ _ _) ?_
    simp only [if_neg (show ¬ ((i : Int) < (s.size : Int)) by omega), spec_l1In_eq, Option.bind_some]
    refine ev_prop (nameFrom_end (by omega)).symm ?_
    refine ev_eq fun _ => ?_
    congr 1; exact decide_eq_decide.2 (by omega)
  | succ d ih =>
    intro i hi
    have hs := nameFrom_step (l := bytesOf s) (j := i) (by omega)
    refine Ev.step (fun k => spec_NameOk.l0.eq_2 _ _ _) ?_
    simp only [if_pos (show ((i : Int) < (s.size : Int)) by omega), if_pos (show 0 ≤ (i : Int) by omega), wsucc i (by omega), bt_get s i (by omega)]
    by_cases h1 : lowP (bytesOf s)[i]
    · simp only [if_pos (show (bytesOf s)[i] ≥ 97 from h1.1), if_pos h1.2]
      exact ev_prop (hs.trans ⟨fun h => h.2, fun h => ⟨.inl h1, h⟩⟩).symm (ih (i + 1) (by omega))
    · have key : Ev (fun k => if (i : Int) = 0 then some false else if (bytesOf s)[i] < 48 then some false else if (bytesOf s)[i] > 57 then some false else spec_NameOk.l0 k s ((i + 1 : Nat) : Int)) (decide (nameFrom (bytesOf s) i)) := by
        by_cases h0 : (i : Int) = 0
        · simp only [if_pos h0]
          have : decide (nameFrom (bytesOf s) i) = false := decide_eq_false (fun h => by rcases (hs.1 h).1 with h2 | h2; exact h1 h2; omega)
          rw [this]; exact Ev.now _
        · simp only [if_neg h0]
          by_cases h2 : digP (bytesOf s)[i]
          · simp only [if_neg (show ¬ (bytesOf s)[i] < 48 by have := h2.1; omega), if_neg (show ¬ (bytesOf s)[i] > 57 by have := h2.2; omega)]
            exact ev_prop (hs.trans ⟨fun h => h.2, fun h => ⟨.inr ⟨by omega, h2⟩, h⟩⟩).symm (ih (i + 1) (by omega))
          · have : decide (nameFrom (bytesOf s) i) = false := decide_eq_false (fun h => by rcases (hs.1 h).1 with h3 | h3; exact h1 h3; exact h2 h3.2)
            rw [this]
            by_cases h3 : (bytesOf s)[i] < 48
            · simp only [if_pos h3]; exact Ev.now _
            · simp only [if_neg h3, if_pos (show (bytesOf s)[i] > 57 by unfold digP at h2; omega)]; exact Ev.now _
      by_cases h3 : (bytesOf s)[i] ≥ 97
      · simp only [if_pos h3, if_neg (show ¬ (bytesOf s)[i] ≤ 122 by unfold lowP at h1; omega)]; exact key
      · simp only [if_neg h3]; exact key

theorem spec_NameOk_ev (s : ByteArray) (hn : s.size < 4611686018427387904) : Ev (fun k => spec_NameOk.f k s) (nameB (bytesOf s)) := spec_NameOk_l0 s hn s.size 0 (by omega)

open Classical in
theorem spec_l2Text_l0 (s : ByteArray) (hs : s.size < 4611686018427387904) : ∀ (d i : Nat), i + d = s.size → Ev (fun k => spec_l2Text.l0 k s (i : Int)) (decide ((∀ c ∈ (bytesOf s).drop i, seenP c) ∧ (s.size : Int) ≤ 60)) := by
  have hlen := bytesOf_length s
  intro d
  induction d with
  | zero =>
    intro i hi
    refine Ev.step (fun k => spec_l2Text.l0.eq_2 _ _ _) ?_
    simp only [if_neg (show ¬ ((i : Int) < (s.size : Int)) by omega)]
    refine ev_prop ?_ (Ev.now _)
    rw [List.drop_eq_nil_of_le (by omega)]
    exact ⟨fun h => ⟨fun c hc => by simp at hc, h⟩, fun h => h.2⟩
  | succ d ih =>
    intro i hi
    refine Ev.step (fun k => spec_l2Text.l0.eq_2 _ _ _) ?_
    simp only [if_pos (show ((i : Int) < (s.size : Int)) by omega), if_pos (show 0 ≤ (i : Int) by omega), bt_wrap s i (by omega), spec_l1In_eq, Option.bind_some, decide_eq_true_eq, wsucc i (by omega)]
    have e := List.drop_eq_getElem_cons (l := bytesOf s) (i := i) (by omega)
    by_cases hw : 32 ≤ (bytesOf s)[i] ∧ (bytesOf s)[i] ≤ 126
    · simp only [if_pos hw]
      refine ev_prop ?_ (ih (i + 1) (by omega))
      rw [e]
      constructor
      · rintro ⟨h1, h2⟩
        exact ⟨fun c hc => by rcases List.mem_cons.1 hc with h | h; exact h ▸ hw; exact h1 c h, h2⟩
      · rintro ⟨h1, h2⟩
        exact ⟨fun c hc => h1 c (List.mem_cons_of_mem _ hc), h2⟩
    · simp only [if_neg hw]
      refine ev_false (fun h => hw (h.1 _ ?_)) (Ev.now _)
      rw [e]; exact List.mem_cons_self ..

theorem spec_l2Text_ev (s : ByteArray) (hs : s.size < 4611686018427387904) : Ev (fun k => spec_l2Text.f k s) (plainB s 60) := by
  simp only [spec_l2Text.f, plainB]
  exact spec_l2Text_l0 s hs s.size 0 (by omega)

open Classical in
theorem spec_l2Form_l0 (key : ByteArray) (l : List S46) (hk : key.size ≤ 1048576) (hn : l.length ≤ 1048576) (hs : ∀ x ∈ l, x.f0.size ≤ 1048576 ∧ x.f1.size ≤ 1048576) : ∀ (d i : Nat), i + d = l.length →
    Ev (fun k => spec_l2Form.l0 k (i : Int) key l) (decide (formFrom key l i)) := by
  intro d
  induction d with
  | zero =>
    intro i hi
    refine Ev.step (fun k => spec_l2Form.l0.eq_2 _ _ _ _) ?_
    simp only [if_neg (show ¬ ((i : Int) < (l.length : Int)) by omega)]
    refine ev_prop (formFrom_end (by omega)).symm ?_
    refine Ev.bind (spec_NameOk_ev key (by omega)) ?_
    cases hnm : nameB (bytesOf key) with
    | false => simp only [if_neg (show ¬ (false = true) by decide)]; exact ev_false (fun h => by cases h.1) (Ev.now _)
    | true =>
      simp only [if_true]
      exact ev_prop ⟨fun h => ⟨(by first | trivial | rfl), by omega⟩, fun h => by have := h.2; omega⟩ (Ev.now _)
  | succ d ih =>
    intro i hi
    have hst := formFrom_step (key := key) (l := l) (j := i) (by omega)
    have hsz := hs l[i] (List.getElem_mem _)
    have hnext := ih (i + 1) (by omega)
    refine Ev.step (fun k => spec_l2Form.l0.eq_2 _ _ _ _) ?_
    simp only [if_pos (show ((i : Int) < (l.length : Int)) by omega), if_pos (show 0 ≤ (i : Int) by omega), rdi_Cell l i (by omega), wsucc i (by omega)]
    refine Ev.bind (spec_NameOk_ev l[i].f0 (by omega)) ?_
    cases hnm : nameB (bytesOf l[i].f0) with
    | false => simp only [if_neg (show ¬ (false = true) by decide)]; exact ev_false (fun h => by have := (hst.1 h).1.1; rw [hnm] at this; cases this) (Ev.now _)
    | true =>
      simp only [if_true]
      refine Ev.bind (spec_l2Text_ev l[i].f1 (by omega)) ?_
      cases htx : plainB l[i].f1 60 with
      | false => simp only [if_neg (show ¬ (false = true) by decide)]; exact ev_false (fun h => by have := (hst.1 h).1.2.1; rw [htx] at this; cases this) (Ev.now _)
      | true =>
        simp only [if_true]
        by_cases h0 : (i : Int) > 0
        · have he : wrap64 ((i : Int) - 1) = ((i - 1 : Nat) : Int) := by rw [wrap_id (by omega) (by omega)]; omega
          simp only [if_pos h0, he, if_pos (show 0 ≤ ((i - 1 : Nat) : Int) by omega), if_pos (show ((i - 1 : Nat) : Int) < (l.length : Int) by omega), rdi_Cell l (i - 1) (by omega)]
          by_cases hl : lessT (l[i - 1]'(by omega)).f0 l[i].f0
          · have hl2 : Op.bytesLess (l[i - 1]'(by omega)).f0.toList l[i].f0.toList = true := hl
            simp only [hl2, if_true]
            exact ev_prop (hst.trans ⟨fun h => h.2, fun h => ⟨⟨hnm, htx, fun _ => hl⟩, h⟩⟩).symm hnext
          · have hl2 : Op.bytesLess (l[i - 1]'(by omega)).f0.toList l[i].f0.toList = false := Bool.eq_false_iff.2 hl
            simp only [hl2, if_neg (show ¬ (false = true) by decide)]
            exact ev_false (fun h => hl ((hst.1 h).1.2.2 (by omega))) (Ev.now _)
        · simp only [if_neg h0]
          exact ev_prop (hst.trans ⟨fun h => h.2, fun h => ⟨⟨hnm, htx, fun h1 => by omega⟩, h⟩⟩).symm hnext

theorem spec_l2Form_ev (key : ByteArray) (l : List S46) (hk : key.size ≤ 1048576) (hn : l.length ≤ 1048576) (hs : ∀ x ∈ l, x.f0.size ≤ 1048576 ∧ x.f1.size ≤ 1048576) : Ev (fun k => spec_l2Form.f k key l) (formB key l) := spec_l2Form_l0 key l hk hn hs l.length 0 (by omega)

theorem fieldAt_none {n : ByteArray} : ∀ {F : List S75}, (∀ x ∈ F, x.f0 ≠ n) → fieldAt n F = (⟨#[]⟩, 0, 0)
  | [], _ => rfl
  | f :: F, h => by
    rw [fieldAt, if_neg (h f (by simp))]
    exact fieldAt_none (fun x hx => h x (List.mem_cons_of_mem _ hx))

theorem fieldAt_some {n : ByteArray} : ∀ {F : List S75} {j : Nat} (hj : j < F.length), F[j].f0 = n → (∀ m (hm : m < j), F[m].f0 ≠ n) → fieldAt n F = (F[j].f0, F[j].f1, F[j].f2)
  | [], _, hj, _, _ => by simp at hj
  | f :: F, 0, _, h, _ => by
    rw [fieldAt]
    have h' : f.f0 = n := h
    rw [if_pos h']; rfl
  | f :: F, j + 1, hj, h, hb => by
    have h0 : f.f0 ≠ n := hb 0 (by omega)
    rw [fieldAt, if_neg h0]
    exact fieldAt_some (F := F) (j := j) (by simpa using hj) (by simpa using h) (fun m hm => by have := hb (m + 1) (by omega); simpa using this)

def isD (c : UInt8) : Prop := 48 ≤ c.toNat ∧ c.toNat ≤ 57
instance (c : UInt8) : Decidable (isD c) := by unfold isD; infer_instance

def CanonD (l : List UInt8) : Prop := l ≠ [] ∧ (∀ c ∈ l, isD c) ∧ (1 < l.length → l.head? ≠ some 48)

theorem canon_not {l : List UInt8} {i : Nat} (h : i < l.length) (hd : ¬ isD l[i]) : ¬ CanonD l := fun hc => hd (hc.2.1 _ (List.getElem_mem h))

/-- The number that digits spell behind acc. -/
def valD (acc : Nat) (l : List UInt8) : Nat := l.foldl (fun a c => a * 10 + (c.toNat - 48)) acc

theorem valD_append (a : List UInt8) (acc : Nat) (b : List UInt8) : valD acc (a ++ b) = valD (valD acc a) b := by unfold valD; rw [List.foldl_append]

theorem valD_cons (acc : Nat) (c : UInt8) (r : List UInt8) : valD acc (c :: r) = valD (acc * 10 + (c.toNat - 48)) r := by unfold valD; rw [List.foldl_cons]

theorem valD_nil (acc : Nat) : valD acc [] = acc := rfl

theorem valD_step {l : List UInt8} {i : Nat} (h : i < l.length) : valD 0 (l.take (i + 1)) = valD 0 (l.take i) * 10 + (l[i].toNat - 48) := by
  rw [List.take_add_one, List.getElem?_eq_getElem h]
  show valD 0 (l.take i ++ [l[i]]) = _
  rw [valD_append, valD_cons, valD_nil]

theorem bt_u8 (s : ByteArray) (i : Nat) (h : i < s.data.toList.length) : bt s (i : Int) = ((s.data.toList[i]).toNat : Int) := by
  rw [bt_get s i (by rw [bytesOf_length]; exact h)]
  unfold bytesOf
  rw [List.getElem_map]

open Classical in
/-- The number that at most nine figures are; -1 if they are none, more, or have noughts ahead. -/
noncomputable def figB (s : ByteArray) : Int := if CanonD s.data.toList ∧ s.size ≤ 9 then (valD 0 s.data.toList : Int) else -1

theorem valD_lt : ∀ (l : List UInt8) (acc : Nat), (∀ c ∈ l, isD c) → valD acc l < (acc + 1) * 10 ^ l.length
  | [], acc, _ => by rw [valD_nil]; simp
  | c :: l, acc, h => by
    have hc := h c (by simp)
    unfold isD at hc
    have h1 := valD_lt l (acc * 10 + (c.toNat - 48)) (fun x hx => h x (List.mem_cons_of_mem _ hx))
    rw [valD_cons, List.length_cons, Nat.pow_succ, Nat.mul_comm (10 ^ l.length) 10, ← Nat.mul_assoc]
    refine Nat.lt_of_lt_of_le h1 (Nat.mul_le_mul_right _ (by omega))

theorem l1Figures_l0 (s : ByteArray) (hs : s.size ≤ 1099511627776) : ∀ (d i : Nat), i + d = s.size → i ≤ 9 → (∀ c ∈ s.data.toList.take i, isD c) →
    Ev (fun k => spec_l1Figures.l0 k s ((valD 0 (s.data.toList.take i) : Nat) : Int) (i : Int)) (figB s) := by
  have hlen := data_size s
  intro d
  induction d with
  | zero =>
    intro i hi h9 hd
    refine Ev.step (fun k => spec_l1Figures.l0.eq_2 _ _ _ _) ?_
    have et : s.data.toList.take i = s.data.toList := List.take_of_length_le (by omega)
    rw [et] at hd ⊢
    simp only [if_neg (show ¬ ((i : Int) < (s.size : Int)) by omega)]
    by_cases h0 : s.size = 0
    · have e0 : figB s = -1 := by unfold figB; rw [if_neg (fun hc => hc.1.1 (List.length_eq_zero_iff.1 (by omega)))]
      rw [e0]
      simp only [if_pos (show (s.size : Int) = 0 by omega)]
      exact Ev.now _
    · simp only [if_neg (show ¬ (s.size : Int) = 0 by omega)]
      have hne : s.data.toList ≠ [] := fun e => h0 (by rw [← hlen, e]; rfl)
      by_cases h1 : (s.size : Int) > 1
      · have hb := bt_u8 s 0 (by omega)
        have hb0 : bt s 0 = ((s.data.toList[0]'(by omega)).toNat : Int) := hb
        simp only [if_pos h1, if_pos (show 0 < (s.size : Int) by omega), hb0]
        have hh : s.data.toList.head? = some (s.data.toList[0]'(by omega)) := by
          rw [List.head?_eq_getElem?, List.getElem?_eq_getElem]
        by_cases h48 : ((s.data.toList[0]'(by omega)).toNat : Int) = 48
        · have e48 : s.data.toList[0]'(by omega) = 48 := UInt8.toNat_inj.1 (show _ = 48 by omega)
          have e0 : figB s = -1 := by unfold figB; rw [if_neg (fun hc => hc.1.2.2 (by omega) (by rw [hh, e48]))]
          rw [e0]
          simp only [if_pos h48]
          exact Ev.now _
        · have e0 : figB s = ((valD 0 s.data.toList : Nat) : Int) := by unfold figB; rw [if_pos ⟨⟨hne, hd, fun _ he => by rw [hh] at he; exact h48 (by rw [Option.some.inj he]; rfl)⟩, by omega⟩]
          rw [e0]
          simp only [if_neg h48]
          exact Ev.now _
      · have e0 : figB s = ((valD 0 s.data.toList : Nat) : Int) := by unfold figB; rw [if_pos ⟨⟨hne, hd, fun h => by omega⟩, by omega⟩]
        rw [e0]
        simp only [if_neg h1]
        exact Ev.now _
  | succ d ih =>
    intro i hi h9 hd
    have hil : i < s.data.toList.length := by omega
    have hb := bt_u8 s i hil
    refine Ev.step (fun k => spec_l1Figures.l0.eq_2 _ _ _ _) ?_
    simp only [if_pos (show ((i : Int) < (s.size : Int)) by omega), if_pos (show 0 ≤ (i : Int) by omega), hb]
    have hno : ∀ (h : ¬ isD s.data.toList[i]), figB s = -1 := fun h => by unfold figB; rw [if_neg (fun hc => canon_not hil h hc.1)]
    by_cases h1 : ((s.data.toList[i]).toNat : Int) < 48
    · simp only [if_pos h1]
      rw [hno (by unfold isD; omega)]; exact Ev.now _
    · by_cases h2 : ((s.data.toList[i]).toNat : Int) > 57
      · simp only [if_neg h1, if_pos h2]
        rw [hno (by unfold isD; omega)]; exact Ev.now _
      · by_cases h3 : (i : Int) ≥ 9
        · simp only [if_neg h1, if_neg h2, if_pos h3]
          have : figB s = -1 := by unfold figB; rw [if_neg (fun hc => by have := hc.2; omega)]
          rw [this]; exact Ev.now _
        · have hlt := valD_lt (s.data.toList.take i) 0 hd
          have hl1 : (s.data.toList.take i).length = i := by rw [List.length_take]; omega
          rw [hl1] at hlt
          have hp : 10 ^ i ≤ 10 ^ 9 := Nat.pow_le_pow_right (by decide) (by omega)
          have e9 : (10 : Nat) ^ 9 = 1000000000 := by decide
          have hstep := valD_step hil
          have ew : wrap64 (wrap64 (((valD 0 (s.data.toList.take i) : Nat) : Int) * 10) + ((((s.data.toList[i]).toNat : Int) - 48) % 256)) = ((valD 0 (s.data.toList.take (i + 1)) : Nat) : Int) := by
            rw [hstep, wrap_id (x := ((valD 0 (s.data.toList.take i) : Nat) : Int) * 10) (by omega) (by omega), wrap_id (by omega) (by omega)]
            omega
          simp only [if_neg h1, if_neg h2, if_neg h3, ew, wsucc i (by omega)]
          refine ih (i + 1) (by omega) (by omega) (fun c hc => ?_)
          rw [List.take_add_one, List.getElem?_eq_getElem hil] at hc
          rcases List.mem_append.1 hc with h | h
          · exact hd c h
          · have : c = s.data.toList[i] := by simpa using h
            rw [this]; unfold isD; omega

theorem spec_l1Figures_ev (s : ByteArray) (hs : s.size ≤ 1099511627776) : Ev (fun k => spec_l1Figures.f k s) (figB s) := by
  have := l1Figures_l0 s hs s.size 0 (by omega) (by omega) (fun c hc => by simp at hc)
  simpa [spec_l1Figures.f, valD_nil] using this

theorem itoa_nn {n : Int} (h : 0 ≤ n) : Lib.itoa n = Lib.decDigits n.toNat := by unfold Lib.itoa; rw [if_neg (by omega)]

theorem dig_val (v : Nat) (h : v < 10) : (UInt8.ofNat (48 + v)).toNat = 48 + v := by rw [UInt8.toNat_ofNat']; exact Nat.mod_eq_of_lt (by omega)

theorem dec_dig (u : Nat) : ∀ c ∈ Lib.decDigits u, isD c := by
  induction u using Nat.strongRecOn with
  | _ u ih =>
    intro c hc
    unfold isD
    by_cases h : u < 10
    · rw [Lib.decDigits, dif_pos h, List.mem_singleton] at hc
      rw [hc, dig_val u h]; omega
    · rw [Lib.decDigits, dif_neg h] at hc
      rcases List.mem_append.1 hc with h1 | h1
      · exact ih (u / 10) (by omega) c h1
      · rw [List.mem_singleton] at h1
        rw [h1, dig_val (u % 10) (by omega)]; omega

theorem dec_not45 (u : Nat) (t : List UInt8) : Lib.decDigits u ≠ 45 :: t := by
  intro h
  have := dec_dig u 45 (by rw [h]; simp)
  exact absurd this (by decide)

theorem nDigits_le : ∀ (k u : Nat), u < 10 ^ (k + 1) → Lib.nDigits u ≤ k + 1
  | 0, u, h => by rw [Lib.nDigits_small (by simpa using h)]; exact Nat.le_refl _
  | k + 1, u, h => by
    by_cases h1 : u < 10
    · rw [Lib.nDigits_small h1]; omega
    · rw [Lib.nDigits_big h1]
      have := nDigits_le k (u / 10) (by rw [Nat.pow_succ] at h; omega)
      omega

theorem dec_ne (u : Nat) : Lib.decDigits u ≠ [] := by
  intro h
  have h1 := Lib.decDigits_length u
  have h2 := Lib.nDigits_pos u
  rw [h] at h1
  simp at h1; omega

theorem dec_head (u : Nat) : 1 ≤ u → ∀ c r, Lib.decDigits u = c :: r → 49 ≤ c.toNat := by
  induction u using Nat.strongRecOn with
  | _ u ih =>
    intro hu c r he
    by_cases h : u < 10
    · rw [Lib.decDigits, dif_pos h] at he
      have := (List.cons.inj he).1
      rw [← this, dig_val u h]; omega
    · rw [Lib.decDigits, dif_neg h] at he
      obtain ⟨c', r', e'⟩ : ∃ c' r', Lib.decDigits (u / 10) = c' :: r' := by
        cases hd : Lib.decDigits (u / 10) with
        | nil => exact absurd hd (dec_ne _)
        | cons c' r' => exact ⟨c', r', rfl⟩
      have := ih (u / 10) (by omega) (by omega) c' r' e'
      rw [e', List.cons_append] at he
      rw [← (List.cons.inj he).1]; exact this

theorem canon_dec (u : Nat) : CanonD (Lib.decDigits u) := by
  refine ⟨dec_ne u, dec_dig u, fun hl => ?_⟩
  intro he
  have hu : 1 ≤ u := by
    rcases Nat.lt_or_ge u 1 with h | h
    · obtain rfl : u = 0 := by omega
      rw [Lib.decDigits, dif_pos (by omega)] at hl; simp at hl
    · exact h
  cases hd : Lib.decDigits u with
  | nil => exact dec_ne u hd
  | cons c r =>
    have := dec_head u hu c r hd
    rw [hd] at he
    simp at he
    rw [he] at this
    exact absurd this (by decide)

theorem valD_ge : ∀ (l : List UInt8) (acc : Nat), acc ≤ valD acc l
  | [], _ => Nat.le_refl _
  | c :: l, acc => by
    have := valD_ge l (acc * 10 + (c.toNat - 48))
    rw [valD_cons]; omega

theorem dec_of_val : ∀ (n : Nat) (l : List UInt8), l.length = n → CanonD l → Lib.decDigits (valD 0 l) = l
  | 0, l, hn, h => absurd (List.length_eq_zero_iff.1 hn) h.1
  | n + 1, l, hn, h => by
    obtain ⟨a, c, rfl⟩ : ∃ a c, l = a ++ [c] := ⟨l.dropLast, l.getLast h.1, (List.dropLast_concat_getLast h.1).symm⟩
    have hc := h.2.1 c (by simp)
    unfold isD at hc
    have hcc : UInt8.ofNat (48 + (c.toNat - 48)) = c := UInt8.toNat_inj.1 (by rw [dig_val _ (by omega)]; omega)
    have ev : valD 0 (a ++ [c]) = valD 0 a * 10 + (c.toNat - 48) := by rw [valD_append, valD_cons, valD_nil]
    by_cases ha : a = []
    · subst ha
      rw [ev, valD_nil, Nat.zero_mul, Nat.zero_add, Lib.decDigits, dif_pos (by omega), hcc]; rfl
    · obtain ⟨x, r, rfl⟩ : ∃ x r, a = x :: r := by
        cases a with
        | nil => exact absurd rfl ha
        | cons x r => exact ⟨x, r, rfl⟩
      have hx := h.2.1 x (by simp)
      unfold isD at hx
      have hx48 : x ≠ 48 := fun e => h.2.2 (by simp) (by simp [e])
      have hx49 : 49 ≤ x.toNat := by
        rcases Nat.lt_or_ge x.toNat 49 with h1 | h1
        · exact absurd (UInt8.toNat_inj.1 (show x.toNat = (48 : UInt8).toNat by show _ = 48; omega)) hx48
        · exact h1
      have hge := valD_ge r (0 * 10 + (x.toNat - 48))
      have hv : 1 ≤ valD 0 (x :: r) := by rw [valD_cons]; omega
      have hcan : CanonD (x :: r) := ⟨by simp, fun y hy => h.2.1 y (List.mem_append_left _ hy), fun _ => by simpa using hx48⟩
      have ih := dec_of_val n (x :: r) (by simp at hn ⊢; omega) hcan
      rw [ev, Lib.decDigits, dif_neg (by omega), show (valD 0 (x :: r) * 10 + (c.toNat - 48)) / 10 = valD 0 (x :: r) by omega, show (valD 0 (x :: r) * 10 + (c.toNat - 48)) % 10 = c.toNat - 48 by omega, ih, hcc]

theorem dec_val (u : Nat) : valD 0 (Lib.decDigits u) = u := by
  induction u using Nat.strongRecOn with
  | _ u ih =>
    by_cases h : u < 10
    · rw [Lib.decDigits, dif_pos h, valD_cons, valD_nil, dig_val u h]; omega
    · rw [Lib.decDigits, dif_neg h, valD_append, ih (u / 10) (by omega), valD_cons, valD_nil, dig_val (u % 10) (by omega)]; omega

theorem figB_yes {s : ByteArray} {u : Nat} : figB s = (u : Int) ↔ u ≤ 999999999 ∧ Lib.decDigits u = s.data.toList := by
  constructor
  · intro h
    unfold figB at h
    split at h
    · rename_i hc
      have hu : valD 0 s.data.toList = u := by omega
      have hl := valD_lt s.data.toList 0 hc.1.2.1
      have hp : 10 ^ s.data.toList.length ≤ 10 ^ 9 := Nat.pow_le_pow_right (by decide) hc.2
      have e9 : (10 : Nat) ^ 9 = 1000000000 := by decide
      refine ⟨by omega, ?_⟩
      rw [← hu]; exact dec_of_val _ _ rfl hc.1
    · omega
  · rintro ⟨h1, h2⟩
    have hs : s.size ≤ 9 := by
      have h3 := nDigits_le 8 u (by omega)
      rw [← Lib.decDigits_length, h2] at h3; exact h3
    have hcan := canon_dec u
    rw [h2] at hcan
    unfold figB
    rw [if_pos ⟨hcan, hs⟩, ← h2, dec_val]

theorem figB_cases (s : ByteArray) : figB s = -1 ∨ ∃ u : Nat, u ≤ 999999999 ∧ figB s = (u : Int) ∧ Lib.decDigits u = s.data.toList := by
  by_cases h : ∃ u : Nat, figB s = (u : Int)
  · obtain ⟨u, hu⟩ := h
    have := figB_yes.1 hu
    exact Or.inr ⟨u, this.1, hu, this.2⟩
  · refine Or.inl ?_
    unfold figB
    split
    · rename_i hc
      exact absurd ⟨_, show figB s = ((valD 0 s.data.toList : Nat) : Int) by unfold figB; rw [if_pos hc]⟩ h
    · rfl

theorem figB_pos_iff (s : ByteArray) : 0 < figB s ↔ ∃ u : Nat, 1 ≤ u ∧ u ≤ 999999999 ∧ Lib.decDigits u = s.data.toList := by
  constructor
  · intro h
    rcases figB_cases s with h1 | ⟨u, h1, h2, h3⟩
    · omega
    · exact ⟨u, by omega, h1, h3⟩
  · rintro ⟨u, h0, h1, h2⟩
    have := figB_yes.2 (show u ≤ 999999999 ∧ Lib.decDigits u = s.data.toList from ⟨h1, h2⟩)
    omega

theorem itoa_lt {n : Int} (h : n < 0) : Lib.itoa n = 45 :: Lib.decDigits n.natAbs := by unfold Lib.itoa; rw [if_pos h]

theorem parse_val : ∀ (l : List UInt8) (acc : Nat), (∀ c ∈ l, isD c) → valD acc l < 1844674407370955162 → Lib.parseUint10 acc l = .ok (valD acc l)
  | [], _, _, _ => rfl
  | c :: r, acc, h, hv => by
    have hc := h c (by simp)
    unfold isD at hc
    rw [valD_cons] at hv
    have hg := valD_ge r (acc * 10 + (c.toNat - 48))
    rw [Lib.parseUint10, if_pos hc, if_neg (by omega), if_neg (by omega), parse_val r _ (fun x hx => h x (List.mem_cons_of_mem _ hx)) hv, valD_cons]

theorem mag_dec (u : Nat) (h : u ≤ 999999999999) : Lib.parseMag (Lib.decDigits u) = .ok u := by
  unfold Lib.parseMag
  rw [if_neg (dec_ne u), parse_val _ 0 (dec_dig u) (by rw [dec_val]; omega), dec_val]

theorem atoi_dec (u : Nat) (h : u ≤ 999999999999) : Lib.atoiAll (Lib.decDigits u) = .ok (u : Int) := by
  obtain ⟨c, r, e⟩ : ∃ c r, Lib.decDigits u = c :: r := by
    cases hd : Lib.decDigits u with
    | nil => exact absurd hd (dec_ne _)
    | cons c r => exact ⟨c, r, rfl⟩
  have hc := dec_dig u c (by rw [e]; simp)
  unfold isD at hc
  have hm := mag_dec u h
  rw [e] at hm ⊢
  rw [Lib.atoiAll_plain c r (by omega) (by omega), hm]
  simp only [Lib.signless, if_neg (show ¬ 9223372036854775808 ≤ u by omega)]

theorem atoi_neg (u : Nat) (h : u ≤ 999999999999) : Lib.atoiAll (45 :: Lib.decDigits u) = .ok (-(u : Int)) := by
  rw [Lib.atoiAll_minus, mag_dec u h]
  simp only [Lib.signed, if_neg (show ¬ 9223372036854775808 < u by omega)]

theorem atoi_itoa (n : Int) (h0 : -999999999999 ≤ n) (h1 : n ≤ 999999999999) : Lib.atoiAll (Lib.itoa n) = .ok n := by
  unfold Lib.itoa
  by_cases h : n < 0
  · rw [if_pos h, atoi_neg _ (by omega)]; congr 1; omega
  · rw [if_neg h, atoi_dec _ (by omega)]; congr 1; omega

theorem numB_yes {s : ByteArray} {n : Int} : numB s = (n, true) ↔ -999999999 ≤ n ∧ n ≤ 999999999 ∧ Lib.itoa n = s.data.toList := by
  constructor
  · intro h
    unfold numB at h
    split at h
    · split at h
      · rename_i hc; rw [← (Prod.mk.inj h).1]; exact hc
      · cases (Prod.mk.inj h).2
    · cases (Prod.mk.inj h).2
  · rintro ⟨h0, h1, h2⟩
    unfold numB
    rw [← h2, atoi_itoa n (by omega) (by omega)]
    simp only [if_pos (show -999999999 ≤ n ∧ n ≤ 999999999 ∧ True from ⟨h0, h1, trivial⟩)]

theorem numB_ok_iff (s : ByteArray) : (numB s).2 = true ↔ ∃ n : Int, -999999999 ≤ n ∧ n ≤ 999999999 ∧ Lib.itoa n = s.data.toList := by
  constructor
  · intro h
    exact ⟨(numB s).1, numB_yes.1 (by rw [← h])⟩
  · rintro ⟨n, h⟩
    rw [numB_yes.2 h]

theorem num_ok_neg (s r : ByteArray) (h : s.data.toList = 45 :: r.data.toList) : (numB s).2 = true ↔ 0 < figB r := by
  rw [numB_ok_iff, figB_pos_iff]
  constructor
  · rintro ⟨n, h0, h1, h2⟩
    rw [h] at h2
    by_cases hn : n < 0
    · rw [itoa_lt hn] at h2
      exact ⟨n.natAbs, by omega, by omega, (List.cons.inj h2).2⟩
    · rw [itoa_nn (by omega)] at h2
      exact absurd h2 (dec_not45 _ _)
  · rintro ⟨u, h0, h1, h2⟩
    refine ⟨-(u : Int), by omega, by omega, ?_⟩
    rw [itoa_lt (by omega), h, ← h2]
    congr 2; omega

theorem figB_nn_iff (s : ByteArray) : 0 ≤ figB s ↔ ∃ u : Nat, u ≤ 999999999 ∧ Lib.decDigits u = s.data.toList := by
  constructor
  · intro h
    rcases figB_cases s with h1 | ⟨u, h1, h2, h3⟩
    · omega
    · exact ⟨u, h1, h3⟩
  · rintro ⟨u, h1, h2⟩
    have := figB_yes.2 (show u ≤ 999999999 ∧ Lib.decDigits u = s.data.toList from ⟨h1, h2⟩)
    omega

theorem num_ok_pos (s : ByteArray) (h : ∀ t, s.data.toList = 45 :: t → t = []) : (numB s).2 = true ↔ 0 ≤ figB s := by
  rw [numB_ok_iff, figB_nn_iff]
  constructor
  · rintro ⟨n, h0, h1, h2⟩
    by_cases hn : n < 0
    · rw [itoa_lt hn] at h2
      exact absurd (h _ h2.symm) (dec_ne _)
    · rw [itoa_nn (by omega)] at h2
      exact ⟨n.toNat, by omega, h2⟩
  · rintro ⟨u, h1, h2⟩
    exact ⟨(u : Int), by omega, by omega, by rw [itoa_nn (by omega)]; exact h2⟩

theorem spec_l1Number_ev (s : ByteArray) (hs : s.size ≤ 1048576) : ∃ v, Ev (fun k => spec_l1Number.f k s) (v, (numB s).2) := by
  have hlen := data_size s
  simp only [spec_l1Number.f]
  have pos : (∀ t, s.data.toList = 45 :: t → t = []) → ∃ v, Ev (fun k => spec_l1Number.j0 k s false) (v, (numB s).2) := by
    intro h
    refine ⟨figB s, Ev.step (fun k => spec_l1Number.j0.eq_2 _ _ _) ?_⟩
    simp only [if_neg (show ¬ (false = true) by decide)]
    refine Ev.bind (spec_l1Figures_ev s (by omega)) ?_
    have e : decide (figB s ≥ 0) = (numB s).2 := by
      rw [Bool.eq_iff_iff, decide_eq_true_eq]
      exact (num_ok_pos s h).symm
    rw [e]; exact Ev.now _
  by_cases h1 : (s.size : Int) > 1
  · have hb : bt s 0 = ((s.data.toList[0]'(by omega)).toNat : Int) := bt_u8 s 0 (by omega)
    simp only [if_pos h1, if_pos (show 0 < (s.size : Int) by omega), hb]
    obtain ⟨x, r, hx⟩ : ∃ x r, s.data.toList = x :: r := by
      cases hd : s.data.toList with
      | nil => rw [hd] at hlen; simp at hlen; omega
      | cons x r => exact ⟨x, r, rfl⟩
    have h0 : s.data.toList[0]'(by omega) = x := by simp [hx]
    rw [h0]
    by_cases h45 : (x.toNat : Int) = 45
    · have e45 : ((x.toNat : Int) == 45) = true := by simpa using h45
      have ex : x = 45 := UInt8.toNat_inj.1 (show _ = 45 by omega)
      subst ex
      have hr : (s.extract 1 s.size).data.toList = r := by
        rw [Lib.extract_data, hx, List.drop_succ_cons, List.drop_zero]
        apply List.take_of_length_le
        rw [hx, List.length_cons] at hlen
        omega
      have hz : (s.extract 1 s.size).size ≤ 1048576 := by rw [ByteArray.size_extract]; omega
      rw [e45]
      refine ⟨wrap64 (-figB (s.extract 1 s.size)), Ev.step (fun k => spec_l1Number.j0.eq_2 _ _ _) ?_⟩
      simp only [if_true, if_pos (show 1 ≤ (s.size : Int) by omega)]
      refine Ev.bind (spec_l1Figures_ev _ (by omega)) ?_
      have e : decide (figB (s.extract 1 s.size) > 0) = (numB s).2 := by
        rw [Bool.eq_iff_iff, decide_eq_true_eq]
        exact (num_ok_neg s (s.extract 1 s.size) (by rw [hr, hx])).symm
      rw [e]; exact Ev.now _
    · have e45 : ((x.toNat : Int) == 45) = false := by simpa using h45
      rw [e45]
      exact pos (fun t ht => absurd (show (x.toNat : Int) = 45 by rw [hx] at ht; rw [(List.cons.inj ht).1]; rfl) h45)
  · simp only [if_neg h1]
    exact pos (fun t ht => by
      rw [ht, List.length_cons] at hlen
      exact List.length_eq_zero_iff.1 (by omega))

/-- A text cut at the first n bytes c. -/
def cutT (c : UInt8) (n : Nat) (s : ByteArray) : List ByteArray := (cutW c n [] s.data.toList).map mkT

theorem cutW_more (c : UInt8) : ∀ (l : List UInt8) (n : Nat) (acc : List UInt8), l.count c ≤ n → cutW c n acc l = cutW c (l.count c) acc l
  | [], n, acc, _ => by simp [cutW]
  | x :: xs, n, acc, h => by
    by_cases hx : x = c
    · subst hx
      rw [List.count_cons_self] at h ⊢
      obtain ⟨m, rfl⟩ : ∃ m, n = m + 1 := ⟨n - 1, by omega⟩
      rw [cutW, cutW, if_pos rfl, if_pos rfl, cutW_more x xs m [] (by omega)]
    · have e : (x :: xs).count c = xs.count c := List.count_cons_of_ne (by simpa using hx)
      rw [e] at h ⊢
      have h1 := cutW_more c xs n (acc ++ [x]) h
      have e0 : ∀ k, cutW c k acc (x :: xs) = cutW c k (acc ++ [x]) xs := by
        intro k
        have := cutW_run c [x] k acc xs (by simpa using fun h => hx h.symm)
        exact this
      rw [e0, e0, h1]

theorem cutT_all (c : UInt8) (s : ByteArray) : cutT c (s.size + 1) s = splitT c s := by
  unfold cutT splitT
  have h : s.data.toList.count c ≤ s.data.toList.length := List.count_le_length
  rw [data_size] at h
  rw [cutW_more c _ (s.size + 1) [] (by omega)]

def insB (s : ByteArray) : List ByteArray → List ByteArray
  | [] => [s]
  | x :: xs => if Op.bytesLess x.toList s.toList = true then x :: insB s xs else if x = s then x :: xs else s :: x :: xs

def insAllB (acc : List ByteArray) (l : List ByteArray) : List ByteArray := l.foldl (fun a s => insB s a) acc

theorem insAllB_cons (acc : List ByteArray) (s : ByteArray) (l : List ByteArray) : insAllB acc (s :: l) = insAllB (insB s acc) l := rfl

theorem insB_length (s : ByteArray) : ∀ l : List ByteArray, (insB s l).length ≤ l.length + 1
  | [] => by simp [insB]
  | x :: xs => by
    have := insB_length s xs
    unfold insB
    split
    · simp only [List.length_cons]; omega
    · split <;> simp

theorem spec_l2Add_l0 (s : ByteArray) (l : List ByteArray) (hn : l.length ≤ 1099511627776) : ∀ (d i : Nat), i + d = l.length → Ev (fun k => spec_l2Add.l0 k l s (i : Int)) (l.take i ++ insB s (l.drop i)) := by
  intro d
  induction d with
  | zero =>
    intro i hi
    refine Ev.step (fun k => spec_l2Add.l0.eq_2 _ _ _ _) ?_
    have e1 : l.take i = l := List.take_of_length_le (by omega)
    have e2 : l.drop i = [] := List.drop_eq_nil_of_le (by omega)
    simp only [if_neg (show ¬ ((i : Int) < (l.length : Int)) by omega), Option.bind_some, if_pos (show 0 ≤ (i : Int) by omega), if_pos (show (i : Int) ≤ (l.length : Int) by omega), toNat_cast, e1, e2, insB, List.nil_append, List.length_nil, Nat.zero_add, if_pos (show l.length < 8796093022208 by omega), List.length_cons, List.length_append, Nat.add_zero, if_pos (show l.length + 1 < 8796093022208 by omega), List.append_nil]
    exact Ev.now _
  | succ d ih =>
    intro i hi
    have hil : i < l.length := by omega
    have ed : l.drop i = l[i] :: l.drop (i + 1) := drop_get l i hil
    refine Ev.step (fun k => spec_l2Add.l0.eq_2 _ _ _ _) ?_
    simp only [if_pos (show ((i : Int) < (l.length : Int)) by omega), if_pos (show 0 ≤ (i : Int) by omega), rdOf_get _ l i hil, toList_inj, wsucc i (by omega)]
    by_cases h1 : Op.bytesLess l[i].toList s.toList = true
    · simp only [if_pos h1]
      have e : l.take i ++ insB s (l.drop i) = l.take (i + 1) ++ insB s (l.drop (i + 1)) := by
        rw [ed, insB, if_pos h1, List.take_add_one, List.getElem?_eq_getElem hil, List.append_assoc]; rfl
      rw [e]
      exact ih (i + 1) (by omega)
    · simp only [if_neg h1]
      by_cases h2 : l[i] = s
      · simp only [if_pos h2]
        have e : l.take i ++ insB s (l.drop i) = l := by rw [ed, insB, if_neg h1, if_pos h2, ← ed, List.take_append_drop]
        rw [e]; exact Ev.now _
      · have lt : (l.take i).length = i := by rw [List.length_take]; omega
        have ld : (l.drop i).length = l.length - i := List.length_drop
        simp only [if_neg h2, Option.bind_some, if_pos (show (i : Int) ≤ (l.length : Int) by omega), toNat_cast, List.nil_append, List.length_nil, Nat.zero_add, lt, if_pos (show i < 8796093022208 by omega), List.length_cons, List.length_append, Nat.add_zero, if_pos (show i + 1 < 8796093022208 by omega), ld, if_pos (show i + 1 + (l.length - i) < 8796093022208 by omega)]
        have e : l.take i ++ insB s (l.drop i) = l.take i ++ [s] ++ l.drop i := by rw [ed, insB, if_neg h1, if_neg h2, List.append_assoc]; rfl
        rw [e]; exact Ev.now _

theorem spec_l2Add_ev (s : ByteArray) (l : List ByteArray) (hn : l.length ≤ 1099511627776) : Ev (fun k => spec_l2Add.f k l s) (insB s l) := by
  have := spec_l2Add_l0 s l hn l.length 0 (by omega)
  simpa [spec_l2Add.f] using this

open Classical in
theorem spec_l2Tags_l0 (L : List ByteArray) (hL : L.length ≤ 1048577) (hx : ∀ x ∈ L, x.size ≤ 1048576) : ∀ (d i : Nat) (acc : List ByteArray), i + d = L.length → acc.length ≤ i →
    Ev (fun k => spec_l2Tags.l0 k acc L (i : Int)) (if namesP (L.drop i) then (insAllB acc (L.drop i), decide (L.length ≤ 4)) else ([], false)) := by
  intro d
  induction d with
  | zero =>
    intro i acc hi ha
    refine Ev.step (fun k => spec_l2Tags.l0.eq_2 _ _ _ _) ?_
    simp only [if_neg (show ¬ ((i : Int) < (L.length : Int)) by omega)]
    rw [List.drop_eq_nil_of_le (by omega), if_pos (show namesP [] from fun x hx => by simp at hx)]
    have e : decide ((L.length : Int) ≤ 4) = decide (L.length ≤ 4) := decide_eq_decide.2 ⟨fun h => by omega, fun h => by omega⟩
    rw [e]
    exact Ev.now _
  | succ d ih =>
    intro i acc hi ha
    have hil : i < L.length := by omega
    have hxi := hx L[i] (List.getElem_mem _)
    have hl2 := insB_length L[i] acc
    refine Ev.step (fun k => spec_l2Tags.l0.eq_2 _ _ _ _) ?_
    simp only [if_pos (show ((i : Int) < (L.length : Int)) by omega), if_pos (show 0 ≤ (i : Int) by omega), rdOf_get _ L i hil, wsucc i (by omega)]
    refine Ev.bind (spec_NameOk_ev L[i] (by omega)) ?_
    rw [drop_get L i hil]
    cases hnm : nameB (bytesOf L[i]) with
    | false =>
      simp only [if_neg (show ¬ (false = true) by decide)]
      rw [if_neg (fun h => by have := (namesP_cons.1 h).1; rw [hnm] at this; cases this)]
      exact Ev.now _
    | true =>
      simp only [if_true]
      refine Ev.bind (spec_l2Add_ev L[i] acc (by omega)) ?_
      have h := ih (i + 1) (insB L[i] acc) (by omega) (by omega)
      rw [insAllB_cons]
      by_cases hp : namesP (L.drop (i + 1))
      · rw [if_pos hp] at h
        rw [if_pos (namesP_cons.2 ⟨hnm, hp⟩)]
        exact h
      · rw [if_neg hp] at h
        rw [if_neg (fun h2 => hp (namesP_cons.1 h2).2)]
        exact h

open Classical in
noncomputable def tagsRes (s : ByteArray) : List ByteArray × Bool := if namesP (splitT 44 s) then (insAllB [] (splitT 44 s), decide ((splitT 44 s).length ≤ 4)) else ([], false)

theorem extract_mkT (s : ByteArray) (a b : Nat) : s.extract a b = mkT ((s.data.toList.drop a).take (b - a)) := by
  rw [← mkT_data (s.extract a b), Lib.extract_data]

theorem take_rest (l : List UInt8) {f i : Nat} (hf : f ≤ i) : (l.drop f).take (i - f) ++ l.drop i = l.drop f := by
  have := List.take_append_drop (i - f) (l.drop f)
  rw [List.drop_drop, show f + (i - f) = i by omega] at this
  exact this

theorem take_step {l : List UInt8} {f i : Nat} (hf : f ≤ i) (hi : i < l.length) : (l.drop f).take (i + 1 - f) = (l.drop f).take (i - f) ++ [l[i]] := by
  have e : i + 1 - f = (i - f) + 1 := by omega
  rw [e, List.take_add_one, List.getElem?_drop, show f + (i - f) = i by omega, List.getElem?_eq_getElem hi]; rfl

theorem u8_eq_iff (a b : UInt8) : ((a.toNat : Int) = (b.toNat : Int)) ↔ a = b := ⟨fun h => UInt8.toNat_inj.1 (by omega), fun h => by rw [h]⟩

theorem l1Cut_l0 (c : UInt8) (s : ByteArray) (hs : s.size ≤ 1099511627776) (most : Nat) : ∀ (d i f n : Nat) (out : List ByteArray), i + d = s.size → f ≤ i → out.length + n = most → out.length ≤ i →
    Ev (fun k => spec_l1Cut.l0 k s (c.toNat : Int) (most : Int) out (f : Int) (i : Int)) (out ++ (cutW c n ((s.data.toList.drop f).take (i - f)) (s.data.toList.drop i)).map mkT) := by
  have hlen := data_size s
  have fin : ∀ (i f : Nat) (out : List ByteArray), f ≤ i → i ≤ s.size → out.length ≤ i → ∀ k, spec_l1Cut.j1 (k + 1) s (c.toNat : Int) (most : Int) out (f : Int) (i : Int) false = some (out ++ [mkT (s.data.toList.drop f)]) := by
    intro i f out hf hi ho k
    have e := extract_mkT s f s.size
    rw [List.take_of_length_le (by rw [List.length_drop]; omega)] at e
    rw [spec_l1Cut.j1.eq_2]
    simp only [if_neg (show ¬ (false = true) by decide), if_pos (show 0 ≤ (f : Int) by omega), if_pos (show (f : Int) ≤ (s.size : Int) by omega), if_pos (show out.length < 8796093022208 by omega), toNat_cast, e]
  have finE : ∀ (i f : Nat) (out : List ByteArray), f ≤ i → i ≤ s.size → out.length ≤ i → Ev (fun k => spec_l1Cut.j1 k s (c.toNat : Int) (most : Int) out (f : Int) (i : Int) false) (out ++ [mkT (s.data.toList.drop f)]) := by
    intro i f out hf hi ho
    refine ⟨1, fun k hk => ?_⟩
    obtain ⟨k, rfl⟩ : ∃ m, k = m + 1 := ⟨k - 1, by omega⟩
    exact fin i f out hf hi ho k
  intro d
  induction d with
  | zero =>
    intro i f n out hi hf hn ho
    refine Ev.step (fun k => spec_l1Cut.l0.eq_2 _ _ _ _ _ _ _) ?_
    simp only [if_neg (show ¬ ((i : Int) < (s.size : Int)) by omega)]
    have e := take_rest s.data.toList hf
    have e0 : s.data.toList.drop i = [] := List.drop_eq_nil_of_le (by omega)
    rw [e0, List.append_nil] at e
    have hc : cutW c n ((s.data.toList.drop f).take (i - f)) (s.data.toList.drop i) = [s.data.toList.drop f] := by
      rw [e0, e]; cases n <;> rfl
    rw [hc]
    exact finE i f out hf (by omega) ho
  | succ d ih =>
    intro i f n out hi hf hn ho
    refine Ev.step (fun k => spec_l1Cut.l0.eq_2 _ _ _ _ _ _ _) ?_
    simp only [if_pos (show ((i : Int) < (s.size : Int)) by omega)]
    cases n with
    | zero =>
      rw [decide_eq_false (show ¬ (out.length : Int) < (most : Int) by omega), cutW_zero, take_rest _ hf]
      exact finE i f out hf (by omega) ho
    | succ n =>
      rw [decide_eq_true (show (out.length : Int) < (most : Int) by omega)]
      refine Ev.step (fun k => spec_l1Cut.j1.eq_2 _ _ _ _ _ _ _ _) ?_
      have hil : i < s.data.toList.length := by omega
      have ed : s.data.toList.drop i = s.data.toList[i] :: s.data.toList.drop (i + 1) := List.drop_eq_getElem_cons hil
      rw [ed]
      simp only [if_true, if_pos (show 0 ≤ (i : Int) by omega), if_pos (show ((i : Int) < (s.size : Int)) by omega), bt_u8 s i hil, u8_eq_iff, wsucc i (by omega)]
      by_cases hb : s.data.toList[i] = c
      · have e := extract_mkT s f i
        rw [cutW, if_pos hb]
        simp only [if_pos hb, if_pos (show 0 ≤ (f : Int) by omega), if_pos (show (f : Int) ≤ (i : Int) by omega), if_pos (show (i : Int) ≤ (s.size : Int) by omega), if_pos (show out.length < 8796093022208 by omega), toNat_cast, e]
        have h := ih (i + 1) (i + 1) n (out ++ [mkT ((s.data.toList.drop f).take (i - f))]) (by omega) (Nat.le_refl _) (by simp; omega) (by simp; omega)
        rw [Nat.sub_self, List.take_zero, List.append_assoc] at h
        exact h
      · rw [cutW, if_neg hb]
        simp only [if_neg hb]
        have h := ih (i + 1) f (n + 1) out (by omega) (by omega) hn (by omega)
        rw [take_step hf hil] at h
        exact h

theorem spec_l1Cut_ev (c : UInt8) (n : Nat) (s : ByteArray) (hs : s.size ≤ 1099511627776) : Ev (fun k => spec_l1Cut.f k s (c.toNat : Int) (n : Int)) (cutT c n s) := by
  simp only [spec_l1Cut.f, cutT]
  have := l1Cut_l0 c s hs n s.size 0 0 n [] (by omega) (Nat.le_refl _) (by simp) (by simp)
  simpa using this

theorem spec_l2Tags_ev (s : ByteArray) (hs : s.size ≤ 1048576) : Ev (fun k => spec_l2Tags.f k s) (tagsRes s) := by
  have hlen := splitT_length 44 s
  simp only [spec_l2Tags.f, wsucc s.size (by omega)]
  have h1 := spec_l1Cut_ev 44 (s.size + 1) s (by omega)
  rw [cutT_all] at h1
  refine Ev.bind h1 ?_
  have h := spec_l2Tags_l0 (splitT 44 s) (by omega) (fun x hx => by have := splitT_size hx; omega) (splitT 44 s).length 0 [] (by omega) (by simp)
  rw [List.drop_zero] at h
  exact h

theorem tagsRes_ok (s : ByteArray) : (tagsRes s).2 = true ↔ tagsP s := by
  unfold tagsRes tagsP
  split
  · rename_i h
    simp only [decide_eq_true_eq]
    exact ⟨fun h2 => ⟨h, h2⟩, fun h2 => h2.2⟩
  · rename_i h
    exact ⟨(fun h2 => by cases h2), fun h2 => absurd h2.1 h⟩

open Classical in
theorem spec_l2Cell_ev (a : ByteArray) (b c : Int) (s : ByteArray) (hs : s.size ≤ 1048576) : Ev (fun k => spec_l2Cell.f k a b c s) (decide (plainB s 60 = true ∧ cellK b s)) := by
  obtain ⟨v, hv⟩ := spec_l1Number_ev s hs
  have ht := tagsRes_ok s
  simp only [spec_l2Cell.f]
  refine Ev.bind hv ?_
  refine Ev.bind (spec_l2Tags_ev s hs) ?_
  refine Ev.bind (spec_l2Text_ev s (by omega)) ?_
  unfold cellK
  cases hp : plainB s 60 with
  | false => simp only [if_neg (show ¬ (false = true) by decide)]; exact ev_falseI (fun h => by cases h.1) (Ev.now _)
  | true =>
    simp only [if_true]
    have third : Ev (fun _ : Nat => some ((tagsRes s).2)) (decide (tagsP s)) := by
      have e : (tagsRes s).2 = decide (tagsP s) := by rw [Bool.eq_iff_iff, decide_eq_true_eq]; exact ht
      rw [e]; exact Ev.now _
    by_cases h1 : b = 1
    · simp only [if_pos h1]; exact ev_trueI ⟨(by first | trivial | rfl), Or.inl h1⟩ (Ev.now _)
    · simp only [if_neg h1]
      by_cases h2 : b = 2
      · simp only [if_pos h2]
        cases hn : (numB s).2 with
        | true => simp only [if_true]; exact ev_trueI ⟨(by first | trivial | rfl), Or.inr (Or.inl ⟨h2, (by first | trivial | rfl)⟩)⟩ (Ev.now _)
        | false =>
          simp only [if_neg (show ¬ (false = true) by decide), if_neg (show ¬ b = 3 by omega)]
          refine ev_falseI (fun h => ?_) (Ev.now _)
          rcases h.2 with h | ⟨_, h⟩ | ⟨h, _⟩
          · exact h1 h
          · first | exact absurd h (by simp) | cases h
          · omega
      · simp only [if_neg h2]
        by_cases h3 : b = 3
        · simp only [if_pos h3]
          refine ev_propI ?_ third
          exact ⟨fun h => ⟨(by first | trivial | rfl), Or.inr (Or.inr ⟨h3, h⟩)⟩, fun h => by
            rcases h.2 with h | ⟨h, _⟩ | ⟨_, h⟩
            · exact absurd h h1
            · exact absurd h h2
            · exact h⟩
        · simp only [if_neg h3]
          refine ev_falseI (fun h => ?_) (Ev.now _)
          rcases h.2 with h | ⟨h, _⟩ | ⟨h, _⟩
          · exact h1 h
          · exact h2 h
          · exact h3 h

theorem spec_l2Field_l0 (l : List S75) (n : ByteArray) (hn : l.length < 4611686018427387904) : ∀ (d i : Nat), i + d = l.length → (∀ m (hm : m < l.length), m < i → l[m].f0 ≠ n) →
    ∃ r, Ev (fun k => spec_l2Field.l0 k l n (i : Int)) r ∧ ((r = -1 ∧ ∀ x ∈ l, x.f0 ≠ n) ∨ ∃ (j : Nat) (hj : j < l.length), r = (j : Int) ∧ l[j].f0 = n ∧ ∀ m (hm : m < j), l[m].f0 ≠ n) := by
  intro d
  induction d with
  | zero =>
    intro i hi hb
    refine ⟨-1, Ev.step (fun k => spec_l2Field.l0.eq_2 _ _ _ _) ?_, .inl ⟨rfl, fun x hx => ?_⟩⟩
    · simp only [if_neg (show ¬ ((i : Int) < (l.length : Int)) by omega)]; exact Ev.now _
    · obtain ⟨m, hm, rfl⟩ := List.mem_iff_getElem.1 hx
      exact hb m hm (by omega)
  | succ d ih =>
    intro i hi hb
    by_cases h : l[i].f0 = n
    · refine ⟨(i : Int), Ev.step (fun k => spec_l2Field.l0.eq_2 _ _ _ _) ?_, .inr ⟨i, by omega, rfl, h, fun m hm => hb m (by omega) hm⟩⟩
      simp only [if_pos (show ((i : Int) < (l.length : Int)) by omega), if_pos (show 0 ≤ (i : Int) by omega), rdi_Field l i (by omega), toList_inj, if_pos h]
      exact Ev.now _
    · obtain ⟨r, hr, hq⟩ := ih (i + 1) (by omega) (fun m hm hlt => by
        rcases Nat.lt_or_ge m i with h1 | h1
        · exact hb m hm h1
        · obtain rfl : m = i := by omega
          exact h)
      refine ⟨r, Ev.step (fun k => spec_l2Field.l0.eq_2 _ _ _ _) ?_, hq⟩
      simp only [if_pos (show ((i : Int) < (l.length : Int)) by omega), if_pos (show 0 ≤ (i : Int) by omega), rdi_Field l i (by omega), toList_inj, if_neg h, wsucc i (by omega)]
      exact hr

theorem spec_l2Field_ev (l : List S75) (n : ByteArray) (hn : l.length < 4611686018427387904) :
    ∃ r, Ev (fun k => spec_l2Field.f k l n) r ∧ ((r = -1 ∧ ∀ x ∈ l, x.f0 ≠ n) ∨ ∃ (j : Nat) (hj : j < l.length), r = (j : Int) ∧ l[j].f0 = n ∧ ∀ m (hm : m < j), l[m].f0 ≠ n) :=
  spec_l2Field_l0 l n hn l.length 0 (by omega) (fun m hm h => absurd h (by omega))

open Classical in
theorem spec_FieldsOk_l0 (l : List S75) (hn : l.length ≤ 1048577) (hs : ∀ x ∈ l, x.f0.size ≤ 1048576) : ∀ (d i : Nat), i + d = l.length → Ev (fun k => spec_FieldsOk.l0 k l (i : Int)) (decide (fieldsFrom l i)) := by
  intro d
  induction d with
  | zero =>
    intro i hi
    refine Ev.step (fun k => spec_FieldsOk.l0.eq_2 _ _ _) ?_
    simp only [if_neg (show ¬ ((i : Int) < (l.length : Int)) by omega), spec_l1In_eq, Option.bind_some]
    refine ev_prop (fieldsFrom_end (by omega)).symm ?_
    refine ev_eq fun _ => ?_
    congr 1; exact decide_eq_decide.2 (by omega)
  | succ d ih =>
    intro i hi
    have hst := fieldsFrom_step (l := l) (j := i) (by omega)
    have hsz := hs l[i] (List.getElem_mem _)
    refine Ev.step (fun k => spec_FieldsOk.l0.eq_2 _ _ _) ?_
    simp only [if_pos (show ((i : Int) < (l.length : Int)) by omega), if_pos (show 0 ≤ (i : Int) by omega), rdi_Field l i (by omega), spec_l1In_eq, Option.bind_some]
    have hj2 : ∀ (t o : Bool), ((t || o) = true ↔ fieldP l[i]) → Ev (fun k => spec_FieldsOk.j2 k l (i : Int) t o l[i].f0 l[i].f1 l[i].f2) (decide (fieldsFrom l i)) := by
      intro t o hto
      refine Ev.step (fun k => spec_FieldsOk.j2.eq_2 _ _ _ _ _ _ _ _) ?_
      refine Ev.bind (spec_NameOk_ev l[i].f0 (by omega)) ?_
      cases hnm : nameB (bytesOf l[i].f0) with
      | false =>
        simp only [if_neg (show ¬ (false = true) by decide)]
        refine ev_false (fun h => ?_) (Ev.now _)
        have := nameB_iff.2 (hst.1 h).1.1
        rw [hnm] at this; cases this
      | true =>
        simp only [if_true]
        obtain ⟨r, hr, hq⟩ := spec_l2Field_ev l l[i].f0 (by omega)
        refine Ev.bind hr ?_
        by_cases he : r = (i : Int)
        · have hfirst : ∀ m (hm : m < i), l[m].f0 ≠ l[i].f0 := by
            rcases hq with hq | ⟨j, hj, h1, h2, h3⟩
            · omega
            · obtain rfl : j = i := by omega
              exact h3
          simp only [if_pos he, wsucc i (by omega)]
          have hnext := ih (i + 1) (by omega)
          by_cases hp : fieldP l[i]
          · have hb := hto.2 hp
            have hgoal : Ev (fun k => spec_FieldsOk.l0 k l ((i + 1 : Nat) : Int)) (decide (fieldsFrom l i)) := ev_prop (hst.trans ⟨fun h => h.2, fun h => ⟨⟨nameB_iff.1 hnm, hp, hfirst⟩, h⟩⟩).symm hnext
            cases t with
            | true => simp only [if_true]; exact hgoal
            | false =>
              have ho : o = true := by simpa using hb
              simp only [if_neg (show ¬ (false = true) by decide), ho, if_true]; exact hgoal
          · have hb : (t || o) = false := by rw [Bool.eq_false_iff]; exact fun h => hp (hto.1 h)
            have ht : t = false := by cases t; rfl; simp at hb
            have ho : o = false := by cases o; rfl; simp at hb
            simp only [ht, ho, if_neg (show ¬ (false = true) by decide)]
            exact ev_false (fun h => hp (hst.1 h).1.2.1) (Ev.now _)
        · simp only [if_neg he]
          refine ev_false (fun h => ?_) (Ev.now _)
          have h4 := (hst.1 h).1.2.2
          rcases hq with ⟨h1, h2⟩ | ⟨j, hj, h1, h2, h3⟩
          · exact h2 l[i] (List.getElem_mem _) rfl
          · rcases Nat.lt_trichotomy j i with h5 | h5 | h5
            · exact h4 j h5 h2
            · exact he (by omega)
            · exact h3 i h5 rfl
    have hj1 : ∀ (t : Bool), (t = true ↔ (l[i].f1 = 1 ∧ 1 ≤ l[i].f2 ∧ l[i].f2 ≤ 9)) → Ev (fun k => spec_FieldsOk.j1 k l (i : Int) t l[i].f0 l[i].f1 l[i].f2) (decide (fieldsFrom l i)) := by
      intro t ht
      refine Ev.step (fun k => spec_FieldsOk.j1.eq_2 _ _ _ _ _ _ _) ?_
      simp only [spec_l1In_eq, Option.bind_some, decide_eq_true_eq]
      by_cases h2 : 2 ≤ l[i].f1 ∧ l[i].f1 ≤ 3
      · simp only [if_pos h2]
        refine hj2 t _ ?_
        unfold fieldP
        rw [Bool.or_eq_true, ht, beq_iff_eq]
        constructor
        · rintro (h | h)
          · exact .inl h
          · exact .inr ⟨h2.1, h2.2, h⟩
        · rintro (h | h)
          · exact .inl h
          · exact .inr h.2.2
      · simp only [if_neg h2]
        refine hj2 t false ?_
        unfold fieldP
        rw [Bool.or_false, ht]
        exact ⟨.inl, fun h => h.resolve_right (fun h3 => h2 ⟨h3.1, h3.2.1⟩)⟩
    by_cases h1 : l[i].f1 = 1
    · simp only [if_pos h1]
      refine hj1 _ ?_
      rw [decide_eq_true_eq]
      exact ⟨fun h => ⟨h1, h⟩, fun h => h.2⟩
    · simp only [if_neg h1]
      exact hj1 false ⟨(fun h => by cases h), fun h => absurd h.1 h1⟩

theorem spec_FieldsOk_ev (l : List S75) (hn : l.length ≤ 1048577) (hs : ∀ x ∈ l, x.f0.size ≤ 1048576) : Ev (fun k => spec_FieldsOk.f k l) (fieldsB l) := spec_FieldsOk_l0 l hn hs l.length 0 (by omega)

open Classical in
theorem spec_DocOk_l0 (F : List S75) (hF : F.length ≤ 1048576) (hFs : ∀ x ∈ F, x.f0.size ≤ 1048576) (key : ByteArray) (l : List S46) (hk : key.size ≤ 1048576) (hn : l.length ≤ 1048576) (hs : ∀ x ∈ l, x.f0.size ≤ 1048576 ∧ x.f1.size ≤ 1048576) : ∀ (d i : Nat), i + d = l.length →
    Ev (fun k => spec_DocOk.l0 k F (i : Int) key l) (decide ((∀ c ∈ l.drop i, plainB c.f1 60 = true ∧ cellK (kindOf F c.f0) c.f1) ∧ fieldsB F = true ∧ formB key l = true)) := by
  intro d
  induction d with
  | zero =>
    intro i hi
    refine Ev.step (fun k => spec_DocOk.l0.eq_2 _ _ _ _ _) ?_
    simp only [if_neg (show ¬ ((i : Int) < (l.length : Int)) by omega)]
    rw [List.drop_eq_nil_of_le (by omega)]
    refine Ev.bind (spec_FieldsOk_ev F (by omega) hFs) ?_
    cases hf : fieldsB F with
    | false => simp only [if_neg (show ¬ (false = true) by decide)]; exact ev_falseI (fun h => by cases h.2.1) (Ev.now _)
    | true =>
      simp only [if_true]
      refine Ev.bind (spec_l2Form_ev key l hk hn hs) ?_
      cases hm : formB key l with
      | false => exact ev_falseI (fun h => by cases h.2.2) (Ev.now _)
      | true => exact ev_trueI ⟨fun c hc => by simp at hc, (by first | trivial | rfl), (by first | trivial | rfl)⟩ (Ev.now _)
  | succ d ih =>
    intro i hi
    have hil : i < l.length := by omega
    have hsz := hs l[i] (List.getElem_mem _)
    obtain ⟨r, hr, hq⟩ := spec_l2Field_ev F l[i].f0 (by omega)
    refine Ev.step (fun k => spec_DocOk.l0.eq_2 _ _ _ _ _) ?_
    rw [drop_get l i hil]
    simp only [if_pos (show ((i : Int) < (l.length : Int)) by omega), if_pos (show 0 ≤ (i : Int) by omega), rdi_Cell l i hil, wsucc i (by omega)]
    refine Ev.bind hr ?_
    rcases hq with ⟨rfl, hno⟩ | ⟨j, hj, rfl, hj2, hjb⟩
    · simp only [if_pos (show (-1 : Int) < 0 by decide)]
      refine ev_falseI (fun h => ?_) (Ev.now _)
      have h1 := (h.1 l[i] (List.mem_cons_self ..)).2
      unfold kindOf at h1
      rw [fieldAt_none hno] at h1
      rcases h1 with h1 | ⟨h1, _⟩ | ⟨h1, _⟩ <;> exact absurd h1 (by decide)
    · have hk2 : kindOf F l[i].f0 = F[j].f1 := by unfold kindOf; rw [fieldAt_some hj hj2 hjb]
      simp only [if_neg (show ¬ (j : Int) < 0 by omega), if_pos (show 0 ≤ (j : Int) by omega), if_pos (show (j : Int) < (F.length : Int) by omega), rdi_Field F j hj]
      refine Ev.bind (spec_l2Cell_ev _ _ _ l[i].f1 hsz.2) ?_
      by_cases hc : plainB l[i].f1 60 = true ∧ cellK F[j].f1 l[i].f1
      · rw [decide_eq_true hc]
        simp only [if_true]
        refine ev_propI ⟨fun h => ⟨fun c hcm => ?_, h.2⟩, fun h => ⟨fun c hcm => h.1 c (List.mem_cons_of_mem _ hcm), h.2⟩⟩ (ih (i + 1) (by omega))
        rcases List.mem_cons.1 hcm with rfl | hcm
        · rw [hk2]; exact hc
        · exact h.1 c hcm
      · rw [decide_eq_false hc]
        simp only [if_neg (show ¬ (false = true) by decide)]
        refine ev_falseI (fun h => hc ?_) (Ev.now _)
        have := h.1 l[i] (List.mem_cons_self ..)
        rw [hk2] at this
        exact this

open Classical in
theorem spec_DocOk_ev (F : List S75) (hF : F.length ≤ 1048576) (hFs : ∀ x ∈ F, x.f0.size ≤ 1048576) (key : ByteArray) (l : List S46) (hk : key.size ≤ 1048576) (hn : l.length ≤ 1048576) (hs : ∀ x ∈ l, x.f0.size ≤ 1048576 ∧ x.f1.size ≤ 1048576) : Ev (fun k => spec_DocOk.f k F key l) (docOkB F key l) := by
  simp only [spec_DocOk.f, docOkB]
  have h := spec_DocOk_l0 F hF hFs key l hk hn hs l.length 0 (by omega)
  rw [List.drop_zero] at h
  refine ev_propI ?_ h
  unfold docOkP
  exact ⟨fun h => ⟨h.2.1, h.2.2, fun c hc => (h.1 c hc).2⟩, fun h => ⟨fun c hc => ⟨((form_cells h.2.1).1 c hc).2, h.2.2 c hc⟩, h.1, h.2.1⟩⟩

/-- What a code reads as: at most 2000 bytes. -/
def CodeOk (s : List Int) : Prop := s.length ≤ 2000 ∧ ∀ c ∈ s, 0 ≤ c ∧ c ≤ 255

theorem l1Open_eq (s : List Int) (hb : ∀ c ∈ s, 0 ≤ c ∧ c ≤ 255) : ∃ s', spec_l1Open.f s = some (s', 0) ∧ CodeOk s' := by
  unfold spec_l1Open.f
  by_cases h : (s.length : Int) > 2000
  · rw [if_pos h, if_pos (by omega)]
    exact ⟨_, rfl, by rw [List.length_take]; omega, fun c hc => hb c (List.mem_of_mem_take hc)⟩
  · rw [if_neg h]
    exact ⟨_, rfl, by omega, hb⟩

theorem CodeOk.byte {s : List Int} (h : CodeOk s) (i : Int) : 0 ≤ rd s i ∧ rd s i ≤ 255 := by
  unfold rd
  rw [List.getD_eq_getElem?_getD]
  rcases Nat.lt_or_ge i.toNat s.length with hi | hi
  · rw [List.getElem?_eq_getElem hi]; exact h.2 _ (List.getElem_mem _)
  · rw [List.getElem?_eq_none hi]; simp

theorem tdiv_nn {a b : Int} (ha : 0 ≤ a) (hb : 0 < b) : 0 ≤ Int.tdiv a b ∧ Int.tdiv a b ≤ a := by
  rw [Int.tdiv_eq_ediv_of_nonneg ha]
  exact ⟨Int.ediv_nonneg ha (by omega), Int.ediv_le_self _ ha⟩

theorem tmod_nn {a b : Int} (ha : 0 ≤ a) (hb : 0 < b) : 0 ≤ Int.tmod a b ∧ Int.tmod a b < b := by
  rw [Int.tmod_eq_emod_of_nonneg ha]
  exact ⟨Int.emod_nonneg _ (by omega), Int.emod_lt_of_pos _ hb⟩

theorem xor_i64 (a b : Nat) (ha : a < 2 ^ 62) (hb : b < 2 ^ 62) : ∃ m : Nat, Go.bits .xor .i64 (a : Int) (b : Int) = (m : Int) ∧ m < 2 ^ 62 := by
  have ha' : a % 2 ^ IntKind.i64.bits = a := Nat.mod_eq_of_lt (Nat.lt_of_lt_of_le ha (by decide))
  have hb' : b % 2 ^ IntKind.i64.bits = b := Nat.mod_eq_of_lt (Nat.lt_of_lt_of_le hb (by decide))
  have hx := Nat.xor_lt_two_pow ha hb
  refine ⟨a ^^^ b, ?_, hx⟩
  simp only [Go.bits, BitVec.ofInt_natCast, BitVec.toNat_xor, BitVec.toNat_ofNat, ha', hb']
  rw [IntKind.wrap_i64]
  have : ((a ^^^ b : Nat) : Int) < 4611686018427387904 := by have := hx; omega
  omega

theorem pick_ev (s : List Int) (hs : CodeOk s) (p n : Int) (hp : 0 ≤ p) (hp1 : p ≤ 1000000) (hn : 1 ≤ n) (hn1 : n ≤ 1000000) :
    ∃ r, Ev (fun k => spec_l1Rd_pick.f k s p n) (r, p + 1) ∧ 0 ≤ r ∧ r < n := by
  simp only [spec_l1Rd_pick.f, if_neg (show ¬ n < 1 by omega), wrap_id (x := p + 1) (by omega) (by omega)]
  by_cases h0 : s.length = 0
  · refine ⟨0, Ev.step (fun k => spec_l1Rd_pick.j0.eq_2 _ _ _ _ _) ?_, by omega, by omega⟩
    simp only [show ((s.length : Int) == 0) = true by simp [h0], if_true]
    exact Ev.now _
  · have hl : 0 < (s.length : Int) := by omega
    have hb : ((s.length : Int) == 0) = false := by simp; intro h; exact h0 (by rw [h]; rfl)
    have e1 : wrap64 (p + 1 - 1) = p := by rw [wrap_id (by omega) (by omega)]; omega
    by_cases hlt : p < (s.length : Int)
    · have hc := hs.byte p
      refine ⟨Int.tmod (rd s p) n, Ev.step (fun k => spec_l1Rd_pick.j0.eq_2 _ _ _ _ _) ?_, (tmod_nn hc.1 (by omega)).1, (tmod_nn hc.1 (by omega)).2⟩
      simp only [hb, if_neg (show ¬ (false = true) by decide), e1, if_pos hlt, if_pos hp, if_neg (show ¬ n = 0 by omega), wrap_id (x := rd s p) (by omega) (by omega)]
      exact Ev.now _
    · have m1 := tmod_nn hp hl
      have e2 : wrap64 (wrap64 (p * 7) + 3) = p * 7 + 3 := by rw [wrap_id (x := p * 7) (by omega) (by omega), wrap_id (by omega) (by omega)]
      have m2 := tmod_nn (show 0 ≤ p * 7 + 3 by omega) hl
      have d1 := tdiv_nn hp hl
      obtain ⟨A, hA⟩ : ∃ A, rd s (Int.tmod p (s.length : Int)) = A := ⟨_, rfl⟩
      obtain ⟨B, hB⟩ : ∃ B, rd s (Int.tmod (p * 7 + 3) (s.length : Int)) = B := ⟨_, rfl⟩
      obtain ⟨C, hC⟩ : ∃ C, Int.tdiv p (s.length : Int) = C := ⟨_, rfl⟩
      have a1 := hs.byte (Int.tmod p (s.length : Int)); rw [hA] at a1
      have b1 := hs.byte (Int.tmod (p * 7 + 3) (s.length : Int)); rw [hB] at b1
      rw [hC] at d1
      have v1 : wrap64 (wrap64 (wrap64 (wrap64 (wrap64 A * 131) + wrap64 (wrap64 B * 1117)) + wrap64 (p * 29)) + wrap64 (wrap64 C * 53)) = A * 131 + B * 1117 + p * 29 + C * 53 := by
        rw [wrap_id (x := A) (by omega) (by omega), wrap_id (x := B) (by omega) (by omega), wrap_id (x := C) (by omega) (by omega), wrap_id (x := A * 131) (by omega) (by omega), wrap_id (x := B * 1117) (by omega) (by omega), wrap_id (x := p * 29) (by omega) (by omega), wrap_id (x := C * 53) (by omega) (by omega), wrap_id (x := A * 131 + B * 1117) (by omega) (by omega), wrap_id (x := A * 131 + B * 1117 + p * 29) (by omega) (by omega), wrap_id (by omega) (by omega)]
      obtain ⟨V, hV⟩ : ∃ V : Nat, A * 131 + B * 1117 + p * 29 + C * 53 = (V : Int) := ⟨(A * 131 + B * 1117 + p * 29 + C * 53).toNat, by omega⟩
      have hVb : V < 2 ^ 62 := by have : (2 : Nat) ^ 62 = 4611686018427387904 := by decide
                                  omega
      have hd := tdiv_nn (show 0 ≤ (V : Int) by omega) (show (0 : Int) < 64 by omega)
      obtain ⟨Q, hQ⟩ : ∃ Q : Nat, Int.tdiv (V : Int) 64 = (Q : Int) := ⟨(Int.tdiv (V : Int) 64).toNat, by omega⟩
      have hQb : Q < 2 ^ 62 := by omega
      obtain ⟨m, hm, hmb⟩ := xor_i64 V Q hVb hQb
      have e3 : wrap64 (Int.tdiv (V : Int) 64) = (Q : Int) := by
        have : (2 : Nat) ^ 62 = 4611686018427387904 := by decide
        rw [hQ, wrap_id (by omega) (by omega)]
      have mm := tmod_nn (show 0 ≤ (m : Int) by omega) (show 0 < n by omega)
      refine ⟨Int.tmod (m : Int) n, Ev.step (fun k => spec_l1Rd_pick.j0.eq_2 _ _ _ _ _) ?_, mm.1, mm.2⟩
      simp only [hb, if_neg (show ¬ (false = true) by decide), e1, if_neg hlt, if_neg (show ¬ (s.length : Int) = 0 by omega), if_pos m1.1, if_pos m1.2, e2, if_pos m2.1, if_pos m2.2, if_neg (show ¬ n = 0 by omega), hA, hB, hC, v1, hV, e3, hm]
      exact Ev.now _

def docKeys : List ByteArray := [(⟨#[97]⟩ : ByteArray), (⟨#[98]⟩ : ByteArray), (⟨#[99]⟩ : ByteArray), (⟨#[100]⟩ : ByteArray), (⟨#[101]⟩ : ByteArray), (⟨#[107, 57]⟩ : ByteArray)]

theorem docKeys_size {x : ByteArray} (h : x ∈ docKeys) : x.size ≤ 300 := by
  have : ∀ x ∈ docKeys, x.size ≤ 300 := by decide
  exact this x h

def docNames : List ByteArray := [(⟨#[98, 111, 100, 121]⟩ : ByteArray), (⟨#[99, 111, 108, 111, 114]⟩ : ByteArray), (⟨#[112, 114, 105, 99, 101]⟩ : ByteArray), (⟨#[116, 105, 116, 108, 101]⟩ : ByteArray)]

theorem docNames_size {x : ByteArray} (h : x ∈ docNames) : x.size ≤ 300 := by
  have : ∀ x ∈ docNames, x.size ≤ 300 := by decide
  exact this x h

def docNums : List ByteArray := [(⟨#[48]⟩ : ByteArray), (⟨#[53]⟩ : ByteArray), (⟨#[55]⟩ : ByteArray), (⟨#[45, 51]⟩ : ByteArray), (⟨#[49, 50]⟩ : ByteArray), (⟨#[57, 57, 57, 57, 57, 57, 57, 57, 57]⟩ : ByteArray)]

theorem docNums_size {x : ByteArray} (h : x ∈ docNums) : x.size ≤ 300 := by
  have : ∀ x ∈ docNums, x.size ≤ 300 := by decide
  exact this x h

def docTagT : List ByteArray := [(⟨#[114, 101, 100]⟩ : ByteArray), (⟨#[98, 108, 117, 101]⟩ : ByteArray), (⟨#[114, 101, 100, 44, 98, 108, 117, 101]⟩ : ByteArray), (⟨#[98, 108, 117, 101, 44, 114, 101, 100, 44, 114, 101, 100]⟩ : ByteArray), (⟨#[103, 114, 101, 101, 110]⟩ : ByteArray)]

theorem docTagT_size {x : ByteArray} (h : x ∈ docTagT) : x.size ≤ 300 := by
  have : ∀ x ∈ docTagT, x.size ≤ 300 := by decide
  exact this x h

theorem rdf_Field (l : List S75) (j : Nat) (h : j < l.length) : ∃ f, rd_T75 l (j : Int) = f := ⟨_, rfl⟩

/-- Cells of short texts. -/
def shortCells (l : List S46) : Prop := ∀ c ∈ l, c.f0.size ≤ 300 ∧ c.f1.size ≤ 300

theorem shortCells_snoc {l : List S46} (h : shortCells l) {a b : ByteArray} (ha : a.size ≤ 300) (hb : b.size ≤ 300) : shortCells (l ++ [⟨a, b⟩]) := by
  intro c hc
  rcases List.mem_append.1 hc with h1 | h1
  · exact h c h1
  · rw [List.mem_singleton.1 h1]; exact ⟨ha, hb⟩

theorem of_ev (s : List Int) (hs : CodeOk s) (p : Int) (l : List ByteArray) (hp : 0 ≤ p) (hp1 : p ≤ 1000000) (hl : 1 ≤ l.length) (hl1 : l.length ≤ 1000000) :
    ∃ r, Ev (fun k => spec_l1Rd_of.f k s p l) (r, p + 1) ∧ r ∈ l := by
  obtain ⟨i, hi, h0, h1⟩ := pick_ev s hs p (l.length : Int) hp hp1 (by omega) (by omega)
  obtain ⟨j, rfl⟩ : ∃ j : Nat, i = (j : Int) := ⟨i.toNat, by omega⟩
  refine ⟨l[j]'(by omega), ?_, List.getElem_mem _⟩
  simp only [spec_l1Rd_of.f]
  refine Ev.bind hi ?_
  simp only [if_pos h0, if_pos h1, rdOf_get _ l j (by omega)]
  exact Ev.now _

theorem wpred (j : Nat) (h : j < 9223372036854775807) : wrap64 (((j + 1 : Nat) : Int) - 1) = (j : Int) := by rw [wrap_id (by omega) (by omega)]; omega

def wordList : List ByteArray := [(⟨#[114, 101, 100]⟩ : ByteArray), (⟨#[82, 101, 100]⟩ : ByteArray), (⟨#[97, 112, 112, 108, 101]⟩ : ByteArray), (⟨#[97, 112, 112, 108, 101, 115]⟩ : ByteArray), (⟨#[112, 105, 101]⟩ : ByteArray), (⟨#[116, 104, 101]⟩ : ByteArray), (⟨#[111, 102]⟩ : ByteArray), (⟨#[103, 108, 97, 115, 115]⟩ : ByteArray), (⟨#[98, 117, 115]⟩ : ByteArray), (⟨#[116, 114, 101, 101]⟩ : ByteArray), (⟨#[116, 114, 101, 101, 115]⟩ : ByteArray), (⟨#[55]⟩ : ByteArray), (⟨#[118, 101, 114, 121, 108, 111, 110, 103, 119, 111, 114, 100, 105, 110, 100, 101, 101, 100]⟩ : ByteArray), (⟨#[97]⟩ : ByteArray)]

theorem l11Word_ev (s : List Int) (hs : CodeOk s) (p : Int) (hp : 0 ≤ p) (hp1 : p ≤ 1000000) : ∃ r, Ev (fun k => spec_l11Word.f k s p) (r, p + 1) ∧ r ∈ wordList := by
  obtain ⟨r, hr, hm⟩ := of_ev s hs p wordList hp hp1 (by decide) (by decide)
  exact ⟨r, Ev.bind hr (Ev.now _), hm⟩

theorem word_size {r : ByteArray} (h : r ∈ wordList) : r.size ≤ 18 := by
  have : ∀ x ∈ wordList, x.size ≤ 18 := by decide
  exact this r h

theorem l11Text_l0 (s : List Int) (hs : CodeOk s) : ∀ (n : Nat) (p : Int) (out : ByteArray), 0 ≤ p → p + 2 * n ≤ 900000 → n ≤ 1000 → out.size + 20 * n ≤ 100000 →
    ∃ r q, Ev (fun k => spec_l11Text.l0 k out (n : Int) s p) (r, q) ∧ p ≤ q ∧ q ≤ p + 2 * n ∧ r.size ≤ out.size + 20 * n := by
  intro n
  induction n with
  | zero =>
    intro p out hp hb hn ho
    refine ⟨out, p, Ev.step (fun k => spec_l11Text.l0.eq_2 _ _ _ _ _) ?_, by omega, by omega, by omega⟩
    simp only [if_neg (show ¬ (((0 : Nat) : Int) > 0) by omega)]
    exact Ev.now _
  | succ n ih =>
    intro p out hp hb hn ho
    obtain ⟨w, hw, hwm⟩ := l11Word_ev s hs p hp (by omega)
    have hws := word_size hwm
    obtain ⟨x, hx, hxm⟩ := of_ev s hs (p + 1) (([(⟨#[32]⟩ : ByteArray), (⟨#[44, 32]⟩ : ByteArray), (⟨#[45]⟩ : ByteArray), (⟨#[32]⟩ : ByteArray), (⟨#[46]⟩ : ByteArray)] : List ByteArray)) (by omega) (by omega) (by decide) (by decide)
    have hxs : x.size ≤ 2 := by
      have h : ∀ x ∈ ([(⟨#[32]⟩ : ByteArray), (⟨#[44, 32]⟩ : ByteArray), (⟨#[45]⟩ : ByteArray), (⟨#[32]⟩ : ByteArray), (⟨#[46]⟩ : ByteArray)] : List ByteArray), x.size ≤ 2 := by decide
      exact h x hxm
    obtain ⟨r, q, hr, h1, h2, h3⟩ := ih (p + 1 + 1) ((out ++ w) ++ x) (by omega) (by omega) (by omega) (by simp only [ByteArray.size_append]; omega)
    refine ⟨r, q, Ev.step (fun k => spec_l11Text.l0.eq_2 _ _ _ _ _) ?_, by omega, by omega, by simp only [ByteArray.size_append] at h3; omega⟩
    simp only [if_pos (show (((n + 1 : Nat) : Int) > 0) by omega)]
    refine Ev.bind hw ?_
    simp only [if_pos (show out.size + w.size ≤ 9223372036854775807 by omega)]
    refine Ev.bind hx ?_
    simp only [if_pos (show (out ++ w).size + x.size ≤ 9223372036854775807 by simp only [ByteArray.size_append]; omega), wpred n (by omega)]
    exact hr

theorem l11Text_ev (s : List Int) (hs : CodeOk s) (p : Int) (hp : 0 ≤ p) (hp1 : p ≤ 800000) : ∃ r q, Ev (fun k => spec_l11Text.f k s p) (r, q) ∧ p ≤ q ∧ q ≤ p + 20 ∧ r.size ≤ 200 := by
  obtain ⟨i, hi, h0, h1⟩ := pick_ev s hs p 6 hp (by omega) (by omega) (by omega)
  obtain ⟨j, rfl⟩ : ∃ j : Nat, i = (j : Int) := ⟨i.toNat, by omega⟩
  obtain ⟨r, q, hr, h2, h3, h4⟩ := l11Text_l0 s hs j (p + 1) (⟨#[]⟩ : ByteArray) (by omega) (by omega) (by omega) (by show 0 + 20 * j ≤ 100000; omega)
  have e0 : (⟨#[]⟩ : ByteArray).size = 0 := rfl
  refine ⟨r, q, ?_, by omega, by omega, by omega⟩
  simp only [spec_l11Text.f]
  exact Ev.bind hi hr

theorem l11Doc_l0 (s : List Int) (hs : CodeOk s) (F : List S75) (hF : F.length ≤ 1000) (key : ByteArray) : ∀ (d i : Nat) (p : Int) (acc : List S46), i + d = docNames.length → 0 ≤ p → p + 40 * d ≤ 700000 → acc.length ≤ i → shortCells acc →
    ∃ r q, Ev (fun k => spec_l11Doc.l0 k F docNames (i : Int) s p key acc) (key, r, q) ∧ p ≤ q ∧ q ≤ p + 40 * d ∧ r.length ≤ acc.length + d ∧ shortCells r := by
  have hlen : docNames.length = 4 := rfl
  intro d
  induction d with
  | zero =>
    intro i p acc hi hp hp1 ha hsh
    refine ⟨acc, p, Ev.step (fun k => spec_l11Doc.l0.eq_2 _ _ _ _ _ _ _ _) ?_, by omega, by omega, by omega, hsh⟩
    simp only [if_neg (show ¬ ((i : Int) < (docNames.length : Int)) by omega)]
    exact Ev.now _
  | succ d ih =>
    intro i p acc hi hp hp1 ha hsh
    have hil : i < docNames.length := by omega
    have hn := docNames_size (List.getElem_mem hil)
    obtain ⟨t, ht, hq⟩ := spec_l2Field_ev F docNames[i] (by omega)
    have skip : ∀ (q : Int) (t : Int), p ≤ q → q ≤ p + 1 → ∃ r q', Ev (fun k => spec_l11Doc.j1 k F docNames (i : Int) t true s q key acc) (key, r, q') ∧ p ≤ q' ∧ q' ≤ p + 40 * (d + 1 : Nat) ∧ r.length ≤ acc.length + (d + 1) ∧ shortCells r := by
      intro q t h1 h2
      obtain ⟨r, q', hr, a1, a2, a3, a4⟩ := ih (i + 1) q acc (by omega) (by omega) (by omega) (by omega) hsh
      refine ⟨r, q', Ev.step (fun k => spec_l11Doc.j1.eq_2 _ _ _ _ _ _ _ _ _ _) ?_, by omega, by omega, by omega, a4⟩
      simp only [if_true, wsucc i (by omega)]
      exact hr
    by_cases ht0 : t < 0
    · obtain ⟨r, q', hr, a1, a2, a3, a4⟩ := skip p t (by omega) (by omega)
      refine ⟨r, q', Ev.step (fun k => spec_l11Doc.l0.eq_2 _ _ _ _ _ _ _ _) ?_, a1, a2, a3, a4⟩
      simp only [if_pos (show ((i : Int) < (docNames.length : Int)) by omega), if_pos (show 0 ≤ (i : Int) by omega), rdOf_get _ docNames i hil]
      refine Ev.bind ht ?_
      simp only [if_pos ht0]
      exact hr
    · obtain ⟨x, hx, x0, x1⟩ := pick_ev s hs p 4 hp (by omega) (by omega) (by omega)
      by_cases hx0 : x = 0
      · obtain ⟨r, q', hr, a1, a2, a3, a4⟩ := skip (p + 1) t (by omega) (by omega)
        refine ⟨r, q', Ev.step (fun k => spec_l11Doc.l0.eq_2 _ _ _ _ _ _ _ _) ?_, a1, a2, a3, a4⟩
        simp only [if_pos (show ((i : Int) < (docNames.length : Int)) by omega), if_pos (show 0 ≤ (i : Int) by omega), rdOf_get _ docNames i hil]
        refine Ev.bind ht ?_
        simp only [if_neg ht0]
        refine Ev.bind hx ?_
        have e : (x == 0) = true := by simpa using hx0
        simp only [e]
        exact hr
      · have ex : (x == 0) = false := by simpa using hx0
        obtain ⟨j, hj, rfl⟩ : ∃ (j : Nat) (hj : j < F.length), t = (j : Int) := by
          rcases hq with ⟨h, _⟩ | ⟨j, hj, h, _⟩
          · omega
          · exact ⟨j, hj, h⟩
        obtain ⟨T, q1, hT, b1, b2, b3⟩ := l11Text_ev s hs (p + 1) (by omega) (by omega)
        obtain ⟨f, hf⟩ := rdf_Field F j hj
        have go : ∃ r q', Ev (fun k => spec_l11Doc.j1 k F docNames (i : Int) (j : Int) false s (p + 1) key acc) (key, r, q') ∧ p ≤ q' ∧ q' ≤ p + 40 * (d + 1 : Nat) ∧ r.length ≤ acc.length + (d + 1) ∧ shortCells r := by
          have st : ∀ k, spec_l11Doc.j1 (k + 1) F docNames (i : Int) (j : Int) false s (p + 1) key acc = _ := fun k => spec_l11Doc.j1.eq_2 _ _ _ _ _ _ _ _ _ _
          by_cases c2 : f.f1 = 2
          · obtain ⟨y, hy, hym⟩ := of_ev s hs q1 docNums (by omega) (by omega) (by decide) (by decide)
            obtain ⟨r, q', hr, a1, a2, a3, a4⟩ := ih (i + 1) (q1 + 1) (acc ++ [⟨docNames[i], y⟩]) (by omega) (by omega) (by omega) (by simp; omega) (shortCells_snoc hsh hn (docNums_size hym))
            refine ⟨r, q', Ev.step (fun k => spec_l11Doc.j1.eq_2 _ _ _ _ _ _ _ _ _ _) ?_, by omega, by omega, by simp at a3; omega, a4⟩
            simp only [if_neg (show ¬ (false = true) by decide), if_pos (show 0 ≤ (i : Int) by omega), if_pos (show ((i : Int) < (docNames.length : Int)) by omega)]
            refine Ev.bind hT ?_
            simp only [if_pos (show 0 ≤ (j : Int) by omega), if_pos (show (j : Int) < (F.length : Int) by omega), hf, if_pos c2]
            refine Ev.bind hy ?_
            simp only [if_pos (show acc.length < 4398046511104 by omega), rdOf_get _ docNames i hil, wsucc i (by omega)]
            exact hr
          · by_cases c3 : f.f1 = 3
            · obtain ⟨y, hy, hym⟩ := of_ev s hs q1 docTagT (by omega) (by omega) (by decide) (by decide)
              obtain ⟨r, q', hr, a1, a2, a3, a4⟩ := ih (i + 1) (q1 + 1) (acc ++ [⟨docNames[i], y⟩]) (by omega) (by omega) (by omega) (by simp; omega) (shortCells_snoc hsh hn (docTagT_size hym))
              refine ⟨r, q', Ev.step (fun k => spec_l11Doc.j1.eq_2 _ _ _ _ _ _ _ _ _ _) ?_, by omega, by omega, by simp at a3; omega, a4⟩
              simp only [if_neg (show ¬ (false = true) by decide), if_pos (show 0 ≤ (i : Int) by omega), if_pos (show ((i : Int) < (docNames.length : Int)) by omega)]
              refine Ev.bind hT ?_
              simp only [if_pos (show 0 ≤ (j : Int) by omega), if_pos (show (j : Int) < (F.length : Int) by omega), hf, if_neg c2, if_pos c3]
              refine Ev.bind hy ?_
              simp only [if_pos (show acc.length < 4398046511104 by omega), rdOf_get _ docNames i hil, wsucc i (by omega)]
              exact hr
            · obtain ⟨r, q', hr, a1, a2, a3, a4⟩ := ih (i + 1) q1 (acc ++ [⟨docNames[i], T⟩]) (by omega) (by omega) (by omega) (by simp; omega) (shortCells_snoc hsh hn (by omega))
              refine ⟨r, q', Ev.step (fun k => spec_l11Doc.j1.eq_2 _ _ _ _ _ _ _ _ _ _) ?_, by omega, by omega, by simp at a3; omega, a4⟩
              simp only [if_neg (show ¬ (false = true) by decide), if_pos (show 0 ≤ (i : Int) by omega), if_pos (show ((i : Int) < (docNames.length : Int)) by omega)]
              refine Ev.bind hT ?_
              simp only [if_pos (show 0 ≤ (j : Int) by omega), if_pos (show (j : Int) < (F.length : Int) by omega), hf, if_neg c2, if_neg c3, if_pos (show acc.length < 4398046511104 by omega), rdOf_get _ docNames i hil, wsucc i (by omega)]
              exact hr
        obtain ⟨r, q', hr, a1, a2, a3, a4⟩ := go
        refine ⟨r, q', Ev.step (fun k => spec_l11Doc.l0.eq_2 _ _ _ _ _ _ _ _) ?_, a1, a2, a3, a4⟩
        simp only [if_pos (show ((i : Int) < (docNames.length : Int)) by omega), if_pos (show 0 ≤ (i : Int) by omega), rdOf_get _ docNames i hil]
        refine Ev.bind ht ?_
        simp only [if_neg ht0]
        refine Ev.bind hx ?_
        simp only [ex]
        exact hr

theorem l11Doc_ev (s : List Int) (hs : CodeOk s) (F : List S75) (hF : F.length ≤ 1000) (p : Int) (hp : 0 ≤ p) (hp1 : p ≤ 600000) :
    ∃ key r q, Ev (fun k => spec_l11Doc.f k s p F) (key, r, q) ∧ p ≤ q ∧ q ≤ p + 200 ∧ key.size ≤ 300 ∧ r.length ≤ 4 ∧ shortCells r := by
  obtain ⟨x, hx, hxm⟩ := of_ev s hs p docKeys hp (by omega) (by decide) (by decide)
  obtain ⟨r, q, hr, a1, a2, a3, a4⟩ := l11Doc_l0 s hs F hF x 4 0 (p + 1) [] (by decide) (by omega) (by omega) (by simp) (fun c hc => by simp at hc)
  refine ⟨x, r, q, ?_, by omega, by omega, docKeys_size hxm, by simpa using a3, a4⟩
  simp only [spec_l11Doc.f]
  exact Ev.bind hx hr

theorem l1Many_l0 : ∀ (d n : Nat) (x out : ByteArray), n < 2 ^ d → d ≤ 20 → x.size * 2 ^ d ≤ 1099511627776 → out.size + x.size * n ≤ 1099511627776 → ∃ r, Ev (fun k => spec_l1Many.l0 k x (n : Int) out) r ∧ r.size = out.size + x.size * n := by
  intro d
  induction d with
  | zero =>
    intro n x out hn hd hx ho
    obtain rfl : n = 0 := by simpa using hn
    refine ⟨out, Ev.step (fun k => spec_l1Many.l0.eq_2 _ _ _ _) ?_, by omega⟩
    simp only [if_neg (show ¬ (((0 : Nat) : Int) > 0) by omega)]
    exact Ev.now _
  | succ d ih =>
    intro n x out hn hd hx ho
    have hp : 2 ^ (d + 1) = 2 * 2 ^ d := by rw [Nat.pow_succ, Nat.mul_comm]
    have hb : n < 1048576 := Nat.lt_of_lt_of_le hn (Nat.pow_le_pow_right (Nat.succ_pos 1) hd)
    rw [hp, ← Nat.mul_assoc, Nat.mul_comm x.size 2] at hx
    rw [hp] at hn
    have hd1 : 0 < 2 ^ d := Nat.pow_pos (by decide)
    have hxs : x.size ≤ 2 * x.size * 2 ^ d := Nat.le_trans (by omega) (Nat.le_mul_of_pos_right _ hd1)
    by_cases h0 : n = 0
    · subst h0
      refine ⟨out, Ev.step (fun k => spec_l1Many.l0.eq_2 _ _ _ _) ?_, by omega⟩
      simp only [if_neg (show ¬ (((0 : Nat) : Int) > 0) by omega)]
      exact Ev.now _
    · have e1 : Int.tmod (n : Int) 2 = ((n % 2 : Nat) : Int) := by rw [Int.tmod_eq_emod_of_nonneg (by omega)]; omega
      have e2 : wrap64 (Int.tdiv (n : Int) 2) = ((n / 2 : Nat) : Int) := by
        rw [Int.tdiv_eq_ediv_of_nonneg (by omega), wrap_id (by omega) (by omega)]; omega
      have hs2 : (x ++ x).size = 2 * x.size := by rw [ByteArray.size_append]; omega
      have hq : n / 2 < 2 ^ d := by omega
      by_cases h1 : n % 2 = 1
      · have hm : x.size * n = 2 * x.size * (n / 2) + x.size := by
          have hn2 : n = 2 * (n / 2) + 1 := by omega
          conv => lhs; rw [hn2]
          rw [Nat.mul_add, Nat.mul_one, ← Nat.mul_assoc, Nat.mul_comm x.size 2]
        obtain ⟨r, hr, hrs⟩ := ih (n / 2) (x ++ x) (out ++ x) hq (by omega) (by rw [hs2]; exact hx) (by rw [hs2, ByteArray.size_append]; omega)
        refine ⟨r, Ev.step (fun k => spec_l1Many.l0.eq_2 _ _ _ _) ?_, ?_⟩
        · simp only [if_pos (show ((n : Int) > 0) by omega), e1, e2, if_pos (show ((n % 2 : Nat) : Int) = 1 by omega), if_pos (show out.size + x.size ≤ 9223372036854775807 by omega), if_pos (show x.size + x.size ≤ 9223372036854775807 by omega)]
          exact hr
        · rw [hs2, ByteArray.size_append] at hrs
          omega
      · have hm : x.size * n = 2 * x.size * (n / 2) := by
          have hn2 : n = 2 * (n / 2) := by omega
          conv => lhs; rw [hn2]
          rw [← Nat.mul_assoc, Nat.mul_comm x.size 2]
        obtain ⟨r, hr, hrs⟩ := ih (n / 2) (x ++ x) out hq (by omega) (by rw [hs2]; exact hx) (by rw [hs2]; omega)
        refine ⟨r, Ev.step (fun k => spec_l1Many.l0.eq_2 _ _ _ _) ?_, ?_⟩
        · simp only [if_pos (show ((n : Int) > 0) by omega), e1, e2, if_neg (show ¬ ((n % 2 : Nat) : Int) = 1 by omega), if_pos (show x.size + x.size ≤ 9223372036854775807 by omega)]
          exact hr
        · rw [hs2] at hrs
          omega

theorem l11AnyText_ev (s : List Int) (hs : CodeOk s) (p : Int) (hp : 0 ≤ p) (hp1 : p ≤ 800000 - 10) : ∃ r q, Ev (fun k => spec_l11AnyText.f k s p) (r, q) ∧ p ≤ q ∧ q ≤ p + 30 ∧ r.size ≤ 300 := by
  obtain ⟨i, hi, h0, h1⟩ := pick_ev s hs p 14 hp (by omega) (by omega) (by omega)
  simp only [spec_l11AnyText.f]
  by_cases c0 : i = 0
  · obtain ⟨j, hj, h2, h3⟩ := pick_ev s hs (p + 1) 2 (by omega) (by omega) (by omega) (by omega)
    obtain ⟨m, hm⟩ : ∃ m : Nat, 60 + j = (m : Int) := ⟨(60 + j).toNat, by omega⟩
    have e1 : (⟨#[120]⟩ : ByteArray).size = 1 := rfl
    obtain ⟨r, hr, hrs⟩ := l1Many_l0 7 m (⟨#[120]⟩ : ByteArray) (⟨#[]⟩ : ByteArray) (by omega) (by decide) (by decide) (by rw [e1]; show 0 + 1 * m ≤ _; omega)
    have e0 : (⟨#[]⟩ : ByteArray).size = 0 := rfl
    rw [e0, e1, Nat.one_mul] at hrs
    refine ⟨r, p + 1 + 1, Ev.bind hi ?_, by omega, by omega, by omega⟩
    simp only [if_pos c0]
    refine Ev.bind hj ?_
    simp only [hm, wrap_id (x := (m : Int)) (by omega) (by omega)]
    exact Ev.bind (show Ev (fun k => spec_l1Many.f k _ _) r from hr) (Ev.now _)
  · by_cases c1 : i = 1
    · obtain ⟨t, q, ht, h2, h3, h4⟩ := l11Text_ev s hs (p + 1) (by omega) (by omega)
      obtain ⟨x, hx, hxm⟩ := of_ev s hs q (([(⟨#[10]⟩ : ByteArray), (⟨#[1]⟩ : ByteArray), (⟨#[127]⟩ : ByteArray)] : List ByteArray)) (by omega) (by omega) (by decide) (by decide)
      have hxs : x.size ≤ 1 := by
        have h : ∀ x ∈ ([(⟨#[10]⟩ : ByteArray), (⟨#[1]⟩ : ByteArray), (⟨#[127]⟩ : ByteArray)] : List ByteArray), x.size ≤ 1 := by decide
        exact h x hxm
      refine ⟨t ++ x, q + 1, Ev.bind hi ?_, by omega, by omega, by rw [ByteArray.size_append]; omega⟩
      simp only [if_neg c0, if_pos c1]
      refine Ev.bind ht ?_
      refine Ev.bind hx ?_
      simp only [if_pos (show t.size + x.size ≤ 9223372036854775807 by omega)]
      exact Ev.now _
    · obtain ⟨t, q, ht, h2, h3, h4⟩ := l11Text_ev s hs (p + 1) (by omega) (by omega)
      refine ⟨t, q, Ev.bind hi ?_, by omega, by omega, by omega⟩
      simp only [if_neg c0, if_neg c1]
      exact Ev.bind ht (Ev.now _)

theorem l11AnyDoc_ev (s : List Int) (hs : CodeOk s) (F : List S75) (hF : F.length ≤ 1000) (p : Int) (hp : 0 ≤ p) (hp1 : p ≤ 500000) :
    ∃ key r q, Ev (fun k => spec_l11AnyDoc.f k s p F) (key, r, q) ∧ p ≤ q ∧ q ≤ p + 300 ∧ key.size ≤ 300 ∧ r.length ≤ 5 ∧ shortCells r := by
  obtain ⟨key, r, q, hd, b1, b2, b3, b4, b5⟩ := l11Doc_ev s hs F hF p hp (by omega)
  obtain ⟨x, hx, x0, x1⟩ := pick_ev s hs q 14 (by omega) (by omega) (by omega) (by omega)
  simp only [spec_l11AnyDoc.f]
  by_cases c0 : x = 0
  · obtain ⟨y, hy, hym⟩ := of_ev s hs (q + 1) (([(⟨#[]⟩ : ByteArray), (⟨#[65]⟩ : ByteArray), (⟨#[110, 105, 110, 101, 108, 101, 116, 116, 101]⟩ : ByteArray)] : List ByteArray)) (by omega) (by omega) (by decide) (by decide)
    have hys : y.size ≤ 300 := by
      have h : ∀ x ∈ (([(⟨#[]⟩ : ByteArray), (⟨#[65]⟩ : ByteArray), (⟨#[110, 105, 110, 101, 108, 101, 116, 116, 101]⟩ : ByteArray)] : List ByteArray)), x.size ≤ 300 := by decide
      exact h y hym
    refine ⟨y, r, q + 1 + 1, Ev.bind hd (Ev.bind hx ?_), by omega, by omega, hys, by omega, b5⟩
    simp only [if_pos c0]
    exact Ev.bind hy (Ev.now _)
  · by_cases c1 : x = 1
    · obtain ⟨y, hy, hym⟩ := of_ev s hs (q + 1) (([(⟨#[122, 122]⟩ : ByteArray), (⟨#[98, 111, 100, 121]⟩ : ByteArray), (⟨#[]⟩ : ByteArray)] : List ByteArray)) (by omega) (by omega) (by decide) (by decide)
      have hys : y.size ≤ 300 := by
        have h : ∀ x ∈ (([(⟨#[122, 122]⟩ : ByteArray), (⟨#[98, 111, 100, 121]⟩ : ByteArray), (⟨#[]⟩ : ByteArray)] : List ByteArray)), x.size ≤ 300 := by decide
        exact h y hym
      obtain ⟨T, q2, hT, t1, t2, t3⟩ := l11AnyText_ev s hs (q + 1 + 1) (by omega) (by omega)
      refine ⟨key, r ++ [⟨y, T⟩], q2, Ev.bind hd (Ev.bind hx ?_), by omega, by omega, b3, by simp; omega, shortCells_snoc b5 hys t3⟩
      simp only [if_neg c0, if_pos c1]
      refine Ev.bind hy (Ev.bind hT ?_)
      simp only [if_pos (show r.length < 4398046511104 by omega)]
      exact Ev.now _
    · by_cases c2 : x = 2
      · by_cases hr0 : (r.length : Int) > 0
        · obtain ⟨z, hz, z0, z1⟩ := pick_ev s hs (q + 1) (r.length : Int) (by omega) (by omega) (by omega) (by omega)
          obtain ⟨m, rfl⟩ : ∃ m : Nat, z = (m : Int) := ⟨z.toNat, by omega⟩
          obtain ⟨y, hy, hym⟩ := of_ev s hs (q + 1 + 1) (([(⟨#[48, 49]⟩ : ByteArray), (⟨#[]⟩ : ByteArray), (⟨#[120, 44]⟩ : ByteArray), (⟨#[45, 48]⟩ : ByteArray), (⟨#[114, 101, 100, 44, 44, 98, 108, 117, 101]⟩ : ByteArray), (⟨#[97, 44, 98, 44, 99, 44, 100, 44, 101]⟩ : ByteArray), (⟨#[119, 111, 114, 100, 115, 32, 104, 101, 114, 101]⟩ : ByteArray)] : List ByteArray)) (by omega) (by omega) (by decide) (by decide)
          have hys : y.size ≤ 300 := by
            have h : ∀ x ∈ (([(⟨#[48, 49]⟩ : ByteArray), (⟨#[]⟩ : ByteArray), (⟨#[120, 44]⟩ : ByteArray), (⟨#[45, 48]⟩ : ByteArray), (⟨#[114, 101, 100, 44, 44, 98, 108, 117, 101]⟩ : ByteArray), (⟨#[97, 44, 98, 44, 99, 44, 100, 44, 101]⟩ : ByteArray), (⟨#[119, 111, 114, 100, 115, 32, 104, 101, 114, 101]⟩ : ByteArray)] : List ByteArray)), x.size ≤ 300 := by decide
            exact h y hym
          have hm : m < r.length := by omega
          refine ⟨key, r.set m ⟨r[m].f0, y⟩, q + 1 + 1 + 1, Ev.bind hd (Ev.bind hx ?_), by omega, by omega, b3, by simp; omega, ?_⟩
          · simp only [if_neg c0, if_neg c1, if_pos c2, if_pos hr0]
            refine Ev.bind hz (Ev.bind hy ?_)
            simp only [if_pos z0, if_pos z1, toNat_cast, rdi_Cell r m hm]
            exact Ev.now _
          · intro c hc
            rcases List.mem_or_eq_of_mem_set hc with h | h
            · exact b5 c h
            · rw [h]; exact ⟨(b5 _ (List.getElem_mem hm)).1, hys⟩
        · refine ⟨key, r, q + 1, Ev.bind hd (Ev.bind hx ?_), by omega, by omega, b3, by omega, b5⟩
          simp only [if_neg c0, if_neg c1, if_pos c2, if_neg hr0]
          exact Ev.now _
      · refine ⟨key, r, q + 1, Ev.bind hd (Ev.bind hx ?_), by omega, by omega, b3, by omega, b5⟩
        simp only [if_neg c0, if_neg c1, if_neg c2]
        exact Ev.now _

def fieldNames : List ByteArray := [(⟨#[116, 105, 116, 108, 101]⟩ : ByteArray), (⟨#[98, 111, 100, 121]⟩ : ByteArray), (⟨#[112, 114, 105, 99, 101]⟩ : ByteArray), (⟨#[99, 111, 108, 111, 114]⟩ : ByteArray), (⟨#[122]⟩ : ByteArray), (⟨#[]⟩ : ByteArray)]

/-- Fields as they are drawn: few, of known names. -/
def drawnF (n : Nat) (l : List S75) : Prop := l.length ≤ n ∧ ∀ f ∈ l, f.f0 ∈ fieldNames

def baseFields : List S75 := [⟨(⟨#[116, 105, 116, 108, 101]⟩ : ByteArray), 1, 3⟩, ⟨(⟨#[98, 111, 100, 121]⟩ : ByteArray), 1, 1⟩, ⟨(⟨#[112, 114, 105, 99, 101]⟩ : ByteArray), 2, 0⟩, ⟨(⟨#[99, 111, 108, 111, 114]⟩ : ByteArray), 3, 0⟩]

theorem base_drawn : drawnF 4 baseFields := by
  refine ⟨by decide, fun f hf => ?_⟩
  unfold baseFields at hf
  simp only [List.mem_cons, List.not_mem_nil, or_false] at hf
  unfold fieldNames
  rcases hf with rfl | rfl | rfl | rfl <;> simp

theorem l10Fields_eq : spec_l10Fields.f = some baseFields := rfl

theorem l11Fields_ev (s : List Int) (hs : CodeOk s) (p : Int) (hp : 0 ≤ p) (hp1 : p ≤ 900000) : ∃ r, Ev (fun k => spec_l11Fields.f k s p) (r, p + 1) ∧ drawnF 4 r ∧ 1 ≤ r.length := by
  obtain ⟨x, hx, x0, x1⟩ := pick_ev s hs p 4 hp (by omega) (by omega) (by omega)
  have hl : (baseFields.length : Int) = 4 := rfl
  have n1 : (1 : Int).toNat = 1 := rfl
  simp only [spec_l11Fields.f, l10Fields_eq, Option.bind_some]
  by_cases c0 : x = 0
  · refine ⟨baseFields.take 1, Ev.bind hx ?_, ⟨by decide, fun f hf => base_drawn.2 f (List.mem_of_mem_take hf)⟩, by decide⟩
    simp only [if_pos c0, hl, if_pos (show (1 : Int) ≤ 4 by decide), n1]
    exact Ev.now _
  · by_cases c1 : x = 1
    · refine ⟨baseFields.drop 1, Ev.bind hx ?_, ⟨by decide, fun f hf => base_drawn.2 f (List.mem_of_mem_drop hf)⟩, by decide⟩
      simp only [if_neg c0, if_pos c1, hl, if_pos (show (1 : Int) ≤ 4 by decide), n1]
      exact Ev.now _
    · refine ⟨baseFields, Ev.bind hx ?_, base_drawn, by decide⟩
      simp only [if_neg c0, if_neg c1]
      exact Ev.now _

theorem one_ev (s : List Int) (hs : CodeOk s) (p : Int) (l : List Int) (hp : 0 ≤ p) (hp1 : p ≤ 1000000) (hl : 1 ≤ l.length) (hl1 : l.length ≤ 1000000) :
    ∃ r, Ev (fun k => spec_l1Rd_one.f k s p l) (r, p + 1) ∧ r ∈ l := by
  obtain ⟨i, hi, h0, h1⟩ := pick_ev s hs p (l.length : Int) hp hp1 (by omega) (by omega)
  obtain ⟨j, rfl⟩ : ∃ j : Nat, i = (j : Int) := ⟨i.toNat, by omega⟩
  refine ⟨l[j]'(by omega), ?_, List.getElem_mem _⟩
  simp only [spec_l1Rd_one.f]
  refine Ev.bind hi ?_
  simp only [if_pos h0, if_pos h1, rd_get l j (by omega)]
  exact Ev.now _

theorem l11AnyFields_ev (s : List Int) (hs : CodeOk s) (p : Int) (hp : 0 ≤ p) (hp1 : p ≤ 800000) : ∃ r q, Ev (fun k => spec_l11AnyFields.f k s p) (r, q) ∧ p ≤ q ∧ q ≤ p + 5 ∧ drawnF 5 r := by
  obtain ⟨r, hr, hd, hl1⟩ := l11Fields_ev s hs p hp (by omega)
  obtain ⟨x, hx, x0, x1⟩ := pick_ev s hs (p + 1) 12 (by omega) (by omega) (by omega) (by omega)
  have hl := hd.1
  simp only [spec_l11AnyFields.f, Option.bind_some, List.nil_append, List.length_nil, Nat.zero_add]
  have st : ∀ (R : List S75 × Int), Ev (fun k => (spec_l1Rd_pick.f k s (p + 1) 12).bind fun bt287 => (if bt287.1 = 0 then ((spec_l1Rd_of.f k s bt287.2 (([(⟨#[116, 105, 116, 108, 101]⟩ : ByteArray), (⟨#[122]⟩ : ByteArray), (⟨#[]⟩ : ByteArray)] : List ByteArray))).bind fun bt292 => ((spec_l1Rd_pick.f k s bt292.2 5).bind fun bt294 => ((spec_l1Rd_pick.f k s bt294.2 11).bind fun bt296 => (if r.length < 4398046511104 then (some ((r ++ [(⟨bt292.1, bt294.1, bt296.1⟩ : S75)]), bt296.2)) else (none))))) else (if bt287.1 = 1 then ((spec_l1Rd_one.f k s bt287.2 (([0, 9, 10] : List Int))).bind fun bt304 => (if 0 < (r.length : Int) then (some ((r.set (0 : Int).toNat (⟨(rd_T75 r 0).f0, (rd_T75 r 0).f1, bt304.1⟩ : S75)), bt304.2)) else (none))) else (if bt287.1 = 2 then (some (([] : List (S75)), bt287.2)) else (some (r, bt287.2)))))) R →
      Ev (fun k => (spec_l11Fields.f k s p).bind fun bt280 => (if bt280.1.length < 4398046511104 then ((spec_l1Rd_pick.f k s bt280.2 12).bind fun bt287 => (if bt287.1 = 0 then ((spec_l1Rd_of.f k s bt287.2 (([(⟨#[116, 105, 116, 108, 101]⟩ : ByteArray), (⟨#[122]⟩ : ByteArray), (⟨#[]⟩ : ByteArray)] : List ByteArray))).bind fun bt292 => ((spec_l1Rd_pick.f k s bt292.2 5).bind fun bt294 => ((spec_l1Rd_pick.f k s bt294.2 11).bind fun bt296 => (if bt280.1.length < 4398046511104 then (some ((bt280.1 ++ [(⟨bt292.1, bt294.1, bt296.1⟩ : S75)]), bt296.2)) else (none))))) else (if bt287.1 = 1 then ((spec_l1Rd_one.f k s bt287.2 (([0, 9, 10] : List Int))).bind fun bt304 => (if 0 < (bt280.1.length : Int) then (some ((bt280.1.set (0 : Int).toNat (⟨(rd_T75 bt280.1 0).f0, (rd_T75 bt280.1 0).f1, bt304.1⟩ : S75)), bt304.2)) else (none))) else (if bt287.1 = 2 then (some (([] : List (S75)), bt287.2)) else (some (bt280.1, bt287.2)))))) else (none))) R := by
    intro R hR
    refine Ev.bind hr ?_
    simp only [if_pos (show r.length < 4398046511104 by omega)] at hR ⊢
    exact hR
  by_cases c0 : x = 0
  · obtain ⟨a, ha, ham⟩ := of_ev s hs (p + 1 + 1) (([(⟨#[116, 105, 116, 108, 101]⟩ : ByteArray), (⟨#[122]⟩ : ByteArray), (⟨#[]⟩ : ByteArray)] : List ByteArray)) (by omega) (by omega) (by decide) (by decide)
    obtain ⟨b, hb, b0, b1⟩ := pick_ev s hs (p + 1 + 1 + 1) 5 (by omega) (by omega) (by omega) (by omega)
    obtain ⟨c, hc, e0, e1⟩ := pick_ev s hs (p + 1 + 1 + 1 + 1) 11 (by omega) (by omega) (by omega) (by omega)
    refine ⟨r ++ [⟨a, b, c⟩], p + 1 + 1 + 1 + 1 + 1, st _ (Ev.bind hx ?_), by omega, by omega, by simp; omega, fun f hf => ?_⟩
    · simp only [if_pos c0]
      refine Ev.bind ha (Ev.bind hb (Ev.bind hc ?_))
      simp only [if_pos (show r.length < 4398046511104 by omega)]
      exact Ev.now _
    · rcases List.mem_append.1 hf with h | h
      · exact hd.2 f h
      · rw [List.mem_singleton.1 h]
        have hsub : ∀ x ∈ (([(⟨#[116, 105, 116, 108, 101]⟩ : ByteArray), (⟨#[122]⟩ : ByteArray), (⟨#[]⟩ : ByteArray)] : List ByteArray)), x ∈ fieldNames := by
          intro x hx
          simp only [List.mem_cons, List.not_mem_nil, or_false] at hx
          unfold fieldNames
          rcases hx with rfl | rfl | rfl <;> simp
        exact hsub a ham
  · by_cases c1 : x = 1
    · obtain ⟨a, ha, ham⟩ := one_ev s hs (p + 1 + 1) ([0, 9, 10] : List Int) (by omega) (by omega) (by decide) (by decide)
      have h0 := rdi_Field r 0 (by omega)
      refine ⟨r.set 0 ⟨(r[0]'(by omega)).f0, (r[0]'(by omega)).f1, a⟩, p + 1 + 1 + 1, st _ (Ev.bind hx ?_), by omega, by omega, by simp; omega, fun f hf => ?_⟩
      · simp only [if_neg c0, if_pos c1]
        refine Ev.bind ha ?_
        have n0 : (0 : Int).toNat = 0 := rfl
        have h0' : rd_T75 r 0 = r[0]'(by omega) := h0
        simp only [if_pos (show 0 < (r.length : Int) by omega), n0, h0']
        exact Ev.now _
      · rcases List.mem_or_eq_of_mem_set hf with h | h
        · exact hd.2 f h
        · rw [h]; exact hd.2 (r[0]'(by omega)) (List.getElem_mem (show 0 < r.length by omega))
    · by_cases c2 : x = 2
      · refine ⟨[], p + 1 + 1, st _ (Ev.bind hx ?_), by omega, by omega, by simp, fun f hf => by simp at hf⟩
        simp only [if_neg c0, if_neg c1, if_pos c2]
        exact Ev.now _
      · refine ⟨r, p + 1 + 1, st _ (Ev.bind hx ?_), by omega, by omega, by omega, hd.2⟩
        simp only [if_neg c0, if_neg c1, if_neg c2]
        exact Ev.now _

theorem u8_range {l : List Int} (h : ∀ x ∈ l, (Lit.int .u8 x).wf = true) : ∀ c ∈ l, 0 ≤ c ∧ c ≤ 255 := by
  intro c hc
  have := h c hc
  simp [Lit.wf, IntKind.min, IntKind.max, IntKind.bits, IntKind.signed] at this
  omega

theorem DrawDocOk_ev (l : List Int) (h : ∀ x ∈ l, (Lit.int .u8 x).wf = true) : ∃ F key r, Ev (fun k => spec_DrawDocOk.f k l) (F, key, r) ∧ drawnF 5 F ∧ key.size ≤ 300 ∧ r.length ≤ 5 ∧ shortCells r := by
  obtain ⟨s', h1, hs⟩ := l1Open_eq l (u8_range h)
  obtain ⟨F, q, hF, q0, q1, q2⟩ := l11AnyFields_ev s' hs 0 (by omega) (by omega)
  have hF5 := q2.1
  obtain ⟨key, r, q3, hd, b1, b2, b3, b4, b5⟩ := l11AnyDoc_ev s' hs F (by omega) q (by omega) (by omega)
  refine ⟨F, key, r, ?_, q2, b3, b4, b5⟩
  simp only [spec_DrawDocOk.f, h1, Option.bind_some]
  exact Ev.bind hF (Ev.bind hd (Ev.now _))

open Classical in
theorem docOk_less {F : List S75} {key : ByteArray} {l : List S46} (h : docOkB F key l = true) (n : Nat) : docOkB F key (l.take n) = true := by
  unfold docOkB at h ⊢
  have h := of_decide_eq_true h
  refine decide_eq_true ⟨h.1, ?_, fun c hc => h.2.2 c (List.mem_of_mem_take hc)⟩
  have hf := h.2.1
  unfold formB at hf ⊢
  have hf := of_decide_eq_true hf
  refine decide_eq_true ⟨fun i hi hji => ?_, hf.2.1, by have := hf.2.2; rw [List.length_take]; omega⟩
  have hi2 : i < l.length := by rw [List.length_take] at hi; omega
  have h3 := hf.1 i hi2 hji
  refine ⟨by rw [List.getElem_take]; exact h3.1, by rw [List.getElem_take]; exact h3.2.1, fun h0 => ?_⟩
  rw [List.getElem_take, List.getElem_take]
  exact h3.2.2 h0

def zzCell : S46 := ⟨(⟨#[122, 122, 122, 122]⟩ : ByteArray), (⟨#[]⟩ : ByteArray)⟩

theorem drawnF_zzzz {n : Nat} {l : List S75} (h : drawnF n l) : ∀ f ∈ l, f.f0 ≠ (⟨#[122, 122, 122, 122]⟩ : ByteArray) := by
  intro f hf
  have : ∀ x ∈ fieldNames, x ≠ (⟨#[122, 122, 122, 122]⟩ : ByteArray) := by decide
  exact this _ (h.2 f hf)

open Classical in
theorem docOk_more {n : Nat} {F : List S75} (hd : drawnF n F) (key : ByteArray) (l : List S46) : docOkB F key (l ++ [zzCell]) = false := by
  unfold docOkB
  refine decide_eq_false (fun h => ?_)
  have h1 := h.2.2 zzCell (by simp)
  have h2 : kindOf F zzCell.f0 = 0 := by
    show (fieldAt (⟨#[122, 122, 122, 122]⟩ : ByteArray) F).2.1 = 0
    rw [fieldAt_none (drawnF_zzzz hd)]
  rw [h2] at h1
  rcases h1 with h1 | ⟨h1, _⟩ | ⟨h1, _⟩ <;> exact absurd h1 (by decide)

theorem shortCells_small {l : List S46} (h : shortCells l) : ∀ x ∈ l, x.f0.size ≤ 1048576 ∧ x.f1.size ≤ 1048576 := fun x hx => by have := h x hx; omega

theorem drawnF_size {n : Nat} {l : List S75} (h : drawnF n l) : ∀ f ∈ l, f.f0.size ≤ 1048576 := by
  intro f hf
  have : ∀ x ∈ fieldNames, x.size ≤ 1048576 := by decide
  exact this _ (h.2 f hf)

open Classical in
theorem FnDocOk : laws_FnDocOk.PureX := by
  intro l0 hw0
  refine Ev.rounds (g := fun k => laws_FnDocOk.f k l0) ?_
  simp only [laws_FnDocOk.f]
  by_cases hg : (l0.length : Int) > 1048576
  · simp only [if_pos hg]; exact Ev.now _
  simp only [if_neg hg]
  obtain ⟨F, key, l, hd, hdr, hkey, hl5, hsh⟩ := DrawDocOk_ev l0 hw0.2
  have hF5 := hdr.1
  have hsz := drawnF_size hdr
  have hsm := shortCells_small hsh
  have himp := impl_DocOk_ev F (by omega) hsz key l (by omega) (by omega) hsm
  have hspec := spec_DocOk_ev F (by omega) hsz key l (by omega) (by omega) hsm
  refine Ev.bind hd ?_
  refine Ev.bind himp ?_
  refine Ev.bind hspec ?_
  simp only [bne_self_eq_false, if_neg (show ¬ (false = true) by decide)]
  cases hok : docOkB F key l with
  | false =>
    refine Ev.step (fun k => laws_FnDocOk.j0.eq_2 _ _ _ _ _ _) ?_
    simp only [Bool.not_false, if_true]
    refine Ev.bind hspec ?_
    simp only [hok, beq_self_eq_true]; exact Ev.now _
  | true =>
    refine Ev.step (fun k => laws_FnDocOk.j0.eq_2 _ _ _ _ _ _) ?_
    have hmore : ∀ x ∈ l ++ [zzCell], x.f0.size ≤ 1048576 ∧ x.f1.size ≤ 1048576 := by
      intro x hx
      rcases List.mem_append.1 hx with h | h
      · exact hsm x h
      · rw [List.mem_singleton.1 h]; decide
    have h2 := impl_DocOk_ev F (by omega) hsz key (l ++ [zzCell]) (by omega) (by simp; omega) hmore
    rw [docOk_more hdr] at h2
    have h3 := impl_FieldsOk_ev F (by omega) hsz
    have hfo : fieldsB F = true := by unfold docOkB at hok; exact (of_decide_eq_true hok).1
    rw [hfo] at h3
    rw [hok] at himp
    have hlt : 0 + l.length < 4398046511104 := by omega
    have hlt2 : 0 + l.length + (0 + 1) < 4398046511104 := by omega
    simp only [Bool.not_true, if_neg (show ¬ (false = true) by decide), Option.bind_some, List.nil_append, List.length_nil, List.length_append, List.length_cons, if_pos hlt, if_pos hlt2]
    by_cases h0 : (l.length : Int) > 0
    · have he : wrap64 ((l.length : Int) - 1) = ((l.length - 1 : Nat) : Int) := by rw [wrap_id (by omega) (by omega)]; omega
      simp only [if_pos h0, he, if_pos (show (0 : Int) ≤ ((l.length - 1 : Nat) : Int) by omega), if_pos (show ((l.length - 1 : Nat) : Int) ≤ (l.length : Int) by omega), toNat_cast]
      have hless : ∀ x ∈ l.take (l.length - 1), x.f0.size ≤ 1048576 ∧ x.f1.size ≤ 1048576 := fun x hx => hsm x (List.mem_of_mem_take hx)
      have h1 := impl_DocOk_ev F (by omega) hsz key (l.take (l.length - 1)) (by omega) (by rw [List.length_take]; omega) hless
      rw [docOk_less hok] at h1
      refine Ev.bind h1 ?_
      simp only [if_true]
      refine Ev.bind h2 ?_
      simp only [if_neg (show ¬ (false = true) by decide)]
      exact Ev.bind h3 (Ev.now _)
    · simp only [if_neg h0]
      refine Ev.bind himp ?_
      simp only [if_true]
      refine Ev.bind h2 ?_
      simp only [if_neg (show ¬ (false = true) by decide)]
      exact Ev.bind h3 (Ev.now _)

end Go.Proofs.YtelcdhjdlgedeaaDoor.Pure
