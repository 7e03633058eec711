/- The plain law of FnExactStem: whatever the input, the printed function of this law answers true after enough rounds; conditions: only the sizes and kinds that the law's Pure states. -/
import Derived.Test.YtifenfjjekpflaaDoorSFnExactStem
namespace Go.Proofs.YtifenfjjekpflaaDoor.Pure
open Go.RowKit Go.Proofs.YtifenfjjekpflaaDoor.PFnExactStem Go.Proofs.YtifenfjjekpflaaDoorW.PrintWords Go.Proofs.YtifenfjjekpflaaDoorW.PrintLast Go.Proofs.YtifenfjjekpflaaDoorW.PrintMore
set_option linter.unusedVariables false
set_option linter.unusedSimpArgs false

theorem wrap_id {x : Int} (h0 : -9223372036854775808 ≤ x) (h1 : x ≤ 9223372036854775807) : wrap64 x = x := by unfold wrap64; omega

theorem bytesOf_range (s : ByteArray) : ∀ c ∈ bytesOf s, 0 ≤ c ∧ c ≤ 255 := by
  intro c hc
  obtain ⟨b, _, rfl⟩ := List.mem_map.1 hc
  have := b.toNat_lt
  omega

theorem bytesOf_strOfNums (l : List Int) (h : ∀ c ∈ l, 0 ≤ c ∧ c ≤ 255) : bytesOf (strOfNums l) = l := by
  unfold bytesOf
  rw [strOfNums_data, List.map_map]
  conv => rhs; rw [← List.map_id l]
  apply List.map_congr_left
  intro c hc
  have := h c hc
  simp only [Function.comp, id]
  rw [UInt8.toNat_ofNat']
  omega

theorem foldC_range (c : Int) (h : 0 ≤ c ∧ c ≤ 255) : 0 ≤ foldC c ∧ foldC c ≤ 255 := by
  unfold foldC; split <;> omega

def foldB (s : ByteArray) : ByteArray := strOfNums ((bytesOf s).map foldC)

theorem bytesOf_foldB (s : ByteArray) : bytesOf (foldB s) = (bytesOf s).map foldC := by
  unfold foldB
  apply bytesOf_strOfNums
  intro c hc
  obtain ⟨b, hb, rfl⟩ := List.mem_map.1 hc
  exact foldC_range b (bytesOf_range s b hb)

theorem foldB_size (s : ByteArray) : (foldB s).size = s.size := by
  rw [← bytesOf_length, bytesOf_foldB, List.length_map, bytesOf_length]

theorem impl_Fold_eq (s : ByteArray) (hn : s.size < 70368744177664) : impl_Fold.f s = some (foldB s) := by
  unfold impl_Fold.f
  rw [if_pos (by omega)]; rfl

theorem mem_drop_step {α : Type} {l : List α} {j : Nat} {n : α} (h : j < l.length) : n ∈ l.drop j ↔ n = l[j] ∨ n ∈ l.drop (j + 1) := by
  rw [List.drop_eq_getElem_cons h, List.mem_cons]

theorem wsucc (j : Nat) (h : j < 9223372036854775807) : wrap64 ((j : Int) + 1) = ((j + 1 : Nat) : Int) := by rw [wrap_id (by omega) (by omega)]; omega

theorem toList_data (s : ByteArray) : s.toList = s.data.toList := by
  exact ByteArray.toList_eq s

theorem toList_inj {a b : ByteArray} : a.toList = b.toList ↔ a = b := by
  rw [toList_data, toList_data]
  constructor
  · intro h; exact ByteArray.ext (Array.toList_inj.1 h)
  · rintro rfl; rfl

theorem rdOf_get {α : Type} (d : α) (l : List α) (j : Nat) (h : j < l.length) : rdOf d l (j : Int) = l[j] := by
  unfold rdOf; simp [List.getD_eq_getElem?_getD, List.getElem?_eq_getElem h]

theorem rdOf_str (l : List ByteArray) (j : Nat) (h : j < l.length) : rdOf ByteArray.empty l (j : Int) = l[j] := rdOf_get _ l j h

open Classical in
theorem slices_Index_string_string_l0 (l : List ByteArray) (n : ByteArray) (hn : l.length < 4611686018427387904) : ∀ (d i : Nat), i + d = l.length → ∃ r : Int, Ev (fun k => slices_Index_string_string.l0 k l n (l.length : Int) (i : Int)) r ∧ decide (r ≥ 0) = decide (n ∈ l.drop i) := by
  intro d
  induction d with
  | zero =>
    intro i hi
    refine ⟨-1, Ev.step (fun k => slices_Index_string_string.l0.eq_2 _ _ _ _ _) ?_, ?_⟩
    · simp only [if_neg (show ¬ ((i : Int) < (l.length : Int)) by omega)]
      exact Ev.now _
    · rw [List.drop_of_length_le (by omega)]; simp
  | succ d ih =>
    intro i hi
    have hs := mem_drop_step (l := l) (n := n) (show i < l.length by omega)
    by_cases h : n = l[i]
    · refine ⟨(i : Int), Ev.step (fun k => slices_Index_string_string.l0.eq_2 _ _ _ _ _) ?_, ?_⟩
      · simp only [if_pos (show ((i : Int) < (l.length : Int)) by omega), if_pos (show 0 ≤ (i : Int) by omega), rdOf_str l i (by omega), toList_inj, if_pos h]
        exact Ev.now _
      · rw [decide_eq_true (hs.2 (.inl h))]; simp
    · obtain ⟨r, h1, h2⟩ := ih (i + 1) (by omega)
      refine ⟨r, Ev.step (fun k => slices_Index_string_string.l0.eq_2 _ _ _ _ _) ?_, ?_⟩
      · simp only [if_pos (show ((i : Int) < (l.length : Int)) by omega), if_pos (show 0 ≤ (i : Int) by omega), rdOf_str l i (by omega), toList_inj, if_neg h, wsucc i (by omega)]
        exact h1
      · rw [h2]; exact decide_eq_decide.2 (hs.trans ⟨fun h1 => h1.resolve_left h, .inr⟩).symm

open Classical in
theorem slices_Contains_string_string_ev (l : List ByteArray) (n : ByteArray) (hn : l.length < 4611686018427387904) : Ev (fun k => slices_Contains_string_string.f k l n) (decide (n ∈ l)) := by
  obtain ⟨r, h1, h2⟩ := slices_Index_string_string_l0 l n hn l.length 0 (by omega)
  simp only [slices_Contains_string_string.f]
  refine Ev.bind (a := r) h1 ?_
  rw [h2]; exact Ev.now _

open Classical in
noncomputable def unStop (w : ByteArray) : ByteArray := if w ∈ stopsL then (⟨#[]⟩ : ByteArray) else w

open Classical in
theorem impl_Stem_j0 (x : ByteArray) (hx : x.size ≤ 100) (b : Bool) (hb : b = true → 1 ≤ x.size) : Ev (fun k => impl_Stem.j0 k x (x.size : Int) b) (unStop (if b = true then x.extract 0 (x.size - 1) else x)) := by
  refine Ev.step (fun k => impl_Stem.j0.eq_2 _ _ _ _) ?_
  cases b with
  | false =>
    simp only [if_neg (show ¬ (false = true) by decide)]
    refine Ev.bind (slices_Contains_string_string_ev stopsL x (by decide)) ?_
    unfold unStop
    by_cases h : x ∈ stopsL
    · simp only [if_pos h, decide_eq_true h, if_true]; exact Ev.now _
    · simp only [if_neg h, decide_eq_false h, if_neg (show ¬ (false = true) by decide)]; exact Ev.now _
  | true =>
    have h1 := hb rfl
    simp only [if_true, wrap_id (x := (x.size : Int) - 1) (by omega) (by omega), if_pos (show 0 ≤ (x.size : Int) - 1 by omega), if_pos (show (x.size : Int) - 1 ≤ (x.size : Int) by omega), show ((x.size : Int) - 1).toNat = x.size - 1 by omega]
    refine Ev.bind (slices_Contains_string_string_ev stopsL _ (by decide)) ?_
    unfold unStop
    by_cases h : x.extract 0 (x.size - 1) ∈ stopsL
    · simp only [if_pos h, decide_eq_true h, if_true]; exact Ev.now _
    · simp only [if_neg h, decide_eq_false h, if_neg (show ¬ (false = true) by decide)]; exact Ev.now _

def cut12 (w : ByteArray) : ByteArray := w.extract 0 (min w.size 12)

theorem extract_size (w : ByteArray) (n : Nat) (h : n ≤ w.size) : (w.extract 0 n).size = n := by rw [ByteArray.size_extract]; omega

theorem cut12_size (w : ByteArray) : (cut12 w).size = min w.size 12 := extract_size w _ (Nat.min_le_left _ _)

def lessS (w : ByteArray) : Bool := decide (w.size > 3 ∧ bt w ((w.size : Int) - 1) = 115 ∧ bt w ((w.size : Int) - 2) ≠ 115)

def noS (w : ByteArray) : ByteArray := if lessS w = true then w.extract 0 (w.size - 1) else w

noncomputable def stemB (s : ByteArray) : ByteArray := unStop (noS (cut12 (foldB s)))

theorem impl_Stem_ev (s : ByteArray) (hs : s.size < 70368744177664) : Ev (fun k => impl_Stem.f k s) (stemB s) := by
  simp only [impl_Stem.f]
  have hz := foldB_size s
  simp only [impl_Fold_eq s hs, Option.bind_some]
  have hmn : mn ((foldB s).size : Int) 12 = ((min (foldB s).size 12 : Nat) : Int) := by unfold mn; split <;> omega
  simp only [hmn, if_pos (show (0 : Int) ≤ ((min (foldB s).size 12 : Nat) : Int) by omega), if_pos (show ((min (foldB s).size 12 : Nat) : Int) ≤ ((foldB s).size : Int) by omega), Int.toNat_natCast]
  have hc : (foldB s).extract 0 (min (foldB s).size 12) = cut12 (foldB s) := rfl
  have hx : (cut12 (foldB s)).size ≤ 100 := by rw [cut12_size]; omega
  simp only [hc]
  unfold stemB
  generalize cut12 (foldB s) = x at hx
  have key : ∀ b : Bool, b = lessS x → Ev (fun k => impl_Stem.j0 k x (x.size : Int) b) (unStop (noS x)) := by
    intro b hb
    have := impl_Stem_j0 x hx b (fun h => by
      rw [hb] at h
      have := (of_decide_eq_true h).1
      omega)
    rw [hb] at this ⊢
    exact this
  by_cases h3 : (x.size : Int) > 3
  · simp only [if_pos h3, wrap_id (x := (x.size : Int) - 1) (by omega) (by omega), wrap_id (x := (x.size : Int) - 2) (by omega) (by omega), if_pos (show 0 ≤ (x.size : Int) - 1 by omega), if_pos (show (x.size : Int) - 1 < (x.size : Int) by omega), if_pos (show 0 ≤ (x.size : Int) - 2 by omega), if_pos (show (x.size : Int) - 2 < (x.size : Int) by omega)]
    by_cases h4 : bt x ((x.size : Int) - 1) = 115
    · simp only [if_pos h4]
      refine key _ ?_
      unfold lessS
      by_cases h5 : bt x ((x.size : Int) - 2) = 115
      · rw [decide_eq_false (fun h => h.2.2 h5)]; simp [h5]
      · rw [decide_eq_true ⟨by omega, h4, h5⟩]; simp [h5]
    · simp only [if_neg h4]
      refine key _ ?_
      unfold lessS
      rw [decide_eq_false (fun h => h4 h.2.1)]
  · simp only [if_neg h3]
    refine key _ ?_
    unfold lessS
    rw [decide_eq_false (fun h => by have := h.1; omega)]

theorem rd_get (l : List Int) (j : Nat) (h : j < l.length) : rd l (j : Int) = l[j] := by
  unfold rd; simp [List.getD_eq_getElem?_getD, List.getElem?_eq_getElem h]

theorem bt_get (s : ByteArray) (j : Nat) (h : j < (bytesOf s).length) : bt s (j : Int) = (bytesOf s)[j] := by
  rw [← rd_bytesOf, rd_get _ _ h]

theorem drop_get {α : Type} (l : List α) (j : Nat) (h : j < l.length) : l.drop j = l[j] :: l.drop (j + 1) := List.drop_eq_getElem_cons h

def upP (c : Int) : Prop := 65 ≤ c ∧ c ≤ 90
instance (c : Int) : Decidable (upP c) := by unfold upP; infer_instance

theorem foldC_eq (c : Int) : foldC c = if upP c then c + 32 else c := by
  unfold foldC
  by_cases h : 65 ≤ c ∧ c ≤ 90
  · rw [if_pos h, if_pos (show upP c from h)]
  · rw [if_neg h, if_neg (show ¬ upP c from h)]

theorem spec_l1Small_eq (c : Int) (h0 : 0 ≤ c) (h1 : c ≤ 255) : spec_l1Small.f c = some (if upP c then c + 32 else c) := by
  unfold spec_l1Small.f
  by_cases h : upP c
  · have h' : 65 ≤ c ∧ c ≤ 90 := h
    rw [if_pos h'.1, if_pos h'.2, if_pos h]; congr 1; omega
  · have h' : ¬ (65 ≤ c ∧ c ≤ 90) := h
    rw [if_neg h]
    by_cases h2 : c ≥ 65
    · rw [if_pos h2, if_neg (by omega)]
    · rw [if_neg h2]

theorem spec_Fold_l0 (s : ByteArray) (hn : s.size < 70368744177664) : ∀ (d i : Nat) (acc : List Int), i + d = s.size → acc.length ≤ i →
    Ev (fun k => spec_Fold.l0 k s acc (i : Int)) (strOfNums (acc ++ ((bytesOf s).drop i).map foldC)) := by
  have hb := bytesOf_length s
  have hr := bytesOf_range s
  intro d
  induction d with
  | zero =>
    intro i acc hi hacc
    refine Ev.step (fun k => spec_Fold.l0.eq_2 _ _ _ _) ?_
    simp only [if_neg (show ¬ ((i : Int) < (s.size : Int)) by omega)]
    rw [List.drop_of_length_le (by omega), List.map_nil, List.append_nil]
    exact Ev.now _
  | succ d ih =>
    intro i acc hi hacc
    have hc := hr (bytesOf s)[i] (List.getElem_mem _)
    refine Ev.step (fun k => spec_Fold.l0.eq_2 _ _ _ _) ?_
    simp only [if_pos (show ((i : Int) < (s.size : Int)) by omega), if_pos (show 0 ≤ (i : Int) by omega), bt_get s i (by omega), spec_l1Small_eq _ hc.1 hc.2, Option.bind_some, if_pos (show acc.length < 140737488355328 by omega), wsucc i (by omega), ← foldC_eq]
    have := ih (i + 1) (acc ++ [foldC (bytesOf s)[i]]) (by omega) (by simp; omega)
    rw [drop_get (bytesOf s) i (by omega), List.map_cons]
    rw [List.append_assoc, List.singleton_append] at this
    exact this

theorem spec_Fold_ev (s : ByteArray) (hn : s.size < 70368744177664) : Ev (fun k => spec_Fold.f k s) (foldB s) := by
  have := spec_Fold_l0 s hn s.size 0 [] (by omega) (by simp)
  rw [List.nil_append, List.drop_zero] at this
  exact this

theorem ev_false {g : Nat → Option Bool} {p : Prop} [Decidable p] (h : ¬ p) (k : Ev g false) : Ev g (decide p) := by
  rw [decide_eq_false h]; exact k

theorem ev_prop {g : Nat → Option Bool} {p q : Prop} [Decidable p] [Decidable q] (h : p ↔ q) (k : Ev g (decide p)) : Ev g (decide q) := by
  have : decide p = decide q := decide_eq_decide.2 h
  rw [← this]; exact k

theorem ev_true {g : Nat → Option Bool} {p : Prop} [Decidable p] (h : p) (k : Ev g true) : Ev g (decide p) := by
  rw [decide_eq_true h]; exact k

open Classical in
theorem spec_l1Stop_l0 (s : ByteArray) (l : List ByteArray) (hl : l.length < 100) : ∀ (d i : Nat), i + d = l.length → Ev (fun k => spec_l1Stop.l0 k s l (i : Int)) (decide (s ∈ l.drop i)) := by
  intro d
  induction d with
  | zero =>
    intro i hi
    refine Ev.step (fun k => spec_l1Stop.l0.eq_2 _ _ _ _) ?_
    simp only [if_neg (show ¬ ((i : Int) < (l.length : Int)) by omega)]
    refine ev_false (fun h => ?_) (Ev.now _)
    rw [List.drop_eq_nil_of_le (by omega)] at h; simp at h
  | succ d ih =>
    intro i hi
    refine Ev.step (fun k => spec_l1Stop.l0.eq_2 _ _ _ _) ?_
    have e := List.drop_eq_getElem_cons (l := l) (i := i) (by omega)
    simp only [if_pos (show ((i : Int) < (l.length : Int)) by omega), if_pos (show 0 ≤ (i : Int) by omega), rdOf_str l i (by omega), wsucc i (by omega), toList_inj]
    by_cases h : l[i] = s
    · simp only [if_pos h]
      exact ev_true (by rw [e, h]; exact List.mem_cons_self ..) (Ev.now _)
    · simp only [if_neg h]
      refine ev_prop ?_ (ih (i + 1) (by omega))
      rw [e, List.mem_cons]
      exact ⟨.inr, fun h2 => h2.resolve_left (fun h3 => h h3.symm)⟩

open Classical in
theorem spec_l1Stop_ev (s : ByteArray) : Ev (fun k => spec_l1Stop.f k s) (decide (s ∈ stopsL)) := by
  simp only [spec_l1Stop.f]
  exact spec_l1Stop_l0 s stopsL (by decide) 6 0 rfl

open Classical in
theorem spec_Stem_j1 (x : ByteArray) (hx : x.size ≤ 100) (b : Bool) (hb : b = true → 1 ≤ x.size) : Ev (fun k => spec_Stem.j1 k x (x.size : Int) b) (unStop (if b = true then x.extract 0 (x.size - 1) else x)) := by
  refine Ev.step (fun k => spec_Stem.j1.eq_2 _ _ _ _) ?_
  cases b with
  | false =>
    simp only [if_neg (show ¬ (false = true) by decide)]
    refine Ev.bind (spec_l1Stop_ev x) ?_
    unfold unStop
    by_cases h : x ∈ stopsL
    · simp only [if_pos h, decide_eq_true h, if_true]; exact Ev.now _
    · simp only [if_neg h, decide_eq_false h, if_neg (show ¬ (false = true) by decide)]; exact Ev.now _
  | true =>
    have h1 := hb rfl
    simp only [if_true, wrap_id (x := (x.size : Int) - 1) (by omega) (by omega), if_pos (show 0 ≤ (x.size : Int) - 1 by omega), if_pos (show (x.size : Int) - 1 ≤ (x.size : Int) by omega), show ((x.size : Int) - 1).toNat = x.size - 1 by omega]
    refine Ev.bind (spec_l1Stop_ev _) ?_
    unfold unStop
    by_cases h : x.extract 0 (x.size - 1) ∈ stopsL
    · simp only [if_pos h, decide_eq_true h, if_true]; exact Ev.now _
    · simp only [if_neg h, decide_eq_false h, if_neg (show ¬ (false = true) by decide)]; exact Ev.now _

theorem spec_Stem_j0 (x : ByteArray) (hx : x.size ≤ 100) : Ev (fun k => spec_Stem.j0 k x) (unStop (noS x)) := by
  refine Ev.step (fun k => spec_Stem.j0.eq_2 _ _) ?_
  have key : ∀ b : Bool, b = lessS x → Ev (fun k => spec_Stem.j1 k x (x.size : Int) b) (unStop (noS x)) := by
    intro b hb
    have := spec_Stem_j1 x hx b (fun h => by
      rw [hb] at h
      have := (of_decide_eq_true h).1
      omega)
    rw [hb] at this ⊢
    exact this
  by_cases h3 : (x.size : Int) > 3
  · simp only [if_pos h3, wrap_id (x := (x.size : Int) - 1) (by omega) (by omega), wrap_id (x := (x.size : Int) - 2) (by omega) (by omega), if_pos (show 0 ≤ (x.size : Int) - 1 by omega), if_pos (show (x.size : Int) - 1 < (x.size : Int) by omega), if_pos (show 0 ≤ (x.size : Int) - 2 by omega), if_pos (show (x.size : Int) - 2 < (x.size : Int) by omega)]
    by_cases h4 : bt x ((x.size : Int) - 1) = 115
    · simp only [if_pos h4]
      refine key _ ?_
      unfold lessS
      by_cases h5 : bt x ((x.size : Int) - 2) = 115
      · rw [decide_eq_false (fun h => h.2.2 h5)]; simp [h5]
      · rw [decide_eq_true ⟨by omega, h4, h5⟩]; simp [h5]
    · simp only [if_neg h4]
      refine key _ ?_
      unfold lessS
      rw [decide_eq_false (fun h => h4 h.2.1)]
  · simp only [if_neg h3]
    refine key _ ?_
    unfold lessS
    rw [decide_eq_false (fun h => by have := h.1; omega)]

theorem cut12_long (w : ByteArray) (h : 12 < w.size) : cut12 w = w.extract 0 12 := by unfold cut12; rw [Nat.min_eq_right (by omega)]

theorem extract_self (w : ByteArray) : w.extract 0 w.size = w := by
  apply ByteArray.ext
  rw [ByteArray.data_extract]
  exact Array.extract_size

theorem cut12_short (w : ByteArray) (h : w.size ≤ 12) : cut12 w = w := by unfold cut12; rw [Nat.min_eq_left h]; exact extract_self w

theorem spec_Stem_ev (s : ByteArray) (hs : s.size < 70368744177664) : Ev (fun k => spec_Stem.f k s) (stemB s) := by
  simp only [spec_Stem.f]
  have hz := foldB_size s
  refine Ev.bind (spec_Fold_ev s hs) ?_
  unfold stemB
  by_cases h : ((foldB s).size : Int) > 12
  · simp only [if_pos h, if_pos (show (0 : Int) ≤ 12 by omega), if_pos (show (12 : Int) ≤ ((foldB s).size : Int) by omega)]
    rw [cut12_long _ (by omega)]
    exact spec_Stem_j0 _ (by rw [extract_size _ _ (by omega)]; omega)
  · simp only [if_neg h]
    rw [cut12_short _ (by omega)]
    exact spec_Stem_j0 _ (by omega)

theorem FnExactStem : laws_FnExactStem.PureX := by
  intro s _
  refine Ev.rounds (g := fun k => laws_FnExactStem.f k s) ?_
  simp only [laws_FnExactStem.f]
  by_cases h : (s.size : Int) > 1048576
  · simp only [if_pos h]; exact Ev.now _
  simp only [if_neg h]
  refine Ev.bind (spec_Stem_ev s (by omega)) ?_
  refine Ev.bind (impl_Stem_ev s (by omega)) ?_
  simp only [if_true]; exact Ev.now _

end Go.Proofs.YtifenfjjekpflaaDoor.Pure
