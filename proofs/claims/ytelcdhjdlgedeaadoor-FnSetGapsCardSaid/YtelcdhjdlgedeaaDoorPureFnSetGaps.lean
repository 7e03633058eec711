/- The plain law of FnSetGaps: whatever the input, the printed function of this law answers true after enough rounds; conditions: only the sizes and kinds that the law's Pure states. -/
import Derived.Test.YtelcdhjdlgedeaaDoorSFnSetGaps
import Derived.Lib.Join
import Derived.Lib.IndexBytes
import Derived.Lib.SplitLaws
import Derived.Lib.AtoiAllCases
import Derived.Lib.ItoaNum
import Derived.Lib.Strings
namespace Go.Proofs.YtelcdhjdlgedeaaDoor.Pure
open Go.RowKit Go.Proofs.YtelcdhjdlgedeaaDoor.PFnSetGaps Go.Proofs.YtelcdhjdlgedeaaDoorW.PrintWords Go.Proofs.YtelcdhjdlgedeaaDoorW.PrintLast Go.Proofs.YtelcdhjdlgedeaaDoorW.PrintMore
set_option linter.unusedVariables false
set_option linter.unusedSimpArgs false

def decN (u : Nat) : ByteArray := ⟨(Lib.decDigits u).toArray⟩

/-- How far the numbers of a row are from each other, as texts. -/
def gapsL : Int → List Int → List ByteArray
  | _, [] => []
  | last, n :: l => decN (n - last).toNat :: gapsL n l

def sp : ByteArray := ⟨#[32]⟩

def okFrom (l : List Int) (j : Nat) : Prop := (∀ (i : Nat) (h : i < l.length), j ≤ i → (0 ≤ l[i] ∧ l[i] ≤ 999999999) ∧ (0 < i → l[i - 1] < l[i])) ∧ l.length ≤ 16

def setOk (l : List Int) : Prop := okFrom l 0

open Classical in
noncomputable def setOkB (l : List Int) : Bool := decide (setOk l)

def joinT (xs : List ByteArray) (sep : ByteArray) : ByteArray := ⟨(Lib.join (xs.map (·.data.toList)) sep.data.toList).toArray⟩

noncomputable def gapsB (l : List Int) : ByteArray := if setOkB l = true then joinT (gapsL 0 l) sp else ⟨#[]⟩

def RisesFrom (last : Int) (l : List Int) : Prop := 0 ≤ last ∧ (∀ x ∈ l, last ≤ x ∧ x ≤ 999999999) ∧ l.Pairwise (· < ·)

theorem RisesFrom.next {last n : Int} {l : List Int} (h : RisesFrom last (n :: l)) : RisesFrom n l := by
  obtain ⟨h0, h1, h2⟩ := h
  have h3 := h1 n (List.mem_cons_self ..)
  have h4 := List.pairwise_cons.1 h2
  exact ⟨by omega, fun x hx => ⟨by have := h4.1 x hx; omega, (h1 x (List.mem_cons_of_mem _ hx)).2⟩, h4.2⟩

theorem rd_get (l : List Int) (j : Nat) (h : j < l.length) : rd l (j : Int) = l[j] := by
  unfold rd; simp [List.getD_eq_getElem?_getD, List.getElem?_eq_getElem h]

theorem wrap_id {x : Int} (h0 : -9223372036854775808 ≤ x) (h1 : x ≤ 9223372036854775807) : wrap64 x = x := by unfold wrap64; omega

theorem wsucc (j : Nat) (h : j < 9223372036854775807) : wrap64 ((j : Int) + 1) = ((j + 1 : Nat) : Int) := by rw [wrap_id (by omega) (by omega)]; omega

theorem Itoa_eq (u : Nat) (hu : u ≤ 9223372036854775807) : strconv_Itoa.f (u : Int) = some (decN u) := by
  unfold strconv_Itoa.f
  rw [if_pos ⟨by omega, by omega⟩]
  unfold Lib.itoa
  rw [if_neg (by omega), Int.toNat_natCast]; rfl

theorem decDigits_length (u : Nat) : (Lib.decDigits u).length = Lib.nDigits u := by rw [Lib.decDigits_eq, List.length_map, List.length_range]

theorem decN_size (u : Nat) : (decN u).size = Lib.nDigits u := by rw [← decDigits_length]; rfl

theorem nDigits_le : ∀ (k u : Nat), u < 10 ^ (k + 1) → Lib.nDigits u ≤ k + 1
  | 0, u, h => by rw [Lib.nDigits_small (by simpa using h)]; exact Nat.le_refl _
  | k + 1, u, h => by
    by_cases h1 : u < 10
    · rw [Lib.nDigits_small h1]; omega
    · rw [Lib.nDigits_big h1]
      have := nDigits_le k (u / 10) (by rw [Nat.pow_succ] at h; omega)
      omega

theorem decN_size_le (u : Nat) (h : u < 10 ^ 19) : (decN u).size ≤ 19 := by rw [decN_size]; exact nDigits_le 18 u h

theorem lens_le (m : Nat) : ∀ (xs : List ByteArray), (∀ x ∈ xs, x.size ≤ m) → Lib.lens (xs.map (·.data.toList)) ≤ m * xs.length
  | [], _ => by simp [Lib.lens]
  | x :: xs, h => by
    have h1 := lens_le m xs (fun y hy => h y (List.mem_cons_of_mem _ hy))
    have h2 := h x (List.mem_cons_self ..)
    have h3 : x.data.toList.length = x.size := rfl
    simp only [Lib.lens, List.map_cons, List.sum_cons, List.length_cons] at h1 ⊢
    rw [Nat.mul_succ]; omega

theorem Join_eq (xs : List ByteArray) (sep : ByteArray) (hl : xs.length ≤ 1000000) (hx : ∀ x ∈ xs, x.size ≤ 1000000) (hs : sep.size ≤ 10) : strings_Join.f xs sep = some (joinT xs sep) := by
  unfold strings_Join.f
  have hb : (Lib.join (xs.map (·.data.toList)) sep.data.toList).length ≤ 140737488355328 := by
    cases xs with
    | nil => simp [Lib.join_nil]
    | cons x xs =>
      rw [List.map_cons, Lib.join_cons, List.length_append, Lib.joinTail_length, List.length_map]
      have h1 := lens_le 1000000 xs (fun y hy => hx y (List.mem_cons_of_mem _ hy))
      have h2 := hx x (List.mem_cons_self ..)
      have h3 : x.data.toList.length = x.size := rfl
      have h4 : sep.data.toList.length = sep.size := rfl
      have h5 : sep.data.toList.length * xs.length ≤ 10 * xs.length := Nat.mul_le_mul_right _ (by omega)
      simp only [List.length_cons] at hl
      omega
  rw [if_pos ⟨by omega, hb⟩]; rfl

theorem impl_SetGaps_l0 (l : List Int) (hn : l.length ≤ 16) : ∀ (d i : Nat) (acc : List ByteArray) (last : Int), i + d = l.length → RisesFrom last (l.drop i) → acc.length ≤ i → (∀ x ∈ acc, x.size ≤ 19) →
    Ev (fun k => impl_SetGaps.l0 k acc last l (l.length : Int) (i : Int)) (joinT (acc ++ gapsL last (l.drop i)) sp) := by
  intro d
  induction d with
  | zero =>
    intro i acc last hi hr ha hs
    refine Ev.step (fun k => impl_SetGaps.l0.eq_2 _ _ _ _ _ _) ?_
    have hj := Join_eq acc sp (by omega) (fun x hx => by have := hs x hx; omega) (by decide)
    simp only [if_neg (show ¬ ((i : Int) < (l.length : Int)) by omega), show strings_Join.f acc (⟨#[32]⟩ : ByteArray) = some (joinT acc sp) from hj, Option.bind_some]
    rw [List.drop_eq_nil_of_le (by omega), gapsL, List.append_nil]; exact Ev.now _
  | succ d ih =>
    intro i acc last hi hr ha hs
    have ed : l.drop i = l[i] :: l.drop (i + 1) := List.drop_eq_getElem_cons (by omega)
    rw [ed] at hr
    have hb := hr.2.1 l[i] (List.mem_cons_self ..)
    have h0 := hr.1
    have hw : wrap64 (l[i] - last) = (((l[i] - last).toNat : Nat) : Int) := by rw [wrap_id (by omega) (by omega)]; omega
    have hz := decN_size_le (l[i] - last).toNat (by omega)
    have hx := ih (i + 1) (acc ++ [decN (l[i] - last).toNat]) l[i] (by omega) hr.next (by simp; omega) (fun x hx => by
      rcases List.mem_append.1 hx with h1 | h1
      · exact hs x h1
      · rw [List.mem_singleton.1 h1]; exact hz)
    refine Ev.step (fun k => impl_SetGaps.l0.eq_2 _ _ _ _ _ _) ?_
    simp only [if_pos (show ((i : Int) < (l.length : Int)) by omega), if_pos (show 0 ≤ (i : Int) by omega), rd_get l i (by omega), hw, Itoa_eq _ (show (l[i] - last).toNat ≤ 9223372036854775807 by omega), Option.bind_some, if_pos (show acc.length < 8796093022208 by omega), wsucc i (by omega)]
    rw [ed, gapsL]
    rw [List.append_assoc] at hx
    exact hx

open Classical in
theorem setOkB_iff {l : List Int} : setOkB l = true ↔ setOk l := by unfold setOkB; exact decide_eq_true_iff

/-- A set: in range, rising, not too many. -/
theorem setOk_iff {l : List Int} : setOkB l = true ↔ (∀ x ∈ l, 0 ≤ x ∧ x ≤ 999999999) ∧ l.Pairwise (· < ·) ∧ l.length ≤ 16 := by
  rw [setOkB_iff]
  unfold setOk okFrom
  constructor
  · rintro ⟨h, h2⟩
    refine ⟨fun x hx => ?_, ?_, h2⟩
    · obtain ⟨i, hi, rfl⟩ := List.mem_iff_getElem.1 hx
      exact (h i hi (Nat.zero_le _)).1
    · have key : ∀ (d i : Nat) (hd : i + d < l.length), 0 < d → l[i]'(by omega) < l[i + d] := by
        intro d
        induction d with
        | zero => intro i hd h0; omega
        | succ d ih =>
          intro i hd _
          have h3 := (h (i + (d + 1)) hd (Nat.zero_le _)).2 (by omega)
          have e : i + (d + 1) - 1 = i + d := by omega
          simp only [e] at h3
          rcases Nat.eq_zero_or_pos d with h4 | h4
          · subst h4; exact h3
          · exact Int.lt_trans (ih i (by omega) h4) h3
      rw [List.pairwise_iff_getElem]
      intro i j hi hj hij
      have := key (j - i) i (by omega) (by omega)
      have e : i + (j - i) = j := by omega
      simp only [e] at this
      exact this
  · rintro ⟨h1, h2, h3⟩
    refine ⟨fun i hi _ => ⟨h1 _ (List.getElem_mem _), fun h0 => ?_⟩, h3⟩
    exact List.pairwise_iff_getElem.1 h2 (i - 1) i (by omega) hi (by omega)

theorem rises_of_set {l : List Int} (h : setOkB l = true) : RisesFrom 0 l ∧ l.length ≤ 16 := by
  have h1 := setOk_iff.1 h
  exact ⟨⟨by omega, fun x hx => ⟨(h1.1 x hx).1, (h1.1 x hx).2⟩, h1.2.1⟩, h1.2.2⟩

theorem okFrom_end {l : List Int} {j : Nat} (hj : l.length ≤ j) : okFrom l j ↔ l.length ≤ 16 := ⟨fun h => h.2, fun h => ⟨fun i hi hji => by omega, h⟩⟩

theorem okFrom_step {l : List Int} {j : Nat} (hj : j < l.length) : okFrom l j ↔ ((0 ≤ l[j] ∧ l[j] ≤ 999999999) ∧ (0 < j → l[j - 1] < l[j])) ∧ okFrom l (j + 1) := by
  constructor
  · rintro ⟨h, h2⟩
    exact ⟨h j hj (Nat.le_refl _), fun i hi hji => h i hi (by omega), h2⟩
  · rintro ⟨h, h1, h2⟩
    refine ⟨fun i hi hji => ?_, h2⟩
    rcases Nat.lt_or_ge j i with hlt | hge
    · exact h1 i hi hlt
    · obtain rfl : i = j := by omega
      exact h

theorem ev_eq {α : Type} {g : Nat → Option α} {r : α} (h : ∀ k, g k = some r) : Ev g r := ⟨0, fun k _ => h k⟩

theorem ev_prop {g : Nat → Option Bool} {p q : Prop} [Decidable p] [Decidable q] (h : p ↔ q) (k : Ev g (decide p)) : Ev g (decide q) := by
  have : decide p = decide q := decide_eq_decide.2 h
  rw [← this]; exact k

theorem wpred (j : Nat) (h : j < 9223372036854775807) : wrap64 (((j + 1 : Nat) : Int) - 1) = (j : Int) := by rw [wrap_id (by omega) (by omega)]; omega

theorem impl_within_eq (a b c : Int) : impl_within.f a b c = some (decide (b ≤ a ∧ a ≤ c)) := by
  unfold impl_within.f
  by_cases h : a ≥ b
  · rw [if_pos h]; congr 1; exact decide_eq_decide.2 ⟨fun h2 => ⟨h, h2⟩, fun h2 => h2.2⟩
  · rw [if_neg h]; congr 1; symm; exact decide_eq_false (fun h2 => h h2.1)

open Classical in
theorem impl_SetOk_l0 (l : List Int) (hn : l.length < 4611686018427387904) : ∀ (d i : Nat), i + d = l.length → Ev (fun k => impl_SetOk.l0 k l l (l.length : Int) (i : Int)) (decide (okFrom l i)) := by
  intro d
  induction d with
  | zero =>
    intro i hi
    refine Ev.step (fun k => impl_SetOk.l0.eq_2 _ _ _ _ _) ?_
    simp only [if_neg (show ¬ ((i : Int) < (l.length : Int)) by omega)]
    refine ev_prop (okFrom_end (by omega)).symm ?_
    refine ev_eq fun _ => ?_
    congr 1; exact decide_eq_decide.2 (by omega)
  | succ d ih =>
    intro i hi
    have hs := okFrom_step (l := l) (j := i) (by omega)
    refine Ev.step (fun k => impl_SetOk.l0.eq_2 _ _ _ _ _) ?_
    simp only [if_pos (show ((i : Int) < (l.length : Int)) by omega), if_pos (show 0 ≤ (i : Int) by omega), wsucc i (by omega), rd_get l i (by omega), impl_within_eq, Option.bind_some, decide_eq_true_eq]
    by_cases h1 : 0 ≤ l[i] ∧ l[i] ≤ 999999999
    · simp only [if_pos h1]
      cases i with
      | zero =>
        simp only [if_neg (show ¬ (((0 : Nat) : Int) > 0) by omega)]
        exact ev_prop (hs.trans ⟨fun h => h.2, fun h => ⟨⟨h1, fun h0 => by omega⟩, h⟩⟩).symm (ih 1 (by omega))
      | succ j =>
        simp only [if_pos (show (((j + 1 : Nat) : Int) > 0) by omega), wpred j (by omega), if_pos (show 0 ≤ (j : Int) by omega), if_pos (show ((j : Int) < (l.length : Int)) by omega), rd_get l j (by omega)]
        by_cases h2 : l[j] ≥ l[j + 1]
        · simp only [if_pos h2]
          have : decide (okFrom l (j + 1)) = false := decide_eq_false (fun h => by have := (hs.1 h).1.2 (by omega); simp at this; omega)
          rw [this]; exact Ev.now _
        · simp only [if_neg h2]
          exact ev_prop (hs.trans ⟨fun h => h.2, fun h => ⟨⟨h1, fun _ => by simp; omega⟩, h⟩⟩).symm (ih (j + 2) (by omega))
    · simp only [if_neg h1]
      have : decide (okFrom l i) = false := decide_eq_false (fun h => h1 (hs.1 h).1.1)
      rw [this]; exact Ev.now _

theorem impl_SetOk_ev (l : List Int) (hn : l.length < 4611686018427387904) : Ev (fun k => impl_SetOk.f k l) (setOkB l) := impl_SetOk_l0 l hn l.length 0 (by omega)

theorem impl_SetGaps_ev (l : List Int) (hn : l.length < 4398046511104) : Ev (fun k => impl_SetGaps.f k l) (gapsB l) := by
  simp only [impl_SetGaps.f, gapsB]
  refine Ev.bind (impl_SetOk_ev l (by omega)) ?_
  cases h : setOkB l with
  | false => exact Ev.now _
  | true =>
    obtain ⟨h1, h2⟩ := rises_of_set h
    simp only [if_true]
    have hx := impl_SetGaps_l0 l h2 l.length 0 [] 0 (by omega) h1 (by simp) (fun x hx => by simp at hx)
    exact hx

theorem mk_append (a b : List UInt8) : (⟨a.toArray⟩ : ByteArray) ++ (⟨b.toArray⟩ : ByteArray) = ⟨(a ++ b).toArray⟩ := by
  apply ByteArray.ext
  rw [ByteArray.data_append]
  simp

theorem bytesOf_inj {a b : ByteArray} (h : bytesOf a = bytesOf b) : a = b := by
  have h1 : a.data.toList = b.data.toList := by
    have hl : a.data.toList.length = b.data.toList.length := by
      have := congrArg List.length h
      simpa [bytesOf] using this
    apply List.ext_getElem hl
    intro i h1 h2
    have h3 : (bytesOf a)[i]? = (bytesOf b)[i]? := by rw [h]
    simp only [bytesOf, List.getElem?_map, List.getElem?_eq_getElem h1, List.getElem?_eq_getElem h2, Option.map_some, Option.some.injEq] at h3
    exact UInt8.toNat_inj.1 (by omega)
  exact ByteArray.ext (Array.toList_inj.1 h1)

theorem bytesOf_strOfNums (l : List Int) (h : ∀ c ∈ l, 0 ≤ c ∧ c ≤ 255) : bytesOf (strOfNums l) = l := by
  unfold bytesOf
  rw [strOfNums_data, List.map_map]
  conv => rhs; rw [← List.map_id l]
  apply List.map_congr_left
  intro c hc
  have := h c hc
  simp only [Function.comp, id]
  rw [UInt8.toNat_ofNat']
  omega

theorem strOf_digit (u : Nat) (h : u < 10) (c : Int) (hc : c = 48 + (u : Int)) : strOfNums [c] = (⟨[UInt8.ofNat (48 + u)].toArray⟩ : ByteArray) := by
  subst hc
  apply bytesOf_inj
  rw [bytesOf_strOfNums _ (by intro c hc; rw [List.mem_singleton] at hc; omega)]
  have : bytesOf (⟨[UInt8.ofNat (48 + u)].toArray⟩ : ByteArray) = [((UInt8.ofNat (48 + u)).toNat : Int)] := rfl
  rw [this]
  have h2 : (UInt8.ofNat (48 + u)).toNat = 48 + u := by
    rw [UInt8.toNat_ofNat']
    exact Nat.mod_eq_of_lt (by omega)
  rw [h2]; rfl

theorem spec_l1Dec_ev (u : Nat) : u ≤ 9223372036854775807 → Ev (fun k => spec_l1Dec.f k (u : Int)) (decN u) := by
  induction u using Nat.strongRecOn with
  | _ u ih =>
    intro hu
    refine Ev.step (fun k => spec_l1Dec.f.eq_2 _ _) ?_
    simp only [if_neg (show ¬ ((u : Int) < (-9223372036854775807)) by omega), if_neg (show ¬ ((u : Int) < 0) by omega)]
    by_cases h : u < 10
    · simp only [if_pos (show (u : Int) < 10 by omega), wrap_id (x := 48 + (u : Int)) (by omega) (by omega)]
      rw [strOf_digit u h _ (by omega)]
      have e : decN u = (⟨[UInt8.ofNat (48 + u)].toArray⟩ : ByteArray) := by unfold decN; rw [Lib.decDigits, dif_pos h]
      rw [e]; exact Ev.now _
    · have e1 : Int.tdiv (u : Int) 10 = ((u / 10 : Nat) : Int) := by rw [Int.tdiv_eq_ediv_of_nonneg (by omega)]; omega
      have e2 : Int.tmod (u : Int) 10 = ((u % 10 : Nat) : Int) := by rw [Int.tmod_eq_emod_of_nonneg (by omega)]; omega
      simp only [if_neg (show ¬ ((u : Int) < 10) by omega), e1, e2, wrap_id (x := ((u / 10 : Nat) : Int)) (by omega) (by omega), wrap_id (x := 48 + ((u % 10 : Nat) : Int)) (by omega) (by omega)]
      refine Ev.bind (ih (u / 10) (by omega) (by omega)) ?_
      have hz := decN_size_le (u / 10) (by omega)
      have es := strOf_digit (u % 10) (by omega) ((48 + ((u % 10 : Nat) : Int)) % 256) (by omega)
      have z1 : (⟨[UInt8.ofNat (48 + u % 10)].toArray⟩ : ByteArray).size = 1 := rfl
      simp only [Option.bind_some, es, z1, if_pos (show (decN (u / 10)).size + 1 ≤ 9223372036854775807 by omega)]
      have e : decN u = decN (u / 10) ++ (⟨[UInt8.ofNat (48 + u % 10)].toArray⟩ : ByteArray) := by
        unfold decN
        rw [mk_append]
        conv => lhs; rw [Lib.decDigits, dif_neg h]
      rw [e]; exact Ev.now _

theorem mk_append2 (a b : List UInt8) : (⟨(a ++ b).toArray⟩ : ByteArray) = (⟨a.toArray⟩ : ByteArray) ++ (⟨b.toArray⟩ : ByteArray) := by
  apply ByteArray.ext
  rw [ByteArray.data_append]
  simp

theorem mk_data (x : ByteArray) : (⟨x.data.toList.toArray⟩ : ByteArray) = x := by cases x; rfl

def tailT (xs : List ByteArray) (sep : ByteArray) : ByteArray := ⟨(Lib.joinTail sep.data.toList (xs.map (·.data.toList))).toArray⟩

theorem joinT_cons (x : ByteArray) (xs : List ByteArray) (sep : ByteArray) : joinT (x :: xs) sep = x ++ tailT xs sep := by
  unfold joinT tailT
  rw [List.map_cons, Lib.join_cons, mk_append2, mk_data]

theorem joinT_nil (sep : ByteArray) : joinT [] sep = ⟨#[]⟩ := rfl

theorem tailT_cons (x : ByteArray) (xs : List ByteArray) (sep : ByteArray) : tailT (x :: xs) sep = (sep ++ x) ++ tailT xs sep := by
  unfold tailT Lib.joinTail
  rw [List.map_cons, List.map_cons, List.flatten_cons, mk_append2, mk_append2, mk_data, mk_data]

theorem tailT_nil (sep : ByteArray) : tailT [] sep = ⟨#[]⟩ := rfl

theorem spec_l3Gaps_l0 (l : List Int) (hn : l.length ≤ 16) : ∀ (d i : Nat) (acc : ByteArray) (last : Int), i + d = l.length → RisesFrom last (l.drop i) → acc.size + 30 * d ≤ 1000 →
    Ev (fun k => spec_l3Gaps.l0 k l acc last (i : Int)) (if 0 < i then acc ++ tailT (gapsL last (l.drop i)) sp else acc ++ joinT (gapsL last (l.drop i)) sp) := by
  intro d
  induction d with
  | zero =>
    intro i acc last hi hr ha
    refine Ev.step (fun k => spec_l3Gaps.l0.eq_2 _ _ _ _ _) ?_
    simp only [if_neg (show ¬ ((i : Int) < (l.length : Int)) by omega)]
    rw [List.drop_eq_nil_of_le (by omega)]
    simp only [gapsL, tailT_nil, joinT_nil]
    have : acc ++ (⟨#[]⟩ : ByteArray) = acc := ByteArray.append_empty
    rw [this, ite_self]; exact Ev.now _
  | succ d ih =>
    intro i acc last hi hr ha
    have ed : l.drop i = l[i] :: l.drop (i + 1) := List.drop_eq_getElem_cons (by omega)
    rw [ed] at hr
    have hb := hr.2.1 l[i] (List.mem_cons_self ..)
    have h0 := hr.1
    have hw : wrap64 (l[i] - last) = (((l[i] - last).toNat : Nat) : Int) := by rw [wrap_id (by omega) (by omega)]; omega
    have hz := decN_size_le (l[i] - last).toNat (by omega)
    have zs : sp.size = 1 := rfl
    have z1 : (acc ++ sp).size = acc.size + 1 := by rw [ByteArray.size_append, zs]
    refine Ev.step (fun k => spec_l3Gaps.l0.eq_2 _ _ _ _ _) ?_
    rw [ed]
    by_cases hp : 0 < i
    · have hx := ih (i + 1) ((acc ++ sp) ++ decN (l[i] - last).toNat) l[i] (by omega) hr.next (by rw [ByteArray.size_append, z1]; omega)
      rw [if_pos (show 0 < i + 1 by omega)] at hx
      simp only [if_pos (show ((i : Int) < (l.length : Int)) by omega), if_pos (show (i : Int) > 0 by omega), if_pos (show acc.size + 1 ≤ 9223372036854775807 by omega), if_pos (show 0 ≤ (i : Int) by omega), rd_get l i (by omega), hw, wsucc i (by omega), if_pos hp, gapsL, tailT_cons]
      refine Ev.bind (spec_l1Dec_ev _ (by omega)) ?_
      have z2 : (acc ++ (⟨#[32]⟩ : ByteArray)).size = acc.size + 1 := z1
      simp only [z2, if_pos (show acc.size + 1 + (decN (l[i] - last).toNat).size ≤ 9223372036854775807 by omega)]
      have e : acc ++ ((sp ++ decN (l[i] - last).toNat) ++ tailT (gapsL l[i] (l.drop (i + 1))) sp) = ((acc ++ sp) ++ decN (l[i] - last).toNat) ++ tailT (gapsL l[i] (l.drop (i + 1))) sp := by
        rw [← ByteArray.append_assoc, ← ByteArray.append_assoc]
      rw [e]; exact hx
    · obtain rfl : i = 0 := by omega
      have hx := ih 1 (acc ++ decN (l[0] - last).toNat) l[0] (by omega) hr.next (by rw [ByteArray.size_append]; omega)
      rw [if_pos (show 0 < 1 by omega)] at hx
      have h0l := rd_get l 0 (by omega)
      rw [show ((0 : Nat) : Int) = 0 from rfl] at h0l
      simp only [if_pos (show (((0 : Nat) : Int) < (l.length : Int)) by omega), if_neg (show ¬ (((0 : Nat) : Int) > 0) by omega), if_pos (show 0 ≤ ((0 : Nat) : Int) by omega), rd_get l 0 (by omega), hw, wsucc 0 (by omega), if_neg hp, gapsL, joinT_cons]
      refine Ev.bind (spec_l1Dec_ev _ (by omega)) ?_
      simp only [if_pos (show acc.size + (decN (l[0] - last).toNat).size ≤ 9223372036854775807 by omega)]
      rw [← ByteArray.append_assoc]; exact hx

theorem spec_l1In_eq (a b c : Int) : spec_l1In.f a b c = some (decide (b ≤ a ∧ a ≤ c)) := by
  unfold spec_l1In.f
  by_cases h : a ≥ b
  · rw [if_pos h]; congr 1; exact decide_eq_decide.2 ⟨fun h2 => ⟨h, h2⟩, fun h2 => h2.2⟩
  · rw [if_neg h]; congr 1; symm; exact decide_eq_false (fun h2 => h h2.1)

open Classical in
theorem spec_SetOk_l0 (l : List Int) (hn : l.length < 4611686018427387904) : ∀ (d i : Nat), i + d = l.length → Ev (fun k => spec_SetOk.l0 k l (i : Int)) (decide (okFrom l i)) := by
  intro d
  induction d with
  | zero =>
    intro i hi
    refine Ev.step (fun k => spec_SetOk.l0.eq_2 _ _ _) ?_
    simp only [if_neg (show ¬ ((i : Int) < (l.length : Int)) by omega)]
    refine ev_prop (okFrom_end (by omega)).symm ?_
    refine ev_eq fun _ => ?_
    congr 1; exact decide_eq_decide.2 (by omega)
  | succ d ih =>
    intro i hi
    have hs := okFrom_step (l := l) (j := i) (by omega)
    refine Ev.step (fun k => spec_SetOk.l0.eq_2 _ _ _) ?_
    simp only [if_pos (show ((i : Int) < (l.length : Int)) by omega), if_pos (show 0 ≤ (i : Int) by omega), wsucc i (by omega), rd_get l i (by omega), spec_l1In_eq, Option.bind_some, decide_eq_true_eq]
    by_cases h1 : 0 ≤ l[i] ∧ l[i] ≤ 999999999
    · simp only [if_pos h1]
      cases i with
      | zero =>
        simp only [if_neg (show ¬ (((0 : Nat) : Int) > 0) by omega)]
        exact ev_prop (hs.trans ⟨fun h => h.2, fun h => ⟨⟨h1, fun h0 => by omega⟩, h⟩⟩).symm (ih 1 (by omega))
      | succ j =>
        simp only [if_pos (show (((j + 1 : Nat) : Int) > 0) by omega), wpred j (by omega), if_pos (show 0 ≤ (j : Int) by omega), if_pos (show ((j : Int) < (l.length : Int)) by omega), rd_get l j (by omega)]
        by_cases h2 : l[j] ≥ l[j + 1]
        · simp only [if_pos h2]
          have : decide (okFrom l (j + 1)) = false := decide_eq_false (fun h => by have := (hs.1 h).1.2 (by omega); simp at this; omega)
          rw [this]; exact Ev.now _
        · simp only [if_neg h2]
          exact ev_prop (hs.trans ⟨fun h => h.2, fun h => ⟨⟨h1, fun _ => by simp; omega⟩, h⟩⟩).symm (ih (j + 2) (by omega))
    · simp only [if_neg h1]
      have : decide (okFrom l i) = false := decide_eq_false (fun h => h1 (hs.1 h).1.1)
      rw [this]; exact Ev.now _

theorem spec_SetOk_ev (l : List Int) (hn : l.length < 4611686018427387904) : Ev (fun k => spec_SetOk.f k l) (setOkB l) := spec_SetOk_l0 l hn l.length 0 (by omega)

theorem spec_SetGaps_ev (l : List Int) (hn : l.length < 4398046511104) : Ev (fun k => spec_SetGaps.f k l) (gapsB l) := by
  simp only [spec_SetGaps.f, gapsB]
  refine Ev.bind (spec_SetOk_ev l (by omega)) ?_
  cases h : setOkB l with
  | false => exact Ev.now _
  | true =>
    obtain ⟨h1, h2⟩ := rises_of_set h
    simp only [if_true, spec_l3Gaps.f]
    have hx := spec_l3Gaps_l0 l h2 l.length 0 (⟨#[]⟩ : ByteArray) 0 (by omega) h1 (by have : (⟨#[]⟩ : ByteArray).size = 0 := rfl; omega)
    rw [if_neg (by omega), List.drop_zero] at hx
    have e : (⟨#[]⟩ : ByteArray) ++ joinT (gapsL 0 l) sp = joinT (gapsL 0 l) sp := ByteArray.empty_append
    rw [e] at hx
    exact Ev.bind hx (Ev.now _)

theorem drop_eq_step {α : Type} {a b : List α} {j : Nat} (ha : j < a.length) (hb : j < b.length) : a.drop j = b.drop j ↔ a[j] = b[j] ∧ a.drop (j + 1) = b.drop (j + 1) := by
  rw [List.drop_eq_getElem_cons ha, List.drop_eq_getElem_cons hb, List.cons.injEq]

theorem ev_false {g : Nat → Option Bool} {p : Prop} [Decidable p] (h : ¬ p) (k : Ev g false) : Ev g (decide p) := by
  rw [decide_eq_false h]; exact k

theorem sdInts_l0 (a b : List Int) (hn : a.length < 4611686018427387904) (hl : a.length = b.length) : ∀ (d i : Nat), i + d = a.length →
    Ev (fun k => laws_sdInts.l0 k a b (i : Int)) (decide (a.drop i = b.drop i)) := by
  intro d
  induction d with
  | zero =>
    intro i hi
    refine Ev.step (fun k => laws_sdInts.l0.eq_2 _ _ _ _) ?_
    simp only [if_neg (show ¬ ((i : Int) < (a.length : Int)) by omega)]
    rw [List.drop_of_length_le (by omega), List.drop_of_length_le (by omega)]
    exact Ev.now _
  | succ d ih =>
    intro i hi
    refine Ev.step (fun k => laws_sdInts.l0.eq_2 _ _ _ _) ?_
    simp only [if_pos (show ((i : Int) < (a.length : Int)) by omega), if_pos (show 0 ≤ (i : Int) by omega), if_pos (show ((i : Int) < (b.length : Int)) by omega), wsucc i (by omega), rd_get a i (by omega), rd_get b i (by omega)]
    have hs := drop_eq_step (a := a) (b := b) (show i < a.length by omega) (show i < b.length by omega)
    by_cases h : a[i] = b[i]
    · simp only [if_pos h]
      exact ev_prop (hs.trans ⟨fun h1 => h1.2, fun h1 => ⟨h, h1⟩⟩).symm (ih (i + 1) (by omega))
    · simp only [if_neg h]
      exact ev_false (fun h1 => h (hs.1 h1).1) (Ev.now _)

theorem sdInts_ev (a b : List Int) (hn : a.length < 4611686018427387904) : Ev (fun k => laws_sdInts.f k a b) (decide (a = b)) := by
  simp only [laws_sdInts.f]
  by_cases hl : a.length = b.length
  · simp only [if_pos (show (a.length : Int) = (b.length : Int) by omega)]
    exact sdInts_l0 a b hn hl a.length 0 (by omega)
  · simp only [if_neg (show ¬ (a.length : Int) = (b.length : Int) by omega)]
    have : decide (a = b) = false := by simp; intro h; exact hl (by rw [h])
    rw [this]; exact Ev.now _

/-- What a code reads as: at most 2000 bytes. -/
def CodeOk (s : List Int) : Prop := s.length ≤ 2000 ∧ ∀ c ∈ s, 0 ≤ c ∧ c ≤ 255

theorem l1Open_eq (s : List Int) (hb : ∀ c ∈ s, 0 ≤ c ∧ c ≤ 255) : ∃ s', spec_l1Open.f s = some (s', 0) ∧ CodeOk s' := by
  unfold spec_l1Open.f
  by_cases h : (s.length : Int) > 2000
  · rw [if_pos h, if_pos (by omega)]
    exact ⟨_, rfl, by rw [List.length_take]; omega, fun c hc => hb c (List.mem_of_mem_take hc)⟩
  · rw [if_neg h]
    exact ⟨_, rfl, by omega, hb⟩

theorem CodeOk.byte {s : List Int} (h : CodeOk s) (i : Int) : 0 ≤ rd s i ∧ rd s i ≤ 255 := by
  unfold rd
  rw [List.getD_eq_getElem?_getD]
  rcases Nat.lt_or_ge i.toNat s.length with hi | hi
  · rw [List.getElem?_eq_getElem hi]; exact h.2 _ (List.getElem_mem _)
  · rw [List.getElem?_eq_none hi]; simp

theorem tdiv_nn {a b : Int} (ha : 0 ≤ a) (hb : 0 < b) : 0 ≤ Int.tdiv a b ∧ Int.tdiv a b ≤ a := by
  rw [Int.tdiv_eq_ediv_of_nonneg ha]
  exact ⟨Int.ediv_nonneg ha (by omega), Int.ediv_le_self _ ha⟩

theorem tmod_nn {a b : Int} (ha : 0 ≤ a) (hb : 0 < b) : 0 ≤ Int.tmod a b ∧ Int.tmod a b < b := by
  rw [Int.tmod_eq_emod_of_nonneg ha]
  exact ⟨Int.emod_nonneg _ (by omega), Int.emod_lt_of_pos _ hb⟩

theorem xor_i64 (a b : Nat) (ha : a < 2 ^ 62) (hb : b < 2 ^ 62) : ∃ m : Nat, Go.bits .xor .i64 (a : Int) (b : Int) = (m : Int) ∧ m < 2 ^ 62 := by
  have ha' : a % 2 ^ IntKind.i64.bits = a := Nat.mod_eq_of_lt (Nat.lt_of_lt_of_le ha (by decide))
  have hb' : b % 2 ^ IntKind.i64.bits = b := Nat.mod_eq_of_lt (Nat.lt_of_lt_of_le hb (by decide))
  have hx := Nat.xor_lt_two_pow ha hb
  refine ⟨a ^^^ b, ?_, hx⟩
  simp only [Go.bits, BitVec.ofInt_natCast, BitVec.toNat_xor, BitVec.toNat_ofNat, ha', hb']
  rw [IntKind.wrap_i64]
  have : ((a ^^^ b : Nat) : Int) < 4611686018427387904 := by have := hx; omega
  omega

theorem pick_ev (s : List Int) (hs : CodeOk s) (p n : Int) (hp : 0 ≤ p) (hp1 : p ≤ 1000000) (hn : 1 ≤ n) (hn1 : n ≤ 1000000) :
    ∃ r, Ev (fun k => spec_l1Rd_pick.f k s p n) (r, p + 1) ∧ 0 ≤ r ∧ r < n := by
  simp only [spec_l1Rd_pick.f, if_neg (show ¬ n < 1 by omega), wrap_id (x := p + 1) (by omega) (by omega)]
  by_cases h0 : s.length = 0
  · refine ⟨0, Ev.step (fun k => spec_l1Rd_pick.j0.eq_2 _ _ _ _ _) ?_, by omega, by omega⟩
    simp only [show ((s.length : Int) == 0) = true by simp [h0], if_true]
    exact Ev.now _
  · have hl : 0 < (s.length : Int) := by omega
    have hb : ((s.length : Int) == 0) = false := by simp; intro h; exact h0 (by rw [h]; rfl)
    have e1 : wrap64 (p + 1 - 1) = p := by rw [wrap_id (by omega) (by omega)]; omega
    by_cases hlt : p < (s.length : Int)
    · have hc := hs.byte p
      refine ⟨Int.tmod (rd s p) n, Ev.step (fun k => spec_l1Rd_pick.j0.eq_2 _ _ _ _ _) ?_, (tmod_nn hc.1 (by omega)).1, (tmod_nn hc.1 (by omega)).2⟩
      simp only [hb, if_neg (show ¬ (false = true) by decide), e1, if_pos hlt, if_pos hp, if_neg (show ¬ n = 0 by omega), wrap_id (x := rd s p) (by omega) (by omega)]
      exact Ev.now _
    · have m1 := tmod_nn hp hl
      have e2 : wrap64 (wrap64 (p * 7) + 3) = p * 7 + 3 := by rw [wrap_id (x := p * 7) (by omega) (by omega), wrap_id (by omega) (by omega)]
      have m2 := tmod_nn (show 0 ≤ p * 7 + 3 by omega) hl
      have d1 := tdiv_nn hp hl
      obtain ⟨A, hA⟩ : ∃ A, rd s (Int.tmod p (s.length : Int)) = A := ⟨_, rfl⟩
      obtain ⟨B, hB⟩ : ∃ B, rd s (Int.tmod (p * 7 + 3) (s.length : Int)) = B := ⟨_, rfl⟩
      obtain ⟨C, hC⟩ : ∃ C, Int.tdiv p (s.length : Int) = C := ⟨_, rfl⟩
      have a1 := hs.byte (Int.tmod p (s.length : Int)); rw [hA] at a1
      have b1 := hs.byte (Int.tmod (p * 7 + 3) (s.length : Int)); rw [hB] at b1
      rw [hC] at d1
      have v1 : wrap64 (wrap64 (wrap64 (wrap64 (wrap64 A * 131) + wrap64 (wrap64 B * 1117)) + wrap64 (p * 29)) + wrap64 (wrap64 C * 53)) = A * 131 + B * 1117 + p * 29 + C * 53 := by
        rw [wrap_id (x := A) (by omega) (by omega), wrap_id (x := B) (by omega) (by omega), wrap_id (x := C) (by omega) (by omega), wrap_id (x := A * 131) (by omega) (by omega), wrap_id (x := B * 1117) (by omega) (by omega), wrap_id (x := p * 29) (by omega) (by omega), wrap_id (x := C * 53) (by omega) (by omega), wrap_id (x := A * 131 + B * 1117) (by omega) (by omega), wrap_id (x := A * 131 + B * 1117 + p * 29) (by omega) (by omega), wrap_id (by omega) (by omega)]
      obtain ⟨V, hV⟩ : ∃ V : Nat, A * 131 + B * 1117 + p * 29 + C * 53 = (V : Int) := ⟨(A * 131 + B * 1117 + p * 29 + C * 53).toNat, by omega⟩
      have hVb : V < 2 ^ 62 := by have : (2 : Nat) ^ 62 = 4611686018427387904 := by decide
                                  omega
      have hd := tdiv_nn (show 0 ≤ (V : Int) by omega) (show (0 : Int) < 64 by omega)
      obtain ⟨Q, hQ⟩ : ∃ Q : Nat, Int.tdiv (V : Int) 64 = (Q : Int) := ⟨(Int.tdiv (V : Int) 64).toNat, by omega⟩
      have hQb : Q < 2 ^ 62 := by omega
      obtain ⟨m, hm, hmb⟩ := xor_i64 V Q hVb hQb
      have e3 : wrap64 (Int.tdiv (V : Int) 64) = (Q : Int) := by
        have : (2 : Nat) ^ 62 = 4611686018427387904 := by decide
        rw [hQ, wrap_id (by omega) (by omega)]
      have mm := tmod_nn (show 0 ≤ (m : Int) by omega) (show 0 < n by omega)
      refine ⟨Int.tmod (m : Int) n, Ev.step (fun k => spec_l1Rd_pick.j0.eq_2 _ _ _ _ _) ?_, mm.1, mm.2⟩
      simp only [hb, if_neg (show ¬ (false = true) by decide), e1, if_neg hlt, if_neg (show ¬ (s.length : Int) = 0 by omega), if_pos m1.1, if_pos m1.2, e2, if_pos m2.1, if_pos m2.2, if_neg (show ¬ n = 0 by omega), hA, hB, hC, v1, hV, e3, hm]
      exact Ev.now _

theorem l11Set_l1 (s : List Int) (hs : CodeOk s) : ∀ (d i : Nat) (p : Int) (acc : List Int), i + d = 17 → 0 ≤ p → p + d ≤ 900000 → acc.length + d ≤ 100 →
    ∃ r q, Ev (fun k => spec_l11Set.l1 k acc (i : Int) s p) (r, q) ∧ p ≤ q ∧ q ≤ p + d + 1 ∧ r.length ≤ acc.length + d := by
  intro d
  induction d with
  | zero =>
    intro i p acc hi hp hb ha
    obtain ⟨x, hx, h0, h1⟩ := pick_ev s hs p 2 hp (by omega) (by omega) (by omega)
    refine ⟨acc, p + 1, Ev.step (fun k => spec_l11Set.l1.eq_2 _ _ _ _ _) ?_, by omega, by omega, by omega⟩
    refine Ev.bind hx ?_
    simp only [wrap_id (x := 16 + x) (by omega) (by omega), if_neg (show ¬ ((i : Int) < 16 + x) by omega)]
    exact Ev.now _
  | succ d ih =>
    intro i p acc hi hp hb ha
    obtain ⟨x, hx, h0, h1⟩ := pick_ev s hs p 2 hp (by omega) (by omega) (by omega)
    by_cases hlt : (i : Int) < 16 + x
    · obtain ⟨r, q, hr, q0, q1, q2⟩ := ih (i + 1) (p + 1) (acc ++ [(i : Int)]) (by omega) (by omega) (by omega) (by simp; omega)
      refine ⟨r, q, Ev.step (fun k => spec_l11Set.l1.eq_2 _ _ _ _ _) ?_, by omega, by omega, by simp at q2; omega⟩
      refine Ev.bind hx ?_
      simp only [wrap_id (x := 16 + x) (by omega) (by omega), if_pos hlt, if_pos (show acc.length < 17592186044416 by omega), wsucc i (by omega)]
      exact hr
    · refine ⟨acc, p + 1, Ev.step (fun k => spec_l11Set.l1.eq_2 _ _ _ _ _) ?_, by omega, by omega, by omega⟩
      refine Ev.bind hx ?_
      simp only [wrap_id (x := 16 + x) (by omega) (by omega), if_neg hlt]
      exact Ev.now _

theorem l11Set_l0 (s : List Int) (hs : CodeOk s) : ∀ (m : Nat) (p a : Int) (acc : List Int), 0 ≤ p → p + m ≤ 800000 → m ≤ 60 → 0 ≤ a → a + 4 * m ≤ 1000000 → acc.length + m ≤ 60 →
    ∃ r q, Ev (fun k => spec_l11Set.l0 k acc a (m : Int) s p) (r, q) ∧ p ≤ q ∧ q ≤ p + m + 30 ∧ r.length ≤ 60 := by
  intro m
  induction m with
  | zero =>
    intro p a acc hp hb hm ha hab hacc
    obtain ⟨x, hx, h0, h1⟩ := pick_ev s hs p 20 hp (by omega) (by omega) (by omega)
    by_cases hx0 : x = 0
    · obtain ⟨r, q, hr, q0, q1, q2⟩ := l11Set_l1 s hs 17 0 (p + 1) [] (by omega) (by omega) (by omega) (by simp)
      refine ⟨r, q, Ev.step (fun k => spec_l11Set.l0.eq_2 _ _ _ _ _ _) ?_, by omega, by omega, by simp at q2; omega⟩
      simp only [if_neg (show ¬ (((0 : Nat) : Int) > 0) by omega)]
      refine Ev.bind hx ?_
      simp only [if_pos hx0]
      exact hr
    · refine ⟨acc, p + 1, Ev.step (fun k => spec_l11Set.l0.eq_2 _ _ _ _ _ _) ?_, by omega, by omega, by omega⟩
      simp only [if_neg (show ¬ (((0 : Nat) : Int) > 0) by omega)]
      refine Ev.bind hx ?_
      simp only [if_neg hx0]
      exact Ev.now _
  | succ m ih =>
    intro p a acc hp hb hm ha hab hacc
    obtain ⟨x, hx, h0, h1⟩ := pick_ev s hs p 3 hp (by omega) (by omega) (by omega)
    obtain ⟨r, q, hr, q0, q1, q2⟩ := ih (p + 1) (a + 1 + x) (acc ++ [a]) (by omega) (by omega) (by omega) (by omega) (by omega) (by simp; omega)
    refine ⟨r, q, Ev.step (fun k => spec_l11Set.l0.eq_2 _ _ _ _ _ _) ?_, by omega, by omega, q2⟩
    simp only [if_pos (show (((m + 1 : Nat) : Int) > 0) by omega), if_pos (show acc.length < 17592186044416 by omega)]
    refine Ev.bind hx ?_
    simp only [wrap_id (x := a + 1) (by omega) (by omega), wrap_id (x := a + 1 + x) (by omega) (by omega), wpred m (by omega)]
    exact hr

theorem l11Set_ev (s : List Int) (hs : CodeOk s) (p : Int) (hp : 0 ≤ p) (hp1 : p ≤ 700000) : ∃ r q, Ev (fun k => spec_l11Set.f k s p) (r, q) ∧ p ≤ q ∧ q ≤ p + 50 ∧ r.length ≤ 60 := by
  obtain ⟨a, ha, a0, a1⟩ := pick_ev s hs p 3 hp (by omega) (by omega) (by omega)
  obtain ⟨b, hb, b0, b1⟩ := pick_ev s hs (p + 1) 8 (by omega) (by omega) (by omega) (by omega)
  obtain ⟨m, rfl⟩ : ∃ m : Nat, b = (m : Int) := ⟨b.toNat, by omega⟩
  obtain ⟨r, q, hr, q0, q1, q2⟩ := l11Set_l0 s hs m (p + 1 + 1) a [] (by omega) (by omega) (by omega) a0 (by omega) (by simp; omega)
  refine ⟨r, q, ?_, by omega, by omega, q2⟩
  simp only [spec_l11Set.f]
  exact Ev.bind ha (Ev.bind hb hr)

theorem one_ev (s : List Int) (hs : CodeOk s) (p : Int) (l : List Int) (hp : 0 ≤ p) (hp1 : p ≤ 1000000) (hl : 1 ≤ l.length) (hl1 : l.length ≤ 1000000) :
    ∃ r, Ev (fun k => spec_l1Rd_one.f k s p l) (r, p + 1) ∧ r ∈ l := by
  obtain ⟨i, hi, h0, h1⟩ := pick_ev s hs p (l.length : Int) hp hp1 (by omega) (by omega)
  obtain ⟨j, rfl⟩ : ∃ j : Nat, i = (j : Int) := ⟨i.toNat, by omega⟩
  refine ⟨l[j]'(by omega), ?_, List.getElem_mem _⟩
  simp only [spec_l1Rd_one.f]
  refine Ev.bind hi ?_
  simp only [if_pos h0, if_pos h1, rd_get l j (by omega)]
  exact Ev.now _

theorem l11AnySet_ev (s : List Int) (hs : CodeOk s) (p : Int) (hp : 0 ≤ p) (hp1 : p ≤ 600000) : ∃ r q, Ev (fun k => spec_l11AnySet.f k s p) (r, q) ∧ p ≤ q ∧ q ≤ p + 60 ∧ r.length ≤ 61 := by
  obtain ⟨r, q, hr, q0, q1, q2⟩ := l11Set_ev s hs p hp (by omega)
  obtain ⟨i, hi, i0, i1⟩ := pick_ev s hs q 12 (by omega) (by omega) (by omega) (by omega)
  simp only [spec_l11AnySet.f]
  by_cases c0 : i = 0
  · obtain ⟨x, hx, _⟩ := one_ev s hs (q + 1) ([(-1), 0, 999999999, 1000000000] : List Int) (by omega) (by omega) (by decide) (by decide)
    refine ⟨r ++ [x], q + 1 + 1, Ev.bind hr (Ev.bind hi ?_), by omega, by omega, by simp; omega⟩
    simp only [if_pos c0]
    refine Ev.bind hx ?_
    simp only [if_pos (show r.length < 17592186044416 by omega)]
    exact Ev.now _
  · by_cases c1 : i = 1
    · obtain ⟨x, hx, x0, x1⟩ := pick_ev s hs (q + 1) 5 (by omega) (by omega) (by omega) (by omega)
      refine ⟨[x] ++ r, q + 1 + 1, Ev.bind hr (Ev.bind hi ?_), by omega, by omega, by simp; omega⟩
      simp only [if_neg c0, if_pos c1]
      refine Ev.bind hx ?_
      simp only [Option.bind_some, List.length_singleton, if_pos (show 1 + r.length < 17592186044416 by omega)]
      exact Ev.now _
    · refine ⟨r, q + 1, Ev.bind hr (Ev.bind hi ?_), by omega, by omega, by omega⟩
      simp only [if_neg c0, if_neg c1]
      exact Ev.now _

theorem u8_range {l : List Int} (h : ∀ x ∈ l, (Lit.int .u8 x).wf = true) : ∀ c ∈ l, 0 ≤ c ∧ c ≤ 255 := by
  intro c hc
  have := h c hc
  simp [Lit.wf, IntKind.min, IntKind.max, IntKind.bits, IntKind.signed] at this
  omega

theorem DrawSetGaps_ev (l : List Int) (h : ∀ x ∈ l, (Lit.int .u8 x).wf = true) : ∃ a, Ev (fun k => spec_DrawSetGaps.f k l) a ∧ a.length ≤ 61 := by
  obtain ⟨s', h1, hs⟩ := l1Open_eq l (u8_range h)
  obtain ⟨a, q, ha, q0, q1, q2⟩ := l11AnySet_ev s' hs 0 (by omega) (by omega)
  refine ⟨a, ?_, q2⟩
  simp only [spec_DrawSetGaps.f, h1, Option.bind_some]
  exact Ev.bind ha (Ev.now _)

theorem toNat_cast (i : Nat) : ((i : Int)).toNat = i := by simp

theorem rdOf_get {α : Type} (d : α) (l : List α) (j : Nat) (h : j < l.length) : rdOf d l (j : Int) = l[j] := by
  unfold rdOf; simp [List.getD_eq_getElem?_getD, List.getElem?_eq_getElem h]

theorem of_ev (s : List Int) (hs : CodeOk s) (p : Int) (l : List ByteArray) (hp : 0 ≤ p) (hp1 : p ≤ 1000000) (hl : 1 ≤ l.length) (hl1 : l.length ≤ 1000000) :
    ∃ r, Ev (fun k => spec_l1Rd_of.f k s p l) (r, p + 1) ∧ r ∈ l := by
  obtain ⟨i, hi, h0, h1⟩ := pick_ev s hs p (l.length : Int) hp hp1 (by omega) (by omega)
  obtain ⟨j, rfl⟩ : ∃ j : Nat, i = (j : Int) := ⟨i.toNat, by omega⟩
  refine ⟨l[j]'(by omega), ?_, List.getElem_mem _⟩
  simp only [spec_l1Rd_of.f]
  refine Ev.bind hi ?_
  simp only [if_pos h0, if_pos h1, rdOf_get _ l j (by omega)]
  exact Ev.now _

theorem l11Cut_ev (s : List Int) (hs : CodeOk s) (p : Int) (t : ByteArray) (hp : 0 ≤ p) (hp1 : p ≤ 700000) (ht : t.size ≤ 900000) : ∃ r q, Ev (fun k => spec_l11Cut.f k s p t) (r, q) ∧ p ≤ q ∧ q ≤ p + 3 ∧ r.size ≤ t.size + 1 := by
  obtain ⟨i, hi, i0, i1⟩ := pick_ev s hs p ((t.size : Int) + 1) hp (by omega) (by omega) (by omega)
  obtain ⟨j, hj, j0, j1⟩ := pick_ev s hs (p + 1) 5 (by omega) (by omega) (by omega) (by omega)
  obtain ⟨m, rfl⟩ : ∃ m : Nat, i = (m : Int) := ⟨i.toNat, by omega⟩
  have z1 : (t.extract 0 m).size = m := by rw [ByteArray.size_extract]; omega
  have z2 : (t.extract m t.size).size = t.size - m := by rw [ByteArray.size_extract]; omega
  simp only [spec_l11Cut.f, wrap_id (x := (t.size : Int) + 1) (by omega) (by omega)]
  by_cases c0 : j = 0
  · obtain ⟨x, hx, hxm⟩ := of_ev s hs (p + 1 + 1) (([(⟨#[32]⟩ : ByteArray), (⟨#[58]⟩ : ByteArray), (⟨#[10]⟩ : ByteArray), (⟨#[48]⟩ : ByteArray), (⟨#[120]⟩ : ByteArray), (⟨#[61]⟩ : ByteArray), (⟨#[45]⟩ : ByteArray), (⟨#[41]⟩ : ByteArray)] : List ByteArray)) (by omega) (by omega) (by decide) (by decide)
    have hxs : x.size = 1 := by
      have h : ∀ x ∈ (([(⟨#[32]⟩ : ByteArray), (⟨#[58]⟩ : ByteArray), (⟨#[10]⟩ : ByteArray), (⟨#[48]⟩ : ByteArray), (⟨#[120]⟩ : ByteArray), (⟨#[61]⟩ : ByteArray), (⟨#[45]⟩ : ByteArray), (⟨#[41]⟩ : ByteArray)] : List ByteArray)), x.size = 1 := by decide
      exact h x hxm
    have z3 : (t.extract 0 m ++ x).size = m + 1 := by rw [ByteArray.size_append, z1, hxs]
    refine ⟨(t.extract 0 m ++ x) ++ t.extract m t.size, p + 1 + 1 + 1, Ev.bind hi (Ev.bind hj ?_), by omega, by omega, by rw [ByteArray.size_append, z3, z2]; omega⟩
    simp only [if_pos c0, if_pos i0, if_pos (show (m : Int) ≤ (t.size : Int) by omega), toNat_cast]
    refine Ev.bind hx ?_
    simp only [z1, z2, z3, hxs, if_pos (show m + 1 ≤ 9223372036854775807 by omega), if_pos (show m + 1 + (t.size - m) ≤ 9223372036854775807 by omega)]
    exact Ev.now _
  · by_cases c1 : j = 1
    · refine ⟨t.extract 0 m, p + 1 + 1, Ev.bind hi (Ev.bind hj ?_), by omega, by omega, by omega⟩
      simp only [if_neg c0, if_pos c1, if_pos i0, if_pos (show (m : Int) ≤ (t.size : Int) by omega), toNat_cast]
      exact Ev.now _
    · refine ⟨t, p + 1 + 1, Ev.bind hi (Ev.bind hj ?_), by omega, by omega, by omega⟩
      simp only [if_neg c0, if_neg c1]
      exact Ev.now _

theorem gapsL_length : ∀ (l : List Int) (last : Int), (gapsL last l).length = l.length
  | [], _ => rfl
  | n :: l, last => by simp [gapsL, gapsL_length l n]

theorem gapsL_small : ∀ (l : List Int) (last : Int), RisesFrom last l → ∀ x ∈ gapsL last l, x.size ≤ 19
  | [], _, _, x, hx => by simp [gapsL] at hx
  | n :: l, last, h, x, hx => by
    have h3 := h.2.1 n (List.mem_cons_self ..)
    have h0 := h.1
    rcases List.mem_cons.1 hx with h1 | h1
    · rw [h1]; exact decN_size_le _ (by omega)
    · exact gapsL_small l n h.next x h1

theorem tailT_size (m : Nat) (sep : ByteArray) : ∀ (xs : List ByteArray), (∀ x ∈ xs, x.size ≤ m) → (tailT xs sep).size ≤ (sep.size + m) * xs.length
  | [], _ => by rw [tailT_nil]; exact Nat.zero_le _
  | x :: xs, h => by
    have h1 := tailT_size m sep xs (fun y hy => h y (List.mem_cons_of_mem _ hy))
    have h2 := h x (by simp)
    rw [tailT_cons, ByteArray.size_append, ByteArray.size_append, List.length_cons, Nat.mul_succ]
    omega

theorem joinT_size (m : Nat) (sep : ByteArray) (xs : List ByteArray) (h : ∀ x ∈ xs, x.size ≤ m) : (joinT xs sep).size ≤ (sep.size + m) * xs.length := by
  cases xs with
  | nil => rw [joinT_nil]; exact Nat.zero_le _
  | cons x xs =>
    have h1 := tailT_size m sep xs (fun y hy => h y (List.mem_cons_of_mem _ hy))
    have h2 := h x (by simp)
    rw [joinT_cons, ByteArray.size_append, List.length_cons, Nat.mul_succ]
    omega

theorem gapsB_size (l : List Int) : (gapsB l).size ≤ 320 := by
  unfold gapsB
  by_cases h : setOkB l = true
  · obtain ⟨h1, h2⟩ := rises_of_set h
    rw [if_pos h]
    have := joinT_size 19 sp (gapsL 0 l) (gapsL_small l 0 h1)
    have zs : sp.size = 1 := rfl
    rw [gapsL_length, zs] at this
    omega
  · rw [if_neg h]; simp [ByteArray.size]

theorem DrawSetRead_ev (l : List Int) (h : ∀ x ∈ l, (Lit.int .u8 x).wf = true) : ∃ t, Ev (fun k => spec_DrawSetRead.f k l) t ∧ t.size ≤ 321 := by
  obtain ⟨s', h1, hs⟩ := l1Open_eq l (u8_range h)
  obtain ⟨a, q, ha, q0, q1, q2⟩ := l11Set_ev s' hs 0 (by omega) (by omega)
  have hz := gapsB_size a
  obtain ⟨t, p, ht, p0, p1, p2⟩ := l11Cut_ev s' hs q (gapsB a) (by omega) (by omega) (by omega)
  refine ⟨t, ?_, by omega⟩
  simp only [spec_DrawSetRead.f, h1, Option.bind_some]
  exact Ev.bind ha (Ev.bind (spec_SetGaps_ev a (by omega)) (Ev.bind ht (Ev.now _)))

/-- A text cut at a byte, so many times at most; acc: what stands of the first piece. -/
def cutW (c : UInt8) : Nat → List UInt8 → List UInt8 → List (List UInt8)
  | _, acc, [] => [acc]
  | 0, acc, x :: xs => [acc ++ x :: xs]
  | n + 1, acc, x :: xs => if x = c then acc :: cutW c n [] xs else cutW c (n + 1) (acc ++ [x]) xs

def mkT (l : List UInt8) : ByteArray := ⟨l.toArray⟩

/-- The pieces of a text between the bytes c. -/
def splitT (c : UInt8) (s : ByteArray) : List ByteArray := (cutW c (s.data.toList.count c) [] s.data.toList).map mkT

theorem splitT_empty (c : UInt8) : splitT c (⟨#[]⟩ : ByteArray) = [(⟨#[]⟩ : ByteArray)] := rfl

theorem dig_val (v : Nat) (h : v < 10) : (UInt8.ofNat (48 + v)).toNat = 48 + v := by rw [UInt8.toNat_ofNat']; exact Nat.mod_eq_of_lt (by omega)

def isD (c : UInt8) : Prop := 48 ≤ c.toNat ∧ c.toNat ≤ 57
instance (c : UInt8) : Decidable (isD c) := by unfold isD; infer_instance

theorem dec_dig (u : Nat) : ∀ c ∈ Lib.decDigits u, isD c := by
  induction u using Nat.strongRecOn with
  | _ u ih =>
    intro c hc
    unfold isD
    by_cases h : u < 10
    · rw [Lib.decDigits, dif_pos h, List.mem_singleton] at hc
      rw [hc, dig_val u h]; omega
    · rw [Lib.decDigits, dif_neg h] at hc
      rcases List.mem_append.1 hc with h1 | h1
      · exact ih (u / 10) (by omega) c h1
      · rw [List.mem_singleton] at h1
        rw [h1, dig_val (u % 10) (by omega)]; omega

theorem decN_no (u : Nat) (c : UInt8) (hc : c.toNat < 48 ∨ 57 < c.toNat) : c ∉ (decN u).data.toList := by
  intro h
  have h1 := dec_dig u c (by unfold decN at h; simpa using h)
  unfold isD at h1; omega

theorem gapsL_no : ∀ (l : List Int) (last : Int), ∀ x ∈ gapsL last l, (32 : UInt8) ∉ x.data.toList
  | [], _, x, hx => by simp [gapsL] at hx
  | n :: l, last, x, hx => by
    rcases List.mem_cons.1 hx with h1 | h1
    · rw [h1]; exact decN_no _ 32 (Or.inl (by decide))
    · exact gapsL_no l n x h1

/-- A text cut at the first n bytes c. -/
def cutT (c : UInt8) (n : Nat) (s : ByteArray) : List ByteArray := (cutW c n [] s.data.toList).map mkT

theorem cutW_zero (c : UInt8) (acc l : List UInt8) : cutW c 0 acc l = [acc ++ l] := by cases l <;> simp [cutW]

theorem cutW_run (c : UInt8) : ∀ (x : List UInt8) (n : Nat) (acc r : List UInt8), c ∉ x → cutW c n acc (x ++ r) = cutW c n (acc ++ x) r
  | [], n, acc, r, _ => by simp
  | a :: x, 0, acc, r, _ => by rw [cutW_zero, cutW_zero]; simp
  | a :: x, n + 1, acc, r, h => by
    have h1 : a ≠ c := fun e => h (by simp [e])
    rw [List.cons_append, cutW, if_neg h1, cutW_run c x (n + 1) _ r (fun e => h (List.mem_cons_of_mem _ e))]
    simp

theorem joinTail_cons1 (c : UInt8) (x : List UInt8) (xs : List (List UInt8)) : Lib.joinTail [c] (x :: xs) = c :: (x ++ Lib.joinTail [c] xs) := by
  unfold Lib.joinTail; simp

theorem cutW_tail (c : UInt8) : ∀ (xs : List (List UInt8)) (n : Nat) (x0 : List UInt8), (∀ x ∈ x0 :: xs, c ∉ x) → xs.length ≤ n → cutW c n [] (x0 ++ Lib.joinTail [c] xs) = x0 :: xs
  | [], n, x0, h, _ => by
    have e : Lib.joinTail [c] [] = [] := rfl
    rw [e, cutW_run c x0 n [] [] (h x0 (by simp))]
    cases n <;> simp [cutW]
  | x1 :: xs, 0, x0, h, hl => by simp at hl
  | x1 :: xs, n + 1, x0, h, hl => by
    rw [joinTail_cons1, cutW_run c x0 (n + 1) [] _ (h x0 (by simp)), cutW, if_pos rfl, cutW_tail c xs n x1 (fun x hx => h x (List.mem_cons_of_mem _ hx)) (by simp at hl; omega)]
    simp

theorem joinT_data (x0 : ByteArray) (xs : List ByteArray) (c : UInt8) : (joinT (x0 :: xs) ⟨#[c]⟩).data.toList = x0.data.toList ++ Lib.joinTail [c] (xs.map (·.data.toList)) := by
  unfold joinT
  rw [List.map_cons, Lib.join_cons]

theorem mkT_data (s : ByteArray) : mkT s.data.toList = s := by cases s; rfl

theorem cutT_joinT (c : UInt8) (n : Nat) (x0 : ByteArray) (xs : List ByteArray) (h : ∀ x ∈ x0 :: xs, c ∉ x.data.toList) (hl : xs.length ≤ n) : cutT c n (joinT (x0 :: xs) ⟨#[c]⟩) = x0 :: xs := by
  unfold cutT
  rw [joinT_data, cutW_tail c _ n _ (by
    intro y hy
    rcases List.mem_cons.1 hy with rfl | hy
    · exact h x0 (by simp)
    · obtain ⟨z, hz, rfl⟩ := List.mem_map.1 hy
      exact h z (List.mem_cons_of_mem _ hz)) (by rw [List.length_map]; exact hl)]
  rw [List.map_cons, mkT_data, List.map_map]
  congr 1
  conv => rhs; rw [← List.map_id xs]
  exact List.map_congr_left (fun x _ => mkT_data x)

theorem count_tail (c : UInt8) : ∀ (xs : List (List UInt8)), (∀ x ∈ xs, c ∉ x) → (Lib.joinTail [c] xs).count c = xs.length
  | [], _ => rfl
  | x :: xs, h => by
    rw [joinTail_cons1, List.count_cons_self, List.count_append, count_tail c xs (fun y hy => h y (List.mem_cons_of_mem _ hy)), List.count_eq_zero.2 (h x (by simp))]
    simp

theorem splitT_joinT (c : UInt8) (x0 : ByteArray) (xs : List ByteArray) (h : ∀ x ∈ x0 :: xs, c ∉ x.data.toList) : splitT c (joinT (x0 :: xs) ⟨#[c]⟩) = x0 :: xs := by
  have e : (joinT (x0 :: xs) ⟨#[c]⟩).data.toList.count c = xs.length := by
    rw [joinT_data, List.count_append, List.count_eq_zero.2 (h x0 (by simp)), count_tail c _ (by
      intro y hy
      obtain ⟨z, hz, rfl⟩ := List.mem_map.1 hy
      exact h z (List.mem_cons_of_mem _ hz)), List.length_map, Nat.zero_add]
  have := cutT_joinT c xs.length x0 xs h (Nat.le_refl _)
  unfold splitT
  rw [e]; exact this

theorem gaps_pieces {l : List Int} (h : setOkB l = true) (hl : l ≠ []) : splitT 32 (joinT (gapsL 0 l) sp) = gapsL 0 l ∧ cutT 32 16 (joinT (gapsL 0 l) sp) = gapsL 0 l := by
  have hr := rises_of_set h
  have hn := gapsL_no l 0
  have hlen := gapsL_length l 0
  cases hg : gapsL 0 l with
  | nil => rw [hg] at hlen; exact absurd (List.length_eq_zero_iff.1 hlen.symm) hl
  | cons x xs =>
    rw [hg] at hn hlen
    rw [List.length_cons] at hlen
    exact ⟨splitT_joinT 32 x xs hn, cutT_joinT 32 16 x xs hn (by omega)⟩

def CanonD (l : List UInt8) : Prop := l ≠ [] ∧ (∀ c ∈ l, isD c) ∧ (1 < l.length → l.head? ≠ some 48)

/-- The number that digits spell behind acc. -/
def valD (acc : Nat) (l : List UInt8) : Nat := l.foldl (fun a c => a * 10 + (c.toNat - 48)) acc

open Classical in
/-- The number that at most nine figures are; -1 if they are none, more, or have noughts ahead. -/
noncomputable def figB (s : ByteArray) : Int := if CanonD s.data.toList ∧ s.size ≤ 9 then (valD 0 s.data.toList : Int) else -1

theorem dec_ne (u : Nat) : Lib.decDigits u ≠ [] := by
  intro h
  have h1 := Lib.decDigits_length u
  have h2 := Lib.nDigits_pos u
  rw [h] at h1
  simp at h1; omega

theorem dec_head (u : Nat) : 1 ≤ u → ∀ c r, Lib.decDigits u = c :: r → 49 ≤ c.toNat := by
  induction u using Nat.strongRecOn with
  | _ u ih =>
    intro hu c r he
    by_cases h : u < 10
    · rw [Lib.decDigits, dif_pos h] at he
      have := (List.cons.inj he).1
      rw [← this, dig_val u h]; omega
    · rw [Lib.decDigits, dif_neg h] at he
      obtain ⟨c', r', e'⟩ : ∃ c' r', Lib.decDigits (u / 10) = c' :: r' := by
        cases hd : Lib.decDigits (u / 10) with
        | nil => exact absurd hd (dec_ne _)
        | cons c' r' => exact ⟨c', r', rfl⟩
      have := ih (u / 10) (by omega) (by omega) c' r' e'
      rw [e', List.cons_append] at he
      rw [← (List.cons.inj he).1]; exact this

theorem canon_dec (u : Nat) : CanonD (Lib.decDigits u) := by
  refine ⟨dec_ne u, dec_dig u, fun hl => ?_⟩
  intro he
  have hu : 1 ≤ u := by
    rcases Nat.lt_or_ge u 1 with h | h
    · obtain rfl : u = 0 := by omega
      rw [Lib.decDigits, dif_pos (by omega)] at hl; simp at hl
    · exact h
  cases hd : Lib.decDigits u with
  | nil => exact dec_ne u hd
  | cons c r =>
    have := dec_head u hu c r hd
    rw [hd] at he
    simp at he
    rw [he] at this
    exact absurd this (by decide)

theorem valD_append (a : List UInt8) (acc : Nat) (b : List UInt8) : valD acc (a ++ b) = valD (valD acc a) b := by unfold valD; rw [List.foldl_append]

theorem valD_cons (acc : Nat) (c : UInt8) (r : List UInt8) : valD acc (c :: r) = valD (acc * 10 + (c.toNat - 48)) r := by unfold valD; rw [List.foldl_cons]

theorem valD_ge : ∀ (l : List UInt8) (acc : Nat), acc ≤ valD acc l
  | [], _ => Nat.le_refl _
  | c :: l, acc => by
    have := valD_ge l (acc * 10 + (c.toNat - 48))
    rw [valD_cons]; omega

theorem valD_nil (acc : Nat) : valD acc [] = acc := rfl

theorem dec_of_val : ∀ (n : Nat) (l : List UInt8), l.length = n → CanonD l → Lib.decDigits (valD 0 l) = l
  | 0, l, hn, h => absurd (List.length_eq_zero_iff.1 hn) h.1
  | n + 1, l, hn, h => by
    obtain ⟨a, c, rfl⟩ : ∃ a c, l = a ++ [c] := ⟨l.dropLast, l.getLast h.1, (List.dropLast_concat_getLast h.1).symm⟩
    have hc := h.2.1 c (by simp)
    unfold isD at hc
    have hcc : UInt8.ofNat (48 + (c.toNat - 48)) = c := UInt8.toNat_inj.1 (by rw [dig_val _ (by omega)]; omega)
    have ev : valD 0 (a ++ [c]) = valD 0 a * 10 + (c.toNat - 48) := by rw [valD_append, valD_cons, valD_nil]
    by_cases ha : a = []
    · subst ha
      rw [ev, valD_nil, Nat.zero_mul, Nat.zero_add, Lib.decDigits, dif_pos (by omega), hcc]; rfl
    · obtain ⟨x, r, rfl⟩ : ∃ x r, a = x :: r := by
        cases a with
        | nil => exact absurd rfl ha
        | cons x r => exact ⟨x, r, rfl⟩
      have hx := h.2.1 x (by simp)
      unfold isD at hx
      have hx48 : x ≠ 48 := fun e => h.2.2 (by simp) (by simp [e])
      have hx49 : 49 ≤ x.toNat := by
        rcases Nat.lt_or_ge x.toNat 49 with h1 | h1
        · exact absurd (UInt8.toNat_inj.1 (show x.toNat = (48 : UInt8).toNat by show _ = 48; omega)) hx48
        · exact h1
      have hge := valD_ge r (0 * 10 + (x.toNat - 48))
      have hv : 1 ≤ valD 0 (x :: r) := by rw [valD_cons]; omega
      have hcan : CanonD (x :: r) := ⟨by simp, fun y hy => h.2.1 y (List.mem_append_left _ hy), fun _ => by simpa using hx48⟩
      have ih := dec_of_val n (x :: r) (by simp at hn ⊢; omega) hcan
      rw [ev, Lib.decDigits, dif_neg (by omega), show (valD 0 (x :: r) * 10 + (c.toNat - 48)) / 10 = valD 0 (x :: r) by omega, show (valD 0 (x :: r) * 10 + (c.toNat - 48)) % 10 = c.toNat - 48 by omega, ih, hcc]

theorem dec_val (u : Nat) : valD 0 (Lib.decDigits u) = u := by
  induction u using Nat.strongRecOn with
  | _ u ih =>
    by_cases h : u < 10
    · rw [Lib.decDigits, dif_pos h, valD_cons, valD_nil, dig_val u h]; omega
    · rw [Lib.decDigits, dif_neg h, valD_append, ih (u / 10) (by omega), valD_cons, valD_nil, dig_val (u % 10) (by omega)]; omega

theorem valD_lt : ∀ (l : List UInt8) (acc : Nat), (∀ c ∈ l, isD c) → valD acc l < (acc + 1) * 10 ^ l.length
  | [], acc, _ => by rw [valD_nil]; simp
  | c :: l, acc, h => by
    have hc := h c (by simp)
    unfold isD at hc
    have h1 := valD_lt l (acc * 10 + (c.toNat - 48)) (fun x hx => h x (List.mem_cons_of_mem _ hx))
    rw [valD_cons, List.length_cons, Nat.pow_succ, Nat.mul_comm (10 ^ l.length) 10, ← Nat.mul_assoc]
    refine Nat.lt_of_lt_of_le h1 (Nat.mul_le_mul_right _ (by omega))

theorem figB_yes {s : ByteArray} {u : Nat} : figB s = (u : Int) ↔ u ≤ 999999999 ∧ Lib.decDigits u = s.data.toList := by
  constructor
  · intro h
    unfold figB at h
    split at h
    · rename_i hc
      have hu : valD 0 s.data.toList = u := by omega
      have hl := valD_lt s.data.toList 0 hc.1.2.1
      have hp : 10 ^ s.data.toList.length ≤ 10 ^ 9 := Nat.pow_le_pow_right (by decide) hc.2
      have e9 : (10 : Nat) ^ 9 = 1000000000 := by decide
      refine ⟨by omega, ?_⟩
      rw [← hu]; exact dec_of_val _ _ rfl hc.1
    · omega
  · rintro ⟨h1, h2⟩
    have hs : s.size ≤ 9 := by
      have h3 := nDigits_le 8 u (by omega)
      rw [← Lib.decDigits_length, h2] at h3; exact h3
    have hcan := canon_dec u
    rw [h2] at hcan
    unfold figB
    rw [if_pos ⟨hcan, hs⟩, ← h2, dec_val]

theorem figB_decN (u : Nat) (h : u ≤ 999999999) : figB (decN u) = (u : Int) := figB_yes.2 ⟨h, by unfold decN; simp⟩

/-- The numbers that texts tell, each by how far it is from the one before. -/
noncomputable def numsF : Int → List ByteArray → Option (List Int)
  | _, [] => some []
  | last, w :: ws => if figB w = -1 then none else match numsF (last + figB w) ws with
    | some l => some ((last + figB w) :: l)
    | none => none

theorem numsF_gaps : ∀ (l : List Int) (last : Int), RisesFrom last l → numsF last (gapsL last l) = some l
  | [], _, _ => rfl
  | n :: l, last, h => by
    have h3 := h.2.1 n (List.mem_cons_self ..)
    have h0 := h.1
    have hf := figB_decN (n - last).toNat (by omega)
    have e : last + figB (decN (n - last).toNat) = n := by rw [hf]; omega
    rw [gapsL, numsF, if_neg (by omega), e, numsF_gaps l n h.next]

noncomputable def setRes (s : ByteArray) : Option (List Int) → List Int × Bool
  | none => ([], false)
  | some l => if setOkB l = true then (if joinT (gapsL 0 l) sp = s then (l, true) else ([], false)) else ([], false)

theorem setRes_pos {s : ByteArray} {l : List Int} (h1 : setOkB l = true) (h2 : joinT (gapsL 0 l) sp = s) : setRes s (some l) = (l, true) := by
  simp only [setRes, if_pos h1, if_pos h2]

noncomputable def setReadB (s : ByteArray) : List Int × Bool := if s = ⟨#[]⟩ then ([], true) else setRes s (numsF 0 (splitT 32 s))

theorem setRead_gaps {a : List Int} (h : setOkB a = true) : setReadB (gapsB a) = (a, true) := by
  unfold gapsB setReadB
  rw [if_pos h]
  by_cases ha : a = []
  · subst ha
    rw [if_pos (show joinT (gapsL 0 []) sp = ⟨#[]⟩ from rfl)]
  · have hp := (gaps_pieces h ha).1
    have hne : ¬ joinT (gapsL 0 a) sp = ⟨#[]⟩ := by
      intro e
      rw [e, splitT_empty] at hp
      cases a with
      | nil => exact ha rfl
      | cons n l =>
        rw [gapsL] at hp
        have h1 := (List.cons.inj hp).1
        have h2 := congrArg ByteArray.size h1
        rw [decN_size] at h2
        have h3 := Lib.nDigits_pos (n - 0).toNat
        have h4 : (⟨#[]⟩ : ByteArray).size = 0 := rfl
        omega
    rw [if_neg hne, hp, numsF_gaps a 0 (rises_of_set h).1]
    exact setRes_pos h rfl

theorem drop_get {α : Type} (l : List α) (j : Nat) (h : j < l.length) : l.drop j = l[j] :: l.drop (j + 1) := List.drop_eq_getElem_cons h

theorem toList_data (s : ByteArray) : s.toList = s.data.toList := by
  exact ByteArray.toList_eq s

theorem toList_inj {a b : ByteArray} : a.toList = b.toList ↔ a = b := by
  rw [toList_data, toList_data]
  constructor
  · intro h; exact ByteArray.ext (Array.toList_inj.1 h)
  · rintro rfl; rfl

/-- The number that a text is: it is written just so, and lies between the bounds. -/
def numB (s : ByteArray) : Int × Bool := match Lib.atoiAll s.data.toList with
  | .ok n => if -999999999 ≤ n ∧ n ≤ 999999999 ∧ Lib.itoa n = s.data.toList then (n, true) else (0, false)
  | _ => (0, false)

theorem number_eq (s : ByteArray) (hs : s.size ≤ 140737488355328) : impl_number.f s = some (numB s) := by
  unfold impl_number.f
  rw [if_pos hs]; rfl

theorem figB_cases (s : ByteArray) : figB s = -1 ∨ ∃ u : Nat, u ≤ 999999999 ∧ figB s = (u : Int) ∧ Lib.decDigits u = s.data.toList := by
  by_cases h : ∃ u : Nat, figB s = (u : Int)
  · obtain ⟨u, hu⟩ := h
    have := figB_yes.1 hu
    exact Or.inr ⟨u, this.1, hu, this.2⟩
  · refine Or.inl ?_
    unfold figB
    split
    · rename_i hc
      exact absurd ⟨_, show figB s = ((valD 0 s.data.toList : Nat) : Int) by unfold figB; rw [if_pos hc]⟩ h
    · rfl

theorem itoa_nn {n : Int} (h : 0 ≤ n) : Lib.itoa n = Lib.decDigits n.toNat := by unfold Lib.itoa; rw [if_neg (by omega)]

theorem parse_val : ∀ (l : List UInt8) (acc : Nat), (∀ c ∈ l, isD c) → valD acc l < 1844674407370955162 → Lib.parseUint10 acc l = .ok (valD acc l)
  | [], _, _, _ => rfl
  | c :: r, acc, h, hv => by
    have hc := h c (by simp)
    unfold isD at hc
    rw [valD_cons] at hv
    have hg := valD_ge r (acc * 10 + (c.toNat - 48))
    rw [Lib.parseUint10, if_pos hc, if_neg (by omega), if_neg (by omega), parse_val r _ (fun x hx => h x (List.mem_cons_of_mem _ hx)) hv, valD_cons]

theorem mag_dec (u : Nat) (h : u ≤ 999999999999) : Lib.parseMag (Lib.decDigits u) = .ok u := by
  unfold Lib.parseMag
  rw [if_neg (dec_ne u), parse_val _ 0 (dec_dig u) (by rw [dec_val]; omega), dec_val]

theorem atoi_dec (u : Nat) (h : u ≤ 999999999999) : Lib.atoiAll (Lib.decDigits u) = .ok (u : Int) := by
  obtain ⟨c, r, e⟩ : ∃ c r, Lib.decDigits u = c :: r := by
    cases hd : Lib.decDigits u with
    | nil => exact absurd hd (dec_ne _)
    | cons c r => exact ⟨c, r, rfl⟩
  have hc := dec_dig u c (by rw [e]; simp)
  unfold isD at hc
  have hm := mag_dec u h
  rw [e] at hm ⊢
  rw [Lib.atoiAll_plain c r (by omega) (by omega), hm]
  simp only [Lib.signless, if_neg (show ¬ 9223372036854775808 ≤ u by omega)]

theorem atoi_neg (u : Nat) (h : u ≤ 999999999999) : Lib.atoiAll (45 :: Lib.decDigits u) = .ok (-(u : Int)) := by
  rw [Lib.atoiAll_minus, mag_dec u h]
  simp only [Lib.signed, if_neg (show ¬ 9223372036854775808 < u by omega)]

theorem atoi_itoa (n : Int) (h0 : -999999999999 ≤ n) (h1 : n ≤ 999999999999) : Lib.atoiAll (Lib.itoa n) = .ok n := by
  unfold Lib.itoa
  by_cases h : n < 0
  · rw [if_pos h, atoi_neg _ (by omega)]; congr 1; omega
  · rw [if_neg h, atoi_dec _ (by omega)]; congr 1; omega

theorem numB_yes {s : ByteArray} {n : Int} : numB s = (n, true) ↔ -999999999 ≤ n ∧ n ≤ 999999999 ∧ Lib.itoa n = s.data.toList := by
  constructor
  · intro h
    unfold numB at h
    split at h
    · split at h
      · rename_i hc; rw [← (Prod.mk.inj h).1]; exact hc
      · cases (Prod.mk.inj h).2
    · cases (Prod.mk.inj h).2
  · rintro ⟨h0, h1, h2⟩
    unfold numB
    rw [← h2, atoi_itoa n (by omega) (by omega)]
    simp only [if_pos (show -999999999 ≤ n ∧ n ≤ 999999999 ∧ True from ⟨h0, h1, trivial⟩)]

/-- A text is a number from nought on in the one reading just if it is in the other. -/
theorem num_fig (s : ByteArray) : ((numB s).2 = true ∧ 0 ≤ (numB s).1 ∧ figB s = (numB s).1) ∨ (((numB s).2 = false ∨ (numB s).1 < 0) ∧ figB s = -1) := by
  rcases figB_cases s with h | ⟨u, h1, h2, h3⟩
  · by_cases hn : (numB s).2 = true
    · by_cases h0 : (numB s).1 < 0
      · exact Or.inr ⟨Or.inr h0, h⟩
      · have := numB_yes.1 (show numB s = ((numB s).1, true) by rw [← hn])
        rw [itoa_nn (by omega)] at this
        have h4 := figB_yes.2 (show (numB s).1.toNat ≤ 999999999 ∧ _ from ⟨by omega, this.2.2⟩)
        omega
    · exact Or.inr ⟨Or.inl (by simpa using hn), h⟩
  · have := numB_yes.2 (show -999999999 ≤ (u : Int) ∧ (u : Int) ≤ 999999999 ∧ Lib.itoa (u : Int) = s.data.toList from ⟨by omega, by omega, by rw [itoa_nn (by omega)]; exact h3⟩)
    rw [this]
    exact Or.inl ⟨rfl, by show 0 ≤ (u : Int); omega, h2⟩

theorem setRes_app (s : ByteArray) (acc : List Int) (n : Int) (o : Option (List Int)) : setRes s (match (match o with | some l => some (n :: l) | none => none) with | some l => some (acc ++ l) | none => none) = setRes s (match o with | some l => some (acc ++ [n] ++ l) | none => none) := by
  cases o with
  | none => rfl
  | some l => show setRes s (some (acc ++ n :: l)) = setRes s (some (acc ++ [n] ++ l)); rw [List.append_assoc]; rfl

theorem impl_SetRead_l0 (s : ByteArray) (L : List ByteArray) (hL : L.length ≤ 1048577) (hx : ∀ x ∈ L, x.size ≤ 1048576) : ∀ (d i : Nat) (last : Int) (acc : List Int), i + d = L.length → 0 ≤ last → last ≤ 1000000000 * i → acc.length ≤ i →
    Ev (fun k => impl_SetRead.l0 k s acc last L (L.length : Int) (i : Int)) (setRes s (match numsF last (L.drop i) with | some l => some (acc ++ l) | none => none)) := by
  intro d
  induction d with
  | zero =>
    intro i last acc hi h0 h1 ha
    refine Ev.step (fun k => impl_SetRead.l0.eq_2 _ _ _ _ _ _ _) ?_
    simp only [if_neg (show ¬ ((i : Int) < (L.length : Int)) by omega)]
    rw [List.drop_eq_nil_of_le (by omega)]
    show Ev _ (setRes s (some (acc ++ [])))
    rw [List.append_nil]
    refine Ev.bind (impl_SetOk_ev acc (by omega)) ?_
    simp only [setRes]
    cases hf : setOkB acc with
    | false => exact Ev.now _
    | true =>
      simp only [if_true]
      have hg := impl_SetGaps_ev acc (by omega)
      simp only [gapsB, if_pos hf] at hg
      refine Ev.bind hg ?_
      simp only [toList_inj]
      by_cases hp : joinT (gapsL 0 acc) sp = s
      · simp only [if_pos hp]; exact Ev.now _
      · simp only [if_neg hp]; exact Ev.now _
  | succ d ih =>
    intro i last acc hi h0 h1 ha
    have hxi := hx L[i] (List.getElem_mem _)
    refine Ev.step (fun k => impl_SetRead.l0.eq_2 _ _ _ _ _ _ _) ?_
    simp only [if_pos (show ((i : Int) < (L.length : Int)) by omega), if_pos (show 0 ≤ (i : Int) by omega), rdOf_get _ L i (by omega), number_eq L[i] (by omega), Option.bind_some]
    rw [drop_get L i (by omega), numsF]
    rcases num_fig L[i] with ⟨h2, h3, h4⟩ | ⟨h2, h4⟩
    · have hb := figB_cases L[i]
      have hb2 : (numB L[i]).1 ≤ 999999999 := by
        rcases hb with h | ⟨u, hu, h, _⟩
        · omega
        · omega
      rw [if_neg (show ¬ figB L[i] = -1 by omega), setRes_app, h4]
      simp only [h2, if_true, if_neg (show ¬ (numB L[i]).1 < 0 by omega), if_pos (show acc.length < 17592186044416 by omega), wrap_id (x := last + (numB L[i]).1) (by omega) (by omega), wsucc i (by omega)]
      exact ih (i + 1) (last + (numB L[i]).1) (acc ++ [last + (numB L[i]).1]) (by omega) (by omega) (by omega) (by simp; omega)
    · rw [if_pos h4]
      simp only [setRes]
      rcases h2 with h2 | h2
      · simp only [h2, if_neg (show ¬ (false = true) by decide)]; exact Ev.now _
      · cases hn : (numB L[i]).2 with
        | false => simp only [if_neg (show ¬ (false = true) by decide)]; exact Ev.now _
        | true => simp only [if_true, if_pos h2]; exact Ev.now _

theorem toList_nil_iff (s : ByteArray) : s.toList = ([] : List UInt8) ↔ s = ⟨#[]⟩ := by
  rw [toList_data]
  constructor
  · intro h; exact ByteArray.ext (Array.toList_inj.1 h)
  · rintro rfl; rfl

theorem indexByte_at (c : UInt8) (r : List UInt8) : ∀ (x : List UInt8), c ∉ x → Lib.indexByte (x ++ c :: r) c = (x.length : Int)
  | [], _ => by simp [Lib.indexByte]
  | a :: x, h => by
    have ha : a ≠ c := fun e => h (by simp [e])
    have := indexByte_at c r x (fun e => h (List.mem_cons_of_mem _ e))
    simp [Lib.indexByte, this, ha]

theorem indexByte_out (c : UInt8) : ∀ (l : List UInt8), c ∉ l → Lib.indexByte l c = -1
  | [], _ => rfl
  | x :: l, h => by
    have hx : x ≠ c := fun e => h (by simp [e])
    have := indexByte_out c l (fun e => h (List.mem_cons_of_mem _ e))
    simp [Lib.indexByte, this, hx]

theorem splitK_eq (c : UInt8) : ∀ (k : Nat) (l : List UInt8), Lib.splitK [c] 0 k l = cutW c k [] l
  | 0, l => by rw [cutW_zero]; rfl
  | k + 1, l => by
    unfold Lib.splitK
    rw [Lib.index_one]
    by_cases h : c ∈ l
    · obtain ⟨x, r, rfl, hx⟩ := List.eq_append_cons_of_mem h
      rw [indexByte_at c r x hx, if_neg (by simp), splitK_eq c k, cutW_run c x (k + 1) [] _ hx, cutW, if_pos rfl]
      simp
    · rw [indexByte_out c l h, if_pos (by decide)]
      have := cutW_run c l (k + 1) [] [] h
      rw [List.append_nil, List.nil_append] at this
      rw [this]; simp [cutW]

theorem Split_eq (c : UInt8) (s : ByteArray) (hs : s.size < 4294967281) : strings_Split.f s ⟨#[c]⟩ = some (splitT c s) := by
  unfold strings_Split.f
  rw [if_pos ⟨hs, Nat.le_refl _⟩]
  have e : (⟨#[c]⟩ : ByteArray).data.toList = [c] := rfl
  have h1 := Lib.splitB_data ⟨#[c]⟩ 0 (Lib.countB s ⟨#[c]⟩) s
  rw [e, splitK_eq] at h1
  have h2 : Lib.countB s ⟨#[c]⟩ = s.data.toList.count c := by
    show Lib.count s.data.toList [c] = _
    exact Lib.count_one c _
  rw [h2] at h1 ⊢
  unfold splitT
  rw [← h1, List.map_map]
  congr 1
  conv => lhs; rw [← List.map_id (Lib.splitB _ _ _ _)]
  exact List.map_congr_left (fun x _ => (mkT_data x).symm)

theorem cutW_length (c : UInt8) : ∀ (l : List UInt8) (n : Nat) (acc : List UInt8), (cutW c n acc l).length ≤ l.length + 1 ∧ (cutW c n acc l).length ≤ n + 1 ∧ 1 ≤ (cutW c n acc l).length
  | [], n, acc => by simp [cutW]
  | x :: xs, 0, acc => by simp [cutW]
  | x :: xs, n + 1, acc => by
    have h1 := cutW_length c xs n []
    have h2 := cutW_length c xs (n + 1) (acc ++ [x])
    unfold cutW
    split
    · simp only [List.length_cons]; omega
    · simp only [List.length_cons]; omega

theorem data_size (s : ByteArray) : s.data.toList.length = s.size := rfl

theorem splitT_length (c : UInt8) (s : ByteArray) : (splitT c s).length ≤ s.size + 1 ∧ 1 ≤ (splitT c s).length := by
  unfold splitT
  have := cutW_length c s.data.toList (s.data.toList.count c) []
  rw [List.length_map]; rw [data_size] at this; omega

theorem cutW_size (c : UInt8) : ∀ (l : List UInt8) (n : Nat) (acc : List UInt8), ∀ p ∈ cutW c n acc l, p.length ≤ acc.length + l.length
  | [], n, acc => by simp [cutW]
  | x :: xs, 0, acc => by simp [cutW]
  | x :: xs, n + 1, acc => by
    intro p hp
    unfold cutW at hp
    split at hp
    · rcases List.mem_cons.1 hp with rfl | hp
      · omega
      · have := cutW_size c xs n [] p hp
        simp only [List.length_nil, List.length_cons] at this ⊢; omega
    · have := cutW_size c xs (n + 1) (acc ++ [x]) p hp
      simp only [List.length_append, List.length_cons, List.length_nil] at this ⊢; omega

theorem mkT_size (l : List UInt8) : (mkT l).size = l.length := by simp [mkT, ByteArray.size]

theorem splitT_size {c : UInt8} {s p : ByteArray} (h : p ∈ splitT c s) : p.size ≤ s.size := by
  obtain ⟨x, hx, rfl⟩ := List.mem_map.1 h
  have := cutW_size c _ _ _ x hx
  rw [data_size] at this
  rw [mkT_size]; simpa using this

theorem impl_SetRead_ev (s : ByteArray) (hs : s.size ≤ 1048576) : Ev (fun k => impl_SetRead.f k s) (setReadB s) := by
  simp only [impl_SetRead.f, setReadB, Option.bind_some, toList_nil_iff]
  by_cases h : s = ⟨#[]⟩
  · simp only [if_pos h]; exact Ev.now _
  · simp only [if_neg h, Split_eq 32 s (show s.size < 4294967281 by omega), Option.bind_some]
    have hlen := splitT_length 32 s
    have hx := impl_SetRead_l0 s (splitT 32 s) (by omega) (fun x hx => by have := splitT_size hx; omega) (splitT 32 s).length 0 0 [] (by omega) (by omega) (by omega) (by simp)
    rw [List.drop_zero] at hx
    have e : (match numsF 0 (splitT 32 s) with | some l => some (([] : List Int) ++ l) | none => none) = numsF 0 (splitT 32 s) := by
      cases numsF 0 (splitT 32 s) with
      | none => rfl
      | some l => rfl
    rw [e] at hx
    exact hx

theorem setOkB_nil : setOkB [] = true := setOk_iff.2 ⟨fun x hx => by simp at hx, List.Pairwise.nil, by simp⟩

theorem setRes_form (s : ByteArray) (o : Option (List Int)) : setRes s o = ([], false) ∨ ((setRes s o).2 = true ∧ setOkB (setRes s o).1 = true ∧ joinT (gapsL 0 (setRes s o).1) sp = s) := by
  cases o with
  | none => exact Or.inl rfl
  | some l =>
    by_cases h1 : setOkB l = true
    · by_cases h2 : joinT (gapsL 0 l) sp = s
      · rw [setRes_pos h1 h2]; exact Or.inr ⟨rfl, h1, h2⟩
      · have e : setRes s (some l) = ([], false) := by simp only [setRes, if_pos h1, if_neg h2]
        exact Or.inl e
    · have e : setRes s (some l) = ([], false) := by simp only [setRes, if_neg h1]
      exact Or.inl e

theorem setReadB_form (s : ByteArray) : setReadB s = ([], false) ∨ ((setReadB s).2 = true ∧ setOkB (setReadB s).1 = true ∧ joinT (gapsL 0 (setReadB s).1) sp = s) := by
  unfold setReadB
  by_cases h : s = ⟨#[]⟩
  · rw [if_pos h]
    exact Or.inr ⟨rfl, setOkB_nil, h.symm⟩
  · rw [if_neg h]; exact setRes_form s _

theorem setReadB_len (s : ByteArray) : (setReadB s).1.length ≤ 16 := by
  rcases setReadB_form s with h | ⟨_, h, _⟩
  · rw [h]; simp
  · exact (rises_of_set h).2

theorem bt_get (s : ByteArray) (j : Nat) (h : j < (bytesOf s).length) : bt s (j : Int) = (bytesOf s)[j] := by
  rw [← rd_bytesOf, rd_get _ _ h]

theorem bt_u8 (s : ByteArray) (i : Nat) (h : i < s.data.toList.length) : bt s (i : Int) = ((s.data.toList[i]).toNat : Int) := by
  rw [bt_get s i (by rw [bytesOf_length]; exact h)]
  unfold bytesOf
  rw [List.getElem_map]

theorem extract_mkT (s : ByteArray) (a b : Nat) : s.extract a b = mkT ((s.data.toList.drop a).take (b - a)) := by
  rw [← mkT_data (s.extract a b), Lib.extract_data]

theorem take_rest (l : List UInt8) {f i : Nat} (hf : f ≤ i) : (l.drop f).take (i - f) ++ l.drop i = l.drop f := by
  have := List.take_append_drop (i - f) (l.drop f)
  rw [List.drop_drop, show f + (i - f) = i by omega] at this
  exact this

theorem take_step {l : List UInt8} {f i : Nat} (hf : f ≤ i) (hi : i < l.length) : (l.drop f).take (i + 1 - f) = (l.drop f).take (i - f) ++ [l[i]] := by
  have e : i + 1 - f = (i - f) + 1 := by omega
  rw [e, List.take_add_one, List.getElem?_drop, show f + (i - f) = i by omega, List.getElem?_eq_getElem hi]; rfl

theorem u8_eq_iff (a b : UInt8) : ((a.toNat : Int) = (b.toNat : Int)) ↔ a = b := ⟨fun h => UInt8.toNat_inj.1 (by omega), fun h => by rw [h]⟩

theorem l1Cut_l0 (c : UInt8) (s : ByteArray) (hs : s.size ≤ 1099511627776) (most : Nat) : ∀ (d i f n : Nat) (out : List ByteArray), i + d = s.size → f ≤ i → out.length + n = most → out.length ≤ i →
    Ev (fun k => spec_l1Cut.l0 k s (c.toNat : Int) (most : Int) out (f : Int) (i : Int)) (out ++ (cutW c n ((s.data.toList.drop f).take (i - f)) (s.data.toList.drop i)).map mkT) := by
  have hlen := data_size s
  have fin : ∀ (i f : Nat) (out : List ByteArray), f ≤ i → i ≤ s.size → out.length ≤ i → ∀ k, spec_l1Cut.j1 (k + 1) s (c.toNat : Int) (most : Int) out (f : Int) (i : Int) false = some (out ++ [mkT (s.data.toList.drop f)]) := by
    intro i f out hf hi ho k
    have e := extract_mkT s f s.size
    rw [List.take_of_length_le (by rw [List.length_drop]; omega)] at e
    rw [spec_l1Cut.j1.eq_2]
    simp only [if_neg (show ¬ (false = true) by decide), if_pos (show 0 ≤ (f : Int) by omega), if_pos (show (f : Int) ≤ (s.size : Int) by omega), if_pos (show out.length < 8796093022208 by omega), toNat_cast, e]
  have finE : ∀ (i f : Nat) (out : List ByteArray), f ≤ i → i ≤ s.size → out.length ≤ i → Ev (fun k => spec_l1Cut.j1 k s (c.toNat : Int) (most : Int) out (f : Int) (i : Int) false) (out ++ [mkT (s.data.toList.drop f)]) := by
    intro i f out hf hi ho
    refine ⟨1, fun k hk => ?_⟩
    obtain ⟨k, rfl⟩ : ∃ m, k = m + 1 := ⟨k - 1, by omega⟩
    exact fin i f out hf hi ho k
  intro d
  induction d with
  | zero =>
    intro i f n out hi hf hn ho
    refine Ev.step (fun k => spec_l1Cut.l0.eq_2 _ _ _ _ _ _ _) ?_
    simp only [if_neg (show ¬ ((i : Int) < (s.size : Int)) by omega)]
    have e := take_rest s.data.toList hf
    have e0 : s.data.toList.drop i = [] := List.drop_eq_nil_of_le (by omega)
    rw [e0, List.append_nil] at e
    have hc : cutW c n ((s.data.toList.drop f).take (i - f)) (s.data.toList.drop i) = [s.data.toList.drop f] := by
      rw [e0, e]; cases n <;> rfl
    rw [hc]
    exact finE i f out hf (by omega) ho
  | succ d ih =>
    intro i f n out hi hf hn ho
    refine Ev.step (fun k => spec_l1Cut.l0.eq_2 _ _ _ _ _ _ _) ?_
    simp only [if_pos (show ((i : Int) < (s.size : Int)) by omega)]
    cases n with
    | zero =>
      rw [decide_eq_false (show ¬ (out.length : Int) < (most : Int) by omega), cutW_zero, take_rest _ hf]
      exact finE i f out hf (by omega) ho
    | succ n =>
      rw [decide_eq_true (show (out.length : Int) < (most : Int) by omega)]
      refine Ev.step (fun k => spec_l1Cut.j1.eq_2 _ _ _ _ _ _ _ _) ?_
      have hil : i < s.data.toList.length := by omega
      have ed : s.data.toList.drop i = s.data.toList[i] :: s.data.toList.drop (i + 1) := List.drop_eq_getElem_cons hil
      rw [ed]
      simp only [if_true, if_pos (show 0 ≤ (i : Int) by omega), if_pos (show ((i : Int) < (s.size : Int)) by omega), bt_u8 s i hil, u8_eq_iff, wsucc i (by omega)]
      by_cases hb : s.data.toList[i] = c
      · have e := extract_mkT s f i
        rw [cutW, if_pos hb]
        simp only [if_pos hb, if_pos (show 0 ≤ (f : Int) by omega), if_pos (show (f : Int) ≤ (i : Int) by omega), if_pos (show (i : Int) ≤ (s.size : Int) by omega), if_pos (show out.length < 8796093022208 by omega), toNat_cast, e]
        have h := ih (i + 1) (i + 1) n (out ++ [mkT ((s.data.toList.drop f).take (i - f))]) (by omega) (Nat.le_refl _) (by simp; omega) (by simp; omega)
        rw [Nat.sub_self, List.take_zero, List.append_assoc] at h
        exact h
      · rw [cutW, if_neg hb]
        simp only [if_neg hb]
        have h := ih (i + 1) f (n + 1) out (by omega) (by omega) hn (by omega)
        rw [take_step hf hil] at h
        exact h

theorem spec_l1Cut_ev (c : UInt8) (n : Nat) (s : ByteArray) (hs : s.size ≤ 1099511627776) : Ev (fun k => spec_l1Cut.f k s (c.toNat : Int) (n : Int)) (cutT c n s) := by
  simp only [spec_l1Cut.f, cutT]
  have := l1Cut_l0 c s hs n s.size 0 0 n [] (by omega) (Nat.le_refl _) (by simp) (by simp)
  simpa using this

theorem setRes_neg {s : ByteArray} {o : Option (List Int)} (h : ∀ l, o = some l → setOkB l = true → joinT (gapsL 0 l) sp = s → False) : setRes s o = ([], false) := by
  cases o with
  | none => rfl
  | some l =>
    by_cases h1 : setOkB l = true
    · by_cases h2 : joinT (gapsL 0 l) sp = s
      · exact (h l rfl h1 h2).elim
      · simp only [setRes, if_pos h1, if_neg h2]
    · simp only [setRes, if_neg h1]

theorem setRead_same (s : ByteArray) (hs : s ≠ ⟨#[]⟩) : setRes s (numsF 0 (splitT 32 s)) = setRes s (numsF 0 (cutT 32 16 s)) := by
  have key : ∀ l, setOkB l = true → joinT (gapsL 0 l) sp = s → numsF 0 (splitT 32 s) = some l ∧ numsF 0 (cutT 32 16 s) = some l := by
    intro l h1 h2
    have hl : l ≠ [] := by
      rintro rfl
      exact hs h2.symm
    have hp := gaps_pieces h1 hl
    rw [h2] at hp
    rw [hp.1, hp.2]
    have := numsF_gaps l 0 (rises_of_set h1).1
    exact ⟨this, this⟩
  by_cases h : ∃ l, setOkB l = true ∧ joinT (gapsL 0 l) sp = s
  · obtain ⟨l, h1, h2⟩ := h
    rw [(key l h1 h2).1, (key l h1 h2).2]
  · rw [setRes_neg (fun l _ h1 h2 => h ⟨l, h1, h2⟩), setRes_neg (fun l _ h1 h2 => h ⟨l, h1, h2⟩)]

theorem canon_not {l : List UInt8} {i : Nat} (h : i < l.length) (hd : ¬ isD l[i]) : ¬ CanonD l := fun hc => hd (hc.2.1 _ (List.getElem_mem h))

theorem valD_step {l : List UInt8} {i : Nat} (h : i < l.length) : valD 0 (l.take (i + 1)) = valD 0 (l.take i) * 10 + (l[i].toNat - 48) := by
  rw [List.take_add_one, List.getElem?_eq_getElem h]
  show valD 0 (l.take i ++ [l[i]]) = _
  rw [valD_append, valD_cons, valD_nil]

theorem l1Figures_l0 (s : ByteArray) (hs : s.size ≤ 1099511627776) : ∀ (d i : Nat), i + d = s.size → i ≤ 9 → (∀ c ∈ s.data.toList.take i, isD c) →
    Ev (fun k => spec_l1Figures.l0 k s ((valD 0 (s.data.toList.take i) : Nat) : Int) (i : Int)) (figB s) := by
  have hlen := data_size s
  intro d
  induction d with
  | zero =>
    intro i hi h9 hd
    refine Ev.step (fun k => spec_l1Figures.l0.eq_2 _ _ _ _) ?_
    have et : s.data.toList.take i = s.data.toList := List.take_of_length_le (by omega)
    rw [et] at hd ⊢
    simp only [if_neg (show ¬ ((i : Int) < (s.size : Int)) by omega)]
    by_cases h0 : s.size = 0
    · have e0 : figB s = -1 := by unfold figB; rw [if_neg (fun hc => hc.1.1 (List.length_eq_zero_iff.1 (by omega)))]
      rw [e0]
      simp only [if_pos (show (s.size : Int) = 0 by omega)]
      exact Ev.now _
    · simp only [if_neg (show ¬ (s.size : Int) = 0 by omega)]
      have hne : s.data.toList ≠ [] := fun e => h0 (by rw [← hlen, e]; rfl)
      by_cases h1 : (s.size : Int) > 1
      · have hb := bt_u8 s 0 (by omega)
        have hb0 : bt s 0 = ((s.data.toList[0]'(by omega)).toNat : Int) := hb
        simp only [if_pos h1, if_pos (show 0 < (s.size : Int) by omega), hb0]
        have hh : s.data.toList.head? = some (s.data.toList[0]'(by omega)) := by
          rw [List.head?_eq_getElem?, List.getElem?_eq_getElem]
        by_cases h48 : ((s.data.toList[0]'(by omega)).toNat : Int) = 48
        · have e48 : s.data.toList[0]'(by omega) = 48 := UInt8.toNat_inj.1 (show _ = 48 by omega)
          have e0 : figB s = -1 := by unfold figB; rw [if_neg (fun hc => hc.1.2.2 (by omega) (by rw [hh, e48]))]
          rw [e0]
          simp only [if_pos h48]
          exact Ev.now _
        · have e0 : figB s = ((valD 0 s.data.toList : Nat) : Int) := by unfold figB; rw [if_pos ⟨⟨hne, hd, fun _ he => by rw [hh] at he; exact h48 (by rw [Option.some.inj he]; rfl)⟩, by omega⟩]
          rw [e0]
          simp only [if_neg h48]
          exact Ev.now _
      · have e0 : figB s = ((valD 0 s.data.toList : Nat) : Int) := by unfold figB; rw [if_pos ⟨⟨hne, hd, fun h => by omega⟩, by omega⟩]
        rw [e0]
        simp only [if_neg h1]
        exact Ev.now _
  | succ d ih =>
    intro i hi h9 hd
    have hil : i < s.data.toList.length := by omega
    have hb := bt_u8 s i hil
    refine Ev.step (fun k => spec_l1Figures.l0.eq_2 _ _ _ _) ?_
    simp only [if_pos (show ((i : Int) < (s.size : Int)) by omega), if_pos (show 0 ≤ (i : Int) by omega), hb]
    have hno : ∀ (h : ¬ isD s.data.toList[i]), figB s = -1 := fun h => by unfold figB; rw [if_neg (fun hc => canon_not hil h hc.1)]
    by_cases h1 : ((s.data.toList[i]).toNat : Int) < 48
    · simp only [if_pos h1]
      rw [hno (by unfold isD; omega)]; exact Ev.now _
    · by_cases h2 : ((s.data.toList[i]).toNat : Int) > 57
      · simp only [if_neg h1, if_pos h2]
        rw [hno (by unfold isD; omega)]; exact Ev.now _
      · by_cases h3 : (i : Int) ≥ 9
        · simp only [if_neg h1, if_neg h2, if_pos h3]
          have : figB s = -1 := by unfold figB; rw [if_neg (fun hc => by have := hc.2; omega)]
          rw [this]; exact Ev.now _
        · have hlt := valD_lt (s.data.toList.take i) 0 hd
          have hl1 : (s.data.toList.take i).length = i := by rw [List.length_take]; omega
          rw [hl1] at hlt
          have hp : 10 ^ i ≤ 10 ^ 9 := Nat.pow_le_pow_right (by decide) (by omega)
          have e9 : (10 : Nat) ^ 9 = 1000000000 := by decide
          have hstep := valD_step hil
          have ew : wrap64 (wrap64 (((valD 0 (s.data.toList.take i) : Nat) : Int) * 10) + ((((s.data.toList[i]).toNat : Int) - 48) % 256)) = ((valD 0 (s.data.toList.take (i + 1)) : Nat) : Int) := by
            rw [hstep, wrap_id (x := ((valD 0 (s.data.toList.take i) : Nat) : Int) * 10) (by omega) (by omega), wrap_id (by omega) (by omega)]
            omega
          simp only [if_neg h1, if_neg h2, if_neg h3, ew, wsucc i (by omega)]
          refine ih (i + 1) (by omega) (by omega) (fun c hc => ?_)
          rw [List.take_add_one, List.getElem?_eq_getElem hil] at hc
          rcases List.mem_append.1 hc with h | h
          · exact hd c h
          · have : c = s.data.toList[i] := by simpa using h
            rw [this]; unfold isD; omega

theorem spec_l1Figures_ev (s : ByteArray) (hs : s.size ≤ 1099511627776) : Ev (fun k => spec_l1Figures.f k s) (figB s) := by
  have := l1Figures_l0 s hs s.size 0 (by omega) (by omega) (fun c hc => by simp at hc)
  simpa [spec_l1Figures.f, valD_nil] using this

theorem spec_l3Gaps_ev (l : List Int) (h : setOkB l = true) : Ev (fun k => spec_l3Gaps.f k l) (joinT (gapsL 0 l) sp) := by
  obtain ⟨h1, h2⟩ := rises_of_set h
  simp only [spec_l3Gaps.f]
  have hx := spec_l3Gaps_l0 l h2 l.length 0 (⟨#[]⟩ : ByteArray) 0 (by omega) h1 (by have : (⟨#[]⟩ : ByteArray).size = 0 := rfl; omega)
  rw [if_neg (by omega), List.drop_zero] at hx
  have e : (⟨#[]⟩ : ByteArray) ++ joinT (gapsL 0 l) sp = joinT (gapsL 0 l) sp := ByteArray.empty_append
  rw [e] at hx
  exact hx

theorem spec_SetRead_l0 (s : ByteArray) (L : List ByteArray) (hL : L.length ≤ 1048577) (hx : ∀ x ∈ L, x.size ≤ 1048576) : ∀ (d i : Nat) (last : Int) (acc : List Int), i + d = L.length → 0 ≤ last → last ≤ 1000000000 * i → acc.length ≤ i →
    Ev (fun k => spec_SetRead.l0 k s acc L last (i : Int)) (setRes s (match numsF last (L.drop i) with | some l => some (acc ++ l) | none => none)) := by
  intro d
  induction d with
  | zero =>
    intro i last acc hi h0 h1 ha
    refine Ev.step (fun k => spec_SetRead.l0.eq_2 _ _ _ _ _ _) ?_
    simp only [if_neg (show ¬ ((i : Int) < (L.length : Int)) by omega)]
    rw [List.drop_eq_nil_of_le (by omega)]
    show Ev _ (setRes s (some (acc ++ [])))
    rw [List.append_nil]
    refine Ev.bind (spec_SetOk_ev acc (by omega)) ?_
    simp only [setRes]
    cases hf : setOkB acc with
    | false => exact Ev.now _
    | true =>
      simp only [if_true]
      refine Ev.bind (spec_l3Gaps_ev acc hf) ?_
      simp only [toList_inj]
      by_cases hp : joinT (gapsL 0 acc) sp = s
      · simp only [if_pos hp]; exact Ev.now _
      · simp only [if_neg hp]; exact Ev.now _
  | succ d ih =>
    intro i last acc hi h0 h1 ha
    have hxi := hx L[i] (List.getElem_mem _)
    refine Ev.step (fun k => spec_SetRead.l0.eq_2 _ _ _ _ _ _) ?_
    simp only [if_pos (show ((i : Int) < (L.length : Int)) by omega), if_pos (show 0 ≤ (i : Int) by omega), rdOf_get _ L i (by omega)]
    rw [drop_get L i (by omega), numsF]
    refine Ev.bind (spec_l1Figures_ev L[i] (by omega)) ?_
    rcases figB_cases L[i] with hf | ⟨u, hu, hf, _⟩
    · rw [if_pos hf]
      simp only [if_pos (show figB L[i] < 0 by omega), setRes]
      exact Ev.now _
    · rw [if_neg (show ¬ figB L[i] = -1 by omega), setRes_app]
      simp only [if_neg (show ¬ figB L[i] < 0 by omega), if_pos (show acc.length < 17592186044416 by omega), wrap_id (x := last + figB L[i]) (by omega) (by omega), wsucc i (by omega)]
      exact ih (i + 1) (last + figB L[i]) (acc ++ [last + figB L[i]]) (by omega) (by omega) (by omega) (by simp; omega)

theorem cutT_length (c : UInt8) (n : Nat) (s : ByteArray) : (cutT c n s).length ≤ s.size + 1 ∧ (cutT c n s).length ≤ n + 1 ∧ 1 ≤ (cutT c n s).length := by
  unfold cutT
  have := cutW_length c s.data.toList n []
  rw [List.length_map]; rw [data_size] at this; omega

theorem cutT_size {c : UInt8} {n : Nat} {s p : ByteArray} (h : p ∈ cutT c n s) : p.size ≤ s.size := by
  obtain ⟨x, hx, rfl⟩ := List.mem_map.1 h
  have := cutW_size c _ _ _ x hx
  rw [data_size] at this
  rw [mkT_size]; simpa using this

theorem spec_SetRead_ev (s : ByteArray) (hs : s.size ≤ 1048576) : Ev (fun k => spec_SetRead.f k s) (setReadB s) := by
  simp only [spec_SetRead.f, setReadB, Option.bind_some, toList_nil_iff]
  by_cases h : s = ⟨#[]⟩
  · simp only [if_pos h]; exact Ev.now _
  · simp only [if_neg h]
    refine Ev.bind (spec_l1Cut_ev 32 16 s (by omega)) ?_
    have hlen := cutT_length 32 16 s
    have hx := spec_SetRead_l0 s (cutT 32 16 s) (by omega) (fun x hx => by have := cutT_size hx; omega) (cutT 32 16 s).length 0 0 [] (by omega) (by omega) (by omega) (by simp)
    rw [setRead_same s h]
    rw [List.drop_zero] at hx
    have e : (match numsF 0 (cutT 32 16 s) with | some l => some (([] : List Int) ++ l) | none => none) = numsF 0 (cutT 32 16 s) := by
      cases numsF 0 (cutT 32 16 s) with
      | none => rfl
      | some l => rfl
    rw [e] at hx
    exact hx

theorem FnSetGaps : laws_FnSetGaps.PureX := by
  intro l0 l1 hw0 hw1
  refine Ev.rounds (g := fun k => laws_FnSetGaps.f k l0 l1) ?_
  have hj : Ev (fun k => laws_FnSetGaps.j0 k l0 l1 true) true := by
    refine Ev.step (fun k => laws_FnSetGaps.j0.eq_2 _ _ _ _) ?_
    simp only [if_true]; exact Ev.now _
  simp only [laws_FnSetGaps.f]
  by_cases hg : (l0.length : Int) > 1048576
  · simp only [if_pos hg]; exact hj
  simp only [if_neg hg]
  by_cases hg1 : (l1.length : Int) > 1048576
  · simp only [decide_eq_true hg1]; exact hj
  simp only [decide_eq_false hg1]
  refine Ev.step (fun k => laws_FnSetGaps.j0.eq_2 _ _ _ _) ?_
  simp only [if_neg (show ¬ (false = true) by decide)]
  obtain ⟨a, h1, ha⟩ := DrawSetGaps_ev l0 hw0.2
  have hz := gapsB_size a
  have hj1 : Ev (fun k => laws_FnSetGaps.j1 k l1 false) true := by
    refine Ev.step (fun k => laws_FnSetGaps.j1.eq_2 _ _ _) ?_
    simp only [if_neg (show ¬ (false = true) by decide)]
    obtain ⟨t, ht, htz⟩ := DrawSetRead_ev l1 hw1.2
    have hc := setReadB_len t
    refine Ev.bind ht ?_
    refine Ev.bind (impl_SetRead_ev t (by omega)) ?_
    refine Ev.bind (spec_SetRead_ev t (by omega)) ?_
    simp only [beq_self_eq_true, if_true]
    refine Ev.bind (sdInts_ev _ _ (by omega)) ?_
    simp only [decide_true, if_true]
    rcases setReadB_form t with h | ⟨h2, h3, h4⟩
    · rw [h]; simp only [if_neg (show ¬ (false = true) by decide)]; exact Ev.now _
    · simp only [h2, if_true]
      refine Ev.bind (impl_SetGaps_ev _ (by omega)) ?_
      simp only [gapsB, if_pos h3, h4, beq_self_eq_true]
      exact Ev.now _
  refine Ev.bind h1 ?_
  refine Ev.bind (impl_SetGaps_ev a (by omega)) ?_
  refine Ev.bind (impl_SetRead_ev _ (by omega)) ?_
  refine Ev.bind (spec_SetGaps_ev a (by omega)) ?_
  simp only [if_true]
  refine Ev.bind (impl_SetOk_ev a (by omega)) ?_
  cases oa : setOkB a with
  | false => simp only [if_neg (show ¬ (false = true) by decide)]; exact hj1
  | true =>
    simp only [if_true, setRead_gaps oa]
    refine Ev.bind (sdInts_ev _ _ (by omega)) ?_
    simp only [decide_true, Bool.not_true]
    exact hj1

end Go.Proofs.YtelcdhjdlgedeaaDoor.Pure
