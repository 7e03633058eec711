/- The plain law of FnExactSetGaps: whatever the input, the printed function of this law answers true after enough rounds; conditions: only the sizes and kinds that the law's Pure states. -/
import Derived.Test.YtglcgkbecfmegaaDoorSFnExactSetGaps
namespace Go.Proofs.YtglcgkbecfmegaaDoor.Pure
open Go.RowKit Go.Proofs.YtglcgkbecfmegaaDoor.PFnExactSetGaps Go.Proofs.YtglcgkbecfmegaaDoorW.PrintWords Go.Proofs.YtglcgkbecfmegaaDoorW.PrintLast Go.Proofs.YtglcgkbecfmegaaDoorW.PrintMore
set_option linter.unusedVariables false
set_option linter.unusedSimpArgs false

def decN (u : Nat) : ByteArray := ⟨(Lib.decDigits u).toArray⟩

/-- How far the numbers of a row are from each other, as texts. -/
def gapsL : Int → List Int → List ByteArray
  | _, [] => []
  | last, n :: l => decN (n - last).toNat :: gapsL n l

def sp : ByteArray := ⟨#[32]⟩

def okFrom (l : List Int) (j : Nat) : Prop := (∀ (i : Nat) (h : i < l.length), j ≤ i → (0 ≤ l[i] ∧ l[i] ≤ 999999999) ∧ (0 < i → l[i - 1] < l[i])) ∧ l.length ≤ 16

def setOk (l : List Int) : Prop := okFrom l 0

open Classical in
noncomputable def setOkB (l : List Int) : Bool := decide (setOk l)

def joinT (xs : List ByteArray) (sep : ByteArray) : ByteArray := ⟨(Lib.join (xs.map (·.data.toList)) sep.data.toList).toArray⟩

noncomputable def gapsB (l : List Int) : ByteArray := if setOkB l = true then joinT (gapsL 0 l) sp else ⟨#[]⟩

def RisesFrom (last : Int) (l : List Int) : Prop := 0 ≤ last ∧ (∀ x ∈ l, last ≤ x ∧ x ≤ 999999999) ∧ l.Pairwise (· < ·)

theorem RisesFrom.next {last n : Int} {l : List Int} (h : RisesFrom last (n :: l)) : RisesFrom n l := by
  obtain ⟨h0, h1, h2⟩ := h
  have h3 := h1 n (List.mem_cons_self ..)
  have h4 := List.pairwise_cons.1 h2
  exact ⟨by omega, fun x hx => ⟨by have := h4.1 x hx; omega, (h1 x (List.mem_cons_of_mem _ hx)).2⟩, h4.2⟩

theorem rd_get (l : List Int) (j : Nat) (h : j < l.length) : rd l (j : Int) = l[j] := by
  unfold rd; simp [List.getD_eq_getElem?_getD, List.getElem?_eq_getElem h]

theorem wrap_id {x : Int} (h0 : -9223372036854775808 ≤ x) (h1 : x ≤ 9223372036854775807) : wrap64 x = x := by unfold wrap64; omega

theorem wsucc (j : Nat) (h : j < 9223372036854775807) : wrap64 ((j : Int) + 1) = ((j + 1 : Nat) : Int) := by rw [wrap_id (by omega) (by omega)]; omega

theorem Itoa_eq (u : Nat) (hu : u ≤ 9223372036854775807) : strconv_Itoa.f (u : Int) = some (decN u) := by
  unfold strconv_Itoa.f
  rw [if_pos ⟨by omega, by omega⟩]
  unfold Lib.itoa
  rw [if_neg (by omega), Int.toNat_natCast]; rfl

theorem decDigits_length (u : Nat) : (Lib.decDigits u).length = Lib.nDigits u := by rw [Lib.decDigits_eq, List.length_map, List.length_range]

theorem decN_size (u : Nat) : (decN u).size = Lib.nDigits u := by rw [← decDigits_length]; rfl

theorem nDigits_le : ∀ (k u : Nat), u < 10 ^ (k + 1) → Lib.nDigits u ≤ k + 1
  | 0, u, h => by rw [Lib.nDigits_small (by simpa using h)]; exact Nat.le_refl _
  | k + 1, u, h => by
    by_cases h1 : u < 10
    · rw [Lib.nDigits_small h1]; omega
    · rw [Lib.nDigits_big h1]
      have := nDigits_le k (u / 10) (by rw [Nat.pow_succ] at h; omega)
      omega

theorem decN_size_le (u : Nat) (h : u < 10 ^ 19) : (decN u).size ≤ 19 := by rw [decN_size]; exact nDigits_le 18 u h

theorem lens_le (m : Nat) : ∀ (xs : List ByteArray), (∀ x ∈ xs, x.size ≤ m) → Lib.lens (xs.map (·.data.toList)) ≤ m * xs.length
  | [], _ => by simp [Lib.lens]
  | x :: xs, h => by
    have h1 := lens_le m xs (fun y hy => h y (List.mem_cons_of_mem _ hy))
    have h2 := h x (List.mem_cons_self ..)
    have h3 : x.data.toList.length = x.size := rfl
    simp only [Lib.lens, List.map_cons, List.sum_cons, List.length_cons] at h1 ⊢
    rw [Nat.mul_succ]; omega

theorem Join_eq (xs : List ByteArray) (sep : ByteArray) (hl : xs.length ≤ 1000000) (hx : ∀ x ∈ xs, x.size ≤ 1000000) (hs : sep.size ≤ 10) : strings_Join.f xs sep = some (joinT xs sep) := by
  unfold strings_Join.f
  have hb : (Lib.join (xs.map (·.data.toList)) sep.data.toList).length ≤ 140737488355328 := by
    cases xs with
    | nil => simp [Lib.join_nil]
    | cons x xs =>
      rw [List.map_cons, Lib.join_cons, List.length_append, Lib.joinTail_length, List.length_map]
      have h1 := lens_le 1000000 xs (fun y hy => hx y (List.mem_cons_of_mem _ hy))
      have h2 := hx x (List.mem_cons_self ..)
      have h3 : x.data.toList.length = x.size := rfl
      have h4 : sep.data.toList.length = sep.size := rfl
      have h5 : sep.data.toList.length * xs.length ≤ 10 * xs.length := Nat.mul_le_mul_right _ (by omega)
      simp only [List.length_cons] at hl
      omega
  rw [if_pos ⟨by omega, hb⟩]; rfl

theorem impl_SetGaps_l0 (l : List Int) (hn : l.length ≤ 16) : ∀ (d i : Nat) (acc : List ByteArray) (last : Int), i + d = l.length → RisesFrom last (l.drop i) → acc.length ≤ i → (∀ x ∈ acc, x.size ≤ 19) →
    Ev (fun k => impl_SetGaps.l0 k acc last l (l.length : Int) (i : Int)) (joinT (acc ++ gapsL last (l.drop i)) sp) := by
  intro d
  induction d with
  | zero =>
    intro i acc last hi hr ha hs
    refine Ev.step (fun k => impl_SetGaps.l0.eq_2 _ _ _ _ _ _) ?_
    have hj := Join_eq acc sp (by omega) (fun x hx => by have := hs x hx; omega) (by decide)
    simp only [if_neg (show ¬ ((i : Int) < (l.length : Int)) by omega), show strings_Join.f acc (⟨#[32]⟩ : ByteArray) = some (joinT acc sp) from hj, Option.bind_some]
    rw [List.drop_eq_nil_of_le (by omega), gapsL, List.append_nil]; exact Ev.now _
  | succ d ih =>
    intro i acc last hi hr ha hs
    have ed : l.drop i = l[i] :: l.drop (i + 1) := List.drop_eq_getElem_cons (by omega)
    rw [ed] at hr
    have hb := hr.2.1 l[i] (List.mem_cons_self ..)
    have h0 := hr.1
    have hw : wrap64 (l[i] - last) = (((l[i] - last).toNat : Nat) : Int) := by rw [wrap_id (by omega) (by omega)]; omega
    have hz := decN_size_le (l[i] - last).toNat (by omega)
    have hx := ih (i + 1) (acc ++ [decN (l[i] - last).toNat]) l[i] (by omega) hr.next (by simp; omega) (fun x hx => by
      rcases List.mem_append.1 hx with h1 | h1
      · exact hs x h1
      · rw [List.mem_singleton.1 h1]; exact hz)
    refine Ev.step (fun k => impl_SetGaps.l0.eq_2 _ _ _ _ _ _) ?_
    simp only [if_pos (show ((i : Int) < (l.length : Int)) by omega), if_pos (show 0 ≤ (i : Int) by omega), rd_get l i (by omega), hw, Itoa_eq _ (show (l[i] - last).toNat ≤ 9223372036854775807 by omega), Option.bind_some, if_pos (show acc.length < 8796093022208 by omega), wsucc i (by omega)]
    rw [ed, gapsL]
    rw [List.append_assoc] at hx
    exact hx

open Classical in
theorem setOkB_iff {l : List Int} : setOkB l = true ↔ setOk l := by unfold setOkB; exact decide_eq_true_iff

/-- A set: in range, rising, not too many. -/
theorem setOk_iff {l : List Int} : setOkB l = true ↔ (∀ x ∈ l, 0 ≤ x ∧ x ≤ 999999999) ∧ l.Pairwise (· < ·) ∧ l.length ≤ 16 := by
  rw [setOkB_iff]
  unfold setOk okFrom
  constructor
  · rintro ⟨h, h2⟩
    refine ⟨fun x hx => ?_, ?_, h2⟩
    · obtain ⟨i, hi, rfl⟩ := List.mem_iff_getElem.1 hx
      exact (h i hi (Nat.zero_le _)).1
    · have key : ∀ (d i : Nat) (hd : i + d < l.length), 0 < d → l[i]'(by omega) < l[i + d] := by
        intro d
        induction d with
        | zero => intro i hd h0; omega
        | succ d ih =>
          intro i hd _
          have h3 := (h (i + (d + 1)) hd (Nat.zero_le _)).2 (by omega)
          have e : i + (d + 1) - 1 = i + d := by omega
          simp only [e] at h3
          rcases Nat.eq_zero_or_pos d with h4 | h4
          · subst h4; exact h3
          · exact Int.lt_trans (ih i (by omega) h4) h3
      rw [List.pairwise_iff_getElem]
      intro i j hi hj hij
      have := key (j - i) i (by omega) (by omega)
      have e : i + (j - i) = j := by omega
      simp only [e] at this
      exact this
  · rintro ⟨h1, h2, h3⟩
    refine ⟨fun i hi _ => ⟨h1 _ (List.getElem_mem _), fun h0 => ?_⟩, h3⟩
    exact List.pairwise_iff_getElem.1 h2 (i - 1) i (by omega) hi (by omega)

theorem rises_of_set {l : List Int} (h : setOkB l = true) : RisesFrom 0 l ∧ l.length ≤ 16 := by
  have h1 := setOk_iff.1 h
  exact ⟨⟨by omega, fun x hx => ⟨(h1.1 x hx).1, (h1.1 x hx).2⟩, h1.2.1⟩, h1.2.2⟩

theorem okFrom_end {l : List Int} {j : Nat} (hj : l.length ≤ j) : okFrom l j ↔ l.length ≤ 16 := ⟨fun h => h.2, fun h => ⟨fun i hi hji => by omega, h⟩⟩

theorem okFrom_step {l : List Int} {j : Nat} (hj : j < l.length) : okFrom l j ↔ ((0 ≤ l[j] ∧ l[j] ≤ 999999999) ∧ (0 < j → l[j - 1] < l[j])) ∧ okFrom l (j + 1) := by
  constructor
  · rintro ⟨h, h2⟩
    exact ⟨h j hj (Nat.le_refl _), fun i hi hji => h i hi (by omega), h2⟩
  · rintro ⟨h, h1, h2⟩
    refine ⟨fun i hi hji => ?_, h2⟩
    rcases Nat.lt_or_ge j i with hlt | hge
    · exact h1 i hi hlt
    · obtain rfl : i = j := by omega
      exact h

theorem ev_eq {α : Type} {g : Nat → Option α} {r : α} (h : ∀ k, g k = some r) : Ev g r := ⟨0, fun k _ => h k⟩

theorem ev_prop {g : Nat → Option Bool} {p q : Prop} [Decidable p] [Decidable q] (h : p ↔ q) (k : Ev g (decide p)) : Ev g (decide q) := by
  have : decide p = decide q := decide_eq_decide.2 h
  rw [← this]; exact k

theorem wpred (j : Nat) (h : j < 9223372036854775807) : wrap64 (((j + 1 : Nat) : Int) - 1) = (j : Int) := by rw [wrap_id (by omega) (by omega)]; omega

theorem impl_within_eq (a b c : Int) : impl_within.f a b c = some (decide (b ≤ a ∧ a ≤ c)) := by
  unfold impl_within.f
  by_cases h : a ≥ b
  · rw [if_pos h]; congr 1; exact decide_eq_decide.2 ⟨fun h2 => ⟨h, h2⟩, fun h2 => h2.2⟩
  · rw [if_neg h]; congr 1; symm; exact decide_eq_false (fun h2 => h h2.1)

open Classical in
theorem impl_SetOk_l0 (l : List Int) (hn : l.length < 4611686018427387904) : ∀ (d i : Nat), i + d = l.length → Ev (fun k => impl_SetOk.l0 k l l (l.length : Int) (i : Int)) (decide (okFrom l i)) := by
  intro d
  induction d with
  | zero =>
    intro i hi
    refine Ev.step (fun k => impl_SetOk.l0.eq_2 _ _ _ _ _) ?_
    simp only [if_neg (show ¬ ((i : Int) < (l.length : Int)) by omega)]
    refine ev_prop (okFrom_end (by omega)).symm ?_
    refine ev_eq fun _ => ?_
    congr 1; exact decide_eq_decide.2 (by omega)
  | succ d ih =>
    intro i hi
    have hs := okFrom_step (l := l) (j := i) (by omega)
    refine Ev.step (fun k => impl_SetOk.l0.eq_2 _ _ _ _ _) ?_
    simp only [if_pos (show ((i : Int) < (l.length : Int)) by omega), if_pos (show 0 ≤ (i : Int) by omega), wsucc i (by omega), rd_get l i (by omega), impl_within_eq, Option.bind_some, decide_eq_true_eq]
    by_cases h1 : 0 ≤ l[i] ∧ l[i] ≤ 999999999
    · simp only [if_pos h1]
      cases i with
      | zero =>
        simp only [if_neg (show ¬ (((0 : Nat) : Int) > 0) by omega)]
        exact ev_prop (hs.trans ⟨fun h => h.2, fun h => ⟨⟨h1, fun h0 => by omega⟩, h⟩⟩).symm (ih 1 (by omega))
      | succ j =>
        simp only [if_pos (show (((j + 1 : Nat) : Int) > 0) by omega), wpred j (by omega), if_pos (show 0 ≤ (j : Int) by omega), if_pos (show ((j : Int) < (l.length : Int)) by omega), rd_get l j (by omega)]
        by_cases h2 : l[j] ≥ l[j + 1]
        · simp only [if_pos h2]
          have : decide (okFrom l (j + 1)) = false := decide_eq_false (fun h => by have := (hs.1 h).1.2 (by omega); simp at this; omega)
          rw [this]; exact Ev.now _
        · simp only [if_neg h2]
          exact ev_prop (hs.trans ⟨fun h => h.2, fun h => ⟨⟨h1, fun _ => by simp; omega⟩, h⟩⟩).symm (ih (j + 2) (by omega))
    · simp only [if_neg h1]
      have : decide (okFrom l i) = false := decide_eq_false (fun h => h1 (hs.1 h).1.1)
      rw [this]; exact Ev.now _

theorem impl_SetOk_ev (l : List Int) (hn : l.length < 4611686018427387904) : Ev (fun k => impl_SetOk.f k l) (setOkB l) := impl_SetOk_l0 l hn l.length 0 (by omega)

theorem impl_SetGaps_ev (l : List Int) (hn : l.length < 4398046511104) : Ev (fun k => impl_SetGaps.f k l) (gapsB l) := by
  simp only [impl_SetGaps.f, gapsB]
  refine Ev.bind (impl_SetOk_ev l (by omega)) ?_
  cases h : setOkB l with
  | false => exact Ev.now _
  | true =>
    obtain ⟨h1, h2⟩ := rises_of_set h
    simp only [if_true]
    have hx := impl_SetGaps_l0 l h2 l.length 0 [] 0 (by omega) h1 (by simp) (fun x hx => by simp at hx)
    exact hx

theorem mk_append (a b : List UInt8) : (⟨a.toArray⟩ : ByteArray) ++ (⟨b.toArray⟩ : ByteArray) = ⟨(a ++ b).toArray⟩ := by
  apply ByteArray.ext
  rw [ByteArray.data_append]
  simp

theorem bytesOf_inj {a b : ByteArray} (h : bytesOf a = bytesOf b) : a = b := by
  have h1 : a.data.toList = b.data.toList := by
    have hl : a.data.toList.length = b.data.toList.length := by
      have := congrArg List.length h
      simpa [bytesOf] using this
    apply List.ext_getElem hl
    intro i h1 h2
    have h3 : (bytesOf a)[i]? = (bytesOf b)[i]? := by rw [h]
    simp only [bytesOf, List.getElem?_map, List.getElem?_eq_getElem h1, List.getElem?_eq_getElem h2, Option.map_some, Option.some.injEq] at h3
    exact UInt8.toNat_inj.1 (by omega)
  exact ByteArray.ext (Array.toList_inj.1 h1)

theorem bytesOf_strOfNums (l : List Int) (h : ∀ c ∈ l, 0 ≤ c ∧ c ≤ 255) : bytesOf (strOfNums l) = l := by
  unfold bytesOf
  rw [strOfNums_data, List.map_map]
  conv => rhs; rw [← List.map_id l]
  apply List.map_congr_left
  intro c hc
  have := h c hc
  simp only [Function.comp, id]
  rw [UInt8.toNat_ofNat']
  omega

theorem strOf_digit (u : Nat) (h : u < 10) (c : Int) (hc : c = 48 + (u : Int)) : strOfNums [c] = (⟨[UInt8.ofNat (48 + u)].toArray⟩ : ByteArray) := by
  subst hc
  apply bytesOf_inj
  rw [bytesOf_strOfNums _ (by intro c hc; rw [List.mem_singleton] at hc; omega)]
  have : bytesOf (⟨[UInt8.ofNat (48 + u)].toArray⟩ : ByteArray) = [((UInt8.ofNat (48 + u)).toNat : Int)] := rfl
  rw [this]
  have h2 : (UInt8.ofNat (48 + u)).toNat = 48 + u := by
    rw [UInt8.toNat_ofNat']
    exact Nat.mod_eq_of_lt (by omega)
  rw [h2]; rfl

theorem spec_l1Dec_ev (u : Nat) : u ≤ 9223372036854775807 → Ev (fun k => spec_l1Dec.f k (u : Int)) (decN u) := by
  induction u using Nat.strongRecOn with
  | _ u ih =>
    intro hu
    refine Ev.step (fun k => spec_l1Dec.f.eq_2 _ _) ?_
    simp only [if_neg (show ¬ ((u : Int) < (-9223372036854775807)) by omega), if_neg (show ¬ ((u : Int) < 0) by omega)]
    by_cases h : u < 10
    · simp only [if_pos (show (u : Int) < 10 by omega), wrap_id (x := 48 + (u : Int)) (by omega) (by omega)]
      rw [strOf_digit u h _ (by omega)]
      have e : decN u = (⟨[UInt8.ofNat (48 + u)].toArray⟩ : ByteArray) := by unfold decN; rw [Lib.decDigits, dif_pos h]
      rw [e]; exact Ev.now _
    · have e1 : Int.tdiv (u : Int) 10 = ((u / 10 : Nat) : Int) := by rw [Int.tdiv_eq_ediv_of_nonneg (by omega)]; omega
      have e2 : Int.tmod (u : Int) 10 = ((u % 10 : Nat) : Int) := by rw [Int.tmod_eq_emod_of_nonneg (by omega)]; omega
      simp only [if_neg (show ¬ ((u : Int) < 10) by omega), e1, e2, wrap_id (x := ((u / 10 : Nat) : Int)) (by omega) (by omega), wrap_id (x := 48 + ((u % 10 : Nat) : Int)) (by omega) (by omega)]
      refine Ev.bind (ih (u / 10) (by omega) (by omega)) ?_
      have hz := decN_size_le (u / 10) (by omega)
      have es := strOf_digit (u % 10) (by omega) ((48 + ((u % 10 : Nat) : Int)) % 256) (by omega)
      have z1 : (⟨[UInt8.ofNat (48 + u % 10)].toArray⟩ : ByteArray).size = 1 := rfl
      simp only [Option.bind_some, es, z1, if_pos (show (decN (u / 10)).size + 1 ≤ 9223372036854775807 by omega)]
      have e : decN u = decN (u / 10) ++ (⟨[UInt8.ofNat (48 + u % 10)].toArray⟩ : ByteArray) := by
        unfold decN
        rw [mk_append]
        conv => lhs; rw [Lib.decDigits, dif_neg h]
      rw [e]; exact Ev.now _

theorem mk_append2 (a b : List UInt8) : (⟨(a ++ b).toArray⟩ : ByteArray) = (⟨a.toArray⟩ : ByteArray) ++ (⟨b.toArray⟩ : ByteArray) := by
  apply ByteArray.ext
  rw [ByteArray.data_append]
  simp

theorem mk_data (x : ByteArray) : (⟨x.data.toList.toArray⟩ : ByteArray) = x := by cases x; rfl

def tailT (xs : List ByteArray) (sep : ByteArray) : ByteArray := ⟨(Lib.joinTail sep.data.toList (xs.map (·.data.toList))).toArray⟩

theorem joinT_cons (x : ByteArray) (xs : List ByteArray) (sep : ByteArray) : joinT (x :: xs) sep = x ++ tailT xs sep := by
  unfold joinT tailT
  rw [List.map_cons, Lib.join_cons, mk_append2, mk_data]

theorem joinT_nil (sep : ByteArray) : joinT [] sep = ⟨#[]⟩ := rfl

theorem tailT_cons (x : ByteArray) (xs : List ByteArray) (sep : ByteArray) : tailT (x :: xs) sep = (sep ++ x) ++ tailT xs sep := by
  unfold tailT Lib.joinTail
  rw [List.map_cons, List.map_cons, List.flatten_cons, mk_append2, mk_append2, mk_data, mk_data]

theorem tailT_nil (sep : ByteArray) : tailT [] sep = ⟨#[]⟩ := rfl

theorem spec_l3Gaps_l0 (l : List Int) (hn : l.length ≤ 16) : ∀ (d i : Nat) (acc : ByteArray) (last : Int), i + d = l.length → RisesFrom last (l.drop i) → acc.size + 30 * d ≤ 1000 →
    Ev (fun k => spec_l3Gaps.l0 k l acc last (i : Int)) (if 0 < i then acc ++ tailT (gapsL last (l.drop i)) sp else acc ++ joinT (gapsL last (l.drop i)) sp) := by
  intro d
  induction d with
  | zero =>
    intro i acc last hi hr ha
    refine Ev.step (fun k => spec_l3Gaps.l0.eq_2 _ _ _ _ _) ?_
    simp only [if_neg (show ¬ ((i : Int) < (l.length : Int)) by omega)]
    rw [List.drop_eq_nil_of_le (by omega)]
    simp only [gapsL, tailT_nil, joinT_nil]
    have : acc ++ (⟨#[]⟩ : ByteArray) = acc := ByteArray.append_empty
    rw [this, ite_self]; exact Ev.now _
  | succ d ih =>
    intro i acc last hi hr ha
    have ed : l.drop i = l[i] :: l.drop (i + 1) := List.drop_eq_getElem_cons (by omega)
    rw [ed] at hr
    have hb := hr.2.1 l[i] (List.mem_cons_self ..)
    have h0 := hr.1
    have hw : wrap64 (l[i] - last) = (((l[i] - last).toNat : Nat) : Int) := by rw [wrap_id (by omega) (by omega)]; omega
    have hz := decN_size_le (l[i] - last).toNat (by omega)
    have zs : sp.size = 1 := rfl
    have z1 : (acc ++ sp).size = acc.size + 1 := by rw [ByteArray.size_append, zs]
    refine Ev.step (fun k => spec_l3Gaps.l0.eq_2 _ _ _ _ _) ?_
    rw [ed]
    by_cases hp : 0 < i
    · have hx := ih (i + 1) ((acc ++ sp) ++ decN (l[i] - last).toNat) l[i] (by omega) hr.next (by rw [ByteArray.size_append, z1]; omega)
      rw [if_pos (show 0 < i + 1 by omega)] at hx
      simp only [if_pos (show ((i : Int) < (l.length : Int)) by omega), if_pos (show (i : Int) > 0 by omega), if_pos (show acc.size + 1 ≤ 9223372036854775807 by omega), if_pos (show 0 ≤ (i : Int) by omega), rd_get l i (by omega), hw, wsucc i (by omega), if_pos hp, gapsL, tailT_cons]
      refine Ev.bind (spec_l1Dec_ev _ (by omega)) ?_
      have z2 : (acc ++ (⟨#[32]⟩ : ByteArray)).size = acc.size + 1 := z1
      simp only [z2, if_pos (show acc.size + 1 + (decN (l[i] - last).toNat).size ≤ 9223372036854775807 by omega)]
      have e : acc ++ ((sp ++ decN (l[i] - last).toNat) ++ tailT (gapsL l[i] (l.drop (i + 1))) sp) = ((acc ++ sp) ++ decN (l[i] - last).toNat) ++ tailT (gapsL l[i] (l.drop (i + 1))) sp := by
        rw [← ByteArray.append_assoc, ← ByteArray.append_assoc]
      rw [e]; exact hx
    · obtain rfl : i = 0 := by omega
      have hx := ih 1 (acc ++ decN (l[0] - last).toNat) l[0] (by omega) hr.next (by rw [ByteArray.size_append]; omega)
      rw [if_pos (show 0 < 1 by omega)] at hx
      have h0l := rd_get l 0 (by omega)
      rw [show ((0 : Nat) : Int) = 0 from rfl] at h0l
      simp only [if_pos (show (((0 : Nat) : Int) < (l.length : Int)) by omega), if_neg (show ¬ (((0 : Nat) : Int) > 0) by omega), if_pos (show 0 ≤ ((0 : Nat) : Int) by omega), rd_get l 0 (by omega), hw, wsucc 0 (by omega), if_neg hp, gapsL, joinT_cons]
      refine Ev.bind (spec_l1Dec_ev _ (by omega)) ?_
      simp only [if_pos (show acc.size + (decN (l[0] - last).toNat).size ≤ 9223372036854775807 by omega)]
      rw [← ByteArray.append_assoc]; exact hx

theorem spec_l1In_eq (a b c : Int) : spec_l1In.f a b c = some (decide (b ≤ a ∧ a ≤ c)) := by
  unfold spec_l1In.f
  by_cases h : a ≥ b
  · rw [if_pos h]; congr 1; exact decide_eq_decide.2 ⟨fun h2 => ⟨h, h2⟩, fun h2 => h2.2⟩
  · rw [if_neg h]; congr 1; symm; exact decide_eq_false (fun h2 => h h2.1)

open Classical in
theorem spec_SetOk_l0 (l : List Int) (hn : l.length < 4611686018427387904) : ∀ (d i : Nat), i + d = l.length → Ev (fun k => spec_SetOk.l0 k l (i : Int)) (decide (okFrom l i)) := by
  intro d
  induction d with
  | zero =>
    intro i hi
    refine Ev.step (fun k => spec_SetOk.l0.eq_2 _ _ _) ?_
    simp only [if_neg (show ¬ ((i : Int) < (l.length : Int)) by omega)]
    refine ev_prop (okFrom_end (by omega)).symm ?_
    refine ev_eq fun _ => ?_
    congr 1; exact decide_eq_decide.2 (by omega)
  | succ d ih =>
    intro i hi
    have hs := okFrom_step (l := l) (j := i) (by omega)
    refine Ev.step (fun k => spec_SetOk.l0.eq_2 _ _ _) ?_
    simp only [if_pos (show ((i : Int) < (l.length : Int)) by omega), if_pos (show 0 ≤ (i : Int) by omega), wsucc i (by omega), rd_get l i (by omega), spec_l1In_eq, Option.bind_some, decide_eq_true_eq]
    by_cases h1 : 0 ≤ l[i] ∧ l[i] ≤ 999999999
    · simp only [if_pos h1]
      cases i with
      | zero =>
        simp only [if_neg (show ¬ (((0 : Nat) : Int) > 0) by omega)]
        exact ev_prop (hs.trans ⟨fun h => h.2, fun h => ⟨⟨h1, fun h0 => by omega⟩, h⟩⟩).symm (ih 1 (by omega))
      | succ j =>
        simp only [if_pos (show (((j + 1 : Nat) : Int) > 0) by omega), wpred j (by omega), if_pos (show 0 ≤ (j : Int) by omega), if_pos (show ((j : Int) < (l.length : Int)) by omega), rd_get l j (by omega)]
        by_cases h2 : l[j] ≥ l[j + 1]
        · simp only [if_pos h2]
          have : decide (okFrom l (j + 1)) = false := decide_eq_false (fun h => by have := (hs.1 h).1.2 (by omega); simp at this; omega)
          rw [this]; exact Ev.now _
        · simp only [if_neg h2]
          exact ev_prop (hs.trans ⟨fun h => h.2, fun h => ⟨⟨h1, fun _ => by simp; omega⟩, h⟩⟩).symm (ih (j + 2) (by omega))
    · simp only [if_neg h1]
      have : decide (okFrom l i) = false := decide_eq_false (fun h => h1 (hs.1 h).1.1)
      rw [this]; exact Ev.now _

theorem spec_SetOk_ev (l : List Int) (hn : l.length < 4611686018427387904) : Ev (fun k => spec_SetOk.f k l) (setOkB l) := spec_SetOk_l0 l hn l.length 0 (by omega)

theorem spec_SetGaps_ev (l : List Int) (hn : l.length < 4398046511104) : Ev (fun k => spec_SetGaps.f k l) (gapsB l) := by
  simp only [spec_SetGaps.f, gapsB]
  refine Ev.bind (spec_SetOk_ev l (by omega)) ?_
  cases h : setOkB l with
  | false => exact Ev.now _
  | true =>
    obtain ⟨h1, h2⟩ := rises_of_set h
    simp only [if_true, spec_l3Gaps.f]
    have hx := spec_l3Gaps_l0 l h2 l.length 0 (⟨#[]⟩ : ByteArray) 0 (by omega) h1 (by have : (⟨#[]⟩ : ByteArray).size = 0 := rfl; omega)
    rw [if_neg (by omega), List.drop_zero] at hx
    have e : (⟨#[]⟩ : ByteArray) ++ joinT (gapsL 0 l) sp = joinT (gapsL 0 l) sp := ByteArray.empty_append
    rw [e] at hx
    exact Ev.bind hx (Ev.now _)

theorem drop_eq_step {α : Type} {a b : List α} {j : Nat} (ha : j < a.length) (hb : j < b.length) : a.drop j = b.drop j ↔ a[j] = b[j] ∧ a.drop (j + 1) = b.drop (j + 1) := by
  rw [List.drop_eq_getElem_cons ha, List.drop_eq_getElem_cons hb, List.cons.injEq]

theorem ev_false {g : Nat → Option Bool} {p : Prop} [Decidable p] (h : ¬ p) (k : Ev g false) : Ev g (decide p) := by
  rw [decide_eq_false h]; exact k

theorem eqIntS_l0 (a b : List Int) (hn : a.length < 4611686018427387904) (hl : a.length = b.length) : ∀ (d i : Nat), i + d = a.length →
    Ev (fun k => laws_eqIntS.l0 k a b (i : Int)) (decide (a.drop i = b.drop i)) := by
  intro d
  induction d with
  | zero =>
    intro i hi
    refine Ev.step (fun k => laws_eqIntS.l0.eq_2 _ _ _ _) ?_
    simp only [if_neg (show ¬ ((i : Int) < (a.length : Int)) by omega)]
    rw [List.drop_of_length_le (by omega), List.drop_of_length_le (by omega)]
    exact Ev.now _
  | succ d ih =>
    intro i hi
    refine Ev.step (fun k => laws_eqIntS.l0.eq_2 _ _ _ _) ?_
    simp only [if_pos (show ((i : Int) < (a.length : Int)) by omega), if_pos (show 0 ≤ (i : Int) by omega), if_pos (show ((i : Int) < (b.length : Int)) by omega), wsucc i (by omega), rd_get a i (by omega), rd_get b i (by omega)]
    have hs := drop_eq_step (a := a) (b := b) (show i < a.length by omega) (show i < b.length by omega)
    by_cases h : a[i] = b[i]
    · simp only [if_pos h]
      exact ev_prop (hs.trans ⟨fun h1 => h1.2, fun h1 => ⟨h, h1⟩⟩).symm (ih (i + 1) (by omega))
    · simp only [if_neg h]
      exact ev_false (fun h1 => h (hs.1 h1).1) (Ev.now _)

theorem eqIntS_ev (a b : List Int) (hn : a.length < 4611686018427387904) : Ev (fun k => laws_eqIntS.f k a b) (decide (a = b)) := by
  simp only [laws_eqIntS.f]
  by_cases hl : a.length = b.length
  · simp only [if_pos (show (a.length : Int) = (b.length : Int) by omega)]
    exact eqIntS_l0 a b hn hl a.length 0 (by omega)
  · simp only [if_neg (show ¬ (a.length : Int) = (b.length : Int) by omega)]
    have : decide (a = b) = false := by simp; intro h; exact hl (by rw [h])
    rw [this]; exact Ev.now _

theorem toNat_cast (i : Nat) : ((i : Int)).toNat = i := by simp

theorem take_set_succ {α : Type} (l m : List α) (i : Nat) (v : α) (hl : i < l.length) (hm : i < m.length) (hv : m[i] = v) (h : l.take i = m.take i) : (l.set i v).take (i + 1) = m.take (i + 1) := by
  rw [List.take_add_one, List.take_add_one, List.take_set_of_le (Nat.le_refl _), h]
  congr 1
  rw [List.getElem?_set_self hl, List.getElem?_eq_getElem hm, hv]

theorem toIntS_l0 (x0 : List Int) (hn : x0.length < 4611686018427387904) : ∀ (d i : Nat) (x3 : List Int), i + d = x0.length → x3.length = x0.length → x3.take i = x0.take i →
    Ev (fun k => laws_toIntS.l0 k x0 x3 (i : Int)) x0 := by
  intro d
  induction d with
  | zero =>
    intro i x3 hi hl ht
    refine Ev.step (fun k => laws_toIntS.l0.eq_2 _ _ _ _) ?_
    simp only [if_neg (show ¬ ((i : Int) < (x0.length : Int)) by omega)]
    have : x3 = x0 := by rw [List.take_of_length_le (by omega), List.take_of_length_le (by omega)] at ht; exact ht
    rw [this]; exact Ev.now _
  | succ d ih =>
    intro i x3 hi hl ht
    refine Ev.step (fun k => laws_toIntS.l0.eq_2 _ _ _ _) ?_
    simp only [if_pos (show ((i : Int) < (x0.length : Int)) by omega), if_pos (show 0 ≤ (i : Int) by omega), if_pos (show ((i : Int) < (x3.length : Int)) by omega), wsucc i (by omega), toNat_cast, rd_get x0 i (by omega)]
    exact ih (i + 1) _ (by omega) (by simp [hl]) (take_set_succ _ _ _ _ (by omega) (by omega) rfl ht)

theorem toIntS_ev (x0 : List Int) (hn : x0.length ≤ 35184372088832) : Ev (fun k => laws_toIntS.f k x0) x0 := by
  simp only [laws_toIntS.f, if_pos (show 0 ≤ (x0.length : Int) by omega), toNat_cast, if_pos hn]
  exact toIntS_l0 x0 (by omega) x0.length 0 _ (by omega) (by simp) rfl

theorem FnExactSetGaps : laws_FnExactSetGaps.PureX := by
  intro l hl
  refine Ev.rounds (g := fun k => laws_FnExactSetGaps.f k l) ?_
  simp only [laws_FnExactSetGaps.f]
  by_cases hg : (l.length : Int) > 1048576
  · simp only [if_pos hg]; exact Ev.now _
  simp only [if_neg hg]
  refine Ev.bind (toIntS_ev l (by omega)) ?_
  refine Ev.bind (spec_SetGaps_ev l (by omega)) ?_
  refine Ev.bind (toIntS_ev l (by omega)) ?_
  refine Ev.bind (impl_SetGaps_ev l (by omega)) ?_
  simp only [if_true]
  refine Ev.bind (toIntS_ev l (by omega)) ?_
  refine Ev.bind (eqIntS_ev _ _ (by omega)) ?_
  simp only [decide_true, if_true]
  exact Ev.now _

end Go.Proofs.YtglcgkbecfmegaaDoor.Pure
