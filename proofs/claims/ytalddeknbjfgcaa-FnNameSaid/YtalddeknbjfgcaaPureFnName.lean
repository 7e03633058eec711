/- The plain law of FnName: whatever the input, the printed function of this law answers true after enough rounds; conditions: only the sizes and kinds that the law's Pure states. -/
import Derived.Test.YtalddeknbjfgcaaPFnNamex3
import Derived.Test.YtalddeknbjfgcaaWSized
namespace Go.Proofs.Ytalddeknbjfgcaa.PrintWords
abbrev sized_ints := @Go.Proofs.YtalddeknbjfgcaaW.PrintWords.sized_ints
end Go.Proofs.Ytalddeknbjfgcaa.PrintWords
namespace Go.Proofs.Ytalddeknbjfgcaa.Pure
open Go.RowKit Go.Proofs.Ytalddeknbjfgcaa.PFnName Go.Proofs.YtalddeknbjfgcaaW.PrintWords Go.Proofs.YtalddeknbjfgcaaW.PrintLast
set_option linter.unusedVariables false
set_option linter.unusedSimpArgs false

def nameList : List ByteArray := [(⟨#[97]⟩ : ByteArray), (⟨#[116, 105, 116, 108, 101]⟩ : ByteArray), (⟨#[120, 57]⟩ : ByteArray), (⟨#[]⟩ : ByteArray), (⟨#[57, 120]⟩ : ByteArray), (⟨#[84, 105, 116, 108, 101]⟩ : ByteArray), (⟨#[110, 105, 110, 101, 108, 101, 116, 116, 101]⟩ : ByteArray), (⟨#[97, 32, 98]⟩ : ByteArray)]

/-- What a code reads as: at most 2000 bytes. -/
def CodeOk (s : List Int) : Prop := s.length ≤ 2000 ∧ ∀ c ∈ s, 0 ≤ c ∧ c ≤ 255

theorem l1Open_eq (s : List Int) (hb : ∀ c ∈ s, 0 ≤ c ∧ c ≤ 255) : ∃ s', spec_l1Open.f s = some (s', 0) ∧ CodeOk s' := by
  unfold spec_l1Open.f
  by_cases h : (s.length : Int) > 2000
  · rw [if_pos h, if_pos (by omega)]
    exact ⟨_, rfl, by rw [List.length_take]; omega, fun c hc => hb c (List.mem_of_mem_take hc)⟩
  · rw [if_neg h]
    exact ⟨_, rfl, by omega, hb⟩

theorem rdOf_get {α : Type} (d : α) (l : List α) (j : Nat) (h : j < l.length) : rdOf d l (j : Int) = l[j] := by
  unfold rdOf; simp [List.getD_eq_getElem?_getD, List.getElem?_eq_getElem h]

theorem wrap_id {x : Int} (h0 : -9223372036854775808 ≤ x) (h1 : x ≤ 9223372036854775807) : wrap64 x = x := by unfold wrap64; omega

theorem CodeOk.byte {s : List Int} (h : CodeOk s) (i : Int) : 0 ≤ rd s i ∧ rd s i ≤ 255 := by
  unfold rd
  rw [List.getD_eq_getElem?_getD]
  rcases Nat.lt_or_ge i.toNat s.length with hi | hi
  · rw [List.getElem?_eq_getElem hi]; exact h.2 _ (List.getElem_mem _)
  · rw [List.getElem?_eq_none hi]; simp

theorem tdiv_nn {a b : Int} (ha : 0 ≤ a) (hb : 0 < b) : 0 ≤ Int.tdiv a b ∧ Int.tdiv a b ≤ a := by
  rw [Int.tdiv_eq_ediv_of_nonneg ha]
  exact ⟨Int.ediv_nonneg ha (by omega), Int.ediv_le_self _ ha⟩

theorem tmod_nn {a b : Int} (ha : 0 ≤ a) (hb : 0 < b) : 0 ≤ Int.tmod a b ∧ Int.tmod a b < b := by
  rw [Int.tmod_eq_emod_of_nonneg ha]
  exact ⟨Int.emod_nonneg _ (by omega), Int.emod_lt_of_pos _ hb⟩

theorem xor_i64 (a b : Nat) (ha : a < 2 ^ 62) (hb : b < 2 ^ 62) : ∃ m : Nat, Go.bits .xor .i64 (a : Int) (b : Int) = (m : Int) ∧ m < 2 ^ 62 := by
  have ha' : a % 2 ^ IntKind.i64.bits = a := Nat.mod_eq_of_lt (Nat.lt_of_lt_of_le ha (by decide))
  have hb' : b % 2 ^ IntKind.i64.bits = b := Nat.mod_eq_of_lt (Nat.lt_of_lt_of_le hb (by decide))
  have hx := Nat.xor_lt_two_pow ha hb
  refine ⟨a ^^^ b, ?_, hx⟩
  simp only [Go.bits, BitVec.ofInt_natCast, BitVec.toNat_xor, BitVec.toNat_ofNat, ha', hb']
  rw [IntKind.wrap_i64]
  have : ((a ^^^ b : Nat) : Int) < 4611686018427387904 := by have := hx; omega
  omega

theorem pick_ev (s : List Int) (hs : CodeOk s) (p n : Int) (hp : 0 ≤ p) (hp1 : p ≤ 1000000) (hn : 1 ≤ n) (hn1 : n ≤ 1000000) :
    ∃ r, Ev (fun k => spec_l1Rd_pick.f k s p n) (r, p + 1) ∧ 0 ≤ r ∧ r < n := by
  simp only [spec_l1Rd_pick.f, if_neg (show ¬ n < 1 by omega), wrap_id (x := p + 1) (by omega) (by omega)]
  by_cases h0 : s.length = 0
  · refine ⟨0, Ev.step (fun k => spec_l1Rd_pick.j0.eq_2 _ _ _ _ _) ?_, by omega, by omega⟩
    simp only [show ((s.length : Int) == 0) = true by simp [h0], if_true]
    exact Ev.now _
  · have hl : 0 < (s.length : Int) := by omega
    have hb : ((s.length : Int) == 0) = false := by simp; intro h; exact h0 (by rw [h]; rfl)
    have e1 : wrap64 (p + 1 - 1) = p := by rw [wrap_id (by omega) (by omega)]; omega
    by_cases hlt : p < (s.length : Int)
    · have hc := hs.byte p
      refine ⟨Int.tmod (rd s p) n, Ev.step (fun k => spec_l1Rd_pick.j0.eq_2 _ _ _ _ _) ?_, (tmod_nn hc.1 (by omega)).1, (tmod_nn hc.1 (by omega)).2⟩
      simp only [hb, if_neg (show ¬ (false = true) by decide), e1, if_pos hlt, if_pos hp, if_neg (show ¬ n = 0 by omega), wrap_id (x := rd s p) (by omega) (by omega)]
      exact Ev.now _
    · have m1 := tmod_nn hp hl
      have e2 : wrap64 (wrap64 (p * 7) + 3) = p * 7 + 3 := by rw [wrap_id (x := p * 7) (by omega) (by omega), wrap_id (by omega) (by omega)]
      have m2 := tmod_nn (show 0 ≤ p * 7 + 3 by omega) hl
      have d1 := tdiv_nn hp hl
      obtain ⟨A, hA⟩ : ∃ A, rd s (Int.tmod p (s.length : Int)) = A := ⟨_, rfl⟩
      obtain ⟨B, hB⟩ : ∃ B, rd s (Int.tmod (p * 7 + 3) (s.length : Int)) = B := ⟨_, rfl⟩
      obtain ⟨C, hC⟩ : ∃ C, Int.tdiv p (s.length : Int) = C := ⟨_, rfl⟩
      have a1 := hs.byte (Int.tmod p (s.length : Int)); rw [hA] at a1
      have b1 := hs.byte (Int.tmod (p * 7 + 3) (s.length : Int)); rw [hB] at b1
      rw [hC] at d1
      have v1 : wrap64 (wrap64 (wrap64 (wrap64 (wrap64 A * 131) + wrap64 (wrap64 B * 1117)) + wrap64 (p * 29)) + wrap64 (wrap64 C * 53)) = A * 131 + B * 1117 + p * 29 + C * 53 := by
        rw [wrap_id (x := A) (by omega) (by omega), wrap_id (x := B) (by omega) (by omega), wrap_id (x := C) (by omega) (by omega), wrap_id (x := A * 131) (by omega) (by omega), wrap_id (x := B * 1117) (by omega) (by omega), wrap_id (x := p * 29) (by omega) (by omega), wrap_id (x := C * 53) (by omega) (by omega), wrap_id (x := A * 131 + B * 1117) (by omega) (by omega), wrap_id (x := A * 131 + B * 1117 + p * 29) (by omega) (by omega), wrap_id (by omega) (by omega)]
      obtain ⟨V, hV⟩ : ∃ V : Nat, A * 131 + B * 1117 + p * 29 + C * 53 = (V : Int) := ⟨(A * 131 + B * 1117 + p * 29 + C * 53).toNat, by omega⟩
      have hVb : V < 2 ^ 62 := by have : (2 : Nat) ^ 62 = 4611686018427387904 := by decide
                                  omega
      have hd := tdiv_nn (show 0 ≤ (V : Int) by omega) (show (0 : Int) < 64 by omega)
      obtain ⟨Q, hQ⟩ : ∃ Q : Nat, Int.tdiv (V : Int) 64 = (Q : Int) := ⟨(Int.tdiv (V : Int) 64).toNat, by omega⟩
      have hQb : Q < 2 ^ 62 := by omega
      obtain ⟨m, hm, hmb⟩ := xor_i64 V Q hVb hQb
      have e3 : wrap64 (Int.tdiv (V : Int) 64) = (Q : Int) := by
        have : (2 : Nat) ^ 62 = 4611686018427387904 := by decide
        rw [hQ, wrap_id (by omega) (by omega)]
      have mm := tmod_nn (show 0 ≤ (m : Int) by omega) (show 0 < n by omega)
      refine ⟨Int.tmod (m : Int) n, Ev.step (fun k => spec_l1Rd_pick.j0.eq_2 _ _ _ _ _) ?_, mm.1, mm.2⟩
      simp only [hb, if_neg (show ¬ (false = true) by decide), e1, if_neg hlt, if_neg (show ¬ (s.length : Int) = 0 by omega), if_pos m1.1, if_pos m1.2, e2, if_pos m2.1, if_pos m2.2, if_neg (show ¬ n = 0 by omega), hA, hB, hC, v1, hV, e3, hm]
      exact Ev.now _

theorem of_ev (s : List Int) (hs : CodeOk s) (p : Int) (l : List ByteArray) (hp : 0 ≤ p) (hp1 : p ≤ 1000000) (hl : 1 ≤ l.length) (hl1 : l.length ≤ 1000000) :
    ∃ r, Ev (fun k => spec_l1Rd_of.f k s p l) (r, p + 1) ∧ r ∈ l := by
  obtain ⟨i, hi, h0, h1⟩ := pick_ev s hs p (l.length : Int) hp hp1 (by omega) (by omega)
  obtain ⟨j, rfl⟩ : ∃ j : Nat, i = (j : Int) := ⟨i.toNat, by omega⟩
  refine ⟨l[j]'(by omega), ?_, List.getElem_mem _⟩
  simp only [spec_l1Rd_of.f]
  refine Ev.bind hi ?_
  simp only [if_pos h0, if_pos h1, rdOf_get _ l j (by omega)]
  exact Ev.now _

theorem u8_range {l : List Int} (h : ∀ x ∈ l, (Lit.int .u8 x).wf = true) : ∀ c ∈ l, 0 ≤ c ∧ c ≤ 255 := by
  intro c hc
  have := h c hc
  simp [Lit.wf, IntKind.min, IntKind.max, IntKind.bits, IntKind.signed] at this
  omega

theorem DrawNameOk_ev (l : List Int) (h : ∀ x ∈ l, (Lit.int .u8 x).wf = true) : ∃ s, Ev (fun k => spec_DrawNameOk.f k l) s ∧ s.size ≤ 9 := by
  obtain ⟨s', h1, hs⟩ := l1Open_eq l (u8_range h)
  simp only [spec_DrawNameOk.f, h1, Option.bind_some]
  obtain ⟨r, hr, hm⟩ := of_ev s' hs 0 nameList (by omega) (by omega) (by decide) (by decide)
  have hz : ∀ x ∈ nameList, x.size ≤ 9 := by decide
  exact ⟨r, Ev.bind hr (Ev.now _), hz r hm⟩

def digP (c : Int) : Prop := 48 ≤ c ∧ c ≤ 57
instance (c : Int) : Decidable (digP c) := by unfold digP; infer_instance

def lowP (c : Int) : Prop := 97 ≤ c ∧ c ≤ 122
instance (c : Int) : Decidable (lowP c) := by unfold lowP; infer_instance

def nameFrom (l : List Int) (j : Nat) : Prop := (∀ (i : Nat) (h : i < l.length), j ≤ i → lowP l[i] ∨ (0 < i ∧ digP l[i])) ∧ 1 ≤ l.length ∧ l.length ≤ 8

open Classical in
noncomputable def nameB (l : List Int) : Bool := decide (nameFrom l 0)

open Classical in
theorem nameB_iff {l : List Int} : nameB l = true ↔ nameFrom l 0 := by unfold nameB; exact decide_eq_true_iff

def foldB (s : ByteArray) : ByteArray := strOfNums ((bytesOf s).map foldC)

theorem impl_Fold_eq (s : ByteArray) (hn : s.size < 70368744177664) : impl_Fold.f s = some (foldB s) := by
  unfold impl_Fold.f
  rw [if_pos (by omega)]; rfl

theorem nameFrom_end {l : List Int} {j : Nat} (hj : l.length ≤ j) : nameFrom l j ↔ 1 ≤ l.length ∧ l.length ≤ 8 := ⟨fun h => h.2, fun h => ⟨fun i hi hji => by omega, h⟩⟩

theorem nameFrom_step {l : List Int} {j : Nat} (hj : j < l.length) : nameFrom l j ↔ (lowP l[j] ∨ (0 < j ∧ digP l[j])) ∧ nameFrom l (j + 1) := by
  constructor
  · rintro ⟨h, h2⟩
    exact ⟨h j hj (Nat.le_refl _), fun i hi hji => h i hi (by omega), h2⟩
  · rintro ⟨h, h1, h2⟩
    refine ⟨fun i hi hji => ?_, h2⟩
    rcases Nat.lt_or_ge j i with hlt | hge
    · exact h1 i hi hlt
    · obtain rfl : i = j := by omega
      exact h

theorem rd_get (l : List Int) (j : Nat) (h : j < l.length) : rd l (j : Int) = l[j] := by
  unfold rd; simp [List.getD_eq_getElem?_getD, List.getElem?_eq_getElem h]

theorem bt_get (s : ByteArray) (j : Nat) (h : j < (bytesOf s).length) : bt s (j : Int) = (bytesOf s)[j] := by
  rw [← rd_bytesOf, rd_get _ _ h]

theorem ev_eq {α : Type} {g : Nat → Option α} {r : α} (h : ∀ k, g k = some r) : Ev g r := ⟨0, fun k _ => h k⟩

theorem ev_prop {g : Nat → Option Bool} {p q : Prop} [Decidable p] [Decidable q] (h : p ↔ q) (k : Ev g (decide p)) : Ev g (decide q) := by
  have : decide p = decide q := decide_eq_decide.2 h
  rw [← this]; exact k

theorem wsucc (j : Nat) (h : j < 9223372036854775807) : wrap64 ((j : Int) + 1) = ((j + 1 : Nat) : Int) := by rw [wrap_id (by omega) (by omega)]; omega

theorem impl_digit_eq (a : Int) : impl_digit.f a = some (decide (digP a)) := by
  unfold impl_digit.f digP
  by_cases h : a ≥ 48
  · rw [if_pos h]; congr 1; exact decide_eq_decide.2 (by omega)
  · rw [if_neg h]; congr 1; symm; exact decide_eq_false (by omega)

theorem impl_lower_eq (a : Int) : impl_lower.f a = some (decide (lowP a)) := by
  unfold impl_lower.f lowP
  by_cases h : a ≥ 97
  · rw [if_pos h]; congr 1; exact decide_eq_decide.2 (by omega)
  · rw [if_neg h]; congr 1; symm; exact decide_eq_false (by omega)

theorem impl_within_eq (a b c : Int) : impl_within.f a b c = some (decide (b ≤ a ∧ a ≤ c)) := by
  unfold impl_within.f
  by_cases h : a ≥ b
  · rw [if_pos h]; congr 1; exact decide_eq_decide.2 ⟨fun h2 => ⟨h, h2⟩, fun h2 => h2.2⟩
  · rw [if_neg h]; congr 1; symm; exact decide_eq_false (fun h2 => h h2.1)

open Classical in
theorem impl_NameOk_l0 (s : ByteArray) (hn : s.size < 4611686018427387904) : ∀ (d i : Nat), i + d = s.size → Ev (fun k => impl_NameOk.l0 k s (s.size : Int) (i : Int)) (decide (nameFrom (bytesOf s) i)) := by
  have hb := bytesOf_length s
  intro d
  induction d with
  | zero =>
    intro i hi
    refine Ev.step (fun k => impl_NameOk.l0.eq_2 _ _ _ _) ?_
    simp only [if_neg (show ¬ ((i : Int) < (s.size : Int)) by omega), impl_within_eq, Option.bind_some]
    refine ev_prop (nameFrom_end (by omega)).symm ?_
    refine ev_eq fun _ => ?_
    congr 1; exact decide_eq_decide.2 (by omega)
  | succ d ih =>
    intro i hi
    have hs := nameFrom_step (l := bytesOf s) (j := i) (by omega)
    refine Ev.step (fun k => impl_NameOk.l0.eq_2 _ _ _ _) ?_
    simp only [if_pos (show ((i : Int) < (s.size : Int)) by omega), if_pos (show 0 ≤ (i : Int) by omega), wsucc i (by omega), bt_get s i (by omega), impl_lower_eq, impl_digit_eq, Option.bind_some, decide_eq_true_eq]
    by_cases h1 : lowP (bytesOf s)[i]
    · simp only [if_pos h1]
      exact ev_prop (hs.trans ⟨fun h => h.2, fun h => ⟨.inl h1, h⟩⟩).symm (ih (i + 1) (by omega))
    · simp only [if_neg h1]
      by_cases h0 : (i : Int) = 0
      · simp only [if_pos h0]
        have : decide (nameFrom (bytesOf s) i) = false := decide_eq_false (fun h => by rcases (hs.1 h).1 with h2 | h2; exact h1 h2; omega)
        rw [this]; exact Ev.now _
      · simp only [if_neg h0]
        by_cases h2 : digP (bytesOf s)[i]
        · simp only [if_pos h2]
          exact ev_prop (hs.trans ⟨fun h => h.2, fun h => ⟨.inr ⟨by omega, h2⟩, h⟩⟩).symm (ih (i + 1) (by omega))
        · simp only [if_neg h2]
          have : decide (nameFrom (bytesOf s) i) = false := decide_eq_false (fun h => by rcases (hs.1 h).1 with h3 | h3; exact h1 h3; exact h2 h3.2)
          rw [this]; exact Ev.now _

theorem impl_NameOk_ev (s : ByteArray) (hn : s.size < 4611686018427387904) : Ev (fun k => impl_NameOk.f k s) (nameB (bytesOf s)) := impl_NameOk_l0 s hn s.size 0 (by omega)

def upP (c : Int) : Prop := 65 ≤ c ∧ c ≤ 90
instance (c : Int) : Decidable (upP c) := by unfold upP; infer_instance

def wordP (c : Int) : Prop := upP c ∨ lowP c ∨ digP c
instance (c : Int) : Decidable (wordP c) := by unfold wordP; infer_instance

/-- Where the words of a row of bytes stand: from position p on; st: where the open word began. -/
def wordsAt : Nat → Option Nat → List Int → List (Nat × Nat)
  | _, none, [] => []
  | p, some st, [] => [(st, p)]
  | p, none, c :: cs => if wordP c then wordsAt (p + 1) (some p) cs else wordsAt (p + 1) none cs
  | p, some st, c :: cs => if wordP c then wordsAt (p + 1) (some st) cs else (st, p) :: wordsAt (p + 1) none cs

def mkWord (s : ByteArray) (q : Nat × Nat) : S35 := ⟨s.extract q.1 q.2, (q.1 : Int), (q.2 : Int)⟩

def wordsOf (s : ByteArray) : List S35 := (wordsAt 0 none (bytesOf s)).map (mkWord s)

theorem drop_get {α : Type} (l : List α) (j : Nat) (h : j < l.length) : l.drop j = l[j] :: l.drop (j + 1) := List.drop_eq_getElem_cons h

theorem toNat_cast (i : Nat) : ((i : Int)).toNat = i := by simp

theorem impl_upper_eq (a : Int) : impl_upper.f a = some (decide (upP a)) := by
  unfold impl_upper.f upP
  by_cases h : a ≥ 65
  · rw [if_pos h]; congr 1; exact decide_eq_decide.2 (by omega)
  · rw [if_neg h]; congr 1; symm; exact decide_eq_false (by omega)

theorem impl_wordByte_eq (c : Int) : impl_wordByte.f c = some (decide (wordP c)) := by
  simp only [impl_wordByte.f, impl_upper_eq, impl_lower_eq, impl_digit_eq, Option.bind_some, decide_eq_true_eq]
  by_cases h1 : upP c
  · rw [if_pos h1, decide_eq_true (show wordP c from .inl h1)]
  · rw [if_neg h1]
    by_cases h2 : lowP c
    · rw [if_pos h2, decide_eq_true (show wordP c from .inr (.inl h2))]
    · rw [if_neg h2]; congr 1; exact decide_eq_decide.2 ⟨fun h => .inr (.inr h), fun h => (h.resolve_left h1).resolve_left h2⟩

theorem impl_Words_l (s : ByteArray) (hn : s.size < 1099511627776) : ∀ (d : Nat),
    (∀ (i : Nat) (acc : List S35), i + d = s.size → acc.length ≤ i → Ev (fun k => impl_Words.l0 k s acc (i : Int)) (acc ++ (wordsAt i none ((bytesOf s).drop i)).map (mkWord s))) ∧
    (∀ (i j : Nat) (acc : List S35), i + d = s.size → j < i → acc.length ≤ i → Ev (fun k => impl_Words.l1 k s acc (i : Int) (j : Int)) (acc ++ (wordsAt i (some j) ((bytesOf s).drop i)).map (mkWord s))) := by
  have hb := bytesOf_length s
  intro d
  induction d with
  | zero =>
    have h0 : ∀ (i : Nat) (acc : List S35), s.size ≤ i → Ev (fun k => impl_Words.l0 k s acc (i : Int)) acc := by
      intro i acc hi
      refine Ev.step (fun k => impl_Words.l0.eq_2 _ _ _ _) ?_
      simp only [if_neg (show ¬ ((i : Int) < (s.size : Int)) by omega)]
      exact Ev.now _
    constructor
    · intro i acc hi hacc
      rw [List.drop_of_length_le (by omega)]
      simpa [wordsAt] using h0 i acc (by omega)
    · intro i j acc hi hj hacc
      rw [List.drop_of_length_le (by omega)]
      refine Ev.step (fun k => impl_Words.l1.eq_2 _ _ _ _ _) ?_
      simp only [if_neg (show ¬ ((i : Int) < (s.size : Int)) by omega), if_pos (show (i : Int) > (j : Int) by omega), if_pos (show 0 ≤ (j : Int) by omega), if_pos (show (j : Int) ≤ (i : Int) by omega), if_pos (show (i : Int) ≤ (s.size : Int) by omega), if_pos (show acc.length < 4398046511104 by omega), wsucc i (by omega), toNat_cast]
      exact h0 (i + 1) _ (by omega)
  | succ d ih =>
    have h1 : ∀ (i j : Nat) (acc : List S35), i + (d + 1) = s.size → j ≤ i → acc.length ≤ i → Ev (fun k => impl_Words.l1 k s acc (i : Int) (j : Int)) (acc ++ (wordsAt i (if j < i then some j else none) ((bytesOf s).drop i)).map (mkWord s)) := by
      intro i j acc hi hj hacc
      refine Ev.step (fun k => impl_Words.l1.eq_2 _ _ _ _ _) ?_
      simp only [if_pos (show ((i : Int) < (s.size : Int)) by omega), if_pos (show 0 ≤ (i : Int) by omega), bt_get s i (by omega), impl_wordByte_eq, Option.bind_some, decide_eq_true_eq, wsucc i (by omega)]
      rw [drop_get (bytesOf s) i (by omega)]
      by_cases hw : wordP (bytesOf s)[i]
      · simp only [if_pos hw]
        have := ih.2 (i + 1) j acc (by omega) (by omega) (by omega)
        by_cases hji : j < i
        · simpa only [if_pos hji, wordsAt, if_pos hw] using this
        · obtain rfl : j = i := by omega
          simpa only [if_neg hji, wordsAt, if_pos hw] using this
      · simp only [if_neg hw]
        by_cases hji : j < i
        · simp only [if_pos hji, if_pos (show (i : Int) > (j : Int) by omega), if_pos (show 0 ≤ (j : Int) by omega), if_pos (show (j : Int) ≤ (i : Int) by omega), if_pos (show (i : Int) ≤ (s.size : Int) by omega), if_pos (show acc.length < 4398046511104 by omega), toNat_cast, wordsAt, if_neg hw]
          have := ih.1 (i + 1) (acc ++ [mkWord s (j, i)]) (by omega) (by simp; omega)
          rw [List.append_assoc] at this
          exact this
        · simp only [if_neg hji, if_neg (show ¬ (i : Int) > (j : Int) by omega), wordsAt, if_neg hw]
          exact ih.1 (i + 1) acc (by omega) (by omega)
    constructor
    · intro i acc hi hacc
      refine Ev.step (fun k => impl_Words.l0.eq_2 _ _ _ _) ?_
      simp only [if_pos (show ((i : Int) < (s.size : Int)) by omega)]
      have := h1 i i acc hi (Nat.le_refl _) hacc
      simpa only [if_neg (Nat.lt_irrefl i)] using this
    · intro i j acc hi hj hacc
      have := h1 i j acc hi (by omega) hacc
      simpa only [if_pos hj] using this

theorem impl_Words_ev (s : ByteArray) (hn : s.size < 1099511627776) : Ev (fun k => impl_Words.f k s) (wordsOf s) := by
  have := (impl_Words_l s hn s.size).1 0 [] (by omega) (by simp)
  rw [List.nil_append, List.drop_zero] at this
  exact this

theorem low_wordP {c : Int} (h : lowP c ∨ digP c) : wordP c := by
  rcases h with h | h
  · exact .inr (.inl h)
  · exact .inr (.inr h)

theorem bytesOf_append (a b : ByteArray) : bytesOf (a ++ b) = bytesOf a ++ bytesOf b := by
  unfold bytesOf
  rw [ByteArray.data_append, Array.toList_append, List.map_append]

theorem name_word {l : List Int} (h : nameFrom l 0) : ∀ c ∈ l, lowP c ∨ digP c := by
  intro c hc
  obtain ⟨i, hi, rfl⟩ := List.mem_iff_getElem.1 hc
  rcases h.1 i hi (Nat.zero_le _) with h1 | h1
  · exact .inl h1
  · exact .inr h1.2

theorem name_blank (s : ByteArray) : nameB (bytesOf (s ++ (⟨#[32]⟩ : ByteArray))) = false := by
  rw [Bool.eq_false_iff]
  intro h
  have h1 := name_word (nameB_iff.1 h) 32 (by rw [bytesOf_append]; exact List.mem_append_right _ (by decide))
  unfold lowP digP at h1; omega

theorem bytesOf_range (s : ByteArray) : ∀ c ∈ bytesOf s, 0 ≤ c ∧ c ≤ 255 := by
  intro c hc
  obtain ⟨b, _, rfl⟩ := List.mem_map.1 hc
  have := b.toNat_lt
  omega

theorem bytesOf_strOfNums (l : List Int) (h : ∀ c ∈ l, 0 ≤ c ∧ c ≤ 255) : bytesOf (strOfNums l) = l := by
  unfold bytesOf
  rw [strOfNums_data, List.map_map]
  conv => rhs; rw [← List.map_id l]
  apply List.map_congr_left
  intro c hc
  have := h c hc
  simp only [Function.comp, id]
  rw [UInt8.toNat_ofNat']
  omega

theorem foldC_range (c : Int) (h : 0 ≤ c ∧ c ≤ 255) : 0 ≤ foldC c ∧ foldC c ≤ 255 := by
  unfold foldC; split <;> omega

theorem bytesOf_foldB (s : ByteArray) : bytesOf (foldB s) = (bytesOf s).map foldC := by
  unfold foldB
  apply bytesOf_strOfNums
  intro c hc
  obtain ⟨b, hb, rfl⟩ := List.mem_map.1 hc
  exact foldC_range b (bytesOf_range s b hb)

theorem bytesOf_inj {a b : ByteArray} (h : bytesOf a = bytesOf b) : a = b := by
  have h1 : a.data.toList = b.data.toList := by
    have hl : a.data.toList.length = b.data.toList.length := by
      have := congrArg List.length h
      simpa [bytesOf] using this
    apply List.ext_getElem hl
    intro i h1 h2
    have h3 : (bytesOf a)[i]? = (bytesOf b)[i]? := by rw [h]
    simp only [bytesOf, List.getElem?_map, List.getElem?_eq_getElem h1, List.getElem?_eq_getElem h2, Option.map_some, Option.some.injEq] at h3
    exact UInt8.toNat_inj.1 (by omega)
  exact ByteArray.ext (Array.toList_inj.1 h1)

theorem low_fold {c : Int} (h : lowP c ∨ digP c) : foldC c = c := by
  unfold foldC; rw [if_neg]; intro h2; unfold lowP digP at h; omega

theorem name_fold {s : ByteArray} (h : nameFrom (bytesOf s) 0) : foldB s = s := by
  apply bytesOf_inj
  rw [bytesOf_foldB]
  conv => rhs; rw [← List.map_id (bytesOf s)]
  exact List.map_congr_left (fun c hc => low_fold (name_word h c hc))

theorem name_nine (s : ByteArray) : nameB (bytesOf ((⟨#[57]⟩ : ByteArray) ++ s)) = false := by
  rw [Bool.eq_false_iff]
  intro h
  have h1 := nameB_iff.1 h
  rw [bytesOf_append] at h1
  have h2 := h1.1 0 (by simp [bytesOf]) (Nat.le_refl _)
  rcases h2 with h2 | h2
  · have e : (bytesOf (⟨#[57]⟩ : ByteArray) ++ bytesOf s)[0]'(by simp [bytesOf]) = 57 := rfl
    rw [e] at h2; unfold lowP at h2; omega
  · exact absurd h2.1 (by omega)

theorem spec_l1In_eq (a b c : Int) : spec_l1In.f a b c = some (decide (b ≤ a ∧ a ≤ c)) := by
  unfold spec_l1In.f
  by_cases h : a ≥ b
  · rw [if_pos h]; congr 1; exact decide_eq_decide.2 ⟨fun h2 => ⟨h, h2⟩, fun h2 => h2.2⟩
  · rw [if_neg h]; congr 1; symm; exact decide_eq_false (fun h2 => h h2.1)

open Classical in
theorem spec_NameOk_l0 (s : ByteArray) (hn : s.size < 4611686018427387904) : ∀ (d i : Nat), i + d = s.size → Ev (fun k => spec_NameOk.l0 k s (i : Int)) (decide (nameFrom (bytesOf s) i)) := by
  have hb := bytesOf_length s
  intro d
  induction d with
  | zero =>
    intro i hi
    refine Ev.step (fun k => spec_NameOk.l0.eq_2 _ _ _) ?_
    simp only [if_neg (show ¬ ((i : Int) < (s.size : Int)) by omega), spec_l1In_eq, Option.bind_some]
    refine ev_prop (nameFrom_end (by omega)).symm ?_
    refine ev_eq fun _ => ?_
    congr 1; exact decide_eq_decide.2 (by omega)
  | succ d ih =>
    intro i hi
    have hs := nameFrom_step (l := bytesOf s) (j := i) (by omega)
    refine Ev.step (fun k => spec_NameOk.l0.eq_2 _ _ _) ?_
    simp only [if_pos (show ((i : Int) < (s.size : Int)) by omega), if_pos (show 0 ≤ (i : Int) by omega), wsucc i (by omega), bt_get s i (by omega)]
    by_cases h1 : lowP (bytesOf s)[i]
    · simp only [if_pos (show (bytesOf s)[i] ≥ 97 from h1.1), if_pos h1.2]
      exact ev_prop (hs.trans ⟨fun h => h.2, fun h => ⟨.inl h1, h⟩⟩).symm (ih (i + 1) (by omega))
    · have key : Ev (fun k => if (i : Int) = 0 then some false else if (bytesOf s)[i] < 48 then some false else if (bytesOf s)[i] > 57 then some false else spec_NameOk.l0 k s ((i + 1 : Nat) : Int)) (decide (nameFrom (bytesOf s) i)) := by
        by_cases h0 : (i : Int) = 0
        · simp only [if_pos h0]
          have : decide (nameFrom (bytesOf s) i) = false := decide_eq_false (fun h => by rcases (hs.1 h).1 with h2 | h2; exact h1 h2; omega)
          rw [this]; exact Ev.now _
        · simp only [if_neg h0]
          by_cases h2 : digP (bytesOf s)[i]
          · simp only [if_neg (show ¬ (bytesOf s)[i] < 48 by have := h2.1; omega), if_neg (show ¬ (bytesOf s)[i] > 57 by have := h2.2; omega)]
            exact ev_prop (hs.trans ⟨fun h => h.2, fun h => ⟨.inr ⟨by omega, h2⟩, h⟩⟩).symm (ih (i + 1) (by omega))
          · have : decide (nameFrom (bytesOf s) i) = false := decide_eq_false (fun h => by rcases (hs.1 h).1 with h3 | h3; exact h1 h3; exact h2 h3.2)
            rw [this]
            by_cases h3 : (bytesOf s)[i] < 48
            · simp only [if_pos h3]; exact Ev.now _
            · simp only [if_neg h3, if_pos (show (bytesOf s)[i] > 57 by unfold digP at h2; omega)]; exact Ev.now _
      by_cases h3 : (bytesOf s)[i] ≥ 97
      · simp only [if_pos h3, if_neg (show ¬ (bytesOf s)[i] ≤ 122 by unfold lowP at h1; omega)]; exact key
      · simp only [if_neg h3]; exact key

theorem spec_NameOk_ev (s : ByteArray) (hn : s.size < 4611686018427387904) : Ev (fun k => spec_NameOk.f k s) (nameB (bytesOf s)) := spec_NameOk_l0 s hn s.size 0 (by omega)

theorem extract_all (s : ByteArray) : s.extract 0 s.size = s := by
  apply ByteArray.ext
  rw [ByteArray.data_extract]
  show s.data.extract 0 s.data.size = s.data
  simp

theorem wordsAt_all : ∀ (l : List Int) (p st : Nat), (∀ c ∈ l, wordP c) → wordsAt p (some st) l = [(st, p + l.length)]
  | [], p, st, _ => rfl
  | c :: cs, p, st, h => by
    simp only [wordsAt, if_pos (h c (List.mem_cons_self ..))]
    rw [wordsAt_all cs (p + 1) st (fun x hx => h x (List.mem_cons_of_mem _ hx))]
    simp; omega

theorem wordsAt_whole (l : List Int) (hl : l ≠ []) (h : ∀ c ∈ l, wordP c) : wordsAt 0 none l = [(0, l.length)] := by
  cases l with
  | nil => exact absurd rfl hl
  | cons c cs =>
    simp only [wordsAt, if_pos (h c (List.mem_cons_self ..))]
    rw [wordsAt_all cs 1 0 (fun x hx => h x (List.mem_cons_of_mem _ hx))]
    simp; omega

theorem wordsOf_whole (s : ByteArray) (hl : s.size ≠ 0) (h : ∀ c ∈ bytesOf s, wordP c) : wordsOf s = [(⟨s, 0, (s.size : Int)⟩ : S35)] := by
  unfold wordsOf
  rw [wordsAt_whole (bytesOf s) (by intro e; apply hl; rw [← bytesOf_length, e]; rfl) h, bytesOf_length]
  show [mkWord s (0, s.size)] = _
  unfold mkWord
  rw [extract_all]; rfl

theorem FnName : laws_FnName.Pure := by
  intro l hm hl hw
  refine Ev.rounds (g := fun k => laws_FnName.f k l) ?_
  simp only [laws_FnName.f]
  by_cases hg : (l.length : Int) > 1048576
  · simp only [if_pos hg]; exact Ev.now _
  simp only [if_neg hg]
  obtain ⟨s, h1, hs⟩ := DrawNameOk_ev l hw
  refine Ev.bind h1 ?_
  refine Ev.bind (impl_NameOk_ev s (by omega)) ?_
  refine Ev.bind (spec_NameOk_ev s (by omega)) ?_
  simp only [bne_self_eq_false, if_neg (show ¬ (false = true) by decide)]
  refine Ev.step (fun k => laws_FnName.j0.eq_2 _ _ _ _) ?_
  cases hn : nameB (bytesOf s) with
  | false =>
    simp only [Bool.not_false, if_true]
    refine Ev.bind (spec_NameOk_ev s (by omega)) ?_
    rw [hn]; exact Ev.now _
  | true =>
    have hN := nameB_iff.1 hn
    have hsz : s.size ≠ 0 := by have := hN.2.1; rw [bytesOf_length] at this; omega
    simp only [Bool.not_true, if_neg (show ¬ (false = true) by decide)]
    refine Ev.bind (impl_Words_ev s (by omega)) ?_
    rw [wordsOf_whole s hsz (fun c hc => low_wordP (name_word hN c hc))]
    have e9 : (⟨#[57]⟩ : ByteArray).size = 1 := rfl
    have e32 : (⟨#[32]⟩ : ByteArray).size = 1 := rfl
    simp only [List.length_singleton, if_pos (show ((1 : Nat) : Int) = 1 by omega), if_pos (show (0 : Int) < ((1 : Nat) : Int) by omega)]
    have hrd : (rd_T35 [(⟨s, 0, (s.size : Int)⟩ : S35)] 0).f0 = s := rfl
    simp only [hrd, if_true, impl_Fold_eq s (by omega), Option.bind_some, name_fold hN, if_pos (show 1 + s.size ≤ 9223372036854775807 by omega)]
    refine Ev.bind (impl_NameOk_ev _ (by rw [ByteArray.size_append, e9]; omega)) ?_
    rw [name_nine]
    simp only [if_neg (show ¬ (false = true) by decide), if_pos (show s.size + 1 ≤ 9223372036854775807 by omega)]
    refine Ev.bind (impl_NameOk_ev _ (by rw [ByteArray.size_append, e32]; omega)) ?_
    rw [name_blank]
    exact Ev.now _

end Go.Proofs.Ytalddeknbjfgcaa.Pure
