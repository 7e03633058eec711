/- The plain law of FnDocText: whatever the input, the printed function of this law answers true after enough rounds; conditions: only the sizes and kinds that the law's Pure states. -/
import Derived.Test.YtdijbmcmobheiaaPFnDocTextx5
import Derived.Test.YtdijbmcmobheiaaWSized
namespace Go.Proofs.Ytdijbmcmobheiaa.PrintWords
abbrev sized_ints := @Go.Proofs.YtdijbmcmobheiaaW.PrintWords.sized_ints
end Go.Proofs.Ytdijbmcmobheiaa.PrintWords
namespace Go.Proofs.Ytdijbmcmobheiaa.Pure
open Go.RowKit Go.Proofs.Ytdijbmcmobheiaa.PFnDocText Go.Proofs.YtdijbmcmobheiaaW.PrintWords Go.Proofs.YtdijbmcmobheiaaW.PrintLast Go.Proofs.YtdijbmcmobheiaaW.PrintMore
set_option linter.unusedVariables false
set_option linter.unusedSimpArgs false

/-- The text of the first cell of a name. -/
def docText (name : ByteArray) : List S31 → ByteArray × Bool
  | [] => ((⟨#[]⟩ : ByteArray), false)
  | c :: cs => if c.f0 = name then (c.f1, true) else docText name cs

theorem rdi_Cell (l : List S31) (j : Nat) (h : j < l.length) : rd_T31 l (j : Int) = l[j] := by
  unfold rd_T31; simp [List.getD_eq_getElem?_getD, List.getElem?_eq_getElem h]

theorem drop_get {α : Type} (l : List α) (j : Nat) (h : j < l.length) : l.drop j = l[j] :: l.drop (j + 1) := List.drop_eq_getElem_cons h

theorem wrap_id {x : Int} (h0 : -9223372036854775808 ≤ x) (h1 : x ≤ 9223372036854775807) : wrap64 x = x := by unfold wrap64; omega

theorem wsucc (j : Nat) (h : j < 9223372036854775807) : wrap64 ((j : Int) + 1) = ((j + 1 : Nat) : Int) := by rw [wrap_id (by omega) (by omega)]; omega

theorem toList_data (s : ByteArray) : s.toList = s.data.toList := by
  exact ByteArray.toList_eq s

theorem toList_inj {a b : ByteArray} : a.toList = b.toList ↔ a = b := by
  rw [toList_data, toList_data]
  constructor
  · intro h; exact ByteArray.ext (Array.toList_inj.1 h)
  · rintro rfl; rfl

theorem impl_DocText_l0 (name : ByteArray) (l : List S31) (hn : l.length < 4611686018427387904) : ∀ (d i : Nat), i + d = l.length → Ev (fun k => impl_DocText.l0 k name l (l.length : Int) (i : Int)) (docText name (l.drop i)) := by
  intro d
  induction d with
  | zero =>
    intro i hi
    refine Ev.step (fun k => impl_DocText.l0.eq_2 _ _ _ _ _) ?_
    simp only [if_neg (show ¬ ((i : Int) < (l.length : Int)) by omega)]
    rw [List.drop_of_length_le (by omega)]; exact Ev.now _
  | succ d ih =>
    intro i hi
    refine Ev.step (fun k => impl_DocText.l0.eq_2 _ _ _ _ _) ?_
    simp only [if_pos (show ((i : Int) < (l.length : Int)) by omega), if_pos (show 0 ≤ (i : Int) by omega), wsucc i (by omega), rdi_Cell l i (by omega), toList_inj]
    rw [drop_get l i (by omega)]
    by_cases h : l[i].f0 = name
    · simp only [if_pos h, docText]; exact Ev.now _
    · simp only [if_neg h, docText]; exact ih (i + 1) (by omega)

theorem impl_DocText_ev (name key : ByteArray) (l : List S31) (hn : l.length < 4611686018427387904) : Ev (fun k => impl_DocText.f k key l name) (docText name l) := impl_DocText_l0 name l hn l.length 0 (by omega)

theorem spec_DocText_l0 (name key : ByteArray) (l : List S31) (hn : l.length < 4611686018427387904) : ∀ (d i : Nat), i + d = l.length → Ev (fun k => spec_DocText.l0 k name (i : Int) key l) (docText name (l.drop i)) := by
  intro d
  induction d with
  | zero =>
    intro i hi
    refine Ev.step (fun k => spec_DocText.l0.eq_2 _ _ _ _ _) ?_
    simp only [if_neg (show ¬ ((i : Int) < (l.length : Int)) by omega)]
    rw [List.drop_of_length_le (by omega)]; exact Ev.now _
  | succ d ih =>
    intro i hi
    refine Ev.step (fun k => spec_DocText.l0.eq_2 _ _ _ _ _) ?_
    simp only [if_pos (show ((i : Int) < (l.length : Int)) by omega), if_pos (show 0 ≤ (i : Int) by omega), wsucc i (by omega), rdi_Cell l i (by omega), toList_inj]
    rw [drop_get l i (by omega)]
    by_cases h : l[i].f0 = name
    · simp only [if_pos h, docText]; exact Ev.now _
    · simp only [if_neg h, docText]; exact ih (i + 1) (by omega)

theorem spec_DocText_ev (name key : ByteArray) (l : List S31) (hn : l.length < 4611686018427387904) : Ev (fun k => spec_DocText.f k key l name) (docText name l) := spec_DocText_l0 name key l hn l.length 0 (by omega)

/-- What a code reads as: at most 2000 bytes. -/
def CodeOk (s : List Int) : Prop := s.length ≤ 2000 ∧ ∀ c ∈ s, 0 ≤ c ∧ c ≤ 255

theorem l1Open_eq (s : List Int) (hb : ∀ c ∈ s, 0 ≤ c ∧ c ≤ 255) : ∃ s', spec_l1Open.f s = some (s', 0) ∧ CodeOk s' := by
  unfold spec_l1Open.f
  by_cases h : (s.length : Int) > 2000
  · rw [if_pos h, if_pos (by omega)]
    exact ⟨_, rfl, by rw [List.length_take]; omega, fun c hc => hb c (List.mem_of_mem_take hc)⟩
  · rw [if_neg h]
    exact ⟨_, rfl, by omega, hb⟩

theorem toNat_cast (i : Nat) : ((i : Int)).toNat = i := by simp

theorem CodeOk.byte {s : List Int} (h : CodeOk s) (i : Int) : 0 ≤ rd s i ∧ rd s i ≤ 255 := by
  unfold rd
  rw [List.getD_eq_getElem?_getD]
  rcases Nat.lt_or_ge i.toNat s.length with hi | hi
  · rw [List.getElem?_eq_getElem hi]; exact h.2 _ (List.getElem_mem _)
  · rw [List.getElem?_eq_none hi]; simp

theorem tdiv_nn {a b : Int} (ha : 0 ≤ a) (hb : 0 < b) : 0 ≤ Int.tdiv a b ∧ Int.tdiv a b ≤ a := by
  rw [Int.tdiv_eq_ediv_of_nonneg ha]
  exact ⟨Int.ediv_nonneg ha (by omega), Int.ediv_le_self _ ha⟩

theorem tmod_nn {a b : Int} (ha : 0 ≤ a) (hb : 0 < b) : 0 ≤ Int.tmod a b ∧ Int.tmod a b < b := by
  rw [Int.tmod_eq_emod_of_nonneg ha]
  exact ⟨Int.emod_nonneg _ (by omega), Int.emod_lt_of_pos _ hb⟩

theorem xor_i64 (a b : Nat) (ha : a < 2 ^ 62) (hb : b < 2 ^ 62) : ∃ m : Nat, Go.bits .xor .i64 (a : Int) (b : Int) = (m : Int) ∧ m < 2 ^ 62 := by
  have ha' : a % 2 ^ IntKind.i64.bits = a := Nat.mod_eq_of_lt (Nat.lt_of_lt_of_le ha (by decide))
  have hb' : b % 2 ^ IntKind.i64.bits = b := Nat.mod_eq_of_lt (Nat.lt_of_lt_of_le hb (by decide))
  have hx := Nat.xor_lt_two_pow ha hb
  refine ⟨a ^^^ b, ?_, hx⟩
  simp only [Go.bits, BitVec.ofInt_natCast, BitVec.toNat_xor, BitVec.toNat_ofNat, ha', hb']
  rw [IntKind.wrap_i64]
  have : ((a ^^^ b : Nat) : Int) < 4611686018427387904 := by have := hx; omega
  omega

theorem pick_ev (s : List Int) (hs : CodeOk s) (p n : Int) (hp : 0 ≤ p) (hp1 : p ≤ 1000000) (hn : 1 ≤ n) (hn1 : n ≤ 1000000) :
    ∃ r, Ev (fun k => spec_l1Rd_pick.f k s p n) (r, p + 1) ∧ 0 ≤ r ∧ r < n := by
  simp only [spec_l1Rd_pick.f, if_neg (show ¬ n < 1 by omega), wrap_id (x := p + 1) (by omega) (by omega)]
  by_cases h0 : s.length = 0
  · refine ⟨0, Ev.step (fun k => spec_l1Rd_pick.j0.eq_2 _ _ _ _ _) ?_, by omega, by omega⟩
    simp only [show ((s.length : Int) == 0) = true by simp [h0], if_true]
    exact Ev.now _
  · have hl : 0 < (s.length : Int) := by omega
    have hb : ((s.length : Int) == 0) = false := by simp; intro h; exact h0 (by rw [h]; rfl)
    have e1 : wrap64 (p + 1 - 1) = p := by rw [wrap_id (by omega) (by omega)]; omega
    by_cases hlt : p < (s.length : Int)
    · have hc := hs.byte p
      refine ⟨Int.tmod (rd s p) n, Ev.step (fun k => spec_l1Rd_pick.j0.eq_2 _ _ _ _ _) ?_, (tmod_nn hc.1 (by omega)).1, (tmod_nn hc.1 (by omega)).2⟩
      simp only [hb, if_neg (show ¬ (false = true) by decide), e1, if_pos hlt, if_pos hp, if_neg (show ¬ n = 0 by omega), wrap_id (x := rd s p) (by omega) (by omega)]
      exact Ev.now _
    · have m1 := tmod_nn hp hl
      have e2 : wrap64 (wrap64 (p * 7) + 3) = p * 7 + 3 := by rw [wrap_id (x := p * 7) (by omega) (by omega), wrap_id (by omega) (by omega)]
      have m2 := tmod_nn (show 0 ≤ p * 7 + 3 by omega) hl
      have d1 := tdiv_nn hp hl
      obtain ⟨A, hA⟩ : ∃ A, rd s (Int.tmod p (s.length : Int)) = A := ⟨_, rfl⟩
      obtain ⟨B, hB⟩ : ∃ B, rd s (Int.tmod (p * 7 + 3) (s.length : Int)) = B := ⟨_, rfl⟩
      obtain ⟨C, hC⟩ : ∃ C, Int.tdiv p (s.length : Int) = C := ⟨_, rfl⟩
      have a1 := hs.byte (Int.tmod p (s.length : Int)); rw [hA] at a1
      have b1 := hs.byte (Int.tmod (p * 7 + 3) (s.length : Int)); rw [hB] at b1
      rw [hC] at d1
      have v1 : wrap64 (wrap64 (wrap64 (wrap64 (wrap64 A * 131) + wrap64 (wrap64 B * 1117)) + wrap64 (p * 29)) + wrap64 (wrap64 C * 53)) = A * 131 + B * 1117 + p * 29 + C * 53 := by
        rw [wrap_id (x := A) (by omega) (by omega), wrap_id (x := B) (by omega) (by omega), wrap_id (x := C) (by omega) (by omega), wrap_id (x := A * 131) (by omega) (by omega), wrap_id (x := B * 1117) (by omega) (by omega), wrap_id (x := p * 29) (by omega) (by omega), wrap_id (x := C * 53) (by omega) (by omega), wrap_id (x := A * 131 + B * 1117) (by omega) (by omega), wrap_id (x := A * 131 + B * 1117 + p * 29) (by omega) (by omega), wrap_id (by omega) (by omega)]
      obtain ⟨V, hV⟩ : ∃ V : Nat, A * 131 + B * 1117 + p * 29 + C * 53 = (V : Int) := ⟨(A * 131 + B * 1117 + p * 29 + C * 53).toNat, by omega⟩
      have hVb : V < 2 ^ 62 := by have : (2 : Nat) ^ 62 = 4611686018427387904 := by decide
                                  omega
      have hd := tdiv_nn (show 0 ≤ (V : Int) by omega) (show (0 : Int) < 64 by omega)
      obtain ⟨Q, hQ⟩ : ∃ Q : Nat, Int.tdiv (V : Int) 64 = (Q : Int) := ⟨(Int.tdiv (V : Int) 64).toNat, by omega⟩
      have hQb : Q < 2 ^ 62 := by omega
      obtain ⟨m, hm, hmb⟩ := xor_i64 V Q hVb hQb
      have e3 : wrap64 (Int.tdiv (V : Int) 64) = (Q : Int) := by
        have : (2 : Nat) ^ 62 = 4611686018427387904 := by decide
        rw [hQ, wrap_id (by omega) (by omega)]
      have mm := tmod_nn (show 0 ≤ (m : Int) by omega) (show 0 < n by omega)
      refine ⟨Int.tmod (m : Int) n, Ev.step (fun k => spec_l1Rd_pick.j0.eq_2 _ _ _ _ _) ?_, mm.1, mm.2⟩
      simp only [hb, if_neg (show ¬ (false = true) by decide), e1, if_neg hlt, if_neg (show ¬ (s.length : Int) = 0 by omega), if_pos m1.1, if_pos m1.2, e2, if_pos m2.1, if_pos m2.2, if_neg (show ¬ n = 0 by omega), hA, hB, hC, v1, hV, e3, hm]
      exact Ev.now _

def docKeys : List ByteArray := [(⟨#[97]⟩ : ByteArray), (⟨#[98]⟩ : ByteArray), (⟨#[99]⟩ : ByteArray), (⟨#[100]⟩ : ByteArray), (⟨#[101]⟩ : ByteArray), (⟨#[107, 57]⟩ : ByteArray)]

theorem docKeys_size {x : ByteArray} (h : x ∈ docKeys) : x.size ≤ 300 := by
  have : ∀ x ∈ docKeys, x.size ≤ 300 := by decide
  exact this x h

theorem rdOf_get {α : Type} (d : α) (l : List α) (j : Nat) (h : j < l.length) : rdOf d l (j : Int) = l[j] := by
  unfold rdOf; simp [List.getD_eq_getElem?_getD, List.getElem?_eq_getElem h]

def docNames : List ByteArray := [(⟨#[98, 111, 100, 121]⟩ : ByteArray), (⟨#[99, 111, 108, 111, 114]⟩ : ByteArray), (⟨#[112, 114, 105, 99, 101]⟩ : ByteArray), (⟨#[116, 105, 116, 108, 101]⟩ : ByteArray)]

theorem docNames_size {x : ByteArray} (h : x ∈ docNames) : x.size ≤ 300 := by
  have : ∀ x ∈ docNames, x.size ≤ 300 := by decide
  exact this x h

def docNums : List ByteArray := [(⟨#[48]⟩ : ByteArray), (⟨#[53]⟩ : ByteArray), (⟨#[55]⟩ : ByteArray), (⟨#[45, 51]⟩ : ByteArray), (⟨#[49, 50]⟩ : ByteArray), (⟨#[57, 57, 57, 57, 57, 57, 57, 57, 57]⟩ : ByteArray)]

theorem docNums_size {x : ByteArray} (h : x ∈ docNums) : x.size ≤ 300 := by
  have : ∀ x ∈ docNums, x.size ≤ 300 := by decide
  exact this x h

def docTagT : List ByteArray := [(⟨#[114, 101, 100]⟩ : ByteArray), (⟨#[98, 108, 117, 101]⟩ : ByteArray), (⟨#[114, 101, 100, 44, 98, 108, 117, 101]⟩ : ByteArray), (⟨#[98, 108, 117, 101, 44, 114, 101, 100, 44, 114, 101, 100]⟩ : ByteArray), (⟨#[103, 114, 101, 101, 110]⟩ : ByteArray)]

theorem docTagT_size {x : ByteArray} (h : x ∈ docTagT) : x.size ≤ 300 := by
  have : ∀ x ∈ docTagT, x.size ≤ 300 := by decide
  exact this x h

theorem rdf_Field (l : List S45) (j : Nat) (h : j < l.length) : ∃ f, rd_T45 l (j : Int) = f := ⟨_, rfl⟩

/-- Cells of short texts. -/
def shortCells (l : List S31) : Prop := ∀ c ∈ l, c.f0.size ≤ 300 ∧ c.f1.size ≤ 300

theorem shortCells_snoc {l : List S31} (h : shortCells l) {a b : ByteArray} (ha : a.size ≤ 300) (hb : b.size ≤ 300) : shortCells (l ++ [⟨a, b⟩]) := by
  intro c hc
  rcases List.mem_append.1 hc with h1 | h1
  · exact h c h1
  · rw [List.mem_singleton.1 h1]; exact ⟨ha, hb⟩

theorem of_ev (s : List Int) (hs : CodeOk s) (p : Int) (l : List ByteArray) (hp : 0 ≤ p) (hp1 : p ≤ 1000000) (hl : 1 ≤ l.length) (hl1 : l.length ≤ 1000000) :
    ∃ r, Ev (fun k => spec_l1Rd_of.f k s p l) (r, p + 1) ∧ r ∈ l := by
  obtain ⟨i, hi, h0, h1⟩ := pick_ev s hs p (l.length : Int) hp hp1 (by omega) (by omega)
  obtain ⟨j, rfl⟩ : ∃ j : Nat, i = (j : Int) := ⟨i.toNat, by omega⟩
  refine ⟨l[j]'(by omega), ?_, List.getElem_mem _⟩
  simp only [spec_l1Rd_of.f]
  refine Ev.bind hi ?_
  simp only [if_pos h0, if_pos h1, rdOf_get _ l j (by omega)]
  exact Ev.now _

theorem wpred (j : Nat) (h : j < 9223372036854775807) : wrap64 (((j + 1 : Nat) : Int) - 1) = (j : Int) := by rw [wrap_id (by omega) (by omega)]; omega

def wordList : List ByteArray := [(⟨#[114, 101, 100]⟩ : ByteArray), (⟨#[82, 101, 100]⟩ : ByteArray), (⟨#[97, 112, 112, 108, 101]⟩ : ByteArray), (⟨#[97, 112, 112, 108, 101, 115]⟩ : ByteArray), (⟨#[112, 105, 101]⟩ : ByteArray), (⟨#[116, 104, 101]⟩ : ByteArray), (⟨#[111, 102]⟩ : ByteArray), (⟨#[103, 108, 97, 115, 115]⟩ : ByteArray), (⟨#[98, 117, 115]⟩ : ByteArray), (⟨#[116, 114, 101, 101]⟩ : ByteArray), (⟨#[116, 114, 101, 101, 115]⟩ : ByteArray), (⟨#[55]⟩ : ByteArray), (⟨#[118, 101, 114, 121, 108, 111, 110, 103, 119, 111, 114, 100, 105, 110, 100, 101, 101, 100]⟩ : ByteArray), (⟨#[97]⟩ : ByteArray)]

theorem l11Word_ev (s : List Int) (hs : CodeOk s) (p : Int) (hp : 0 ≤ p) (hp1 : p ≤ 1000000) : ∃ r, Ev (fun k => spec_l11Word.f k s p) (r, p + 1) ∧ r ∈ wordList := by
  obtain ⟨r, hr, hm⟩ := of_ev s hs p wordList hp hp1 (by decide) (by decide)
  exact ⟨r, Ev.bind hr (Ev.now _), hm⟩

theorem word_size {r : ByteArray} (h : r ∈ wordList) : r.size ≤ 18 := by
  have : ∀ x ∈ wordList, x.size ≤ 18 := by decide
  exact this r h

theorem l11Text_l0 (s : List Int) (hs : CodeOk s) : ∀ (n : Nat) (p : Int) (out : ByteArray), 0 ≤ p → p + 2 * n ≤ 900000 → n ≤ 1000 → out.size + 20 * n ≤ 100000 →
    ∃ r q, Ev (fun k => spec_l11Text.l0 k out (n : Int) s p) (r, q) ∧ p ≤ q ∧ q ≤ p + 2 * n ∧ r.size ≤ out.size + 20 * n := by
  intro n
  induction n with
  | zero =>
    intro p out hp hb hn ho
    refine ⟨out, p, Ev.step (fun k => spec_l11Text.l0.eq_2 _ _ _ _ _) ?_, by omega, by omega, by omega⟩
    simp only [if_neg (show ¬ (((0 : Nat) : Int) > 0) by omega)]
    exact Ev.now _
  | succ n ih =>
    intro p out hp hb hn ho
    obtain ⟨w, hw, hwm⟩ := l11Word_ev s hs p hp (by omega)
    have hws := word_size hwm
    obtain ⟨x, hx, hxm⟩ := of_ev s hs (p + 1) (([(⟨#[32]⟩ : ByteArray), (⟨#[44, 32]⟩ : ByteArray), (⟨#[45]⟩ : ByteArray), (⟨#[32]⟩ : ByteArray), (⟨#[46]⟩ : ByteArray)] : List ByteArray)) (by omega) (by omega) (by decide) (by decide)
    have hxs : x.size ≤ 2 := by
      have h : ∀ x ∈ ([(⟨#[32]⟩ : ByteArray), (⟨#[44, 32]⟩ : ByteArray), (⟨#[45]⟩ : ByteArray), (⟨#[32]⟩ : ByteArray), (⟨#[46]⟩ : ByteArray)] : List ByteArray), x.size ≤ 2 := by decide
      exact h x hxm
    obtain ⟨r, q, hr, h1, h2, h3⟩ := ih (p + 1 + 1) ((out ++ w) ++ x) (by omega) (by omega) (by omega) (by simp only [ByteArray.size_append]; omega)
    refine ⟨r, q, Ev.step (fun k => spec_l11Text.l0.eq_2 _ _ _ _ _) ?_, by omega, by omega, by simp only [ByteArray.size_append] at h3; omega⟩
    simp only [if_pos (show (((n + 1 : Nat) : Int) > 0) by omega)]
    refine Ev.bind hw ?_
    simp only [if_pos (show out.size + w.size ≤ 9223372036854775807 by omega)]
    refine Ev.bind hx ?_
    simp only [if_pos (show (out ++ w).size + x.size ≤ 9223372036854775807 by simp only [ByteArray.size_append]; omega), wpred n (by omega)]
    exact hr

theorem l11Text_ev (s : List Int) (hs : CodeOk s) (p : Int) (hp : 0 ≤ p) (hp1 : p ≤ 800000) : ∃ r q, Ev (fun k => spec_l11Text.f k s p) (r, q) ∧ p ≤ q ∧ q ≤ p + 20 ∧ r.size ≤ 200 := by
  obtain ⟨i, hi, h0, h1⟩ := pick_ev s hs p 6 hp (by omega) (by omega) (by omega)
  obtain ⟨j, rfl⟩ : ∃ j : Nat, i = (j : Int) := ⟨i.toNat, by omega⟩
  obtain ⟨r, q, hr, h2, h3, h4⟩ := l11Text_l0 s hs j (p + 1) (⟨#[]⟩ : ByteArray) (by omega) (by omega) (by omega) (by show 0 + 20 * j ≤ 100000; omega)
  have e0 : (⟨#[]⟩ : ByteArray).size = 0 := rfl
  refine ⟨r, q, ?_, by omega, by omega, by omega⟩
  simp only [spec_l11Text.f]
  exact Ev.bind hi hr

theorem rdi_Field (l : List S45) (j : Nat) (h : j < l.length) : rd_T45 l (j : Int) = l[j] := by
  unfold rd_T45; simp [List.getD_eq_getElem?_getD, List.getElem?_eq_getElem h]

theorem spec_l2Field_l0 (l : List S45) (n : ByteArray) (hn : l.length < 4611686018427387904) : ∀ (d i : Nat), i + d = l.length → (∀ m (hm : m < l.length), m < i → l[m].f0 ≠ n) →
    ∃ r, Ev (fun k => spec_l2Field.l0 k l n (i : Int)) r ∧ ((r = -1 ∧ ∀ x ∈ l, x.f0 ≠ n) ∨ ∃ (j : Nat) (hj : j < l.length), r = (j : Int) ∧ l[j].f0 = n ∧ ∀ m (hm : m < j), l[m].f0 ≠ n) := by
  intro d
  induction d with
  | zero =>
    intro i hi hb
    refine ⟨-1, Ev.step (fun k => spec_l2Field.l0.eq_2 _ _ _ _) ?_, .inl ⟨rfl, fun x hx => ?_⟩⟩
    · simp only [if_neg (show ¬ ((i : Int) < (l.length : Int)) by omega)]; exact Ev.now _
    · obtain ⟨m, hm, rfl⟩ := List.mem_iff_getElem.1 hx
      exact hb m hm (by omega)
  | succ d ih =>
    intro i hi hb
    by_cases h : l[i].f0 = n
    · refine ⟨(i : Int), Ev.step (fun k => spec_l2Field.l0.eq_2 _ _ _ _) ?_, .inr ⟨i, by omega, rfl, h, fun m hm => hb m (by omega) hm⟩⟩
      simp only [if_pos (show ((i : Int) < (l.length : Int)) by omega), if_pos (show 0 ≤ (i : Int) by omega), rdi_Field l i (by omega), toList_inj, if_pos h]
      exact Ev.now _
    · obtain ⟨r, hr, hq⟩ := ih (i + 1) (by omega) (fun m hm hlt => by
        rcases Nat.lt_or_ge m i with h1 | h1
        · exact hb m hm h1
        · obtain rfl : m = i := by omega
          exact h)
      refine ⟨r, Ev.step (fun k => spec_l2Field.l0.eq_2 _ _ _ _) ?_, hq⟩
      simp only [if_pos (show ((i : Int) < (l.length : Int)) by omega), if_pos (show 0 ≤ (i : Int) by omega), rdi_Field l i (by omega), toList_inj, if_neg h, wsucc i (by omega)]
      exact hr

theorem spec_l2Field_ev (l : List S45) (n : ByteArray) (hn : l.length < 4611686018427387904) :
    ∃ r, Ev (fun k => spec_l2Field.f k l n) r ∧ ((r = -1 ∧ ∀ x ∈ l, x.f0 ≠ n) ∨ ∃ (j : Nat) (hj : j < l.length), r = (j : Int) ∧ l[j].f0 = n ∧ ∀ m (hm : m < j), l[m].f0 ≠ n) :=
  spec_l2Field_l0 l n hn l.length 0 (by omega) (fun m hm h => absurd h (by omega))

theorem l11Doc_l0 (s : List Int) (hs : CodeOk s) (F : List S45) (hF : F.length ≤ 1000) (key : ByteArray) : ∀ (d i : Nat) (p : Int) (acc : List S31), i + d = docNames.length → 0 ≤ p → p + 40 * d ≤ 700000 → acc.length ≤ i → shortCells acc →
    ∃ r q, Ev (fun k => spec_l11Doc.l0 k F docNames (i : Int) s p key acc) (key, r, q) ∧ p ≤ q ∧ q ≤ p + 40 * d ∧ r.length ≤ acc.length + d ∧ shortCells r := by
  have hlen : docNames.length = 4 := rfl
  intro d
  induction d with
  | zero =>
    intro i p acc hi hp hp1 ha hsh
    refine ⟨acc, p, Ev.step (fun k => spec_l11Doc.l0.eq_2 _ _ _ _ _ _ _ _) ?_, by omega, by omega, by omega, hsh⟩
    simp only [if_neg (show ¬ ((i : Int) < (docNames.length : Int)) by omega)]
    exact Ev.now _
  | succ d ih =>
    intro i p acc hi hp hp1 ha hsh
    have hil : i < docNames.length := by omega
    have hn := docNames_size (List.getElem_mem hil)
    obtain ⟨t, ht, hq⟩ := spec_l2Field_ev F docNames[i] (by omega)
    have skip : ∀ (q : Int) (t : Int), p ≤ q → q ≤ p + 1 → ∃ r q', Ev (fun k => spec_l11Doc.j1 k F docNames (i : Int) t true s q key acc) (key, r, q') ∧ p ≤ q' ∧ q' ≤ p + 40 * (d + 1 : Nat) ∧ r.length ≤ acc.length + (d + 1) ∧ shortCells r := by
      intro q t h1 h2
      obtain ⟨r, q', hr, a1, a2, a3, a4⟩ := ih (i + 1) q acc (by omega) (by omega) (by omega) (by omega) hsh
      refine ⟨r, q', Ev.step (fun k => spec_l11Doc.j1.eq_2 _ _ _ _ _ _ _ _ _ _) ?_, by omega, by omega, by omega, a4⟩
      simp only [if_true, wsucc i (by omega)]
      exact hr
    by_cases ht0 : t < 0
    · obtain ⟨r, q', hr, a1, a2, a3, a4⟩ := skip p t (by omega) (by omega)
      refine ⟨r, q', Ev.step (fun k => spec_l11Doc.l0.eq_2 _ _ _ _ _ _ _ _) ?_, a1, a2, a3, a4⟩
      simp only [if_pos (show ((i : Int) < (docNames.length : Int)) by omega), if_pos (show 0 ≤ (i : Int) by omega), rdOf_get _ docNames i hil]
      refine Ev.bind ht ?_
      simp only [if_pos ht0]
      exact hr
    · obtain ⟨x, hx, x0, x1⟩ := pick_ev s hs p 4 hp (by omega) (by omega) (by omega)
      by_cases hx0 : x = 0
      · obtain ⟨r, q', hr, a1, a2, a3, a4⟩ := skip (p + 1) t (by omega) (by omega)
        refine ⟨r, q', Ev.step (fun k => spec_l11Doc.l0.eq_2 _ _ _ _ _ _ _ _) ?_, a1, a2, a3, a4⟩
        simp only [if_pos (show ((i : Int) < (docNames.length : Int)) by omega), if_pos (show 0 ≤ (i : Int) by omega), rdOf_get _ docNames i hil]
        refine Ev.bind ht ?_
        simp only [if_neg ht0]
        refine Ev.bind hx ?_
        have e : (x == 0) = true := by simpa using hx0
        simp only [e]
        exact hr
      · have ex : (x == 0) = false := by simpa using hx0
        obtain ⟨j, hj, rfl⟩ : ∃ (j : Nat) (hj : j < F.length), t = (j : Int) := by
          rcases hq with ⟨h, _⟩ | ⟨j, hj, h, _⟩
          · omega
          · exact ⟨j, hj, h⟩
        obtain ⟨T, q1, hT, b1, b2, b3⟩ := l11Text_ev s hs (p + 1) (by omega) (by omega)
        obtain ⟨f, hf⟩ := rdf_Field F j hj
        have go : ∃ r q', Ev (fun k => spec_l11Doc.j1 k F docNames (i : Int) (j : Int) false s (p + 1) key acc) (key, r, q') ∧ p ≤ q' ∧ q' ≤ p + 40 * (d + 1 : Nat) ∧ r.length ≤ acc.length + (d + 1) ∧ shortCells r := by
          have st : ∀ k, spec_l11Doc.j1 (k + 1) F docNames (i : Int) (j : Int) false s (p + 1) key acc = _ := fun k => spec_l11Doc.j1.eq_2 _ _ _ _ _ _ _ _ _ _
          by_cases c2 : f.f1 = 2
          · obtain ⟨y, hy, hym⟩ := of_ev s hs q1 docNums (by omega) (by omega) (by decide) (by decide)
            obtain ⟨r, q', hr, a1, a2, a3, a4⟩ := ih (i + 1) (q1 + 1) (acc ++ [⟨docNames[i], y⟩]) (by omega) (by omega) (by omega) (by simp; omega) (shortCells_snoc hsh hn (docNums_size hym))
            refine ⟨r, q', Ev.step (fun k => spec_l11Doc.j1.eq_2 _ _ _ _ _ _ _ _ _ _) ?_, by omega, by omega, by simp at a3; omega, a4⟩
            simp only [if_neg (show ¬ (false = true) by decide), if_pos (show 0 ≤ (i : Int) by omega), if_pos (show ((i : Int) < (docNames.length : Int)) by omega)]
            refine Ev.bind hT ?_
            simp only [if_pos (show 0 ≤ (j : Int) by omega), if_pos (show (j : Int) < (F.length : Int) by omega), hf, if_pos c2]
            refine Ev.bind hy ?_
            simp only [if_pos (show acc.length < 4398046511104 by omega), rdOf_get _ docNames i hil, wsucc i (by omega)]
            exact hr
          · by_cases c3 : f.f1 = 3
            · obtain ⟨y, hy, hym⟩ := of_ev s hs q1 docTagT (by omega) (by omega) (by decide) (by decide)
              obtain ⟨r, q', hr, a1, a2, a3, a4⟩ := ih (i + 1) (q1 + 1) (acc ++ [⟨docNames[i], y⟩]) (by omega) (by omega) (by omega) (by simp; omega) (shortCells_snoc hsh hn (docTagT_size hym))
              refine ⟨r, q', Ev.step (fun k => spec_l11Doc.j1.eq_2 _ _ _ _ _ _ _ _ _ _) ?_, by omega, by omega, by simp at a3; omega, a4⟩
              simp only [if_neg (show ¬ (false = true) by decide), if_pos (show 0 ≤ (i : Int) by omega), if_pos (show ((i : Int) < (docNames.length : Int)) by omega)]
              refine Ev.bind hT ?_
              simp only [if_pos (show 0 ≤ (j : Int) by omega), if_pos (show (j : Int) < (F.length : Int) by omega), hf, if_neg c2, if_pos c3]
              refine Ev.bind hy ?_
              simp only [if_pos (show acc.length < 4398046511104 by omega), rdOf_get _ docNames i hil, wsucc i (by omega)]
              exact hr
            · obtain ⟨r, q', hr, a1, a2, a3, a4⟩ := ih (i + 1) q1 (acc ++ [⟨docNames[i], T⟩]) (by omega) (by omega) (by omega) (by simp; omega) (shortCells_snoc hsh hn (by omega))
              refine ⟨r, q', Ev.step (fun k => spec_l11Doc.j1.eq_2 _ _ _ _ _ _ _ _ _ _) ?_, by omega, by omega, by simp at a3; omega, a4⟩
              simp only [if_neg (show ¬ (false = true) by decide), if_pos (show 0 ≤ (i : Int) by omega), if_pos (show ((i : Int) < (docNames.length : Int)) by omega)]
              refine Ev.bind hT ?_
              simp only [if_pos (show 0 ≤ (j : Int) by omega), if_pos (show (j : Int) < (F.length : Int) by omega), hf, if_neg c2, if_neg c3, if_pos (show acc.length < 4398046511104 by omega), rdOf_get _ docNames i hil, wsucc i (by omega)]
              exact hr
        obtain ⟨r, q', hr, a1, a2, a3, a4⟩ := go
        refine ⟨r, q', Ev.step (fun k => spec_l11Doc.l0.eq_2 _ _ _ _ _ _ _ _) ?_, a1, a2, a3, a4⟩
        simp only [if_pos (show ((i : Int) < (docNames.length : Int)) by omega), if_pos (show 0 ≤ (i : Int) by omega), rdOf_get _ docNames i hil]
        refine Ev.bind ht ?_
        simp only [if_neg ht0]
        refine Ev.bind hx ?_
        simp only [ex]
        exact hr

theorem l11Doc_ev (s : List Int) (hs : CodeOk s) (F : List S45) (hF : F.length ≤ 1000) (p : Int) (hp : 0 ≤ p) (hp1 : p ≤ 600000) :
    ∃ key r q, Ev (fun k => spec_l11Doc.f k s p F) (key, r, q) ∧ p ≤ q ∧ q ≤ p + 200 ∧ key.size ≤ 300 ∧ r.length ≤ 4 ∧ shortCells r := by
  obtain ⟨x, hx, hxm⟩ := of_ev s hs p docKeys hp (by omega) (by decide) (by decide)
  obtain ⟨r, q, hr, a1, a2, a3, a4⟩ := l11Doc_l0 s hs F hF x 4 0 (p + 1) [] (by decide) (by omega) (by omega) (by simp) (fun c hc => by simp at hc)
  refine ⟨x, r, q, ?_, by omega, by omega, docKeys_size hxm, by simpa using a3, a4⟩
  simp only [spec_l11Doc.f]
  exact Ev.bind hx hr

theorem l1Many_l0 : ∀ (d n : Nat) (x out : ByteArray), n < 2 ^ d → d ≤ 20 → x.size * 2 ^ d ≤ 1099511627776 → out.size + x.size * n ≤ 1099511627776 → ∃ r, Ev (fun k => spec_l1Many.l0 k x (n : Int) out) r ∧ r.size = out.size + x.size * n := by
  intro d
  induction d with
  | zero =>
    intro n x out hn hd hx ho
    obtain rfl : n = 0 := by simpa using hn
    refine ⟨out, Ev.step (fun k => spec_l1Many.l0.eq_2 _ _ _ _) ?_, by omega⟩
    simp only [if_neg (show ¬ (((0 : Nat) : Int) > 0) by omega)]
    exact Ev.now _
  | succ d ih =>
    intro n x out hn hd hx ho
    have hp : 2 ^ (d + 1) = 2 * 2 ^ d := by rw [Nat.pow_succ, Nat.mul_comm]
    have hb : n < 1048576 := Nat.lt_of_lt_of_le hn (Nat.pow_le_pow_right (Nat.succ_pos 1) hd)
    rw [hp, ← Nat.mul_assoc, Nat.mul_comm x.size 2] at hx
    rw [hp] at hn
    have hd1 : 0 < 2 ^ d := Nat.pow_pos (by decide)
    have hxs : x.size ≤ 2 * x.size * 2 ^ d := Nat.le_trans (by omega) (Nat.le_mul_of_pos_right _ hd1)
    by_cases h0 : n = 0
    · subst h0
      refine ⟨out, Ev.step (fun k => spec_l1Many.l0.eq_2 _ _ _ _) ?_, by omega⟩
      simp only [if_neg (show ¬ (((0 : Nat) : Int) > 0) by omega)]
      exact Ev.now _
    · have e1 : Int.tmod (n : Int) 2 = ((n % 2 : Nat) : Int) := by rw [Int.tmod_eq_emod_of_nonneg (by omega)]; omega
      have e2 : wrap64 (Int.tdiv (n : Int) 2) = ((n / 2 : Nat) : Int) := by
        rw [Int.tdiv_eq_ediv_of_nonneg (by omega), wrap_id (by omega) (by omega)]; omega
      have hs2 : (x ++ x).size = 2 * x.size := by rw [ByteArray.size_append]; omega
      have hq : n / 2 < 2 ^ d := by omega
      by_cases h1 : n % 2 = 1
      · have hm : x.size * n = 2 * x.size * (n / 2) + x.size := by
          have hn2 : n = 2 * (n / 2) + 1 := by omega
          conv => lhs; rw [hn2]
          rw [Nat.mul_add, Nat.mul_one, ← Nat.mul_assoc, Nat.mul_comm x.size 2]
        obtain ⟨r, hr, hrs⟩ := ih (n / 2) (x ++ x) (out ++ x) hq (by omega) (by rw [hs2]; exact hx) (by rw [hs2, ByteArray.size_append]; omega)
        refine ⟨r, Ev.step (fun k => spec_l1Many.l0.eq_2 _ _ _ _) ?_, ?_⟩
        · simp only [if_pos (show ((n : Int) > 0) by omega), e1, e2, if_pos (show ((n % 2 : Nat) : Int) = 1 by omega), if_pos (show out.size + x.size ≤ 9223372036854775807 by omega), if_pos (show x.size + x.size ≤ 9223372036854775807 by omega)]
          exact hr
        · rw [hs2, ByteArray.size_append] at hrs
          omega
      · have hm : x.size * n = 2 * x.size * (n / 2) := by
          have hn2 : n = 2 * (n / 2) := by omega
          conv => lhs; rw [hn2]
          rw [← Nat.mul_assoc, Nat.mul_comm x.size 2]
        obtain ⟨r, hr, hrs⟩ := ih (n / 2) (x ++ x) out hq (by omega) (by rw [hs2]; exact hx) (by rw [hs2]; omega)
        refine ⟨r, Ev.step (fun k => spec_l1Many.l0.eq_2 _ _ _ _) ?_, ?_⟩
        · simp only [if_pos (show ((n : Int) > 0) by omega), e1, e2, if_neg (show ¬ ((n % 2 : Nat) : Int) = 1 by omega), if_pos (show x.size + x.size ≤ 9223372036854775807 by omega)]
          exact hr
        · rw [hs2] at hrs
          omega

theorem l11AnyText_ev (s : List Int) (hs : CodeOk s) (p : Int) (hp : 0 ≤ p) (hp1 : p ≤ 800000 - 10) : ∃ r q, Ev (fun k => spec_l11AnyText.f k s p) (r, q) ∧ p ≤ q ∧ q ≤ p + 30 ∧ r.size ≤ 300 := by
  obtain ⟨i, hi, h0, h1⟩ := pick_ev s hs p 14 hp (by omega) (by omega) (by omega)
  simp only [spec_l11AnyText.f]
  by_cases c0 : i = 0
  · obtain ⟨j, hj, h2, h3⟩ := pick_ev s hs (p + 1) 2 (by omega) (by omega) (by omega) (by omega)
    obtain ⟨m, hm⟩ : ∃ m : Nat, 60 + j = (m : Int) := ⟨(60 + j).toNat, by omega⟩
    have e1 : (⟨#[120]⟩ : ByteArray).size = 1 := rfl
    obtain ⟨r, hr, hrs⟩ := l1Many_l0 7 m (⟨#[120]⟩ : ByteArray) (⟨#[]⟩ : ByteArray) (by omega) (by decide) (by decide) (by rw [e1]; show 0 + 1 * m ≤ _; omega)
    have e0 : (⟨#[]⟩ : ByteArray).size = 0 := rfl
    rw [e0, e1, Nat.one_mul] at hrs
    refine ⟨r, p + 1 + 1, Ev.bind hi ?_, by omega, by omega, by omega⟩
    simp only [if_pos c0]
    refine Ev.bind hj ?_
    simp only [hm, wrap_id (x := (m : Int)) (by omega) (by omega)]
    exact Ev.bind (show Ev (fun k => spec_l1Many.f k _ _) r from hr) (Ev.now _)
  · by_cases c1 : i = 1
    · obtain ⟨t, q, ht, h2, h3, h4⟩ := l11Text_ev s hs (p + 1) (by omega) (by omega)
      obtain ⟨x, hx, hxm⟩ := of_ev s hs q (([(⟨#[10]⟩ : ByteArray), (⟨#[1]⟩ : ByteArray), (⟨#[127]⟩ : ByteArray)] : List ByteArray)) (by omega) (by omega) (by decide) (by decide)
      have hxs : x.size ≤ 1 := by
        have h : ∀ x ∈ ([(⟨#[10]⟩ : ByteArray), (⟨#[1]⟩ : ByteArray), (⟨#[127]⟩ : ByteArray)] : List ByteArray), x.size ≤ 1 := by decide
        exact h x hxm
      refine ⟨t ++ x, q + 1, Ev.bind hi ?_, by omega, by omega, by rw [ByteArray.size_append]; omega⟩
      simp only [if_neg c0, if_pos c1]
      refine Ev.bind ht ?_
      refine Ev.bind hx ?_
      simp only [if_pos (show t.size + x.size ≤ 9223372036854775807 by omega)]
      exact Ev.now _
    · obtain ⟨t, q, ht, h2, h3, h4⟩ := l11Text_ev s hs (p + 1) (by omega) (by omega)
      refine ⟨t, q, Ev.bind hi ?_, by omega, by omega, by omega⟩
      simp only [if_neg c0, if_neg c1]
      exact Ev.bind ht (Ev.now _)

theorem l11AnyDoc_ev (s : List Int) (hs : CodeOk s) (F : List S45) (hF : F.length ≤ 1000) (p : Int) (hp : 0 ≤ p) (hp1 : p ≤ 500000) :
    ∃ key r q, Ev (fun k => spec_l11AnyDoc.f k s p F) (key, r, q) ∧ p ≤ q ∧ q ≤ p + 300 ∧ key.size ≤ 300 ∧ r.length ≤ 5 ∧ shortCells r := by
  obtain ⟨key, r, q, hd, b1, b2, b3, b4, b5⟩ := l11Doc_ev s hs F hF p hp (by omega)
  obtain ⟨x, hx, x0, x1⟩ := pick_ev s hs q 14 (by omega) (by omega) (by omega) (by omega)
  simp only [spec_l11AnyDoc.f]
  by_cases c0 : x = 0
  · obtain ⟨y, hy, hym⟩ := of_ev s hs (q + 1) (([(⟨#[]⟩ : ByteArray), (⟨#[65]⟩ : ByteArray), (⟨#[110, 105, 110, 101, 108, 101, 116, 116, 101]⟩ : ByteArray)] : List ByteArray)) (by omega) (by omega) (by decide) (by decide)
    have hys : y.size ≤ 300 := by
      have h : ∀ x ∈ (([(⟨#[]⟩ : ByteArray), (⟨#[65]⟩ : ByteArray), (⟨#[110, 105, 110, 101, 108, 101, 116, 116, 101]⟩ : ByteArray)] : List ByteArray)), x.size ≤ 300 := by decide
      exact h y hym
    refine ⟨y, r, q + 1 + 1, Ev.bind hd (Ev.bind hx ?_), by omega, by omega, hys, by omega, b5⟩
    simp only [if_pos c0]
    exact Ev.bind hy (Ev.now _)
  · by_cases c1 : x = 1
    · obtain ⟨y, hy, hym⟩ := of_ev s hs (q + 1) (([(⟨#[122, 122]⟩ : ByteArray), (⟨#[98, 111, 100, 121]⟩ : ByteArray), (⟨#[]⟩ : ByteArray)] : List ByteArray)) (by omega) (by omega) (by decide) (by decide)
      have hys : y.size ≤ 300 := by
        have h : ∀ x ∈ (([(⟨#[122, 122]⟩ : ByteArray), (⟨#[98, 111, 100, 121]⟩ : ByteArray), (⟨#[]⟩ : ByteArray)] : List ByteArray)), x.size ≤ 300 := by decide
        exact h y hym
      obtain ⟨T, q2, hT, t1, t2, t3⟩ := l11AnyText_ev s hs (q + 1 + 1) (by omega) (by omega)
      refine ⟨key, r ++ [⟨y, T⟩], q2, Ev.bind hd (Ev.bind hx ?_), by omega, by omega, b3, by simp; omega, shortCells_snoc b5 hys t3⟩
      simp only [if_neg c0, if_pos c1]
      refine Ev.bind hy (Ev.bind hT ?_)
      simp only [if_pos (show r.length < 4398046511104 by omega)]
      exact Ev.now _
    · by_cases c2 : x = 2
      · by_cases hr0 : (r.length : Int) > 0
        · obtain ⟨z, hz, z0, z1⟩ := pick_ev s hs (q + 1) (r.length : Int) (by omega) (by omega) (by omega) (by omega)
          obtain ⟨m, rfl⟩ : ∃ m : Nat, z = (m : Int) := ⟨z.toNat, by omega⟩
          obtain ⟨y, hy, hym⟩ := of_ev s hs (q + 1 + 1) (([(⟨#[48, 49]⟩ : ByteArray), (⟨#[]⟩ : ByteArray), (⟨#[120, 44]⟩ : ByteArray), (⟨#[45, 48]⟩ : ByteArray), (⟨#[114, 101, 100, 44, 44, 98, 108, 117, 101]⟩ : ByteArray), (⟨#[97, 44, 98, 44, 99, 44, 100, 44, 101]⟩ : ByteArray), (⟨#[119, 111, 114, 100, 115, 32, 104, 101, 114, 101]⟩ : ByteArray)] : List ByteArray)) (by omega) (by omega) (by decide) (by decide)
          have hys : y.size ≤ 300 := by
            have h : ∀ x ∈ (([(⟨#[48, 49]⟩ : ByteArray), (⟨#[]⟩ : ByteArray), (⟨#[120, 44]⟩ : ByteArray), (⟨#[45, 48]⟩ : ByteArray), (⟨#[114, 101, 100, 44, 44, 98, 108, 117, 101]⟩ : ByteArray), (⟨#[97, 44, 98, 44, 99, 44, 100, 44, 101]⟩ : ByteArray), (⟨#[119, 111, 114, 100, 115, 32, 104, 101, 114, 101]⟩ : ByteArray)] : List ByteArray)), x.size ≤ 300 := by decide
            exact h y hym
          have hm : m < r.length := by omega
          refine ⟨key, r.set m ⟨r[m].f0, y⟩, q + 1 + 1 + 1, Ev.bind hd (Ev.bind hx ?_), by omega, by omega, b3, by simp; omega, ?_⟩
          · simp only [if_neg c0, if_neg c1, if_pos c2, if_pos hr0]
            refine Ev.bind hz (Ev.bind hy ?_)
            simp only [if_pos z0, if_pos z1, toNat_cast, rdi_Cell r m hm]
            exact Ev.now _
          · intro c hc
            rcases List.mem_or_eq_of_mem_set hc with h | h
            · exact b5 c h
            · rw [h]; exact ⟨(b5 _ (List.getElem_mem hm)).1, hys⟩
        · refine ⟨key, r, q + 1, Ev.bind hd (Ev.bind hx ?_), by omega, by omega, b3, by omega, b5⟩
          simp only [if_neg c0, if_neg c1, if_pos c2, if_neg hr0]
          exact Ev.now _
      · refine ⟨key, r, q + 1, Ev.bind hd (Ev.bind hx ?_), by omega, by omega, b3, by omega, b5⟩
        simp only [if_neg c0, if_neg c1, if_neg c2]
        exact Ev.now _

theorem u8_range {l : List Int} (h : ∀ x ∈ l, (Lit.int .u8 x).wf = true) : ∀ c ∈ l, 0 ≤ c ∧ c ≤ 255 := by
  intro c hc
  have := h c hc
  simp [Lit.wf, IntKind.min, IntKind.max, IntKind.bits, IntKind.signed] at this
  omega

theorem DrawDocText_ev (l : List Int) (h : ∀ x ∈ l, (Lit.int .u8 x).wf = true) : ∃ key r nm, Ev (fun k => spec_DrawDocText.f k l) (key, r, nm) ∧ r.length ≤ 5 := by
  obtain ⟨s', h1, hs⟩ := l1Open_eq l (u8_range h)
  have hF : ∃ F, spec_l10Fields.f = some F ∧ F.length = 4 := ⟨_, rfl, rfl⟩
  obtain ⟨F, hF, hF4⟩ := hF
  obtain ⟨key, r, q, hd, b1, b2, b3, b4, b5⟩ := l11AnyDoc_ev s' hs F (by omega) 0 (by omega) (by omega)
  obtain ⟨nm, hn, _⟩ := of_ev s' hs q (([(⟨#[116, 105, 116, 108, 101]⟩ : ByteArray), (⟨#[98, 111, 100, 121]⟩ : ByteArray), (⟨#[112, 114, 105, 99, 101]⟩ : ByteArray), (⟨#[99, 111, 108, 111, 114]⟩ : ByteArray), (⟨#[110, 111, 110, 101]⟩ : ByteArray)] : List ByteArray)) (by omega) (by omega) (by decide) (by decide)
  refine ⟨key, r, nm, ?_, b4⟩
  have hnm : Ev (fun k => spec_l11Name.f k s' q) (nm, q + 1) := by
    simp only [spec_l11Name.f]
    exact Ev.bind hn (Ev.now _)
  simp only [spec_DrawDocText.f, h1, hF, Option.bind_some]
  exact Ev.bind hd (Ev.bind hnm (Ev.now _))

theorem docText_has {n : ByteArray} : ∀ {l : List S31}, (docText n l).2 = true ↔ ∃ c ∈ l, c.f0 = n
  | [] => by simp [docText]
  | c :: l => by
    unfold docText
    by_cases h : c.f0 = n
    · rw [if_pos h]; exact ⟨fun _ => ⟨c, by simp, h⟩, fun _ => rfl⟩
    · rw [if_neg h, docText_has (l := l)]
      constructor
      · rintro ⟨x, hx, e⟩; exact ⟨x, List.mem_cons_of_mem _ hx, e⟩
      · rintro ⟨x, hx, e⟩
        rcases List.mem_cons.1 hx with rfl | hx
        · exact absurd e h
        · exact ⟨x, hx, e⟩

theorem FnDocText_l0 (nm key : ByteArray) (r : List S31) (has : Bool) (hr : r.length ≤ 1000) : ∀ (d i : Nat) (n : Int) (acc : List S31), i + d = r.length → 0 ≤ n → n ≤ i → acc.length ≤ i → (∀ c ∈ acc, c.f0 ≠ nm) →
    Ev (fun k => laws_FnDocText.l0 k nm has n (i : Int) key r key acc) (has == (decide (n > 0) || (docText nm (r.drop i)).2)) := by
  intro d
  induction d with
  | zero =>
    intro i n acc hi h0 hn ha hc
    refine Ev.step (fun k => laws_FnDocText.l0.eq_2 _ _ _ _ _ _ _ _ _) ?_
    simp only [if_neg (show ¬ ((i : Int) < (r.length : Int)) by omega)]
    refine Ev.bind (impl_DocText_ev nm key acc (by omega)) ?_
    have hno : ¬ (docText nm acc).2 = true := fun h => by
      obtain ⟨c, hx, e⟩ := docText_has.1 h
      exact hc c hx e
    simp only [if_neg hno]
    have e : (docText nm (r.drop i)).2 = false := by
      rw [List.drop_of_length_le (by omega)]; rfl
    rw [e, Bool.or_false]; exact Ev.now _
  | succ d ih =>
    intro i n acc hi h0 hn ha hc
    refine Ev.step (fun k => laws_FnDocText.l0.eq_2 _ _ _ _ _ _ _ _ _) ?_
    have hil : i < r.length := by omega
    simp only [if_pos (show ((i : Int) < (r.length : Int)) by omega), if_pos (show 0 ≤ (i : Int) by omega), rdi_Cell r i hil, toList_inj, wsucc i (by omega)]
    rw [drop_get r i hil]
    by_cases h : r[i].f0 = nm
    · simp only [if_pos h, wrap_id (x := n + 1) (by omega) (by omega), docText, Bool.or_true]
      have h2 := ih (i + 1) (n + 1) acc (by omega) (by omega) (by omega) (by omega) hc
      rw [decide_eq_true (show n + 1 > 0 by omega), Bool.true_or] at h2
      exact h2
    · simp only [if_neg h, if_pos (show acc.length < 4398046511104 by omega), docText]
      exact ih (i + 1) n (acc ++ [r[i]]) (by omega) h0 (by omega) (by simp; omega) (fun c hx => by
        rcases List.mem_append.1 hx with hx | hx
        · exact hc c hx
        · rw [List.mem_singleton.1 hx]; exact h)

theorem FnDocText : laws_FnDocText.Pure := by
  intro l0 hw00 hw01 hw0
  refine Ev.rounds (g := fun k => laws_FnDocText.f k l0) ?_
  simp only [laws_FnDocText.f]
  by_cases hg : (l0.length : Int) > 1048576
  · simp only [if_pos hg]; exact Ev.now _
  simp only [if_neg hg]
  obtain ⟨key, r, nm, hd, hr⟩ := DrawDocText_ev l0 hw0
  refine Ev.bind hd ?_
  refine Ev.bind (impl_DocText_ev nm key r (by omega)) ?_
  refine Ev.bind (spec_DocText_ev nm key r (by omega)) ?_
  simp only [if_true, bne_self_eq_false]
  refine Ev.step (fun k => laws_FnDocText.j0.eq_2 _ _ _ _ _ _) ?_
  simp only [if_neg (show ¬ (false = true) by decide)]
  have h := FnDocText_l0 nm key r (docText nm r).2 (by omega) r.length 0 0 [] (by omega) (by omega) (by omega) (by simp) (fun c hc => by simp at hc)
  rw [List.drop_zero, decide_eq_false (show ¬ (0 : Int) > 0 by omega), Bool.false_or, beq_self_eq_true] at h
  exact h

end Go.Proofs.Ytdijbmcmobheiaa.Pure
