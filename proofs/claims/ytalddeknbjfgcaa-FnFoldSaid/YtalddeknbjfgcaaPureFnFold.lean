/- The plain law of FnFold: whatever the input, the printed function of this law answers true after enough rounds; conditions: only the sizes and kinds that the law's Pure states. -/
import Derived.Test.YtalddeknbjfgcaaPFnFoldx2
import Derived.Test.YtalddeknbjfgcaaWSized
namespace Go.Proofs.Ytalddeknbjfgcaa.PrintWords
abbrev sized_ints := @Go.Proofs.YtalddeknbjfgcaaW.PrintWords.sized_ints
end Go.Proofs.Ytalddeknbjfgcaa.PrintWords
namespace Go.Proofs.Ytalddeknbjfgcaa.Pure
open Go.RowKit Go.Proofs.Ytalddeknbjfgcaa.PFnFold Go.Proofs.YtalddeknbjfgcaaW.PrintWords Go.Proofs.YtalddeknbjfgcaaW.PrintLast
set_option linter.unusedVariables false
set_option linter.unusedSimpArgs false

/-- What a code reads as: at most 2000 bytes. -/
def CodeOk (s : List Int) : Prop := s.length ≤ 2000 ∧ ∀ c ∈ s, 0 ≤ c ∧ c ≤ 255

theorem l1Open_eq (s : List Int) (hb : ∀ c ∈ s, 0 ≤ c ∧ c ≤ 255) : ∃ s', spec_l1Open.f s = some (s', 0) ∧ CodeOk s' := by
  unfold spec_l1Open.f
  by_cases h : (s.length : Int) > 2000
  · rw [if_pos h, if_pos (by omega)]
    exact ⟨_, rfl, by rw [List.length_take]; omega, fun c hc => hb c (List.mem_of_mem_take hc)⟩
  · rw [if_neg h]
    exact ⟨_, rfl, by omega, hb⟩

theorem wrap_id {x : Int} (h0 : -9223372036854775808 ≤ x) (h1 : x ≤ 9223372036854775807) : wrap64 x = x := by unfold wrap64; omega

theorem CodeOk.byte {s : List Int} (h : CodeOk s) (i : Int) : 0 ≤ rd s i ∧ rd s i ≤ 255 := by
  unfold rd
  rw [List.getD_eq_getElem?_getD]
  rcases Nat.lt_or_ge i.toNat s.length with hi | hi
  · rw [List.getElem?_eq_getElem hi]; exact h.2 _ (List.getElem_mem _)
  · rw [List.getElem?_eq_none hi]; simp

theorem tdiv_nn {a b : Int} (ha : 0 ≤ a) (hb : 0 < b) : 0 ≤ Int.tdiv a b ∧ Int.tdiv a b ≤ a := by
  rw [Int.tdiv_eq_ediv_of_nonneg ha]
  exact ⟨Int.ediv_nonneg ha (by omega), Int.ediv_le_self _ ha⟩

theorem tmod_nn {a b : Int} (ha : 0 ≤ a) (hb : 0 < b) : 0 ≤ Int.tmod a b ∧ Int.tmod a b < b := by
  rw [Int.tmod_eq_emod_of_nonneg ha]
  exact ⟨Int.emod_nonneg _ (by omega), Int.emod_lt_of_pos _ hb⟩

theorem xor_i64 (a b : Nat) (ha : a < 2 ^ 62) (hb : b < 2 ^ 62) : ∃ m : Nat, Go.bits .xor .i64 (a : Int) (b : Int) = (m : Int) ∧ m < 2 ^ 62 := by
  have ha' : a % 2 ^ IntKind.i64.bits = a := Nat.mod_eq_of_lt (Nat.lt_of_lt_of_le ha (by decide))
  have hb' : b % 2 ^ IntKind.i64.bits = b := Nat.mod_eq_of_lt (Nat.lt_of_lt_of_le hb (by decide))
  have hx := Nat.xor_lt_two_pow ha hb
  refine ⟨a ^^^ b, ?_, hx⟩
  simp only [Go.bits, BitVec.ofInt_natCast, BitVec.toNat_xor, BitVec.toNat_ofNat, ha', hb']
  rw [IntKind.wrap_i64]
  have : ((a ^^^ b : Nat) : Int) < 4611686018427387904 := by have := hx; omega
  omega

theorem pick_ev (s : List Int) (hs : CodeOk s) (p n : Int) (hp : 0 ≤ p) (hp1 : p ≤ 1000000) (hn : 1 ≤ n) (hn1 : n ≤ 1000000) :
    ∃ r, Ev (fun k => spec_l1Rd_pick.f k s p n) (r, p + 1) ∧ 0 ≤ r ∧ r < n := by
  simp only [spec_l1Rd_pick.f, if_neg (show ¬ n < 1 by omega), wrap_id (x := p + 1) (by omega) (by omega)]
  by_cases h0 : s.length = 0
  · refine ⟨0, Ev.step (fun k => spec_l1Rd_pick.j0.eq_2 _ _ _ _ _) ?_, by omega, by omega⟩
    simp only [show ((s.length : Int) == 0) = true by simp [h0], if_true]
    exact Ev.now _
  · have hl : 0 < (s.length : Int) := by omega
    have hb : ((s.length : Int) == 0) = false := by simp; intro h; exact h0 (by rw [h]; rfl)
    have e1 : wrap64 (p + 1 - 1) = p := by rw [wrap_id (by omega) (by omega)]; omega
    by_cases hlt : p < (s.length : Int)
    · have hc := hs.byte p
      refine ⟨Int.tmod (rd s p) n, Ev.step (fun k => spec_l1Rd_pick.j0.eq_2 _ _ _ _ _) ?_, (tmod_nn hc.1 (by omega)).1, (tmod_nn hc.1 (by omega)).2⟩
      simp only [hb, if_neg (show ¬ (false = true) by decide), e1, if_pos hlt, if_pos hp, if_neg (show ¬ n = 0 by omega), wrap_id (x := rd s p) (by omega) (by omega)]
      exact Ev.now _
    · have m1 := tmod_nn hp hl
      have e2 : wrap64 (wrap64 (p * 7) + 3) = p * 7 + 3 := by rw [wrap_id (x := p * 7) (by omega) (by omega), wrap_id (by omega) (by omega)]
      have m2 := tmod_nn (show 0 ≤ p * 7 + 3 by omega) hl
      have d1 := tdiv_nn hp hl
      obtain ⟨A, hA⟩ : ∃ A, rd s (Int.tmod p (s.length : Int)) = A := ⟨_, rfl⟩
      obtain ⟨B, hB⟩ : ∃ B, rd s (Int.tmod (p * 7 + 3) (s.length : Int)) = B := ⟨_, rfl⟩
      obtain ⟨C, hC⟩ : ∃ C, Int.tdiv p (s.length : Int) = C := ⟨_, rfl⟩
      have a1 := hs.byte (Int.tmod p (s.length : Int)); rw [hA] at a1
      have b1 := hs.byte (Int.tmod (p * 7 + 3) (s.length : Int)); rw [hB] at b1
      rw [hC] at d1
      have v1 : wrap64 (wrap64 (wrap64 (wrap64 (wrap64 A * 131) + wrap64 (wrap64 B * 1117)) + wrap64 (p * 29)) + wrap64 (wrap64 C * 53)) = A * 131 + B * 1117 + p * 29 + C * 53 := by
        rw [wrap_id (x := A) (by omega) (by omega), wrap_id (x := B) (by omega) (by omega), wrap_id (x := C) (by omega) (by omega), wrap_id (x := A * 131) (by omega) (by omega), wrap_id (x := B * 1117) (by omega) (by omega), wrap_id (x := p * 29) (by omega) (by omega), wrap_id (x := C * 53) (by omega) (by omega), wrap_id (x := A * 131 + B * 1117) (by omega) (by omega), wrap_id (x := A * 131 + B * 1117 + p * 29) (by omega) (by omega), wrap_id (by omega) (by omega)]
      obtain ⟨V, hV⟩ : ∃ V : Nat, A * 131 + B * 1117 + p * 29 + C * 53 = (V : Int) := ⟨(A * 131 + B * 1117 + p * 29 + C * 53).toNat, by omega⟩
      have hVb : V < 2 ^ 62 := by have : (2 : Nat) ^ 62 = 4611686018427387904 := by decide
                                  omega
      have hd := tdiv_nn (show 0 ≤ (V : Int) by omega) (show (0 : Int) < 64 by omega)
      obtain ⟨Q, hQ⟩ : ∃ Q : Nat, Int.tdiv (V : Int) 64 = (Q : Int) := ⟨(Int.tdiv (V : Int) 64).toNat, by omega⟩
      have hQb : Q < 2 ^ 62 := by omega
      obtain ⟨m, hm, hmb⟩ := xor_i64 V Q hVb hQb
      have e3 : wrap64 (Int.tdiv (V : Int) 64) = (Q : Int) := by
        have : (2 : Nat) ^ 62 = 4611686018427387904 := by decide
        rw [hQ, wrap_id (by omega) (by omega)]
      have mm := tmod_nn (show 0 ≤ (m : Int) by omega) (show 0 < n by omega)
      refine ⟨Int.tmod (m : Int) n, Ev.step (fun k => spec_l1Rd_pick.j0.eq_2 _ _ _ _ _) ?_, mm.1, mm.2⟩
      simp only [hb, if_neg (show ¬ (false = true) by decide), e1, if_neg hlt, if_neg (show ¬ (s.length : Int) = 0 by omega), if_pos m1.1, if_pos m1.2, e2, if_pos m2.1, if_pos m2.2, if_neg (show ¬ n = 0 by omega), hA, hB, hC, v1, hV, e3, hm]
      exact Ev.now _

theorem rdOf_get {α : Type} (d : α) (l : List α) (j : Nat) (h : j < l.length) : rdOf d l (j : Int) = l[j] := by
  unfold rdOf; simp [List.getD_eq_getElem?_getD, List.getElem?_eq_getElem h]

theorem of_ev (s : List Int) (hs : CodeOk s) (p : Int) (l : List ByteArray) (hp : 0 ≤ p) (hp1 : p ≤ 1000000) (hl : 1 ≤ l.length) (hl1 : l.length ≤ 1000000) :
    ∃ r, Ev (fun k => spec_l1Rd_of.f k s p l) (r, p + 1) ∧ r ∈ l := by
  obtain ⟨i, hi, h0, h1⟩ := pick_ev s hs p (l.length : Int) hp hp1 (by omega) (by omega)
  obtain ⟨j, rfl⟩ : ∃ j : Nat, i = (j : Int) := ⟨i.toNat, by omega⟩
  refine ⟨l[j]'(by omega), ?_, List.getElem_mem _⟩
  simp only [spec_l1Rd_of.f]
  refine Ev.bind hi ?_
  simp only [if_pos h0, if_pos h1, rdOf_get _ l j (by omega)]
  exact Ev.now _

theorem wpred (j : Nat) (h : j < 9223372036854775807) : wrap64 (((j + 1 : Nat) : Int) - 1) = (j : Int) := by rw [wrap_id (by omega) (by omega)]; omega

def wordList : List ByteArray := [(⟨#[114, 101, 100]⟩ : ByteArray), (⟨#[82, 101, 100]⟩ : ByteArray), (⟨#[97, 112, 112, 108, 101]⟩ : ByteArray), (⟨#[97, 112, 112, 108, 101, 115]⟩ : ByteArray), (⟨#[112, 105, 101]⟩ : ByteArray), (⟨#[116, 104, 101]⟩ : ByteArray), (⟨#[111, 102]⟩ : ByteArray), (⟨#[103, 108, 97, 115, 115]⟩ : ByteArray), (⟨#[98, 117, 115]⟩ : ByteArray), (⟨#[116, 114, 101, 101]⟩ : ByteArray), (⟨#[116, 114, 101, 101, 115]⟩ : ByteArray), (⟨#[55]⟩ : ByteArray), (⟨#[118, 101, 114, 121, 108, 111, 110, 103, 119, 111, 114, 100, 105, 110, 100, 101, 101, 100]⟩ : ByteArray), (⟨#[97]⟩ : ByteArray)]

theorem l11Word_ev (s : List Int) (hs : CodeOk s) (p : Int) (hp : 0 ≤ p) (hp1 : p ≤ 1000000) : ∃ r, Ev (fun k => spec_l11Word.f k s p) (r, p + 1) ∧ r ∈ wordList := by
  obtain ⟨r, hr, hm⟩ := of_ev s hs p wordList hp hp1 (by decide) (by decide)
  exact ⟨r, Ev.bind hr (Ev.now _), hm⟩

theorem word_size {r : ByteArray} (h : r ∈ wordList) : r.size ≤ 18 := by
  have : ∀ x ∈ wordList, x.size ≤ 18 := by decide
  exact this r h

theorem l11Text_l0 (s : List Int) (hs : CodeOk s) : ∀ (n : Nat) (p : Int) (out : ByteArray), 0 ≤ p → p + 2 * n ≤ 900000 → n ≤ 1000 → out.size + 20 * n ≤ 100000 →
    ∃ r q, Ev (fun k => spec_l11Text.l0 k out (n : Int) s p) (r, q) ∧ p ≤ q ∧ q ≤ p + 2 * n ∧ r.size ≤ out.size + 20 * n := by
  intro n
  induction n with
  | zero =>
    intro p out hp hb hn ho
    refine ⟨out, p, Ev.step (fun k => spec_l11Text.l0.eq_2 _ _ _ _ _) ?_, by omega, by omega, by omega⟩
    simp only [if_neg (show ¬ (((0 : Nat) : Int) > 0) by omega)]
    exact Ev.now _
  | succ n ih =>
    intro p out hp hb hn ho
    obtain ⟨w, hw, hwm⟩ := l11Word_ev s hs p hp (by omega)
    have hws := word_size hwm
    obtain ⟨x, hx, hxm⟩ := of_ev s hs (p + 1) (([(⟨#[32]⟩ : ByteArray), (⟨#[44, 32]⟩ : ByteArray), (⟨#[45]⟩ : ByteArray), (⟨#[32]⟩ : ByteArray), (⟨#[46]⟩ : ByteArray)] : List ByteArray)) (by omega) (by omega) (by decide) (by decide)
    have hxs : x.size ≤ 2 := by
      have h : ∀ x ∈ ([(⟨#[32]⟩ : ByteArray), (⟨#[44, 32]⟩ : ByteArray), (⟨#[45]⟩ : ByteArray), (⟨#[32]⟩ : ByteArray), (⟨#[46]⟩ : ByteArray)] : List ByteArray), x.size ≤ 2 := by decide
      exact h x hxm
    obtain ⟨r, q, hr, h1, h2, h3⟩ := ih (p + 1 + 1) ((out ++ w) ++ x) (by omega) (by omega) (by omega) (by simp only [ByteArray.size_append]; omega)
    refine ⟨r, q, Ev.step (fun k => spec_l11Text.l0.eq_2 _ _ _ _ _) ?_, by omega, by omega, by simp only [ByteArray.size_append] at h3; omega⟩
    simp only [if_pos (show (((n + 1 : Nat) : Int) > 0) by omega)]
    refine Ev.bind hw ?_
    simp only [if_pos (show out.size + w.size ≤ 9223372036854775807 by omega)]
    refine Ev.bind hx ?_
    simp only [if_pos (show (out ++ w).size + x.size ≤ 9223372036854775807 by simp only [ByteArray.size_append]; omega), wpred n (by omega)]
    exact hr

theorem l11Text_ev (s : List Int) (hs : CodeOk s) (p : Int) (hp : 0 ≤ p) (hp1 : p ≤ 800000) : ∃ r q, Ev (fun k => spec_l11Text.f k s p) (r, q) ∧ p ≤ q ∧ q ≤ p + 20 ∧ r.size ≤ 200 := by
  obtain ⟨i, hi, h0, h1⟩ := pick_ev s hs p 6 hp (by omega) (by omega) (by omega)
  obtain ⟨j, rfl⟩ : ∃ j : Nat, i = (j : Int) := ⟨i.toNat, by omega⟩
  obtain ⟨r, q, hr, h2, h3, h4⟩ := l11Text_l0 s hs j (p + 1) (⟨#[]⟩ : ByteArray) (by omega) (by omega) (by omega) (by show 0 + 20 * j ≤ 100000; omega)
  have e0 : (⟨#[]⟩ : ByteArray).size = 0 := rfl
  refine ⟨r, q, ?_, by omega, by omega, by omega⟩
  simp only [spec_l11Text.f]
  exact Ev.bind hi hr

theorem l1Many_l0 : ∀ (d n : Nat) (x out : ByteArray), n < 2 ^ d → d ≤ 20 → x.size * 2 ^ d ≤ 1099511627776 → out.size + x.size * n ≤ 1099511627776 → ∃ r, Ev (fun k => spec_l1Many.l0 k x (n : Int) out) r ∧ r.size = out.size + x.size * n := by
  intro d
  induction d with
  | zero =>
    intro n x out hn hd hx ho
    obtain rfl : n = 0 := by simpa using hn
    refine ⟨out, Ev.step (fun k => spec_l1Many.l0.eq_2 _ _ _ _) ?_, by omega⟩
    simp only [if_neg (show ¬ (((0 : Nat) : Int) > 0) by omega)]
    exact Ev.now _
  | succ d ih =>
    intro n x out hn hd hx ho
    have hp : 2 ^ (d + 1) = 2 * 2 ^ d := by rw [Nat.pow_succ, Nat.mul_comm]
    have hb : n < 1048576 := Nat.lt_of_lt_of_le hn (Nat.pow_le_pow_right (Nat.succ_pos 1) hd)
    rw [hp, ← Nat.mul_assoc, Nat.mul_comm x.size 2] at hx
    rw [hp] at hn
    have hd1 : 0 < 2 ^ d := Nat.pow_pos (by decide)
    have hxs : x.size ≤ 2 * x.size * 2 ^ d := Nat.le_trans (by omega) (Nat.le_mul_of_pos_right _ hd1)
    by_cases h0 : n = 0
    · subst h0
      refine ⟨out, Ev.step (fun k => spec_l1Many.l0.eq_2 _ _ _ _) ?_, by omega⟩
      simp only [if_neg (show ¬ (((0 : Nat) : Int) > 0) by omega)]
      exact Ev.now _
    · have e1 : Int.tmod (n : Int) 2 = ((n % 2 : Nat) : Int) := by rw [Int.tmod_eq_emod_of_nonneg (by omega)]; omega
      have e2 : wrap64 (Int.tdiv (n : Int) 2) = ((n / 2 : Nat) : Int) := by
        rw [Int.tdiv_eq_ediv_of_nonneg (by omega), wrap_id (by omega) (by omega)]; omega
      have hs2 : (x ++ x).size = 2 * x.size := by rw [ByteArray.size_append]; omega
      have hq : n / 2 < 2 ^ d := by omega
      by_cases h1 : n % 2 = 1
      · have hm : x.size * n = 2 * x.size * (n / 2) + x.size := by
          have hn2 : n = 2 * (n / 2) + 1 := by omega
          conv => lhs; rw [hn2]
          rw [Nat.mul_add, Nat.mul_one, ← Nat.mul_assoc, Nat.mul_comm x.size 2]
        obtain ⟨r, hr, hrs⟩ := ih (n / 2) (x ++ x) (out ++ x) hq (by omega) (by rw [hs2]; exact hx) (by rw [hs2, ByteArray.size_append]; omega)
        refine ⟨r, Ev.step (fun k => spec_l1Many.l0.eq_2 _ _ _ _) ?_, ?_⟩
        · simp only [if_pos (show ((n : Int) > 0) by omega), e1, e2, if_pos (show ((n % 2 : Nat) : Int) = 1 by omega), if_pos (show out.size + x.size ≤ 9223372036854775807 by omega), if_pos (show x.size + x.size ≤ 9223372036854775807 by omega)]
          exact hr
        · rw [hs2, ByteArray.size_append] at hrs
          omega
      · have hm : x.size * n = 2 * x.size * (n / 2) := by
          have hn2 : n = 2 * (n / 2) := by omega
          conv => lhs; rw [hn2]
          rw [← Nat.mul_assoc, Nat.mul_comm x.size 2]
        obtain ⟨r, hr, hrs⟩ := ih (n / 2) (x ++ x) out hq (by omega) (by rw [hs2]; exact hx) (by rw [hs2]; omega)
        refine ⟨r, Ev.step (fun k => spec_l1Many.l0.eq_2 _ _ _ _) ?_, ?_⟩
        · simp only [if_pos (show ((n : Int) > 0) by omega), e1, e2, if_neg (show ¬ ((n % 2 : Nat) : Int) = 1 by omega), if_pos (show x.size + x.size ≤ 9223372036854775807 by omega)]
          exact hr
        · rw [hs2] at hrs
          omega

theorem l11AnyText_ev (s : List Int) (hs : CodeOk s) (p : Int) (hp : 0 ≤ p) (hp1 : p ≤ 800000 - 10) : ∃ r q, Ev (fun k => spec_l11AnyText.f k s p) (r, q) ∧ p ≤ q ∧ q ≤ p + 30 ∧ r.size ≤ 300 := by
  obtain ⟨i, hi, h0, h1⟩ := pick_ev s hs p 14 hp (by omega) (by omega) (by omega)
  simp only [spec_l11AnyText.f]
  by_cases c0 : i = 0
  · obtain ⟨j, hj, h2, h3⟩ := pick_ev s hs (p + 1) 2 (by omega) (by omega) (by omega) (by omega)
    obtain ⟨m, hm⟩ : ∃ m : Nat, 60 + j = (m : Int) := ⟨(60 + j).toNat, by omega⟩
    have e1 : (⟨#[120]⟩ : ByteArray).size = 1 := rfl
    obtain ⟨r, hr, hrs⟩ := l1Many_l0 7 m (⟨#[120]⟩ : ByteArray) (⟨#[]⟩ : ByteArray) (by omega) (by decide) (by decide) (by rw [e1]; show 0 + 1 * m ≤ _; omega)
    have e0 : (⟨#[]⟩ : ByteArray).size = 0 := rfl
    rw [e0, e1, Nat.one_mul] at hrs
    refine ⟨r, p + 1 + 1, Ev.bind hi ?_, by omega, by omega, by omega⟩
    simp only [if_pos c0]
    refine Ev.bind hj ?_
    simp only [hm, wrap_id (x := (m : Int)) (by omega) (by omega)]
    exact Ev.bind (show Ev (fun k => spec_l1Many.f k _ _) r from hr) (Ev.now _)
  · by_cases c1 : i = 1
    · obtain ⟨t, q, ht, h2, h3, h4⟩ := l11Text_ev s hs (p + 1) (by omega) (by omega)
      obtain ⟨x, hx, hxm⟩ := of_ev s hs q (([(⟨#[10]⟩ : ByteArray), (⟨#[1]⟩ : ByteArray), (⟨#[127]⟩ : ByteArray)] : List ByteArray)) (by omega) (by omega) (by decide) (by decide)
      have hxs : x.size ≤ 1 := by
        have h : ∀ x ∈ ([(⟨#[10]⟩ : ByteArray), (⟨#[1]⟩ : ByteArray), (⟨#[127]⟩ : ByteArray)] : List ByteArray), x.size ≤ 1 := by decide
        exact h x hxm
      refine ⟨t ++ x, q + 1, Ev.bind hi ?_, by omega, by omega, by rw [ByteArray.size_append]; omega⟩
      simp only [if_neg c0, if_pos c1]
      refine Ev.bind ht ?_
      refine Ev.bind hx ?_
      simp only [if_pos (show t.size + x.size ≤ 9223372036854775807 by omega)]
      exact Ev.now _
    · obtain ⟨t, q, ht, h2, h3, h4⟩ := l11Text_ev s hs (p + 1) (by omega) (by omega)
      refine ⟨t, q, Ev.bind hi ?_, by omega, by omega, by omega⟩
      simp only [if_neg c0, if_neg c1]
      exact Ev.bind ht (Ev.now _)

theorem u8_range {l : List Int} (h : ∀ x ∈ l, (Lit.int .u8 x).wf = true) : ∀ c ∈ l, 0 ≤ c ∧ c ≤ 255 := by
  intro c hc
  have := h c hc
  simp [Lit.wf, IntKind.min, IntKind.max, IntKind.bits, IntKind.signed] at this
  omega

theorem DrawFold_ev (l : List Int) (h : ∀ x ∈ l, (Lit.int .u8 x).wf = true) : ∃ s, Ev (fun k => spec_DrawFold.f k l) s ∧ s.size ≤ 300 := by
  obtain ⟨s', h1, hs⟩ := l1Open_eq l (u8_range h)
  obtain ⟨r, q, hr, _, _, hl⟩ := l11AnyText_ev s' hs 0 (by omega) (by omega)
  refine ⟨r, ?_, hl⟩
  simp only [spec_DrawFold.f, h1, Option.bind_some]
  exact Ev.bind hr (Ev.now _)

theorem rd_get (l : List Int) (j : Nat) (h : j < l.length) : rd l (j : Int) = l[j] := by
  unfold rd; simp [List.getD_eq_getElem?_getD, List.getElem?_eq_getElem h]

theorem bt_get (s : ByteArray) (j : Nat) (h : j < (bytesOf s).length) : bt s (j : Int) = (bytesOf s)[j] := by
  rw [← rd_bytesOf, rd_get _ _ h]

theorem wsucc (j : Nat) (h : j < 9223372036854775807) : wrap64 ((j : Int) + 1) = ((j + 1 : Nat) : Int) := by rw [wrap_id (by omega) (by omega)]; omega

theorem bytesOf_range (s : ByteArray) : ∀ c ∈ bytesOf s, 0 ≤ c ∧ c ≤ 255 := by
  intro c hc
  obtain ⟨b, _, rfl⟩ := List.mem_map.1 hc
  have := b.toNat_lt
  omega

theorem bytesOf_strOfNums (l : List Int) (h : ∀ c ∈ l, 0 ≤ c ∧ c ≤ 255) : bytesOf (strOfNums l) = l := by
  unfold bytesOf
  rw [strOfNums_data, List.map_map]
  conv => rhs; rw [← List.map_id l]
  apply List.map_congr_left
  intro c hc
  have := h c hc
  simp only [Function.comp, id]
  rw [UInt8.toNat_ofNat']
  omega

theorem foldC_range (c : Int) (h : 0 ≤ c ∧ c ≤ 255) : 0 ≤ foldC c ∧ foldC c ≤ 255 := by
  unfold foldC; split <;> omega

def foldB (s : ByteArray) : ByteArray := strOfNums ((bytesOf s).map foldC)

theorem bytesOf_foldB (s : ByteArray) : bytesOf (foldB s) = (bytesOf s).map foldC := by
  unfold foldB
  apply bytesOf_strOfNums
  intro c hc
  obtain ⟨b, hb, rfl⟩ := List.mem_map.1 hc
  exact foldC_range b (bytesOf_range s b hb)

theorem bytesOf_append (a b : ByteArray) : bytesOf (a ++ b) = bytesOf a ++ bytesOf b := by
  unfold bytesOf
  rw [ByteArray.data_append, Array.toList_append, List.map_append]

theorem bytesOf_inj {a b : ByteArray} (h : bytesOf a = bytesOf b) : a = b := by
  have h1 : a.data.toList = b.data.toList := by
    have hl : a.data.toList.length = b.data.toList.length := by
      have := congrArg List.length h
      simpa [bytesOf] using this
    apply List.ext_getElem hl
    intro i h1 h2
    have h3 : (bytesOf a)[i]? = (bytesOf b)[i]? := by rw [h]
    simp only [bytesOf, List.getElem?_map, List.getElem?_eq_getElem h1, List.getElem?_eq_getElem h2, Option.map_some, Option.some.injEq] at h3
    exact UInt8.toNat_inj.1 (by omega)
  exact ByteArray.ext (Array.toList_inj.1 h1)

theorem foldB_append (a b : ByteArray) : foldB (a ++ b) = foldB a ++ foldB b := by
  apply bytesOf_inj
  rw [bytesOf_foldB, bytesOf_append, bytesOf_append, bytesOf_foldB, bytesOf_foldB, List.map_append]

theorem foldC_idem (c : Int) : foldC (foldC c) = foldC c := by
  unfold foldC
  by_cases h : 65 ≤ c ∧ c ≤ 90
  · rw [if_pos h, if_neg (by omega)]
  · rw [if_neg h, if_neg h]

theorem foldB_idem (s : ByteArray) : foldB (foldB s) = foldB s := by
  apply bytesOf_inj
  rw [bytesOf_foldB, bytesOf_foldB, List.map_map]
  exact List.map_congr_left (fun c _ => foldC_idem c)

theorem foldB_size (s : ByteArray) : (foldB s).size = s.size := by
  rw [← bytesOf_length, bytesOf_foldB, List.length_map, bytesOf_length]

theorem impl_Fold_eq (s : ByteArray) (hn : s.size < 70368744177664) : impl_Fold.f s = some (foldB s) := by
  unfold impl_Fold.f
  rw [if_pos (by omega)]; rfl

theorem drop_get {α : Type} (l : List α) (j : Nat) (h : j < l.length) : l.drop j = l[j] :: l.drop (j + 1) := List.drop_eq_getElem_cons h

def upP (c : Int) : Prop := 65 ≤ c ∧ c ≤ 90
instance (c : Int) : Decidable (upP c) := by unfold upP; infer_instance

theorem foldC_eq (c : Int) : foldC c = if upP c then c + 32 else c := by
  unfold foldC
  by_cases h : 65 ≤ c ∧ c ≤ 90
  · rw [if_pos h, if_pos (show upP c from h)]
  · rw [if_neg h, if_neg (show ¬ upP c from h)]

theorem spec_l1Small_eq (c : Int) (h0 : 0 ≤ c) (h1 : c ≤ 255) : spec_l1Small.f c = some (if upP c then c + 32 else c) := by
  unfold spec_l1Small.f
  by_cases h : upP c
  · have h' : 65 ≤ c ∧ c ≤ 90 := h
    rw [if_pos h'.1, if_pos h'.2, if_pos h]; congr 1; omega
  · have h' : ¬ (65 ≤ c ∧ c ≤ 90) := h
    rw [if_neg h]
    by_cases h2 : c ≥ 65
    · rw [if_pos h2, if_neg (by omega)]
    · rw [if_neg h2]

theorem spec_Fold_l0 (s : ByteArray) (hn : s.size < 70368744177664) : ∀ (d i : Nat) (acc : List Int), i + d = s.size → acc.length ≤ i →
    Ev (fun k => spec_Fold.l0 k s acc (i : Int)) (strOfNums (acc ++ ((bytesOf s).drop i).map foldC)) := by
  have hb := bytesOf_length s
  have hr := bytesOf_range s
  intro d
  induction d with
  | zero =>
    intro i acc hi hacc
    refine Ev.step (fun k => spec_Fold.l0.eq_2 _ _ _ _) ?_
    simp only [if_neg (show ¬ ((i : Int) < (s.size : Int)) by omega)]
    rw [List.drop_of_length_le (by omega), List.map_nil, List.append_nil]
    exact Ev.now _
  | succ d ih =>
    intro i acc hi hacc
    have hc := hr (bytesOf s)[i] (List.getElem_mem _)
    refine Ev.step (fun k => spec_Fold.l0.eq_2 _ _ _ _) ?_
    simp only [if_pos (show ((i : Int) < (s.size : Int)) by omega), if_pos (show 0 ≤ (i : Int) by omega), bt_get s i (by omega), spec_l1Small_eq _ hc.1 hc.2, Option.bind_some, if_pos (show acc.length < 140737488355328 by omega), wsucc i (by omega), ← foldC_eq]
    have := ih (i + 1) (acc ++ [foldC (bytesOf s)[i]]) (by omega) (by simp; omega)
    rw [drop_get (bytesOf s) i (by omega), List.map_cons]
    rw [List.append_assoc, List.singleton_append] at this
    exact this

theorem spec_Fold_ev (s : ByteArray) (hn : s.size < 70368744177664) : Ev (fun k => spec_Fold.f k s) (foldB s) := by
  have := spec_Fold_l0 s hn s.size 0 [] (by omega) (by simp)
  rw [List.nil_append, List.drop_zero] at this
  exact this

theorem FnFold_l0 (s t : ByteArray) (hs : s.size ≤ 300) (ht : t.size ≤ 300) : ∀ (d i : Nat), i + d = (foldB s).size → Ev (fun k => laws_FnFold.l0 k s t (foldB s) (i : Int)) true := by
  have hz := foldB_size s
  have hz2 := foldB_size t
  have hb := bytesOf_length (foldB s)
  intro d
  induction d with
  | zero =>
    intro i hi
    refine Ev.step (fun k => laws_FnFold.l0.eq_2 _ _ _ _ _) ?_
    simp only [if_neg (show ¬ ((i : Int) < ((foldB s).size : Int)) by omega)]
    refine Ev.bind (spec_Fold_ev s (by omega)) ?_
    simp only [if_true, impl_Fold_eq (foldB s) (by omega), Option.bind_some, foldB_idem, if_pos (show s.size + t.size ≤ 9223372036854775807 by omega), impl_Fold_eq (s ++ t) (by rw [ByteArray.size_append]; omega), impl_Fold_eq t (by omega), if_pos (show (foldB s).size + (foldB t).size ≤ 9223372036854775807 by omega), if_pos (show s.size + (foldB t).size ≤ 9223372036854775807 by omega), foldB_append, hz, beq_self_eq_true]
    exact Ev.now _
  | succ d ih =>
    intro i hi
    have hi' : i < (bytesOf s).length := by rw [bytesOf_length]; omega
    have e : (bytesOf (foldB s))[i]'(by omega) = foldC (bytesOf s)[i] := by simp only [bytesOf_foldB, List.getElem_map]
    refine Ev.step (fun k => laws_FnFold.l0.eq_2 _ _ _ _ _) ?_
    simp only [if_pos (show ((i : Int) < ((foldB s).size : Int)) by omega), if_pos (show 0 ≤ (i : Int) by omega), bt_get (foldB s) i (by omega), e, wsucc i (by omega)]
    have hn : ¬ (foldC (bytesOf s)[i] ≥ 65 ∧ foldC (bytesOf s)[i] ≤ 90) := by unfold foldC; split <;> omega
    by_cases h1 : foldC (bytesOf s)[i] ≥ 65
    · simp only [if_pos h1, if_neg (show ¬ foldC (bytesOf s)[i] ≤ 90 from fun h2 => hn ⟨h1, h2⟩)]
      exact ih (i + 1) (by omega)
    · simp only [if_neg h1]
      exact ih (i + 1) (by omega)

theorem FnFold : laws_FnFold.Pure := by
  intro l0 l1 hm0 hl0 hw0 hm1 hl1 hw1
  refine Ev.rounds (g := fun k => laws_FnFold.f k l0 l1) ?_
  simp only [laws_FnFold.f]
  have ht : Ev (fun k => laws_FnFold.j0 k l0 l1 true) true := by
    refine Ev.step (fun k => laws_FnFold.j0.eq_2 _ _ _ _) ?_
    simp only [if_true]; exact Ev.now _
  by_cases hg : (l0.length : Int) > 1048576
  · simp only [if_pos hg]; exact ht
  simp only [if_neg hg]
  by_cases hg1 : (l1.length : Int) > 1048576
  · simp only [decide_eq_true hg1]; exact ht
  simp only [decide_eq_false hg1]
  refine Ev.step (fun k => laws_FnFold.j0.eq_2 _ _ _ _) ?_
  simp only [if_neg (show ¬ (false = true) by decide)]
  obtain ⟨s, h1, hs⟩ := DrawFold_ev l0 hw0
  obtain ⟨t, h2, ht2⟩ := DrawFold_ev l1 hw1
  refine Ev.bind h1 ?_
  refine Ev.bind h2 ?_
  simp only [impl_Fold_eq s (by omega), Option.bind_some]
  exact FnFold_l0 s t hs ht2 (foldB s).size 0 (by omega)

end Go.Proofs.Ytalddeknbjfgcaa.Pure
