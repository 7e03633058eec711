/- The plain law of FnDoc: whatever the input, the printed function of this law answers true after enough rounds; conditions: only the sizes and kinds that the law's Pure states. -/
import Derived.Test.YtglcgkbecfmegaaDoorQSFnDoc
import Derived.Lib.Join
import Derived.Lib.IndexBytes
import Derived.Lib.SplitLaws
import Derived.Lib.Strings
namespace Go.Proofs.YtglcgkbecfmegaaDoor.Pure
open Go.RowKit Go.Proofs.YtglcgkbecfmegaaDoor.PFnDoc Go.Proofs.YtglcgkbecfmegaaDoorW.PrintWords Go.Proofs.YtglcgkbecfmegaaDoorW.PrintLast Go.Proofs.YtglcgkbecfmegaaDoorW.PrintMore
set_option linter.unusedVariables false
set_option linter.unusedSimpArgs false

def digP (c : Int) : Prop := 48 ≤ c ∧ c ≤ 57
instance (c : Int) : Decidable (digP c) := by unfold digP; infer_instance

def lowP (c : Int) : Prop := 97 ≤ c ∧ c ≤ 122
instance (c : Int) : Decidable (lowP c) := by unfold lowP; infer_instance

def nameFrom (l : List Int) (j : Nat) : Prop := (∀ (i : Nat) (h : i < l.length), j ≤ i → lowP l[i] ∨ (0 < i ∧ digP l[i])) ∧ 1 ≤ l.length ∧ l.length ≤ 8

open Classical in
noncomputable def nameB (l : List Int) : Bool := decide (nameFrom l 0)

open Classical in
theorem nameB_iff {l : List Int} : nameB l = true ↔ nameFrom l 0 := by unfold nameB; exact decide_eq_true_iff

theorem toList_data (s : ByteArray) : s.toList = s.data.toList := by
  exact ByteArray.toList_eq s

def lessT (a b : ByteArray) : Prop := Op.bytesLess a.toList b.toList = true

def seenP (c : Int) : Prop := 32 ≤ c ∧ c ≤ 126

open Classical in
noncomputable def plainB (s : ByteArray) (m : Int) : Bool := decide ((∀ c ∈ bytesOf s, seenP c) ∧ (s.size : Int) ≤ m)

/-- From place j on each cell has a name and a text, and the names rise; the key is a name; there are at most four cells. -/
def formFrom (key : ByteArray) (l : List S74) (j : Nat) : Prop := (∀ (i : Nat) (h : i < l.length), j ≤ i → nameB (bytesOf l[i].f0) = true ∧ plainB l[i].f1 60 = true ∧ ∀ h0 : 0 < i, lessT (l[i - 1]'(by omega)).f0 l[i].f0) ∧ nameB (bytesOf key) = true ∧ l.length ≤ 4

open Classical in
noncomputable def formB (key : ByteArray) (l : List S74) : Bool := decide (formFrom key l 0)

/-- A text before and behind the first byte c. -/
def cutI (c : UInt8) (s : ByteArray) : ByteArray × ByteArray × Bool := (⟨(Lib.cut s.data.toList [c]).1.toArray⟩, ⟨(Lib.cut s.data.toList [c]).2.1.toArray⟩, (Lib.cut s.data.toList [c]).2.2)

def cellI (s : ByteArray) : S74 := ⟨(cutI 61 s).1, (cutI 61 s).2.1⟩

/-- A text cut at a byte, so many times at most; acc: what stands of the first piece. -/
def cutW (c : UInt8) : Nat → List UInt8 → List UInt8 → List (List UInt8)
  | _, acc, [] => [acc]
  | 0, acc, x :: xs => [acc ++ x :: xs]
  | n + 1, acc, x :: xs => if x = c then acc :: cutW c n [] xs else cutW c (n + 1) (acc ++ [x]) xs

def mkT (l : List UInt8) : ByteArray := ⟨l.toArray⟩

/-- The pieces of a text between the bytes c. -/
def splitT (c : UInt8) (s : ByteArray) : List ByteArray := (cutW c (s.data.toList.count c) [] s.data.toList).map mkT

def docI (s : ByteArray) : ByteArray × List S74 := match splitT 10 s with
  | [] => (s, [])
  | k :: l => (k, l.map cellI)

/-- A document's text: the key, and a line a cell. -/
def putFrom (acc : ByteArray) : List S74 → ByteArray
  | [] => acc
  | c :: cs => putFrom ((((acc ++ (⟨#[10]⟩ : ByteArray)) ++ c.f0) ++ (⟨#[61]⟩ : ByteArray)) ++ c.f1) cs

noncomputable def docRes (s : ByteArray) : Option (ByteArray × List S74) → ByteArray × List S74 × Bool
  | none => (⟨#[]⟩, [], false)
  | some (k, cs) => if formB k cs = true then (if putFrom k cs = s then (k, cs, true) else (⟨#[]⟩, [], false)) else (⟨#[]⟩, [], false)

open Classical in
theorem form_cells {key : ByteArray} {l : List S74} (h : formB key l = true) : (∀ c ∈ l, nameB (bytesOf c.f0) = true ∧ plainB c.f1 60 = true) ∧ nameB (bytesOf key) = true ∧ l.length ≤ 4 := by
  unfold formB at h
  have h1 := decide_eq_true_iff.1 h
  refine ⟨fun c hc => ?_, h1.2⟩
  obtain ⟨i, hi, rfl⟩ := List.mem_iff_getElem.1 hc
  have h2 := h1.1 i hi (Nat.zero_le _)
  exact ⟨h2.1, h2.2.1⟩

open Classical in
theorem plain_size {s : ByteArray} {m : Int} (h : plainB s m = true) : (s.size : Int) ≤ m := by
  unfold plainB at h
  exact (decide_eq_true_iff.1 h).2

theorem cut_list (c : UInt8) (l : List UInt8) : Lib.cut l [c] = if 0 ≤ Lib.indexByte l c then (l.take (Lib.indexByte l c).toNat, l.drop ((Lib.indexByte l c).toNat + 1), true) else (l, [], false) := by
  unfold Lib.cut
  rw [Lib.index_one]; rfl

theorem append_data (a b : ByteArray) : (a ++ b).data.toList = a.data.toList ++ b.data.toList := by rw [ByteArray.data_append, Array.toList_append]

theorem one_data (c : UInt8) : (⟨#[c]⟩ : ByteArray).data.toList = [c] := rfl

theorem line_data (c : UInt8) (a b : ByteArray) : ((a ++ (⟨#[c]⟩ : ByteArray)) ++ b).data.toList = a.data.toList ++ c :: b.data.toList := by
  rw [append_data, append_data, one_data, List.append_assoc]; rfl

theorem indexByte_at (c : UInt8) (r : List UInt8) : ∀ (x : List UInt8), c ∉ x → Lib.indexByte (x ++ c :: r) c = (x.length : Int)
  | [], _ => by simp [Lib.indexByte]
  | a :: x, h => by
    have ha : a ≠ c := fun e => h (by simp [e])
    have := indexByte_at c r x (fun e => h (List.mem_cons_of_mem _ e))
    simp [Lib.indexByte, this, ha]

theorem cutI_at (c : UInt8) (a b : ByteArray) (h : c ∉ a.data.toList) : cutI c ((a ++ (⟨#[c]⟩ : ByteArray)) ++ b) = (a, b, true) := by
  unfold cutI
  rw [cut_list, line_data, indexByte_at c _ _ h, if_pos (by omega)]
  have e1 : (a.data.toList ++ c :: b.data.toList).take a.data.toList.length = a.data.toList := List.take_left' rfl
  have e2 : (a.data.toList ++ c :: b.data.toList).drop (a.data.toList.length + 1) = b.data.toList := by
    rw [← List.drop_drop, List.drop_left' rfl]; rfl
  simp only [Int.toNat_natCast, e1, e2]

theorem mem_bytesOf {s : ByteArray} {c : UInt8} (h : c ∈ s.data.toList) : (c.toNat : Int) ∈ bytesOf s := by unfold bytesOf; exact List.mem_map.2 ⟨c, h, rfl⟩

theorem name_byte {s : ByteArray} (h : nameB (bytesOf s) = true) : ∀ c ∈ s.data.toList, (97 ≤ c.toNat ∧ c.toNat ≤ 122) ∨ (48 ≤ c.toNat ∧ c.toNat ≤ 57) := by
  intro c hc
  have h1 := nameB_iff.1 h
  obtain ⟨i, hi, he⟩ := List.mem_iff_getElem.1 (mem_bytesOf hc)
  have h2 := h1.1 i hi (Nat.zero_le _)
  rw [he] at h2
  rcases h2 with h2 | ⟨_, h2⟩
  · unfold lowP at h2; omega
  · unfold digP at h2; omega

theorem eq_no {s : ByteArray} (h : nameB (bytesOf s) = true) : (61 : UInt8) ∉ s.data.toList := by
  intro hm
  have := name_byte h _ hm
  have e : (61 : UInt8).toNat = 61 := rfl
  omega

/-- A cell as a line. -/
def lineT (c : S74) : ByteArray := (c.f0 ++ (⟨#[61]⟩ : ByteArray)) ++ c.f1

theorem cellI_line {c : S74} (h : nameB (bytesOf c.f0) = true) : cellI (lineT c) = c := by
  unfold cellI lineT
  rw [cutI_at 61 _ _ (eq_no h)]

open Classical in
theorem plain_byte {s : ByteArray} {m : Int} (h : plainB s m = true) : ∀ c ∈ s.data.toList, 32 ≤ c.toNat ∧ c.toNat ≤ 126 := by
  intro c hc
  unfold plainB at h
  have h1 := (decide_eq_true_iff.1 h).1 _ (mem_bytesOf hc)
  unfold seenP at h1
  omega

theorem line_no {c : S74} (h : nameB (bytesOf c.f0) = true ∧ plainB c.f1 60 = true) : (10 : UInt8) ∉ (lineT c).data.toList := by
  have e : (10 : UInt8).toNat = 10 := rfl
  unfold lineT
  rw [line_data]
  apply fun h2 => h2
  intro hm
  rcases List.mem_append.1 hm with h1 | h1
  · have := name_byte h.1 _ h1; omega
  · rcases List.mem_cons.1 h1 with h1 | h1
    · exact absurd h1 (by decide)
    · have := plain_byte h.2 _ h1; omega

theorem nl_no {s : ByteArray} (h : nameB (bytesOf s) = true) : (10 : UInt8) ∉ s.data.toList := by
  intro hm
  have := name_byte h _ hm
  have e : (10 : UInt8).toNat = 10 := rfl
  omega

theorem lines_no {key : ByteArray} {l : List S74} (h : formB key l = true) : ∀ x ∈ key :: l.map lineT, (10 : UInt8) ∉ x.data.toList := by
  have hf := form_cells h
  intro x hx
  rcases List.mem_cons.1 hx with rfl | hx
  · exact nl_no hf.2.1
  · obtain ⟨c, hc, rfl⟩ := List.mem_map.1 hx
    exact line_no (hf.1 c hc)

def tailT (xs : List ByteArray) (sep : ByteArray) : ByteArray := ⟨(Lib.joinTail sep.data.toList (xs.map (·.data.toList))).toArray⟩

theorem mk_append2 (a b : List UInt8) : (⟨(a ++ b).toArray⟩ : ByteArray) = (⟨a.toArray⟩ : ByteArray) ++ (⟨b.toArray⟩ : ByteArray) := by
  apply ByteArray.ext
  rw [ByteArray.data_append]
  simp

theorem mk_data (x : ByteArray) : (⟨x.data.toList.toArray⟩ : ByteArray) = x := by cases x; rfl

theorem tailT_cons (x : ByteArray) (xs : List ByteArray) (sep : ByteArray) : tailT (x :: xs) sep = (sep ++ x) ++ tailT xs sep := by
  unfold tailT Lib.joinTail
  rw [List.map_cons, List.map_cons, List.flatten_cons, mk_append2, mk_append2, mk_data, mk_data]

theorem tailT_nil (sep : ByteArray) : tailT [] sep = ⟨#[]⟩ := rfl

theorem putFrom_tail : ∀ (l : List S74) (acc : ByteArray), putFrom acc l = acc ++ tailT (l.map lineT) ⟨#[10]⟩
  | [], acc => by rw [List.map_nil, tailT_nil]; exact ByteArray.append_empty.symm
  | c :: l, acc => by
    rw [putFrom, putFrom_tail l, List.map_cons, tailT_cons]
    unfold lineT
    simp only [ByteArray.append_assoc]

def joinT (xs : List ByteArray) (sep : ByteArray) : ByteArray := ⟨(Lib.join (xs.map (·.data.toList)) sep.data.toList).toArray⟩

theorem joinT_cons (x : ByteArray) (xs : List ByteArray) (sep : ByteArray) : joinT (x :: xs) sep = x ++ tailT xs sep := by
  unfold joinT tailT
  rw [List.map_cons, Lib.join_cons, mk_append2, mk_data]

theorem putFrom_join (key : ByteArray) (l : List S74) : putFrom key l = joinT (key :: l.map lineT) ⟨#[10]⟩ := by
  rw [putFrom_tail, joinT_cons]

theorem joinTail_cons1 (c : UInt8) (x : List UInt8) (xs : List (List UInt8)) : Lib.joinTail [c] (x :: xs) = c :: (x ++ Lib.joinTail [c] xs) := by
  unfold Lib.joinTail; simp

theorem count_tail (c : UInt8) : ∀ (xs : List (List UInt8)), (∀ x ∈ xs, c ∉ x) → (Lib.joinTail [c] xs).count c = xs.length
  | [], _ => rfl
  | x :: xs, h => by
    rw [joinTail_cons1, List.count_cons_self, List.count_append, count_tail c xs (fun y hy => h y (List.mem_cons_of_mem _ hy)), List.count_eq_zero.2 (h x (by simp))]
    simp

/-- A text cut at the first n bytes c. -/
def cutT (c : UInt8) (n : Nat) (s : ByteArray) : List ByteArray := (cutW c n [] s.data.toList).map mkT

theorem cutW_zero (c : UInt8) (acc l : List UInt8) : cutW c 0 acc l = [acc ++ l] := by cases l <;> simp [cutW]

theorem cutW_run (c : UInt8) : ∀ (x : List UInt8) (n : Nat) (acc r : List UInt8), c ∉ x → cutW c n acc (x ++ r) = cutW c n (acc ++ x) r
  | [], n, acc, r, _ => by simp
  | a :: x, 0, acc, r, _ => by rw [cutW_zero, cutW_zero]; simp
  | a :: x, n + 1, acc, r, h => by
    have h1 : a ≠ c := fun e => h (by simp [e])
    rw [List.cons_append, cutW, if_neg h1, cutW_run c x (n + 1) _ r (fun e => h (List.mem_cons_of_mem _ e))]
    simp

theorem cutW_tail (c : UInt8) : ∀ (xs : List (List UInt8)) (n : Nat) (x0 : List UInt8), (∀ x ∈ x0 :: xs, c ∉ x) → xs.length ≤ n → cutW c n [] (x0 ++ Lib.joinTail [c] xs) = x0 :: xs
  | [], n, x0, h, _ => by
    have e : Lib.joinTail [c] [] = [] := rfl
    rw [e, cutW_run c x0 n [] [] (h x0 (by simp))]
    cases n <;> simp [cutW]
  | x1 :: xs, 0, x0, h, hl => by simp at hl
  | x1 :: xs, n + 1, x0, h, hl => by
    rw [joinTail_cons1, cutW_run c x0 (n + 1) [] _ (h x0 (by simp)), cutW, if_pos rfl, cutW_tail c xs n x1 (fun x hx => h x (List.mem_cons_of_mem _ hx)) (by simp at hl; omega)]
    simp

theorem joinT_data (x0 : ByteArray) (xs : List ByteArray) (c : UInt8) : (joinT (x0 :: xs) ⟨#[c]⟩).data.toList = x0.data.toList ++ Lib.joinTail [c] (xs.map (·.data.toList)) := by
  unfold joinT
  rw [List.map_cons, Lib.join_cons]

theorem mkT_data (s : ByteArray) : mkT s.data.toList = s := by cases s; rfl

theorem cutT_joinT (c : UInt8) (n : Nat) (x0 : ByteArray) (xs : List ByteArray) (h : ∀ x ∈ x0 :: xs, c ∉ x.data.toList) (hl : xs.length ≤ n) : cutT c n (joinT (x0 :: xs) ⟨#[c]⟩) = x0 :: xs := by
  unfold cutT
  rw [joinT_data, cutW_tail c _ n _ (by
    intro y hy
    rcases List.mem_cons.1 hy with rfl | hy
    · exact h x0 (by simp)
    · obtain ⟨z, hz, rfl⟩ := List.mem_map.1 hy
      exact h z (List.mem_cons_of_mem _ hz)) (by rw [List.length_map]; exact hl)]
  rw [List.map_cons, mkT_data, List.map_map]
  congr 1
  conv => rhs; rw [← List.map_id xs]
  exact List.map_congr_left (fun x _ => mkT_data x)

theorem splitT_joinT (c : UInt8) (x0 : ByteArray) (xs : List ByteArray) (h : ∀ x ∈ x0 :: xs, c ∉ x.data.toList) : splitT c (joinT (x0 :: xs) ⟨#[c]⟩) = x0 :: xs := by
  have e : (joinT (x0 :: xs) ⟨#[c]⟩).data.toList.count c = xs.length := by
    rw [joinT_data, List.count_append, List.count_eq_zero.2 (h x0 (by simp)), count_tail c _ (by
      intro y hy
      obtain ⟨z, hz, rfl⟩ := List.mem_map.1 hy
      exact h z (List.mem_cons_of_mem _ hz)), List.length_map, Nat.zero_add]
  have := cutT_joinT c xs.length x0 xs h (Nat.le_refl _)
  unfold splitT
  rw [e]; exact this

theorem docI_put {key : ByteArray} {l : List S74} (h : formB key l = true) : docI (putFrom key l) = (key, l) := by
  have hf := form_cells h
  unfold docI
  rw [putFrom_join, splitT_joinT 10 key _ (lines_no h)]
  show (key, (l.map lineT).map cellI) = _
  rw [List.map_map]
  congr 1
  conv => rhs; rw [← List.map_id l]
  exact List.map_congr_left (fun c hc => cellI_line (hf.1 c hc).1)

theorem docRes_neg {s : ByteArray} {o : Option (ByteArray × List S74)} (h : ∀ k cs, o = some (k, cs) → formB k cs = true → putFrom k cs = s → False) : docRes s o = (⟨#[]⟩, [], false) := by
  cases o with
  | none => rfl
  | some x =>
    obtain ⟨k, cs⟩ := x
    by_cases h1 : formB k cs = true
    · by_cases h2 : putFrom k cs = s
      · exact (h k cs rfl h1 h2).elim
      · simp only [docRes, if_pos h1, if_neg h2]
    · simp only [docRes, if_neg h1]

def cellS (s : ByteArray) : Option S74 := match cutT 61 1 s with
  | [a, b] => some ⟨a, b⟩
  | _ => none

def cellsS : List ByteArray → Option (List S74)
  | [] => some []
  | s :: l => match cellS s, cellsS l with
    | some c, some cs => some (c :: cs)
    | _, _ => none

def docS (s : ByteArray) : Option (ByteArray × List S74) := match cutT 10 5 s with
  | [] => none
  | k :: l => match cellsS l with
    | some cs => some (k, cs)
    | none => none

theorem cutT1_at (c : UInt8) (a b : ByteArray) (h : c ∉ a.data.toList) : cutT c 1 ((a ++ (⟨#[c]⟩ : ByteArray)) ++ b) = [a, b] := by
  unfold cutT
  rw [line_data, cutW_run c _ 1 [] _ h, cutW, if_pos rfl, cutW_zero]
  simp only [List.map_cons, List.map_nil, List.nil_append]
  rw [mkT_data, mkT_data]

theorem cellS_line {c : S74} (h : nameB (bytesOf c.f0) = true) : cellS (lineT c) = some c := by
  unfold cellS lineT
  rw [cutT1_at 61 _ _ (eq_no h)]

theorem cellsS_lines : ∀ (l : List S74), (∀ c ∈ l, nameB (bytesOf c.f0) = true) → cellsS (l.map lineT) = some l
  | [], _ => rfl
  | c :: l, h => by
    rw [List.map_cons, cellsS, cellS_line (h c (by simp)), cellsS_lines l (fun x hx => h x (List.mem_cons_of_mem _ hx))]

theorem docS_put {key : ByteArray} {l : List S74} (h : formB key l = true) : docS (putFrom key l) = some (key, l) := by
  have hf := form_cells h
  unfold docS
  rw [putFrom_join, cutT_joinT 10 5 key _ (lines_no h) (by rw [List.length_map]; omega)]
  show (match cellsS (l.map lineT) with | some cs => some (key, cs) | none => none) = _
  rw [cellsS_lines l (fun c hc => (hf.1 c hc).1)]

theorem docGet_same (s : ByteArray) : docRes s (docS s) = docRes s (some (docI s)) := by
  obtain ⟨k, cs, hd⟩ : ∃ k cs, docI s = (k, cs) := ⟨_, _, rfl⟩
  rw [hd]
  by_cases h : formB k cs = true ∧ putFrom k cs = s
  · obtain ⟨h1, h2⟩ := h
    have := docS_put h1
    rw [h2] at this
    rw [this]
  · rw [docRes_neg (o := some (k, cs)) (by
      intro k' cs' e h1 h2
      obtain ⟨rfl, rfl⟩ := Prod.mk.inj (Option.some.inj e)
      exact h ⟨h1, h2⟩)]
    apply docRes_neg
    intro k' cs' e h1 h2
    have := docI_put h1
    rw [h2, hd] at this
    obtain ⟨rfl, rfl⟩ := Prod.mk.inj this
    exact h ⟨h1, h2⟩

theorem drop_get {α : Type} (l : List α) (j : Nat) (h : j < l.length) : l.drop j = l[j] :: l.drop (j + 1) := List.drop_eq_getElem_cons h

theorem rdOf_get {α : Type} (d : α) (l : List α) (j : Nat) (h : j < l.length) : rdOf d l (j : Int) = l[j] := by
  unfold rdOf; simp [List.getD_eq_getElem?_getD, List.getElem?_eq_getElem h]

theorem wrap_id {x : Int} (h0 : -9223372036854775808 ≤ x) (h1 : x ≤ 9223372036854775807) : wrap64 x = x := by unfold wrap64; omega

theorem wsucc (j : Nat) (h : j < 9223372036854775807) : wrap64 ((j : Int) + 1) = ((j + 1 : Nat) : Int) := by rw [wrap_id (by omega) (by omega)]; omega

theorem toList_inj {a b : ByteArray} : a.toList = b.toList ↔ a = b := by
  rw [toList_data, toList_data]
  constructor
  · intro h; exact ByteArray.ext (Array.toList_inj.1 h)
  · rintro rfl; rfl

theorem rdi_Cell (l : List S74) (j : Nat) (h : j < l.length) : rd_T74 l (j : Int) = l[j] := by
  unfold rd_T74; simp [List.getD_eq_getElem?_getD, List.getElem?_eq_getElem h]

theorem ev_false {g : Nat → Option Bool} {p : Prop} [Decidable p] (h : ¬ p) (k : Ev g false) : Ev g (decide p) := by
  rw [decide_eq_false h]; exact k

theorem ev_prop {g : Nat → Option Bool} {p q : Prop} [Decidable p] [Decidable q] (h : p ↔ q) (k : Ev g (decide p)) : Ev g (decide q) := by
  have : decide p = decide q := decide_eq_decide.2 h
  rw [← this]; exact k

theorem formFrom_end {key : ByteArray} {l : List S74} {j : Nat} (hj : l.length ≤ j) : formFrom key l j ↔ nameB (bytesOf key) = true ∧ l.length ≤ 4 := ⟨fun h => h.2, fun h => ⟨fun i hi hji => by omega, h⟩⟩

theorem formFrom_step {key : ByteArray} {l : List S74} {j : Nat} (hj : j < l.length) : formFrom key l j ↔ (nameB (bytesOf l[j].f0) = true ∧ plainB l[j].f1 60 = true ∧ ∀ h0 : 0 < j, lessT (l[j - 1]'(by omega)).f0 l[j].f0) ∧ formFrom key l (j + 1) := by
  constructor
  · rintro ⟨h, h2⟩
    exact ⟨h j hj (Nat.le_refl _), fun i hi hji => h i hi (by omega), h2⟩
  · rintro ⟨h, h1, h2⟩
    refine ⟨fun i hi hji => ?_, h2⟩
    rcases Nat.lt_or_ge j i with hlt | hge
    · exact h1 i hi hlt
    · obtain rfl : i = j := by omega
      exact h

theorem nameFrom_end {l : List Int} {j : Nat} (hj : l.length ≤ j) : nameFrom l j ↔ 1 ≤ l.length ∧ l.length ≤ 8 := ⟨fun h => h.2, fun h => ⟨fun i hi hji => by omega, h⟩⟩

theorem nameFrom_step {l : List Int} {j : Nat} (hj : j < l.length) : nameFrom l j ↔ (lowP l[j] ∨ (0 < j ∧ digP l[j])) ∧ nameFrom l (j + 1) := by
  constructor
  · rintro ⟨h, h2⟩
    exact ⟨h j hj (Nat.le_refl _), fun i hi hji => h i hi (by omega), h2⟩
  · rintro ⟨h, h1, h2⟩
    refine ⟨fun i hi hji => ?_, h2⟩
    rcases Nat.lt_or_ge j i with hlt | hge
    · exact h1 i hi hlt
    · obtain rfl : i = j := by omega
      exact h

theorem rd_get (l : List Int) (j : Nat) (h : j < l.length) : rd l (j : Int) = l[j] := by
  unfold rd; simp [List.getD_eq_getElem?_getD, List.getElem?_eq_getElem h]

theorem bt_get (s : ByteArray) (j : Nat) (h : j < (bytesOf s).length) : bt s (j : Int) = (bytesOf s)[j] := by
  rw [← rd_bytesOf, rd_get _ _ h]

theorem ev_eq {α : Type} {g : Nat → Option α} {r : α} (h : ∀ k, g k = some r) : Ev g r := ⟨0, fun k _ => h k⟩

theorem impl_digit_eq (a : Int) : impl_digit.f a = some (decide (digP a)) := by
  unfold impl_digit.f digP
  by_cases h : a ≥ 48
  · rw [if_pos h]; congr 1; exact decide_eq_decide.2 (by omega)
  · rw [if_neg h]; congr 1; symm; exact decide_eq_false (by omega)

theorem impl_lower_eq (a : Int) : impl_lower.f a = some (decide (lowP a)) := by
  unfold impl_lower.f lowP
  by_cases h : a ≥ 97
  · rw [if_pos h]; congr 1; exact decide_eq_decide.2 (by omega)
  · rw [if_neg h]; congr 1; symm; exact decide_eq_false (by omega)

theorem impl_within_eq (a b c : Int) : impl_within.f a b c = some (decide (b ≤ a ∧ a ≤ c)) := by
  unfold impl_within.f
  by_cases h : a ≥ b
  · rw [if_pos h]; congr 1; exact decide_eq_decide.2 ⟨fun h2 => ⟨h, h2⟩, fun h2 => h2.2⟩
  · rw [if_neg h]; congr 1; symm; exact decide_eq_false (fun h2 => h h2.1)

open Classical in
theorem impl_NameOk_l0 (s : ByteArray) (hn : s.size < 4611686018427387904) : ∀ (d i : Nat), i + d = s.size → Ev (fun k => impl_NameOk.l0 k s (s.size : Int) (i : Int)) (decide (nameFrom (bytesOf s) i)) := by
  have hb := bytesOf_length s
  intro d
  induction d with
  | zero =>
    intro i hi
    refine Ev.step (fun k => impl_NameOk.l0.eq_2 _ _ _ _) ?_
    simp only [if_neg (show ¬ ((i : Int) < (s.size : Int)) by omega), impl_within_eq, Option.bind_some]
    refine ev_prop (nameFrom_end (by omega)).symm ?_
    refine ev_eq fun _ => ?_
    congr 1; exact decide_eq_decide.2 (by omega)
  | succ d ih =>
    intro i hi
    have hs := nameFrom_step (l := bytesOf s) (j := i) (by omega)
    refine Ev.step (fun k => impl_NameOk.l0.eq_2 _ _ _ _) ?_
    simp only [if_pos (show ((i : Int) < (s.size : Int)) by omega), if_pos (show 0 ≤ (i : Int) by omega), wsucc i (by omega), bt_get s i (by omega), impl_lower_eq, impl_digit_eq, Option.bind_some, decide_eq_true_eq]
    by_cases h1 : lowP (bytesOf s)[i]
    · simp only [if_pos h1]
      exact ev_prop (hs.trans ⟨fun h => h.2, fun h => ⟨.inl h1, h⟩⟩).symm (ih (i + 1) (by omega))
    · simp only [if_neg h1]
      by_cases h0 : (i : Int) = 0
      · simp only [if_pos h0]
        have : decide (nameFrom (bytesOf s) i) = false := decide_eq_false (fun h => by rcases (hs.1 h).1 with h2 | h2; exact h1 h2; omega)
        rw [this]; exact Ev.now _
      · simp only [if_neg h0]
        by_cases h2 : digP (bytesOf s)[i]
        · simp only [if_pos h2]
          exact ev_prop (hs.trans ⟨fun h => h.2, fun h => ⟨.inr ⟨by omega, h2⟩, h⟩⟩).symm (ih (i + 1) (by omega))
        · simp only [if_neg h2]
          have : decide (nameFrom (bytesOf s) i) = false := decide_eq_false (fun h => by rcases (hs.1 h).1 with h3 | h3; exact h1 h3; exact h2 h3.2)
          rw [this]; exact Ev.now _

theorem impl_NameOk_ev (s : ByteArray) (hn : s.size < 4611686018427387904) : Ev (fun k => impl_NameOk.f k s) (nameB (bytesOf s)) := impl_NameOk_l0 s hn s.size 0 (by omega)

theorem bytesOf_range (s : ByteArray) : ∀ c ∈ bytesOf s, 0 ≤ c ∧ c ≤ 255 := by
  intro c hc
  obtain ⟨b, _, rfl⟩ := List.mem_map.1 hc
  have := b.toNat_lt
  omega

theorem bt_wrap (s : ByteArray) (j : Nat) (h : j < (bytesOf s).length) : wrap64 (bt s (j : Int)) = (bytesOf s)[j] := by
  rw [bt_get s j h]
  have := bytesOf_range s _ (List.getElem_mem h)
  exact wrap_id (by omega) (by omega)

open Classical in
theorem impl_plain_l0 (s : ByteArray) (m : Int) (hs : s.size < 4611686018427387904) : ∀ (d i : Nat), i + d = s.size → Ev (fun k => impl_plain.l0 k s m (s.size : Int) (i : Int)) (decide ((∀ c ∈ (bytesOf s).drop i, seenP c) ∧ (s.size : Int) ≤ m)) := by
  have hlen := bytesOf_length s
  intro d
  induction d with
  | zero =>
    intro i hi
    refine Ev.step (fun k => impl_plain.l0.eq_2 _ _ _ _ _) ?_
    simp only [if_neg (show ¬ ((i : Int) < (s.size : Int)) by omega)]
    refine ev_prop ?_ (Ev.now _)
    rw [List.drop_eq_nil_of_le (by omega)]
    exact ⟨fun h => ⟨fun c hc => by simp at hc, h⟩, fun h => h.2⟩
  | succ d ih =>
    intro i hi
    refine Ev.step (fun k => impl_plain.l0.eq_2 _ _ _ _ _) ?_
    simp only [if_pos (show ((i : Int) < (s.size : Int)) by omega), if_pos (show 0 ≤ (i : Int) by omega), bt_wrap s i (by omega), impl_within_eq, Option.bind_some, decide_eq_true_eq, wsucc i (by omega)]
    have e := List.drop_eq_getElem_cons (l := bytesOf s) (i := i) (by omega)
    by_cases hw : 32 ≤ (bytesOf s)[i] ∧ (bytesOf s)[i] ≤ 126
    · simp only [if_pos hw]
      refine ev_prop ?_ (ih (i + 1) (by omega))
      rw [e]
      constructor
      · rintro ⟨h1, h2⟩
        exact ⟨fun c hc => by rcases List.mem_cons.1 hc with h | h; exact h ▸ hw; exact h1 c h, h2⟩
      · rintro ⟨h1, h2⟩
        exact ⟨fun c hc => h1 c (List.mem_cons_of_mem _ hc), h2⟩
    · simp only [if_neg hw]
      refine ev_false (fun h => hw (h.1 _ ?_)) (Ev.now _)
      rw [e]; exact List.mem_cons_self ..

theorem impl_plain_ev (s : ByteArray) (m : Int) (hs : s.size < 4611686018427387904) : Ev (fun k => impl_plain.f k s m) (plainB s m) := by
  simp only [impl_plain.f, plainB]
  exact impl_plain_l0 s m hs s.size 0 (by omega)

theorem impl_textOk_ev (s : ByteArray) (hs : s.size < 4611686018427387904) : Ev (fun k => impl_textOk.f k s) (plainB s 60) := by
  simp only [impl_textOk.f]
  exact Ev.bind (impl_plain_ev s 60 hs) (Ev.now _)

open Classical in
theorem impl_wellFormed_l0 (key : ByteArray) (l : List S74) (hk : key.size ≤ 1048576) (hn : l.length ≤ 1048576) (hs : ∀ x ∈ l, x.f0.size ≤ 1048576 ∧ x.f1.size ≤ 1048576) : ∀ (d i : Nat), i + d = l.length →
    Ev (fun k => impl_wellFormed.l0 k l (l.length : Int) (i : Int) key l) (decide (formFrom key l i)) := by
  intro d
  induction d with
  | zero =>
    intro i hi
    refine Ev.step (fun k => impl_wellFormed.l0.eq_2 _ _ _ _ _ _) ?_
    simp only [if_neg (show ¬ ((i : Int) < (l.length : Int)) by omega)]
    refine ev_prop (formFrom_end (by omega)).symm ?_
    refine Ev.bind (impl_NameOk_ev key (by omega)) ?_
    cases hnm : nameB (bytesOf key) with
    | false => simp only [if_neg (show ¬ (false = true) by decide)]; exact ev_false (fun h => by cases h.1) (Ev.now _)
    | true =>
      simp only [if_true]
      exact ev_prop ⟨fun h => ⟨(by first | trivial | rfl), by omega⟩, fun h => by have := h.2; omega⟩ (Ev.now _)
  | succ d ih =>
    intro i hi
    have hst := formFrom_step (key := key) (l := l) (j := i) (by omega)
    have hsz := hs l[i] (List.getElem_mem _)
    have hnext := ih (i + 1) (by omega)
    refine Ev.step (fun k => impl_wellFormed.l0.eq_2 _ _ _ _ _ _) ?_
    simp only [if_pos (show ((i : Int) < (l.length : Int)) by omega), if_pos (show 0 ≤ (i : Int) by omega), rdi_Cell l i (by omega), wsucc i (by omega)]
    refine Ev.bind (impl_NameOk_ev l[i].f0 (by omega)) ?_
    cases hnm : nameB (bytesOf l[i].f0) with
    | false => simp only [if_neg (show ¬ (false = true) by decide)]; exact ev_false (fun h => by have := (hst.1 h).1.1; rw [hnm] at this; cases this) (Ev.now _)
    | true =>
      simp only [if_true]
      refine Ev.bind (impl_textOk_ev l[i].f1 (by omega)) ?_
      cases htx : plainB l[i].f1 60 with
      | false => simp only [if_neg (show ¬ (false = true) by decide)]; exact ev_false (fun h => by have := (hst.1 h).1.2.1; rw [htx] at this; cases this) (Ev.now _)
      | true =>
        simp only [if_true]
        by_cases h0 : (i : Int) > 0
        · have he : wrap64 ((i : Int) - 1) = ((i - 1 : Nat) : Int) := by rw [wrap_id (by omega) (by omega)]; omega
          simp only [if_pos h0, he, if_pos (show 0 ≤ ((i - 1 : Nat) : Int) by omega), if_pos (show ((i - 1 : Nat) : Int) < (l.length : Int) by omega), rdi_Cell l (i - 1) (by omega)]
          by_cases hl : lessT (l[i - 1]'(by omega)).f0 l[i].f0
          · have hl2 : Op.bytesLess (l[i - 1]'(by omega)).f0.toList l[i].f0.toList = true := hl
            simp only [hl2, if_true]
            exact ev_prop (hst.trans ⟨fun h => h.2, fun h => ⟨⟨hnm, htx, fun _ => hl⟩, h⟩⟩).symm hnext
          · have hl2 : Op.bytesLess (l[i - 1]'(by omega)).f0.toList l[i].f0.toList = false := Bool.eq_false_iff.2 hl
            simp only [hl2, if_neg (show ¬ (false = true) by decide)]
            exact ev_false (fun h => hl ((hst.1 h).1.2.2 (by omega))) (Ev.now _)
        · simp only [if_neg h0]
          exact ev_prop (hst.trans ⟨fun h => h.2, fun h => ⟨⟨hnm, htx, fun h1 => by omega⟩, h⟩⟩).symm hnext

theorem impl_wellFormed_ev (key : ByteArray) (l : List S74) (hk : key.size ≤ 1048576) (hn : l.length ≤ 1048576) (hs : ∀ x ∈ l, x.f0.size ≤ 1048576 ∧ x.f1.size ≤ 1048576) : Ev (fun k => impl_wellFormed.f k key l) (formB key l) := impl_wellFormed_l0 key l hk hn hs l.length 0 (by omega)

theorem Cut_eq (c : UInt8) (s : ByteArray) (hs : s.size < 4294967281) : strings_Cut.f s ⟨#[c]⟩ = some (cutI c s) := by
  unfold strings_Cut.f
  rw [if_pos hs]; rfl

theorem data_size (s : ByteArray) : s.data.toList.length = s.size := rfl

theorem cutI_size (c : UInt8) (s : ByteArray) : (cutI c s).1.size ≤ s.size ∧ (cutI c s).2.1.size ≤ s.size := by
  unfold cutI
  rw [cut_list]
  have h0 := data_size s
  split
  · refine ⟨?_, ?_⟩
    · show (List.take _ s.data.toList).toArray.size ≤ _
      simp; omega
    · show (List.drop _ s.data.toList).toArray.size ≤ _
      simp
  · refine ⟨?_, ?_⟩
    · show s.data.toList.toArray.size ≤ _
      simp
    · show ([] : List UInt8).toArray.size ≤ _
      simp

noncomputable def docPutB (key : ByteArray) (l : List S74) : ByteArray := if formB key l = true then putFrom key l else (⟨#[]⟩ : ByteArray)

theorem size10 : (⟨#[10]⟩ : ByteArray).size = 1 := rfl

theorem size61 : (⟨#[61]⟩ : ByteArray).size = 1 := rfl

theorem impl_DocPut_l0 (l : List S74) (hn : l.length ≤ 1048576) (hs : ∀ x ∈ l, x.f0.size ≤ 1048576 ∧ x.f1.size ≤ 1048576) : ∀ (d i : Nat) (acc : ByteArray), i + d = l.length → acc.size + 3000000 * d ≤ 10000000000000 →
    Ev (fun k => impl_DocPut.l0 k acc l (l.length : Int) (i : Int)) (putFrom acc (l.drop i)) := by
  intro d
  induction d with
  | zero =>
    intro i acc hi ha
    refine Ev.step (fun k => impl_DocPut.l0.eq_2 _ _ _ _ _) ?_
    simp only [if_neg (show ¬ ((i : Int) < (l.length : Int)) by omega)]
    rw [List.drop_eq_nil_of_le (by omega)]; exact Ev.now _
  | succ d ih =>
    intro i acc hi ha
    have hsz := hs l[i] (List.getElem_mem _)
    have z2 : ((⟨#[10]⟩ : ByteArray) ++ l[i].f0).size = 1 + l[i].f0.size := by rw [ByteArray.size_append, size10]
    have z3 : (((⟨#[10]⟩ : ByteArray) ++ l[i].f0) ++ (⟨#[61]⟩ : ByteArray)).size = 1 + l[i].f0.size + 1 := by rw [ByteArray.size_append, z2, size61]
    have z4 : ((((⟨#[10]⟩ : ByteArray) ++ l[i].f0) ++ (⟨#[61]⟩ : ByteArray)) ++ l[i].f1).size = 1 + l[i].f0.size + 1 + l[i].f1.size := by rw [ByteArray.size_append, z3]
    have e : acc ++ ((((⟨#[10]⟩ : ByteArray) ++ l[i].f0) ++ (⟨#[61]⟩ : ByteArray)) ++ l[i].f1) = (((acc ++ (⟨#[10]⟩ : ByteArray)) ++ l[i].f0) ++ (⟨#[61]⟩ : ByteArray)) ++ l[i].f1 := by
      rw [← ByteArray.append_assoc, ← ByteArray.append_assoc, ← ByteArray.append_assoc]
    have h := ih (i + 1) (acc ++ ((((⟨#[10]⟩ : ByteArray) ++ l[i].f0) ++ (⟨#[61]⟩ : ByteArray)) ++ l[i].f1)) (by omega) (by rw [ByteArray.size_append, z4]; omega)
    refine Ev.step (fun k => impl_DocPut.l0.eq_2 _ _ _ _ _) ?_
    simp only [if_pos (show ((i : Int) < (l.length : Int)) by omega), if_pos (show 0 ≤ (i : Int) by omega), rdi_Cell l i (by omega), wsucc i (by omega), z2, z3, z4, if_pos (show 1 + l[i].f0.size ≤ 9223372036854775807 by omega), if_pos (show 1 + l[i].f0.size + 1 ≤ 9223372036854775807 by omega), if_pos (show 1 + l[i].f0.size + 1 + l[i].f1.size ≤ 9223372036854775807 by omega), if_pos (show acc.size + (1 + l[i].f0.size + 1 + l[i].f1.size) ≤ 9223372036854775807 by omega)]
    rw [drop_get l i (by omega)]
    rw [e] at h
    simp only [e]
    exact h

theorem impl_DocPut_ev (key : ByteArray) (l : List S74) (hk : key.size ≤ 1048576) (hn : l.length ≤ 1048576) (hs : ∀ x ∈ l, x.f0.size ≤ 1048576 ∧ x.f1.size ≤ 1048576) : Ev (fun k => impl_DocPut.f k key l) (docPutB key l) := by
  simp only [impl_DocPut.f, docPutB]
  refine Ev.bind (impl_wellFormed_ev key l hk hn hs) ?_
  cases formB key l with
  | false => exact Ev.now _
  | true => simp only [if_true]; exact impl_DocPut_l0 l hn hs l.length 0 key (by omega) (by omega)

theorem impl_DocGet_l0 (s key : ByteArray) (hk : key.size ≤ 1048576) (L : List ByteArray) (hL : L.length ≤ 1048576) (hx : ∀ x ∈ L, x.size ≤ 1048576) : ∀ (d i : Nat) (acc : List S74), i + d = L.length → acc.length ≤ i → (∀ x ∈ acc, x.f0.size ≤ 1048576 ∧ x.f1.size ≤ 1048576) →
    Ev (fun k => impl_DocGet.l0 k s L (L.length : Int) (i : Int) key acc) (docRes s (some (key, acc ++ (L.drop i).map cellI))) := by
  intro d
  induction d with
  | zero =>
    intro i acc hi ha hsz
    refine Ev.step (fun k => impl_DocGet.l0.eq_2 _ _ _ _ _ _ _) ?_
    simp only [if_neg (show ¬ ((i : Int) < (L.length : Int)) by omega)]
    rw [List.drop_eq_nil_of_le (by omega), List.map_nil, List.append_nil]
    refine Ev.bind (impl_wellFormed_ev key acc hk (by omega) hsz) ?_
    simp only [docRes]
    cases hf : formB key acc with
    | false => exact Ev.now _
    | true =>
      simp only [if_true]
      have hput := impl_DocPut_ev key acc hk (by omega) hsz
      simp only [docPutB, if_pos hf] at hput
      refine Ev.bind hput ?_
      simp only [toList_inj]
      by_cases hp : putFrom key acc = s
      · simp only [if_pos hp]; exact Ev.now _
      · simp only [if_neg hp]; exact Ev.now _
  | succ d ih =>
    intro i acc hi ha hsz
    have hxi := hx L[i] (List.getElem_mem _)
    have hc := cutI_size 61 L[i]
    refine Ev.step (fun k => impl_DocGet.l0.eq_2 _ _ _ _ _ _ _) ?_
    simp only [if_pos (show ((i : Int) < (L.length : Int)) by omega), if_pos (show 0 ≤ (i : Int) by omega), rdOf_get _ L i (by omega), Cut_eq 61 L[i] (by omega), Option.bind_some, if_pos (show acc.length < 4398046511104 by omega), wsucc i (by omega)]
    rw [drop_get L i (by omega), List.map_cons]
    have h := ih (i + 1) (acc ++ [cellI L[i]]) (by omega) (by simp; omega) (fun x hx => by
      rcases List.mem_append.1 hx with h | h
      · exact hsz x h
      · rw [List.mem_singleton.1 h]; exact ⟨Nat.le_trans hc.1 hxi, Nat.le_trans hc.2 hxi⟩)
    rw [List.append_assoc] at h
    exact h

theorem indexByte_out (c : UInt8) : ∀ (l : List UInt8), c ∉ l → Lib.indexByte l c = -1
  | [], _ => rfl
  | x :: l, h => by
    have hx : x ≠ c := fun e => h (by simp [e])
    have := indexByte_out c l (fun e => h (List.mem_cons_of_mem _ e))
    simp [Lib.indexByte, this, hx]

theorem splitK_eq (c : UInt8) : ∀ (k : Nat) (l : List UInt8), Lib.splitK [c] 0 k l = cutW c k [] l
  | 0, l => by rw [cutW_zero]; rfl
  | k + 1, l => by
    unfold Lib.splitK
    rw [Lib.index_one]
    by_cases h : c ∈ l
    · obtain ⟨x, r, rfl, hx⟩ := List.eq_append_cons_of_mem h
      rw [indexByte_at c r x hx, if_neg (by simp), splitK_eq c k, cutW_run c x (k + 1) [] _ hx, cutW, if_pos rfl]
      simp
    · rw [indexByte_out c l h, if_pos (by decide)]
      have := cutW_run c l (k + 1) [] [] h
      rw [List.append_nil, List.nil_append] at this
      rw [this]; simp [cutW]

theorem Split_eq (c : UInt8) (s : ByteArray) (hs : s.size < 4294967281) : strings_Split.f s ⟨#[c]⟩ = some (splitT c s) := by
  unfold strings_Split.f
  rw [if_pos ⟨hs, Nat.le_refl _⟩]
  have e : (⟨#[c]⟩ : ByteArray).data.toList = [c] := rfl
  have h1 := Lib.splitB_data ⟨#[c]⟩ 0 (Lib.countB s ⟨#[c]⟩) s
  rw [e, splitK_eq] at h1
  have h2 : Lib.countB s ⟨#[c]⟩ = s.data.toList.count c := by
    show Lib.count s.data.toList [c] = _
    exact Lib.count_one c _
  rw [h2] at h1 ⊢
  unfold splitT
  rw [← h1, List.map_map]
  congr 1
  conv => lhs; rw [← List.map_id (Lib.splitB _ _ _ _)]
  exact List.map_congr_left (fun x _ => (mkT_data x).symm)

theorem cutW_length (c : UInt8) : ∀ (l : List UInt8) (n : Nat) (acc : List UInt8), (cutW c n acc l).length ≤ l.length + 1 ∧ (cutW c n acc l).length ≤ n + 1 ∧ 1 ≤ (cutW c n acc l).length
  | [], n, acc => by simp [cutW]
  | x :: xs, 0, acc => by simp [cutW]
  | x :: xs, n + 1, acc => by
    have h1 := cutW_length c xs n []
    have h2 := cutW_length c xs (n + 1) (acc ++ [x])
    unfold cutW
    split
    · simp only [List.length_cons]; omega
    · simp only [List.length_cons]; omega

theorem splitT_length (c : UInt8) (s : ByteArray) : (splitT c s).length ≤ s.size + 1 ∧ 1 ≤ (splitT c s).length := by
  unfold splitT
  have := cutW_length c s.data.toList (s.data.toList.count c) []
  rw [List.length_map]; rw [data_size] at this; omega

theorem cutW_size (c : UInt8) : ∀ (l : List UInt8) (n : Nat) (acc : List UInt8), ∀ p ∈ cutW c n acc l, p.length ≤ acc.length + l.length
  | [], n, acc => by simp [cutW]
  | x :: xs, 0, acc => by simp [cutW]
  | x :: xs, n + 1, acc => by
    intro p hp
    unfold cutW at hp
    split at hp
    · rcases List.mem_cons.1 hp with rfl | hp
      · omega
      · have := cutW_size c xs n [] p hp
        simp only [List.length_nil, List.length_cons] at this ⊢; omega
    · have := cutW_size c xs (n + 1) (acc ++ [x]) p hp
      simp only [List.length_append, List.length_cons, List.length_nil] at this ⊢; omega

theorem mkT_size (l : List UInt8) : (mkT l).size = l.length := by simp [mkT, ByteArray.size]

theorem splitT_size {c : UInt8} {s p : ByteArray} (h : p ∈ splitT c s) : p.size ≤ s.size := by
  obtain ⟨x, hx, rfl⟩ := List.mem_map.1 h
  have := cutW_size c _ _ _ x hx
  rw [data_size] at this
  rw [mkT_size]; simpa using this

theorem impl_DocGet_ev (s : ByteArray) (hs : s.size ≤ 1048576) : Ev (fun k => impl_DocGet.f k s) (docRes s (some (docI s))) := by
  have hlen := splitT_length 10 s
  have hsz : ∀ x ∈ splitT 10 s, x.size ≤ 1048576 := fun x hx => by have := splitT_size hx; omega
  obtain ⟨a, r, hc⟩ : ∃ a r, splitT 10 s = a :: r := by
    cases hc : splitT 10 s with
    | nil => rw [hc] at hlen; simp at hlen
    | cons a r => exact ⟨a, r, rfl⟩
  have e : docI s = (a, r.map cellI) := by unfold docI; rw [hc]
  rw [hc] at hlen hsz
  have r0 : rdOf ByteArray.empty (a :: r) 0 = a := rfl
  have hl2 : ((a :: r).length : Int) = (r.length : Int) + 1 := by simp
  rw [List.length_cons] at hlen
  have h := impl_DocGet_l0 s a (hsz a (by simp)) r (by omega) (fun x hx => hsz x (by simp [hx])) r.length 0 [] (by omega) (by simp) (fun x hx => by simp at hx)
  rw [List.drop_zero, List.nil_append] at h
  simp only [impl_DocGet.f, Split_eq 10 s (by omega), Option.bind_some, hc, hl2, if_pos (show 0 < (r.length : Int) + 1 by omega), if_pos (show 1 ≤ (r.length : Int) + 1 by omega), r0, List.drop_succ_cons, List.drop_zero, e]
  exact h

theorem spec_l1In_eq (a b c : Int) : spec_l1In.f a b c = some (decide (b ≤ a ∧ a ≤ c)) := by
  unfold spec_l1In.f
  by_cases h : a ≥ b
  · rw [if_pos h]; congr 1; exact decide_eq_decide.2 ⟨fun h2 => ⟨h, h2⟩, fun h2 => h2.2⟩
  · rw [if_neg h]; congr 1; symm; exact decide_eq_false (fun h2 => h h2.1)

open Classical in
theorem spec_NameOk_l0 (s : ByteArray) (hn : s.size < 4611686018427387904) : ∀ (d i : Nat), i + d = s.size → Ev (fun k => spec_NameOk.l0 k s (i : Int)) (decide (nameFrom (bytesOf s) i)) := by
  have hb := bytesOf_length s
  intro d
  induction d with
  | zero =>
    intro i hi
    refine Ev.step (fun k => spec_NameOk.l0.eq_2 _ _ _) ?_
    simp only [if_neg (show ¬ ((i : Int) < (s.size : Int)) by omega), spec_l1In_eq, Option.bind_some]
    refine ev_prop (nameFrom_end (by omega)).symm ?_
    refine ev_eq fun _ => ?_
    congr 1; exact decide_eq_decide.2 (by omega)
  | succ d ih =>
    intro i hi
    have hs := nameFrom_step (l := bytesOf s) (j := i) (by omega)
    refine Ev.step (fun k => spec_NameOk.l0.eq_2 _ _ _) ?_
    simp only [if_pos (show ((i : Int) < (s.size : Int)) by omega), if_pos (show 0 ≤ (i : Int) by omega), wsucc i (by omega), bt_get s i (by omega)]
    by_cases h1 : lowP (bytesOf s)[i]
    · simp only [if_pos (show (bytesOf s)[i] ≥ 97 from h1.1), if_pos h1.2]
      exact ev_prop (hs.trans ⟨fun h => h.2, fun h => ⟨.inl h1, h⟩⟩).symm (ih (i + 1) (by omega))
    · have key : Ev (fun k => if (i : Int) = 0 then some false else if (bytesOf s)[i] < 48 then some false else if (bytesOf s)[i] > 57 then some false else spec_NameOk.l0 k s ((i + 1 : Nat) : Int)) (decide (nameFrom (bytesOf s) i)) := by
        by_cases h0 : (i : Int) = 0
        · simp only [if_pos h0]
          have : decide (nameFrom (bytesOf s) i) = false := decide_eq_false (fun h => by rcases (hs.1 h).1 with h2 | h2; exact h1 h2; omega)
          rw [this]; exact Ev.now _
        · simp only [if_neg h0]
          by_cases h2 : digP (bytesOf s)[i]
          · simp only [if_neg (show ¬ (bytesOf s)[i] < 48 by have := h2.1; omega), if_neg (show ¬ (bytesOf s)[i] > 57 by have := h2.2; omega)]
            exact ev_prop (hs.trans ⟨fun h => h.2, fun h => ⟨.inr ⟨by omega, h2⟩, h⟩⟩).symm (ih (i + 1) (by omega))
          · have : decide (nameFrom (bytesOf s) i) = false := decide_eq_false (fun h => by rcases (hs.1 h).1 with h3 | h3; exact h1 h3; exact h2 h3.2)
            rw [this]
            by_cases h3 : (bytesOf s)[i] < 48
            · simp only [if_pos h3]; exact Ev.now _
            · simp only [if_neg h3, if_pos (show (bytesOf s)[i] > 57 by unfold digP at h2; omega)]; exact Ev.now _
      by_cases h3 : (bytesOf s)[i] ≥ 97
      · simp only [if_pos h3, if_neg (show ¬ (bytesOf s)[i] ≤ 122 by unfold lowP at h1; omega)]; exact key
      · simp only [if_neg h3]; exact key

theorem spec_NameOk_ev (s : ByteArray) (hn : s.size < 4611686018427387904) : Ev (fun k => spec_NameOk.f k s) (nameB (bytesOf s)) := spec_NameOk_l0 s hn s.size 0 (by omega)

open Classical in
theorem spec_l2Text_l0 (s : ByteArray) (hs : s.size < 4611686018427387904) : ∀ (d i : Nat), i + d = s.size → Ev (fun k => spec_l2Text.l0 k s (i : Int)) (decide ((∀ c ∈ (bytesOf s).drop i, seenP c) ∧ (s.size : Int) ≤ 60)) := by
  have hlen := bytesOf_length s
  intro d
  induction d with
  | zero =>
    intro i hi
    refine Ev.step (fun k => spec_l2Text.l0.eq_2 _ _ _) ?_
    simp only [if_neg (show ¬ ((i : Int) < (s.size : Int)) by omega)]
    refine ev_prop ?_ (Ev.now _)
    rw [List.drop_eq_nil_of_le (by omega)]
    exact ⟨fun h => ⟨fun c hc => by simp at hc, h⟩, fun h => h.2⟩
  | succ d ih =>
    intro i hi
    refine Ev.step (fun k => spec_l2Text.l0.eq_2 _ _ _) ?_
    simp only [if_pos (show ((i : Int) < (s.size : Int)) by omega), if_pos (show 0 ≤ (i : Int) by omega), bt_wrap s i (by omega), spec_l1In_eq, Option.bind_some, decide_eq_true_eq, wsucc i (by omega)]
    have e := List.drop_eq_getElem_cons (l := bytesOf s) (i := i) (by omega)
    by_cases hw : 32 ≤ (bytesOf s)[i] ∧ (bytesOf s)[i] ≤ 126
    · simp only [if_pos hw]
      refine ev_prop ?_ (ih (i + 1) (by omega))
      rw [e]
      constructor
      · rintro ⟨h1, h2⟩
        exact ⟨fun c hc => by rcases List.mem_cons.1 hc with h | h; exact h ▸ hw; exact h1 c h, h2⟩
      · rintro ⟨h1, h2⟩
        exact ⟨fun c hc => h1 c (List.mem_cons_of_mem _ hc), h2⟩
    · simp only [if_neg hw]
      refine ev_false (fun h => hw (h.1 _ ?_)) (Ev.now _)
      rw [e]; exact List.mem_cons_self ..

theorem spec_l2Text_ev (s : ByteArray) (hs : s.size < 4611686018427387904) : Ev (fun k => spec_l2Text.f k s) (plainB s 60) := by
  simp only [spec_l2Text.f, plainB]
  exact spec_l2Text_l0 s hs s.size 0 (by omega)

open Classical in
theorem spec_l2Form_l0 (key : ByteArray) (l : List S74) (hk : key.size ≤ 1048576) (hn : l.length ≤ 1048576) (hs : ∀ x ∈ l, x.f0.size ≤ 1048576 ∧ x.f1.size ≤ 1048576) : ∀ (d i : Nat), i + d = l.length →
    Ev (fun k => spec_l2Form.l0 k (i : Int) key l) (decide (formFrom key l i)) := by
  intro d
  induction d with
  | zero =>
    intro i hi
    refine Ev.step (fun k => spec_l2Form.l0.eq_2 _ _ _ _) ?_
    simp only [if_neg (show ¬ ((i : Int) < (l.length : Int)) by omega)]
    refine ev_prop (formFrom_end (by omega)).symm ?_
    refine Ev.bind (spec_NameOk_ev key (by omega)) ?_
    cases hnm : nameB (bytesOf key) with
    | false => simp only [if_neg (show ¬ (false = true) by decide)]; exact ev_false (fun h => by cases h.1) (Ev.now _)
    | true =>
      simp only [if_true]
      exact ev_prop ⟨fun h => ⟨(by first | trivial | rfl), by omega⟩, fun h => by have := h.2; omega⟩ (Ev.now _)
  | succ d ih =>
    intro i hi
    have hst := formFrom_step (key := key) (l := l) (j := i) (by omega)
    have hsz := hs l[i] (List.getElem_mem _)
    have hnext := ih (i + 1) (by omega)
    refine Ev.step (fun k => spec_l2Form.l0.eq_2 _ _ _ _) ?_
    simp only [if_pos (show ((i : Int) < (l.length : Int)) by omega), if_pos (show 0 ≤ (i : Int) by omega), rdi_Cell l i (by omega), wsucc i (by omega)]
    refine Ev.bind (spec_NameOk_ev l[i].f0 (by omega)) ?_
    cases hnm : nameB (bytesOf l[i].f0) with
    | false => simp only [if_neg (show ¬ (false = true) by decide)]; exact ev_false (fun h => by have := (hst.1 h).1.1; rw [hnm] at this; cases this) (Ev.now _)
    | true =>
      simp only [if_true]
      refine Ev.bind (spec_l2Text_ev l[i].f1 (by omega)) ?_
      cases htx : plainB l[i].f1 60 with
      | false => simp only [if_neg (show ¬ (false = true) by decide)]; exact ev_false (fun h => by have := (hst.1 h).1.2.1; rw [htx] at this; cases this) (Ev.now _)
      | true =>
        simp only [if_true]
        by_cases h0 : (i : Int) > 0
        · have he : wrap64 ((i : Int) - 1) = ((i - 1 : Nat) : Int) := by rw [wrap_id (by omega) (by omega)]; omega
          simp only [if_pos h0, he, if_pos (show 0 ≤ ((i - 1 : Nat) : Int) by omega), if_pos (show ((i - 1 : Nat) : Int) < (l.length : Int) by omega), rdi_Cell l (i - 1) (by omega)]
          by_cases hl : lessT (l[i - 1]'(by omega)).f0 l[i].f0
          · have hl2 : Op.bytesLess (l[i - 1]'(by omega)).f0.toList l[i].f0.toList = true := hl
            simp only [hl2, if_true]
            exact ev_prop (hst.trans ⟨fun h => h.2, fun h => ⟨⟨hnm, htx, fun _ => hl⟩, h⟩⟩).symm hnext
          · have hl2 : Op.bytesLess (l[i - 1]'(by omega)).f0.toList l[i].f0.toList = false := Bool.eq_false_iff.2 hl
            simp only [hl2, if_neg (show ¬ (false = true) by decide)]
            exact ev_false (fun h => hl ((hst.1 h).1.2.2 (by omega))) (Ev.now _)
        · simp only [if_neg h0]
          exact ev_prop (hst.trans ⟨fun h => h.2, fun h => ⟨⟨hnm, htx, fun h1 => by omega⟩, h⟩⟩).symm hnext

theorem spec_l2Form_ev (key : ByteArray) (l : List S74) (hk : key.size ≤ 1048576) (hn : l.length ≤ 1048576) (hs : ∀ x ∈ l, x.f0.size ≤ 1048576 ∧ x.f1.size ≤ 1048576) : Ev (fun k => spec_l2Form.f k key l) (formB key l) := spec_l2Form_l0 key l hk hn hs l.length 0 (by omega)

theorem spec_l2DocPut_l0 (key : ByteArray) (l : List S74) (hn : l.length ≤ 1048576) (hs : ∀ x ∈ l, x.f0.size ≤ 1048576 ∧ x.f1.size ≤ 1048576) : ∀ (d i : Nat) (acc : ByteArray), i + d = l.length → acc.size + 3000000 * d ≤ 10000000000000 →
    Ev (fun k => spec_l2DocPut.l0 k acc (i : Int) key l) (putFrom acc (l.drop i)) := by
  intro d
  induction d with
  | zero =>
    intro i acc hi ha
    refine Ev.step (fun k => spec_l2DocPut.l0.eq_2 _ _ _ _ _) ?_
    simp only [if_neg (show ¬ ((i : Int) < (l.length : Int)) by omega)]
    rw [List.drop_eq_nil_of_le (by omega)]; exact Ev.now _
  | succ d ih =>
    intro i acc hi ha
    have hsz := hs l[i] (List.getElem_mem _)
    have z1 : (acc ++ (⟨#[10]⟩ : ByteArray)).size = acc.size + 1 := by rw [ByteArray.size_append, size10]
    have z2 : ((acc ++ (⟨#[10]⟩ : ByteArray)) ++ l[i].f0).size = acc.size + 1 + l[i].f0.size := by rw [ByteArray.size_append, z1]
    have z3 : (((acc ++ (⟨#[10]⟩ : ByteArray)) ++ l[i].f0) ++ (⟨#[61]⟩ : ByteArray)).size = acc.size + 1 + l[i].f0.size + 1 := by rw [ByteArray.size_append, z2, size61]
    have z4 : ((((acc ++ (⟨#[10]⟩ : ByteArray)) ++ l[i].f0) ++ (⟨#[61]⟩ : ByteArray)) ++ l[i].f1).size = acc.size + 1 + l[i].f0.size + 1 + l[i].f1.size := by rw [ByteArray.size_append, z3]
    have h := ih (i + 1) _ (by omega) (show ((((acc ++ (⟨#[10]⟩ : ByteArray)) ++ l[i].f0) ++ (⟨#[61]⟩ : ByteArray)) ++ l[i].f1).size + 3000000 * d ≤ 10000000000000 by omega)
    refine Ev.step (fun k => spec_l2DocPut.l0.eq_2 _ _ _ _ _) ?_
    simp only [if_pos (show ((i : Int) < (l.length : Int)) by omega), if_pos (show 0 ≤ (i : Int) by omega), rdi_Cell l i (by omega), wsucc i (by omega), z1, z2, z3, if_pos (show acc.size + 1 ≤ 9223372036854775807 by omega), if_pos (show acc.size + 1 + l[i].f0.size ≤ 9223372036854775807 by omega), if_pos (show acc.size + 1 + l[i].f0.size + 1 ≤ 9223372036854775807 by omega), if_pos (show acc.size + 1 + l[i].f0.size + 1 + l[i].f1.size ≤ 9223372036854775807 by omega)]
    rw [drop_get l i (by omega)]
    exact h

theorem spec_l2DocPut_ev (key : ByteArray) (l : List S74) (hk : key.size ≤ 1048576) (hn : l.length ≤ 1048576) (hs : ∀ x ∈ l, x.f0.size ≤ 1048576 ∧ x.f1.size ≤ 1048576) : Ev (fun k => spec_l2DocPut.f k key l) (putFrom key l) := spec_l2DocPut_l0 key l hn hs l.length 0 key (by omega) (by omega)

theorem toNat_cast (i : Nat) : ((i : Int)).toNat = i := by simp

theorem bt_u8 (s : ByteArray) (i : Nat) (h : i < s.data.toList.length) : bt s (i : Int) = ((s.data.toList[i]).toNat : Int) := by
  rw [bt_get s i (by rw [bytesOf_length]; exact h)]
  unfold bytesOf
  rw [List.getElem_map]

theorem extract_mkT (s : ByteArray) (a b : Nat) : s.extract a b = mkT ((s.data.toList.drop a).take (b - a)) := by
  rw [← mkT_data (s.extract a b), Lib.extract_data]

theorem take_rest (l : List UInt8) {f i : Nat} (hf : f ≤ i) : (l.drop f).take (i - f) ++ l.drop i = l.drop f := by
  have := List.take_append_drop (i - f) (l.drop f)
  rw [List.drop_drop, show f + (i - f) = i by omega] at this
  exact this

theorem take_step {l : List UInt8} {f i : Nat} (hf : f ≤ i) (hi : i < l.length) : (l.drop f).take (i + 1 - f) = (l.drop f).take (i - f) ++ [l[i]] := by
  have e : i + 1 - f = (i - f) + 1 := by omega
  rw [e, List.take_add_one, List.getElem?_drop, show f + (i - f) = i by omega, List.getElem?_eq_getElem hi]; rfl

theorem u8_eq_iff (a b : UInt8) : ((a.toNat : Int) = (b.toNat : Int)) ↔ a = b := ⟨fun h => UInt8.toNat_inj.1 (by omega), fun h => by rw [h]⟩

theorem l1Cut_l0 (c : UInt8) (s : ByteArray) (hs : s.size ≤ 1099511627776) (most : Nat) : ∀ (d i f n : Nat) (out : List ByteArray), i + d = s.size → f ≤ i → out.length + n = most → out.length ≤ i →
    Ev (fun k => spec_l1Cut.l0 k s (c.toNat : Int) (most : Int) out (f : Int) (i : Int)) (out ++ (cutW c n ((s.data.toList.drop f).take (i - f)) (s.data.toList.drop i)).map mkT) := by
  have hlen := data_size s
  have fin : ∀ (i f : Nat) (out : List ByteArray), f ≤ i → i ≤ s.size → out.length ≤ i → ∀ k, spec_l1Cut.j1 (k + 1) s (c.toNat : Int) (most : Int) out (f : Int) (i : Int) false = some (out ++ [mkT (s.data.toList.drop f)]) := by
    intro i f out hf hi ho k
    have e := extract_mkT s f s.size
    rw [List.take_of_length_le (by rw [List.length_drop]; omega)] at e
    rw [spec_l1Cut.j1.eq_2]
    simp only [if_neg (show ¬ (false = true) by decide), if_pos (show 0 ≤ (f : Int) by omega), if_pos (show (f : Int) ≤ (s.size : Int) by omega), if_pos (show out.length < 8796093022208 by omega), toNat_cast, e]
  have finE : ∀ (i f : Nat) (out : List ByteArray), f ≤ i → i ≤ s.size → out.length ≤ i → Ev (fun k => spec_l1Cut.j1 k s (c.toNat : Int) (most : Int) out (f : Int) (i : Int) false) (out ++ [mkT (s.data.toList.drop f)]) := by
    intro i f out hf hi ho
    refine ⟨1, fun k hk => ?_⟩
    obtain ⟨k, rfl⟩ : ∃ m, k = m + 1 := ⟨k - 1, by omega⟩
    exact fin i f out hf hi ho k
  intro d
  induction d with
  | zero =>
    intro i f n out hi hf hn ho
    refine Ev.step (fun k => spec_l1Cut.l0.eq_2 _ _ _ _ _ _ _) ?_
    simp only [if_neg (show ¬ ((i : Int) < (s.size : Int)) by omega)]
    have e := take_rest s.data.toList hf
    have e0 : s.data.toList.drop i = [] := List.drop_eq_nil_of_le (by omega)
    rw [e0, List.append_nil] at e
    have hc : cutW c n ((s.data.toList.drop f).take (i - f)) (s.data.toList.drop i) = [s.data.toList.drop f] := by
      rw [e0, e]; cases n <;> rfl
    rw [hc]
    exact finE i f out hf (by omega) ho
  | succ d ih =>
    intro i f n out hi hf hn ho
    refine Ev.step (fun k => spec_l1Cut.l0.eq_2 _ _ _ _ _ _ _) ?_
    simp only [if_pos (show ((i : Int) < (s.size : Int)) by omega)]
    cases n with
    | zero =>
      rw [decide_eq_false (show ¬ (out.length : Int) < (most : Int) by omega), cutW_zero, take_rest _ hf]
      exact finE i f out hf (by omega) ho
    | succ n =>
      rw [decide_eq_true (show (out.length : Int) < (most : Int) by omega)]
      refine Ev.step (fun k => spec_l1Cut.j1.eq_2 _ _ _ _ _ _ _ _) ?_
      have hil : i < s.data.toList.length := by omega
      have ed : s.data.toList.drop i = s.data.toList[i] :: s.data.toList.drop (i + 1) := List.drop_eq_getElem_cons hil
      rw [ed]
      simp only [if_true, if_pos (show 0 ≤ (i : Int) by omega), if_pos (show ((i : Int) < (s.size : Int)) by omega), bt_u8 s i hil, u8_eq_iff, wsucc i (by omega)]
      by_cases hb : s.data.toList[i] = c
      · have e := extract_mkT s f i
        rw [cutW, if_pos hb]
        simp only [if_pos hb, if_pos (show 0 ≤ (f : Int) by omega), if_pos (show (f : Int) ≤ (i : Int) by omega), if_pos (show (i : Int) ≤ (s.size : Int) by omega), if_pos (show out.length < 8796093022208 by omega), toNat_cast, e]
        have h := ih (i + 1) (i + 1) n (out ++ [mkT ((s.data.toList.drop f).take (i - f))]) (by omega) (Nat.le_refl _) (by simp; omega) (by simp; omega)
        rw [Nat.sub_self, List.take_zero, List.append_assoc] at h
        exact h
      · rw [cutW, if_neg hb]
        simp only [if_neg hb]
        have h := ih (i + 1) f (n + 1) out (by omega) (by omega) hn (by omega)
        rw [take_step hf hil] at h
        exact h

theorem spec_l1Cut_ev (c : UInt8) (n : Nat) (s : ByteArray) (hs : s.size ≤ 1099511627776) : Ev (fun k => spec_l1Cut.f k s (c.toNat : Int) (n : Int)) (cutT c n s) := by
  simp only [spec_l1Cut.f, cutT]
  have := l1Cut_l0 c s hs n s.size 0 0 n [] (by omega) (Nat.le_refl _) (by simp) (by simp)
  simpa using this

theorem cutT_length (c : UInt8) (n : Nat) (s : ByteArray) : (cutT c n s).length ≤ s.size + 1 ∧ (cutT c n s).length ≤ n + 1 ∧ 1 ≤ (cutT c n s).length := by
  unfold cutT
  have := cutW_length c s.data.toList n []
  rw [List.length_map]; rw [data_size] at this; omega

theorem cutT_size {c : UInt8} {n : Nat} {s p : ByteArray} (h : p ∈ cutT c n s) : p.size ≤ s.size := by
  obtain ⟨x, hx, rfl⟩ := List.mem_map.1 h
  have := cutW_size c _ _ _ x hx
  rw [data_size] at this
  rw [mkT_size]; simpa using this

theorem spec_DocGet_l0 (s key : ByteArray) (hk : key.size ≤ 1048576) (L : List ByteArray) (hL : L.length ≤ 1048576) (hx : ∀ x ∈ L, x.size ≤ 1048576) : ∀ (d i : Nat) (acc : List S74), i + d = L.length → 1 ≤ i → acc.length ≤ i → (∀ x ∈ acc, x.f0.size ≤ 1048576 ∧ x.f1.size ≤ 1048576) →
    Ev (fun k => spec_DocGet.l0 k s L (i : Int) key acc) (docRes s (match cellsS (L.drop i) with | some cs => some (key, acc ++ cs) | none => none)) := by
  intro d
  induction d with
  | zero =>
    intro i acc hi h1 ha hsz
    refine Ev.step (fun k => spec_DocGet.l0.eq_2 _ _ _ _ _ _) ?_
    simp only [if_neg (show ¬ ((i : Int) < (L.length : Int)) by omega)]
    rw [List.drop_eq_nil_of_le (by omega)]
    show Ev _ (docRes s (some (key, acc ++ [])))
    rw [List.append_nil]
    refine Ev.bind (spec_l2Form_ev key acc hk (by omega) hsz) ?_
    simp only [docRes]
    cases hf : formB key acc with
    | false => exact Ev.now _
    | true =>
      simp only [if_true]
      refine Ev.bind (spec_l2DocPut_ev key acc hk (by omega) hsz) ?_
      simp only [toList_inj]
      by_cases hp : putFrom key acc = s
      · simp only [if_pos hp]; exact Ev.now _
      · simp only [if_neg hp]; exact Ev.now _
  | succ d ih =>
    intro i acc hi h1 ha hsz
    have hxi := hx L[i] (List.getElem_mem _)
    have hc := cutT_length 61 1 L[i]
    refine Ev.step (fun k => spec_DocGet.l0.eq_2 _ _ _ _ _ _) ?_
    simp only [if_pos (show ((i : Int) < (L.length : Int)) by omega), if_pos (show 0 ≤ (i : Int) by omega), rdOf_get _ L i (by omega)]
    rw [drop_get L i (by omega), cellsS]
    refine Ev.bind (spec_l1Cut_ev 61 1 L[i] (by omega)) ?_
    by_cases h2 : (cutT 61 1 L[i]).length < 2
    · simp only [if_pos (show ((cutT 61 1 L[i]).length : Int) < 2 by omega)]
      have e : cellS L[i] = none := by
        unfold cellS
        match hcut : cutT 61 1 L[i] with
        | [] => rfl
        | [a] => rfl
        | a :: b :: r => rw [hcut] at h2; simp only [List.length_cons] at h2; omega
      simp only [e, docRes]
      exact Ev.now _
    · match hcut : cutT 61 1 L[i] with
      | [] => rw [hcut] at h2; simp at h2
      | [a] => rw [hcut] at h2; simp at h2
      | a :: b :: x :: r => rw [hcut] at hc; simp at hc
      | [a, b] =>
        have e : cellS L[i] = some ⟨a, b⟩ := by unfold cellS; rw [hcut]
        have za : a.size ≤ 1048576 := by have := cutT_size (c := 61) (n := 1) (s := L[i]) (p := a) (by rw [hcut]; simp); omega
        have zb : b.size ≤ 1048576 := by have := cutT_size (c := 61) (n := 1) (s := L[i]) (p := b) (by rw [hcut]; simp); omega
        have r0 : rdOf ByteArray.empty [a, b] 0 = a := rfl
        have r1 : rdOf ByteArray.empty [a, b] 1 = b := rfl
        have hl : (([a, b] : List ByteArray).length : Int) = 2 := rfl
        simp only [e, hl, if_neg (show ¬ ((2 : Int) < 2) by decide), if_pos (show (0 : Int) < 2 by decide), if_pos (show (1 : Int) < 2 by decide), r0, r1, if_pos (show acc.length < 4398046511104 by omega), wsucc i (by omega)]
        have h := ih (i + 1) (acc ++ [(⟨a, b⟩ : S74)]) (by omega) (by omega) (by simp; omega) (fun x hx => by
          rcases List.mem_append.1 hx with h | h
          · exact hsz x h
          · rw [List.mem_singleton.1 h]; exact ⟨za, zb⟩)
        cases hcs : cellsS (L.drop (i + 1)) with
        | none => rw [hcs] at h; exact h
        | some cs =>
          rw [hcs] at h
          have ea : acc ++ [(⟨a, b⟩ : S74)] ++ cs = acc ++ ⟨a, b⟩ :: cs := by rw [List.append_assoc]; rfl
          simp only [ea] at h
          exact h

theorem spec_DocGet_ev (s : ByteArray) (hs : s.size ≤ 1048576) : Ev (fun k => spec_DocGet.f k s) (docRes s (docS s)) := by
  simp only [spec_DocGet.f]
  refine Ev.bind (spec_l1Cut_ev 10 5 s (by omega)) ?_
  have hlen := cutT_length 10 5 s
  have hsz : ∀ x ∈ cutT 10 5 s, x.size ≤ 1048576 := fun x hx => by have := cutT_size hx; omega
  have e : docS s = match cellsS ((cutT 10 5 s).drop 1) with | some cs => some ((cutT 10 5 s).headD s, cs) | none => none := by
    unfold docS
    cases hc : cutT 10 5 s with
    | nil => rw [hc] at hlen; simp at hlen
    | cons a r => rfl
  have hk : rdOf ByteArray.empty (cutT 10 5 s) 0 = (cutT 10 5 s).headD s := by
    cases hc : cutT 10 5 s with
    | nil => rw [hc] at hlen; simp at hlen
    | cons a r => rfl
  have hks : ((cutT 10 5 s).headD s).size ≤ 1048576 := by
    cases hc : cutT 10 5 s with
    | nil => rw [hc] at hlen; simp at hlen
    | cons a r => exact hsz a (by rw [hc]; simp)
  have h := spec_DocGet_l0 s ((cutT 10 5 s).headD s) hks (cutT 10 5 s) (by omega) hsz ((cutT 10 5 s).length - 1) 1 [] (by omega) (Nat.le_refl _) (by simp) (fun x hx => by simp at hx)
  simp only [if_pos (show 0 < ((cutT 10 5 s).length : Int) by omega), hk]
  rw [e]
  exact h

theorem docGet_both (s : ByteArray) (hs : s.size ≤ 1048576) : Ev (fun k => spec_DocGet.f k s) (docRes s (some (docI s))) ∧ Ev (fun k => impl_DocGet.f k s) (docRes s (some (docI s))) := by
  have h := spec_DocGet_ev s hs
  rw [docGet_same] at h
  exact ⟨h, impl_DocGet_ev s hs⟩

theorem docRes_pos {s k : ByteArray} {cs : List S74} (h1 : formB k cs = true) (h2 : putFrom k cs = s) : docRes s (some (k, cs)) = (k, cs, true) := by
  simp only [docRes, if_pos h1, if_pos h2]

/-- What is read is at most four cells. -/
theorem docRes_form (s : ByteArray) (o : Option (ByteArray × List S74)) : ((docRes s o).2.2 = false ∧ docRes s o = (⟨#[]⟩, [], false)) ∨ ((docRes s o).2.2 = true ∧ formB (docRes s o).1 (docRes s o).2.1 = true ∧ putFrom (docRes s o).1 (docRes s o).2.1 = s) := by
  cases o with
  | none => exact Or.inl ⟨rfl, rfl⟩
  | some x =>
    obtain ⟨k, cs⟩ := x
    by_cases h1 : formB k cs = true
    · by_cases h2 : putFrom k cs = s
      · rw [docRes_pos h1 h2]; exact Or.inr ⟨rfl, h1, h2⟩
      · have e : docRes s (some (k, cs)) = (⟨#[]⟩, [], false) := by simp only [docRes, if_pos h1, if_neg h2]
        rw [e]; exact Or.inl ⟨rfl, rfl⟩
    · have e : docRes s (some (k, cs)) = (⟨#[]⟩, [], false) := by simp only [docRes, if_neg h1]
      rw [e]; exact Or.inl ⟨rfl, rfl⟩

theorem lineT_size {c : S74} (h : c.f0.size ≤ 300 ∧ c.f1.size ≤ 300) : (lineT c).size ≤ 601 := by
  unfold lineT
  rw [ByteArray.size_append, ByteArray.size_append, size61]; omega

theorem tailT_size (m : Nat) (sep : ByteArray) : ∀ (xs : List ByteArray), (∀ x ∈ xs, x.size ≤ m) → (tailT xs sep).size ≤ (sep.size + m) * xs.length
  | [], _ => by rw [tailT_nil]; exact Nat.zero_le _
  | x :: xs, h => by
    have h1 := tailT_size m sep xs (fun y hy => h y (List.mem_cons_of_mem _ hy))
    have h2 := h x (by simp)
    rw [tailT_cons, ByteArray.size_append, ByteArray.size_append, List.length_cons, Nat.mul_succ]
    omega

theorem joinT_nil (sep : ByteArray) : joinT [] sep = ⟨#[]⟩ := rfl

theorem joinT_size (m : Nat) (sep : ByteArray) (xs : List ByteArray) (h : ∀ x ∈ xs, x.size ≤ m) : (joinT xs sep).size ≤ (sep.size + m) * xs.length := by
  cases xs with
  | nil => rw [joinT_nil]; exact Nat.zero_le _
  | cons x xs =>
    have h1 := tailT_size m sep xs (fun y hy => h y (List.mem_cons_of_mem _ hy))
    have h2 := h x (by simp)
    rw [joinT_cons, ByteArray.size_append, List.length_cons, Nat.mul_succ]
    omega

/-- Cells of short texts. -/
def shortCells (l : List S74) : Prop := ∀ c ∈ l, c.f0.size ≤ 300 ∧ c.f1.size ≤ 300

theorem docPutB_size {key : ByteArray} {r : List S74} (hk : key.size ≤ 300) (hr : r.length ≤ 5) (hs : shortCells r) : (docPutB key r).size ≤ 4000 := by
  unfold docPutB
  split
  · rw [putFrom_join]
    have := joinT_size 601 ⟨#[10]⟩ (key :: r.map lineT) (fun x hx => by
      rcases List.mem_cons.1 hx with rfl | hx
      · omega
      · obtain ⟨c, hc, rfl⟩ := List.mem_map.1 hx
        exact lineT_size (hs c hc))
    rw [size10, List.length_cons, List.length_map] at this
    omega
  · simp [ByteArray.size]

theorem spec_DocPut_ev (key : ByteArray) (l : List S74) (hk : key.size ≤ 1048576) (hn : l.length ≤ 1048576) (hs : ∀ x ∈ l, x.f0.size ≤ 1048576 ∧ x.f1.size ≤ 1048576) : Ev (fun k => spec_DocPut.f k key l) (docPutB key l) := by
  simp only [spec_DocPut.f, docPutB]
  refine Ev.bind (spec_l2Form_ev key l hk hn hs) ?_
  cases formB key l with
  | false => exact Ev.now _
  | true => simp only [if_true]; exact Ev.bind (spec_l2DocPut_ev key l hk hn hs) (Ev.now _)

/-- What a code reads as: at most 2000 bytes. -/
def CodeOk (s : List Int) : Prop := s.length ≤ 2000 ∧ ∀ c ∈ s, 0 ≤ c ∧ c ≤ 255

theorem l1Open_eq (s : List Int) (hb : ∀ c ∈ s, 0 ≤ c ∧ c ≤ 255) : ∃ s', spec_l1Open.f s = some (s', 0) ∧ CodeOk s' := by
  unfold spec_l1Open.f
  by_cases h : (s.length : Int) > 2000
  · rw [if_pos h, if_pos (by omega)]
    exact ⟨_, rfl, by rw [List.length_take]; omega, fun c hc => hb c (List.mem_of_mem_take hc)⟩
  · rw [if_neg h]
    exact ⟨_, rfl, by omega, hb⟩

theorem CodeOk.byte {s : List Int} (h : CodeOk s) (i : Int) : 0 ≤ rd s i ∧ rd s i ≤ 255 := by
  unfold rd
  rw [List.getD_eq_getElem?_getD]
  rcases Nat.lt_or_ge i.toNat s.length with hi | hi
  · rw [List.getElem?_eq_getElem hi]; exact h.2 _ (List.getElem_mem _)
  · rw [List.getElem?_eq_none hi]; simp

theorem tdiv_nn {a b : Int} (ha : 0 ≤ a) (hb : 0 < b) : 0 ≤ Int.tdiv a b ∧ Int.tdiv a b ≤ a := by
  rw [Int.tdiv_eq_ediv_of_nonneg ha]
  exact ⟨Int.ediv_nonneg ha (by omega), Int.ediv_le_self _ ha⟩

theorem tmod_nn {a b : Int} (ha : 0 ≤ a) (hb : 0 < b) : 0 ≤ Int.tmod a b ∧ Int.tmod a b < b := by
  rw [Int.tmod_eq_emod_of_nonneg ha]
  exact ⟨Int.emod_nonneg _ (by omega), Int.emod_lt_of_pos _ hb⟩

theorem xor_i64 (a b : Nat) (ha : a < 2 ^ 62) (hb : b < 2 ^ 62) : ∃ m : Nat, Go.bits .xor .i64 (a : Int) (b : Int) = (m : Int) ∧ m < 2 ^ 62 := by
  have ha' : a % 2 ^ IntKind.i64.bits = a := Nat.mod_eq_of_lt (Nat.lt_of_lt_of_le ha (by decide))
  have hb' : b % 2 ^ IntKind.i64.bits = b := Nat.mod_eq_of_lt (Nat.lt_of_lt_of_le hb (by decide))
  have hx := Nat.xor_lt_two_pow ha hb
  refine ⟨a ^^^ b, ?_, hx⟩
  simp only [Go.bits, BitVec.ofInt_natCast, BitVec.toNat_xor, BitVec.toNat_ofNat, ha', hb']
  rw [IntKind.wrap_i64]
  have : ((a ^^^ b : Nat) : Int) < 4611686018427387904 := by have := hx; omega
  omega

theorem pick_ev (s : List Int) (hs : CodeOk s) (p n : Int) (hp : 0 ≤ p) (hp1 : p ≤ 1000000) (hn : 1 ≤ n) (hn1 : n ≤ 1000000) :
    ∃ r, Ev (fun k => spec_l1Rd_pick.f k s p n) (r, p + 1) ∧ 0 ≤ r ∧ r < n := by
  simp only [spec_l1Rd_pick.f, if_neg (show ¬ n < 1 by omega), wrap_id (x := p + 1) (by omega) (by omega)]
  by_cases h0 : s.length = 0
  · refine ⟨0, Ev.step (fun k => spec_l1Rd_pick.j0.eq_2 _ _ _ _ _) ?_, by omega, by omega⟩
    simp only [show ((s.length : Int) == 0) = true by simp [h0], if_true]
    exact Ev.now _
  · have hl : 0 < (s.length : Int) := by omega
    have hb : ((s.length : Int) == 0) = false := by simp; intro h; exact h0 (by rw [h]; rfl)
    have e1 : wrap64 (p + 1 - 1) = p := by rw [wrap_id (by omega) (by omega)]; omega
    by_cases hlt : p < (s.length : Int)
    · have hc := hs.byte p
      refine ⟨Int.tmod (rd s p) n, Ev.step (fun k => spec_l1Rd_pick.j0.eq_2 _ _ _ _ _) ?_, (tmod_nn hc.1 (by omega)).1, (tmod_nn hc.1 (by omega)).2⟩
      simp only [hb, if_neg (show ¬ (false = true) by decide), e1, if_pos hlt, if_pos hp, if_neg (show ¬ n = 0 by omega), wrap_id (x := rd s p) (by omega) (by omega)]
      exact Ev.now _
    · have m1 := tmod_nn hp hl
      have e2 : wrap64 (wrap64 (p * 7) + 3) = p * 7 + 3 := by rw [wrap_id (x := p * 7) (by omega) (by omega), wrap_id (by omega) (by omega)]
      have m2 := tmod_nn (show 0 ≤ p * 7 + 3 by omega) hl
      have d1 := tdiv_nn hp hl
      obtain ⟨A, hA⟩ : ∃ A, rd s (Int.tmod p (s.length : Int)) = A := ⟨_, rfl⟩
      obtain ⟨B, hB⟩ : ∃ B, rd s (Int.tmod (p * 7 + 3) (s.length : Int)) = B := ⟨_, rfl⟩
      obtain ⟨C, hC⟩ : ∃ C, Int.tdiv p (s.length : Int) = C := ⟨_, rfl⟩
      have a1 := hs.byte (Int.tmod p (s.length : Int)); rw [hA] at a1
      have b1 := hs.byte (Int.tmod (p * 7 + 3) (s.length : Int)); rw [hB] at b1
      rw [hC] at d1
      have v1 : wrap64 (wrap64 (wrap64 (wrap64 (wrap64 A * 131) + wrap64 (wrap64 B * 1117)) + wrap64 (p * 29)) + wrap64 (wrap64 C * 53)) = A * 131 + B * 1117 + p * 29 + C * 53 := by
        rw [wrap_id (x := A) (by omega) (by omega), wrap_id (x := B) (by omega) (by omega), wrap_id (x := C) (by omega) (by omega), wrap_id (x := A * 131) (by omega) (by omega), wrap_id (x := B * 1117) (by omega) (by omega), wrap_id (x := p * 29) (by omega) (by omega), wrap_id (x := C * 53) (by omega) (by omega), wrap_id (x := A * 131 + B * 1117) (by omega) (by omega), wrap_id (x := A * 131 + B * 1117 + p * 29) (by omega) (by omega), wrap_id (by omega) (by omega)]
      obtain ⟨V, hV⟩ : ∃ V : Nat, A * 131 + B * 1117 + p * 29 + C * 53 = (V : Int) := ⟨(A * 131 + B * 1117 + p * 29 + C * 53).toNat, by omega⟩
      have hVb : V < 2 ^ 62 := by have : (2 : Nat) ^ 62 = 4611686018427387904 := by decide
                                  omega
      have hd := tdiv_nn (show 0 ≤ (V : Int) by omega) (show (0 : Int) < 64 by omega)
      obtain ⟨Q, hQ⟩ : ∃ Q : Nat, Int.tdiv (V : Int) 64 = (Q : Int) := ⟨(Int.tdiv (V : Int) 64).toNat, by omega⟩
      have hQb : Q < 2 ^ 62 := by omega
      obtain ⟨m, hm, hmb⟩ := xor_i64 V Q hVb hQb
      have e3 : wrap64 (Int.tdiv (V : Int) 64) = (Q : Int) := by
        have : (2 : Nat) ^ 62 = 4611686018427387904 := by decide
        rw [hQ, wrap_id (by omega) (by omega)]
      have mm := tmod_nn (show 0 ≤ (m : Int) by omega) (show 0 < n by omega)
      refine ⟨Int.tmod (m : Int) n, Ev.step (fun k => spec_l1Rd_pick.j0.eq_2 _ _ _ _ _) ?_, mm.1, mm.2⟩
      simp only [hb, if_neg (show ¬ (false = true) by decide), e1, if_neg hlt, if_neg (show ¬ (s.length : Int) = 0 by omega), if_pos m1.1, if_pos m1.2, e2, if_pos m2.1, if_pos m2.2, if_neg (show ¬ n = 0 by omega), hA, hB, hC, v1, hV, e3, hm]
      exact Ev.now _

theorem of_ev (s : List Int) (hs : CodeOk s) (p : Int) (l : List ByteArray) (hp : 0 ≤ p) (hp1 : p ≤ 1000000) (hl : 1 ≤ l.length) (hl1 : l.length ≤ 1000000) :
    ∃ r, Ev (fun k => spec_l1Rd_of.f k s p l) (r, p + 1) ∧ r ∈ l := by
  obtain ⟨i, hi, h0, h1⟩ := pick_ev s hs p (l.length : Int) hp hp1 (by omega) (by omega)
  obtain ⟨j, rfl⟩ : ∃ j : Nat, i = (j : Int) := ⟨i.toNat, by omega⟩
  refine ⟨l[j]'(by omega), ?_, List.getElem_mem _⟩
  simp only [spec_l1Rd_of.f]
  refine Ev.bind hi ?_
  simp only [if_pos h0, if_pos h1, rdOf_get _ l j (by omega)]
  exact Ev.now _

theorem l11Cut_ev (s : List Int) (hs : CodeOk s) (p : Int) (t : ByteArray) (hp : 0 ≤ p) (hp1 : p ≤ 700000) (ht : t.size ≤ 900000) : ∃ r q, Ev (fun k => spec_l11Cut.f k s p t) (r, q) ∧ p ≤ q ∧ q ≤ p + 3 ∧ r.size ≤ t.size + 1 := by
  obtain ⟨i, hi, i0, i1⟩ := pick_ev s hs p ((t.size : Int) + 1) hp (by omega) (by omega) (by omega)
  obtain ⟨j, hj, j0, j1⟩ := pick_ev s hs (p + 1) 5 (by omega) (by omega) (by omega) (by omega)
  obtain ⟨m, rfl⟩ : ∃ m : Nat, i = (m : Int) := ⟨i.toNat, by omega⟩
  have z1 : (t.extract 0 m).size = m := by rw [ByteArray.size_extract]; omega
  have z2 : (t.extract m t.size).size = t.size - m := by rw [ByteArray.size_extract]; omega
  simp only [spec_l11Cut.f, wrap_id (x := (t.size : Int) + 1) (by omega) (by omega)]
  by_cases c0 : j = 0
  · obtain ⟨x, hx, hxm⟩ := of_ev s hs (p + 1 + 1) (([(⟨#[32]⟩ : ByteArray), (⟨#[58]⟩ : ByteArray), (⟨#[10]⟩ : ByteArray), (⟨#[48]⟩ : ByteArray), (⟨#[120]⟩ : ByteArray), (⟨#[61]⟩ : ByteArray), (⟨#[45]⟩ : ByteArray), (⟨#[41]⟩ : ByteArray)] : List ByteArray)) (by omega) (by omega) (by decide) (by decide)
    have hxs : x.size = 1 := by
      have h : ∀ x ∈ (([(⟨#[32]⟩ : ByteArray), (⟨#[58]⟩ : ByteArray), (⟨#[10]⟩ : ByteArray), (⟨#[48]⟩ : ByteArray), (⟨#[120]⟩ : ByteArray), (⟨#[61]⟩ : ByteArray), (⟨#[45]⟩ : ByteArray), (⟨#[41]⟩ : ByteArray)] : List ByteArray)), x.size = 1 := by decide
      exact h x hxm
    have z3 : (t.extract 0 m ++ x).size = m + 1 := by rw [ByteArray.size_append, z1, hxs]
    refine ⟨(t.extract 0 m ++ x) ++ t.extract m t.size, p + 1 + 1 + 1, Ev.bind hi (Ev.bind hj ?_), by omega, by omega, by rw [ByteArray.size_append, z3, z2]; omega⟩
    simp only [if_pos c0, if_pos i0, if_pos (show (m : Int) ≤ (t.size : Int) by omega), toNat_cast]
    refine Ev.bind hx ?_
    simp only [z1, z2, z3, hxs, if_pos (show m + 1 ≤ 9223372036854775807 by omega), if_pos (show m + 1 + (t.size - m) ≤ 9223372036854775807 by omega)]
    exact Ev.now _
  · by_cases c1 : j = 1
    · refine ⟨t.extract 0 m, p + 1 + 1, Ev.bind hi (Ev.bind hj ?_), by omega, by omega, by omega⟩
      simp only [if_neg c0, if_pos c1, if_pos i0, if_pos (show (m : Int) ≤ (t.size : Int) by omega), toNat_cast]
      exact Ev.now _
    · refine ⟨t, p + 1 + 1, Ev.bind hi (Ev.bind hj ?_), by omega, by omega, by omega⟩
      simp only [if_neg c0, if_neg c1]
      exact Ev.now _

def docKeys : List ByteArray := [(⟨#[97]⟩ : ByteArray), (⟨#[98]⟩ : ByteArray), (⟨#[99]⟩ : ByteArray), (⟨#[100]⟩ : ByteArray), (⟨#[101]⟩ : ByteArray), (⟨#[107, 57]⟩ : ByteArray)]

theorem docKeys_size {x : ByteArray} (h : x ∈ docKeys) : x.size ≤ 300 := by
  have : ∀ x ∈ docKeys, x.size ≤ 300 := by decide
  exact this x h

def docNames : List ByteArray := [(⟨#[98, 111, 100, 121]⟩ : ByteArray), (⟨#[99, 111, 108, 111, 114]⟩ : ByteArray), (⟨#[112, 114, 105, 99, 101]⟩ : ByteArray), (⟨#[116, 105, 116, 108, 101]⟩ : ByteArray)]

theorem docNames_size {x : ByteArray} (h : x ∈ docNames) : x.size ≤ 300 := by
  have : ∀ x ∈ docNames, x.size ≤ 300 := by decide
  exact this x h

def docNums : List ByteArray := [(⟨#[48]⟩ : ByteArray), (⟨#[53]⟩ : ByteArray), (⟨#[55]⟩ : ByteArray), (⟨#[45, 51]⟩ : ByteArray), (⟨#[49, 50]⟩ : ByteArray), (⟨#[57, 57, 57, 57, 57, 57, 57, 57, 57]⟩ : ByteArray)]

theorem docNums_size {x : ByteArray} (h : x ∈ docNums) : x.size ≤ 300 := by
  have : ∀ x ∈ docNums, x.size ≤ 300 := by decide
  exact this x h

def docTagT : List ByteArray := [(⟨#[114, 101, 100]⟩ : ByteArray), (⟨#[98, 108, 117, 101]⟩ : ByteArray), (⟨#[114, 101, 100, 44, 98, 108, 117, 101]⟩ : ByteArray), (⟨#[98, 108, 117, 101, 44, 114, 101, 100, 44, 114, 101, 100]⟩ : ByteArray), (⟨#[103, 114, 101, 101, 110]⟩ : ByteArray)]

theorem docTagT_size {x : ByteArray} (h : x ∈ docTagT) : x.size ≤ 300 := by
  have : ∀ x ∈ docTagT, x.size ≤ 300 := by decide
  exact this x h

theorem rdf_Field (l : List S32) (j : Nat) (h : j < l.length) : ∃ f, rd_T32 l (j : Int) = f := ⟨_, rfl⟩

theorem shortCells_snoc {l : List S74} (h : shortCells l) {a b : ByteArray} (ha : a.size ≤ 300) (hb : b.size ≤ 300) : shortCells (l ++ [⟨a, b⟩]) := by
  intro c hc
  rcases List.mem_append.1 hc with h1 | h1
  · exact h c h1
  · rw [List.mem_singleton.1 h1]; exact ⟨ha, hb⟩

theorem wpred (j : Nat) (h : j < 9223372036854775807) : wrap64 (((j + 1 : Nat) : Int) - 1) = (j : Int) := by rw [wrap_id (by omega) (by omega)]; omega

def wordList : List ByteArray := [(⟨#[114, 101, 100]⟩ : ByteArray), (⟨#[82, 101, 100]⟩ : ByteArray), (⟨#[97, 112, 112, 108, 101]⟩ : ByteArray), (⟨#[97, 112, 112, 108, 101, 115]⟩ : ByteArray), (⟨#[112, 105, 101]⟩ : ByteArray), (⟨#[116, 104, 101]⟩ : ByteArray), (⟨#[111, 102]⟩ : ByteArray), (⟨#[103, 108, 97, 115, 115]⟩ : ByteArray), (⟨#[98, 117, 115]⟩ : ByteArray), (⟨#[116, 114, 101, 101]⟩ : ByteArray), (⟨#[116, 114, 101, 101, 115]⟩ : ByteArray), (⟨#[55]⟩ : ByteArray), (⟨#[118, 101, 114, 121, 108, 111, 110, 103, 119, 111, 114, 100, 105, 110, 100, 101, 101, 100]⟩ : ByteArray), (⟨#[97]⟩ : ByteArray)]

theorem l11Word_ev (s : List Int) (hs : CodeOk s) (p : Int) (hp : 0 ≤ p) (hp1 : p ≤ 1000000) : ∃ r, Ev (fun k => spec_l11Word.f k s p) (r, p + 1) ∧ r ∈ wordList := by
  obtain ⟨r, hr, hm⟩ := of_ev s hs p wordList hp hp1 (by decide) (by decide)
  exact ⟨r, Ev.bind hr (Ev.now _), hm⟩

theorem word_size {r : ByteArray} (h : r ∈ wordList) : r.size ≤ 18 := by
  have : ∀ x ∈ wordList, x.size ≤ 18 := by decide
  exact this r h

theorem l11Text_l0 (s : List Int) (hs : CodeOk s) : ∀ (n : Nat) (p : Int) (out : ByteArray), 0 ≤ p → p + 2 * n ≤ 900000 → n ≤ 1000 → out.size + 20 * n ≤ 100000 →
    ∃ r q, Ev (fun k => spec_l11Text.l0 k out (n : Int) s p) (r, q) ∧ p ≤ q ∧ q ≤ p + 2 * n ∧ r.size ≤ out.size + 20 * n := by
  intro n
  induction n with
  | zero =>
    intro p out hp hb hn ho
    refine ⟨out, p, Ev.step (fun k => spec_l11Text.l0.eq_2 _ _ _ _ _) ?_, by omega, by omega, by omega⟩
    simp only [if_neg (show ¬ (((0 : Nat) : Int) > 0) by omega)]
    exact Ev.now _
  | succ n ih =>
    intro p out hp hb hn ho
    obtain ⟨w, hw, hwm⟩ := l11Word_ev s hs p hp (by omega)
    have hws := word_size hwm
    obtain ⟨x, hx, hxm⟩ := of_ev s hs (p + 1) (([(⟨#[32]⟩ : ByteArray), (⟨#[44, 32]⟩ : ByteArray), (⟨#[45]⟩ : ByteArray), (⟨#[32]⟩ : ByteArray), (⟨#[46]⟩ : ByteArray)] : List ByteArray)) (by omega) (by omega) (by decide) (by decide)
    have hxs : x.size ≤ 2 := by
      have h : ∀ x ∈ ([(⟨#[32]⟩ : ByteArray), (⟨#[44, 32]⟩ : ByteArray), (⟨#[45]⟩ : ByteArray), (⟨#[32]⟩ : ByteArray), (⟨#[46]⟩ : ByteArray)] : List ByteArray), x.size ≤ 2 := by decide
      exact h x hxm
    obtain ⟨r, q, hr, h1, h2, h3⟩ := ih (p + 1 + 1) ((out ++ w) ++ x) (by omega) (by omega) (by omega) (by simp only [ByteArray.size_append]; omega)
    refine ⟨r, q, Ev.step (fun k => spec_l11Text.l0.eq_2 _ _ _ _ _) ?_, by omega, by omega, by simp only [ByteArray.size_append] at h3; omega⟩
    simp only [if_pos (show (((n + 1 : Nat) : Int) > 0) by omega)]
    refine Ev.bind hw ?_
    simp only [if_pos (show out.size + w.size ≤ 9223372036854775807 by omega)]
    refine Ev.bind hx ?_
    simp only [if_pos (show (out ++ w).size + x.size ≤ 9223372036854775807 by simp only [ByteArray.size_append]; omega), wpred n (by omega)]
    exact hr

theorem l11Text_ev (s : List Int) (hs : CodeOk s) (p : Int) (hp : 0 ≤ p) (hp1 : p ≤ 800000) : ∃ r q, Ev (fun k => spec_l11Text.f k s p) (r, q) ∧ p ≤ q ∧ q ≤ p + 20 ∧ r.size ≤ 200 := by
  obtain ⟨i, hi, h0, h1⟩ := pick_ev s hs p 6 hp (by omega) (by omega) (by omega)
  obtain ⟨j, rfl⟩ : ∃ j : Nat, i = (j : Int) := ⟨i.toNat, by omega⟩
  obtain ⟨r, q, hr, h2, h3, h4⟩ := l11Text_l0 s hs j (p + 1) (⟨#[]⟩ : ByteArray) (by omega) (by omega) (by omega) (by show 0 + 20 * j ≤ 100000; omega)
  have e0 : (⟨#[]⟩ : ByteArray).size = 0 := rfl
  refine ⟨r, q, ?_, by omega, by omega, by omega⟩
  simp only [spec_l11Text.f]
  exact Ev.bind hi hr

theorem rdi_Field (l : List S32) (j : Nat) (h : j < l.length) : rd_T32 l (j : Int) = l[j] := by
  unfold rd_T32; simp [List.getD_eq_getElem?_getD, List.getElem?_eq_getElem h]

theorem spec_l2Field_l0 (l : List S32) (n : ByteArray) (hn : l.length < 4611686018427387904) : ∀ (d i : Nat), i + d = l.length → (∀ m (hm : m < l.length), m < i → l[m].f0 ≠ n) →
    ∃ r, Ev (fun k => spec_l2Field.l0 k l n (i : Int)) r ∧ ((r = -1 ∧ ∀ x ∈ l, x.f0 ≠ n) ∨ ∃ (j : Nat) (hj : j < l.length), r = (j : Int) ∧ l[j].f0 = n ∧ ∀ m (hm : m < j), l[m].f0 ≠ n) := by
  intro d
  induction d with
  | zero =>
    intro i hi hb
    refine ⟨-1, Ev.step (fun k => spec_l2Field.l0.eq_2 _ _ _ _) ?_, .inl ⟨rfl, fun x hx => ?_⟩⟩
    · simp only [if_neg (show ¬ ((i : Int) < (l.length : Int)) by omega)]; exact Ev.now _
    · obtain ⟨m, hm, rfl⟩ := List.mem_iff_getElem.1 hx
      exact hb m hm (by omega)
  | succ d ih =>
    intro i hi hb
    by_cases h : l[i].f0 = n
    · refine ⟨(i : Int), Ev.step (fun k => spec_l2Field.l0.eq_2 _ _ _ _) ?_, .inr ⟨i, by omega, rfl, h, fun m hm => hb m (by omega) hm⟩⟩
      simp only [if_pos (show ((i : Int) < (l.length : Int)) by omega), if_pos (show 0 ≤ (i : Int) by omega), rdi_Field l i (by omega), toList_inj, if_pos h]
      exact Ev.now _
    · obtain ⟨r, hr, hq⟩ := ih (i + 1) (by omega) (fun m hm hlt => by
        rcases Nat.lt_or_ge m i with h1 | h1
        · exact hb m hm h1
        · obtain rfl : m = i := by omega
          exact h)
      refine ⟨r, Ev.step (fun k => spec_l2Field.l0.eq_2 _ _ _ _) ?_, hq⟩
      simp only [if_pos (show ((i : Int) < (l.length : Int)) by omega), if_pos (show 0 ≤ (i : Int) by omega), rdi_Field l i (by omega), toList_inj, if_neg h, wsucc i (by omega)]
      exact hr

theorem spec_l2Field_ev (l : List S32) (n : ByteArray) (hn : l.length < 4611686018427387904) :
    ∃ r, Ev (fun k => spec_l2Field.f k l n) r ∧ ((r = -1 ∧ ∀ x ∈ l, x.f0 ≠ n) ∨ ∃ (j : Nat) (hj : j < l.length), r = (j : Int) ∧ l[j].f0 = n ∧ ∀ m (hm : m < j), l[m].f0 ≠ n) :=
  spec_l2Field_l0 l n hn l.length 0 (by omega) (fun m hm h => absurd h (by omega))

theorem l11Doc_l0 (s : List Int) (hs : CodeOk s) (F : List S32) (hF : F.length ≤ 1000) (key : ByteArray) : ∀ (d i : Nat) (p : Int) (acc : List S74), i + d = docNames.length → 0 ≤ p → p + 40 * d ≤ 700000 → acc.length ≤ i → shortCells acc →
    ∃ r q, Ev (fun k => spec_l11Doc.l0 k F docNames (i : Int) s p key acc) (key, r, q) ∧ p ≤ q ∧ q ≤ p + 40 * d ∧ r.length ≤ acc.length + d ∧ shortCells r := by
  have hlen : docNames.length = 4 := rfl
  intro d
  induction d with
  | zero =>
    intro i p acc hi hp hp1 ha hsh
    refine ⟨acc, p, Ev.step (fun k => spec_l11Doc.l0.eq_2 _ _ _ _ _ _ _ _) ?_, by omega, by omega, by omega, hsh⟩
    simp only [if_neg (show ¬ ((i : Int) < (docNames.length : Int)) by omega)]
    exact Ev.now _
  | succ d ih =>
    intro i p acc hi hp hp1 ha hsh
    have hil : i < docNames.length := by omega
    have hn := docNames_size (List.getElem_mem hil)
    obtain ⟨t, ht, hq⟩ := spec_l2Field_ev F docNames[i] (by omega)
    have skip : ∀ (q : Int) (t : Int), p ≤ q → q ≤ p + 1 → ∃ r q', Ev (fun k => spec_l11Doc.j1 k F docNames (i : Int) t true s q key acc) (key, r, q') ∧ p ≤ q' ∧ q' ≤ p + 40 * (d + 1 : Nat) ∧ r.length ≤ acc.length + (d + 1) ∧ shortCells r := by
      intro q t h1 h2
      obtain ⟨r, q', hr, a1, a2, a3, a4⟩ := ih (i + 1) q acc (by omega) (by omega) (by omega) (by omega) hsh
      refine ⟨r, q', Ev.step (fun k => spec_l11Doc.j1.eq_2 _ _ _ _ _ _ _ _ _ _) ?_, by omega, by omega, by omega, a4⟩
      simp only [if_true, wsucc i (by omega)]
      exact hr
    by_cases ht0 : t < 0
    · obtain ⟨r, q', hr, a1, a2, a3, a4⟩ := skip p t (by omega) (by omega)
      refine ⟨r, q', Ev.step (fun k => spec_l11Doc.l0.eq_2 _ _ _ _ _ _ _ _) ?_, a1, a2, a3, a4⟩
      simp only [if_pos (show ((i : Int) < (docNames.length : Int)) by omega), if_pos (show 0 ≤ (i : Int) by omega), rdOf_get _ docNames i hil]
      refine Ev.bind ht ?_
      simp only [if_pos ht0]
      exact hr
    · obtain ⟨x, hx, x0, x1⟩ := pick_ev s hs p 4 hp (by omega) (by omega) (by omega)
      by_cases hx0 : x = 0
      · obtain ⟨r, q', hr, a1, a2, a3, a4⟩ := skip (p + 1) t (by omega) (by omega)
        refine ⟨r, q', Ev.step (fun k => spec_l11Doc.l0.eq_2 _ _ _ _ _ _ _ _) ?_, a1, a2, a3, a4⟩
        simp only [if_pos (show ((i : Int) < (docNames.length : Int)) by omega), if_pos (show 0 ≤ (i : Int) by omega), rdOf_get _ docNames i hil]
        refine Ev.bind ht ?_
        simp only [if_neg ht0]
        refine Ev.bind hx ?_
        have e : (x == 0) = true := by simpa using hx0
        simp only [e]
        exact hr
      · have ex : (x == 0) = false := by simpa using hx0
        obtain ⟨j, hj, rfl⟩ : ∃ (j : Nat) (hj : j < F.length), t = (j : Int) := by
          rcases hq with ⟨h, _⟩ | ⟨j, hj, h, _⟩
          · omega
          · exact ⟨j, hj, h⟩
        obtain ⟨T, q1, hT, b1, b2, b3⟩ := l11Text_ev s hs (p + 1) (by omega) (by omega)
        obtain ⟨f, hf⟩ := rdf_Field F j hj
        have go : ∃ r q', Ev (fun k => spec_l11Doc.j1 k F docNames (i : Int) (j : Int) false s (p + 1) key acc) (key, r, q') ∧ p ≤ q' ∧ q' ≤ p + 40 * (d + 1 : Nat) ∧ r.length ≤ acc.length + (d + 1) ∧ shortCells r := by
          have st : ∀ k, spec_l11Doc.j1 (k + 1) F docNames (i : Int) (j : Int) false s (p + 1) key acc = _ := fun k => spec_l11Doc.j1.eq_2 _ _ _ _ _ _ _ _ _ _
          by_cases c2 : f.f1 = 2
          · obtain ⟨y, hy, hym⟩ := of_ev s hs q1 docNums (by omega) (by omega) (by decide) (by decide)
            obtain ⟨r, q', hr, a1, a2, a3, a4⟩ := ih (i + 1) (q1 + 1) (acc ++ [⟨docNames[i], y⟩]) (by omega) (by omega) (by omega) (by simp; omega) (shortCells_snoc hsh hn (docNums_size hym))
            refine ⟨r, q', Ev.step (fun k => spec_l11Doc.j1.eq_2 _ _ _ _ _ _ _ _ _ _) ?_, by omega, by omega, by simp at a3; omega, a4⟩
            simp only [if_neg (show ¬ (false = true) by decide), if_pos (show 0 ≤ (i : Int) by omega), if_pos (show ((i : Int) < (docNames.length : Int)) by omega)]
            refine Ev.bind hT ?_
            simp only [if_pos (show 0 ≤ (j : Int) by omega), if_pos (show (j : Int) < (F.length : Int) by omega), hf, if_pos c2]
            refine Ev.bind hy ?_
            simp only [if_pos (show acc.length < 4398046511104 by omega), rdOf_get _ docNames i hil, wsucc i (by omega)]
            exact hr
          · by_cases c3 : f.f1 = 3
            · obtain ⟨y, hy, hym⟩ := of_ev s hs q1 docTagT (by omega) (by omega) (by decide) (by decide)
              obtain ⟨r, q', hr, a1, a2, a3, a4⟩ := ih (i + 1) (q1 + 1) (acc ++ [⟨docNames[i], y⟩]) (by omega) (by omega) (by omega) (by simp; omega) (shortCells_snoc hsh hn (docTagT_size hym))
              refine ⟨r, q', Ev.step (fun k => spec_l11Doc.j1.eq_2 _ _ _ _ _ _ _ _ _ _) ?_, by omega, by omega, by simp at a3; omega, a4⟩
              simp only [if_neg (show ¬ (false = true) by decide), if_pos (show 0 ≤ (i : Int) by omega), if_pos (show ((i : Int) < (docNames.length : Int)) by omega)]
              refine Ev.bind hT ?_
              simp only [if_pos (show 0 ≤ (j : Int) by omega), if_pos (show (j : Int) < (F.length : Int) by omega), hf, if_neg c2, if_pos c3]
              refine Ev.bind hy ?_
              simp only [if_pos (show acc.length < 4398046511104 by omega), rdOf_get _ docNames i hil, wsucc i (by omega)]
              exact hr
            · obtain ⟨r, q', hr, a1, a2, a3, a4⟩ := ih (i + 1) q1 (acc ++ [⟨docNames[i], T⟩]) (by omega) (by omega) (by omega) (by simp; omega) (shortCells_snoc hsh hn (by omega))
              refine ⟨r, q', Ev.step (fun k => spec_l11Doc.j1.eq_2 _ _ _ _ _ _ _ _ _ _) ?_, by omega, by omega, by simp at a3; omega, a4⟩
              simp only [if_neg (show ¬ (false = true) by decide), if_pos (show 0 ≤ (i : Int) by omega), if_pos (show ((i : Int) < (docNames.length : Int)) by omega)]
              refine Ev.bind hT ?_
              simp only [if_pos (show 0 ≤ (j : Int) by omega), if_pos (show (j : Int) < (F.length : Int) by omega), hf, if_neg c2, if_neg c3, if_pos (show acc.length < 4398046511104 by omega), rdOf_get _ docNames i hil, wsucc i (by omega)]
              exact hr
        obtain ⟨r, q', hr, a1, a2, a3, a4⟩ := go
        refine ⟨r, q', Ev.step (fun k => spec_l11Doc.l0.eq_2 _ _ _ _ _ _ _ _) ?_, a1, a2, a3, a4⟩
        simp only [if_pos (show ((i : Int) < (docNames.length : Int)) by omega), if_pos (show 0 ≤ (i : Int) by omega), rdOf_get _ docNames i hil]
        refine Ev.bind ht ?_
        simp only [if_neg ht0]
        refine Ev.bind hx ?_
        simp only [ex]
        exact hr

theorem l11Doc_ev (s : List Int) (hs : CodeOk s) (F : List S32) (hF : F.length ≤ 1000) (p : Int) (hp : 0 ≤ p) (hp1 : p ≤ 600000) :
    ∃ key r q, Ev (fun k => spec_l11Doc.f k s p F) (key, r, q) ∧ p ≤ q ∧ q ≤ p + 200 ∧ key.size ≤ 300 ∧ r.length ≤ 4 ∧ shortCells r := by
  obtain ⟨x, hx, hxm⟩ := of_ev s hs p docKeys hp (by omega) (by decide) (by decide)
  obtain ⟨r, q, hr, a1, a2, a3, a4⟩ := l11Doc_l0 s hs F hF x 4 0 (p + 1) [] (by decide) (by omega) (by omega) (by simp) (fun c hc => by simp at hc)
  refine ⟨x, r, q, ?_, by omega, by omega, docKeys_size hxm, by simpa using a3, a4⟩
  simp only [spec_l11Doc.f]
  exact Ev.bind hx hr

theorem shortCells_small {l : List S74} (h : shortCells l) : ∀ x ∈ l, x.f0.size ≤ 1048576 ∧ x.f1.size ≤ 1048576 := fun x hx => by have := h x hx; omega

theorem u8_range {l : List Int} (h : ∀ x ∈ l, (Lit.int .u8 x).wf = true) : ∀ c ∈ l, 0 ≤ c ∧ c ≤ 255 := by
  intro c hc
  have := h c hc
  simp [Lit.wf, IntKind.min, IntKind.max, IntKind.bits, IntKind.signed] at this
  omega

theorem DrawDocGet_ev (l : List Int) (h : ∀ x ∈ l, (Lit.int .u8 x).wf = true) : ∃ t, Ev (fun k => spec_DrawDocGet.f k l) t ∧ t.size ≤ 4001 := by
  obtain ⟨s', h1, hs⟩ := l1Open_eq l (u8_range h)
  have hF : ∃ F, spec_l10Fields.f = some F ∧ F.length = 4 := ⟨_, rfl, rfl⟩
  obtain ⟨F, hF, hF4⟩ := hF
  obtain ⟨key, r, q, hd, b1, b2, b3, b4, b5⟩ := l11Doc_ev s' hs F (by omega) 0 (by omega) (by omega)
  have hz := docPutB_size b3 (by omega) b5
  obtain ⟨t, q2, ht, t1, t2, t3⟩ := l11Cut_ev s' hs q (docPutB key r) (by omega) (by omega) (by omega)
  refine ⟨t, ?_, by omega⟩
  simp only [spec_DrawDocGet.f, h1, hF, Option.bind_some]
  refine Ev.bind hd ?_
  refine Ev.bind (spec_DocPut_ev key r (by omega) (by omega) (shortCells_small b5)) ?_
  exact Ev.bind ht (Ev.now _)

theorem l1Many_l0 : ∀ (d n : Nat) (x out : ByteArray), n < 2 ^ d → d ≤ 20 → x.size * 2 ^ d ≤ 1099511627776 → out.size + x.size * n ≤ 1099511627776 → ∃ r, Ev (fun k => spec_l1Many.l0 k x (n : Int) out) r ∧ r.size = out.size + x.size * n := by
  intro d
  induction d with
  | zero =>
    intro n x out hn hd hx ho
    obtain rfl : n = 0 := by simpa using hn
    refine ⟨out, Ev.step (fun k => spec_l1Many.l0.eq_2 _ _ _ _) ?_, by omega⟩
    simp only [if_neg (show ¬ (((0 : Nat) : Int) > 0) by omega)]
    exact Ev.now _
  | succ d ih =>
    intro n x out hn hd hx ho
    have hp : 2 ^ (d + 1) = 2 * 2 ^ d := by rw [Nat.pow_succ, Nat.mul_comm]
    have hb : n < 1048576 := Nat.lt_of_lt_of_le hn (Nat.pow_le_pow_right (Nat.succ_pos 1) hd)
    rw [hp, ← Nat.mul_assoc, Nat.mul_comm x.size 2] at hx
    rw [hp] at hn
    have hd1 : 0 < 2 ^ d := Nat.pow_pos (by decide)
    have hxs : x.size ≤ 2 * x.size * 2 ^ d := Nat.le_trans (by omega) (Nat.le_mul_of_pos_right _ hd1)
    by_cases h0 : n = 0
    · subst h0
      refine ⟨out, Ev.step (fun k => spec_l1Many.l0.eq_2 _ _ _ _) ?_, by omega⟩
      simp only [if_neg (show ¬ (((0 : Nat) : Int) > 0) by omega)]
      exact Ev.now _
    · have e1 : Int.tmod (n : Int) 2 = ((n % 2 : Nat) : Int) := by rw [Int.tmod_eq_emod_of_nonneg (by omega)]; omega
      have e2 : wrap64 (Int.tdiv (n : Int) 2) = ((n / 2 : Nat) : Int) := by
        rw [Int.tdiv_eq_ediv_of_nonneg (by omega), wrap_id (by omega) (by omega)]; omega
      have hs2 : (x ++ x).size = 2 * x.size := by rw [ByteArray.size_append]; omega
      have hq : n / 2 < 2 ^ d := by omega
      by_cases h1 : n % 2 = 1
      · have hm : x.size * n = 2 * x.size * (n / 2) + x.size := by
          have hn2 : n = 2 * (n / 2) + 1 := by omega
          conv => lhs; rw [hn2]
          rw [Nat.mul_add, Nat.mul_one, ← Nat.mul_assoc, Nat.mul_comm x.size 2]
        obtain ⟨r, hr, hrs⟩ := ih (n / 2) (x ++ x) (out ++ x) hq (by omega) (by rw [hs2]; exact hx) (by rw [hs2, ByteArray.size_append]; omega)
        refine ⟨r, Ev.step (fun k => spec_l1Many.l0.eq_2 _ _ _ _) ?_, ?_⟩
        · simp only [if_pos (show ((n : Int) > 0) by omega), e1, e2, if_pos (show ((n % 2 : Nat) : Int) = 1 by omega), if_pos (show out.size + x.size ≤ 9223372036854775807 by omega), if_pos (show x.size + x.size ≤ 9223372036854775807 by omega)]
          exact hr
        · rw [hs2, ByteArray.size_append] at hrs
          omega
      · have hm : x.size * n = 2 * x.size * (n / 2) := by
          have hn2 : n = 2 * (n / 2) := by omega
          conv => lhs; rw [hn2]
          rw [← Nat.mul_assoc, Nat.mul_comm x.size 2]
        obtain ⟨r, hr, hrs⟩ := ih (n / 2) (x ++ x) out hq (by omega) (by rw [hs2]; exact hx) (by rw [hs2]; omega)
        refine ⟨r, Ev.step (fun k => spec_l1Many.l0.eq_2 _ _ _ _) ?_, ?_⟩
        · simp only [if_pos (show ((n : Int) > 0) by omega), e1, e2, if_neg (show ¬ ((n % 2 : Nat) : Int) = 1 by omega), if_pos (show x.size + x.size ≤ 9223372036854775807 by omega)]
          exact hr
        · rw [hs2] at hrs
          omega

theorem l11AnyText_ev (s : List Int) (hs : CodeOk s) (p : Int) (hp : 0 ≤ p) (hp1 : p ≤ 800000 - 10) : ∃ r q, Ev (fun k => spec_l11AnyText.f k s p) (r, q) ∧ p ≤ q ∧ q ≤ p + 30 ∧ r.size ≤ 300 := by
  obtain ⟨i, hi, h0, h1⟩ := pick_ev s hs p 14 hp (by omega) (by omega) (by omega)
  simp only [spec_l11AnyText.f]
  by_cases c0 : i = 0
  · obtain ⟨j, hj, h2, h3⟩ := pick_ev s hs (p + 1) 2 (by omega) (by omega) (by omega) (by omega)
    obtain ⟨m, hm⟩ : ∃ m : Nat, 60 + j = (m : Int) := ⟨(60 + j).toNat, by omega⟩
    have e1 : (⟨#[120]⟩ : ByteArray).size = 1 := rfl
    obtain ⟨r, hr, hrs⟩ := l1Many_l0 7 m (⟨#[120]⟩ : ByteArray) (⟨#[]⟩ : ByteArray) (by omega) (by decide) (by decide) (by rw [e1]; show 0 + 1 * m ≤ _; omega)
    have e0 : (⟨#[]⟩ : ByteArray).size = 0 := rfl
    rw [e0, e1, Nat.one_mul] at hrs
    refine ⟨r, p + 1 + 1, Ev.bind hi ?_, by omega, by omega, by omega⟩
    simp only [if_pos c0]
    refine Ev.bind hj ?_
    simp only [hm, wrap_id (x := (m : Int)) (by omega) (by omega)]
    exact Ev.bind (show Ev (fun k => spec_l1Many.f k _ _) r from hr) (Ev.now _)
  · by_cases c1 : i = 1
    · obtain ⟨t, q, ht, h2, h3, h4⟩ := l11Text_ev s hs (p + 1) (by omega) (by omega)
      obtain ⟨x, hx, hxm⟩ := of_ev s hs q (([(⟨#[10]⟩ : ByteArray), (⟨#[1]⟩ : ByteArray), (⟨#[127]⟩ : ByteArray)] : List ByteArray)) (by omega) (by omega) (by decide) (by decide)
      have hxs : x.size ≤ 1 := by
        have h : ∀ x ∈ ([(⟨#[10]⟩ : ByteArray), (⟨#[1]⟩ : ByteArray), (⟨#[127]⟩ : ByteArray)] : List ByteArray), x.size ≤ 1 := by decide
        exact h x hxm
      refine ⟨t ++ x, q + 1, Ev.bind hi ?_, by omega, by omega, by rw [ByteArray.size_append]; omega⟩
      simp only [if_neg c0, if_pos c1]
      refine Ev.bind ht ?_
      refine Ev.bind hx ?_
      simp only [if_pos (show t.size + x.size ≤ 9223372036854775807 by omega)]
      exact Ev.now _
    · obtain ⟨t, q, ht, h2, h3, h4⟩ := l11Text_ev s hs (p + 1) (by omega) (by omega)
      refine ⟨t, q, Ev.bind hi ?_, by omega, by omega, by omega⟩
      simp only [if_neg c0, if_neg c1]
      exact Ev.bind ht (Ev.now _)

theorem l11AnyDoc_ev (s : List Int) (hs : CodeOk s) (F : List S32) (hF : F.length ≤ 1000) (p : Int) (hp : 0 ≤ p) (hp1 : p ≤ 500000) :
    ∃ key r q, Ev (fun k => spec_l11AnyDoc.f k s p F) (key, r, q) ∧ p ≤ q ∧ q ≤ p + 300 ∧ key.size ≤ 300 ∧ r.length ≤ 5 ∧ shortCells r := by
  obtain ⟨key, r, q, hd, b1, b2, b3, b4, b5⟩ := l11Doc_ev s hs F hF p hp (by omega)
  obtain ⟨x, hx, x0, x1⟩ := pick_ev s hs q 14 (by omega) (by omega) (by omega) (by omega)
  simp only [spec_l11AnyDoc.f]
  by_cases c0 : x = 0
  · obtain ⟨y, hy, hym⟩ := of_ev s hs (q + 1) (([(⟨#[]⟩ : ByteArray), (⟨#[65]⟩ : ByteArray), (⟨#[110, 105, 110, 101, 108, 101, 116, 116, 101]⟩ : ByteArray)] : List ByteArray)) (by omega) (by omega) (by decide) (by decide)
    have hys : y.size ≤ 300 := by
      have h : ∀ x ∈ (([(⟨#[]⟩ : ByteArray), (⟨#[65]⟩ : ByteArray), (⟨#[110, 105, 110, 101, 108, 101, 116, 116, 101]⟩ : ByteArray)] : List ByteArray)), x.size ≤ 300 := by decide
      exact h y hym
    refine ⟨y, r, q + 1 + 1, Ev.bind hd (Ev.bind hx ?_), by omega, by omega, hys, by omega, b5⟩
    simp only [if_pos c0]
    exact Ev.bind hy (Ev.now _)
  · by_cases c1 : x = 1
    · obtain ⟨y, hy, hym⟩ := of_ev s hs (q + 1) (([(⟨#[122, 122]⟩ : ByteArray), (⟨#[98, 111, 100, 121]⟩ : ByteArray), (⟨#[]⟩ : ByteArray)] : List ByteArray)) (by omega) (by omega) (by decide) (by decide)
      have hys : y.size ≤ 300 := by
        have h : ∀ x ∈ (([(⟨#[122, 122]⟩ : ByteArray), (⟨#[98, 111, 100, 121]⟩ : ByteArray), (⟨#[]⟩ : ByteArray)] : List ByteArray)), x.size ≤ 300 := by decide
        exact h y hym
      obtain ⟨T, q2, hT, t1, t2, t3⟩ := l11AnyText_ev s hs (q + 1 + 1) (by omega) (by omega)
      refine ⟨key, r ++ [⟨y, T⟩], q2, Ev.bind hd (Ev.bind hx ?_), by omega, by omega, b3, by simp; omega, shortCells_snoc b5 hys t3⟩
      simp only [if_neg c0, if_pos c1]
      refine Ev.bind hy (Ev.bind hT ?_)
      simp only [if_pos (show r.length < 4398046511104 by omega)]
      exact Ev.now _
    · by_cases c2 : x = 2
      · by_cases hr0 : (r.length : Int) > 0
        · obtain ⟨z, hz, z0, z1⟩ := pick_ev s hs (q + 1) (r.length : Int) (by omega) (by omega) (by omega) (by omega)
          obtain ⟨m, rfl⟩ : ∃ m : Nat, z = (m : Int) := ⟨z.toNat, by omega⟩
          obtain ⟨y, hy, hym⟩ := of_ev s hs (q + 1 + 1) (([(⟨#[48, 49]⟩ : ByteArray), (⟨#[]⟩ : ByteArray), (⟨#[120, 44]⟩ : ByteArray), (⟨#[45, 48]⟩ : ByteArray), (⟨#[114, 101, 100, 44, 44, 98, 108, 117, 101]⟩ : ByteArray), (⟨#[97, 44, 98, 44, 99, 44, 100, 44, 101]⟩ : ByteArray), (⟨#[119, 111, 114, 100, 115, 32, 104, 101, 114, 101]⟩ : ByteArray)] : List ByteArray)) (by omega) (by omega) (by decide) (by decide)
          have hys : y.size ≤ 300 := by
            have h : ∀ x ∈ (([(⟨#[48, 49]⟩ : ByteArray), (⟨#[]⟩ : ByteArray), (⟨#[120, 44]⟩ : ByteArray), (⟨#[45, 48]⟩ : ByteArray), (⟨#[114, 101, 100, 44, 44, 98, 108, 117, 101]⟩ : ByteArray), (⟨#[97, 44, 98, 44, 99, 44, 100, 44, 101]⟩ : ByteArray), (⟨#[119, 111, 114, 100, 115, 32, 104, 101, 114, 101]⟩ : ByteArray)] : List ByteArray)), x.size ≤ 300 := by decide
            exact h y hym
          have hm : m < r.length := by omega
          refine ⟨key, r.set m ⟨r[m].f0, y⟩, q + 1 + 1 + 1, Ev.bind hd (Ev.bind hx ?_), by omega, by omega, b3, by simp; omega, ?_⟩
          · simp only [if_neg c0, if_neg c1, if_pos c2, if_pos hr0]
            refine Ev.bind hz (Ev.bind hy ?_)
            simp only [if_pos z0, if_pos z1, toNat_cast, rdi_Cell r m hm]
            exact Ev.now _
          · intro c hc
            rcases List.mem_or_eq_of_mem_set hc with h | h
            · exact b5 c h
            · rw [h]; exact ⟨(b5 _ (List.getElem_mem hm)).1, hys⟩
        · refine ⟨key, r, q + 1, Ev.bind hd (Ev.bind hx ?_), by omega, by omega, b3, by omega, b5⟩
          simp only [if_neg c0, if_neg c1, if_pos c2, if_neg hr0]
          exact Ev.now _
      · refine ⟨key, r, q + 1, Ev.bind hd (Ev.bind hx ?_), by omega, by omega, b3, by omega, b5⟩
        simp only [if_neg c0, if_neg c1, if_neg c2]
        exact Ev.now _

theorem DrawDocPut_ev (l : List Int) (h : ∀ x ∈ l, (Lit.int .u8 x).wf = true) : ∃ key r, Ev (fun k => spec_DrawDocPut.f k l) (key, r) ∧ key.size ≤ 300 ∧ r.length ≤ 5 ∧ shortCells r := by
  obtain ⟨s', h1, hs⟩ := l1Open_eq l (u8_range h)
  have hF : ∃ F, spec_l10Fields.f = some F ∧ F.length = 4 := ⟨_, rfl, rfl⟩
  obtain ⟨F, hF, hF4⟩ := hF
  obtain ⟨key, r, q, hd, b1, b2, b3, b4, b5⟩ := l11AnyDoc_ev s' hs F (by omega) 0 (by omega) (by omega)
  refine ⟨key, r, ?_, b3, b4, b5⟩
  simp only [spec_DrawDocPut.f, h1, hF, Option.bind_some]
  exact Ev.bind hd (Ev.now _)

theorem name_ne {s : ByteArray} (h : nameB (bytesOf s) = true) : s ≠ ⟨#[]⟩ := by
  rintro rfl
  have := (nameB_iff.1 h).2.1
  have e : (bytesOf (⟨#[]⟩ : ByteArray)).length = 0 := rfl
  omega

theorem docI_form {key : ByteArray} {r : List S74} (h : formB key r = true) : docRes (docPutB key r) (some (docI (docPutB key r))) = (key, r, true) ∧ docPutB key r ≠ ⟨#[]⟩ := by
  unfold docPutB
  rw [if_pos h, docI_put h]
  refine ⟨docRes_pos h rfl, ?_⟩
  rw [putFrom_join, joinT_cons]
  intro e
  have h1 := congrArg ByteArray.size e
  rw [ByteArray.size_append] at h1
  have e0 : (⟨#[]⟩ : ByteArray).size = 0 := rfl
  have h2 : key.size = 0 := by omega
  have h3 : key = ⟨#[]⟩ := by
    cases key with
    | mk d => congr 1; exact Array.eq_empty_of_size_eq_zero h2
  exact name_ne (form_cells h).2.1 h3

theorem docI_noform {key : ByteArray} {r : List S74} (h : ¬ formB key r = true) : docPutB key r = ⟨#[]⟩ ∧ docRes (⟨#[]⟩ : ByteArray) (some (docI (⟨#[]⟩ : ByteArray))) = (⟨#[]⟩, [], false) := by
  unfold docPutB
  rw [if_neg h]
  refine ⟨rfl, ?_⟩
  have e : docI (⟨#[]⟩ : ByteArray) = (⟨#[]⟩, []) := rfl
  rw [e]
  apply docRes_neg
  intro k cs e1 h1 _
  obtain ⟨rfl, rfl⟩ := Prod.mk.inj (Option.some.inj e1)
  exact name_ne (form_cells h1).2.1 rfl

theorem drop_eq_step {α : Type} {a b : List α} {j : Nat} (ha : j < a.length) (hb : j < b.length) : a.drop j = b.drop j ↔ a[j] = b[j] ∧ a.drop (j + 1) = b.drop (j + 1) := by
  rw [List.drop_eq_getElem_cons ha, List.drop_eq_getElem_cons hb, List.cons.injEq]

theorem ev_true {g : Nat → Option Bool} {p : Prop} [Decidable p] (h : p) (k : Ev g true) : Ev g (decide p) := by
  rw [decide_eq_true h]; exact k

open Classical in
theorem sdDoc_l0 (k1 k2 : ByteArray) (a b : List S74) (hn : a.length < 4611686018427387904) (hl : a.length = b.length) : ∀ (d i : Nat), i + d = a.length → Ev (fun k => laws_sdDoc.l0 k (i : Int) k1 a k2 b) (decide (a.drop i = b.drop i)) := by
  intro d
  induction d with
  | zero =>
    intro i hi
    refine Ev.step (fun k => laws_sdDoc.l0.eq_2 _ _ _ _ _ _) ?_
    simp only [if_neg (show ¬ ((i : Int) < (a.length : Int)) by omega)]
    exact ev_true (by rw [List.drop_eq_nil_of_le (by omega), List.drop_eq_nil_of_le (by omega)]) (Ev.now _)
  | succ d ih =>
    intro i hi
    refine Ev.step (fun k => laws_sdDoc.l0.eq_2 _ _ _ _ _ _) ?_
    simp only [if_pos (show ((i : Int) < (a.length : Int)) by omega), if_pos (show ((i : Int) < (b.length : Int)) by omega), if_pos (show 0 ≤ (i : Int) by omega), rdi_Cell a i (by omega), rdi_Cell b i (by omega), wsucc i (by omega)]
    have hst := drop_eq_step (a := a) (b := b) (j := i) (by omega) (by omega)
    by_cases h : a[i]'(by omega) = b[i]'(by omega)
    · have e : (!((a[i]'(by omega)).f0.toList == (b[i]'(by omega)).f0.toList) || (!((a[i]'(by omega)).f1.toList == (b[i]'(by omega)).f1.toList))) = false := by rw [h]; simp
      simp only [e, if_neg (show ¬ (false = true) by decide)]
      refine ev_prop ?_ (ih (i + 1) (by omega))
      rw [hst]
      exact ⟨fun h2 => ⟨h, h2⟩, fun h2 => h2.2⟩
    · have e : (!((a[i]'(by omega)).f0.toList == (b[i]'(by omega)).f0.toList) || (!((a[i]'(by omega)).f1.toList == (b[i]'(by omega)).f1.toList))) = true := by
        rw [Bool.or_eq_true, Bool.not_eq_true', Bool.not_eq_true', beq_eq_false_iff_ne, beq_eq_false_iff_ne]
        by_cases h0 : (a[i]'(by omega)).f0.toList = (b[i]'(by omega)).f0.toList
        · refine Or.inr (fun h1 => h ?_)
          have e0 := toList_inj.1 h0
          have e1 := toList_inj.1 h1
          cases hx : a[i]'(by omega)
          cases hy : b[i]'(by omega)
          rw [hx, hy] at e0 e1
          simp only at e0 e1
          rw [e0, e1]
        · exact Or.inl h0
      simp only [e, if_true]
      refine ev_false (fun h2 => ?_) (Ev.now _)
      rw [hst] at h2
      exact h h2.1

open Classical in
theorem sdDoc_refl (k1 : ByteArray) (a : List S74) (hn : a.length < 4611686018427387904) : Ev (fun k => laws_sdDoc.f k k1 a k1 a) true := by
  simp only [laws_sdDoc.f, if_true, bne_self_eq_false]
  refine Ev.step (fun k => laws_sdDoc.j0.eq_2 _ _ _ _ _ _) ?_
  simp only [if_neg (show ¬ (false = true) by decide)]
  have := sdDoc_l0 k1 k1 a a hn rfl a.length 0 (by omega)
  rwa [decide_eq_true rfl] at this

theorem FnDoc : laws_FnDoc.PureX := by
  intro l0 l1 hw0 hw1
  refine Ev.rounds (g := fun k => laws_FnDoc.f k l0 l1) ?_
  have hj : Ev (fun k => laws_FnDoc.j0 k l0 l1 true) true := by
    refine Ev.step (fun k => laws_FnDoc.j0.eq_2 _ _ _ _) ?_
    simp only [if_true]; exact Ev.now _
  simp only [laws_FnDoc.f]
  by_cases hg : (l0.length : Int) > 1048576
  · simp only [if_pos hg]; exact hj
  simp only [if_neg hg]
  by_cases hg1 : (l1.length : Int) > 1048576
  · simp only [decide_eq_true hg1]; exact hj
  simp only [decide_eq_false hg1]
  refine Ev.step (fun k => laws_FnDoc.j0.eq_2 _ _ _ _) ?_
  simp only [if_neg (show ¬ (false = true) by decide)]
  have hj1 : Ev (fun k => laws_FnDoc.j1 k l1 false) true := by
    refine Ev.step (fun k => laws_FnDoc.j1.eq_2 _ _ _) ?_
    simp only [if_neg (show ¬ (false = true) by decide)]
    obtain ⟨t, ht, htz⟩ := DrawDocGet_ev l1 hw1.2
    obtain ⟨h1, h2⟩ := docGet_both t (by omega)
    refine Ev.bind ht ?_
    refine Ev.bind h2 ?_
    refine Ev.bind h1 ?_
    simp only [beq_self_eq_true, if_true]
    rcases docRes_form t (some (docI t)) with ⟨_, h⟩ | ⟨hb, hf, hp⟩
    · rw [h]
      refine Ev.bind (sdDoc_refl _ _ (by simp)) ?_
      simp only [if_true, if_neg (show ¬ (false = true) by decide)]
      exact Ev.now _
    · have hc := form_cells hf
      have hlen : (docRes t (some (docI t))).2.1.length < 4611686018427387904 := by have := hc.2.2; omega
      refine Ev.bind (sdDoc_refl _ _ hlen) ?_
      simp only [if_true, hb]
      have hks : (docRes t (some (docI t))).1.size ≤ 1048576 := by
        have := (nameB_iff.1 hc.2.1).2.2
        rw [bytesOf_length] at this; omega
      have hcs : ∀ x ∈ (docRes t (some (docI t))).2.1, x.f0.size ≤ 1048576 ∧ x.f1.size ≤ 1048576 := fun x hx => by
        have h3 := (hc.1 x hx)
        have h4 := (nameB_iff.1 h3.1).2.2
        rw [bytesOf_length] at h4
        have h5 := plain_size h3.2
        omega
      have hput := impl_DocPut_ev _ _ hks (by have := hc.2.2; omega) hcs
      simp only [docPutB, if_pos hf, hp] at hput
      refine Ev.bind hput ?_
      simp only [beq_self_eq_true]
      exact Ev.now _
  obtain ⟨key, r, hd, b3, b4, b5⟩ := DrawDocPut_ev l0 hw0.2
  have hz := docPutB_size b3 b4 b5
  refine Ev.bind hd ?_
  refine Ev.bind (impl_DocPut_ev key r (by omega) (by omega) (shortCells_small b5)) ?_
  refine Ev.bind (docGet_both _ (by omega)).2 ?_
  refine Ev.bind (spec_DocPut_ev key r (by omega) (by omega) (shortCells_small b5)) ?_
  simp only [if_true]
  by_cases hf : formB key r = true
  · obtain ⟨h1, h2⟩ := docI_form hf
    have hne : ((docPutB key r).toList != ([] : List UInt8)) = true := by
      rw [bne_iff_ne]
      intro e
      exact h2 (ByteArray.ext (Array.toList_inj.1 (by rw [← toList_data]; exact e)))
    simp only [h1, hne, bne_self_eq_false, if_neg (show ¬ (false = true) by decide), if_true]
    refine Ev.bind (sdDoc_refl _ _ (by omega)) ?_
    simp only [Bool.not_true]
    exact hj1
  · obtain ⟨h1, h2⟩ := docI_noform hf
    have hne : ((⟨#[]⟩ : ByteArray).toList != ([] : List UInt8)) = false := by rw [toList_data]; rfl
    simp only [h1, h2, hne, bne_self_eq_false, if_neg (show ¬ (false = true) by decide)]
    exact hj1

end Go.Proofs.YtglcgkbecfmegaaDoor.Pure
