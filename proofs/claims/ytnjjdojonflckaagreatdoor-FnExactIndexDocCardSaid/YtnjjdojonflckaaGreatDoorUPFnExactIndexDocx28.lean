/- Contracts of Go functions, each told as a plain Lean function. -/
import Derived.Test.YtnjjdojonflckaaGreatDoorUPFnExactIndexDocx23
namespace Go.Proofs.YtnjjdojonflckaaGreatDoor.PFnExactIndexDoc
open Go.RowKit Go.Proofs.YtnjjdojonflckaaGreatDoorW.PrintWords Go.Proofs.YtnjjdojonflckaaGreatDoorW.PrintLast Go.Proofs.YtnjjdojonflckaaGreatDoorW.PrintMore
attribute [local go_sem] aW aX bQ bO cm cl bu br bN bP
set_option linter.unusedVariables false
set_option linter.unusedSimpArgs false
set_option maxHeartbeats 8000000
set_option maxRecDepth 100000
section
open Go Go.RowKit Go.Proofs.YtnjjdojonflckaaGreatDoor.Ent
section
open Go Go.RowKit Go.Sort Go.Proofs.YtnjjdojonflckaaGreatDoorW.PrintWords Go.Proofs.YtnjjdojonflckaaGreatDoorW.PrintLast Go.Proofs.YtnjjdojonflckaaGreatDoorW.PrintMore Go.Proofs.YtnjjdojonflckaaGreatDoor.Ent
abbrev Sl := Option Addr × Nat × Nat
def eS (x : S76 × Sl) : List Value := [.string x.1.f0, .string x.1.f1, .slice x.2.1 x.2.2.1 x.2.2.2]
def nh (x y : S76) : Int := ordS (x.f0, x.f1) (y.f0, y.f1)
instance : Inhabited (S76 × Sl) := ⟨(z76, none, 0, 0)⟩
theorem ez (x y : List UInt8) : Op.bytesLess x y = true ↔ x < y := by rw [Go.Proofs.bytesLess_eq]; simp
theorem nZ (x y : ByteArray) : im x y < 0 ↔ x.toList < y.toList := by
 unfold im
 by_cases h : x.toList < y.toList
 ·rw [if_pos ((ez _ _).2 h)]; simp [h]
 ·rw [if_neg (fun h2 => h ((ez _ _).1 h2))]; simp only [h, iff_false]; split <;> simp
theorem l5 (x y : ByteArray) : im x y = 0 ↔ x.toList = y.toList := by
 unfold im
 by_cases h : x.toList < y.toList
 ·rw [if_pos ((ez _ _).2 h)]; constructor
  ·intro h2; omega
  ·intro h2; rw [h2] at h; exact absurd h (List.lt_irrefl _)
 ·rw [if_neg (fun h2 => h ((ez _ _).1 h2))]; have hb : Op.bytesLess x.toList y.toList = false := by
   cases hc : Op.bytesLess x.toList y.toList
   ·rfl
   ·exact absurd ((ez _ _).1 hc) h
  rw [hb, Bool.false_or]; by_cases h2 : x.toList = y.toList
  ·simp [h2]
  ·simp [h2]
def ltP (p q : ByteArray × ByteArray) : Prop := p.1.toList < q.1.toList ∨ p.1.toList = q.1.toList ∧ p.2.toList < q.2.toList
theorem fW (p q : ByteArray × ByteArray) : ordS p q < 0 ↔ ltP p q := by
 unfold ordS ltP
 by_cases h : im p.1 q.1 = 0
 ·rw [if_pos h, nZ]; have h2 := (l5 _ _).1 h; rw [h2]; constructor
  ·intro h3; exact .inr ⟨rfl, h3⟩
  ·rintro (h3 | ⟨_, h3⟩)
   ·exact absurd h3 (List.lt_irrefl _)
   ·exact h3
 ·rw [if_neg h, nZ]; constructor
  ·intro h3; exact .inl h3
  ·rintro (h3 | ⟨h3, _⟩)
   ·exact h3
   ·exact absurd ((l5 _ _).2 h3) h
theorem fw (p : ByteArray × ByteArray) : ¬ ltP p p := by
 rintro (h | ⟨_, h⟩) <;> exact absurd h (List.lt_irrefl _)
theorem ft {p q r : ByteArray × ByteArray} (h : ltP p q) (k : ltP q r) : ltP p r := by
 rcases h with h | ⟨h, h2⟩ <;> rcases k with k | ⟨k, k2⟩
 ·exact .inl (List.lt_trans h k)
 ·exact .inl (k ▸ h)
 ·exact .inl (h ▸ k)
 ·exact .inr ⟨h.trans k, List.lt_trans h2 k2⟩
theorem f3 (p q : ByteArray × ByteArray) : ltP p q ∨ p = q ∨ ltP q p := by
 have ext : ∀ {a b : ByteArray}, a.toList = b.toList → a = b := fun {a b} h => by
  rw [ByteArray.toList_eq, ByteArray.toList_eq] at h; cases a; cases b; simpa using h
 have tri : ∀ a b : List UInt8, a < b ∨ a = b ∨ b < a := fun a b => by
  by_cases h1 : a < b
  ·exact .inl h1
  ·by_cases h2 : b < a
   ·exact .inr (.inr h2)
   ·exact .inr (.inl (List.le_antisymm h2 h1))
 rcases tri p.1.toList q.1.toList with h | h | h
 ·exact .inl (.inl h)
 ·rcases tri p.2.toList q.2.toList with k | k | k
  ·exact .inl (.inr ⟨h, k⟩)
  ·exact .inr (.inl (Prod.ext (ext h) (ext k)))
  ·exact .inr (.inr (.inr ⟨h.symm, k⟩))
 ·exact .inr (.inr (.inl h))
theorem swoE : SWO (ltOf fun (x y : S76 × Sl) => nh x.1 y.1) where
 irrefl x := by
  unfold ltOf nh
  rw [decide_eq_false_iff_not, fW]; exact fw _
 trans x y z h1 h2 := by
  unfold ltOf nh at *
  rw [decide_eq_true_eq, fW] at *; exact ft h1 h2
 ntrans x y z h1 h2 := by
  unfold ltOf nh at *
  rw [decide_eq_false_iff_not, fW] at *; intro h3; rcases f3 (x.1.f0, x.1.f1) (y.1.f0, y.1.f1) with h | h | h
  ·exact h1 h
  ·rw [h] at h3; exact h2 h3
  ·exact h2 (ft h h3)
theorem mC (blk off size : Nat) (w : World) : CmpLays Tryz.prog 116 #[] eS 3 (fun (x y : S76 × Sl) => nh x.1 y.1) blk off size w :=
 fun _ _ _ _ x y => ph x.1.f0 x.1.f1 y.1.f0 y.1.f1 _ _ _ _ _ _ _
theorem nM {R : S76 → List Value → Prop} (hR : ∀ x c, R x c → ∃ s : Sl, c = eS (x, s)) : ∀ (xs : List S76) (inner : List Value), Reps R 3 xs inner → ∃ ds : List (S76 × Sl), ds.map (·.1) = xs ∧ inner = ds.flatMap eS ∧ ∀ p ∈ ds, R p.1 (eS p)
 | [], inner, h => ⟨[], rfl, by have := h.1; simpa using this, cM⟩
 | x :: xs, inner, h => by
  have h0 := h.2 0 x rfl; rw [Nat.zero_mul, List.drop_zero] at h0; obtain ⟨s, hs⟩ := hR x _ h0; have hl := h.1; rw [List.length_cons] at hl; obtain ⟨ds, h1, h2, h3⟩ := nM hR xs (inner.drop 3) ⟨by rw [List.length_drop]; omega, fun j p hj => by
   have := h.2 (j + 1) p (by simpa using hj); rw [List.drop_drop]; have e : 3 + j * 3 = (j + 1) * 3 := by omega
   rw [e]; exact this⟩
  refine ⟨(x, s) :: ds, by rw [List.map_cons, h1], ?_, fun p hp => ?_⟩
  ·rw [List.flatMap_cons, ← h2, ← hs, List.take_append_drop]
  ·rcases List.mem_cons.1 hp with hp | hp
   ·rw [hp, ← hs]; exact h0
   ·exact h3 p hp
theorem kU {R : S76 → List Value → Prop} : ∀ (ds : List (S76 × Sl)), (∀ p ∈ ds, R p.1 (eS p)) → Reps R 3 (ds.map (·.1)) (ds.flatMap eS)
 | [], _ => ⟨rfl, cM⟩
 | p :: ds, h => by
  have ih := kU ds (fun q hq => h q (List.mem_cons_of_mem _ hq)); refine ⟨by have := ih.1; rw [List.flatMap_cons, List.length_append, this, List.map_cons, List.length_cons]; show 3 + _ = _; omega, fun j q hj => ?_⟩; cases j with
  | zero =>
   obtain rfl : p.1 = q := by simpa using hj
   exact h p cM
  | succ j =>
   have := ih.2 j q (by simpa using hj); rw [List.flatMap_cons]; have e : (j + 1) * 3 = (eS p).length + j * 3 := by show _ = 3 + _; omega
   rw [e, ← List.drop_drop, List.drop_left]; exact this
theorem iv (d : Array (S76 × Sl)) : (flatK eS 3 d).toList = d.toList.flatMap eS := by
 have h : ∀ (l : List (S76 × Sl)) (t : Nat), t < l.length * 3 → (l.flatMap eS)[t]? = some (eS (l[t / 3]!))[t % 3]! := by
  intro l; induction l with
  | nil => intro t ht; simp at ht
  | cons p l ih =>
   intro t ht; rw [List.flatMap_cons]; by_cases h3 : t < 3
   ·rw [List.getElem?_append_left (by exact h3)]; have e0 : t / 3 = 0 := by omega
    have e1 : t % 3 = t := by omega
    rw [e0, e1]; have hl : (eS p).length = 3 := rfl; rw [List.getElem?_eq_getElem u7_]; simp [hl, h3]
   ·rw [List.getElem?_append_right (by show 3 ≤ t; omega)]; have hl : (eS p).length = 3 := rfl; rw [hl]; have := ih (t - 3) (by rw [List.length_cons] at ht; omega); rw [this]; have e0 : t / 3 = (t - 3) / 3 + 1 := by omega
    have e1 : t % 3 = (t - 3) % 3 := by omega
    rw [e0, e1]; simp
 have hfl : ∀ l : List (S76 × Sl), (l.flatMap eS).length = l.length * 3 := by
  intro l; induction l with
  | nil => rfl
  | cons p l ih => rw [List.flatMap_cons, List.length_append, ih, List.length_cons]; show 3 + _ = _; omega
 apply List.ext_getElem?
 intro t; rcases Nat.lt_or_ge t (d.size * 3) with ht | ht
 ·have h2 := h d.toList t (by simpa using ht); rw [h2]; have hs : t < (flatK eS 3 d).size := by simpa using ht
  rw [Array.getElem?_toList, Array.getElem?_eq_getElem hs]; have h3 := get_flatK eS 3 d t ht; rw [getElem!_pos (flatK eS 3 d) t hs] at h3; rw [h3]; have h4 : d.toList[t / 3]! = d[t / 3]! := by
   rw [getElem!_pos d (t / 3) u7_, getElem!_pos d.toList (t / 3) (by rw [Array.length_toList]; omega), Array.getElem_toList]
  rw [h4]
 ·rw [List.getElem?_eq_none (by simpa using ht), List.getElem?_eq_none (by rw [hfl]; simpa using ht)]
def cS (x : S76) : ByteArray × ByteArray := (x.f0, x.f1)
set_option maxHeartbeats 1000000 in
theorem qN (v : Value) (xs : List S76) (B : Nat) (w0 w : World) (hB : Below B w0 w) (hR : Kd.R k76 76 w B (fun _ => True) v xs) (hv : ∃ g, v.ownBlock = some g) (hlen : xs.length < 1000000000) :
  Calls Tryz.prog 115 #[v, .func (.func 116) #[] #[]] w fun e w' => e = .returned (.tuple #[]) ∧ ∃ ys : List S76, ys.Perm xs ∧ ys.Pairwise (fun a b => ¬ ltP (cS b) (cS a)) ∧ Kd.R k76 76 w' B (fun _ => True) v ys ∧ Below B w0 w' := by
 obtain ⟨h0, inner, ho, hr⟩ := hR; obtain ⟨g, hg⟩ := hv; rcases ho.2 with ⟨rfl, _⟩ | ⟨g', cap, cur, rfl, hb, hh, hle, hmax, hsz, htake⟩
 ·simp [Value.ownBlock] at hg
 have hgg : g' = g := by simpa [Value.ownBlock] using hg
 subst hgg; have e3 : k76.sz = 3 := rfl; rw [e3] at hr htake hsz; obtain ⟨ds, hds1, hds2, hds3⟩ := nM (fun x c hM => by
  obtain ⟨v2, rfl, hP⟩ := gV hM; obtain ⟨A, n, rfl⟩ := Kd.R_slice hP; exact ⟨(A, x.f2.length, n), rfl⟩) xs inner hr
 have hlt : g' < w.heap.size := dZ hh; have hdl : ds.length = xs.length := by rw [← hds1, List.length_map]
 have hil : inner.length = xs.length * 3 := hr.1; have hget : ∀ t, t < inner.length → cur[t]? = inner[t]? := fun t ht => by
  rw [← htake, List.getElem?_take, if_pos u7_, Array.getElem?_toList]
 have hflat : (flatK eS 3 ds.toArray).toList = inner := by rw [iv, hds2]
 have hH : HoldsK eS 3 w g' 0 ds.toArray := by
  intro j hj; have hj' : j < inner.length := by rw [← hflat]; simpa using hj
  constructor
  ·rw [Nat.zero_add, bp hh, hget j hj', ← hflat, Array.getElem?_toList, Array.getElem?_eq_getElem hj, getElem!_pos (flatK eS 3 ds.toArray) j hj]; rfl
  ·exact cJ hh _
 have hsize : ds.toArray.size = xs.length := by simpa using hdl
 have hcon := Tryz.slices_SortFunc_Entry eS (fun _ => rfl) (fun x u hu => by
  simp only [eS, List.mem_cons, List.not_mem_nil, or_false] at hu; rcases hu with rfl | rfl | rfl <;> rfl) (fun (x y : S76 × Sl) => nh x.1 y.1) swoE 116 #[] g' 0 cap ds.toArray w (enters_of Tryz.func116 bY rfl) (mC g' 0 _ w) hH hlt u7_
 rw [hsize] at hcon; refine hcon.mono ?_; rintro e w' ⟨rfl, d', n, os, hp, hs, rfl⟩; obtain ⟨hp1, _, hp3⟩ := hp; have hd'l : d'.size = xs.length := by rw [hp1, hsize]
 have hperm : d'.toList.Perm ds := by
  have e1 : d'.extract 0 xs.length = d' := by rw [← hd'l]; simp
  have e2 : ds.toArray.extract 0 xs.length = ds.toArray := by rw [← hsize]; simp
  rw [e1, e2] at hp3; simpa using hp3
 have hheap := qI (enc := id) (w := w) hh n os 0 (flatK eS 3 d'); have hother : ∀ k, k < w.heap.size → k ≠ g' → (sortWorldK eS 3 w g' 0 n d' os).heap[k]? = w.heap[k]? := fun k hk hne => lg hk (Ne.symm hne) n os 0 _
 have hsz' : w.heap.size ≤ (sortWorldK eS 3 w g' 0 n d' os).heap.size := size_sortWorldK_c eS 3 w g' 0 n d' os; have hxl : (d'.toList.map (·.1)).length = xs.length := by rw [List.length_map, Array.length_toList, hd'l]
 have hfl' : (d'.toList.flatMap eS).length = xs.length * 3 := by rw [← iv, Array.length_toList, size_flatK, hd'l]
 refine ⟨rfl, d'.toList.map (·.1), ?_, ?_, ⟨fun _ _ => trivial, d'.toList.flatMap eS, ?_, ?_⟩, ⟨hB.os, hB.tape, hB.output, Nat.le_trans hB.size hsz', fun k hk => ?_⟩⟩
 ·have := hperm.map (·.1); rwa [hds1] at this
 ·rw [List.pairwise_map]; rw [List.pairwise_iff_getElem]; intro i j hi hj hij; have hi' : i < d'.size := by simpa using hi
  have hj' : j < d'.size := by simpa using hj
  have h1 := hs i j (Nat.zero_le _) hij u7_; unfold ltOf nh at h1
  rw [decide_eq_false_iff_not, fW, getElem!_pos d' i hi', getElem!_pos d' j hj'] at h1; simpa [cS] using h1
 ·rw [hxl]; refine ⟨by rw [hfl', e3], .inr ⟨g', cap, _, rfl, hb, hheap, hle, hmax, by rw [lH, e3]; exact hsz, ?_⟩⟩; apply List.ext_getElem?
  intro t; rw [List.getElem?_take, e3]; split
  ·rename_i ht
   have ht2 : t < (flatK eS 3 d').size := by rw [size_flatK, hd'l]; exact ht
   have ht3 : t < cur.size := by rw [hsz]; exact Nat.lt_of_lt_of_le ht (Nat.mul_le_mul_right _ hle)
   rw [Array.getElem?_toList, mO _ _ ht2 ht3, ← iv, Array.getElem?_toList, Array.getElem?_eq_getElem ht2]; rfl
  ·rename_i ht
   rw [List.getElem?_eq_none (by rw [hfl']; omega)]
 ·rw [e3]; refine kU d'.toList (fun p hp => ?_); have hM := hds3 p (hperm.mem_iff.1 hp); refine k76.M_mono (fun k hk => hk.1) (k76.M_move (w1 := sortWorldK eS 3 w g' 0 n d' os) (fun k hk => hother k hk.2.2.1 (fun he => hk.1.2 (by rw [he]; simp [Value.ownBlock]))) (k76.M_bound hM))
 ·rw [hother k (Nat.lt_of_lt_of_le hk (Nat.le_of_lt (Nat.lt_of_le_of_lt hb hlt))) u7_]; exact hB.block k hk
end
section
open Go Go.RowKit Go.MapKept Go.Proofs.YtnjjdojonflckaaGreatDoorW.PrintWords Go.Proofs.YtnjjdojonflckaaGreatDoorW.PrintLast Go.Proofs.YtnjjdojonflckaaGreatDoorW.PrintMore Go.Proofs.YtnjjdojonflckaaGreatDoor.Ent
open Go.ChangeMaps (setBlock heap_setBlock_same heap_setBlock_other)
theorem iX : kV Tryz.prog 145 147 34 where
 K := Go.Maps.Keyed.of_law (deep_law_gate bY (of_decide_eq_true bY) (of_decide_eq_true bY) bY bY)
 ht := Tryz.underlying145
 key := fun p hp => pM Tryz.underlying147 Tryz.underlying9 Tryz.underlying9 rfl rfl bY bY bY bY bY bY ⟨_, rfl⟩ p hp
 zero := fun w => by kernel_rfl
section
variable {P : Program} {ops : Array Oper} {rest : List Oper} {o o2 : Oper} {a : Act} {Q : Exit → Act → World → Prop}
theorem fP {W : World} (hg1 : o.guard = none) {N : Tmp} (hd : o.dst = some N) (hg2 : o2.guard = none) (hd2 : o2.dst = none) {zs cs : Array Value} {t : TypeId}
  (hrun1 : (execOp a.eval o).run P W = .ok (.value (.pointer (some ⟨W.heap.size, 0, none⟩))) (W.alloc (.cells zs t (0, 0))))
  (hrun2 : (execOp (a.put o.dst (.pointer (some ⟨W.heap.size, 0, none⟩))).eval o2).run P (W.alloc (.cells zs t (0, 0))) = .ok .skip (W.alloc (.cells cs t (0, 0))))
  (h : ∀ g, g = W.heap.size → ∀ w1, w1.heap[g]? = some (.cells cs t (0, 0)) → Below W.heap.size W w1 → wpList P ops Q rest (a.put o.dst (.pointer (some ⟨g, 0, none⟩))) w1) : wpList P ops Q (o :: o2 :: rest) a W := by
 refine Kd.event_run hg1 hrun1 ?_; refine wpList_plain hg2 fun K hK => ?_
 unfold Oper.wp
 rw [hrun2]; show K ((a.put o.dst _).put o2.dst undef) _
 rw [hd2]; exact hK _ _ (h _ rfl _ (pk W _) (bw (Below.refl _ _) _))
theorem qf {W : World} (hg1 : o.guard = none) {N : Tmp} (hd : o.dst = some N) (base : Nat)
  (hrun : (execOp a.eval o).run P W = .ok (.value (.map (some W.heap.size))) (W.alloc (.map #[] 0)))
  (h : ∀ m, m = W.heap.size → ∀ w1, MapIs k50 50 w1 base m [] → Below W.heap.size W w1 → wpList P ops Q rest (a.put o.dst (.map (some m))) w1) : wpList P ops Q (o :: rest) a W :=
 Kd.event_run hg1 hrun (h _ rfl _ (MapIs.made W base) (bw (Below.refl _ _) _))
end
theorem MapRest.sub {α : Type} {d : Kd α} {e : Nat} {w : World} {base m N j : Nat} {G : List (Pl × List α)} {okj ok1 : Nat → Prop} (h : MapRest d e w base m G j okj N) (hs : ∀ k, ok1 k → okj k) : MapRest d e w base m G j ok1 N := by
 obtain ⟨es, clock, f, hc, hm, hok, hS⟩ := h; exact ⟨es, clock, f, hc, hm, fun k hk => hok k (hs k hk), hS⟩
def Wr (w : World) (m k : Nat) : Prop := k = m ∨ ∃ q cells, (q = 50 ∨ q = 3) ∧ w.heap[k]? = some (.cells cells q (0, 0))
theorem Wr.not {w : World} {m k t : Nat} {cells : Array Value} {es : Array MapEntry} {clock : Nat} (hm : w.heap[m]? = some (.map es clock)) (hb : w.heap[k]? = some (.cells cells t (0, 0))) (h1 : t ≠ 50) (h2 : t ≠ 3) : ¬ Wr w m k := by
 rintro (rfl | ⟨q, c, hq, hc⟩)
 ·rw [hm] at hb; cases hb
 ·rw [hb] at hc; injection hc with hc
  injection hc with _ hc
  rcases hq with rfl | rfl
  ·exact h1 hc
  ·exact h2 hc
theorem MapIs.block {α : Type} {d : Kd α} {e : Nat} {w : World} {base m : Nat} {G : List (Pl × List α)} (h : MapIs d e w base m G) : ∃ es clock, w.heap[m]? = some (.map es clock) := by
 obtain ⟨es, clock, _, hc, _⟩ := h; exact ⟨es, clock, hc.heap⟩
theorem lE {w : World} {m : Nat} {S : Nat → Prop} {o : Obj} {w0 : World} (h : Kept w0 w S) (hm : S m ∨ w0.heap.size ≤ m) (hlt : m < w.heap.size) : Kept w0 (setBlock w m o) S :=
 h.then_ (S2 := fun k => k = m) ⟨by simp [setBlock], fun i hi hn => k9 w o hn⟩ (fun k hk => by rw [hk]; exact hm)
theorem la {B : Nat} {w0 w : World} {m : Nat} {o : Obj} (h : Below B w0 w) (hm : B ≤ m) : Below B w0 (setBlock w m o) :=
 ⟨h.os, h.tape, h.output, by have := h.size; simpa [setBlock] using this, fun k hk => (k9 w o u7_).trans (h.block k hk)⟩
abbrev Gs := List (Pl × List S50)
def entriesW.cs (k : Nat) (fs : List S92) (id : Int) : List S86 → Gs × Nat → Option (Gs × Nat)
 | [], s => some s
 | c :: cs, s => (bg.f k fs c.f0).bind fun fd => if fd.2.1 = 1 then
   (cz.f k c.f1).bind fun ts => if s.2 + ts.length ≤ 1000000 ∧ c.f0.size ≤ 1000000 ∧ (ts.all fun t => decide (t.size ≤ 1000000)) = true then entriesW.cs k fs id cs (fR id c.f0 ts 0 s.1, s.2 + ts.length) else none
  else entriesW.cs k fs id cs s
def entriesW.rs (k : Nat) (fs : List S92) : List S46 → Gs × Nat → Option (Gs × Nat)
 | [], s => some s
 | r :: rs, s => (entriesW.cs k fs r.f0 r.f1.f1 s).bind fun s' => entriesW.rs k fs rs s'
def toE (g : Pl × List S50) : S76 := ⟨g.1.1, g.1.2, g.2⟩
theorem oh {b : Bool} (s : ByteArray) (h : s.toList.isEmpty = b) : decide (s.size = 0) = b := by
 subst h; have e : s.toList.length = s.size := by rw [ByteArray.toList_eq]; exact Array.length_toList
 by_cases h : s.size = 0
 ·have : s.toList = [] := List.eq_nil_of_length_eq_zero u7_; simp [h, this]
 ·have : s.toList ≠ [] := fun h2 => h (by rw [← e, h2]; rfl)
  simp [h, this]
def oR (e : S76) : List S76 → List S76
 | [] => [e]
 | x :: l => if nh e x < 0 then e :: x :: l else x :: oR e l
def ei (l : List S76) : List S76 := l.foldr oR []
def entriesW.f (k : Nat) (fs : List S92) (rows : List S46) : Option (List S76) := (entriesW.rs k fs rows ([], 0)).bind fun s => some (ei (s.1.map toE))
theorem fld92_1 (x0 : ByteArray) (x1 x2 : Int) (w : World) : (Instr.field 92 (Value.agg #[.string x0, .int .i64 x1, .int .i64 x2]) 1).run Tryz.prog w = .ok (.int .i64 x1) w := by kernel_rfl
attribute [local go_sem] fld92_1
theorem il {w w1 : World} {row : Option Nat} {g o t : Nat} {cells : Array Value} {v : Value} (hg : w.grownBy w1 row) (hty : ∀ k, row = some k → ∃ q cells, (q = 50 ∨ q = 3) ∧ w.heap[k]? = some (.cells cells q (0, 0))) (hb : w.heap[g]? = some (.cells cells t (0, 0))) (hc : w.cell? ⟨g, o, none⟩ = some v) (h1 : t ≠ 50 := by decide) (h2 : t ≠ 3 := by decide) : w1.cell? ⟨g, o, none⟩ = some v :=
 Go.Proofs.YtnjjdojonflckaaGreatDoorW.PrintWords.cell_grown hg hc (fun he => by
  obtain ⟨q, c, hq, hh⟩ := hty g he.symm; rw [hb] at hh; injection hh with hh
  injection hh with _ hh
  rcases hq with rfl | rfl
  ·exact h1 hh
  ·exact h2 hh)
theorem rG {ops : Array Oper} {rest : List Oper} {o : Oper} {a : Act} {Q : Exit → Act → World → Prop} {w0 W : World} {B : Nat} (hgd : o.guard = none) {N : Tmp} (hd : o.dst = some N)
  (hrun : (execOp a.eval o).run Tryz.prog W = .ok (.value (.slice (some ⟨W.heap.size, 0, none⟩) 0 0)) (W.alloc (.cells #[] 76)))
  (HB : Below B w0 W) (hbase : B ≤ W.heap.size) (h : ∀ v1 w1, Kd.R k76 76 w1 B (fun _ => True) v1 [] → Below B w0 w1 → Below W.heap.size W w1 → (∃ b, v1.ownBlock = some b) → wpList Tryz.prog ops Q rest (a.put o.dst v1) w1) : wpList Tryz.prog ops Q (o :: rest) a W :=
 Kd.R_lit k76 (w0 := w0) B 76 hgd hd (xs := []) (inner := []) (ok := fun _ => True) (okp := fun _ => True) hrun (Reps.none _ _) (fun _ hk => hk) trivial HB hbase cM (fun v1 w1 hs hb hg hv => h v1 w1 hs hb ⟨hg.os, hg.tape, hg.output, hg.size, fun k hk => hg.block k hk cM⟩ (by obtain ⟨b, hb, _⟩ := hv; exact ⟨b, hb⟩))
theorem R_iter {wr w4 : World} {B m rr : Nat} {G : Gs} {is : List Nat} {v : Value} {xs : List S76} (h : Kd.R k76 76 wr B (fun _ => True) v xs) (hrg : Ranging k50 50 wr B m rr G is) (hg : wr.grownBy w4 (some rr)) : Kd.R k76 76 w4 B (fun _ => True) v xs := by
 obtain ⟨es, clock, f, c0, seen, hc, hS, hr, _⟩ := hrg; refine Kd.R_mono (Kd.R_grown (Kd.R_bound h) hg (fun k hk he => ?_)) (fun _ _ => trivial); obtain ⟨_, _, _, q, hq, cells, hcl⟩ := hk; injection he with he
 rw [he, hr] at hcl; cases hcl
theorem Ranging.nodup {wr : World} {B m rr : Nat} {G : Gs} {is : List Nat} (hrg : Ranging k50 50 wr B m rr G is) : (G.map (·.1)).Nodup := by
 obtain ⟨es, clock, f, c0, seen, hc, _⟩ := hrg; exact hc.nodup
theorem nr {w : World} {k : Nat} (h : ∃ q, q ∈ 50 :: k50.E ∧ ∃ cells, w.heap[k]? = some (.cells cells q (0, 0))) (h' : ∃ cells, w.heap[k]? = some (.cells cells 76 (0, 0))) : False := by
 obtain ⟨q, hq, cells, hc⟩ := h; obtain ⟨cells', hc'⟩ := h'; rw [hc] at hc'; injection hc' with hc'
 injection hc' with _ hc'
 rw [hc'] at hq; exact absurd hq aC
theorem jk (e : S76) : ∀ l, (oR e l).Perm (e :: l)
 | [] => List.Perm.refl _
 | x :: l => by
  unfold oR
  split
  ·exact List.Perm.refl _
  ·exact ((jk e l).cons x).trans (List.Perm.swap e x l)
theorem fF : ∀ l, (ei l).Perm l
 | [] => List.Perm.refl _
 | x :: l => (jk x (ei l)).trans ((fF l).cons x)
theorem jD (e : S76) : ∀ l : List S76, l.Pairwise (fun a b => ltP (cS a) (cS b)) → (∀ x ∈ l, cS x ≠ cS e) → (oR e l).Pairwise (fun a b => ltP (cS a) (cS b))
 | [], _, _ => by unfold oR; simp
 | x :: l, h, hne => by
  rw [List.pairwise_cons] at h; unfold oR
  split
  ·rename_i hlt
   have hlt' : ltP (cS e) (cS x) := (fW _ _).1 hlt; rw [List.pairwise_cons, List.pairwise_cons]; exact ⟨fun y hy => (List.mem_cons.1 hy).elim (fun h2 => by rw [h2]; exact hlt') (fun h2 => ft hlt' (h.1 y h2)), h⟩
  ·rename_i hlt
   have hge : ltP (cS x) (cS e) := by
    rcases f3 (cS x) (cS e) with h2 | h2 | h2
    ·exact h2
    ·exact absurd h2 (hne x cM)
    ·exact absurd ((fW _ _).2 h2) hlt
   rw [List.pairwise_cons]; refine ⟨fun y hy => ?_, jD e l h.2 (fun y hy => hne y (List.mem_cons_of_mem _ hy))⟩; rcases List.mem_cons.1 ((jk e l).mem_iff.1 hy) with h2 | h2
   ·rw [h2]; exact hge
   ·exact h.1 y h2
theorem fo : ∀ l : List S76, (l.map cS).Nodup → (ei l).Pairwise (fun a b => ltP (cS a) (cS b))
 | [], _ => List.Pairwise.nil
 | x :: l, h => by
  rw [List.map_cons, List.nodup_cons] at h; refine jD x (ei l) (fo l h.2) (fun y hy he => h.1 ?_); exact List.mem_map.2 ⟨y, (fF l).mem_iff.1 hy, he⟩
theorem jq : ∀ {l m : List S76}, l.Perm m → l.Pairwise (fun a b => ltP (cS a) (cS b)) → m.Pairwise (fun a b => ltP (cS a) (cS b)) → l = m
 | [], m, h, _, _ => (List.nil_perm.1 h).symm
 | x :: l, [], h, _, _ => absurd h.symm cM
 | x :: l, y :: m, h, h1, h2 => by
  rw [List.pairwise_cons] at h1 h2; have hxy : x = y := by
   rcases List.mem_cons.1 (h.mem_iff.1 (List.mem_cons_self ..)) with e | e
   ·exact e
   ·rcases List.mem_cons.1 (h.mem_iff.2 (List.mem_cons_self (a := y) (l := m))) with e2 | e2
    ·exact e2.symm
    ·exact absurd (ft (h1.1 y e2) (h2.1 x e)) (fw _)
  subst hxy; rw [jq (List.Perm.cons_inv h) h1.2 h2.2]
theorem pI {G : Gs} {ys : List S76} (h : ys.Perm (G.map toE)) (hs : ys.Pairwise (fun a b => ¬ ltP (cS b) (cS a))) (hn : (G.map (·.1)).Nodup) : ys = ei (G.map toE) := by
 have hk : ((G.map toE).map cS).Nodup := by
  have e : (G.map toE).map cS = G.map (·.1) := by rw [List.map_map]; rfl
  rw [e]; exact hn
 have hk2 : (ys.map cS).Nodup := (h.map cS).nodup_iff.2 hk; refine jq (h.trans (fF _).symm) ?_ (fo _ hk); have h3 : ys.Pairwise (fun a b => cS a ≠ cS b) := List.pairwise_map.1 hk2; exact (hs.and h3).imp (fun {a b} hab => by
  rcases f3 (cS a) (cS b) with h4 | h4 | h4
  ·exact h4
  ·exact absurd h4 hab.2
  ·exact absurd h4 hab.1)
theorem ik {w0 wr w3 : World} {B m jj : Nat} {G : Gs} {okj ok1 : Nat → Prop} {xs xs' : List S50} {v1 : Value} {p : Pl} {id x : Int} (hmap : MapIs k50 50 wr B m G) (hrest : MapRest k50 50 wr B m G jj okj wr.heap.size) (hk : Kept wr w3 okj) (hS : Kd.S k50 50 w3 B ok1 v1 xs') (hok : ∀ k, ok1 k → okj k ∨ wr.heap.size ≤ k)
  (hty : ∀ k, okj k → ∃ q cells, (q = 50 ∨ q = 3) ∧ wr.heap[k]? = some (.cells cells q (0, 0))) (hp : kL p) (hj : (jj = G.length ∧ xs = [] ∧ ∀ g ∈ G, g.1 ≠ p) ∨ ∃ g, G[jj]? = some g ∧ g.1 = p ∧ g.2 = xs) (he : xs' = fh xs id x) (hB : Below B w0 w3) (hm : B ≤ m) :
  ∃ es clock, (Instr.mapUpdate 145 (.map (some m)) (.agg #[.string p.1, .string p.2]) v1).run Tryz.prog w3 = .ok () (setBlock w3 m (.map es clock)) ∧ MapIs k50 50 (setBlock w3 m (.map es clock)) B m (stepG G p id x) ∧ Kept wr (setBlock w3 m (.map es clock)) (Wr wr m) ∧ Below B w0 (setBlock w3 m (.map es clock)) := by
 have hrest3 := hrest.step (w1 := w3) (fun k hk1 hn => hk.2 k hk1 hn); obtain ⟨es, clock, hrun, hmap3⟩ := Go.Proofs.YtnjjdojonflckaaGreatDoor.Ent.put iX hrest3 hS hok hp (hj.imp (fun h => ⟨h.1, h.2.2⟩) (fun ⟨g, h1, h2, _⟩ => ⟨g, h1, h2⟩)); rw [he, qc G p id x jj xs hmap.keys_nodup hj] at hmap3; exact ⟨es, clock, hrun, hmap3, lE (hk.mono (fun k h => .inr (hty k h))) (.inl (.inl rfl)) (Nat.lt_of_lt_of_le hmap.lt hk.1), la hB hm⟩
theorem entriesW.calls (k : Nat) (A0 : Option Addr) (c0 : Nat) (l0 : List (S92)) (A1 : Option Addr) (c1 : Nat) (l1 : List (S46)) (r : List (S76)) (w : World) (hG : StopsIn w) (hr0 : Kd.C k92 w A0 l0.length l0) (hc0 : l0.length ≤ c0) (hr1 : Kd.C k46 w A1 l1.length l1) (hc1 : l1.length ≤ c1) (h : entriesW.f k l0 l1 = some r) :
  Calls Tryz.prog 68 #[.slice A0 l0.length c0, .slice A1 l1.length c1] w fun e w' => ∃ v0_ : Value, e = .returned (v0_) ∧ Kd.R k76 76 w' w.heap.size (fun _ => True) v0_ r ∧ Below w.heap.size w w' := by
 obtain ⟨⟨GG, nn⟩, hrs, hsort⟩ := Option.bind_eq_some_iff.1 h; have hsort := Option.some.inj hsort; have hlen := hr1.2.1; have HG := am_ hG; have HF := am_ hr0; have HF0 := am_ hc0; have HR := am_ hr1; have H := am_ hrs; have HSORT := am_ hsort; have HB := am_ (Below.refl w.heap.size w); have hu46_ := Tryz.underlying46; have hu86_ := Tryz.underlying86; clear hG hr0 hc0 hr1 h hrs hsort; go_enter Tryz.func68, Tryz.ntmps68
 go_wp2_with (first | ((with_reducible refine aE (N := 17) rfl ?_); refine qf ?hg (N := 17) ?hd w.heap.size ?hr ?_; (case hd => rfl); (case hg => rfl); (case hr => exact u6_); intro m hm w1 hmap hb; have HM := am_ hmap; have HMW := am_ (Nat.le_of_eq hm.symm); replace HB := am_ (bK HB.out hb); clear hm hmap hb))
 go_loopw [20] (fun v20 wr => ∃ (i : Nat) (s : Gs × Nat), v20 = .int .i64 (i : Int) ∧ i ≤ l1.length ∧ aa (entriesW.rs k l0 (l1.drop i) s = some (GG, nn)) ∧ aa (LenG s.2 s.1 ∧ s.2 ≤ 1000000) ∧ aa (MapIs k50 50 wr w.heap.size m s.1) ∧ aa (Below w.heap.size w wr)) (fun v _ => match v with | .int _ i => l1.length - i.toNat | _ => 0)
 case atStart => exact ⟨0, ([], 0), rfl, Nat.zero_le _, H, ⟨⟨Nat.zero_le _, cM⟩, Nat.zero_le _⟩, HM, HB⟩
 case round =>
  clear H HM HB; obtain ⟨i, s, rfl, hi, H, HL, HM, HB⟩ := hrel; rcases Nat.lt_or_ge i l1.length with hlt | hge
  ·obtain ⟨ad, A2, c2, e, hx0, hx1, hx2, hcl, hcc⟩ := fj HR.out (i : Int) u7_ u7_; subst e; simp only [Int.toNat_natCast] at hx0 hx1 hx2; replace hx0 := ah HB.out hx0; replace hx1 := ah HB.out hx1; replace hx2 := ah HB.out hx2; have hrd : ab l1 (i : Int) = l1[i] := by unfold ab; simp [List.getD_eq_getElem?_getD, List.getElem?_eq_getElem hlt]
   rw [hrd] at hx0 hx1 hx2 hcl hcc; have h := H.out; rw [List.drop_eq_getElem_cons hlt, entriesW.rs] at h; generalize l1[i] = row at hx0 hx1 hx2 hcl hcc h; clear hrd; obtain ⟨s2, hs2, h⟩ := Option.bind_eq_some_iff.1 h; have HS2 := am_ hs2; have H2 := am_ h; have HCC := am_ hcc; have hclen := hcc.2.1; have p1 : ((i : Int) < (l1.length : Int)) = True := eq_true u7_; have p0 : (0 ≤ (i : Int)) = True := eq_true u7_; clear h H hs2 hcc hcl; go_wp2_with (first | ((with_reducible refine aE (N := 7) rfl ?_); refine fP rfl (N := 7) rfl rfl rfl (zs := #[.int .i64 0, .string (⟨#[]⟩ : ByteArray), .slice none 0 0]) (cs := #[.int .i64 row.f0, .string row.f1.f0, .slice A2 row.f1.f1.length c2]) (t := 46) ?hr ?hs ?_; (case hr => exact u6_); (case hs => exact u6_); intro gr hg w2 hbox hb; have BKr := am_ hbox; replace HM := am_ (HM.out.below hb); replace HB := am_ (bK HB.out hb); have hz2 : w2.cell? ⟨gr, 2, none⟩ = some (.slice A2 row.f1.f1.length c2) := (bp BKr.out 2).trans rfl; clear hg hbox hb hx0 hx1 hx2))
   have hclen' : row.f1.f1.length ≤ 9223372036854775807 := hclen; go_loopw [28] (fun v28 wr => ∃ (j : Nat) (s3 : Gs × Nat), v28 = .int .i64 (j : Int) ∧ j ≤ row.f1.f1.length ∧ aa (entriesW.cs k l0 row.f0 (row.f1.f1.drop j) s3 = some s2) ∧ aa (LenG s3.2 s3.1 ∧ s3.2 ≤ 1000000) ∧ aa (MapIs k50 50 wr w.heap.size m s3.1) ∧ aa (wr.heap[gr]? = some (.cells #[.int .i64 row.f0, .string row.f1.f0, .slice A2 row.f1.f1.length c2] 46 (0, 0))) ∧ aa (Below w.heap.size w wr)) (fun v _ => match v with | .int _ i => row.f1.f1.length - i.toNat | _ => 0)
   case atStart => exact ⟨0, s, rfl, Nat.zero_le _, HS2, HL, HM, BKr, HB⟩
   case round =>
    clear HS2 HL HM BKr HB hz2; obtain ⟨j, s3, rfl, hj, HS2, HL, HM, BKr, HB⟩ := hrel; rcases Nat.lt_or_ge j row.f1.f1.length with hjlt | hjge
    ·obtain ⟨adc, e, hy0, hy1⟩ := dk HCC.out (j : Int) u7_ u7_; subst e; simp only [Int.toNat_natCast] at hy0 hy1; replace hy0 := ah HB.out hy0; replace hy1 := ah HB.out hy1; have hrd : ac row.f1.f1 (j : Int) = row.f1.f1[j] := by unfold ac; simp [List.getD_eq_getElem?_getD, List.getElem?_eq_getElem hjlt]
     rw [hrd] at hy0 hy1; have h := HS2.out; rw [List.drop_eq_getElem_cons hjlt, entriesW.cs] at h; generalize row.f1.f1[j] = c at hy0 hy1 h; clear hrd; obtain ⟨⟨d1, d2, d3⟩, hfd, h⟩ := Option.bind_eq_some_iff.1 h; have HFD := am_ hfd; have q1 : ((j : Int) < (row.f1.f1.length : Int)) = True := eq_true u7_; have q0 : (0 ≤ (j : Int)) = True := eq_true u7_; simp only at h; by_cases hd2 : d2 = 1
     ·rw [if_pos hd2] at h; obtain ⟨ts, hts, h⟩ := Option.bind_eq_some_iff.1 h; by_cases hck : s3.2 + ts.length ≤ 1000000 ∧ c.f0.size ≤ 1000000 ∧ (ts.all fun t => decide (t.size ≤ 1000000)) = true
      ·rw [if_pos hck] at h; have HTS := am_ hts; have HCK := am_ hck; have H3 := am_ h; have hdb : (d2 != 1) = false := by rw [hd2]; rfl
       clear h HS2 hts hfd hck hd2; go_wp2_with (first | ((with_reducible refine aE (N := 9) rfl ?_); refine fP rfl (N := 9) rfl rfl rfl (zs := #[.string (⟨#[]⟩ : ByteArray), .string (⟨#[]⟩ : ByteArray)]) (cs := #[.string c.f0, .string c.f1]) (t := 86) ?hr ?hs ?_; (case hr => exact u6_); (case hs => exact u6_); intro gc hg w3 hbox hb; have BKc := am_ hbox; replace HM := am_ (HM.out.below hb); replace BKr := am_ (bh BKr.out hb); replace HB := am_ (bK HB.out hb); have hz0 : w3.cell? ⟨gc, 0, none⟩ = some (.string c.f0) := (bp BKc.out 0).trans rfl; have hz1 : w3.cell? ⟨gc, 1, none⟩ = some (.string c.f1) := (bp BKc.out 1).trans rfl; clear hg hbox hb hy0 hy1) | (go_at_call 110; refine (bg.calls k _ _ _ _ _ _ _ _ (Kd.C_below HF.out HB.out) HF0.out HFD.out).mono ?_; rintro e w4 ⟨rfl, hb⟩; replace HM := am_ (HM.out.below hb); replace BKr := am_ (bh BKr.out hb); replace BKc := am_ (bh BKc.out hb); replace HB := am_ (bK HB.out hb); replace hz0 := ah hb hz0; replace hz1 := ah hb hz1; clear hb) | (go_at_call 20; refine (cz.calls k _ _ _ (StopsIn.below HG.out HB.out) HTS.out).mono ?_; rintro e w5 ⟨vt, rfl, ht, hb⟩; obtain ⟨A8, c8, rfl⟩ := Kd.R_slice ht; have HT := am_ (Kd.R_lower (Kd.R_tight rfl ht) HB.out.size); replace HM := am_ (HM.out.below hb); replace BKr := am_ (bh BKr.out hb); replace BKc := am_ (bh BKc.out hb); replace HB := am_ (bK HB.out hb); clear hb ht hz0 hz1))
       have hlt8 := (Kd.R_reads' HT.out).2.2.2.1; go_loopw [42] (fun v42 wr => ∃ (n : Nat) (G : Gs), v42 = .int .i64 (n : Int) ∧ n ≤ ts.length ∧ aa (fR row.f0 c.f0 (ts.drop n) (n : Int) G = fR row.f0 c.f0 ts 0 s3.1) ∧ aa (LenG (s3.2 + n) G) ∧ aa (MapIs k50 50 wr w.heap.size m G) ∧ aa (Kd.R Kd.string 9 wr w.heap.size (fun k_ => some k_ = (Value.slice A8 ts.length c8).ownBlock) (.slice A8 ts.length c8) ts) ∧ aa (wr.heap[gr]? = some (.cells #[.int .i64 row.f0, .string row.f1.f0, .slice (some adc) row.f1.f1.length c2] 46 (0, 0))) ∧ aa (wr.heap[gc]? = some (.cells #[.string c.f0, .string c.f1] 86 (0, 0))) ∧ aa (Below w.heap.size w wr)) (fun v _ => match v with | .int _ i => ts.length - i.toNat | _ => 0)
       case atStart => exact ⟨0, s3.1, rfl, Nat.zero_le _, ⟨rfl⟩, ⟨HL.out.1⟩, HM, HT, BKr, BKc, HB⟩
       case round =>
        clear HM HT BKr BKc HB; obtain ⟨n, G, rfl, hn, HGS, HLG, HM, HT, BKr, BKc, HB⟩ := hrel; rcases Nat.lt_or_ge n ts.length with hnlt | hnge
        ·have h := HGS.out; rw [List.drop_eq_getElem_cons hnlt, fR] at h; have htc := (Kd.R_reads' HT.out).2.2; obtain ⟨ad8, e8, hy⟩ := rn htc n hnlt; subst e8; have htm : ts[n] ∈ ts := List.getElem_mem _; have hsm : ts[n].size ≤ 1000000 := by have := List.all_eq_true.1 HCK.out.2.2 _ htm; simpa using this
         have r1 : ((n : Int) < (ts.length : Int)) = True := eq_true u7_; have r0 : (0 ≤ (n : Int)) = True := eq_true u7_; generalize ts[n] = tt at h hy hsm htm; generalize hte : tt.toList.isEmpty = bt; have hsz := oh tt hte; cases bt with
         | true =>
          rw [if_pos (by simpa using hsz)] at h; have HN := am_ h; clear h hsz htc htm hsm; go_wp2; go_roundw
          case rel => exact ⟨n + 1, G, gD, u7_, by simpa using HN, ⟨⟨by have := HLG.out.1; omega, fun g hg => ⟨by have := (HLG.out.2 g hg).1; omega, fun q hq => by have := (HLG.out.2 g hg).2 q hq; omega⟩⟩⟩, HM, HT, BKr, BKc, HB⟩
          case measure => simp; omega
         | false =>
          rw [if_neg (by simpa using hsz)] at h; have HN := am_ h; have hp : kL (c.f0, tt) := ⟨Nat.le_trans HCK.out.2.1 aC, Nat.le_trans hsm aC⟩; obtain ⟨jj, v, xs, okj0, hlook0, hS0, hrest0, hjj⟩ := Go.Proofs.YtnjjdojonflckaaGreatDoor.Ent.look iX HM.out hp; obtain ⟨Av, cv, rfl⟩ := Kd.S_slice hS0; have hlook : (Instr.lookup 145 (.map (some m)) (.agg #[.string c.f0, .string tt]) false).run Tryz.prog wr = .ok (.slice Av xs.length cv) wr := hlook0; have hxl : xs.length ≤ s3.2 + n ∧ ∀ q ∈ xs, q.f1.length ≤ s3.2 + n := HLG.out.at hjj; have hck1 := HCK.out.1; have hS := Kd.S_bound hS0; have hrest := MapRest.sub hrest0 (ok1 := fun k => okj0 k ∧ w.heap.size ≤ k ∧ k < wr.heap.size ∧ ∃ q, q ∈ 50 :: k50.E ∧ ∃ cells, wr.heap[k]? = some (.cells cells q (0, 0))) (fun k hk => hk.1); obtain ⟨okj, hokj⟩ : ∃ okj : Nat → Prop, okj = (fun k => okj0 k ∧ w.heap.size ≤ k ∧ k < wr.heap.size ∧ ∃ q, q ∈ 50 :: k50.E ∧ ∃ cells, wr.heap[k]? = some (.cells cells q (0, 0))) := ⟨_, rfl⟩; rw [← hokj] at hS hrest; have hty : ∀ k, okj k → ∃ q cells, (q = 50 ∨ q = 3) ∧ wr.heap[k]? = some (.cells cells q (0, 0)) := fun k hk => by
           rw [hokj] at hk; obtain ⟨_, _, _, q, hq, cells, hc⟩ := hk; refine ⟨q, cells, ?_, hc⟩; rcases List.mem_cons.1 hq with hq | hq
           ·exact .inl hq
           ·exact .inr (by have : k50.E = [3] := rfl; rw [this] at hq; simpa using hq)
          clear hokj; have hxl2 : xs.length ≤ 2000000 := by omega
          have HXL := am_ hxl; have HSX := am_ hS; have HREST := am_ hrest; have HTY := am_ hty; have HJJ := am_ hjj; have HPS := am_ hp; have hz0 : wr.cell? ⟨gc, 0, none⟩ = some (.string c.f0) := (bp BKc.out 0).trans rfl; have hzr : wr.cell? ⟨gr, 0, none⟩ = some (.int .i64 row.f0) := (bp BKr.out 0).trans rfl; clear h hsz htc htm hsm hlook0 hS0 hrest0 hS hrest hty hjj hp hxl hck1; have HLQ := am_ (show s3.2 + n ≤ 2000000 by have := HL.out.2; have := HCK.out.1; omega); obtain ⟨X, hX⟩ : ∃ X : List S50, X = xs := ⟨_, rfl⟩; have HJX : aa ((jj = G.length ∧ X = [] ∧ ∀ g ∈ G, g.1 ≠ (c.f0, tt)) ∨ ∃ g, G[jj]? = some g ∧ g.1 = (c.f0, tt) ∧ g.2 = X) := ⟨by rw [hX]; exact HJJ.out⟩; clear HJJ; rcases Nat.eq_zero_or_pos xs.length with h0 | hpos
          ·obtain rfl : xs = [] := List.eq_nil_of_length_eq_zero h0; have HX := am_ hX; clear hX h0; have HST := am_ (show ([] : List S50) ++ [⟨row.f0, [(n : Int)]⟩] = fh X row.f0 (n : Int) from by rw [HX.out]; rfl); go_wp2; go_quiet (fail)
           have HM5 := am_ (HM.out.below (aw (Below.refl _ _) nq)); have HREST5 := am_ (show MapRest k50 50 (wr.drewN nq) w.heap.size m G jj okj (wr.drewN nq).heap.size from HREST.out.step (fun _ _ _ => rfl)); have HS5 := am_ (Kd.S_drewN HSX.out nq); have HTY5 := am_ (show ∀ k, okj k → ∃ q cells, (q = 50 ∨ q = 3) ∧ (wr.drewN nq).heap[k]? = some (.cells cells q (0, 0)) from HTY.out); have BKr5 := am_ (eP BKr.out nq); have BKc5 := am_ (eP BKc.out nq); have HT5 := am_ (Kd.R_drewN HT.out nq); have HB5 := am_ (aw HB.out nq); have HBM := am_ (Nat.le_trans HMW.out (Nat.le_refl m)); clear HM HREST HSX HTY BKr BKc HT HB hlook hz0 hzr; generalize wr.drewN nq = w5 at HM5 HREST5 HS5 HTY5 BKr5 BKc5 HT5 HB5 ⊢; have hzr5 : w5.cell? ⟨gr, 0, none⟩ = some (.int .i64 row.f0) := (bp BKr5.out 0).trans rfl; have hz05 : w5.cell? ⟨gc, 0, none⟩ = some (.string c.f0) := (bp BKc5.out 0).trans rfl; go_wp2_with (first | ((with_reducible refine bV (b := .append) (xs := #[.tmp 82, .tmp 88]) rfl ?_); at_builtin; refine Kd.S_append k50 (w0 := w) w.heap.size rfl (.tmp 82) (.tmp 88) 34 50 (.agg #[(.int .i64 0), (.slice none 0 0)]) 32 rfl Tryz.underlying34 mK rfl aC u7_ (.slice Av 0 cv) ([] : List S50) (⟨row.f0, [(n : Int)]⟩ : S50) [.int .i64 row.f0, .slice (some ⟨w5.heap.size, 0, none⟩) 1 1] (fun k => okj k ∨ w5.heap.size ≤ k) (fun k => k = w5.heap.size) rfl u77_ ?aP ?aK ?aF ?aO ?aB ?aS ?aL ?_; (case aP => exact kT row.f0 (n : Int) w5 w.heap.size HB5.out.size); (case aK => exact (fun k hk => ⟨.inr u7_, fun he => by have := Kd.S_lt HS5.out k he.symm; omega⟩)); (case aF => exact (fun k hk => .inr (by simp at hk; omega))); (case aO => exact u87_); (case aB => exact bw HB5.out _); (case aS => exact Nat.le_trans HB5.out.size cM); (case aL => exact u85_); intro v3 w3 ho hb hg hat; have hg' : w5.grownBy w3 (Value.slice Av 0 cv).ownBlock := World.grownBy.trans (World.grownBy_alloc w5 _ _) hg; obtain ⟨A3, c3, rfl⟩ := Kd.S_slice ho; obtain ⟨es, clock, hput, hmap6, hk6, hb6⟩ := ik (w0 := w) HM5.out HREST5.out (Kept.of_grown hg' (Kept.refl w5 okj) (fun k hk => .inl ((Kd.S_R HS5.out).1 k hk))) ho (fun k hk => hk) HTY5.out HPS.out HJX.out HST.out hb HBM.out; have HM6 := am_ hmap6; have HKB := am_ hk6; have HB6 := am_ hb6; have hz06 : w3.cell? ⟨gc, 0, none⟩ = some (.string c.f0) := il hg' (fun k hk => HTY5.out k ((Kd.S_R HS5.out).1 k hk)) BKc5.out hz05; simp only [List.length_append, List.length_nil, List.length_cons, Nat.zero_add] at hput; clear ho hb hg hg' hat hmap6 hk6 hb6 hzr5 hz05))
           obtain ⟨es0, cl0, hmb⟩ := MapIs.block HM5.out; have HT6 := am_ (Kd.R_kept HT5.out HKB.out (fun k_ hk => by
            obtain ⟨cells, hc⟩ := Kd.R_typed HT5.out k_ hk.symm; exact Wr.not hmb hc aC aC))
           have BKr6 := am_ (cP BKr5.out HKB.out (Wr.not hmb BKr5.out aC aC)); have BKc6 := am_ (cP BKc5.out HKB.out (Wr.not hmb BKc5.out aC aC)); clear hmb; go_roundw
           case rel => exact ⟨n + 1, stepG G (c.f0, tt) row.f0 (n : Int), gD, u7_, by simpa using HN, ⟨u54_⟩, HM6, HT6, BKr6, BKc6, HB6⟩
           case measure => simp; omega
          ·obtain ⟨m2, hm2⟩ : ∃ m2, X.length = m2 + 1 := ⟨X.length - 1, by rw [hX]; omega⟩; have hpp : X[m2]? = some (X[m2]'u7_) := List.getElem?_eq_getElem _; rw [← hX] at HSX hlook HXL; clear hX hpos hxl2; generalize X[m2]'u7_ = p at hpp; have HST0 := am_ (nT hpp hm2 row.f0 (n : Int)); have HPL := am_ (HXL.out.2 p (List.mem_of_getElem? hpp)); obtain ⟨g, cap, u2, oki2, hv, hgl, hgb, hgo, hgc, hd0, hd1, hdf, hri, hok2, hsame⟩ := pg HSX.out m2 p hpp hm2.symm; injection hv with hA hy1_ hy2_
           clear hy1_ hy2_ hgc; subst hA; rw [hm2] at HSX hlook hsame; have HRI := am_ hri; have HOK2 := am_ hok2; have HSAME := am_ hsame; have HGL := am_ hgl; have HGB := am_ hgb; have HGO := am_ hgo; have HXM := am_ hm2; have hmb : m2 ≤ 2000000 := by have h1_ := HXL.out.1; have h2_ := HLQ.out; omega
           have t4 : (0 ≤ (m2 : Int)) = True := eq_true u7_; have t5 : ((m2 : Int) < ((m2 + 1 : Nat) : Int)) = True := eq_true u7_; clear hpp hm2 hri hok2 hsame hgl hgb hgo; by_cases hd : p.f0 = row.f0
           ·have hdb2 : (p.f0 == row.f0) = true := by simpa using hd
            have HST := am_ (show X.set m2 ⟨p.f0, p.f1 ++ [(n : Int)]⟩ = fh X row.f0 (n : Int) from by rw [HST0.out, if_pos hd]); clear hd HST0; go_wp2; go_quiet (fail)
            have HM5 := am_ (HM.out.below (aw (Below.refl _ _) nq)); have HREST5 := am_ (show MapRest k50 50 (wr.drewN nq) w.heap.size m G jj okj (wr.drewN nq).heap.size from HREST.out.step (fun _ _ _ => rfl)); have HS5 := am_ (Kd.S_drewN HSX.out nq); have HTY5 := am_ (show ∀ k, okj k → ∃ q cells, (q = 50 ∨ q = 3) ∧ (wr.drewN nq).heap[k]? = some (.cells cells q (0, 0)) from HTY.out); have BKr5 := am_ (eP BKr.out nq); have BKc5 := am_ (eP BKc.out nq); have HT5 := am_ (Kd.R_drewN HT.out nq); have HB5 := am_ (aw HB.out nq); have HBM := am_ (Nat.le_trans HMW.out (Nat.le_refl m)); have HRI5 := am_ (Kd.R_drewN HRI.out nq); have HSAME5 := am_ (show ∀ (w1 : World) (u1 : Value) (x : Int) (okp : Nat → Prop), (wr.drewN nq).grownBy w1 u2.ownBlock → kI.R 3 w1 w.heap.size okp u1 (p.f1 ++ [x]) → (∀ k, okp k → oki2 k ∨ (wr.drewN nq).heap.size ≤ k) → Kd.S k50 50 (w1.setCell ⟨g, m2 * 2 + 1, none⟩ u1) w.heap.size (fun k => okj k ∨ (wr.drewN nq).heap.size ≤ k) (.slice (some ⟨g, 0, none⟩) (m2 + 1) cv) (X.set m2 ⟨p.f0, p.f1 ++ [x]⟩) ∧ w1.grownBy (w1.setCell ⟨g, m2 * 2 + 1, none⟩ u1) (some g) from fun w1 u1 x okp hg => HSAME.out w1 u1 x okp ⟨hg.os, hg.tape, hg.output, hg.size, hg.block⟩); have HGL5 := am_ (show g < (wr.drewN nq).heap.size from HGL.out); replace hd1 : (wr.drewN nq).cell? ⟨g, m2 * 2 + 1, none⟩ = some u2 := hd1; replace hdf : (wr.drewN nq).frozen? ⟨g, m2 * 2 + 1, none⟩ = false := hdf; clear HRI HSAME HGL hd0 HM HREST HSX HTY BKr BKc HT HB hlook hz0 hzr; generalize wr.drewN nq = w5 at HM5 HREST5 HS5 HTY5 BKr5 BKc5 HT5 HB5 HRI5 HSAME5 HGL5 hd1 hdf ⊢; have hzr5 : w5.cell? ⟨gr, 0, none⟩ = some (.int .i64 row.f0) := (bp BKr5.out 0).trans rfl; have hz05 : w5.cell? ⟨gc, 0, none⟩ = some (.string c.f0) := (bp BKc5.out 0).trans rfl; have hgc1 : g ≠ gc := fun he => by
             obtain ⟨q, cells, hq, hh⟩ := HTY5.out g HGO.out; rw [he, BKc5.out] at hh; injection hh with hh
             injection hh with _ hh
             rcases hq with rfl | rfl
             ·exact absurd hh aC
             ·exact absurd hh aC
            have hgc2 : gc ≠ g := Ne.symm hgc1; go_wp2_with (first | ((with_reducible refine bV (b := .append) (xs := #[.tmp 76, .tmp 78]) rfl ?_); at_builtin; refine Kd.R_append kI (w0 := w) w.heap.size rfl (.tmp 76) (.tmp 78) 39 3 (.int .i64 0) 8 rfl Tryz.underlying39 qR rfl aC u7_ u2 p.f1 (n : Int) [.int .i64 (n : Int)] (fun k => oki2 k ∨ w5.heap.size ≤ k) (fun _ => False) ?hs ?hx rfl (fun _ hk => hk.elim) (fun k hk => .inr hk) (Kd.R_mono HRI5.out (fun _ hk => .inl hk)) HB5.out HB5.out.size (by have h1_ := HPL.out; have h2_ := HLQ.out; omega) ?_; (case hs => first | rfl | (go_simp; done) | (go_simp; rfl) | (simp; done)); (case hx => first | rfl | (go_simp; done) | (go_simp; rfl) | (simp; done)); intro u3 w3 ho hb hg hat; have hne : some g ≠ u2.ownBlock := (fun he => (HOK2.out g (HRI5.out.1 g he.symm)).2.2 rfl); have hh := hg.block g HGL5.out hne; replace hd1 := Go.Proofs.YtnjjdojonflckaaGreatDoorW.PrintWords.cell_grown hg hd1 hne; have hdf3 : w3.frozen? ⟨g, m2 * 2 + 1, none⟩ = false := (by simpa [World.frozen?, hh] using hdf); obtain ⟨A3, c3, rfl⟩ := Kd.R_slice ho; have hsm := HSAME5.out w3 _ (n : Int) _ hg ho (fun _ hk => hk); have hk3 := Kept.of_grown hsm.2 (Kept.of_grown hg (Kept.refl w5 okj) (fun k hk => .inl (HOK2.out k (HRI5.out.1 k hk)).1)) (fun k hk => by injection hk with hk; rw [← hk]; exact .inl HGO.out); have hb3 := eV hb (some g) hb.size hsm.2 (fun k hk => by injection hk with hk; rw [← hk]; exact HGB.out); obtain ⟨es, clock, hput, hmap6, hk6, hb6⟩ := ik (w0 := w) HM5.out HREST5.out hk3 hsm.1 (fun k hk => hk) HTY5.out HPS.out HJX.out HST.out hb3 HBM.out; have HM6 := am_ hmap6; have HKB := am_ hk6; have HB6 := am_ hb6; have hz06 : w3.cell? ⟨gc, 0, none⟩ = some (.string c.f0) := il hg (fun k hk => HTY5.out k (HOK2.out k (HRI5.out.1 k hk)).1) BKc5.out hz05; simp only [List.length_append, List.length_nil, List.length_cons, Nat.zero_add] at hput HM6 HKB HB6; clear ho hb hg hat hmap6 hk6 hb6 hzr5 hz05 hne hh hsm hk3 hb3 hdf))
            obtain ⟨es0, cl0, hmb⟩ := MapIs.block HM5.out; have HT6 := am_ (Kd.R_kept HT5.out HKB.out (fun k_ hk => by
             obtain ⟨cells, hc⟩ := Kd.R_typed HT5.out k_ hk.symm; exact Wr.not hmb hc aC aC))
            have BKr6 := am_ (cP BKr5.out HKB.out (Wr.not hmb BKr5.out aC aC)); have BKc6 := am_ (cP BKc5.out HKB.out (Wr.not hmb BKc5.out aC aC)); clear hmb; go_roundw
            case rel => exact ⟨n + 1, stepG G (c.f0, tt) row.f0 (n : Int), gD, u7_, by simpa using HN, ⟨u54_⟩, HM6, HT6, BKr6, BKc6, HB6⟩
            case measure => simp; omega
           ·have hdb2 : (p.f0 == row.f0) = false := by simpa using hd
            have HST := am_ (show X ++ [⟨row.f0, [(n : Int)]⟩] = fh X row.f0 (n : Int) from by rw [HST0.out, if_neg hd]); clear hd HST0 hd1 hdf HRI HSAME; go_wp2; go_quiet (fail)
            have HM5 := am_ (HM.out.below (aw (Below.refl _ _) nq)); have HREST5 := am_ (show MapRest k50 50 (wr.drewN nq) w.heap.size m G jj okj (wr.drewN nq).heap.size from HREST.out.step (fun _ _ _ => rfl)); have HS5 := am_ (Kd.S_drewN HSX.out nq); have HTY5 := am_ (show ∀ k, okj k → ∃ q cells, (q = 50 ∨ q = 3) ∧ (wr.drewN nq).heap[k]? = some (.cells cells q (0, 0)) from HTY.out); have BKr5 := am_ (eP BKr.out nq); have BKc5 := am_ (eP BKc.out nq); have HT5 := am_ (Kd.R_drewN HT.out nq); have HB5 := am_ (aw HB.out nq); have HBM := am_ (Nat.le_trans HMW.out (Nat.le_refl m)); clear hd0 HM HREST HSX HTY BKr BKc HT HB hlook hz0 hzr; generalize wr.drewN nq = w5 at HM5 HREST5 HS5 HTY5 BKr5 BKc5 HT5 HB5 ⊢; have hzr5 : w5.cell? ⟨gr, 0, none⟩ = some (.int .i64 row.f0) := (bp BKr5.out 0).trans rfl; have hz05 : w5.cell? ⟨gc, 0, none⟩ = some (.string c.f0) := (bp BKc5.out 0).trans rfl; go_wp2_with (first | ((with_reducible refine bV (b := .append) (xs := #[.tmp 82, .tmp 88]) rfl ?_); at_builtin; refine Kd.S_append k50 (w0 := w) w.heap.size rfl (.tmp 82) (.tmp 88) 34 50 (.agg #[(.int .i64 0), (.slice none 0 0)]) 32 rfl Tryz.underlying34 mK rfl aC u7_ (.slice (some ⟨g, 0, none⟩) (m2 + 1) cv) X (⟨row.f0, [(n : Int)]⟩ : S50) [.int .i64 row.f0, .slice (some ⟨w5.heap.size, 0, none⟩) 1 1] (fun k => okj k ∨ w5.heap.size ≤ k) (fun k => k = w5.heap.size) rfl u77_ ?aP ?aK ?aF ?aO ?aB ?aS ?aL ?_; (case aP => exact kT row.f0 (n : Int) w5 w.heap.size HB5.out.size); (case aK => exact (fun k hk => ⟨.inr u7_, fun he => by have := Kd.S_lt HS5.out k he.symm; omega⟩)); (case aF => exact (fun k hk => .inr (by simp at hk; omega))); (case aO => exact u87_); (case aB => exact bw HB5.out _); (case aS => exact Nat.le_trans HB5.out.size cM); (case aL => exact u85_); intro v3 w3 ho hb hg hat; have hg' : w5.grownBy w3 (Value.slice (some ⟨g, 0, none⟩) (m2 + 1) cv).ownBlock := World.grownBy.trans (World.grownBy_alloc w5 _ _) hg; obtain ⟨A3, c3, rfl⟩ := Kd.S_slice ho; obtain ⟨es, clock, hput, hmap6, hk6, hb6⟩ := ik (w0 := w) HM5.out HREST5.out (Kept.of_grown hg' (Kept.refl w5 okj) (fun k hk => .inl ((Kd.S_R HS5.out).1 k hk))) ho (fun k hk => hk) HTY5.out HPS.out HJX.out HST.out hb HBM.out; have HM6 := am_ hmap6; have HKB := am_ hk6; have HB6 := am_ hb6; have hz06 : w3.cell? ⟨gc, 0, none⟩ = some (.string c.f0) := il hg' (fun k hk => HTY5.out k ((Kd.S_R HS5.out).1 k hk)) BKc5.out hz05; simp only [List.length_append, List.length_nil, List.length_cons, Nat.zero_add] at hput; clear ho hb hg hg' hat hmap6 hk6 hb6 hzr5 hz05))
            obtain ⟨es0, cl0, hmb⟩ := MapIs.block HM5.out; have HT6 := am_ (Kd.R_kept HT5.out HKB.out (fun k_ hk => by
             obtain ⟨cells, hc⟩ := Kd.R_typed HT5.out k_ hk.symm; exact Wr.not hmb hc aC aC))
            have BKr6 := am_ (cP BKr5.out HKB.out (Wr.not hmb BKr5.out aC aC)); have BKc6 := am_ (cP BKc5.out HKB.out (Wr.not hmb BKc5.out aC aC)); clear hmb; go_roundw
            case rel => exact ⟨n + 1, stepG G (c.f0, tt) row.f0 (n : Int), gD, u7_, by simpa using HN, ⟨u54_⟩, HM6, HT6, BKr6, BKc6, HB6⟩
            case measure => simp; omega
        ·obtain rfl : n = ts.length := by omega
         have h := HGS.out; rw [List.drop_eq_nil_of_le (Nat.le_refl _), fR] at h; have r1 : (((ts.length : Nat) : Int) < (ts.length : Int)) = False := eq_false u7_; have HGE := am_ h; clear h; go_wp2; go_roundw
         case rel => exact ⟨j + 1, _, gD, u7_, H3, ⟨⟨by rw [← HGE.out]; exact HLG.out, HCK.out.1⟩⟩, ⟨by rw [← HGE.out]; exact HM.out⟩, BKr, HB⟩
         case measure => simp; omega
      ·rw [if_neg hck] at h; cases h
     ·rw [if_neg hd2] at h; have H3 := am_ h; have hdb : (d2 != 1) = true := bne_iff_ne.2 hd2; clear h HS2 hfd hd2; go_wp2_with (first | ((with_reducible refine aE (N := 9) rfl ?_); refine fP rfl (N := 9) rfl rfl rfl (zs := #[.string (⟨#[]⟩ : ByteArray), .string (⟨#[]⟩ : ByteArray)]) (cs := #[.string c.f0, .string c.f1]) (t := 86) ?hr ?hs ?_; (case hr => exact u6_); (case hs => exact u6_); intro gc hg w3 hbox hb; replace HM := am_ (HM.out.below hb); replace BKr := am_ (bh BKr.out hb); replace HB := am_ (bK HB.out hb); have hz0 : w3.cell? ⟨gc, 0, none⟩ = some (.string c.f0) := (bp hbox 0).trans rfl; clear hg hbox hb hy0 hy1) | (go_at_call 110; refine (bg.calls k _ _ _ _ _ _ _ _ (Kd.C_below HF.out HB.out) HF0.out HFD.out).mono ?_; rintro e w4 ⟨rfl, hb⟩; replace HM := am_ (HM.out.below hb); replace BKr := am_ (bh BKr.out hb); replace HB := am_ (bK HB.out hb); clear hb hz0))
      go_roundw
      case rel => exact ⟨j + 1, s3, gD, u7_, H3, HL, HM, BKr, HB⟩
      case measure => simp; omega
    ·obtain rfl : j = row.f1.f1.length := by omega
     have h := HS2.out; rw [List.drop_eq_nil_of_le (Nat.le_refl _), entriesW.cs] at h; obtain rfl := Option.some.inj h; have q1 : (((row.f1.f1.length : Nat) : Int) < (row.f1.f1.length : Int)) = False := eq_false u7_; clear h; go_wp2; go_roundw
     case rel => exact ⟨i + 1, _, gD, u7_, H2, HL, HM, HB⟩
     case measure => simp; omega
  ·obtain rfl : i = l1.length := by omega
   have h := H.out; rw [List.drop_eq_nil_of_le (Nat.le_refl _), entriesW.rs] at h; have hse : s = (GG, nn) := Option.some.inj h; have HSO := am_ (show ei (s.1.map toE) = r by rw [hse]; exact HSORT.out); clear hse; have p1 : (((l1.length : Nat) : Int) < (l1.length : Int)) = False := eq_false u7_; clear h; have hsl : s.1.length ≤ 1000000 := Nat.le_trans HL.out.1.1 HL.out.2; go_wp2_with (first | ((with_reducible refine aE (N := 99) rfl ?_); refine rG (w0 := w) (B := w.heap.size) rfl (N := 99) ?hd ?hr HB.out HB.out.size ?_; (case hd => rfl); (case hr => exact u6_); intro v99 w2 hs2 hb2 hb3 hv2; have HO := am_ hs2; have HV := am_ hv2; have hmm2 := HM.out.below hb3; obtain ⟨clock, hrange, hranging⟩ := Ranging.start iX hmm2; obtain ⟨rr, hrr⟩ : ∃ rr, rr = w2.heap.size := ⟨_, rfl⟩; obtain ⟨w3, hw3⟩ : ∃ w3, w3 = w2.alloc (.mapIter (some m) clock #[] clock) := ⟨_, rfl⟩; rw [← hrr, ← hw3] at hrange hranging; have hbw : Below w2.heap.size w2 w3 := (by rw [hw3]; exact bw (Below.refl _ _) _); have HRG := am_ hranging; replace HO := am_ (Kd.R_below HO.out hbw); replace HB := am_ (bK hb2 hbw); have HRB := am_ (show w.heap.size ≤ rr from by rw [hrr]; exact hb2.size); have HRM := am_ (show rr ≠ m from by rw [hrr]; exact Nat.ne_of_gt hmm2.lt); clear hs2 hb2 hb3 hv2 hmm2 hranging hrr hw3 hbw HM))
   clear hrange; go_loopg [14] (s.1.length) (fun q v14 wr => ∃ is : List Nat, s.1.length = q + is.length ∧ aa (Kd.R k76 76 wr w.heap.size (fun _ => True) v14 ((lA s.1 is).map toE)) ∧ aa (∃ b, v14.ownBlock = some b) ∧ aa (Ranging k50 50 wr w.heap.size m rr s.1 is) ∧ aa (Below w.heap.size w wr))
   case atStart => exact ⟨[], rfl, HO, HV, HRG, HB⟩
   case round =>
    clear HO HV HRG HB; obtain ⟨is, hq, HO, HV, HRG, HB⟩ := hrel; have hil : ((lA s.1 is).map toE).length = is.length := by unfold lA; simp
    rcases Ranging.next (P := Tryz.prog) HRG.out HRM.out 0 with ⟨hperm, hnext⟩ | ⟨i, g, v, w4, hgi, hni, hnext0, hrg4, hentry0, hgrow, hsz4, hR4, hle⟩
    ·have HP := am_ hperm; have hil2 : is.length ≤ 1000000 := by omega
     have HIL := am_ (show ((lA s.1 is).map toE).length < 1000000000 by omega); have HKN := am_ (Ranging.nodup HRG.out); clear hperm hil; go_wp2_with (first | (go_at_call 115; refine (qN _ _ w.heap.size w _ HB.out HO.out HV.out HIL.out).mono ?_; rintro e w5 ⟨rfl, ys, hys, hpw, hr5, hb5⟩; have HY := am_ (And.intro hys hpw); have HR5 := am_ hr5; replace HB := am_ hb5; clear hys hpw hr5 hb5))
     go_ret
     refine ⟨_, rfl, ?_, HB.out⟩; have he : ys = r := by
      rw [← HSO.out]; exact pI (HY.out.1.trans (HP.out.map toE)) HY.out.2 HKN.out
     rw [← he]; exact HR5.out
    ·cases gk with
     | zero => exact absurd hle (by rw [List.length_append, List.length_singleton]; omega)
     | succ k1 =>
      obtain ⟨Av, cv, rfl⟩ := Kd.R_slice hR4; have hnext : (Instr.next (.pointer (some ⟨rr, 0, none⟩)) false 0).run Tryz.prog wr = .ok (.tuple #[.bool true, .agg #[.string g.1.1, .string g.1.2], .slice Av g.2.length cv]) w4 := hnext0; have hentry : (Instr.entry (.pointer (some ⟨rr, 0, none⟩))).run Tryz.prog w4 = .ok (.tuple #[.agg #[.string g.1.1, .string g.1.2], .slice Av g.2.length cv]) w4 := hentry0; have HG4 := am_ hrg4; have HR4 := am_ hR4; have HO4 := am_ (R_iter HO.out HRG.out hgrow); have HB4 := am_ (eV HB.out (some rr) HB.out.size hgrow (fun b hb => by injection hb with hb; rw [← hb]; exact HRB.out)); have HGI := am_ hgi; have HLE := am_ hle; clear hnext0 hentry0 hgrow hsz4 hrg4 hR4 hgi hni hle HO HRG HB; go_wp2_with (first | ((with_reducible refine aE (N := 15) rfl ?_); refine fP rfl (N := 15) rfl rfl rfl (zs := #[.string (⟨#[]⟩ : ByteArray), .string (⟨#[]⟩ : ByteArray)]) (cs := #[.string g.1.1, .string g.1.2]) (t := 147) ?hr ?hs ?_; (case hr => exact u6_); (case hs => exact u6_); intro gp hg w5 hbox hb; replace HG4 := am_ (HG4.out.below hb); replace HR4 := am_ (Kd.R_below HR4.out hb); replace HO4 := am_ (Kd.R_below HO4.out hb); replace HB4 := am_ (bK HB4.out hb); have hz0 : w5.cell? ⟨gp, 0, none⟩ = some (.string g.1.1) := (bp hbox 0).trans rfl; have hz1 : w5.cell? ⟨gp, 1, none⟩ = some (.string g.1.2) := (bp hbox 1).trans rfl; clear hg hbox hb) | ((with_reducible refine bV (b := .append) (xs := #[.tmp 107, .tmp 114]) rfl ?_); at_builtin; refine Kd.R_append k76 (w0 := w) w.heap.size rfl (.tmp 107) (.tmp 114) 25 76 (.agg #[(.string ⟨#[]⟩), (.string ⟨#[]⟩), (.slice none 0 0)]) 56 rfl Tryz.underlying25 jc rfl aC u7_ u14 ((lA s.1 is).map toE) (toE g) [.string g.1.1, .string g.1.2, .slice Av g.2.length cv] (fun _ => True) (fun k => (True ∧ w.heap.size ≤ k ∧ k < w5.heap.size ∧ ∃ q, q ∈ 50 :: k50.E ∧ ∃ cells, w5.heap[k]? = some (.cells cells q (0, 0)))) ?hs ?hx ?aP ?aK (fun _ _ => trivial) HO4.out HB4.out HB4.out.size ?aL ?_; (case hs => first | rfl | (go_simp; done) | (go_simp; rfl)); (case hx => first | rfl | (go_simp; done) | (go_simp; rfl)); (case aP => exact j3 _ _ _ (toE g) (Kd.R_bound HR4.out)); (case aK => exact (fun k hk => ⟨trivial, fun he => nr hk.2.2.2 (Kd.R_typed HO4.out k he.symm)⟩)); (case aL => rw [hil]; omega); intro v8 w8 ho hb hg hat; have HO8 := am_ ho; have HG8 := am_ (HG4.out.step (E := 76) aC hg (fun b hb => Kd.R_typed HO4.out b hb)); have HV8 := am_ (show ∃ b, v8.ownBlock = some b from hat.elim (fun h => by obtain ⟨b, hb⟩ := HV.out; exact ⟨b, h.trans hb⟩) (fun ⟨b, hb, _⟩ => ⟨b, hb⟩)); have HB8 := am_ hb; clear ho hb hg hat hz0 hz1))
      go_roundg k1
      case measure => omega
      case rel => exact ⟨is ++ [i], by rw [List.length_append, List.length_singleton]; omega, ⟨by rw [pQ _ _ HGI.out, List.map_append]; exact HO8.out⟩, HV8, HG8, HB8⟩
end
def eq.f (k : Nat) (l0 : List S92) (l1 : List S46) : Option (List S76) := entriesW.f k l0 l1
theorem eq.calls (k : Nat) (A0 : Option Addr) (c0 : Nat) (l0 : List (S92)) (A1 : Option Addr) (c1 : Nat) (l1 : List (S46)) (r : List (S76)) (w : World) (hG : StopsIn w) (hr0 : Kd.C k92 w A0 l0.length l0) (hc0 : l0.length ≤ c0) (hr1 : Kd.C k46 w A1 l1.length l1) (hc1 : l1.length ≤ c1) (h : eq.f k l0 l1 = some r) :
  Calls Tryz.prog 68 #[.slice A0 l0.length c0, .slice A1 l1.length c1] w fun e w' => ∃ v0_ : Value, e = .returned (v0_) ∧ Kd.R k76 76 w' w.heap.size (fun _ => True) v0_ r ∧ Below w.heap.size w w' := entriesW.calls k A0 c0 l0 A1 c1 l1 r w hG hr0 hc0 hr1 hc1 h
end
mutual
def aj.j0 : Nat → Bool → List (S92) → List (S46) → List (S76) → Int → Option (Bool)
 | 0, _, _, _, _, _ => none
 | k + 1, x20, x532000, x532001, x532002, x532003 => if x20 = true then (some false) else (aj.l0 k x532001 (x532001.length : Int) 0 x532000 x532001 x532002 x532003)
def aj.l0 : Nat → List (S46) → Int → Int → List (S92) → List (S46) → List (S76) → Int → Option (Bool)
 | 0, _, _, _, _, _, _, _ => none
 | k + 1, x22, x23, x24, x532000, x532001, x532002, x532003 => if x24 < x23 then (if 0 ≤ x24 then (if x24 < (x22.length : Int) then ((aU.f ((ab x22 x24).f0) 0 (wrap64 (x532003 - 1))).bind fun t540 => (if t540 = true then (if x24 > 0 then (if 0 ≤ (wrap64 (x24 - 1)) then (if (wrap64 (x24 - 1)) < (x532001.length : Int) then (if ((ab x532001 (wrap64 (x24 - 1))).f0) ≥ ((ab x22 x24).f0) then (some false) else ((aV.f k x532000 ((ab x22 x24).f1.f0) ((ab x22 x24).f1.f1)).bind fun t542 => (if t542 = true then ((bX.f x532000 x532001 x532002 x532003 ((ab x22 x24).f1.f0)).bind fun t543 => (if t543 = x24 then (aj.l0 k x22 x23 (wrap64 (x24 + 1)) x532000 x532001 x532002 x532003) else (some false))) else (some false)))) else (none)) else (none)) else ((aV.f k x532000 ((ab x22 x24).f1.f0) ((ab x22 x24).f1.f1)).bind fun t544 => (if t544 = true then ((bX.f x532000 x532001 x532002 x532003 ((ab x22 x24).f1.f0)).bind fun t545 => (if t545 = x24 then (aj.l0 k x22 x23 (wrap64 (x24 + 1)) x532000 x532001 x532002 x532003) else (some false))) else (some false)))) else (some false))) else (none)) else (none)) else ((eq.f k x532000 x532001).bind fun t534 => ((cI.f k x532002 t534).bind fun t537 => (some t537)))
end
def aj.f (k : Nat) (l0_0 : List (S92)) (l0_1 : List (S46)) (l0_2 : List (S76)) (a0_3 : Int) : Option (Bool) := (aG.f k l0_0).bind fun t532 => (if t532 = true then (if (l0_1.length : Int) > 8 then (aj.j0 k true l0_0 l0_1 l0_2 a0_3) else ((aU.f a0_3 0 999999999).bind fun t533 => (aj.j0 k (!t533) l0_0 l0_1 l0_2 a0_3))) else (aj.j0 k true l0_0 l0_1 l0_2 a0_3))
def aj.T6 : Bool × List (List Nat × List Nat) := (true, [([], []), ([0], [0]), ([], []), ([2], [2]), ([3], [3]), ([1, 4], [1, 4]), ([5], [5]), ([6, 5], [6]), ([7], [7]), ([8, 7], [7, 8]), ([9, 7, 7], [7, 9]), ([10], [10]), ([11, 10], [10, 11]), ([10], [10]), ([13, 10], [10, 13]), ([12, 14, 10], [10, 12, 14]), ([15, 10], [10, 15]), ([16, 10], [10, 16]), ([10], [10]), ([18, 10], [10, 18]), ([17, 19, 10], [10, 17, 19]), ([10, 20, 7], [7, 10, 20]), ([7, 21], [7, 21]), ([22, 10], [22]), ([23], [23]), ([24, 23], [23, 24]), ([23], [23]), ([26, 23], [23, 26]), ([25, 27, 23, 23], [23, 25, 27]), ([28, 23], [23, 28]), ([23, 29], [23, 29]), ([30, 28], [30]), ([31], [31]), ([31], [31]), ([33, 31], [31, 33]), ([34, 31], [31, 34]), ([32, 35, 31, 31], [31, 32, 35]), ([31], [31]), ([36, 37, 31], [31, 36, 37]), ([31, 38], [31, 38])])
def aj.B6 : List Nat := [0, 1, 0, 4, 12, 31, 63, 127, 255, 511, 1023, 2047, 4095, 2047, 10239, 32767, 65535, 131071, 2047, 264191, 1048575, 2097151, 4194303, 8388607, 16777215, 33554431, 16777215, 83886079, 268435455, 536870911, 1073741823, 2147483647, 4294967295, 4294967295, 12884901887, 30064771071, 68719476735, 4294967295, 274877906943, 549755813887]
theorem aj.tab6 : dw .any (fm Tryz.f25 6) = aj.T6 := by kernel_rfl
theorem aj.bits6 : de aj.T6.2 aj.B6 = true := by kernel_rfl
def aj.T9 : Bool × List (List Nat × List Nat) := (true, [([], []), ([0], [0]), ([], []), ([2], [2]), ([], []), ([4], [4]), ([3, 5], [3, 5]), ([1, 6, 6], [1, 6]), ([7, 7, 0, 1, 2, 3, 4, 5, 6, 7], [7])])
def aj.B9 : List Nat := [0, 1, 0, 4, 0, 16, 60, 127, 255]
theorem aj.tab9 : dw .any (fm Tryz.f25 9) = aj.T9 := by kernel_rfl
theorem aj.bits9 : de aj.T9.2 aj.B9 = true := by kernel_rfl
theorem aj.calls (k : Nat) (A0_0 : Option Addr) (c0_0 : Nat) (l0_0 : List (S92)) (A0_1 : Option Addr) (c0_1 : Nat) (l0_1 : List (S46)) (A0_2 : Option Addr) (c0_2 : Nat) (l0_2 : List (S76)) (a0_3 : Int) (r : Bool) (w : World) (hG : StopsIn w) (hr0_0 : Kd.C k92 w A0_0 l0_0.length l0_0) (hc0_0 : l0_0.length ≤ c0_0) (hr0_1 : Kd.C k46 w A0_1 l0_1.length l0_1) (hc0_1 : l0_1.length ≤ c0_1) (hr0_2 : Kd.C k76 w A0_2 l0_2.length l0_2) (hc0_2 : l0_2.length ≤ c0_2) (h : aj.f k l0_0 l0_1 l0_2 a0_3 = some r) :
  Calls Tryz.prog 25 #[.agg #[.slice A0_0 l0_0.length c0_0, .slice A0_1 l0_1.length c0_1, .slice A0_2 l0_2.length c0_2, .int .i64 a0_3]] w fun e w' => e = .returned (.bool r) ∧ Below w.heap.size w w' := by
 have hu27 := Tryz.underlying27; have hu46 := Tryz.underlying46; have hu44 := Tryz.underlying44; have HG_ := am_ hG; clear hG; have HR0_0 := am_ hr0_0; have HC0_0 := am_ hc0_0; clear hr0_0 hc0_0; have HR0_1 := am_ hr0_1; have HC0_1 := am_ hc0_1; clear hr0_1 hc0_1; have HR0_2 := am_ hr0_2; have HC0_2 := am_ hc0_2; clear hr0_2 hc0_2; have HB := am_ (Below.refl w.heap.size w); have H := h; clear h; unfold aj.f at H
 have HC2 := am_ H; clear H; go_enter Tryz.func25, Tryz.ntmps25
 go_upto_region 1 with (first | ((with_reducible refine aE (N := 1) rfl ?_); (try (refine a7 cO ?_; dsimp only)); refine bs ?hg (N := 1) ?hd (cs := #[.slice A0_0 l0_0.length c0_0, .slice A0_1 l0_1.length c0_1, .slice A0_2 l0_2.length c0_2, .int .i64 a0_3]) (t := 27) ?hr ?_; (case hd => rfl); (case hg => rfl); (case hr => exact u6_); intro gb531 hg w3 hbox hb; have BK531 := am_ (hbox); have GE531 := gw_ HB hg; replace HB := bs_ HB hb; clear hb hbox hg))
 (try simp only [Act.put, List.setIfInBounds_toArray, List.set_cons_zero, List.set_cons_succ])
 go_cut [20] (fun v20 wc => ∃ (kq : Nat) (x20_1 : Bool), v20 = .bool x20_1 ∧ aa (aj.j0 kq x20_1 l0_0 l0_1 l0_2 a0_3 = some r) ∧ aa (kq ≤ k) ∧ aa (wc.heap[gb531]? = some (.cells #[(.slice A0_0 l0_0.length c0_0), (.slice A0_1 l0_1.length c0_1), (.slice A0_2 l0_2.length c0_2), .int .i64 a0_3] 27 (0, 0))) ∧ aa (Below w.heap.size w wc))
 case first =>
  have H := HC2.out; clear HC2; obtain ⟨t532, A4, H⟩ := bi_ H; cases t532
  ·replace H := hf_ H; have H' := am_ H; clear H; obtain ⟨hcz14_0, hcz14_1, hcz14_2, hcz14_3, hfz14_0, hfz14_1, hfz14_2, hfz14_3⟩ := cu BK531.out; go_wp2_with (first | ((with_reducible refine gt_ 7 ?_); refine gB_ 7 Tryz.func63 (aG.calls k _ _ l0_0 false _ (kc_ HR0_0 HB) HC0_0.out A4.out) ?_; intro w15 hb; replace BK531 := bb_ BK531 hb; replace HB := bs_ HB hb; (try clear hb)))
   go_meet
   case rel => exact ⟨_, (true), u1_, H', ⟨iH⟩, ⟨pb_ BK531⟩, ⟨bw_ HB⟩⟩
  ·replace H := ht_ H; by_cases c6 : (l0_1.length : Int) > 8
   ·rw [if_pos c6] at H; have c6b0 : decide (8 < (l0_1.length : Int)) = true := decide_eq_true c6; have c6b1 : decide (8 < l0_1.length) = true := decide_eq_true u7_; clear c6; (first | rw [c6b0] | (simp only [ap, au]; rw [c6b0]) | skip)
    have H' := am_ H; clear H; obtain ⟨hcz7_0, hcz7_1, hcz7_2, hcz7_3, hfz7_0, hfz7_1, hfz7_2, hfz7_3⟩ := cu BK531.out; go_wp2_with (first | ((with_reducible refine gt_ 7 ?_); refine gB_ 7 Tryz.func63 (aG.calls k _ _ l0_0 true _ (kc_ HR0_0 HB) HC0_0.out A4.out) ?_; intro w8 hb; replace BK531 := bb_ BK531 hb; replace HB := bs_ HB hb; (try clear hb); obtain ⟨hcz9_0, hcz9_1, hcz9_2, hcz9_3, hfz9_0, hfz9_1, hfz9_2, hfz9_3⟩ := cu BK531.out))
    go_meet
    case rel => exact ⟨_, (true), u1_, H', ⟨iH⟩, ⟨pb_ BK531⟩, ⟨bw_ HB⟩⟩
   ·rw [if_neg c6] at H; have c6b0 : decide (8 < (l0_1.length : Int)) = false := decide_eq_false c6; have c6b1 : decide (8 < l0_1.length) = false := decide_eq_false u7_; clear c6; (first | rw [c6b0] | (simp only [ap, au]; rw [c6b0]) | skip)
    obtain ⟨t533, A10, H⟩ := bi_ H; have H' := am_ H; clear H; obtain ⟨hcz11_0, hcz11_1, hcz11_2, hcz11_3, hfz11_0, hfz11_1, hfz11_2, hfz11_3⟩ := cu BK531.out; go_wp2_with (first | ((with_reducible refine gt_ 7 ?_); refine gB_ 7 Tryz.func63 (aG.calls k _ _ l0_0 true _ (kc_ HR0_0 HB) HC0_0.out A4.out) ?_; intro w12 hb; replace BK531 := bb_ BK531 hb; replace HB := bs_ HB hb; (try clear hb); obtain ⟨hcz13_0, hcz13_1, hcz13_2, hcz13_3, hfz13_0, hfz13_1, hfz13_2, hfz13_3⟩ := cu BK531.out) | (go_at_call 64; (with_reducible refine (aU.calls a0_3 0 999999999 t533 _ A10.out).mono ?_); rintro e w' ⟨rfl, ⟨nd, rfl⟩⟩))
    go_meet
    case rel => exact ⟨_, (!t533), u1_, H', ⟨iH⟩, ⟨pb_ BK531⟩, ⟨bw_ HB⟩⟩
 case rest =>
  clear HC2; obtain ⟨kq, x20_1, rfl, HA, HJ1, BK531, HB⟩ := hcut; cases kq with
  | zero => exact absurd HA.out (by simp [aj.j0])
  | succ kj1 =>
   have H := HA.out; clear HA; simp only [aj.j0] at H; cases x20_1
   ·replace H := hf_ H; have H' := am_ H; clear H; obtain ⟨hcz17_0, hcz17_1, hcz17_2, hcz17_3, hfz17_0, hfz17_1, hfz17_2, hfz17_3⟩ := cu BK531.out; go_wp2; go_loopg [24] kj1 (fun kq v24 w' => ∃ (x24_2 : Int), v24 = .int .i64 x24_2 ∧ aa (aj.l0 kq l0_1 (l0_1.length : Int) x24_2 l0_0 l0_1 l0_2 a0_3 = some r) ∧ aa (kq ≤ kj1) ∧ aa (w'.heap[gb531]? = some (.cells #[(.slice A0_0 l0_0.length c0_0), (.slice A0_1 l0_1.length c0_1), (.slice A0_2 l0_2.length c0_2), .int .i64 a0_3] 27 (0, 0))) ∧ aa (Below w.heap.size w w'))
    case atStart => exact ⟨(0), u1_, H', ⟨Nat.le_refl _⟩, ⟨pb_ BK531⟩, ⟨bw_ HB⟩⟩
    case round =>
     clear H'; try clear hcz17_0 hcz17_1 hcz17_2 hcz17_3 hfz17_0 hfz17_1 hfz17_2 hfz17_3
     obtain ⟨x24_2, rfl, HA, HK2, BK531, HB⟩ := hrel; cases gk with
     | zero => exact absurd HA.out (by simp [aj.l0])
     | succ k2 =>
      have H := HA.out; clear HA; simp only [aj.l0] at H; by_cases c18 : x24_2 < (l0_1.length : Int)
      ·rw [if_pos c18] at H; have c18b0 := decide_eq_true c18; clear c18; obtain ⟨c19b0, H⟩ := gd_ H; obtain ⟨c20b0, H⟩ := gd_ H; obtain ⟨t540, A21, H⟩ := bi_ H; have HC_ := am_ H; clear H; obtain ⟨ad538, A538_2, c538_2, e538, hx538_0, hx538_1, hx538_2, hl538_2, hi538_2⟩ := fj HR0_1.out x24_2 od_ od_; cases e538; replace hx538_0 := cb_ HB hx538_0; replace hx538_1 := cb_ HB hx538_1; replace hx538_2 := cb_ HB hx538_2; have HR538_2 := am_ hi538_2; have HC538_2 := am_ hl538_2; clear hi538_2 hl538_2; obtain ⟨p538, q538⟩ := pt_ x24_2 l0_1.length; have H := HC_.out; clear HC_; cases t540
       ·replace H := hf_ H; obtain rfl := si_ H; try go_wp2_with (first | ((with_reducible refine aE (N := 4) rfl ?_); (try (refine a7 cO ?_; dsimp only)); refine bs ?hg (N := 4) ?hd (cs := #[.int .i64 0, .string (⟨#[]⟩ : ByteArray), .slice none 0 0]) (t := 46) ?hr ?_; (case hd => rfl); (case hg => rfl); (case hr => exact u6_); intro gb539 hg w81 hbox hb; have BK539 := am_ (hbox); have GE539 := gw_ HB hg; replace HB := bs_ HB hb; have NB531_539 := nl_ BK531 hg; have NB539_531 := ng_ BK531 hg; replace BK531 := bb_ BK531 hb; clear hb hbox hg; have hnb82 := NB539_531.out; have hnc82 := NB531_539.out; obtain ⟨hcz83_0, hcz83_1, hcz83_2, hfz83_0, hfz83_1, hfz83_2⟩ := bR BK539.out))
        generalize hW_ : (((w81.setCell ⟨gb539, 0, none⟩ (.int .i64 ((ab l0_1 x24_2).f0))).setCell ⟨gb539, 1, none⟩ (.string ((ab l0_1 x24_2).f1.f0))).setCell ⟨gb539, 2, none⟩ (.slice A538_2 ((ab l0_1 x24_2).f1.f1).length c538_2)) = w84; replace BK531 := gk_ hW_ #[.slice A0_0 l0_0.length c0_0, .slice (some ad538) l0_1.length c0_1, .slice A0_2 l0_2.length c0_2, .int .i64 a0_3] BK531; replace BK539 := gk_ hW_ #[.int .i64 ((ab l0_1 x24_2).f0), .string ((ab l0_1 x24_2).f1.f0), .slice A538_2 ((ab l0_1 x24_2).f1.f1).length c538_2] BK539; replace HB := gb_ hW_ HB; clear hW_; replace BK531 := am_ (bG BK531.out); replace BK539 := am_ (bG BK539.out); replace HB := am_ (aN HB.out); refine dd (n := 40) (S := fun w' => w'.cell? ⟨gb539, 0, none⟩ = some (.int .i64 ((ab l0_1 x24_2).f0)) ∧ w'.cell? ⟨gb539, 1, none⟩ = some (.string ((ab l0_1 x24_2).f1.f0)) ∧ w'.cell? ⟨gb539, 2, none⟩ = some (.slice A538_2 ((ab l0_1 x24_2).f1.f1).length c538_2) ∧ w'.cell? ⟨gb531, 0, none⟩ = some (.slice A0_0 l0_0.length c0_0) ∧ w'.cell? ⟨gb531, 1, none⟩ = some (.slice (some ad538) l0_1.length c0_1) ∧ w'.cell? ⟨gb531, 2, none⟩ = some (.slice A0_2 l0_2.length c0_2) ∧ w'.cell? ⟨gb531, 3, none⟩ = some (.int .i64 a0_3)) (ds := []) (bm_ 40 0) bY rfl rfl ⟨bc_ BK539 0, bc_ BK539 1, bc_ BK539 2, bc_ BK531 0, bc_ BK531 1, bc_ BK531 2, bc_ BK531 3⟩ (fun hHeld => ?_); refine bH aj.tab6 aj.bits6 (fun HT_ HW_ => ?_); generalize w84.drew = w85 at BK531 BK539 HB hHeld ⊢; refine pv_ 0 29 ?_; refine pv_ 2 31 ?_; refine tv_ 1 30 ?_; refine tv_ 3 32 ?_; refine pv_ 4 33 ?_; refine ov_ 5 34 (fun K hK => ?_); refine oD_ Tryz.func64 (aU.calls ((ab l0_1 x24_2).f0) 0 (wrap64 (a0_3 - 1)) false _ A21.out) ?_; intro nd; refine hK.out _ _ ⟨bc_ BK539 0, bc_ BK539 1, bc_ BK539 2, bc_ BK531 0, bc_ BK531 1, bc_ BK531 2, bc_ BK531 3⟩ (fun hHeld => ?_); clear hK K; refine nm_ ?_; refine pv_ 6 35 ?_; refine pv_ 7 36 ?_; refine sv_ 8 37 ?_; refine sv_ 9 38 ?_; refine sv_ 10 39 ?_; refine sv_ 11 40 ?_; refine sv_ 12 41 ?_; refine sv_ 13 42 ?_; refine sv_ 14 43 ?_; refine sv_ 15 44 ?_; refine sv_ 16 45 ?_; refine sv_ 17 46 ?_; refine sv_ 18 47 ?_; refine sv_ 19 48 ?_; refine sv_ 20 49 ?_; refine sv_ 21 50 ?_; refine pv_ 22 51 ?_; refine pv_ 23 52 ?_; refine sv_ 24 53 ?_; refine sv_ 25 54 ?_; refine sv_ 26 55 ?_; refine sv_ 27 56 ?_; refine sv_ 28 57 ?_; refine sv_ 29 58 ?_; refine pv_ 30 59 ?_; refine pv_ 31 60 ?_; refine sv_ 32 61 ?_; refine sv_ 33 62 ?_; refine sv_ 34 63 ?_; refine sv_ 35 64 ?_; refine sv_ 36 65 ?_; refine sv_ 37 66 ?_; refine sv_ 38 67 ?_; refine pv_ 39 68 ?_; refine dn_ HT_ ?_; try go_wp2
        go_ret
        exact ⟨u0_, bw_ HB⟩
       ·replace H := ht_ H; have HC_ := am_ H; clear H; have H := HC_.out; clear HC_; by_cases c23 : x24_2 > 0
        ·rw [if_pos c23] at H; have c23b0 : decide (0 < x24_2) = true := decide_eq_true c23; clear c23; obtain ⟨ji24, hji24⟩ : ∃ j_ : Int, (wrap64 (x24_2 - 1)) = j_ := ⟨_, rfl⟩; replace H : (if 0 ≤ (ji24) then (if (ji24) < (l0_1.length : Int) then (if ((ab l0_1 (ji24)).f0) ≥ ((ab l0_1 x24_2).f0) then (some false) else ((aV.f k2 l0_0 ((ab l0_1 x24_2).f1.f0) ((ab l0_1 x24_2).f1.f1)).bind fun t542 => (if t542 = true then ((bX.f l0_0 l0_1 l0_2 a0_3 ((ab l0_1 x24_2).f1.f0)).bind fun t543 => (if t543 = x24_2 then (aj.l0 k2 l0_1 (l0_1.length : Int) (wrap64 (x24_2 + 1)) l0_0 l0_1 l0_2 a0_3) else (some false))) else (some false)))) else (none)) else (none)) = some r := by first | (rw [hji24] at H; exact H) | (simp only [hji24] at H ⊢; exact H)
         (try rw [hji24] at A21)
         have hji24w : (IntKind.i64.wrap (x24_2 - 1)) = ji24 := (ap _).trans hji24; obtain ⟨c25b0, H⟩ := gd_ H; obtain ⟨c26b0, H⟩ := gd_ H; have HC_ := am_ H; clear H; (first | rw [c23b0] | (simp only [ap, au]; rw [c23b0]) | skip)
         try go_wp2_with (first | ((with_reducible refine aE (N := 4) rfl ?_); (try (refine a7 cO ?_; dsimp only)); refine bs ?hg (N := 4) ?hd (cs := #[.int .i64 0, .string (⟨#[]⟩ : ByteArray), .slice none 0 0]) (t := 46) ?hr ?_; (case hd => rfl); (case hg => rfl); (case hr => exact u6_); intro gb539 hg w28 hbox hb; have BK539 := am_ (hbox); have GE539 := gw_ HB hg; replace HB := bs_ HB hb; have NB531_539 := nl_ BK531 hg; have NB539_531 := ng_ BK531 hg; replace BK531 := bb_ BK531 hb; clear hb hbox hg; have hnb29 := NB539_531.out; have hnc29 := NB531_539.out; obtain ⟨hcz30_0, hcz30_1, hcz30_2, hfz30_0, hfz30_1, hfz30_2⟩ := bR BK539.out))
         generalize hW_ : (((w28.setCell ⟨gb539, 0, none⟩ (.int .i64 ((ab l0_1 x24_2).f0))).setCell ⟨gb539, 1, none⟩ (.string ((ab l0_1 x24_2).f1.f0))).setCell ⟨gb539, 2, none⟩ (.slice A538_2 ((ab l0_1 x24_2).f1.f1).length c538_2)) = w31; replace BK531 := gk_ hW_ #[.slice A0_0 l0_0.length c0_0, .slice (some ad538) l0_1.length c0_1, .slice A0_2 l0_2.length c0_2, .int .i64 a0_3] BK531; replace BK539 := gk_ hW_ #[.int .i64 ((ab l0_1 x24_2).f0), .string ((ab l0_1 x24_2).f1.f0), .slice A538_2 ((ab l0_1 x24_2).f1.f1).length c538_2] BK539; replace HB := gb_ hW_ HB; clear hW_; replace BK531 := am_ (bG BK531.out); replace BK539 := am_ (bG BK539.out); replace HB := am_ (aN HB.out); obtain ⟨ad541, A541_2, c541_2, e541, hx541_0, hx541_1, hx541_2, hl541_2, hi541_2⟩ := fj HR0_1.out (ji24) od_ od_; have hw541_2 := hx541_2; have hw541_1 := hx541_1; have hw541_0 := hx541_0; obtain rfl : ad538 = ad541 := (by injection e541); replace hx541_0 := cb_ HB hx541_0; replace hx541_1 := cb_ HB hx541_1; replace hx541_2 := cb_ HB hx541_2; have HR541_2 := am_ hi541_2; have HC541_2 := am_ hl541_2; clear hi541_2 hl541_2; obtain ⟨p541, q541⟩ := pt_ (ji24) l0_1.length; refine dd (n := 40) (S := fun w' => w'.cell? ⟨gb539, 0, none⟩ = some (.int .i64 ((ab l0_1 x24_2).f0)) ∧ w'.cell? ⟨gb539, 1, none⟩ = some (.string ((ab l0_1 x24_2).f1.f0)) ∧ w'.cell? ⟨gb539, 2, none⟩ = some (.slice A538_2 ((ab l0_1 x24_2).f1.f1).length c538_2) ∧ w'.cell? ⟨gb531, 0, none⟩ = some (.slice A0_0 l0_0.length c0_0) ∧ w'.cell? ⟨gb531, 1, none⟩ = some (.slice (some ad538) l0_1.length c0_1) ∧ w'.cell? ⟨gb531, 2, none⟩ = some (.slice A0_2 l0_2.length c0_2) ∧ w'.cell? ⟨gb531, 3, none⟩ = some (.int .i64 a0_3) ∧ w'.cell? (ad538.add (((ji24)).toNat * 3)) = some (.int .i64 ((ab l0_1 (ji24)).f0)) ∧ w'.cell? ⟨(ad538.add (((ji24)).toNat * 3)).block, (ad538.add (((ji24)).toNat * 3)).off + 1, none⟩ = some (.string ((ab l0_1 (ji24)).f1.f0)) ∧ w'.cell? ⟨(ad538.add (((ji24)).toNat * 3)).block, (ad538.add (((ji24)).toNat * 3)).off + 2, none⟩ = some (.slice A541_2 ((ab l0_1 (ji24)).f1.f1).length c541_2)) (ds := []) (bm_ 40 0) bY rfl rfl ⟨bc_ BK539 0, bc_ BK539 1, bc_ BK539 2, bc_ BK531 0, bc_ BK531 1, bc_ BK531 2, bc_ BK531 3, (cc_ HB hw541_0), (cc_ HB hw541_1), (cc_ HB hw541_2)⟩ (fun hHeld => ?_); refine bH aj.tab6 aj.bits6 (fun HT_ HW_ => ?_); generalize w31.drew = w32 at BK531 BK539 HB HR541_2 hx541_0 hx541_1 hx541_2 hHeld ⊢; refine pv_ 0 29 ?_; refine pv_ 2 31 ?_; refine tv_ 1 30 ?_; refine tv_ 3 32 ?_; refine pv_ 4 33 ?_; refine ov_ 5 34 (fun K hK => ?_); refine oD_ Tryz.func64 (aU.calls ((ab l0_1 x24_2).f0) 0 (wrap64 (a0_3 - 1)) true _ A21.out) ?_; intro nd; refine hK.out _ _ ⟨bc_ BK539 0, bc_ BK539 1, bc_ BK539 2, bc_ BK531 0, bc_ BK531 1, bc_ BK531 2, bc_ BK531 3, (cc_ HB hw541_0), (cc_ HB hw541_1), (cc_ HB hw541_2)⟩ (fun hHeld => ?_); clear hK K; refine nm_ ?_; refine pv_ 6 35 ?_; refine pv_ 7 36 ?_; refine pv_ 8 37 ?_; refine pv_ 9 38 ?_; refine pv_ 10 39 ?_; refine pv_ 11 40 ?_; refine pv_ 13 42 ?_; refine pv_ 14 43 ?_; refine pv_ 18 47 ?_; refine tv_ 12 41 ?_; refine pv_ 15 44 ?_; refine pv_ 16 45 ?_; refine tv_ 17 46 ?_; refine tv_ 19 48 ?_; refine pv_ 20 49 ?_; refine pv_ 21 50 ?_; refine pv_ 22 51 ?_; refine pv_ 23 52 ?_; have H := HC_.out; clear HC_; by_cases c27 : ((ab l0_1 (ji24)).f0) ≥ ((ab l0_1 x24_2).f0)
         ·rw [if_pos c27] at H; have c27b0 : decide (((ab l0_1 x24_2).f0) ≤ ((ab l0_1 (ji24)).f0)) = true := decide_eq_true c27; clear c27; obtain rfl := si_ H; (first | rw [c27b0] | (simp only [ap, au]; rw [c27b0]) | skip)
          refine sv_ 24 53 ?_; refine sv_ 25 54 ?_; refine sv_ 26 55 ?_; refine sv_ 27 56 ?_; refine sv_ 28 57 ?_; refine sv_ 29 58 ?_; refine pv_ 30 59 ?_; refine pv_ 31 60 ?_; refine sv_ 32 61 ?_; refine sv_ 33 62 ?_; refine sv_ 34 63 ?_; refine sv_ 35 64 ?_; refine sv_ 36 65 ?_; refine sv_ 37 66 ?_; refine sv_ 38 67 ?_; refine pv_ 39 68 ?_; refine dn_ HT_ ?_; try go_wp2
          go_ret
          exact ⟨u28_, bw_ HB⟩
         ·rw [if_neg c27] at H; have c27b0 : decide (((ab l0_1 x24_2).f0) ≤ ((ab l0_1 (ji24)).f0)) = false := decide_eq_false c27; clear c27; obtain ⟨t542, A33, H⟩ := bi_ H; have HC_ := am_ H; clear H; (first | rw [c27b0] | (simp only [ap, au]; rw [c27b0]) | skip)
          refine pv_ 24 53 ?_; refine pv_ 26 55 ?_; refine tv_ 25 54 ?_; refine tv_ 27 56 ?_; refine ov_ 28 57 (fun K hK => ?_); refine go_ Tryz.func65 (aV.calls k2 _ _ l0_0 ((ab l0_1 x24_2).f1.f0) _ _ ((ab l0_1 x24_2).f1.f1) t542 _ ?side1 (kc_ HR0_0 HB) HC0_0.out (kc_ HR538_2 HB) HC538_2.out A33.out) ?_; (case side1 => exact iz)
          rintro e w56 ⟨rfl, hb⟩; refine ⟨_, rfl, ?_⟩; replace BK531 := bb_ BK531 hb; replace BK539 := bb_ BK539 hb; replace HB := bs_ HB hb; (try clear hb)
          refine hK.out _ _ ⟨bc_ BK539 0, bc_ BK539 1, bc_ BK539 2, bc_ BK531 0, bc_ BK531 1, bc_ BK531 2, bc_ BK531 3, (cc_ HB hw541_0), (cc_ HB hw541_1), (cc_ HB hw541_2)⟩ (fun hHeld => ?_); clear hK K; refine nm_ ?_; refine pv_ 29 58 ?_; refine pv_ 30 59 ?_; refine pv_ 31 60 ?_; have H := HC_.out; clear HC_; cases t542
          ·replace H := hf_ H; obtain rfl := si_ H; refine sv_ 32 61 ?_; refine sv_ 33 62 ?_; refine sv_ 34 63 ?_; refine sv_ 35 64 ?_; refine sv_ 36 65 ?_; refine sv_ 37 66 ?_; refine sv_ 38 67 ?_; refine pv_ 39 68 ?_; refine dn_ HT_ ?_; try go_wp2
           go_ret
           exact ⟨u28_, bw_ HB⟩
          ·replace H := ht_ H; obtain ⟨t543, A35, H⟩ := bi_ H; have HC_ := am_ H; clear H; refine pv_ 33 62 ?_; refine pv_ 34 63 ?_; refine pv_ 37 66 ?_; refine tv_ 32 61 ?_; refine tv_ 35 64 ?_; refine ov_ 36 65 (fun K hK => ?_); refine oB_ Tryz.func66 (bX.calls _ _ l0_0 _ _ l0_1 _ _ l0_2 a0_3 ((ab l0_1 x24_2).f1.f0) t543 _ (kc_ HR0_0 HB) HC0_0.out (kc_ HR0_1 HB) HC0_1.out (kc_ HR0_2 HB) HC0_2.out A35.out) ?_; intro w43 hb; replace BK531 := bb_ BK531 hb; replace BK539 := bb_ BK539 hb; replace HB := bs_ HB hb; (try clear hb)
           refine hK.out _ _ ⟨bc_ BK539 0, bc_ BK539 1, bc_ BK539 2, bc_ BK531 0, bc_ BK531 1, bc_ BK531 2, bc_ BK531 3, (cc_ HB hw541_0), (cc_ HB hw541_1), (cc_ HB hw541_2)⟩ (fun hHeld => ?_); clear hK K; refine nm_ ?_; refine pv_ 38 67 ?_; refine pv_ 39 68 ?_; refine dn_ HT_ ?_; have H := HC_.out; clear HC_; by_cases c36 : t543 = x24_2
           ·rw [if_pos c36] at H; have c36b0 := cV c36; have c36b1 := cW c36; clear c36; have H' := am_ H; clear H; (first | rw [c36b0] | (simp only [ap, au]; rw [c36b0]) | skip)
            try go_wp2
            go_roundg k2
            case measure => have := HJ1.out; have := HK2.out; omega
            case rel => exact ⟨(wrap64 (x24_2 + 1)), u1_, H', ⟨by have := HJ1.out; have := HK2.out; omega⟩, ⟨pb_ BK531⟩, ⟨bw_ HB⟩⟩
           ·rw [if_neg c36] at H; have c36b0 := cU c36; have c36b1 := cT c36; obtain rfl := si_ H; (first | rw [c36b0] | (simp only [ap, au]; rw [c36b0]) | skip)
            try go_wp2
            go_ret
            exact ⟨u28_, bw_ HB⟩
        ·rw [if_neg c23] at H; have c23b0 : decide (0 < x24_2) = false := decide_eq_false c23; clear c23; obtain ⟨t544, A57, H⟩ := bi_ H; have HC_ := am_ H; clear H; (first | rw [c23b0] | (simp only [ap, au]; rw [c23b0]) | skip)
         try go_wp2_with (first | ((with_reducible refine aE (N := 4) rfl ?_); (try (refine a7 cO ?_; dsimp only)); refine bs ?hg (N := 4) ?hd (cs := #[.int .i64 0, .string (⟨#[]⟩ : ByteArray), .slice none 0 0]) (t := 46) ?hr ?_; (case hd => rfl); (case hg => rfl); (case hr => exact u6_); intro gb539 hg w75 hbox hb; have BK539 := am_ (hbox); have GE539 := gw_ HB hg; replace HB := bs_ HB hb; have NB531_539 := nl_ BK531 hg; have NB539_531 := ng_ BK531 hg; replace BK531 := bb_ BK531 hb; clear hb hbox hg; have hnb76 := NB539_531.out; have hnc76 := NB531_539.out; obtain ⟨hcz77_0, hcz77_1, hcz77_2, hfz77_0, hfz77_1, hfz77_2⟩ := bR BK539.out))
         generalize hW_ : (((w75.setCell ⟨gb539, 0, none⟩ (.int .i64 ((ab l0_1 x24_2).f0))).setCell ⟨gb539, 1, none⟩ (.string ((ab l0_1 x24_2).f1.f0))).setCell ⟨gb539, 2, none⟩ (.slice A538_2 ((ab l0_1 x24_2).f1.f1).length c538_2)) = w78; replace BK531 := gk_ hW_ #[.slice A0_0 l0_0.length c0_0, .slice (some ad538) l0_1.length c0_1, .slice A0_2 l0_2.length c0_2, .int .i64 a0_3] BK531; replace BK539 := gk_ hW_ #[.int .i64 ((ab l0_1 x24_2).f0), .string ((ab l0_1 x24_2).f1.f0), .slice A538_2 ((ab l0_1 x24_2).f1.f1).length c538_2] BK539; replace HB := gb_ hW_ HB; clear hW_; replace BK531 := am_ (bG BK531.out); replace BK539 := am_ (bG BK539.out); replace HB := am_ (aN HB.out); refine dd (n := 40) (S := fun w' => w'.cell? ⟨gb539, 0, none⟩ = some (.int .i64 ((ab l0_1 x24_2).f0)) ∧ w'.cell? ⟨gb539, 1, none⟩ = some (.string ((ab l0_1 x24_2).f1.f0)) ∧ w'.cell? ⟨gb539, 2, none⟩ = some (.slice A538_2 ((ab l0_1 x24_2).f1.f1).length c538_2) ∧ w'.cell? ⟨gb531, 0, none⟩ = some (.slice A0_0 l0_0.length c0_0) ∧ w'.cell? ⟨gb531, 1, none⟩ = some (.slice (some ad538) l0_1.length c0_1) ∧ w'.cell? ⟨gb531, 2, none⟩ = some (.slice A0_2 l0_2.length c0_2) ∧ w'.cell? ⟨gb531, 3, none⟩ = some (.int .i64 a0_3)) (ds := []) (bm_ 40 0) bY rfl rfl ⟨bc_ BK539 0, bc_ BK539 1, bc_ BK539 2, bc_ BK531 0, bc_ BK531 1, bc_ BK531 2, bc_ BK531 3⟩ (fun hHeld => ?_); refine bH aj.tab6 aj.bits6 (fun HT_ HW_ => ?_); generalize w78.drew = w79 at BK531 BK539 HB hHeld ⊢; refine pv_ 0 29 ?_; refine pv_ 2 31 ?_; refine tv_ 1 30 ?_; refine tv_ 3 32 ?_; refine pv_ 4 33 ?_; refine ov_ 5 34 (fun K hK => ?_); refine oD_ Tryz.func64 (aU.calls ((ab l0_1 x24_2).f0) 0 (wrap64 (a0_3 - 1)) true _ A21.out) ?_; intro nd; refine hK.out _ _ ⟨bc_ BK539 0, bc_ BK539 1, bc_ BK539 2, bc_ BK531 0, bc_ BK531 1, bc_ BK531 2, bc_ BK531 3⟩ (fun hHeld => ?_); clear hK K; refine nm_ ?_; refine pv_ 6 35 ?_; refine pv_ 7 36 ?_; refine pv_ 8 37 ?_; refine pv_ 9 38 ?_; refine pv_ 10 39 ?_; refine sv_ 11 40 ?_; refine sv_ 12 41 ?_; refine sv_ 13 42 ?_; refine sv_ 14 43 ?_; refine sv_ 15 44 ?_; refine sv_ 16 45 ?_; refine sv_ 17 46 ?_; refine sv_ 18 47 ?_; refine sv_ 19 48 ?_; refine sv_ 20 49 ?_; refine pv_ 21 50 ?_; refine pv_ 22 51 ?_; refine pv_ 23 52 ?_; refine pv_ 24 53 ?_; refine pv_ 26 55 ?_; refine tv_ 25 54 ?_; refine tv_ 27 56 ?_; refine ov_ 28 57 (fun K hK => ?_); refine go_ Tryz.func65 (aV.calls k2 _ _ l0_0 ((ab l0_1 x24_2).f1.f0) _ _ ((ab l0_1 x24_2).f1.f1) t544 _ ?side1 (kc_ HR0_0 HB) HC0_0.out (kc_ HR538_2 HB) HC538_2.out A57.out) ?_; (case side1 => exact iz)
         rintro e w80 ⟨rfl, hb⟩; refine ⟨_, rfl, ?_⟩; replace BK531 := bb_ BK531 hb; replace BK539 := bb_ BK539 hb; replace HB := bs_ HB hb; (try clear hb)
         refine hK.out _ _ ⟨bc_ BK539 0, bc_ BK539 1, bc_ BK539 2, bc_ BK531 0, bc_ BK531 1, bc_ BK531 2, bc_ BK531 3⟩ (fun hHeld => ?_); clear hK K; refine nm_ ?_; refine pv_ 29 58 ?_; refine pv_ 30 59 ?_; refine pv_ 31 60 ?_; have H := HC_.out; clear HC_; cases t544
         ·replace H := hf_ H; obtain rfl := si_ H; refine sv_ 32 61 ?_; refine sv_ 33 62 ?_; refine sv_ 34 63 ?_; refine sv_ 35 64 ?_; refine sv_ 36 65 ?_; refine sv_ 37 66 ?_; refine sv_ 38 67 ?_; refine pv_ 39 68 ?_; refine dn_ HT_ ?_; try go_wp2
          go_ret
          exact ⟨u0_, bw_ HB⟩
         ·replace H := ht_ H; obtain ⟨t545, A59, H⟩ := bi_ H; have HC_ := am_ H; clear H; refine pv_ 33 62 ?_; refine pv_ 34 63 ?_; refine pv_ 37 66 ?_; refine tv_ 32 61 ?_; refine tv_ 35 64 ?_; refine ov_ 36 65 (fun K hK => ?_); refine oB_ Tryz.func66 (bX.calls _ _ l0_0 _ _ l0_1 _ _ l0_2 a0_3 ((ab l0_1 x24_2).f1.f0) t545 _ (kc_ HR0_0 HB) HC0_0.out (kc_ HR0_1 HB) HC0_1.out (kc_ HR0_2 HB) HC0_2.out A59.out) ?_; intro w67 hb; replace BK531 := bb_ BK531 hb; replace BK539 := bb_ BK539 hb; replace HB := bs_ HB hb; (try clear hb)
          refine hK.out _ _ ⟨bc_ BK539 0, bc_ BK539 1, bc_ BK539 2, bc_ BK531 0, bc_ BK531 1, bc_ BK531 2, bc_ BK531 3⟩ (fun hHeld => ?_); clear hK K; refine nm_ ?_; refine pv_ 38 67 ?_; refine pv_ 39 68 ?_; refine dn_ HT_ ?_; have H := HC_.out; clear HC_; by_cases c60 : t545 = x24_2
          ·rw [if_pos c60] at H; have c60b0 := cV c60; have c60b1 := cW c60; clear c60; have H' := am_ H; clear H; (first | rw [c60b0] | (simp only [ap, au]; rw [c60b0]) | skip)
           try go_wp2
           go_roundg k2
           case measure => have := HJ1.out; have := HK2.out; omega
           case rel => exact ⟨(wrap64 (x24_2 + 1)), u1_, H', ⟨by have := HJ1.out; have := HK2.out; omega⟩, ⟨pb_ BK531⟩, ⟨bw_ HB⟩⟩
          ·rw [if_neg c60] at H; have c60b0 := cU c60; have c60b1 := cT c60; obtain rfl := si_ H; (first | rw [c60b0] | (simp only [ap, au]; rw [c60b0]) | skip)
           try go_wp2
           go_ret
           exact ⟨u0_, bw_ HB⟩
      ·rw [if_neg c18] at H; have c18b0 := decide_eq_false c18; clear c18; obtain ⟨t534, A86, H⟩ := bi_ H; obtain ⟨t537, A87, H⟩ := bi_ H; obtain rfl := si_ H; try go_wp2
       replace BK531 := am_ (bG BK531.out); replace HB := am_ (aN HB.out); refine dd (n := 9) (S := fun w' => w'.cell? ⟨gb531, 0, none⟩ = some (.slice A0_0 l0_0.length c0_0) ∧ w'.cell? ⟨gb531, 1, none⟩ = some (.slice A0_1 l0_1.length c0_1) ∧ w'.cell? ⟨gb531, 2, none⟩ = some (.slice A0_2 l0_2.length c0_2) ∧ w'.cell? ⟨gb531, 3, none⟩ = some (.int .i64 a0_3)) (ds := []) (bm_ 9 0) bY rfl rfl ⟨bc_ BK531 0, bc_ BK531 1, bc_ BK531 2, bc_ BK531 3⟩ (fun hHeld => ?_); refine bH aj.tab9 aj.bits9 (fun HT_ HW_ => ?_); generalize wr.drew = w88 at BK531 HB hHeld ⊢; refine pv_ 0 70 ?_; refine pv_ 2 72 ?_; refine pv_ 4 74 ?_; refine tv_ 1 71 ?_; refine tv_ 3 73 ?_; refine tv_ 5 75 ?_; refine ov_ 6 76 (fun K hK => ?_); refine go_ Tryz.func68 (eq.calls k2 _ _ l0_0 _ _ l0_1 t534 _ ?side1 (kc_ HR0_0 HB) HC0_0.out (kc_ HR0_1 HB) HC0_1.out A86.out) ?_; (case side1 => exact iz)
       rintro e w89 ⟨v535, rfl, ho0, hb⟩; refine ⟨_, rfl, ?_⟩; have HO536 := am_ (Kd.R_lower ho0 (al (bw_ HB))); replace BK531 := bb_ BK531 hb; replace HB := bs_ HB hb; (try clear hb)
       (try clear ho0)
       obtain ⟨Ao90, co90, eo90⟩ := Kd.R_slice HO536.out; (first | subst eo90 | (injection eo90 with f1_ f2_ f3_; have f4_ := f1_.symm; have f5_ := f3_.symm; clear f1_ f2_ f3_; subst f4_; subst f5_))
       refine hK.out _ _ ⟨bc_ BK531 0, bc_ BK531 1, bc_ BK531 2, bc_ BK531 3⟩ (fun hHeld => ?_); clear hK K; refine nm_ ?_; refine ov_ 7 77 (fun K hK => ?_); refine go_ Tryz.func67 (cI.calls k2 _ _ l0_2 _ _ t534 t537 _ (kc_ HR0_2 HB) HC0_2.out (kR_ HO536) ?side4 A87.out) ?_; (case side4 => exact (Kd.R_reads' HO536.out).2.1)
       rintro e w91 ⟨rfl, hb⟩; refine ⟨_, rfl, ?_⟩; replace BK531 := bb_ BK531 hb; replace HB := bs_ HB hb; (try clear hb)
       refine hK.out _ _ ⟨bc_ BK531 0, bc_ BK531 1, bc_ BK531 2, bc_ BK531 3⟩ (fun hHeld => ?_); clear hK K; refine nm_ ?_; refine pv_ 8 2 ?_; refine dn_ HT_ ?_; try go_wp2
       go_ret
       exact ⟨u0_, bw_ HB⟩
   ·replace H := ht_ H; obtain rfl := si_ H; go_wp2; go_ret
    exact ⟨u0_, bw_ HB⟩
def bZ.f (a0_0 : ByteArray) (l0_1 : List (S86)) : Option (ByteArray × (List (S86))) := (some (([] : List (S86)) : List (S86))).bind fun y548 => (if y548.length + l0_1.length < 4398046511104 then (some (a0_0, (y548 ++ l0_1))) else (none))
def bZ.T1 : Bool × List (List Nat × List Nat) := (true, [([], []), ([0], [0]), ([], []), ([], []), ([3], [3]), ([2, 4], [2, 4]), ([1, 5], [1, 5]), ([6, 5, 0, 1, 2, 3, 4, 5, 6], [6])])
def bZ.B1 : List Nat := [0, 1, 0, 0, 8, 28, 63, 127]
theorem bZ.tab1 : dw .any (fm Tryz.f73 1) = bZ.T1 := by kernel_rfl
theorem bZ.bits1 : de bZ.T1.2 bZ.B1 = true := by kernel_rfl
theorem bZ.calls (a0_0 : ByteArray) (A0_1 : Option Addr) (c0_1 : Nat) (l0_1 : List (S86)) (r1 : ByteArray) (r2 : List (S86)) (w : World) (hr0_1 : Kd.C k86 w A0_1 l0_1.length l0_1) (hc0_1 : l0_1.length ≤ c0_1) (h : bZ.f a0_0 l0_1 = some (r1, r2)) :
  Calls Tryz.prog 73 #[.agg #[.string a0_0, .slice A0_1 l0_1.length c0_1]] w fun e w' => ∃ v1_ : Value, e = .returned (.agg #[.string r1, v1_]) ∧ Kd.R k86 86 w' w.heap.size (fun _ => True) v1_ r2 ∧ Below w.heap.size w w' := by
 have hu44 := Tryz.underlying44; have HR0_1 := am_ hr0_1; have HC0_1 := am_ hc0_1; clear hr0_1 hc0_1; have HB := am_ (Below.refl w.heap.size w); have H := h; clear h; unfold bZ.f at H
 obtain ⟨y548, hy548⟩ : ∃ y_ : List (S86), y_ = (([] : List (S86))) := ⟨_, rfl⟩; replace H : (if y548.length + l0_1.length < 4398046511104 then (some (a0_0, (y548 ++ l0_1))) else (none)) = some (r1, r2) := by first | (rw [hy548]; with_reducible exact H) | (have H2_ := (Option.bind_some _ _).symm.trans H; rw [hy548]; with_reducible exact H2_) | (have H2_ := (Option.bind_some _ _).symm.trans H; with_reducible exact H2_) | with_reducible exact H | (rw [hy548]; exact H) | exact H
 have Ny548 := am_ hy548; clear hy548; obtain ⟨LMc2, H⟩ := gl_ H; generalize hy551 : ((y548 ++ l0_1) : List (S86)) = y551 at H; have Ny551 := am_ hy551.symm; clear hy551; simp only [Option.some.injEq, Prod.mk.injEq] at H; obtain ⟨rfl, rfl⟩ := H; go_enter Tryz.func73, Tryz.ntmps73
 try go_wp2_with (first | ((with_reducible refine gt_ 1 ?_); refine bx_ 1 #[.string a0_0, .slice A0_1 l0_1.length c0_1] 44 ?_; intro gb546 hg w3 hbox hb; have BK546 := am_ (hbox); have GE546 := gw_ HB hg; replace HB := bs_ HB hb; clear hb hbox hg) | ((with_reducible refine gt_ 2 ?_); refine bx_ 2 #[.string (⟨#[]⟩ : ByteArray), .slice none 0 0] 44 ?_; intro gb547 hg w4 hbox hb; have BK547 := am_ (hbox); have GE547 := gw_ HB hg; replace HB := bs_ HB hb; have NB546_547 := nl_ BK546 hg; have NB547_546 := ng_ BK546 hg; replace BK546 := bb_ BK546 hb; clear hb hbox hg))
 replace BK546 := am_ (bG BK546.out); replace BK547 := am_ (bG BK547.out); replace HB := am_ (aN HB.out); refine dd (n := 8) (S := fun w' => w'.cell? ⟨gb546, 0, none⟩ = some (.string a0_0) ∧ w'.cell? ⟨gb546, 1, none⟩ = some (.slice A0_1 l0_1.length c0_1)) (ds := []) (bm_ 8 0) bY rfl rfl ⟨bc_ BK546 0, bc_ BK546 1⟩ (fun hHeld => ?_); refine bH bZ.tab1 bZ.bits1 (fun HT_ HW_ => ?_); generalize w4.drew = w5 at BK546 BK547 HB hHeld ⊢; refine pv_ 0 3 ?_; refine pv_ 3 6 ?_; refine tv_ 1 4 ?_; refine tv_ 4 7 ?_; refine ov_ 2 5 (fun K hK => ?_); refine Kd.R_lit_step k86 _ 86 ?hg (N := 5) ?hd (xs := ([] : List (S86))) (inner := []) (ok := fun _ => True) (okp := fun _ => True) ?hr ?hp (fun _ hk => hk) trivial (Below.refl _ _) (Nat.le_refl _) cM ?_; (case hd => rfl); (case hg => rfl); (case hr => exact u6_); (case hp => exact ii); intro v549 w6 ho7 hb hg_ hnew_; clear hg_ hnew_; (first | rw [← Ny548.out] at ho7 | (simp only [Int.reduceToNat] at ho7; rw [← Ny548.out] at ho7))
 have HO550 := am_ (Kd.R_lower ho7 (al (bw_ HB))); replace BK546 := bb_ BK546 hb; replace BK547 := bb_ BK547 hb; replace HB := bs_ HB hb; clear hb ho7; refine hK.out _ _ ⟨bc_ BK546 0, bc_ BK546 1⟩ (fun hHeld => ?_); clear hK K; refine nm_ ?_; refine ov_ 5 8 (fun K hK => ?_); refine Kd.R_append_rows_step k86 (w0 := w) w.heap.size cO (.tmp 5) (.tmp 7) 42 86 (.agg #[(.string ⟨#[]⟩), (.string ⟨#[]⟩)]) 32 rfl Tryz.underlying42 oA rfl aC u7_ v549 y548 l0_1 _ _ _ (fun _ => True) (fun _ => False) rfl rfl ?aO ?aR (fun _ _ h => h) (fun _ h => h.elim) ?aF ?aB ?aS ?aL ?_; (case aR => exact (kc_ HR0_1 HB))
 (case aB => exact fL)
 (case aF => exact jP)
 (case aO => exact (aR_ HO550.out))
 (case aS => exact fJ)
 (case aL => have := LMc2.out; omega)
 intro v552 w8 ho hb hg hat; rw [← Ny551.out] at ho; replace BK546 := am_ (gN (g := gb546) (o := .cells #[.string a0_0, .slice A0_1 l0_1.length c0_1] 44 (0, 0)) (pb_ BK546) hg (Kd.R_ne HO550.out BK546.out aC)); replace BK547 := am_ (gN (g := gb547) (o := .cells #[.string (⟨#[]⟩ : ByteArray), .slice none 0 0] 44 (0, 0)) (pb_ BK547) hg (Kd.R_ne HO550.out BK547.out aC)); replace HB := am_ (hb); have HO553 := am_ (ho); clear HO550 ho hb hg hat; obtain ⟨Ao9, co9, eo9⟩ := Kd.R_slice HO553.out; (first | subst eo9 | (injection eo9 with f1_ f2_ f3_; have f4_ := f1_.symm; have f5_ := f3_.symm; clear f1_ f2_ f3_; subst f4_; subst f5_))
 refine hK.out _ _ ⟨bc_ BK546 0, bc_ BK546 1⟩ (fun hHeld => ?_); clear hK K; refine nm_ ?_; refine pv_ 6 9 ?_; refine one_ (i := 7) (N := none) (bm_ 8 255) rfl rfl (qA HT_.out bY) aC (fun K hK => ?_); have hs10 : w8.cell? ⟨gb547, 0, none⟩ = some (.string (⟨#[]⟩ : ByteArray)) := bc_ BK547 0; have hfs10 := cJ BK547.out 0; have hns10_0 := NB546_547.out; have hms10_0 := NB547_546.out; have hs11 : w8.cell? ⟨gb547, 1, none⟩ = some (.slice none 0 0) := bc_ BK547 1; have hfs11 := cJ BK547.out 1; have hns11_0 := NB546_547.out; have hms11_0 := NB547_546.out; refine skip_ (w1 := ?_) cO rfl ?_ ?_; rotate_left
 ·go_simp; rfl
 refine hK.out _ _ ⟨((aH (p := ⟨gb547, _, none⟩) NB546_547.out _).trans (((aH (p := ⟨gb547, _, none⟩) NB546_547.out _).trans (hHeld.1)))), ((aH (p := ⟨gb547, _, none⟩) NB546_547.out _).trans (((aH (p := ⟨gb547, _, none⟩) NB546_547.out _).trans (hHeld.2))))⟩ (fun hHeld => ?_); clear hK K; refine dn_ HT_ ?_; try go_wp2
 refine bodyPost_ret (results_cell_row rfl _ _ gb547 44 #[.string a0_0, .slice Ao9 y551.length co9] (0, 0) _ rfl (pb_ BK547) Tryz.underlying44 rfl bY) rfl ?_; exact ⟨_, u0_, by (with_reducible repeat (first | apply Kd.R_alloc | apply Kd.R_drewN | apply Kd.R_drew)); exact Kd.R_mono (Kd.R_far (p := ⟨gb547, 1, none⟩) (Kd.R_far (p := ⟨gb547, 0, none⟩) (Kd.R_types HO553.out BK547.out aC) (fun _ hk => hk.2) (.string a0_0)) (fun _ hk => hk.2) (.slice Ao9 y551.length co9)) (fun _ hk => trivial), bw_ HB⟩
def dh.f (k : Nat) (l0_0 : List (S92)) (l0_1 : List (S46)) (l0_2 : List (S76)) (a0_3 : Int) (a1 : ByteArray) : Option (ByteArray × (List (S86)) × Bool) := (bX.f l0_0 l0_1 l0_2 a0_3 a1).bind fun t556 => ((aj.f k l0_0 l0_1 l0_2 a0_3).bind fun t557 => (if t557 = true then (if t556 < 0 then (some ((⟨#[]⟩ : ByteArray), ([] : List (S86)), false)) else (if 0 ≤ t556 then (if t556 < (l0_1.length : Int) then ((bZ.f ((ab l0_1 t556).f1.f0) ((ab l0_1 t556).f1.f1)).bind fun bt559 => (some (bt559.1, bt559.2, true))) else (none)) else (none))) else (some ((⟨#[]⟩ : ByteArray), ([] : List (S86)), false))))
theorem dh.calls (k : Nat) (A0_0 : Option Addr) (c0_0 : Nat) (l0_0 : List (S92)) (A0_1 : Option Addr) (c0_1 : Nat) (l0_1 : List (S46)) (A0_2 : Option Addr) (c0_2 : Nat) (l0_2 : List (S76)) (a0_3 : Int) (a1 : ByteArray) (r1 : ByteArray) (r2 : List (S86)) (r3 : Bool) (w : World) (hG : StopsIn w) (hr0_0 : Kd.C k92 w A0_0 l0_0.length l0_0) (hc0_0 : l0_0.length ≤ c0_0) (hr0_1 : Kd.C k46 w A0_1 l0_1.length l0_1) (hc0_1 : l0_1.length ≤ c0_1) (hr0_2 : Kd.C k76 w A0_2 l0_2.length l0_2) (hc0_2 : l0_2.length ≤ c0_2) (h : dh.f k l0_0 l0_1 l0_2 a0_3 a1 = some (r1, r2, r3)) :
  Calls Tryz.prog 28 #[.agg #[.slice A0_0 l0_0.length c0_0, .slice A0_1 l0_1.length c0_1, .slice A0_2 l0_2.length c0_2, .int .i64 a0_3], .string a1] w fun e w' => ∃ v1_ : Value, e = .returned (.tuple #[.agg #[.string r1, v1_], .bool r3]) ∧ Kd.R k86 86 w' w.heap.size (fun _ => True) v1_ r2 ∧ Below w.heap.size w w' := by
 have hu27 := Tryz.underlying27; have hu44 := Tryz.underlying44; have HG_ := am_ hG; clear hG; have HR0_0 := am_ hr0_0; have HC0_0 := am_ hc0_0; clear hr0_0 hc0_0; have HR0_1 := am_ hr0_1; have HC0_1 := am_ hc0_1; clear hr0_1 hc0_1; have HR0_2 := am_ hr0_2; have HC0_2 := am_ hc0_2; clear hr0_2 hc0_2; have HB := am_ (Below.refl w.heap.size w); have H := h; clear h; unfold dh.f at H
 obtain ⟨t556, A3, H⟩ := bi_ H; obtain ⟨t557, A4, H⟩ := bi_ H; cases t557
 ·replace H := hf_ H; simp only [Option.some.injEq, Prod.mk.injEq] at H; obtain ⟨rfl, rfl, rfl⟩ := H; go_enter Tryz.func28, Tryz.ntmps28
  go_wp2_with (first | ((with_reducible refine gt_ 2 ?_); refine bx_ 2 #[.slice A0_0 l0_0.length c0_0, .slice A0_1 l0_1.length c0_1, .slice A0_2 l0_2.length c0_2, .int .i64 a0_3] 27 ?_; intro gb554 hg w29 hbox hb; have BK554 := am_ (hbox); have GE554 := gw_ HB hg; replace HB := bs_ HB hb; clear hb hbox hg) | ((with_reducible refine gt_ 4 ?_); refine bx_ 4 #[.string (⟨#[]⟩ : ByteArray), .slice none 0 0] 44 ?_; intro gb555 hg w30 hbox hb; have BK555 := am_ (hbox); have GE555 := gw_ HB hg; replace HB := bs_ HB hb; have NB554_555 := nl_ BK554 hg; have NB555_554 := ng_ BK554 hg; replace BK554 := bb_ BK554 hb; clear hb hbox hg; have hnb31 := NB554_555.out; have hnc31 := NB555_554.out; obtain ⟨hcz32_0, hcz32_1, hcz32_2, hcz32_3, hfz32_0, hfz32_1, hfz32_2, hfz32_3⟩ := cu BK554.out) | ((with_reducible refine gt_ 9 ?_); refine gB_ 9 Tryz.func66 (bX.calls _ _ l0_0 _ _ l0_1 _ _ l0_2 a0_3 a1 t556 _ (kc_ HR0_0 HB) HC0_0.out (kc_ HR0_1 HB) HC0_1.out (kc_ HR0_2 HB) HC0_2.out A3.out) ?_; intro w33 hb; replace BK554 := bb_ BK554 hb; replace BK555 := bb_ BK555 hb; replace HB := bs_ HB hb; (try clear hb); obtain ⟨hcz34_0, hcz34_1, hcz34_2, hcz34_3, hfz34_0, hfz34_1, hfz34_2, hfz34_3⟩ := cu BK554.out) | ((with_reducible refine gt_ 11 ?_); refine gB_ 11 Tryz.func25 (aj.calls k _ _ l0_0 _ _ l0_1 _ _ l0_2 a0_3 false _ ?side1 (kc_ HR0_0 HB) HC0_0.out (kc_ HR0_1 HB) HC0_1.out (kc_ HR0_2 HB) HC0_2.out A4.out) ?_; (case side1 => exact iz); intro w35 hb; replace BK555 := bb_ BK555 hb; replace HB := bs_ HB hb; (try clear hb); obtain ⟨hcz36_0, hcz36_1, hfz36_0, hfz36_1⟩ := bj BK555.out))
  refine bodyPost_ret (eZ rfl _ _ gb555 44 #[.string (⟨#[]⟩ : ByteArray), .slice none 0 0] (0, 0) _ rfl (pb_ BK555) Tryz.underlying44 rfl bY) rfl ?_; exact ⟨_, u0_, u27_, bw_ HB⟩
 ·replace H := ht_ H; by_cases c6 : t556 < 0
  ·rw [if_pos c6] at H; have c6b0 := decide_eq_true c6; clear c6; simp only [Option.some.injEq, Prod.mk.injEq] at H; obtain ⟨rfl, rfl, rfl⟩ := H; go_enter Tryz.func28, Tryz.ntmps28
   go_wp2_with (first | ((with_reducible refine gt_ 2 ?_); refine bx_ 2 #[.slice A0_0 l0_0.length c0_0, .slice A0_1 l0_1.length c0_1, .slice A0_2 l0_2.length c0_2, .int .i64 a0_3] 27 ?_; intro gb554 hg w7 hbox hb; have BK554 := am_ (hbox); have GE554 := gw_ HB hg; replace HB := bs_ HB hb; clear hb hbox hg) | ((with_reducible refine gt_ 4 ?_); refine bx_ 4 #[.string (⟨#[]⟩ : ByteArray), .slice none 0 0] 44 ?_; intro gb555 hg w8 hbox hb; have BK555 := am_ (hbox); have GE555 := gw_ HB hg; replace HB := bs_ HB hb; have NB554_555 := nl_ BK554 hg; have NB555_554 := ng_ BK554 hg; replace BK554 := bb_ BK554 hb; clear hb hbox hg; have hnb9 := NB554_555.out; have hnc9 := NB555_554.out; obtain ⟨hcz10_0, hcz10_1, hcz10_2, hcz10_3, hfz10_0, hfz10_1, hfz10_2, hfz10_3⟩ := cu BK554.out) | ((with_reducible refine gt_ 9 ?_); refine gB_ 9 Tryz.func66 (bX.calls _ _ l0_0 _ _ l0_1 _ _ l0_2 a0_3 a1 t556 _ (kc_ HR0_0 HB) HC0_0.out (kc_ HR0_1 HB) HC0_1.out (kc_ HR0_2 HB) HC0_2.out A3.out) ?_; intro w11 hb; replace BK554 := bb_ BK554 hb; replace BK555 := bb_ BK555 hb; replace HB := bs_ HB hb; (try clear hb); obtain ⟨hcz12_0, hcz12_1, hcz12_2, hcz12_3, hfz12_0, hfz12_1, hfz12_2, hfz12_3⟩ := cu BK554.out) | ((with_reducible refine gt_ 11 ?_); refine gB_ 11 Tryz.func25 (aj.calls k _ _ l0_0 _ _ l0_1 _ _ l0_2 a0_3 true _ ?side1 (kc_ HR0_0 HB) HC0_0.out (kc_ HR0_1 HB) HC0_1.out (kc_ HR0_2 HB) HC0_2.out A4.out) ?_; (case side1 => exact iz); intro w13 hb; replace BK555 := bb_ BK555 hb; replace HB := bs_ HB hb; (try clear hb); obtain ⟨hcz14_0, hcz14_1, hfz14_0, hfz14_1⟩ := bj BK555.out))
   refine bodyPost_ret (eZ rfl _ _ gb555 44 #[.string (⟨#[]⟩ : ByteArray), .slice none 0 0] (0, 0) _ rfl (pb_ BK555) Tryz.underlying44 rfl bY) rfl ?_; exact ⟨_, u0_, u27_, bw_ HB⟩
  ·rw [if_neg c6] at H; have c6b0 := decide_eq_false c6; clear c6; obtain ⟨c15b0, H⟩ := gd_ H; obtain ⟨c16b0, H⟩ := gd_ H; obtain ⟨⟨t559, t560⟩, A17, H⟩ := bi_ H; dsimp only at H; simp only [Option.some.injEq, Prod.mk.injEq] at H; obtain ⟨rfl, rfl, rfl⟩ := H; go_enter Tryz.func28, Tryz.ntmps28
   go_wp2_with (first | ((with_reducible refine gt_ 2 ?_); refine bx_ 2 #[.slice A0_0 l0_0.length c0_0, .slice A0_1 l0_1.length c0_1, .slice A0_2 l0_2.length c0_2, .int .i64 a0_3] 27 ?_; intro gb554 hg w18 hbox hb; have BK554 := am_ (hbox); have GE554 := gw_ HB hg; replace HB := bs_ HB hb; clear hb hbox hg) | ((with_reducible refine gt_ 4 ?_); refine bx_ 4 #[.string (⟨#[]⟩ : ByteArray), .slice none 0 0] 44 ?_; intro gb555 hg w19 hbox hb; have BK555 := am_ (hbox); have GE555 := gw_ HB hg; replace HB := bs_ HB hb; have NB554_555 := nl_ BK554 hg; have NB555_554 := ng_ BK554 hg; replace BK554 := bb_ BK554 hb; clear hb hbox hg; have hnb20 := NB554_555.out; have hnc20 := NB555_554.out; obtain ⟨hcz21_0, hcz21_1, hcz21_2, hcz21_3, hfz21_0, hfz21_1, hfz21_2, hfz21_3⟩ := cu BK554.out) | ((with_reducible refine gt_ 9 ?_); refine gB_ 9 Tryz.func66 (bX.calls _ _ l0_0 _ _ l0_1 _ _ l0_2 a0_3 a1 t556 _ (kc_ HR0_0 HB) HC0_0.out (kc_ HR0_1 HB) HC0_1.out (kc_ HR0_2 HB) HC0_2.out A3.out) ?_; intro w22 hb; replace BK554 := bb_ BK554 hb; replace BK555 := bb_ BK555 hb; replace HB := bs_ HB hb; (try clear hb); obtain ⟨hcz23_0, hcz23_1, hcz23_2, hcz23_3, hfz23_0, hfz23_1, hfz23_2, hfz23_3⟩ := cu BK554.out) | ((with_reducible refine gt_ 11 ?_); refine gB_ 11 Tryz.func25 (aj.calls k _ _ l0_0 _ _ l0_1 _ _ l0_2 a0_3 true _ ?side1 (kc_ HR0_0 HB) HC0_0.out (kc_ HR0_1 HB) HC0_1.out (kc_ HR0_2 HB) HC0_2.out A4.out) ?_; (case side1 => exact iz); intro w24 hb; replace BK554 := bb_ BK554 hb; replace BK555 := bb_ BK555 hb; replace HB := bs_ HB hb; (try clear hb); obtain ⟨hcz25_0, hcz25_1, hcz25_2, hcz25_3, hfz25_0, hfz25_1, hfz25_2, hfz25_3⟩ := cu BK554.out; obtain ⟨p558, q558⟩ := pq_ t556 l0_1.length; obtain ⟨ad558, A558_2, c558_2, e558, hx558_0, hx558_1, hx558_2, hl558_2, hi558_2⟩ := fj HR0_1.out t556 p558 q558; cases e558; replace hx558_0 := cb_ HB hx558_0; replace hx558_1 := cb_ HB hx558_1; replace hx558_2 := cb_ HB hx558_2; have HR558_2 := am_ hi558_2; have HC558_2 := am_ hl558_2; clear hi558_2 hl558_2; obtain ⟨p558, q558⟩ := tt_ p558 q558) | ((with_reducible refine gt_ 24 ?_); refine gf_ 24 Tryz.func73 (bZ.calls ((ab l0_1 t556).f1.f0) _ _ ((ab l0_1 t556).f1.f1) t559 t560 _ (kc_ HR558_2 HB) HC558_2.out A17.out) ?_; rintro e w26 ⟨v561, rfl, ho0, hb⟩; refine ⟨_, rfl, ?_⟩; have HO562 := am_ (Kd.R_lower ho0 (al (bw_ HB))); replace BK555 := bb_ BK555 hb; replace HB := bs_ HB hb; (try clear hb); (try clear ho0); obtain ⟨hcz27_0, hcz27_1, hfz27_0, hfz27_1⟩ := bj BK555.out; obtain ⟨Ao28, co28, eo28⟩ := Kd.R_slice HO562.out; subst eo28))
   refine bodyPost_ret (eZ rfl _ _ gb555 44 #[.string t559, .slice Ao28 t560.length co28] (0, 0) _ rfl (pb_ BK555) Tryz.underlying44 rfl bY) rfl ?_; exact ⟨_, u0_, by (with_reducible repeat (first | apply Kd.R_alloc | apply Kd.R_drewN | apply Kd.R_drew)); exact Kd.R_mono (Kd.R_far (p := ⟨gb555, 1, none⟩) (Kd.R_far (p := ⟨gb555, 0, none⟩) (Kd.R_types HO562.out BK555.out aC) (fun _ hk => hk.2) (.string t559)) (fun _ hk => hk.2) (.slice Ao28 t560.length co28)) (fun _ hk => trivial), bw_ HB⟩
def ax.l0 : Nat → Int → ByteArray → Option (ByteArray)
 | 0, _, _ => none
 | k + 1, x0, x3 => if x0 > 0 then ((some (([(wrap64 (48 + (Int.tmod x0 10))) % 256] : List Int) : List Int)).bind fun y563 => (if (strOfNums y563).size + x3.size ≤ 9223372036854775807 then (ax.l0 k (wrap64 (Int.tdiv x0 10)) ((strOfNums y563) ++ x3)) else (none))) else (if 1 + x3.size ≤ 9223372036854775807 then (some ((⟨#[109]⟩ : ByteArray) ++ x3)) else (none))
def ax.f (k : Nat) (a0 : Int) : Option (ByteArray) := if a0 ≤ 0 then (some (⟨#[109, 48]⟩ : ByteArray)) else (ax.l0 k a0 (⟨#[]⟩ : ByteArray))
theorem ax.calls (k : Nat) (a0 : Int) (r : ByteArray) (w : World) (h : ax.f k a0 = some r) :
  Calls Tryz.prog 83 #[.int .i64 a0] w fun e w' => e = .returned (.string r) ∧ Below w.heap.size w w' := by
 have HB := am_ (Below.refl w.heap.size w); have H := h; clear h; unfold ax.f at H
 by_cases c2 : a0 ≤ 0
 ·rw [if_pos c2] at H; have c2b0 := decide_eq_true c2; clear c2; obtain rfl := si_ H; go_enter Tryz.func83, Tryz.ntmps83
  go_wp2; go_ret
  exact ⟨u0_, bw_ HB⟩
 ·rw [if_neg c2] at H; have c2b0 := decide_eq_false c2; clear c2; have H' := am_ H; clear H; go_enter Tryz.func83, Tryz.ntmps83
  go_wp2; go_loopg [0, 3] k (fun kq v0 v3 w' => ∃ (x0_1 : Int) (x3_1 : ByteArray), v0 = .int .i64 x0_1 ∧ v3 = .string x3_1 ∧ aa (ax.l0 kq x0_1 x3_1 = some r) ∧ aa (kq ≤ k) ∧ aa (Below w.heap.size w w'))
  case atStart => exact ⟨(a0), ((⟨#[]⟩ : ByteArray)), u1_, u1_, H', ⟨Nat.le_refl _⟩, ⟨bw_ HB⟩⟩
  case round =>
   clear H'; try clear c2
   try clear c2b0
   obtain ⟨x0_1, x3_1, rfl, rfl, HA, HK1, HB⟩ := hrel; cases gk with
   | zero => exact absurd HA.out (by simp [ax.l0])
   | succ k1 =>
    have H := HA.out; clear HA; simp only [ax.l0] at H; by_cases c3 : x0_1 > 0
    ·rw [if_pos c3] at H; have c3b0 : decide (0 < x0_1) = true := decide_eq_true c3; clear c3; generalize hy563 : ((([(wrap64 (48 + (Int.tmod x0_1 10))) % 256] : List Int)) : List Int) = y563 at H; have Ny563 := am_ hy563.symm; clear hy563; obtain ⟨c4, H⟩ := gn_ H; have c4b0 := eq_true c4; have c4b1 := decide_eq_true c4; try have c4b2 : (9223372036854775807 < (strOfNums y563).size + x3_1.size) = False := eq_false (Nat.not_lt.2 c4)
     have H' := am_ H; clear H; go_wp2_with (first | ((with_reducible refine aE (N := 12) rfl ?_); refine Kd.R_lit (Kd.int .u8) _ 5 ?hg (N := 12) ?hd (xs := ([(wrap64 (48 + (Int.tmod x0_1 10))) % 256] : List Int)) (inner := [.int .u8 ((wrap64 (48 + (Int.tmod x0_1 10))) % 256)]) (ok := fun _ => True) (okp := fun _ => True) ?hr ?hp (fun _ hk => hk) trivial (Below.refl _ _) (Nat.le_refl _) cM ?_; (case hd => rfl); (case hg => rfl); (case hr => exact u6_); (case hp => exact (Reps.one (show Kd.M (Kd.int .u8) _ _ _ ((wrap64 (48 + (Int.tmod x0_1 10))) % 256) [.int .u8 ((wrap64 (48 + (Int.tmod x0_1 10))) % 256)] from rfl) (Reps.none _ _))); intro v564 w5 ho6 hb hg_ hnew_; clear hg_ hnew_; (first | rw [← Ny563.out] at ho6 | (simp only [Int.reduceToNat] at ho6; rw [← Ny563.out] at ho6)); have HO565 := am_ (Kd.R_lower ho6 (al (bw_ HB))); replace HB := bs_ HB hb; clear hb ho6; have hcv7 := ku (P := Tryz.prog) Tryz.underlying22 Tryz.underlying5 Tryz.underlying9 (Kd.own_of_R HO565.out)))
     go_roundg k1
     case measure => have := HK1.out; omega
     case rel => exact ⟨(wrap64 (Int.tdiv x0_1 10)), ((strOfNums y563) ++ x3_1), u1_, u1_, H', ⟨dm⟩, ⟨bw_ HB⟩⟩
    ·rw [if_neg c3] at H; have c3b0 : decide (0 < x0_1) = false := decide_eq_false c3; clear c3; by_cases c8 : 1 + x3_1.size ≤ 9223372036854775807
     ·rw [if_pos c8] at H; have c8b0 := eq_true c8; have c8b1 := decide_eq_true c8; try have c8b2 : (9223372036854775807 < 1 + x3_1.size) = False := eq_false (Nat.not_lt.2 c8)
      obtain rfl := si_ H; go_wp2; go_ret
      exact ⟨u0_, bw_ HB⟩
     ·rw [if_neg c8] at H; exact absurd H cM
section
open Go
def Like (v u : Value) : Prop := v = u ∨ (∃ k x y, v = .int k x ∧ u = .int k y) ∨ ∃ s z, v = .string s ∧ u = .string z
structure Kp (P : Nat → Prop) (w W : World) : Prop where
 le : w.heap.size ≤ W.heap.size
 like : ∀ (g : Nat) (cs : Array Value) (t : TypeId), w.heap[g]? = some (Obj.cells cs t (0, 0)) → ∃ ds : Array Value, W.heap[g]? = some (Obj.cells ds t (0, 0)) ∧ ∀ (j : Nat) (v : Value), cs[j]? = some v → ∃ u : Value, ds[j]? = some u ∧ Like v u
 kept : Kept w W P
theorem Like.refl (v : Value) : Like v v := .inl rfl
theorem Like.trans {a b c : Value} (h : Like a b) (k : Like b c) : Like a c := by
 rcases h with rfl | ⟨q, x, y, rfl, rfl⟩ | ⟨s, z, rfl, rfl⟩
 ·exact k
 ·rcases k with rfl | ⟨_, _, y, e, rfl⟩ | ⟨_, _, e, _⟩
  ·exact .inr (.inl ⟨q, x, y, rfl, rfl⟩)
  ·cases e; exact .inr (.inl ⟨_, x, y, rfl, rfl⟩)
  ·cases e
 ·rcases k with rfl | ⟨_, _, _, e, _⟩ | ⟨_, z', e, rfl⟩
  ·exact .inr (.inr ⟨s, z, rfl, rfl⟩)
  ·cases e
  ·exact .inr (.inr ⟨s, z', rfl, rfl⟩)
section
variable {P : Nat → Prop}
theorem Kp.refl (w : World) : Kp P w w := ⟨Nat.le_refl _, fun g cs t h => ⟨cs, h, fun j v hv => ⟨v, hv, .inl rfl⟩⟩, Kept.refl w P⟩
theorem Kp.trans {w W X : World} (h : Kp P w W) (k : Kp P W X) : Kp P w X := by
 refine ⟨Nat.le_trans h.le k.le, fun g cs t hc => ?_, h.kept.then_ k.kept fun _ hk => .inl hk⟩; obtain ⟨ds, hd, hl⟩ := h.like g cs t hc; obtain ⟨es, he, hm⟩ := k.like g ds t hd; refine ⟨es, he, fun j v hv => ?_⟩; obtain ⟨u, hu, a⟩ := hl j v hv; obtain ⟨z, hz, b⟩ := hm j u hu; exact ⟨z, hz, a.trans b⟩
theorem Kp.below {w W : World} (h : Below w.heap.size w W) : Kp P w W :=
 ⟨h.size, fun g cs t hc => ⟨cs, bh hc h, fun j v hv => ⟨v, hv, .inl rfl⟩⟩, Kept.of_below h P⟩
theorem Kp.drewN {w W : World} (h : Kp P w W) (n : Nat) : Kp P w (W.drewN n) := h.trans (Kp.below (aw (Below.refl _ _) n))
theorem Kp.set {w : World} {g i t : Nat} {cs : Array Value} {v u : Value} (hb : w.heap[g]? = some (.cells cs t (0, 0))) (hv : cs[i]? = some v) (hl : Like v u) (hP : P g) : Kp P w (w.setCell ⟨g, i, none⟩ u) := by
 have hi : i < cs.size := (Array.getElem?_eq_some_iff.1 hv).1; refine ⟨by simp [World.setCell], fun g' cs' t' hc => ?_, (Kept.refl w P).setCell (.inl hP) u⟩; by_cases hg : g' = g
 ·subst hg; rw [hb] at hc; obtain ⟨rfl, rfl⟩ : cs = cs' ∧ t = t' := by simpa using hc
  refine ⟨_, o5 hb i u rfl, fun j x hx => ?_⟩; by_cases hj : j = i
  ·subst hj; rw [hv] at hx; obtain rfl := Option.some.inj hx; exact ⟨u, by simp [Array.getElem?_setIfInBounds, hi], hl⟩
  ·exact ⟨x, by rw [Array.getElem?_setIfInBounds_ne (Ne.symm hj)]; exact hx, .inl rfl⟩
 ·exact ⟨cs', (Below.heap_setCell w ⟨g, i, none⟩ u g' hg).trans hc, fun j x hx => ⟨x, hx, .inl rfl⟩⟩
def Flat (P : Nat → Prop) (w : World) (A : Option Addr) (m : Nat) (Q : Nat → Value → Prop) : Prop :=
 0 < m → ∃ (g off : Nat) (cs : Array Value) (t : TypeId), A = some ⟨g, off, none⟩ ∧ P g ∧ w.heap[g]? = some (Obj.cells cs t (0, 0)) ∧ ∀ j, j < m → ∃ v, cs[off + j]? = some v ∧ Q j v
theorem Flat.kp {w W : World} {A : Option Addr} {m : Nat} {Q Q' : Nat → Value → Prop} (h : Flat P w A m Q) (k : Kp P w W) (hQ : ∀ j v u, Q j v → Like v u → Q' j u) : Flat P W A m Q' := fun hm => by
 obtain ⟨g, off, cs, t, e, hp, hb, hc⟩ := h hm; obtain ⟨ds, hd, hl⟩ := k.like g cs t hb; refine ⟨g, off, ds, t, e, hp, hd, fun j hj => ?_⟩; obtain ⟨v, hv, q⟩ := hc j hj; obtain ⟨u, hu, l⟩ := hl _ v hv; exact ⟨u, hu, hQ j v u q l⟩
def isI (_ : Nat) (v : Value) : Prop := ∃ x, v = .int .i64 x
def isS (_ : Nat) (v : Value) : Prop := ∃ s, v = .string s
theorem isI.like {j : Nat} {v u : Value} (h : isI j v) (l : Like v u) : isI j u := by
 obtain ⟨x, rfl⟩ := h; rcases l with rfl | ⟨_, _, y, e, rfl⟩ | ⟨_, _, e, _⟩
 ·exact ⟨x, rfl⟩
 ·cases e; exact ⟨y, rfl⟩
 ·cases e
theorem isS.like {j : Nat} {v u : Value} (h : isS j v) (l : Like v u) : isS j u := by
 obtain ⟨x, rfl⟩ := h; rcases l with rfl | ⟨_, _, _, e, _⟩ | ⟨_, z, e, rfl⟩
 ·exact ⟨x, rfl⟩
 ·cases e
 ·exact ⟨z, rfl⟩
def m9 : Nat → Int → Int
 | 0, a => a
 | n + 1, a => m9 n (wrap64 (a + 1))
theorem ox (A : Option Addr) (n c : Nat) (a : Int) (w0 w : World) (hB : Below w0.heap.size w0 w) (hP : ∀ g, P g → w0.heap.size ≤ g) (hS : Flat P w A n isI) (hn : n ≤ 9223372036854775807) :
  Calls Tryz.prog 81 #[.slice A n c, .int .i64 a] w fun e w' => e = .returned (.int .i64 (m9 n a)) ∧ Below w0.heap.size w0 w' ∧ Kp P w w' := by
 have HS := am_ hS; have HB := am_ hB; have HP := am_ hP; have HX := am_ (Kp.refl (P := P) w); clear hS hB hP; go_enter Tryz.func81, Tryz.ntmps81
 go_wp2; go_loopw [1, 5] (fun v1 v5 wr => ∃ (i : Nat) (x : Int), v1 = .int .i64 x ∧ v5 = .int .i64 (i : Int) ∧ i ≤ n ∧ aa (m9 n a = m9 (n - i) x) ∧ aa (Below w0.heap.size w0 wr) ∧ aa (Kp P w wr)) (fun _ v _ => match v with | .int _ i => n - i.toNat | _ => 0)
 case atStart => exact ⟨0, a, rfl, rfl, Nat.zero_le _, ⟨rfl⟩, HB, HX⟩
 case round =>
  clear HB HX; obtain ⟨i, x, rfl, rfl, hi, HE, HB, HX⟩ := hrel; rcases Nat.lt_or_ge i n with hlt | hge
  ·obtain ⟨g, off, cs, t, rfl, hp, hb, hc⟩ := HS.out.kp HX.out (fun _ _ _ => isI.like) u7_; obtain ⟨v, hv, y, rfl⟩ := hc i hlt; have hcell : wr.cell? ⟨g, off + i, none⟩ = some (.int .i64 y) := (bp hb _).trans hv; have hfz := cJ hb (off + i); have p1 : ((i : Int) < (n : Int)) = True := eq_true u7_; have p0 : (0 ≤ (i : Int)) = True := eq_true u7_; have HC := am_ hb; have HV := am_ hv; have HPg := am_ hp; clear hb hv hc hp; go_wp2; refine ⟨⟨i + 1, _, rfl, cM, hlt, ⟨by rw [HE.out, show n - i = (n - (i + 1)) + 1 by omega]; rfl⟩, ⟨bf HB.out (HP.out g HPg.out)⟩, ⟨HX.out.trans (Kp.set HC.out HV.out (.inr (.inl ⟨_, _, _, rfl, rfl⟩)) HPg.out)⟩⟩, by simp; omega⟩
  ·obtain rfl : i = n := by omega
   have p1 : ((i : Int) < (i : Int)) = False := eq_false u7_; go_wp2; go_ret
   exact ⟨by rw [HE.out, Nat.sub_self]; rfl, HB.out, HX.out⟩
theorem Flat.get {w W : World} {A : Option Addr} {m : Nat} {Q Q' : Nat → Value → Prop} (h : Flat P w A m Q) (k : Kp P w W) (hQ : ∀ j v u, Q j v → Like v u → Q' j u) (j : Nat) (hj : j < m) : ∃ g off v, A = some ⟨g, off, none⟩ ∧ P g ∧ W.cell? ⟨g, off + j, none⟩ = some v ∧ W.frozen? ⟨g, off + j, none⟩ = false ∧ Q' j v ∧ ∀ u, Like v u → Kp P W (W.setCell ⟨g, off + j, none⟩ u) := by
 obtain ⟨g, off, cs, t, e, hp, hb, hc⟩ := h.kp k hQ u7_; obtain ⟨v, hv, q⟩ := hc j hj; exact ⟨g, off, v, e, hp, (bp hb _).trans hv, cJ hb _, q, fun u l => Kp.set hb hv l hp⟩
def mkC (k : Nat) : Nat → Int → Option Int
 | 0, a => some a
 | n + 1, a => (ax.f k a).bind fun _ => (ax.f k (wrap64 (a + 1))).bind fun _ => mkC k n (wrap64 (wrap64 (a + 1) + 1))
theorem nR (k : Nat) (A : Option Addr) (n c : Nat) (a r : Int) (w0 w : World) (hB : Below w0.heap.size w0 w) (hP : ∀ g, P g → w0.heap.size ≤ g) (hS : Flat P w A (n * 2) isS) (hn : n ≤ 9223372036854775807) (hf : mkC k n a = some r) :
  Calls Tryz.prog 78 #[.slice A n c, .int .i64 a] w fun e w' => e = .returned (.int .i64 r) ∧ Below w0.heap.size w0 w' ∧ Kp P w w' := by
 have hu86 := Tryz.underlying86; have HS := am_ hS; have HB := am_ hB; have HP := am_ hP; have HX := am_ (Kp.refl (P := P) w); have H := am_ hf; clear hS hB hP hf; go_enter Tryz.func78, Tryz.ntmps78
 go_wp2; go_loopw [1, 5] (fun v1 v5 wr => ∃ (i : Nat) (x : Int), v1 = .int .i64 x ∧ v5 = .int .i64 (i : Int) ∧ i ≤ n ∧ aa (mkC k (n - i) x = some r) ∧ aa (Below w0.heap.size w0 wr) ∧ aa (Kp P w wr)) (fun _ v _ => match v with | .int _ i => n - i.toNat | _ => 0)
 case atStart => exact ⟨0, a, rfl, rfl, Nat.zero_le _, H, HB, HX⟩
 case round =>
  clear H HB HX; obtain ⟨i, x, rfl, rfl, hi, H, HB, HX⟩ := hrel; rcases Nat.lt_or_ge i n with hlt | hge
  ·have h := H.out; rw [show n - i = (n - (i + 1)) + 1 by omega, mkC] at h; obtain ⟨s1, A1, h⟩ := bi_ h; obtain ⟨s2, A2, h⟩ := bi_ h; have H := am_ h; obtain ⟨g, off, _, rfl, hp, _⟩ := HS.out.get HX.out (fun _ _ _ => isS.like) (i * 2) u7_; have p1 : ((i : Int) < (n : Int)) = True := eq_true u7_; have p0 : (0 ≤ (i : Int)) = True := eq_true u7_; have HPg := am_ hp; clear h hp; go_wp2_with (first | (go_at_call 83; (with_reducible refine (ax.calls k _ _ _ A1.out).mono ?_); rintro e w1 ⟨rfl, hb⟩; replace HX := am_ (HX.out.trans (Kp.below hb)); replace HB := am_ (bK HB.out hb); obtain ⟨_, _, v, e, _, hc1, hz1, ⟨y, rfl⟩, K1⟩ := HS.out.get HX.out (fun _ _ _ => isS.like) (i * 2) u7_; cases e; replace HB := am_ (bf (j := off + i * 2) (v := .string s1) HB.out (HP.out g HPg.out)); replace HX := am_ (HX.out.trans (K1 (.string s1) (.inr (.inr ⟨_, _, rfl, rfl⟩)))); clear hb K1) | (go_at_call 83; (with_reducible refine (ax.calls k _ _ _ A2.out).mono ?_); rintro e w2 ⟨rfl, hb⟩; replace HX := am_ (HX.out.trans (Kp.below hb)); replace HB := am_ (bK HB.out hb); obtain ⟨_, _, v, e, _, hc2, hz2, ⟨z, rfl⟩, K1⟩ := HS.out.get HX.out (fun _ _ _ => isS.like) (i * 2 + 1) u7_; cases e; replace HB := am_ (bf (j := off + (i * 2 + 1)) (v := .string s2) HB.out (HP.out g HPg.out)); replace HX := am_ (HX.out.trans (K1 (.string s2) (.inr (.inr ⟨_, _, rfl, rfl⟩)))); rw [← Nat.add_assoc] at hc2 hz2; clear hb K1))
   exact ⟨⟨i + 1, _, rfl, cM, hlt, H, HB, HX⟩, by simp; omega⟩
  ·obtain rfl : i = n := by omega
   have h := H.out; rw [Nat.sub_self, mkC] at h; obtain rfl := si_ h; have p1 : ((i : Int) < (i : Int)) = False := eq_false u7_; clear h H; go_wp2; go_ret
   exact ⟨rfl, HB.out, HX.out⟩
theorem Like.int {k : IntKind} {x y : Int} : Like (.int k x) (.int k y) := .inr (.inl ⟨_, _, _, rfl, rfl⟩)
theorem Like.str {s z : ByteArray} : Like (.string s) (.string z) := .inr (.inr ⟨_, _, rfl, rfl⟩)
def isF (j : Nat) (v : Value) : Prop := if j % 3 = 0 then isS j v else isI j v
theorem isF.like {j : Nat} {v u : Value} (h : isF j v) (l : Like v u) : isF j u := by
 unfold isF at h ⊢
 split at h
 ·exact u95_
 ·rw [if_neg oB]; exact h.like l
def mkF (k : Nat) : Nat → Int → Option Int
 | 0, a => some a
 | n + 1, a => (ax.f k a).bind fun _ => mkF k n (wrap64 (wrap64 (wrap64 (a + 1) + 1) + 1))
theorem mT (k : Nat) (A : Option Addr) (n c : Nat) (a r : Int) (w0 w : World) (hB : Below w0.heap.size w0 w) (hP : ∀ g, P g → w0.heap.size ≤ g) (hS : Flat P w A (n * 3) isF) (hn : n ≤ 9223372036854775807) (hf : mkF k n a = some r) :
  Calls Tryz.prog 75 #[.slice A n c, .int .i64 a] w fun e w' => e = .returned (.int .i64 r) ∧ Below w0.heap.size w0 w' ∧ Kp P w w' := by
 have hu92 := Tryz.underlying92; have HS := am_ hS; have HB := am_ hB; have HP := am_ hP; have HX := am_ (Kp.refl (P := P) w); have H := am_ hf; clear hS hB hP hf; go_enter Tryz.func75, Tryz.ntmps75
 go_wp2; go_loopw [1, 5] (fun v1 v5 wr => ∃ (i : Nat) (x : Int), v1 = .int .i64 x ∧ v5 = .int .i64 (i : Int) ∧ i ≤ n ∧ aa (mkF k (n - i) x = some r) ∧ aa (Below w0.heap.size w0 wr) ∧ aa (Kp P w wr)) (fun _ v _ => match v with | .int _ i => n - i.toNat | _ => 0)
 case atStart => exact ⟨0, a, rfl, rfl, Nat.zero_le _, H, HB, HX⟩
 case round =>
  clear H HB HX; obtain ⟨i, x, rfl, rfl, hi, H, HB, HX⟩ := hrel; rcases Nat.lt_or_ge i n with hlt | hge
  ·have h := H.out; rw [show n - i = (n - (i + 1)) + 1 by omega, mkF] at h; obtain ⟨s1, A1, h⟩ := bi_ h; have H := am_ h; obtain ⟨g, off, _, rfl, hp, _⟩ := HS.out.get HX.out (fun _ _ _ => isF.like) (i * 3) u7_; have p1 : ((i : Int) < (n : Int)) = True := eq_true u7_; have p0 : (0 ≤ (i : Int)) = True := eq_true u7_; have HPg := am_ hp; clear h hp; go_wp2_with (first | (go_at_call 83; (with_reducible refine (ax.calls k _ _ _ A1.out).mono ?_); rintro e w1 ⟨rfl, hb⟩; replace HX := am_ (HX.out.trans (Kp.below hb)); replace HB := am_ (bK HB.out hb); obtain ⟨_, _, v, e, _, hc1, hz1, q, K1⟩ := HS.out.get HX.out (fun _ _ _ => isF.like) (i * 3) u7_; cases e; rw [isF, if_pos u7_] at q; obtain ⟨y, rfl⟩ := q; obtain ⟨_, _, v, e, _, hc2, hz2, q, _⟩ := HS.out.get HX.out (fun _ _ _ => isF.like) (i * 3 + 1) u7_; cases e; rw [isF, if_neg u7_] at q; obtain ⟨y2, rfl⟩ := q; obtain ⟨_, _, v, e, _, hc3, hz3, q, _⟩ := HS.out.get HX.out (fun _ _ _ => isF.like) (i * 3 + 2) u7_; cases e; rw [isF, if_neg u7_] at q; obtain ⟨y3, rfl⟩ := q; rw [← Nat.add_assoc] at hc2 hz2 hc3 hz3; replace HX := am_ (HX.out.trans (K1 (.string s1) Like.str)); clear K1; obtain ⟨_, _, v, e, _, _, _, q, K1⟩ := HS.out.get HX.out (fun _ _ _ => isF.like) (i * 3 + 1) u7_; cases e; rw [isF, if_neg u7_] at q; obtain ⟨z, rfl⟩ := q; replace HX := am_ (HX.out.trans (K1 (.int .i64 (wrap64 (x + 1))) Like.int)); clear K1; obtain ⟨_, _, v, e, _, _, _, q, K1⟩ := HS.out.get HX.out (fun _ _ _ => isF.like) (i * 3 + 2) u7_; cases e; rw [isF, if_neg u7_] at q; obtain ⟨z2, rfl⟩ := q; replace HX := am_ (HX.out.trans (K1 (.int .i64 (wrap64 (wrap64 (x + 1) + 1))) Like.int)); replace HB := am_ (bf (j := off + (i * 3 + 2)) (v := .int .i64 (wrap64 (wrap64 (x + 1) + 1))) (bf (j := off + (i * 3 + 1)) (v := .int .i64 (wrap64 (x + 1))) (bf (j := off + i * 3) (v := .string s1) HB.out (HP.out g HPg.out)) (HP.out g HPg.out)) (HP.out g HPg.out)); clear hb K1))
   exact ⟨⟨i + 1, _, rfl, cM, hlt, H, HB, HX⟩, by simp; omega⟩
  ·obtain rfl : i = n := by omega
   have h := H.out; rw [Nat.sub_self, mkF] at h; obtain rfl := si_ h; have p1 : ((i : Int) < (i : Int)) = False := eq_false u7_; clear h H; go_wp2; go_ret
   exact ⟨rfl, HB.out, HX.out⟩
def isP (P : Nat → Prop) (W : World) (ns : List Nat) (j : Nat) (v : Value) : Prop := if j % 2 = 0 then isI j v else ∃ A c, v = .slice A (ns.getD (j / 2) 0) c ∧ ns.getD (j / 2) 0 ≤ 9223372036854775807 ∧ Flat P W A (ns.getD (j / 2) 0) isI
theorem Like.slice {A : Option Addr} {n c : Nat} {u : Value} (l : Like (.slice A n c) u) : u = .slice A n c := by
 rcases l with rfl | ⟨_, _, _, e, _⟩ | ⟨_, _, e, _⟩
 ·rfl
 ·cases e
 ·cases e
theorem isP.kp {w W : World} {ns : List Nat} {j : Nat} {v u : Value} (h : isP P w ns j v) (K : Kp P w W) (l : Like v u) : isP P W ns j u := by
 unfold isP at h ⊢
 split at h
 ·exact u95_
 ·rw [if_neg oB]; obtain ⟨A, c, rfl, hm, hF⟩ := h; exact ⟨A, c, l.slice, hm, hF.kp K fun _ _ _ => isI.like⟩
def mkP : List Nat → Int → Int
 | [], a => a
 | n :: ns, a => mkP ns (m9 n (wrap64 (a + 1)))
theorem nx (A : Option Addr) (ns : List Nat) (c : Nat) (a : Int) (w0 w : World) (hB : Below w0.heap.size w0 w) (hP : ∀ g, P g → w0.heap.size ≤ g) (hS : Flat P w A (ns.length * 2) (isP P w ns)) (hn : ns.length ≤ 9223372036854775807) :
  Calls Tryz.prog 34 #[.slice A ns.length c, .int .i64 a] w fun e w' => e = .returned (.int .i64 (mkP ns a)) ∧ Below w0.heap.size w0 w' ∧ Kp P w w' := by
 have hu50 := Tryz.underlying50; have HS := am_ hS; have HB := am_ hB; have HP := am_ hP; have HX := am_ (Kp.refl (P := P) w); clear hS hB hP; go_enter Tryz.func34, Tryz.ntmps34
 go_wp2; go_loopw [1, 5] (fun v1 v5 wr => ∃ (i : Nat) (x : Int), v1 = .int .i64 x ∧ v5 = .int .i64 (i : Int) ∧ i ≤ ns.length ∧ aa (mkP ns a = mkP (ns.drop i) x) ∧ aa (Below w0.heap.size w0 wr) ∧ aa (Kp P w wr)) (fun _ v _ => match v with | .int _ i => ns.length - i.toNat | _ => 0)
 case atStart => exact ⟨0, a, rfl, rfl, Nat.zero_le _, ⟨rfl⟩, HB, HX⟩
 case round =>
  clear HB HX; obtain ⟨i, x, rfl, rfl, hi, H, HB, HX⟩ := hrel; rcases Nat.lt_or_ge i ns.length with hlt | hge
  ·have h := H.out; rw [List.drop_eq_getElem_cons hlt, mkP] at h; have H := am_ h; obtain ⟨g, off, v, rfl, hp, hc1, hz1, q, K1⟩ := HS.out.get HX.out (fun _ _ _ q l => q.kp HX.out l) (i * 2) u7_; rw [isP, if_pos u7_] at q; obtain ⟨y, rfl⟩ := q; obtain ⟨_, _, v, e, _, hc2, hz2, q, _⟩ := HS.out.get HX.out (fun _ _ _ q l => q.kp HX.out l) (i * 2 + 1) u7_; cases e; rw [isP, if_neg u7_, show (i * 2 + 1) / 2 = i by omega, List.getD_eq_getElem?_getD, List.getElem?_eq_getElem hlt, Option.getD_some] at q; obtain ⟨A2, c2, rfl, hm, hF⟩ := q; rw [← Nat.add_assoc] at hc2 hz2; have p1 : ((i : Int) < (ns.length : Int)) = True := eq_true u7_; have p0 : (0 ≤ (i : Int)) = True := eq_true u7_; have K := am_ (K1 (.int .i64 x) Like.int); have HF := am_ (hF.kp K.out fun _ _ _ => isI.like); replace HX := am_ (HX.out.trans K.out); replace HB := am_ (bf (j := off + i * 2) (v := .int .i64 x) HB.out (HP.out g hp)); clear h hp hF K1 K; go_wp2_with (first | (go_at_call 81; (with_reducible refine (ox (P := P) A2 _ c2 _ w0 _ HB.out HP.out HF.out hm).mono ?_); rintro e w1 ⟨rfl, hb, hk⟩; replace HX := am_ (HX.out.trans hk); replace HB := am_ hb; clear hb hk))
   exact ⟨⟨i + 1, _, rfl, cM, hlt, H, HB, HX⟩, by simp; omega⟩
  ·obtain rfl : i = ns.length := by omega
   have h := H.out; rw [List.drop_length, mkP] at h; have H := am_ h; have p1 : ((ns.length : Int) < (ns.length : Int)) = False := eq_false u7_; clear h; go_wp2; go_ret
   exact ⟨by rw [H.out]; rfl, HB.out, HX.out⟩
def isR (P : Nat → Prop) (W : World) (ns : List Nat) (j : Nat) (v : Value) : Prop := if j % 3 = 0 then isI j v else if j % 3 = 1 then isS j v else ∃ A c, v = .slice A (ns.getD (j / 3) 0) c ∧ ns.getD (j / 3) 0 ≤ 9223372036854775807 ∧ Flat P W A (ns.getD (j / 3) 0 * 2) isS
theorem isR.kp {w W : World} {ns : List Nat} {j : Nat} {v u : Value} (h : isR P w ns j v) (K : Kp P w W) (l : Like v u) : isR P W ns j u := by
 unfold isR at h ⊢
 split at h
 ·exact u95_
 ·rw [if_neg oB]; split at h
  ·exact u95_
  ·rw [if_neg oB]; obtain ⟨A, c, rfl, hm, hF⟩ := h; exact ⟨A, c, l.slice, hm, hF.kp K fun _ _ _ => isS.like⟩
def mkR (k : Nat) : List Nat → Int → Option Int
 | [], a => some a
 | n :: ns, a => (ax.f k (wrap64 (a + 1))).bind fun _ => (mkC k n (wrap64 (wrap64 (a + 1) + 1))).bind fun b => mkR k ns b
theorem oa (k : Nat) (A : Option Addr) (ns : List Nat) (c : Nat) (a r : Int) (w0 w : World) (hB : Below w0.heap.size w0 w) (hP : ∀ g, P g → w0.heap.size ≤ g) (hS : Flat P w A (ns.length * 3) (isR P w ns)) (hn : ns.length ≤ 9223372036854775807) (hf : mkR k ns a = some r) :
  Calls Tryz.prog 76 #[.slice A ns.length c, .int .i64 a] w fun e w' => e = .returned (.int .i64 r) ∧ Below w0.heap.size w0 w' ∧ Kp P w w' := by
 have hu46 := Tryz.underlying46; have hu44 := Tryz.underlying44; have HS := am_ hS; have HB := am_ hB; have HP := am_ hP; have HX := am_ (Kp.refl (P := P) w); have H := am_ hf; clear hS hB hP hf; go_enter Tryz.func76, Tryz.ntmps76
 go_wp2; go_loopw [1, 5] (fun v1 v5 wr => ∃ (i : Nat) (x : Int), v1 = .int .i64 x ∧ v5 = .int .i64 (i : Int) ∧ i ≤ ns.length ∧ aa (mkR k (ns.drop i) x = some r) ∧ aa (Below w0.heap.size w0 wr) ∧ aa (Kp P w wr)) (fun _ v _ => match v with | .int _ i => ns.length - i.toNat | _ => 0)
 case atStart => exact ⟨0, a, rfl, rfl, Nat.zero_le _, H, HB, HX⟩
 case round =>
  clear H HB HX; obtain ⟨i, x, rfl, rfl, hi, H, HB, HX⟩ := hrel; rcases Nat.lt_or_ge i ns.length with hlt | hge
  ·have h := H.out; rw [List.drop_eq_getElem_cons hlt, mkR] at h; obtain ⟨s1, A1, h⟩ := bi_ h; obtain ⟨b, A2, h⟩ := bi_ h; have H := am_ h; obtain ⟨g, off, v, rfl, hp, hc1, hz1, q, K1⟩ := HS.out.get HX.out (fun _ _ _ q l => q.kp HX.out l) (i * 3) u7_; rw [isR, if_pos u7_] at q; obtain ⟨y, rfl⟩ := q; have p1 : ((i : Int) < (ns.length : Int)) = True := eq_true u7_; have p0 : (0 ≤ (i : Int)) = True := eq_true u7_; have HPg := am_ hp; replace HX := am_ (HX.out.trans (K1 (.int .i64 x) Like.int)); replace HB := am_ (bf (j := off + i * 3) (v := .int .i64 x) HB.out (HP.out g hp)); clear h hp K1; go_wp2_with (first | (go_at_call 83; (with_reducible refine (ax.calls k _ _ _ A1.out).mono ?_); rintro e w1 ⟨rfl, hb⟩; replace HX := am_ (HX.out.trans (Kp.below hb)); replace HB := am_ (bK HB.out hb); obtain ⟨_, _, v, e, _, hc2, hz2, q, K1⟩ := HS.out.get HX.out (fun _ _ _ q l => q.kp HX.out l) (i * 3 + 1) u7_; cases e; rw [isR, if_neg u7_, if_pos u7_] at q; obtain ⟨y2, rfl⟩ := q; obtain ⟨_, _, v, e, _, hc3, hz3, q, _⟩ := HS.out.get HX.out (fun _ _ _ q l => q.kp HX.out l) (i * 3 + 2) u7_; cases e; rw [isR, if_neg u7_, if_neg u7_, show (i * 3 + 2) / 3 = i by omega, List.getD_eq_getElem?_getD, List.getElem?_eq_getElem hlt, Option.getD_some] at q; obtain ⟨D, c2, rfl, hm, hF⟩ := q; rw [← Nat.add_assoc] at hc2 hz2 hc3 hz3; have K : aa (Kp P w1 (w1.setCell ⟨g, off + i * 3 + 1, none⟩ (.string s1))) := ⟨K1 (.string s1) Like.str⟩; have HF := am_ (hF.kp K.out fun _ _ _ => isS.like); replace HX := am_ (HX.out.trans K.out); replace HB := am_ (bf (j := off + i * 3 + 1) (v := .string s1) HB.out (HP.out g HPg.out)); clear hb hF K1 K) | (go_at_call 78; (with_reducible refine (nR (P := P) k _ _ _ _ _ w0 _ HB.out HP.out HF.out hm A2.out).mono ?_); rintro e w2 ⟨rfl, hb, hk⟩; replace HX := am_ (HX.out.trans hk); replace HB := am_ hb; clear hb hk))
   exact ⟨⟨i + 1, _, rfl, cM, hlt, H, HB, HX⟩, by simp; omega⟩
  ·obtain rfl : i = ns.length := by omega
   have h := H.out; rw [List.drop_length, mkR] at h; obtain rfl := si_ h; have p1 : ((ns.length : Int) < (ns.length : Int)) = False := eq_false u7_; clear h H; go_wp2; go_ret
   exact ⟨rfl, HB.out, HX.out⟩
def isE (P : Nat → Prop) (W : World) (ns : List (List Nat)) (j : Nat) (v : Value) : Prop := if j % 3 = 0 then isS j v else if j % 3 = 1 then isS j v else ∃ A c, v = .slice A (ns.getD (j / 3) []).length c ∧ (ns.getD (j / 3) []).length ≤ 9223372036854775807 ∧ Flat P W A ((ns.getD (j / 3) []).length * 2) (isP P W (ns.getD (j / 3) []))
theorem isE.kp {w W : World} {ns : List (List Nat)} {j : Nat} {v u : Value} (h : isE P w ns j v) (K : Kp P w W) (l : Like v u) : isE P W ns j u := by
 unfold isE at h ⊢
 split at h
 ·exact u95_
 ·rw [if_neg oB]; split at h
  ·exact u95_
  ·rw [if_neg oB]; obtain ⟨A, c, rfl, hm, hF⟩ := h; exact ⟨A, c, l.slice, hm, hF.kp K fun _ _ _ q l => q.kp K l⟩
def mkE (k : Nat) : List (List Nat) → Int → Option Int
 | [], a => some a
 | n :: ns, a => (ax.f k a).bind fun _ => (ax.f k (wrap64 (a + 1))).bind fun _ => mkE k ns (mkP n (wrap64 (wrap64 (a + 1) + 1)))
theorem mj (k : Nat) (A : Option Addr) (ns : List (List Nat)) (c : Nat) (a r : Int) (w0 w : World) (hB : Below w0.heap.size w0 w) (hP : ∀ g, P g → w0.heap.size ≤ g) (hS : Flat P w A (ns.length * 3) (isE P w ns)) (hn : ns.length ≤ 9223372036854775807) (hf : mkE k ns a = some r) :
  Calls Tryz.prog 77 #[.slice A ns.length c, .int .i64 a] w fun e w' => e = .returned (.int .i64 r) ∧ Below w0.heap.size w0 w' ∧ Kp P w w' := by
 have hu76 := Tryz.underlying76; have HS := am_ hS; have HB := am_ hB; have HP := am_ hP; have HX := am_ (Kp.refl (P := P) w); have H := am_ hf; clear hS hB hP hf; go_enter Tryz.func77, Tryz.ntmps77
 go_wp2; go_loopw [1, 5] (fun v1 v5 wr => ∃ (i : Nat) (x : Int), v1 = .int .i64 x ∧ v5 = .int .i64 (i : Int) ∧ i ≤ ns.length ∧ aa (mkE k (ns.drop i) x = some r) ∧ aa (Below w0.heap.size w0 wr) ∧ aa (Kp P w wr)) (fun _ v _ => match v with | .int _ i => ns.length - i.toNat | _ => 0)
 case atStart => exact ⟨0, a, rfl, rfl, Nat.zero_le _, H, HB, HX⟩
 case round =>
  clear H HB HX; obtain ⟨i, x, rfl, rfl, hi, H, HB, HX⟩ := hrel; rcases Nat.lt_or_ge i ns.length with hlt | hge
  ·have h := H.out; rw [List.drop_eq_getElem_cons hlt, mkE] at h; obtain ⟨s1, A1, h⟩ := bi_ h; obtain ⟨s2, A2, h⟩ := bi_ h; have H := am_ h; obtain ⟨g, off, v, rfl, hp, _⟩ := HS.out.get HX.out (fun _ _ _ q l => q.kp HX.out l) (i * 3) u7_; have p1 : ((i : Int) < (ns.length : Int)) = True := eq_true u7_; have p0 : (0 ≤ (i : Int)) = True := eq_true u7_; have HPg := am_ hp; clear h hp; go_wp2_with (first | (go_at_call 83; (with_reducible refine (ax.calls k _ _ _ A1.out).mono ?_); rintro e w1 ⟨rfl, hb⟩; replace HX := am_ (HX.out.trans (Kp.below hb)); replace HB := am_ (bK HB.out hb); obtain ⟨_, _, v, e, _, hc1, hz1, q, K1⟩ := HS.out.get HX.out (fun _ _ _ q l => q.kp HX.out l) (i * 3) u7_; cases e; rw [isE, if_pos u7_] at q; obtain ⟨y1, rfl⟩ := q; replace HX := am_ (HX.out.trans (K1 (.string s1) Like.str)); replace HB := am_ (bf (j := off + i * 3) (v := .string s1) HB.out (HP.out g HPg.out)); clear hb K1) | (go_at_call 83; (with_reducible refine (ax.calls k _ _ _ A2.out).mono ?_); rintro e w2 ⟨rfl, hb⟩; replace HX := am_ (HX.out.trans (Kp.below hb)); replace HB := am_ (bK HB.out hb); obtain ⟨_, _, v, e, _, hc2, hz2, q, K1⟩ := HS.out.get HX.out (fun _ _ _ q l => q.kp HX.out l) (i * 3 + 1) u7_; cases e; rw [isE, if_neg u7_, if_pos u7_] at q; obtain ⟨y2, rfl⟩ := q; obtain ⟨_, _, v, e, _, hc3, hz3, q, _⟩ := HS.out.get HX.out (fun _ _ _ q l => q.kp HX.out l) (i * 3 + 2) u7_; cases e; rw [isE, if_neg u7_, if_neg u7_, show (i * 3 + 2) / 3 = i by omega, List.getD_eq_getElem?_getD, List.getElem?_eq_getElem hlt, Option.getD_some] at q; obtain ⟨D, c2, rfl, hm, hF⟩ := q; rw [← Nat.add_assoc] at hc2 hz2 hc3 hz3; have K : aa (Kp P w2 (w2.setCell ⟨g, off + i * 3 + 1, none⟩ (.string s2))) := ⟨K1 (.string s2) Like.str⟩; have HF := am_ (hF.kp K.out fun _ _ _ q l => q.kp K.out l); replace HX := am_ (HX.out.trans K.out); replace HB := am_ (bf (j := off + i * 3 + 1) (v := .string s2) HB.out (HP.out g HPg.out)); clear hb hF K1 K) | (go_at_call 34; (with_reducible refine (nx (P := P) _ _ _ _ w0 _ HB.out HP.out HF.out hm).mono ?_); rintro e w2 ⟨rfl, hb, hk⟩; replace HX := am_ (HX.out.trans hk); replace HB := am_ hb; clear hb hk))
   exact ⟨⟨i + 1, _, rfl, cM, hlt, H, HB, HX⟩, by simp; omega⟩
  ·obtain rfl : i = ns.length := by omega
   have h := H.out; rw [List.drop_length, mkE] at h; obtain rfl := si_ h; have p1 : ((ns.length : Int) < (ns.length : Int)) = False := eq_false u7_; clear h H; go_wp2; go_ret
   exact ⟨rfl, HB.out, HX.out⟩
theorem Kp.sl {w W : World} {g t n c : Nat} {cs : Array Value} {A : Option Addr} (k : Kp P w W) (hb : w.heap[g]? = some (Obj.cells cs t (0, 0))) (j : Nat) (hj : cs[j]? = some (.slice A n c)) : W.cell? ⟨g, j, none⟩ = some (.slice A n c) ∧ W.frozen? ⟨g, j, none⟩ = false := by
 obtain ⟨ds, hd, hl⟩ := k.like g cs t hb; obtain ⟨u, hu, l⟩ := hl j _ hj; rw [l.slice] at hu; exact ⟨(bp hd j).trans hu, cJ hd j⟩
def mkI (k n : Nat) (rs : List Nat) (es : List (List Nat)) (a : Int) : Option Int := (mkF k n a).bind fun b => (mkR k rs b).bind fun c => mkE k es c
theorem nD (k : Nat) (A B D : Option Addr) (n c cB cD : Nat) (rs : List Nat) (es : List (List Nat)) (x a r : Int) (w0 w : World) (hB : Below w0.heap.size w0 w) (hP : ∀ g, P g → w0.heap.size ≤ g)
  (hF : Flat P w A (n * 3) isF) (hR : Flat P w B (rs.length * 3) (isR P w rs)) (hE : Flat P w D (es.length * 3) (isE P w es)) (hn : n ≤ 9223372036854775807) (hnR : rs.length ≤ 9223372036854775807) (hnE : es.length ≤ 9223372036854775807) (hf : mkI k n rs es a = some r) :
  Calls Tryz.prog 30 #[.agg #[.slice A n c, .slice B rs.length cB, .slice D es.length cD, .int .i64 x], .int .i64 a] w fun e w' => e = .returned (.int .i64 r) ∧ Below w0.heap.size w0 w' ∧ Kp P w w' := by
 have hu27 := Tryz.underlying27; have HF := am_ hF; have HR := am_ hR; have HE := am_ hE; have HB := am_ hB; have HP := am_ hP; have HX := am_ (Kp.refl (P := P) w); unfold mkI at hf
 obtain ⟨b, A1, hf⟩ := bi_ hf; obtain ⟨d, A2, hf⟩ := bi_ hf; have A3 := am_ hf; clear hF hR hE hB hP hf; go_enter Tryz.func30, Tryz.ntmps30
 go_wp2_with (first | ((with_reducible refine gt_ 2 ?_); refine bx_ 2 #[.slice A n c, .slice B rs.length cB, .slice D es.length cD, .int .i64 x] 27 ?_; intro g hg w1 hbox hb; have BK := am_ hbox; replace HX := am_ (HX.out.trans (Kp.below hb)); have HY := am_ (Kp.refl (P := P) w1); replace HB := am_ (bK HB.out hb); obtain ⟨f0, z0⟩ := HY.out.sl BK.out 0 rfl; clear hb hg hbox) | (go_at_call 75; (with_reducible refine (mT (P := P) k _ _ _ _ _ w0 _ HB.out HP.out (HF.out.kp HX.out fun _ _ _ => isF.like) hn A1.out).mono ?_); rintro e w2 ⟨rfl, hb, hk⟩; replace HX := am_ (HX.out.trans hk); replace HY := am_ (HY.out.trans hk); replace HB := am_ hb; obtain ⟨f1, z1⟩ := HY.out.sl BK.out 1 rfl; clear hb hk) | (go_at_call 76; (with_reducible refine (oa (P := P) k _ _ _ _ _ w0 _ HB.out HP.out (HR.out.kp HX.out fun _ _ _ q l => q.kp HX.out l) hnR A2.out).mono ?_); rintro e w3 ⟨rfl, hb, hk⟩; replace HX := am_ (HX.out.trans hk); replace HY := am_ (HY.out.trans hk); replace HB := am_ hb; obtain ⟨f2, z2⟩ := HY.out.sl BK.out 2 rfl; clear hb hk) | (go_at_call 77; (with_reducible refine (mj (P := P) k _ _ _ _ _ w0 _ HB.out HP.out (HE.out.kp HX.out fun _ _ _ q l => q.kp HX.out l) hnE A3.out).mono ?_); rintro e w4 ⟨rfl, hb, hk⟩; replace HX := am_ (HX.out.trans hk); replace HB := am_ hb; clear hb hk))
 go_ret
 exact ⟨rfl, HB.out, HX.out⟩
end
theorem rowM {α : Type} {d : Kd α} {e base : Nat} {w : World} {ok : Nat → Prop} {v : Value} {xs : List α} (h : Kd.R d e w base ok v xs) : ∃ A c, v = .slice A xs.length c ∧ (0 < xs.length → ∃ (g : Nat) (cur : Array Value), A = some ⟨g, 0, none⟩ ∧ ok g ∧ w.heap[g]? = some (Obj.cells cur e (0, 0)) ∧ ∀ (j : Nat) (x : α), xs[j]? = some x → ∃ c : List Value, d.M w base ok x c ∧ c.length = d.sz ∧ ∀ (i : Nat) (u : Value), c[i]? = some u → cur[j * d.sz + i]? = some u) := by
 obtain ⟨h0, inner, ⟨hlen, ho⟩, hr⟩ := h; rcases ho with ⟨rfl, hn⟩ | ⟨g, cap, cur, rfl, hb, hh, hl, hm, hs, ht⟩
 ·exact ⟨none, 0, by rw [hn], fun h => by omega⟩
 ·refine ⟨_, cap, rfl, fun _ => ⟨g, cur, rfl, h0 g rfl, hh, fun j x hx => ⟨_, d.M_mono (fun k hk => hk.1) (hr.2 j x hx), d.K_len (d.K_of_M (hr.2 j x hx)), fun i u hu => ?_⟩⟩⟩; have hj : j < xs.length := (List.getElem?_eq_some_iff.1 hx).1; have hi : i < d.sz := by
   have := (List.getElem?_eq_some_iff.1 hu).1; rw [d.K_len (d.K_of_M (hr.2 j x hx))] at this; exact this
  have hlt : j * d.sz + i < xs.length * d.sz := by
   have : j * d.sz + d.sz ≤ xs.length * d.sz := by rw [← Nat.succ_mul]; exact Nat.mul_le_mul_right _ hj
   omega
  rw [List.getElem?_take, if_pos hi, List.getElem?_drop, ← ht, List.getElem?_take, if_pos hlt, Array.getElem?_toList] at hu; exact hu
theorem flatI {w : World} {base : Nat} {ok P : Nat → Prop} {v : Value} {xs : List Int} (h : Kd.R (Kd.int .i64) 3 w base ok v xs) (hP : ∀ k, ok k → P k) : ∃ A c, v = .slice A xs.length c ∧ Flat P w A xs.length isI := by
 obtain ⟨A, c, rfl, hf⟩ := rowM h; refine ⟨A, c, rfl, fun hn => ?_⟩; obtain ⟨g, cur, rfl, hg, hh, hc⟩ := hf hn; refine ⟨g, 0, cur, 3, rfl, hP g hg, hh, fun j hj => ?_⟩; obtain ⟨c, hM, _, hu⟩ := hc j _ (List.getElem?_eq_getElem hj); obtain rfl : c = [.int .i64 xs[j]] := hM; exact ⟨.int .i64 xs[j], by rw [Nat.zero_add]; have := hu 0 _ rfl; simpa [Kd.int, Kd.scalar] using this, _, rfl⟩
theorem flatS {w : World} {base : Nat} {ok P : Nat → Prop} {v : Value} {xs : List S86} (h : Kd.R k86 86 w base ok v xs) (hP : ∀ k, ok k → P k) : ∃ A c, v = .slice A xs.length c ∧ Flat P w A (xs.length * 2) isS := by
 obtain ⟨A, c, rfl, hf⟩ := rowM h; refine ⟨A, c, rfl, fun hn => ?_⟩; obtain ⟨g, cur, rfl, hg, hh, hc⟩ := hf u7_; refine ⟨g, 0, cur, 86, rfl, hP g hg, hh, fun j hj => ?_⟩; obtain ⟨c, hM, _, hu⟩ := hc (j / 2) _ (List.getElem?_eq_getElem u7_); obtain rfl := fa hM; rw [Nat.zero_add]; rcases Nat.mod_two_eq_zero_or_one j with e | e
 ·have := hu 0 _ rfl; rw [show j / 2 * k86.sz + 0 = j from by show j / 2 * 2 + 0 = j; omega] at this; exact ⟨_, this, _, rfl⟩
 ·have := hu 1 _ rfl; rw [show j / 2 * k86.sz + 1 = j from by show j / 2 * 2 + 1 = j; omega] at this; exact ⟨_, this, _, rfl⟩
theorem flatF {w : World} {base : Nat} {ok P : Nat → Prop} {v : Value} {xs : List S92} (h : Kd.R k92 92 w base ok v xs) (hP : ∀ k, ok k → P k) : ∃ A c, v = .slice A xs.length c ∧ Flat P w A (xs.length * 3) isF := by
 obtain ⟨A, c, rfl, hf⟩ := rowM h; refine ⟨A, c, rfl, fun hn => ?_⟩; obtain ⟨g, cur, rfl, hg, hh, hc⟩ := hf u7_; refine ⟨g, 0, cur, 92, rfl, hP g hg, hh, fun j hj => ?_⟩; obtain ⟨c, hM, _, hu⟩ := hc (j / 3) _ (List.getElem?_eq_getElem u7_); obtain rfl := iW hM; rw [Nat.zero_add]; unfold isF
 rcases (by omega : j % 3 = 0 ∨ j % 3 = 1 ∨ j % 3 = 2) with e | e | e
 ·have := hu 0 _ rfl; rw [show j / 3 * k92.sz + 0 = j from by show j / 3 * 3 + 0 = j; omega] at this; exact ⟨_, this, u86_⟩
 ·have := hu 1 _ rfl; rw [show j / 3 * k92.sz + 1 = j from by show j / 3 * 3 + 1 = j; omega] at this; exact ⟨_, this, by rw [if_neg u7_]; exact ⟨_, rfl⟩⟩
 ·have := hu 2 _ rfl; rw [show j / 3 * k92.sz + 2 = j from by show j / 3 * 3 + 2 = j; omega] at this; exact ⟨_, this, by rw [if_neg u7_]; exact ⟨_, rfl⟩⟩
theorem nB {α : Type} (f : α → Nat) (xs : List α) (i : Nat) (h : i < xs.length) : (xs.map f).getD i 0 = f xs[i] := by simp [List.getD_eq_getElem?_getD, List.getElem?_eq_getElem h]
theorem rC {α : Type} (f : α → List Nat) (xs : List α) (i : Nat) (h : i < xs.length) : (xs.map f).getD i [] = f xs[i] := by simp [List.getD_eq_getElem?_getD, List.getElem?_eq_getElem h]
theorem flatP {w : World} {base : Nat} {ok P : Nat → Prop} {v : Value} {xs : List S50} (h : Kd.R k50 50 w base ok v xs) (hP : ∀ k, ok k → P k) : ∃ A c, v = .slice A (xs.map fun x => x.f1.length).length c ∧ Flat P w A ((xs.map fun x => x.f1.length).length * 2) (isP P w (xs.map fun x => x.f1.length)) := by
 rw [List.length_map]; obtain ⟨A, c, rfl, hf⟩ := rowM h; refine ⟨A, c, rfl, fun hn => ?_⟩; obtain ⟨g, cur, rfl, hg, hh, hc⟩ := hf u7_; refine ⟨g, 0, cur, 50, rfl, hP g hg, hh, fun j hj => ?_⟩; obtain ⟨c, hM, _, hu⟩ := hc (j / 2) _ (List.getElem?_eq_getElem u7_); obtain ⟨v1, rfl, hv⟩ := gW hM; rw [Nat.zero_add]; unfold isP
 rcases Nat.mod_two_eq_zero_or_one j with e | e
 ·have := hu 0 _ rfl; rw [show j / 2 * k50.sz + 0 = j from by show j / 2 * 2 + 0 = j; omega] at this; exact ⟨_, this, u86_⟩
 ·have := hu 1 _ rfl; rw [show j / 2 * k50.sz + 1 = j from by show j / 2 * 2 + 1 = j; omega] at this; refine ⟨_, this, ?_⟩; rw [if_neg u7_, nB _ _ _ u7_]; obtain ⟨A, c, rfl, hF⟩ := flatI hv hP; exact ⟨A, c, rfl, (Kd.R_reads' hv).2.2.2.1, hF⟩
theorem flatR {w : World} {base : Nat} {ok P : Nat → Prop} {v : Value} {xs : List S46} (h : Kd.R k46 46 w base ok v xs) (hP : ∀ k, ok k → P k) : ∃ A c, v = .slice A (xs.map fun x => x.f1.f1.length).length c ∧ Flat P w A ((xs.map fun x => x.f1.f1.length).length * 3) (isR P w (xs.map fun x => x.f1.f1.length)) := by
 rw [List.length_map]; obtain ⟨A, c, rfl, hf⟩ := rowM h; refine ⟨A, c, rfl, fun hn => ?_⟩; obtain ⟨g, cur, rfl, hg, hh, hc⟩ := hf u7_; refine ⟨g, 0, cur, 46, rfl, hP g hg, hh, fun j hj => ?_⟩; obtain ⟨c, hM, _, hu⟩ := hc (j / 3) _ (List.getElem?_eq_getElem u7_); obtain ⟨v1, rfl, hv⟩ := js hM; rw [Nat.zero_add]; unfold isR
 rcases (by omega : j % 3 = 0 ∨ j % 3 = 1 ∨ j % 3 = 2) with e | e | e
 ·have := hu 0 _ rfl; rw [show j / 3 * k46.sz + 0 = j from by show j / 3 * 3 + 0 = j; omega] at this; exact ⟨_, this, u86_⟩
 ·have := hu 1 _ rfl; rw [show j / 3 * k46.sz + 1 = j from by show j / 3 * 3 + 1 = j; omega] at this; exact ⟨_, this, by rw [if_neg u7_, if_pos e]; exact ⟨_, rfl⟩⟩
 ·have := hu 2 _ rfl; rw [show j / 3 * k46.sz + 2 = j from by show j / 3 * 3 + 2 = j; omega] at this; refine ⟨_, this, ?_⟩; rw [if_neg u7_, if_neg u7_, nB _ _ _ u7_]; obtain ⟨A, c, rfl, hF⟩ := flatS hv hP; exact ⟨A, c, rfl, (Kd.R_reads' hv).2.2.2.1, hF⟩
theorem flatE {w : World} {base : Nat} {ok P : Nat → Prop} {v : Value} {xs : List S76} (h : Kd.R k76 76 w base ok v xs) (hP : ∀ k, ok k → P k) : ∃ A c, v = .slice A (xs.map fun x => x.f2.map fun p => p.f1.length).length c ∧ Flat P w A ((xs.map fun x => x.f2.map fun p => p.f1.length).length * 3) (isE P w (xs.map fun x => x.f2.map fun p => p.f1.length)) := by
 rw [List.length_map]; obtain ⟨A, c, rfl, hf⟩ := rowM h; refine ⟨A, c, rfl, fun hn => ?_⟩; obtain ⟨g, cur, rfl, hg, hh, hc⟩ := hf u7_; refine ⟨g, 0, cur, 76, rfl, hP g hg, hh, fun j hj => ?_⟩; obtain ⟨c, hM, _, hu⟩ := hc (j / 3) _ (List.getElem?_eq_getElem u7_); obtain ⟨v1, rfl, hv⟩ := gV hM; rw [Nat.zero_add]; unfold isE
 rcases (by omega : j % 3 = 0 ∨ j % 3 = 1 ∨ j % 3 = 2) with e | e | e
 ·have := hu 0 _ rfl; rw [show j / 3 * k76.sz + 0 = j from by show j / 3 * 3 + 0 = j; omega] at this; exact ⟨_, this, u86_⟩
 ·have := hu 1 _ rfl; rw [show j / 3 * k76.sz + 1 = j from by show j / 3 * 3 + 1 = j; omega] at this; exact ⟨_, this, by rw [if_neg u7_, if_pos e]; exact ⟨_, rfl⟩⟩
 ·have := hu 2 _ rfl; rw [show j / 3 * k76.sz + 2 = j from by show j / 3 * 3 + 2 = j; omega] at this; refine ⟨_, this, ?_⟩; rw [if_neg u7_, if_neg u7_, rC _ _ _ u7_]; obtain ⟨A, c, rfl, hF⟩ := flatP hv hP; exact ⟨A, c, rfl, by rw [List.length_map]; exact (Kd.R_reads' hv).2.2.2.1, hF⟩
def dH.f (k : Nat) (l0_0 : List (S92)) (l0_1 : List (S46)) (l0_2 : List (S76)) (a0_3 a1 : Int) : Option Int := mkI k l0_0.length (l0_1.map fun x => x.f1.f1.length) (l0_2.map fun x => x.f2.map fun p => p.f1.length) a1
theorem dH.calls (k : Nat) (P : Nat → Prop) (v0 v1 v2 : Value) (l0 : List (S92)) (l1 : List (S46)) (l2 : List (S76)) (x a r : Int) (w0 w : World) (hB : Below w0.heap.size w0 w) (h0 : Kd.R k92 92 w w0.heap.size P v0 l0) (h1 : Kd.R k46 46 w w0.heap.size P v1 l1) (h2 : Kd.R k76 76 w w0.heap.size P v2 l2) (h : dH.f k l0 l1 l2 x a = some r) :
  Calls Tryz.prog 30 #[.agg #[v0, v1, v2, .int .i64 x], .int .i64 a] w fun e w' => e = .returned (.int .i64 r) ∧ Below w0.heap.size w0 w' ∧ Kept w w' P := by
 obtain ⟨A, c, rfl, hF⟩ := flatF (P := fun k => P k ∧ w0.heap.size ≤ k) (Kd.R_bound h0) fun _ h => ⟨h.1, h.2.1⟩
 obtain ⟨B, cB, rfl, hR⟩ := flatR (P := fun k => P k ∧ w0.heap.size ≤ k) (Kd.R_bound h1) fun _ h => ⟨h.1, h.2.1⟩
 obtain ⟨D, cD, rfl, hE⟩ := flatE (P := fun k => P k ∧ w0.heap.size ≤ k) (Kd.R_bound h2) fun _ h => ⟨h.1, h.2.1⟩
 refine (nD k A B D l0.length c cB cD _ _ x a r w0 w hB (fun _ h => h.2) hF hR hE (Kd.R_reads' h0).2.2.2.1 ?_ ?_ h).mono fun e w' h => ⟨h.1, h.2.1, h.2.2.kept.mono fun _ h => h.1⟩
 ·rw [List.length_map]; exact (Kd.R_reads' h1).2.2.2.1
 ·rw [List.length_map]; exact (Kd.R_reads' h2).2.2.2.1
def Px (w : World) (v u : Value) (k : Nat) : Prop := (∃ q ∈ [92, 46, 86, 76, 50, 3], ∃ c : Array Value, w.heap[k]? = some (Obj.cells c q (0, 0))) ∧ some k ≠ v.ownBlock ∧ some k ≠ u.ownBlock
theorem Px.R {α β γ : Type} {d : Kd α} {d1 : Kd β} {d2 : Kd γ} {e e1 e2 b b1 b2 : Nat} {w : World} {ok ok1 ok2 : Nat → Prop} {v v1 v2 : Value} {xs : List α} {ys : List β} {zs : List γ} (h : Kd.R d e w b ok v xs) (h1 : Kd.R d1 e1 w b1 ok1 v1 ys) (h2 : Kd.R d2 e2 w b2 ok2 v2 zs) (hs : (e :: d.E).all (fun q => decide (q ∈ [92, 46, 86, 76, 50, 3])) = true) (hb : (∀ q ∈ e :: d.E, q ≠ e1) ∨ ∀ k, ok k → some k ≠ v1.ownBlock) (hd : (∀ q ∈ e :: d.E, q ≠ e2) ∨ ∀ k, ok k → some k ≠ v2.ownBlock) : Kd.R d e w b (Px w v1 v2) v xs := by
 refine Kd.R_mono (Kd.R_bound h) fun k ⟨ho, _, _, q, hq, c, hc⟩ => ?_
 have ha := of_decide_eq_true (List.all_eq_true.1 hs q hq); refine ⟨⟨q, ha, c, hc⟩, fun e => ?_, fun e => ?_⟩
 ·rcases hb with hb | hb
  ·obtain ⟨c', hc'⟩ := Kd.R_typed h1 k e.symm; rw [hc] at hc'; have := Option.some.inj hc'; injection this with _ hh
   exact hb q hq hh
  ·exact hb k ho e
 ·rcases hd with hb | hb
  ·obtain ⟨c', hc'⟩ := Kd.R_typed h2 k e.symm; rw [hc] at hc'; have := Option.some.inj hc'; injection this with _ hh
   exact hb q hq hh
  ·exact hb k ho e
theorem Px.trivR {α : Type} {d : Kd α} {e b : Nat} {w : World} {ok : Nat → Prop} {v : Value} {xs : List α} (h : Kd.R d e w b ok v xs) : Kd.R d e w b (fun k => ok k ∧ True) v xs := Kd.R_mono h fun _ h => ⟨h, trivial⟩
theorem Px.trivS {α : Type} {d : Kd α} {e b : Nat} {w : World} {ok : Nat → Prop} {v : Value} {xs : List α} (h : Kd.S d e w b ok v xs) : Kd.S d e w b (fun k => ok k ∧ True) v xs := Kd.S_mono h fun _ h => ⟨h, trivial⟩
theorem Px.far {w w' : World} {v u : Value} {g t : Nat} {cs : Array Value} (hb : w.heap[g]? = some (Obj.cells cs t (0, 0))) (hk : Kept w w' (Px w v u)) (ht : t ∉ [92, 46, 86, 76, 50, 3]) : w'.heap[g]? = some (Obj.cells cs t (0, 0)) := by
 refine cP hb hk fun h => ?_
 obtain ⟨⟨q, hq, c, hc⟩, _⟩ := h; rw [hb] at hc; have := Option.some.inj hc; injection this with _ hh
 exact ht (hh ▸ hq)
end
def bA.l0 : Nat → List (S86) → Int → Int → Option (Int × (List (S86)))
 | 0, _, _, _ => none
 | k + 1, x0, x1, x5 => if x5 < (x0.length : Int) then ((ax.f k x1).bind fun t566 => (if 0 ≤ x5 then ((some (x0.set (x5 : Int).toNat (⟨t566, (ac x0 x5).f1⟩ : S86) : List (S86))).bind fun y567 => ((ax.f k (wrap64 (x1 + 1))).bind fun t568 => (bA.l0 k (y567.set (x5 : Int).toNat (⟨(ac y567 x5).f0, t568⟩ : S86)) (wrap64 ((wrap64 (x1 + 1)) + 1)) (wrap64 (x5 + 1))))) else (none))) else (some (x1, x0))
def bA.f (k : Nat) (l0 : List (S86)) (a1 : Int) : Option (Int × (List (S86))) := bA.l0 k l0 a1 0
theorem bA.calls (k : Nat) (P0_ : Nat → Prop) (u9000_ : Value) (l0 : List (S86)) (a1 : Int) (r1 : Int) (r2 : List (S86)) (w0 w : World) (hB : Below w0.heap.size w0 w) (ho0 : Kd.R k86 86 w w0.heap.size P0_ u9000_ l0) (h : bA.f k l0 a1 = some (r1, r2)) :
  Calls Tryz.prog 78 #[u9000_, .int .i64 a1] w fun e w' => e = .returned (.int .i64 r1) ∧ Kd.R k86 86 w' w0.heap.size (fun k_ => (P0_ k_ ∨ w.heap.size ≤ k_)) u9000_ r2 ∧ Below w0.heap.size w0 w' ∧ Kept w w' (fun k_ => P0_ k_) := by
 have HO0 := am_ (show Kd.R k86 86 w w0.heap.size (fun k_ => (P0_ k_ ∨ w.heap.size ≤ k_)) u9000_ l0 from Kd.R_mono ho0 (fun k_ hk => (.inl hk))); have HK := am_ (Kept.refl w (fun k_ => P0_ k_)); have HW0 := am_ hB.size; have HB := am_ hB; clear hB; have H := h; clear h; unfold bA.f at H
 have H' := am_ H; clear H; go_enter Tryz.func78, Tryz.ntmps78
 go_wp2; go_loopg [1, 5] k (fun kq v1 v5 w' => ∃ (x0_1 : List (S86)) (x1_1 : Int) (x5_1 : Int), v1 = .int .i64 x1_1 ∧ v5 = .int .i64 x5_1 ∧ aa (bA.l0 kq x0_1 x1_1 x5_1 = some (r1, r2)) ∧ aa (kq ≤ k) ∧ aa (Kd.R k86 86 w' w0.heap.size (fun k_ => (P0_ k_ ∨ w.heap.size ≤ k_)) u9000_ x0_1) ∧ aa (Kept w w' (fun k_ => P0_ k_)) ∧ aa (Below w0.heap.size w0 w'))
 case atStart => exact ⟨(l0), (a1), (0), u1_, u1_, H', ⟨Nat.le_refl _⟩, ⟨aR_ HO0.out⟩, ⟨u2_⟩, ⟨bw_ HB⟩⟩
 case round =>
  clear H'; obtain ⟨x0_1, x1_1, x5_1, rfl, rfl, HA, HK1, HO_0, HK, HB⟩ := hrel; cases gk with
  | zero => exact absurd HA.out (by simp [bA.l0])
  | succ k1 =>
   have H := HA.out; clear HA; simp only [bA.l0] at H; by_cases c3 : x5_1 < (x0_1.length : Int)
   ·rw [if_pos c3] at H; have c3b0 := decide_eq_true c3; clear c3; obtain ⟨t566, A4, H⟩ := bi_ H; obtain ⟨c5b0, H⟩ := gd_ H; generalize hy567 : ((x0_1.set (x5_1 : Int).toNat (⟨t566, (ac x0_1 x5_1).f1⟩ : S86)) : List (S86)) = y567 at H; replace H := (Option.bind_some _ _).symm.trans H; have Ny567 := am_ hy567.symm; clear hy567; obtain ⟨t568, A7, H⟩ := bi_ H; generalize hy569 : ((y567.set (x5_1 : Int).toNat (⟨(ac y567 x5_1).f0, t568⟩ : S86)) : List (S86)) = y569 at H; have Ny569 := am_ hy569.symm; clear hy569; have H' := am_ H; clear H; obtain ⟨Ao9, co9, eo9⟩ := Kd.R_slice HO_0.out; subst eo9; go_wp2_with (first | ((with_reducible refine gt_ 15 ?_); refine gB_ 15 Tryz.func83 (ax.calls k1 x1_1 t566 _ A4.out) ?_; intro w10 hb; replace HO_0 := am_ (Kd.R_below (aR_ HO_0.out) hb); replace HK := am_ (Kept.below (S := (fun k_ => P0_ k_)) u2_ hb); replace HB := bs_ HB hb; (try clear hb); have p6 : 0 ≤ (x5_1 : Int) := od_; have q6 : (x5_1 : Int) < ((x0_1.length : Int) : Int) := od_; obtain ⟨go6, co6, eo6, gb6, gl6, cl6, HG6⟩ := Kd.R_form HO_0.out u7_; (first | cases eo6 | (injection eo6 with ea_ en_ ec_; (first | subst ea_ | (injection ea_ with ea_; subst ea_)); subst ec_; clear en_)); have GB6 := am_ gb6; have GG6 := am_ HG6; clear gb6 gl6 HG6; have HMgo6 := am_ (show (P0_ go6 ∨ w.heap.size ≤ go6) from (HO_0.out.1 _ rfl)); obtain ⟨ce6, hcl6, hM6, hcc6, hfr6⟩ := Kd.R_elem HO_0.out z86 (x5_1 : Int) p6 q6; obtain rfl := fa hM6; have hx6_0 : w10.cell? ⟨go6, (x5_1 : Int).toNat * 2, none⟩ = some (.string ((ac x0_1 x5_1).f0)) := hcc6 0 _ rfl; have hx6_1 : w10.cell? ⟨go6, (x5_1 : Int).toNat * 2 + 1, none⟩ = some (.string ((ac x0_1 x5_1).f1)) := hcc6 1 _ rfl; have hf6_0 : w10.frozen? ⟨go6, (x5_1 : Int).toNat * 2, none⟩ = false := hfr6 0; have hf6_1 : w10.frozen? ⟨go6, (x5_1 : Int).toNat * 2 + 1, none⟩ = false := hfr6 1; clear hcl6 hcc6 hfr6 hM6; obtain ⟨p6, q6⟩ := tt_ p6 q6; have HX11 := am_ (show Kd.R k86 86 w10 w0.heap.size (fun k_ => (P0_ k_ ∨ w.heap.size ≤ k_)) (.slice (some ⟨go6, 0, none⟩) x0_1.length co9) x0_1 from (aR_ HO_0.out)); obtain ⟨ce11, hcl11, hM11, hcc11, hfr11⟩ := Kd.R_elem HX11.out z86 (x5_1 : Int) (od_) (by have h_ : (x5_1 : Int) < ((x0_1.length : Int) : Int) := od_; first | exact h_ | (have e_ := (Kd.R_reads' HO_0.out).1; omega) | simpa using h_); obtain rfl := fa hM11; have HP11 := Kd.R_seg HX11.out (x5_1 : Int) (od_) (by have h_ : (x5_1 : Int) < ((x0_1.length : Int) : Int) := od_; first | exact h_ | (have e_ := (Kd.R_reads' HO_0.out).1; omega) | simpa using h_) (seg := [.string t566]) (j := 0) hcl11 hcc11 (show 1 ≤ 2 from aC) (x' := (⟨t566, (ac x0_1 x5_1).f1⟩ : S86)) (j8 _ _ _ (⟨t566, (ac x0_1 x5_1).f1⟩ : S86) ) (fun _ hk => hk); have hx11_0 := hcc11 0 _ rfl; (try simp only [show (k86).sz = 2 from rfl, Nat.mul_one, Nat.add_zero] at hx11_0); have hf11_0 := hfr11 0; (try simp only [show (k86).sz = 2 from rfl, Nat.mul_one, Nat.add_zero] at hf11_0); clear hcl11 hcc11 hfr11 hM11) | ((with_reducible refine ee (t := 9) (p := 17) rfl ?_); refine dI (t := 9) (p := 17) (v := ?vo_w12) (w1 := (w10.setCell ⟨go6, (x5_1 : Int).toNat * 2, none⟩ (.string t566))) ?hg ?ho ?hn ?hr ?_; (case ho => rfl); (case hg => rfl); (case hn => rfl); (case hr => exact u6_); intro w12 hw; have hg : w10.grownBy w12 (some go6) := (by rw [hw]; exact HP11.2); have hp_ : Kd.R k86 86 w12 w0.heap.size (fun k_ => (P0_ k_ ∨ w.heap.size ≤ k_)) (.slice (some ⟨go6, 0, none⟩) x0_1.length co9) y567 := (by rw [hw, Ny567.out]; exact HP11.1); clear HP11; replace HB := am_ ((by rw [hw]; exact bf (HB.out) GB6.out : Below w0.heap.size w0 w12)); replace HK := am_ (Kept.of_grown (S := (fun k_ => P0_ k_)) hg u2_ (fun k_ e_ => (HO_0.out.1 k_ e_))); replace HO_0 := am_ (hp_); clear hg hw hp_) | ((with_reducible refine gt_ 23 ?_); refine gB_ 23 Tryz.func83 (ax.calls k1 (wrap64 (x1_1 + 1)) t568 _ A7.out) ?_; intro w13 hb; replace HO_0 := am_ (Kd.R_below (aR_ HO_0.out) hb); replace HK := am_ (Kept.below (S := (fun k_ => P0_ k_)) u2_ hb); replace HB := bs_ HB hb; (try clear hb); have p8 : 0 ≤ (x5_1 : Int) := od_; have q8 : (x5_1 : Int) < ((x0_1.length : Int) : Int) := od_; obtain ⟨ce8, hcl8, hM8, hcc8, hfr8⟩ := Kd.R_elem HO_0.out z86 (x5_1 : Int) p8 q8; obtain rfl := fa hM8; have hx8_0 : w13.cell? ⟨go6, (x5_1 : Int).toNat * 2, none⟩ = some (.string ((ac y567 x5_1).f0)) := hcc8 0 _ rfl; have hx8_1 : w13.cell? ⟨go6, (x5_1 : Int).toNat * 2 + 1, none⟩ = some (.string ((ac y567 x5_1).f1)) := hcc8 1 _ rfl; have hf8_0 : w13.frozen? ⟨go6, (x5_1 : Int).toNat * 2, none⟩ = false := hfr8 0; have hf8_1 : w13.frozen? ⟨go6, (x5_1 : Int).toNat * 2 + 1, none⟩ = false := hfr8 1; clear hcl8 hcc8 hfr8 hM8; obtain ⟨p8, q8⟩ := tt_ p8 q8; have HX14 := am_ (show Kd.R k86 86 w13 w0.heap.size (fun k_ => (P0_ k_ ∨ w.heap.size ≤ k_)) (.slice (some ⟨go6, 0, none⟩) x0_1.length co9) y567 from (aR_ HO_0.out)); obtain ⟨ce14, hcl14, hM14, hcc14, hfr14⟩ := Kd.R_elem HX14.out z86 (x5_1 : Int) (od_) (by have h_ : (x5_1 : Int) < ((x0_1.length : Int) : Int) := od_; first | exact h_ | (have e_ := (Kd.R_reads' HO_0.out).1; omega) | simpa using h_); obtain rfl := fa hM14; have HP14 := Kd.R_seg HX14.out (x5_1 : Int) (od_) (by have h_ : (x5_1 : Int) < ((x0_1.length : Int) : Int) := od_; first | exact h_ | (have e_ := (Kd.R_reads' HO_0.out).1; omega) | simpa using h_) (seg := [.string t568]) (j := 1) hcl14 hcc14 (show 2 ≤ 2 from aC) (x' := (⟨(ac y567 x5_1).f0, t568⟩ : S86)) (j8 _ _ _ (⟨(ac y567 x5_1).f0, t568⟩ : S86) ) (fun _ hk => hk); have hx14_1 := hcc14 1 _ rfl; (try simp only [show (k86).sz = 2 from rfl, Nat.mul_one, Nat.add_zero] at hx14_1); have hf14_1 := hfr14 1; (try simp only [show (k86).sz = 2 from rfl, Nat.mul_one, Nat.add_zero] at hf14_1); clear hcl14 hcc14 hfr14 hM14) | ((with_reducible refine ee (t := 9) (p := 25) rfl ?_); refine dI (t := 9) (p := 25) (v := ?vo_w15) (w1 := (w13.setCell ⟨go6, (x5_1 : Int).toNat * 2 + 1, none⟩ (.string t568))) ?hg ?ho ?hn ?hr ?_; (case ho => rfl); (case hg => rfl); (case hn => rfl); (case hr => exact u6_); intro w15 hw; have hg : w13.grownBy w15 (some go6) := (by rw [hw]; exact HP14.2); have hp_ : Kd.R k86 86 w15 w0.heap.size (fun k_ => (P0_ k_ ∨ w.heap.size ≤ k_)) (.slice (some ⟨go6, 0, none⟩) x0_1.length co9) y569 := (by rw [hw, Ny569.out]; exact HP14.1); clear HP14; replace HB := am_ ((by rw [hw]; exact bf (HB.out) GB6.out : Below w0.heap.size w0 w15)); replace HK := am_ (Kept.of_grown (S := (fun k_ => P0_ k_)) hg u2_ (fun k_ e_ => (HO_0.out.1 k_ e_))); replace HO_0 := am_ (hp_); clear hg hw hp_))
    go_roundg k1
    case measure => have := HK1.out; omega
    case rel => exact ⟨(y569), (wrap64 ((wrap64 (x1_1 + 1)) + 1)), (wrap64 (x5_1 + 1)), u1_, u1_, H', ⟨dm⟩, ⟨aR_ HO_0.out⟩, ⟨u2_⟩, ⟨bw_ HB⟩⟩
   ·rw [if_neg c3] at H; have c3b0 := decide_eq_false c3; clear c3; simp only [Option.some.injEq, Prod.mk.injEq] at H; obtain ⟨rfl, rfl⟩ := H; obtain ⟨Ao16, co16, eo16⟩ := Kd.R_slice HO_0.out; subst eo16; go_wp2; go_ret
    exact ⟨u0_, aR_ HO_0.out, bw_ HB, u2_⟩
def dq.f (k : Nat) (a0_0 : ByteArray) (l0_1 : List (S86)) (a1 : Int) : Option (Int × (List (S86))) := (bA.f k l0_1 a1).bind fun bt571 => (some (bt571.1, bt571.2))
theorem dq.calls (k : Nat) (a0_0 : ByteArray) (P0_1_ : Nat → Prop) (u9000_ : Value) (l0_1 : List (S86)) (a1 : Int) (r1 : Int) (r2 : List (S86)) (w0 w : World) (hB : Below w0.heap.size w0 w) (ho0_1 : Kd.R k86 86 w w0.heap.size P0_1_ u9000_ l0_1) (h : dq.f k a0_0 l0_1 a1 = some (r1, r2)) :
  Calls Tryz.prog 31 #[.agg #[.string a0_0, u9000_], .int .i64 a1] w fun e w' => e = .returned (.int .i64 r1) ∧ Kd.R k86 86 w' w0.heap.size (fun k_ => (P0_1_ k_ ∨ w.heap.size ≤ k_)) u9000_ r2 ∧ Below w0.heap.size w0 w' ∧ Kept w w' (fun k_ => P0_1_ k_) := by
 have hu44 := Tryz.underlying44; have HO0_1 := am_ (show Kd.R k86 86 w w0.heap.size (fun k_ => (P0_1_ k_ ∨ w.heap.size ≤ k_)) u9000_ l0_1 from Kd.R_mono ho0_1 (fun k_ hk => (.inl hk))); have HK := am_ (Kept.refl w (fun k_ => P0_1_ k_)); have HW0 := am_ hB.size; have HB := am_ hB; clear hB; have H := h; clear h; unfold dq.f at H
 obtain ⟨⟨t571, t572⟩, A3, H⟩ := bi_ H; dsimp only at H; simp only [Option.some.injEq, Prod.mk.injEq] at H; obtain ⟨rfl, rfl⟩ := H; obtain ⟨Ao4, co4, eo4⟩ := Kd.R_slice HO0_1.out; subst eo4; go_enter Tryz.func31, Tryz.ntmps31
 go_wp2_with (first | ((with_reducible refine gt_ 2 ?_); refine bx_ 2 #[.string a0_0, .slice Ao4 l0_1.length co4] 44 ?_; intro gb570 hg w5 hbox hb; replace HO0_1 := am_ (Kd.R_below (aR_ HO0_1.out) hb); have BK570 := am_ (hbox); have GW570 := Ge.mk ((by rw [hg]; exact (by first | exact HK.out.1 | exact (show Kept w _ (fun k_ => P0_1_ k_) from u2_).1) : w.heap.size ≤ gb570)); replace HK := am_ (Kept.below (S := (fun k_ => P0_1_ k_)) u2_ hb); have GE570 := gw_ HB hg; replace HB := bs_ HB hb; clear hb hbox hg; obtain ⟨hcz6_0, hcz6_1, hfz6_0, hfz6_1⟩ := bj BK570.out) | ((with_reducible refine gt_ 8 ?_); refine gf_ 8 Tryz.func78 (bA.calls k (fun k_ => some k_ = (.slice Ao4 l0_1.length co4 : Value).ownBlock) (.slice Ao4 l0_1.length co4) l0_1 a1 t571 t572 w0 _ ?side1 ?side2 A3.out) ?_; (case side1 => repeat (first | (with_reducible first | exact HB.out | apply bw | apply aw | apply aN | refine bf ?_ GE570.out) | exact HB.out)); (case side2 => exact Kd.R_tight rfl HO0_1.out); rintro e w7 ⟨rfl, hy0, hb, hkp⟩; refine ⟨_, rfl, ?_⟩; replace HK := am_ (Kept.then_ (S := (fun k_ => P0_1_ k_)) u51_ hkp (fun k_ hs_ => (fun e_ => (HO0_1.out.1 k_ e_.symm)) hs_)); replace HO0_1 := am_ (Kd.R_reok rfl hy0 (fun k_ e_ => HO0_1.out.1 k_ e_)); replace HB := am_ (hb); (try clear hb); (try clear hkp); (try clear hy0)))
 go_ret
 exact ⟨u0_, aR_ HO0_1.out, bw_ HB, u51_⟩
def ar.l0 : Nat → List (S86) → Int → Int → Option (Int)
 | 0, _, _, _ => none
 | k + 1, x0, x1, x5 => if x5 < (x0.length : Int) then (if 0 ≤ x5 then ((ax.f k x1).bind fun t574 => (if ((ac x0 x5).f0).toList = t574.toList then ((ax.f k (wrap64 (x1 + 1))).bind fun t576 => (if ((ac x0 x5).f1).toList = t576.toList then (ar.l0 k x0 (wrap64 ((wrap64 (x1 + 1)) + 1)) (wrap64 (x5 + 1))) else (some (-1)))) else (some (-1)))) else (none)) else (some x1)
def ar.f (k : Nat) (l0 : List (S86)) (a1 : Int) : Option (Int) := ar.l0 k l0 a1 0
def ar.T4 : Bool × List (List Nat × List Nat) := (true, [([], []), ([], []), ([0, 1], [0, 1]), ([2], [2]), ([3], [3]), ([], []), ([5], [5]), ([4, 6], [4, 6])])
def ar.B4 : List Nat := [0, 0, 3, 7, 15, 0, 32, 127]
theorem ar.tab4 : dw .any (fm Tryz.f79 4) = ar.T4 := by kernel_rfl
theorem ar.bits4 : de ar.T4.2 ar.B4 = true := by kernel_rfl
def ar.T7 : Bool × List (List Nat × List Nat) := (true, [([], []), ([], []), ([0, 1], [0, 1]), ([2], [2]), ([3], [3]), ([], []), ([5], [5]), ([4, 6], [4, 6])])
def ar.B7 : List Nat := [0, 0, 3, 7, 15, 0, 32, 127]
theorem ar.tab7 : dw .any (fm Tryz.f79 7) = ar.T7 := by kernel_rfl
theorem ar.bits7 : de ar.T7.2 ar.B7 = true := by kernel_rfl
theorem ar.calls (k : Nat) (A0 : Option Addr) (c0 : Nat) (l0 : List (S86)) (a1 : Int) (r : Int) (w : World) (hr0 : Kd.C k86 w A0 l0.length l0) (hc0 : l0.length ≤ c0) (h : ar.f k l0 a1 = some r) :
  Calls Tryz.prog 79 #[.slice A0 l0.length c0, .int .i64 a1] w fun e w' => e = .returned (.int .i64 r) ∧ Below w.heap.size w w' := by
 have HR0 := am_ hr0; have HC0 := am_ hc0; clear hr0 hc0; have HB := am_ (Below.refl w.heap.size w); have H := h; clear h; unfold ar.f at H
 have H' := am_ H; clear H; go_enter Tryz.func79, Tryz.ntmps79
 go_wp2; go_loopg [1, 5] k (fun kq v1 v5 w' => ∃ (x1_1 : Int) (x5_1 : Int), v1 = .int .i64 x1_1 ∧ v5 = .int .i64 x5_1 ∧ aa (ar.l0 kq l0 x1_1 x5_1 = some r) ∧ aa (kq ≤ k) ∧ aa (Below w.heap.size w w'))
 case atStart => exact ⟨(a1), (0), u1_, u1_, H', ⟨Nat.le_refl _⟩, ⟨bw_ HB⟩⟩
 case round =>
  clear H'; obtain ⟨x1_1, x5_1, rfl, rfl, HA, HK1, HB⟩ := hrel; cases gk with
  | zero => exact absurd HA.out (by simp [ar.l0])
  | succ k1 =>
   have H := HA.out; clear HA; simp only [ar.l0] at H; by_cases c3 : x5_1 < (l0.length : Int)
   ·rw [if_pos c3] at H; have c3b0 := decide_eq_true c3; clear c3; obtain ⟨c4b0, H⟩ := gd_ H; obtain ⟨t574, A5, H⟩ := bi_ H; have HC_ := am_ H; clear H; try go_wp2
    replace HB := am_ (aN HB.out); obtain ⟨ad573, e573, hx573_0, hx573_1⟩ := dk HR0.out x5_1 od_ od_; have hw573_1 := hx573_1; have hw573_0 := hx573_0; cases e573; replace hx573_0 := cb_ HB hx573_0; replace hx573_1 := cb_ HB hx573_1; obtain ⟨p573, q573⟩ := pt_ x5_1 l0.length; refine dd (n := 8) (S := fun w' => w'.cell? (ad573.add ((x5_1).toNat * 2)) = some (.string ((ac l0 x5_1).f0)) ∧ w'.cell? ⟨(ad573.add ((x5_1).toNat * 2)).block, (ad573.add ((x5_1).toNat * 2)).off + 1, none⟩ = some (.string ((ac l0 x5_1).f1))) (ds := []) (bm_ 8 0) bY rfl rfl ⟨(cc_ HB hw573_0), (cc_ HB hw573_1)⟩ (fun hHeld => ?_); refine bH ar.tab4 ar.bits4 (fun HT_ HW_ => ?_); generalize wr.drew = w9 at HB hx573_0 hx573_1 hHeld ⊢; refine pv_ 0 12 ?_; refine pv_ 1 13 ?_; refine pv_ 2 14 ?_; refine pv_ 3 15 ?_; refine pv_ 5 17 ?_; refine tv_ 4 16 ?_; refine ov_ 6 18 (fun K hK => ?_); refine oB_ Tryz.func83 (ax.calls k1 x1_1 t574 _ A5.out) ?_; intro w10 hb; replace HB := bs_ HB hb; (try clear hb)
    refine hK.out _ _ ⟨(cc_ HB hw573_0), (cc_ HB hw573_1)⟩ (fun hHeld => ?_); clear hK K; refine nm_ ?_; refine pv_ 7 19 ?_; refine dn_ HT_ ?_; have H := HC_.out; clear HC_; by_cases c6 : ((ac l0 x5_1).f0).toList = t574.toList
    ·rw [if_pos c6] at H; have c6b0 := cV c6; have c6b1 := cW c6; clear c6; obtain ⟨t576, A7, H⟩ := bi_ H; have HC_ := am_ H; clear H; (first | rw [c6b0] | (simp only [ap, au]; rw [c6b0]) | skip)
     try go_wp2
     replace HB := am_ (aN HB.out); obtain ⟨ad575, e575, hx575_0, hx575_1⟩ := dk HR0.out x5_1 od_ od_; have hw575_1 := hx575_1; have hw575_0 := hx575_0; obtain rfl : ad573 = ad575 := (by injection e575); replace hx575_0 := cb_ HB hx575_0; replace hx575_1 := cb_ HB hx575_1; obtain ⟨p575, q575⟩ := pt_ x5_1 l0.length; refine dd (n := 8) (S := fun w' => w'.cell? (ad573.add ((x5_1).toNat * 2)) = some (.string ((ac l0 x5_1).f0)) ∧ w'.cell? ⟨(ad573.add ((x5_1).toNat * 2)).block, (ad573.add ((x5_1).toNat * 2)).off + 1, none⟩ = some (.string ((ac l0 x5_1).f1))) (ds := []) (bm_ 8 0) bY rfl rfl ⟨(cc_ HB hw575_0), (cc_ HB hw575_1)⟩ (fun hHeld => ?_); refine bH ar.tab7 ar.bits7 (fun HT_ HW_ => ?_); generalize w10.drew = w11 at HB hx575_0 hx575_1 hHeld ⊢; refine pv_ 0 22 ?_; refine pv_ 1 23 ?_; refine pv_ 2 24 ?_; refine pv_ 3 25 ?_; refine pv_ 5 27 ?_; refine tv_ 4 26 ?_; refine ov_ 6 28 (fun K hK => ?_); refine oB_ Tryz.func83 (ax.calls k1 (wrap64 (x1_1 + 1)) t576 _ A7.out) ?_; intro w12 hb; replace HB := bs_ HB hb; (try clear hb)
     refine hK.out _ _ ⟨(cc_ HB hw575_0), (cc_ HB hw575_1)⟩ (fun hHeld => ?_); clear hK K; refine nm_ ?_; refine pv_ 7 29 ?_; refine dn_ HT_ ?_; have H := HC_.out; clear HC_; by_cases c8 : ((ac l0 x5_1).f1).toList = t576.toList
     ·rw [if_pos c8] at H; have c8b0 := cV c8; have c8b1 := cW c8; clear c8; have H' := am_ H; clear H; (first | rw [c8b0] | (simp only [ap, au]; rw [c8b0]) | skip)
      try go_wp2
      go_roundg k1
      case measure => have := HK1.out; omega
      case rel => exact ⟨(wrap64 ((wrap64 (x1_1 + 1)) + 1)), (wrap64 (x5_1 + 1)), u1_, u1_, H', ⟨dm⟩, ⟨bw_ HB⟩⟩
     ·rw [if_neg c8] at H; have c8b0 := cU c8; have c8b1 := cT c8; obtain rfl := si_ H; (first | rw [c8b0] | (simp only [ap, au]; rw [c8b0]) | skip)
      try go_wp2
      go_ret
      exact ⟨u0_, bw_ HB⟩
    ·rw [if_neg c6] at H; have c6b0 := cU c6; have c6b1 := cT c6; obtain rfl := si_ H; (first | rw [c6b0] | (simp only [ap, au]; rw [c6b0]) | skip)
     try go_wp2
     go_ret
     exact ⟨u0_, bw_ HB⟩
   ·rw [if_neg c3] at H; have c3b0 := decide_eq_false c3; clear c3; obtain rfl := si_ H; go_wp2; go_ret
    exact ⟨u0_, bw_ HB⟩
def cH.f (k : Nat) (a0_0 : ByteArray) (l0_1 : List (S86)) (a1 : Int) : Option (Int) := (ar.f k l0_1 a1).bind fun t578 => (if t578 < 0 then (some (-1)) else (some t578))
theorem cH.calls (k : Nat) (a0_0 : ByteArray) (A0_1 : Option Addr) (c0_1 : Nat) (l0_1 : List (S86)) (a1 : Int) (r : Int) (w : World) (hr0_1 : Kd.C k86 w A0_1 l0_1.length l0_1) (hc0_1 : l0_1.length ≤ c0_1) (h : cH.f k a0_0 l0_1 a1 = some r) :
  Calls Tryz.prog 32 #[.agg #[.string a0_0, .slice A0_1 l0_1.length c0_1], .int .i64 a1] w fun e w' => e = .returned (.int .i64 r) ∧ Below w.heap.size w w' := by
 have hu44 := Tryz.underlying44; have HR0_1 := am_ hr0_1; have HC0_1 := am_ hc0_1; clear hr0_1 hc0_1; have HB := am_ (Below.refl w.heap.size w); have H := h; clear h; unfold cH.f at H
 obtain ⟨t578, A3, H⟩ := bi_ H; by_cases c4 : t578 < 0
 ·rw [if_pos c4] at H; have c4b0 := decide_eq_true c4; clear c4; obtain rfl := si_ H; go_enter Tryz.func32, Tryz.ntmps32
  go_wp2_with (first | ((with_reducible refine gt_ 2 ?_); refine bx_ 2 #[.string a0_0, .slice A0_1 l0_1.length c0_1] 44 ?_; intro gb577 hg w5 hbox hb; have BK577 := am_ (hbox); have GE577 := gw_ HB hg; replace HB := bs_ HB hb; clear hb hbox hg; obtain ⟨hcz6_0, hcz6_1, hfz6_0, hfz6_1⟩ := bj BK577.out) | ((with_reducible refine gt_ 8 ?_); refine gB_ 8 Tryz.func79 (ar.calls k _ _ l0_1 a1 t578 _ (kc_ HR0_1 HB) HC0_1.out A3.out) ?_; intro w7 hb; replace HB := bs_ HB hb; (try clear hb)))
  go_ret
  exact ⟨u0_, bw_ HB⟩
 ·rw [if_neg c4] at H; have c4b0 := decide_eq_false c4; clear c4; obtain rfl := si_ H; go_enter Tryz.func32, Tryz.ntmps32
  go_wp2_with (first | ((with_reducible refine gt_ 2 ?_); refine bx_ 2 #[.string a0_0, .slice A0_1 l0_1.length c0_1] 44 ?_; intro gb577 hg w8 hbox hb; have BK577 := am_ (hbox); have GE577 := gw_ HB hg; replace HB := bs_ HB hb; clear hb hbox hg; obtain ⟨hcz9_0, hcz9_1, hfz9_0, hfz9_1⟩ := bj BK577.out) | ((with_reducible refine gt_ 8 ?_); refine gB_ 8 Tryz.func79 (ar.calls k _ _ l0_1 a1 t578 _ (kc_ HR0_1 HB) HC0_1.out A3.out) ?_; intro w10 hb; replace HB := bs_ HB hb; (try clear hb)))
  go_ret
  exact ⟨u0_, bw_ HB⟩
end Go.Proofs.YtnjjdojonflckaaGreatDoor.PFnExactIndexDoc
