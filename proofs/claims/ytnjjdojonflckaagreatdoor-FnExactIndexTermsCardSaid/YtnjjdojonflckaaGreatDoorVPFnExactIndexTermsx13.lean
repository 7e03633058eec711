/- Contracts of Go functions, each told as a plain Lean function. -/
import Derived.Test.YtnjjdojonflckaaGreatDoorVPFnExactIndexTermsx7
namespace Go.Proofs.YtnjjdojonflckaaGreatDoor.PFnExactIndexTerms
open Go.RowKit Go.Proofs.YtnjjdojonflckaaGreatDoorW.PrintWords Go.Proofs.YtnjjdojonflckaaGreatDoorW.PrintLast Go.Proofs.YtnjjdojonflckaaGreatDoorW.PrintMore
attribute [local go_sem] aY aW bS bV ct cr bx bw bQ bW
set_option linter.unusedVariables false
set_option linter.unusedSimpArgs false
set_option maxHeartbeats 8000000
set_option maxRecDepth 100000
section
open Go Go.RowKit Go.Proofs.YtnjjdojonflckaaGreatDoor.Ent
section
open Go Go.RowKit Go.Proofs.YtnjjdojonflckaaGreatDoorW.PrintWords
abbrev kI : Kd Int := Kd.int .i64
theorem pg {w : World} {base : Nat} {ok : Nat → Prop} {v : Value} {ps : List S50} (h : Kd.S k50 50 w base ok v ps) (n : Nat) (p : S50) (hp : ps[n]? = some p) (hn : n + 1 = ps.length) :
  ∃ g cap u, ∃ oki : Nat → Prop, v = .slice (some ⟨g, 0, none⟩) ps.length cap ∧ g < w.heap.size ∧ base ≤ g ∧ ok g ∧ (∃ cells, w.heap[g]? = some (.cells cells 50 (0, 0))) ∧
   w.cell? ⟨g, n * 2, none⟩ = some (.int .i64 p.f0) ∧ w.cell? ⟨g, n * 2 + 1, none⟩ = some u ∧ w.frozen? ⟨g, n * 2 + 1, none⟩ = false ∧
   kI.R 3 w base oki u p.f1 ∧ (∀ k, oki k → ok k ∧ k < w.heap.size ∧ k ≠ g) ∧
   ∀ (w1 : World) (u1 : Value) (x : Int) (okp : Nat → Prop), w.grownBy w1 u.ownBlock → kI.R 3 w1 base okp u1 (p.f1 ++ [x]) → (∀ k, okp k → oki k ∨ w.heap.size ≤ k) →
    Kd.S k50 50 (w1.setCell ⟨g, n * 2 + 1, none⟩ u1) base (fun k => ok k ∨ w.heap.size ≤ k) v (ps.set n ⟨p.f0, p.f1 ++ [x]⟩) ∧ w1.grownBy (w1.setCell ⟨g, n * 2 + 1, none⟩ u1) (some g) := by
 obtain ⟨g, cap, rfl, hbase, hlt, hcells⟩ := Kd.S_form h u7_; have hokg : ok g := (Kd.S_R h).1 g (by simp [Value.ownBlock]); have hA : Kd.S k50 50 w base (fun k => (ok k ∨ w.heap.size ≤ k) ∧ ¬ (w.heap.size ≤ k)) (.slice (some ⟨g, 0, none⟩) ps.length cap) ps :=
  Kd.S_mono (Kd.S_bound h) (fun k hk => ⟨.inl hk.1, by have := hk.2.2.1; omega⟩)
 obtain ⟨oki, c, hcl, hM, hcc, hfr, hoki, hH⟩ := Kd.S_elem hA z50 (n : Int) u7_ u7_; have hget : ps.getD ((n : Int)).toNat z50 = p := by simp [List.getD_eq_getElem?_getD, hp]
 rw [hget] at hM; obtain ⟨u, rfl, hu⟩ := g5 hM; have e2 : k50.sz = 2 := rfl; have hc0 := hcc 0 _ rfl; have hc1 := hcc 1 _ rfl; have hf1 := hfr 1; simp only [e2, Int.toNat_natCast, Nat.add_zero] at hc0 hc1 hf1; refine ⟨g, cap, u, oki, rfl, hlt, hbase, hokg, hcells, hc0, hc1, hf1, hu, fun k hk => ⟨(hoki k hk).1.1.elim id (fun h2 => absurd h2 (hoki k hk).1.2), by have := (hoki k hk).1.2; omega, (hoki k hk).2⟩, fun w1 u1 x okp hg hR hok => ?_⟩; have hH1 := Kd.H_grown hH hg (fun k hk => hu.1 k hk); have hM1 := iR w1 base okp (⟨p.f0, p.f1 ++ [x]⟩ : S50) hR; have hz := Kd.S_seg (okg := fun k => w.heap.size ≤ k) hH1 u7_ u7_ (seg := [u1]) (j := 1) (by show 1 + 1 ≤ 2; omega) (x' := (⟨p.f0, p.f1 ++ [x]⟩ : S50)) (okp := okp) hM1 hok (fun k hk => ⟨.inr hk, fun he => by subst he; omega⟩); simp only [e2, Int.toNat_natCast] at hz; exact hz
end
section
open Go Go.RowKit Go.Proofs.YtnjjdojonflckaaGreatDoorW.PrintWords
abbrev Pst := S50
def ff (ps : List Pst) (id x : Int) : List Pst :=
 match ps.getLast? with
 | none => [⟨id, [x]⟩]
 | some q => if q.f0 = id then ps.set (ps.length - 1) ⟨q.f0, q.f1 ++ [x]⟩ else ps ++ [⟨id, [x]⟩]
def stepG : List (Pl × List Pst) → Pl → Int → Int → List (Pl × List Pst)
 | [], p, id, x => [(p, ff [] id x)]
 | g :: G, p, id, x => if g.1 = p then (p, ff g.2 id x) :: G else g :: stepG G p id x
theorem mt : ∀ (G : List (Pl × List Pst)) (p : Pl) (id x : Int), (∀ g ∈ G, g.1 ≠ p) → stepG G p id x = G ++ [(p, ff [] id x)]
 | [], _, _, _, _ => rfl
 | g :: G, p, id, x, h => by
  rw [stepG, if_neg (h g cN), mt G p id x (fun y hy => h y (List.mem_cons_of_mem _ hy))]; rfl
theorem mj : ∀ (G : List (Pl × List Pst)) (p : Pl) (id x : Int) (j : Nat) (g : Pl × List Pst), (G.map (·.1)).Nodup → G[j]? = some g → g.1 = p → stepG G p id x = G.set j (p, ff g.2 id x)
 | [], _, _, _, j, g, _, h, _ => by simp at h
 | y :: G, p, id, x, 0, g, _, h, hp => by
  obtain rfl : y = g := by simpa using h
  rw [stepG, if_pos hp]; rfl
 | y :: G, p, id, x, j + 1, g, hn, h, hp => by
  have h' : G[j]? = some g := by simpa using h
  rw [List.map_cons, List.nodup_cons] at hn; have hne : y.1 ≠ p := fun e => hn.1 (by rw [e, ← hp]; exact List.mem_map.2 ⟨g, List.mem_of_getElem? h', rfl⟩)
  rw [stepG, if_neg hne, mj G p id x j g hn.2 h' hp]; rfl
theorem pW (G : List (Pl × List Pst)) (p : Pl) (id x : Int) (j : Nat) (ps : List Pst) (hn : (G.map (·.1)).Nodup) (h : (j = G.length ∧ ps = [] ∧ ∀ g ∈ G, g.1 ≠ p) ∨ ∃ g, G[j]? = some g ∧ g.1 = p ∧ g.2 = ps) : nZ G j (p, ff ps id x) = stepG G p id x := by
 rcases h with ⟨rfl, rfl, h⟩ | ⟨g, hg, hp, rfl⟩
 ·unfold nZ
  rw [if_neg u7_, mt G p id x h]
 ·unfold nZ
  rw [if_pos (List.getElem?_eq_some_iff.1 hg).1, mj G p id x j g hn hg hp]
def LenG (c : Nat) (G : List (Pl × List Pst)) : Prop := G.length ≤ c ∧ ∀ g ∈ G, g.2.length ≤ c ∧ ∀ q ∈ g.2, q.f1.length ≤ c
def LenP (c : Nat) (ps : List Pst) : Prop := ps.length ≤ c ∧ ∀ q ∈ ps, q.f1.length ≤ c
theorem LenP.step {c : Nat} {ps : List Pst} (h : LenP c ps) (id x : Int) : LenP (c + 1) (ff ps id x) := by
 have hm : LenP (c + 1) ps := ⟨by have := h.1; omega, fun q hq => by have := h.2 q hq; omega⟩; unfold ff
 cases hl : ps.getLast? with
 | none => exact ⟨cN, fun q hq => by rw [List.mem_singleton.1 hq]; simp⟩
 | some q =>
  have hq : q ∈ ps := List.mem_of_getLast? hl; have h2 := h.2 q hq; simp only; split
  ·refine ⟨by rw [List.length_set]; exact hm.1, fun y hy => ?_⟩; rcases List.mem_or_eq_of_mem_set hy with hy | hy
   ·exact hm.2 y hy
   ·rw [hy]; simp; omega
  ·refine ⟨by have := h.1; simp; omega, fun y hy => ?_⟩; rcases List.mem_append.1 hy with hy | hy
   ·exact hm.2 y hy
   ·rw [List.mem_singleton.1 hy]; simp
theorem LenG.at {c : Nat} {G : List (Pl × List Pst)} (h : LenG c G) {p : Pl} {j : Nat} {ps : List Pst} (hj : (j = G.length ∧ ps = [] ∧ ∀ g ∈ G, g.1 ≠ p) ∨ ∃ g, G[j]? = some g ∧ g.1 = p ∧ g.2 = ps) : LenP c ps := by
 rcases hj with ⟨_, rfl, _⟩ | ⟨g, hg, _, rfl⟩
 ·exact ⟨Nat.zero_le _, cN⟩
 ·exact h.2 g (List.mem_of_getElem? hg)
theorem LenG.step {c : Nat} : ∀ {G : List (Pl × List Pst)} (_h : ∀ g ∈ G, LenP c g.2) (p : Pl) (id x : Int), (stepG G p id x).length ≤ G.length + 1 ∧ ∀ g ∈ stepG G p id x, LenP (c + 1) g.2
 | [], _, p, id, x => ⟨by simp [stepG], fun g hg => by
   rw [stepG, List.mem_singleton] at hg; rw [hg]; exact LenP.step (c := c) (ps := []) ⟨Nat.zero_le _, cN⟩ id x⟩
 | y :: G, h, p, id, x => by
  have hw : ∀ g ∈ G, LenP (c + 1) g.2 := fun g hg => by have := h g (List.mem_cons_of_mem _ hg); exact ⟨by have := this.1; omega, fun q hq => by have := this.2 q hq; omega⟩
  have hy := h y cN; rw [stepG]; split
  ·refine ⟨cN, fun g hg => ?_⟩; rcases List.mem_cons.1 hg with hg | hg
   ·rw [hg]; exact LenP.step hy id x
   ·exact hw g hg
  ·have ih := LenG.step (c := c) (G := G) (fun g hg => h g (List.mem_cons_of_mem _ hg)) p id x; refine ⟨by simp; exact ih.1, fun g hg => ?_⟩; rcases List.mem_cons.1 hg with hg | hg
   ·rw [hg]; exact ⟨by have := hy.1; omega, fun q hq => by have := hy.2 q hq; omega⟩
   ·exact ih.2 g hg
theorem LenG.next {c : Nat} {G : List (Pl × List Pst)} (h : LenG c G) (p : Pl) (id x : Int) : LenG (c + 1) (stepG G p id x) := by
 have := LenG.step (c := c) (G := G) h.2 p id x; exact ⟨by have := this.1; have := h.1; omega, this.2⟩
def fO (id : Int) (name : ByteArray) : List ByteArray → Int → List (Pl × List Pst) → List (Pl × List Pst)
 | [], _, G => G
 | t :: ts, x, G => fO id name ts (x + 1) (if t.size = 0 then G else stepG G (name, t) id x)
end
section
open Go Go.RowKit Go.Proofs.YtnjjdojonflckaaGreatDoorW.PrintWords Go.Proofs.YtnjjdojonflckaaGreatDoorW.PrintLast Go.Proofs.YtnjjdojonflckaaGreatDoorW.PrintMore Go.Proofs.YtnjjdojonflckaaGreatDoor.Ent
abbrev kPs : Kd (List S50) := sliceS 50 k50
def kE : Kd S76 := Kd.iso (Kd.pair Kd.string (Kd.pair Kd.string kPs)) (fun x : S76 => (x.f0, x.f1, x.f2))
theorem nN {w : World} {base : Nat} {ok : Nat → Prop} {x : S76} {cs : List Value} (h : kE.M w base ok x cs) : ∃ v2, cs = [.string x.f0, .string x.f1, v2] ∧ Kd.S k50 50 w base ok v2 x.f2 := by
 obtain ⟨_, _, rfl, rfl, ⟨_, _, rfl, rfl, ⟨v2, rfl, g⟩⟩⟩ := h; exact ⟨v2, rfl, g⟩
theorem oN (w : World) (base : Nat) (ok : Nat → Prop) (x : S76) {v2 : Value} (g2 : Kd.S k50 50 w base ok v2 x.f2) : kE.M w base ok x [.string x.f0, .string x.f1, v2] := ⟨[.string x.f0], [.string x.f1, v2], rfl, rfl, ⟨[.string x.f1], [v2], rfl, rfl, ⟨v2, rfl, g2⟩⟩⟩
theorem kE_k76 {w : World} {base : Nat} {ok : Nat → Prop} {x : S76} {cs : List Value} (h : kE.M w base ok x cs) : k76.M w base ok x cs := by
 obtain ⟨v2, rfl, g⟩ := nN h; exact ki w base ok x (Kd.S_R g)
theorem pf {w : World} {base : Nat} {ok : Nat → Prop} {v : Value} {xs : List S76} (h : Kd.S kE 76 w base ok v xs) : Kd.S k76 76 w base ok v xs := by
 obtain ⟨f, h⟩ := h; exact ⟨f, Kd.R_imp (d := Kd.tag f kE) (d' := Kd.tag f k76) rfl (fun _ _ _ _ _ hM => kE_k76 hM) h⟩
theorem qd (a1 a2 : ByteArray) (a3 a4 : Int) (w1 : World) (b : Nat) (hb : b ≤ w1.heap.size) : kE.M (((w1.alloc (.cells #[.int .i64 a4] 3)).alloc (.cells #[.int .i64 a3, .slice (some ⟨w1.heap.size, 0, none⟩) 1 1] 50)).alloc (.cells #[.string a1, .string a2, .slice (some ⟨w1.heap.size + 1, 0, none⟩) 1 1] 76)).drew b (fun k => k = w1.heap.size ∨ k = w1.heap.size + 1) ⟨a1, a2, [⟨a3, [a4]⟩]⟩ [.string a1, .string a2, .slice (some ⟨w1.heap.size + 1, 0, none⟩) 1 1] := by
 have hk : ∀ (o o' o'' : Obj), ((((w1.alloc o).alloc o').alloc o'').drew).heap.size = w1.heap.size + 3 := fun o o' o'' => by simp
 refine oN _ _ _ _ (v2 := .slice (some ⟨w1.heap.size + 1, 0, none⟩) 1 1) ?_; refine Kd.S_drew (Kd.S_alloc ?_ _); have hI : (Kd.int .i64).R 3 (w1.alloc (.cells #[.int .i64 a4] 3)) b (fun k => k = w1.heap.size) (.slice (some ⟨w1.heap.size, 0, none⟩) 1 1) [a4] := by
  have h := kS (enc := Value.int .i64) w1 b 3 [a4] hb cN; exact Kd.R_of_own h (fun k hk => by simpa [Value.ownBlock] using hk.symm)
 have hrep := Kd.reps_tag (d := k50) (w := w1.alloc (.cells #[.int .i64 a4] 3)) (base := b) (ok := fun k => k = w1.heap.size) (xs := [⟨a3, [a4]⟩]) (inner := [.int .i64 a3, .slice (some ⟨w1.heap.size, 0, none⟩) 1 1]) (fun j k => j = 0 ∧ k = w1.heap.size) (fun i j k h1 h2 => h1.1.trans h2.1.symm) (fun j k h => h.2) rfl (fun j x hx => by
  cases j with
  | zero =>
   obtain rfl : (⟨a3, [a4]⟩ : S50) = x := by simpa using hx
   exact iR _ _ _ _ (Kd.R_mono hI (fun k hk => ⟨rfl, hk⟩))
  | succ j => simp at hx)
 obtain ⟨f, hf⟩ := hrep; have hown := World.ownsRow_lit (base := b) (e := 50) (size := 2) (w1.alloc (.cells #[.int .i64 a4] 3)) #[.int .i64 a3, .slice (some ⟨w1.heap.size, 0, none⟩) 1 1] 1 (by simp; omega) (by simp [maxLen]) cN; have hsz : (w1.alloc (.cells #[.int .i64 a4] 3)).heap.size = w1.heap.size + 1 := by simp
 rw [hsz] at hown; refine ⟨f, fun k hk => ?_, _, hown, ?_⟩
 ·have : w1.heap.size + 1 = k := by simpa [Value.ownBlock] using hk
  omega
 ·refine hf.imp_ (fun p c hp => (Kd.tag f k50).M_mono (fun k hk => ?_) ((Kd.tag f k50).M_move (w1 := (w1.alloc (.cells #[.int .i64 a4] 3)).alloc (.cells #[.int .i64 a3, .slice (some ⟨w1.heap.size, 0, none⟩) 1 1] 50)) (fun k hk => ?_) hp))
  ·refine ⟨.inl hk, fun he => ?_⟩; have : k = w1.heap.size + 1 := by simpa [Value.ownBlock] using he
   omega
  ·exact Below.heap_alloc _ _ k (by rw [hsz]; omega)
def wide (ps : List S50) : Bool := decide (ps.length < 1000000) && ps.all (fun p => decide (p.f1.length < 1000000))
def cn.f (k : Nat) (l : List S76) (a1 a2 : ByteArray) (a3 a4 : Int) : Option (List S76) :=
 (bB.f k l a1 a2).bind fun r => if r.2 = true then
   (match l[r.1.toNat]? with
    | none => none
    | some e => if 0 ≤ r.1 ∧ e.f2 ≠ [] ∧ wide e.f2 = true then some (l.set r.1.toNat ⟨e.f0, e.f1, ff e.f2 a3 a4⟩) else none)
  else if 0 ≤ r.1 ∧ r.1 ≤ l.length ∧ l.length < 1000000 then some (l.take r.1.toNat ++ [⟨a1, a2, [⟨a3, [a4]⟩]⟩] ++ l.drop r.1.toNat) else none
def Cl (B : Nat) (w : World) (v : Value) (rows : List (List Value)) : Prop := (Kd.raw 3).R 76 w B (fun _ => True) v rows ∧ ∃ b, v.ownBlock = some b ∧ b < w.heap.size
theorem Cl.below {B : Nat} {w w1 : World} {v : Value} {rows : List (List Value)} (h : Cl B w v rows) (hb : Below w.heap.size w w1) : Cl B w1 v rows := by
 obtain ⟨h1, b, h2, h3⟩ := h; exact ⟨Kd.R_below h1 hb, b, h2, Nat.lt_of_lt_of_le h3 hb.size⟩
theorem jd {w w2 w3 : World} (h : Below w.heap.size w w2) (k : Below w2.heap.size w2 w3) : Below w.heap.size w w3 := h.trans (k.mono h.size)
theorem one3 (a b : ByteArray) (A : Option Addr) (n c : Nat) : ∀ u ∈ [Value.string a, .string b, .slice A n c], u.oneCell' = true := by
 intro u hu; simp only [List.mem_cons, List.not_mem_nil, or_false] at hu; rcases hu with rfl | rfl | rfl <;> rfl
theorem ji {w : World} {base : Nat} {ok : Nat → Prop} {c : List Value} (h : (Kd.raw 3).M w base ok c c) : Reps ((Kd.raw 3).M w base ok) 3 [c] c := by
 refine ⟨by have := h.2.1; simpa using this, fun j p hj => ?_⟩; cases j with
 | zero =>
  obtain rfl : c = p := by simpa using hj
  have hl : c.length = 3 := h.2.1; rw [Nat.zero_mul, List.drop_zero, List.take_of_length_le u7_]; exact h
 | succ j => simp at hj
section
variable {ops : Array Oper} {o : Oper} {a : Act} {Q : Exit → Act → World → Prop} {Kc : Act → World → Prop} {w0 W : World} {B : Nat}
theorem ku (hw : Region.wanted o (yielded ops a.tmps) = true) {N : Tmp} (hd : o.dst = some N) {rows : List (List Value)} {inner : List Value}
  (hrun : (execOp a.eval o).run Tryz.prog W = .ok (.value (.slice (some ⟨W.heap.size, 0, none⟩) rows.length rows.length)) (W.alloc (.cells inner.toArray 76)))
  (hrep : Reps ((Kd.raw 3).M W B (fun _ => True)) 3 rows inner) (HB : Below B w0 W) (hbase : B ≤ W.heap.size) (hm : rows.length ≤ 9223372036854775807)
  (h : ∀ v1 w1, Cl B w1 v1 rows → Below B w0 w1 → Below W.heap.size W w1 → (∀ v r, Cl B W v r → v.ownBlock ≠ v1.ownBlock) → Kc (a.put o.dst v1) w1) : if Region.wanted o (yielded ops a.tmps) = true then Oper.wp Tryz.prog o a W Kc Q else Kc (a.put o.dst undef) W := by
 refine Kd.R_lit_step (Kd.raw 3) (w0 := w0) B 76 hw hd (ok := fun _ => True) (okp := fun _ => True) hrun hrep (fun _ hk => hk) trivial HB hbase hm ?_; rintro v1 w1 ho hb hg ⟨b, hv, hge⟩; refine h v1 w1 ⟨ho, b, hv, Kd.R_lt ho b hv⟩ hb ⟨hg.os, hg.tape, hg.output, hg.size, fun k hk => hg.block k hk cN⟩ ?_; rintro v r ⟨_, b', hv', hlt⟩ he; rw [hv, hv'] at he; injection he with he
 omega
theorem k7 (hw : Region.wanted o (yielded ops a.tmps) = true) (s x : Operand) (ho : o.op = .call { callee := .builtin .append, args := #[s, x], argTypes := #[25, 25] }) {v : Value} {xs ys : List (List Value)} {A : Option Addr} {m c : Nat} (hs : a.eval s = v) (hx : a.eval x = .slice A m c)
  (HO : Cl B W v xs) (HR : (Kd.raw 3).C W A m ys) (HB : Below B w0 W) (hbase : B ≤ W.heap.size) (hl : xs.length + m ≤ 3000000)
  (h : ∀ v1 w1, Cl B w1 v1 (xs ++ ys) → Below B w0 w1 → (∀ u r, Cl B W u r → u.ownBlock ≠ v.ownBlock → Cl B w1 u r ∧ u.ownBlock ≠ v1.ownBlock) → Kc (a.put o.dst v1) w1) : if Region.wanted o (yielded ops a.tmps) = true then Oper.wp Tryz.prog o a W Kc Q else Kc (a.put o.dst undef) W := by
 obtain ⟨HO, b0, hv0, hlt0⟩ := HO; refine Kd.R_append_rows_step (Kd.raw 3) (Rr := (Kd.raw 3).K W) (w0 := w0) B hw s x 25 76 (.agg #[(.string ⟨#[]⟩), (.string ⟨#[]⟩), (.slice none 0 0)]) 56 ho Tryz.underlying25 jk rfl bs u7_ v xs ys A m c (fun _ => True) (fun _ => False) hs hx HO HR (fun _ _ h => h) (fun _ h => h.elim) (fun _ _ => trivial) HB hbase u7_ ?_; intro v1 w1 ho hb hg hat; have hv1 : ∃ b, v1.ownBlock = some b := by
  rcases hat with hat | ⟨b, hb, _⟩
  ·exact ⟨b0, hat.trans hv0⟩
  ·exact ⟨b, hb⟩
 obtain ⟨b1, hv1⟩ := hv1; refine h v1 w1 ⟨ho, b1, hv1, Kd.R_lt ho b1 hv1⟩ hb ?_; rintro u r ⟨hu, b, hub, hlt⟩ hne; refine ⟨⟨Kd.R_grown1 hu rfl hg (Ne.symm hne), b, hub, Nat.lt_of_lt_of_le hlt hg.size⟩, fun he => ?_⟩; rcases hat with hat | ⟨b2, hb2, hge⟩
 ·exact hne (he.trans hat)
 ·rw [hub, hb2] at he; injection he with he
  omega
end
theorem qO {i N1 : Nat} {u v : Value} {l : List S76} {e : S76} {c : List Value} {rows : List (List Value)} {f : Nat → Nat} {B : Nat} {w w1 w2 w' : World} {ok : Nat → Prop}
  (hM : ∀ (j : Nat) (x : S76) (c : List Value), l[j]? = some x → rows[j]? = some c → kE.M w B (fun k => (ok k ∧ some k ≠ u.ownBlock) ∧ f k = j) x c) (hrl : rows.length = l.length) (hi : i ≤ l.length)
  (hP : kE.M w2 B (fun k => k = N1 ∨ k = N1 + 1) e c) (hR : Cl w2.heap.size w' v ([] ++ rows.take i ++ [c] ++ rows.drop i)) (h12 : Below w.heap.size w w2) (h1 : Below w.heap.size w w1) (hw1 : Below w1.heap.size w1 w2) (hX : Below w2.heap.size w2 w') (hB : B ≤ w.heap.size) (hN : w1.heap.size ≤ N1 ∧ N1 + 1 < w2.heap.size) :
  Kd.S kE 76 w' B (fun k_ => ok k_ ∨ w.heap.size ≤ k_) v (l.take i ++ [e] ++ l.drop i) := by
 obtain ⟨hR, b, hb, hlt⟩ := hR; have hb2 : w2.heap.size ≤ b := Kd.R_base hR b hb; have hs1 := h1.size; have hs2 := hw1.size; have hs3 := h12.size; have hne : ∀ k, k < w2.heap.size → some k ≠ v.ownBlock := fun k hk he => by
  rw [hb] at he; injection he with he
  omega
 have hbl : Below w.heap.size w w' := jd h12 hX; have hOld : ∀ (j : Nat) (x : S76) (c : List Value), l[j]? = some x → rows[j]? = some c → kE.M w' B (fun k => ((ok k ∧ some k ≠ u.ownBlock) ∧ f k = j) ∧ k < w.heap.size) x c := fun j x c hx hc =>
  kE.M_mono (fun k hk => ⟨hk.1, hk.2.2.1⟩) (kE.M_move (w1 := w') (fun k hk => hbl.block k hk.2.2.1) (kE.M_bound (hM j x c hx hc)))
 have hl1 : (rows.take i).length = i := by rw [List.length_take]; omega
 have hl2 : (l.take i).length = i := by rw [List.length_take]; omega
 have hl3 : (rows.drop i).length = l.length - i := by rw [List.length_drop]; omega
 refine S_join (okr := fun _ => True) (fun j k => if j < i then ((ok k ∧ some k ≠ u.ownBlock) ∧ f k = j) ∧ k < w.heap.size else if j = i then (k = N1 ∨ k = N1 + 1) else ((ok k ∧ some k ≠ u.ownBlock) ∧ f k = j - 1) ∧ k < w.heap.size) (Kd.R_lower hR u7_) ?_ (fun k hk => ?_) (fun j x c' hx hc => ?_) (fun j j' k hk hk' => ?_) (fun j k hk => ?_)
 ·simp only [List.length_append, List.length_nil, List.length_cons, hl1, hl2, hl3, List.length_drop]; omega
 ·rw [hb] at hk; injection hk with hk
  right; omega
 ·rw [List.append_assoc] at hx; rw [List.nil_append, List.append_assoc] at hc; rcases Nat.lt_trichotomy j i with h | h | h
  ·rw [List.getElem?_append_left u7_, List.getElem?_take, if_pos h] at hx; rw [List.getElem?_append_left u7_, List.getElem?_take, if_pos h] at hc; simp only [if_pos h]; exact hOld j x c' hx hc
  ·subst h; rw [List.getElem?_append_right u7_, hl2, Nat.sub_self] at hx; rw [List.getElem?_append_right u7_, hl1, Nat.sub_self] at hc; obtain rfl : e = x := by simpa using hx
   obtain rfl : c = c' := by simpa using hc
   simp only [Nat.lt_irrefl, if_false, if_true]; exact kE.M_mono (fun k hk => hk.1) (kE.M_move (w1 := w') (fun k hk => hX.block k hk.2.2.1) (kE.M_bound hP))
  ·rw [List.getElem?_append_right u7_, hl2] at hx; rw [List.getElem?_append_right u7_, hl1] at hc; obtain ⟨m, hm⟩ : ∃ m, j - i = m + 1 := ⟨j - i - 1, u7_⟩; rw [hm, List.singleton_append, List.getElem?_cons_succ, List.getElem?_drop] at hx hc; have he : i + m = j - 1 := by omega
   rw [he] at hx hc; simp only [if_neg (show ¬ j < i by omega), if_neg (show ¬ j = i by omega)]; exact hOld (j - 1) x c' hx hc
 ·split at hk <;> split at hk'
  ·exact hk.1.2.symm.trans hk'.1.2
  ·split at hk'
   ·have := hk.2; omega
   ·have := hk.1.2.symm.trans hk'.1.2; omega
  ·split at hk
   ·have := hk'.2; omega
   ·have := hk.1.2.symm.trans hk'.1.2; omega
  ·split at hk <;> split at hk'
   ·omega
   ·have := hk'.2; omega
   ·have := hk.2; omega
   ·have := hk.1.2.symm.trans hk'.1.2; omega
 ·split at hk
  ·exact ⟨.inl hk.1.1.1, hne k (by have := hk.2; omega)⟩
  ·split at hk
   ·exact ⟨.inr u7_, hne k u7_⟩
   ·exact ⟨.inl hk.1.1.1, hne k (by have := hk.2; omega)⟩
def cn.T4 : Bool × List (List Nat × List Nat) := (true, [([], []), ([], []), ([], []), ([1, 2], [1, 2]), ([0, 3], [0, 3]), ([], []), ([5], [5]), ([4, 6, 4], [4, 6]), ([], []), ([], []), ([8, 9], [8, 9]), ([7, 10, 7], [7, 10]), ([11, 11, 0, 1, 2, 3, 4, 5, 6, 7, 8, 9, 10, 11], [11])])
def cn.B4 : List Nat := [0, 0, 0, 6, 15, 0, 32, 127, 0, 0, 768, 2047, 4095]
theorem cn.tab4 : dC .any (f4 Tryz.f142 4) = cn.T4 := by kernel_rfl
theorem cn.bits4 : dn cn.T4.2 cn.B4 = true := by kernel_rfl
theorem qU (i : Nat) (u : Value) (l : List S76) (a1 a2 : ByteArray) (a3 a4 : Int) (k : Nat) (w0 w : World) (ok : Nat → Prop) (hB : Below w0.heap.size w0 w) (hS : Kd.S kE 76 w w0.heap.size ok u l) (hA : bB.f k l a1 a2 = some ((i : Int), false)) (hi : i ≤ l.length) (hl : l.length < 1000000) (r : List S76) (hr : l.take i ++ [⟨a1, a2, [⟨a3, [a4]⟩]⟩] ++ l.drop i = r) :
  Calls Tryz.prog 142 #[u, .string a1, .string a2, .int .i64 a3, .int .i64 a4] w fun e w' => ∃ v : Value, e = .returned v ∧ Kd.S kE 76 w' w0.heap.size (fun k_ => ok k_ ∨ w.heap.size ≤ k_) v r ∧ Below w0.heap.size w0 w' ∧ Kept w w' ok := by
 obtain ⟨A, c, rfl, hlc, hC⟩ := Kd.S_reads (pf hS); obtain ⟨rows, f, hrl, hraw, hown, hM⟩ := so hS; have hrc := (Kd.R_reads' hraw).2.2; have hcut1 := pb (P := Tryz.prog) 25 76 .i64 Tryz.underlying25 (info_parts jk).choose_spec.1 A l.length c (i : Int) u7_ u7_ hlc; have hcut2 := lw (P := Tryz.prog) 25 76 .i64 Tryz.underlying25 (info_parts jk).choose_spec.1 3 (info_parts jk).choose_spec.2.2.1 A l.length c (i : Int) u7_ u7_; simp only [Int.toNat_natCast] at hcut1 hcut2; obtain ⟨A2, hA2⟩ : ∃ A2, A2 = (if c = i then A else A.map (·.add (i * 3))) := ⟨_, rfl⟩; rw [← hA2] at hcut2; have hn1 : (rows.take i).length = i := by rw [List.length_take]; omega
 have hn2 : (rows.drop i).length = l.length - i := by rw [List.length_drop]; omega
 have hc1 := Kd.C_take hrc (m := i) u7_; have hc2 : (Kd.raw 3).C w A2 (rows.drop i).length (rows.drop i) := by rw [hA2]; exact Kd.C_drop hrc (m := i) (c := c) u7_ u7_
 rw [hn1] at hc1; rw [hn2] at hc2; have HC1 := am_ hc1; have HC2 := am_ hc2; have HN1 := am_ hn1; have HN2 := am_ hn2; have HRR := am_ hr; clear hr; have HM := am_ hM; have HOWN := am_ hown; have HRL := am_ hrl; have HB0 := am_ hB; have HA := am_ hA; have HI := am_ hi; have HL := am_ hl; clear hS hB hA hM hown hrl hrc hraw hA2 hi hl hn1 hn2 hc1 hc2; go_enter Tryz.func142, Tryz.ntmps142
 go_wp2_with (first | (go_at_call 95; refine (bB.calls k _ _ _ _ _ _ _ _ hC hlc HA.out).mono ?_; rintro e w1 ⟨rfl, hd⟩; have HB1 := am_ hd.below; clear hd))
 clear hC hlc; refine dk (n := 13) (S := fun w' => w'.cell? ⟨w1.heap.size + 1 + 1, 0, none⟩ = some (.string a1) ∧ w'.cell? ⟨w1.heap.size + 1 + 1, 1, none⟩ = some (.string a2) ∧ w'.cell? ⟨w1.heap.size + 1 + 1, 2, none⟩ = some (.slice (some ⟨w1.heap.size + 1, 0, none⟩) 1 1)) (ds := []) (bm_ 13 0) b9 rfl rfl ⟨by go_simp, by go_simp, by go_simp⟩ (fun hHeld => ?_); refine bX cn.tab4 cn.bits4 (fun HT_ HW_ => ?_); generalize hW : (((w1.alloc _).alloc _).alloc _).drew = w2 at hHeld ⊢; have HZ := am_ (show w2.heap.size = w1.heap.size + 3 from by rw [← hW]; simp); have HBW := am_ (show Below w1.heap.size w1 w2 from by rw [← hW]; exact fv (bF (bF (bF (Below.refl _ _) _) _) _)); have HW1 := am_ (jd HB1.out HBW.out); have HP := am_ (show kE.M w2 w0.heap.size (fun k => k = w1.heap.size ∨ k = w1.heap.size + 1) ⟨a1, a2, [⟨a3, [a4]⟩]⟩ [.string a1, .string a2, .slice (some ⟨w1.heap.size + 1, 0, none⟩) 1 1] from by rw [← hW]; exact qd a1 a2 a3 a4 w1 w0.heap.size (Nat.le_trans HB0.out.size HB1.out.size)); clear hW; have HX := am_ (Below.refl w2.heap.size w2); have HS := am_ hHeld; refine pv_ 1 34 ?_; refine pv_ 2 35 ?_; refine pv_ 3 36 ?_; refine tv_ 5 38 ?_; refine pv_ 8 41 ?_; refine pv_ 9 42 ?_; refine pv_ 10 43 ?_; refine rZ (σ := Value × Value × Value) 3 (bm_ 13 1919) (fun s_ => [(33, s_.1), (37, s_.2.1), (39, s_.2.2)]) (fun s_ w' => Cl w2.heap.size w' s_.2.1 ([] ++ rows.take i) ∧ Cl w2.heap.size w' s_.2.2 [[.string a1, .string a2, .slice (some ⟨w1.heap.size + 1, 0, none⟩) 1 1]] ∧ s_.2.2.ownBlock ≠ s_.2.1.ownBlock ∧ Below w2.heap.size w2 w' ∧ (w'.cell? ⟨w1.heap.size + 1 + 1, 0, none⟩ = some (.string a1) ∧ w'.cell? ⟨w1.heap.size + 1 + 1, 1, none⟩ = some (.string a2) ∧ w'.cell? ⟨w1.heap.size + 1 + 1, 2, none⟩ = some (.slice (some ⟨w1.heap.size + 1, 0, none⟩) 1 1))) ?_ ?_; rotate_left
 ·intro hCont; clear hHeld; refine two_ (i := 0) (j := 6) (Ni := some 33) (Nj := some 39) (bm_ 13 1839) (bm_ 13 1902) rfl rfl rfl rfl (jc HT_.out b9) bs bs (fun K hK => ?_) (fun K hK => ?_)
  ·skip
   refine ku (w0 := w2) (B := w2.heap.size) cI (N := 33) ?hd (rows := []) (inner := []) ?hr ?hp HX.out HX.out.size cN ?_; (case hd => rfl); (case hr => exact u6_); (case hp => exact Reps.none _ _); intro v33 w33 ho hb hst hap; have R33 := am_ ho; clear HX; have HX := am_ hb; clear ho hb hst hap; refine hK.out _ _ ⟨ab HX.out HS.out.1, ab HX.out HS.out.2.1, ab HX.out HS.out.2.2⟩ (fun hHeld => ?_); clear hK K; refine nm_ ?_; clear hHeld; refine two_ (i := 4) (j := 6) (Ni := some 37) (Nj := some 39) (bm_ 13 1855) (bm_ 13 1903) rfl rfl rfl rfl (jc HT_.out b9) bs bs (fun K hK => ?_) (fun K hK => ?_)
   ·skip
    refine k7 (w0 := w2) (B := w2.heap.size) cI (.tmp 33) (.tmp 36) rfl rfl rfl R33.out (Kd.C_below HC1.out (jd HW1.out HX.out)) HX.out HX.out.size (by have := HI.out; have := HL.out; simp; omega) ?_; intro v37 w37 ho hb hap; have R37 := am_ ho; clear HX; have HX := am_ hb; clear ho hb hap; refine hK.out _ _ ⟨ab HX.out HS.out.1, ab HX.out HS.out.2.1, ab HX.out HS.out.2.2⟩ (fun hHeld => ?_); clear hK K; refine nm_ ?_; clear hHeld; refine ov_ 6 39 (fun K hK => ?_); refine ku (w0 := w2) (B := w2.heap.size) cI (N := 39) ?hd (rows := [[.string a1, .string a2, .slice (some ⟨w1.heap.size + 1, 0, none⟩) 1 1]]) (inner := [.string a1, .string a2, .slice (some ⟨w1.heap.size + 1, 0, none⟩) 1 1]) ?hr ?hp HX.out HX.out.size cN ?_; (case hd => rfl); (case hr => exact u6_); (case hp => exact ji ⟨rfl, rfl, one3 _ _ _ _ _⟩); intro v39 w39 ho hb hst hap; have D39_R37 := am_ (hap _ _ R37.out); have R37_ := am_ (R37.out.below hst); clear R37; have R37 := R37_; clear R37_; have R39 := am_ ho; clear HX; have HX := am_ hb; clear ho hb hst hap; refine hK.out _ _ ⟨ab HX.out HS.out.1, ab HX.out HS.out.2.1, ab HX.out HS.out.2.2⟩ (fun hHeld => ?_); clear hK K; refine nm_ ?_; exact gj mP (hCont (v33, v37, v39) _ ⟨R37.out, R39.out, (Ne.symm D39_R37.out), HX.out, ⟨ab HX.out HS.out.1, ab HX.out HS.out.2.1, ab HX.out HS.out.2.2⟩⟩)
   ·skip
    refine ku (w0 := w2) (B := w2.heap.size) cI (N := 39) ?hd (rows := [[.string a1, .string a2, .slice (some ⟨w1.heap.size + 1, 0, none⟩) 1 1]]) (inner := [.string a1, .string a2, .slice (some ⟨w1.heap.size + 1, 0, none⟩) 1 1]) ?hr ?hp HX.out HX.out.size cN ?_; (case hd => rfl); (case hr => exact u6_); (case hp => exact ji ⟨rfl, rfl, one3 _ _ _ _ _⟩); intro v39 w39 ho hb hst hap; have D39_R33 := am_ (hap _ _ R33.out); have R33_ := am_ (R33.out.below hst); clear R33; have R33 := R33_; clear R33_; have R39 := am_ ho; clear HX; have HX := am_ hb; clear ho hb hst hap; refine hK.out _ _ ⟨ab HX.out HS.out.1, ab HX.out HS.out.2.1, ab HX.out HS.out.2.2⟩ (fun hHeld => ?_); clear hK K; refine nm_ ?_; clear hHeld; refine ov_ 4 37 (fun K hK => ?_); refine k7 (w0 := w2) (B := w2.heap.size) cI (.tmp 33) (.tmp 36) rfl rfl rfl R33.out (Kd.C_below HC1.out (jd HW1.out HX.out)) HX.out HX.out.size (by have := HI.out; have := HL.out; simp; omega) ?_; intro v37 w37 ho hb hap; have R39_ := am_ (hap _ _ R39.out (Ne.symm D39_R33.out)); clear R39; have R39 := am_ R39_.out.1; have D37_R39 := am_ R39_.out.2; clear R39_; have R37 := am_ ho; clear HX; have HX := am_ hb; clear ho hb hap; refine hK.out _ _ ⟨ab HX.out HS.out.1, ab HX.out HS.out.2.1, ab HX.out HS.out.2.2⟩ (fun hHeld => ?_); clear hK K; refine nm_ ?_; exact gj mP (hCont (v33, v37, v39) _ ⟨R37.out, R39.out, D37_R39.out, HX.out, ⟨ab HX.out HS.out.1, ab HX.out HS.out.2.1, ab HX.out HS.out.2.2⟩⟩)
  ·skip
   refine ku (w0 := w2) (B := w2.heap.size) cI (N := 39) ?hd (rows := [[.string a1, .string a2, .slice (some ⟨w1.heap.size + 1, 0, none⟩) 1 1]]) (inner := [.string a1, .string a2, .slice (some ⟨w1.heap.size + 1, 0, none⟩) 1 1]) ?hr ?hp HX.out HX.out.size cN ?_; (case hd => rfl); (case hr => exact u6_); (case hp => exact ji ⟨rfl, rfl, one3 _ _ _ _ _⟩); intro v39 w39 ho hb hst hap; have R39 := am_ ho; clear HX; have HX := am_ hb; clear ho hb hst hap; refine hK.out _ _ ⟨ab HX.out HS.out.1, ab HX.out HS.out.2.1, ab HX.out HS.out.2.2⟩ (fun hHeld => ?_); clear hK K; refine nm_ ?_; clear hHeld; refine ov_ 0 33 (fun K hK => ?_); refine ku (w0 := w2) (B := w2.heap.size) cI (N := 33) ?hd (rows := []) (inner := []) ?hr ?hp HX.out HX.out.size cN ?_; (case hd => rfl); (case hr => exact u6_); (case hp => exact Reps.none _ _); intro v33 w33 ho hb hst hap; have D33_R39 := am_ (hap _ _ R39.out); have R39_ := am_ (R39.out.below hst); clear R39; have R39 := R39_; clear R39_; have R33 := am_ ho; clear HX; have HX := am_ hb; clear ho hb hst hap; refine hK.out _ _ ⟨ab HX.out HS.out.1, ab HX.out HS.out.2.1, ab HX.out HS.out.2.2⟩ (fun hHeld => ?_); clear hK K; refine nm_ ?_; clear hHeld; refine ov_ 4 37 (fun K hK => ?_); refine k7 (w0 := w2) (B := w2.heap.size) cI (.tmp 33) (.tmp 36) rfl rfl rfl R33.out (Kd.C_below HC1.out (jd HW1.out HX.out)) HX.out HX.out.size (by have := HI.out; have := HL.out; simp; omega) ?_; intro v37 w37 ho hb hap; have R39_ := am_ (hap _ _ R39.out D33_R39.out); clear R39; have R39 := am_ R39_.out.1; have D37_R39 := am_ R39_.out.2; clear R39_; have R37 := am_ ho; clear HX; have HX := am_ hb; clear ho hb hap; refine hK.out _ _ ⟨ab HX.out HS.out.1, ab HX.out HS.out.2.1, ab HX.out HS.out.2.2⟩ (fun hHeld => ?_); clear hK K; refine nm_ ?_; exact gj mP (hCont (v33, v37, v39) _ ⟨R37.out, R39.out, D37_R39.out, HX.out, ⟨ab HX.out HS.out.1, ab HX.out HS.out.2.1, ab HX.out HS.out.2.2⟩⟩)
 clear hHeld HX; rintro ⟨v33, v37, v39⟩ w3 ⟨hr37, hr39, hne, hx, hHeld⟩; have R37 := am_ hr37; have R39 := am_ hr39; have HX := am_ hx; have HNE := am_ hne; obtain ⟨A39, c39, e39, _, hc39⟩ := Kd.R_reads hr39.1; simp only at e39; subst e39; have HC39 := am_ hc39; clear hr37 hr39 hx hne hc39; simp only [iu, Act.put, List.setIfInBounds_toArray, List.set_cons_zero, List.set_cons_succ]; refine ov_ 7 40 (fun K hK => ?_); refine k7 (w0 := w2) (B := w2.heap.size) cI (.tmp 37) (.tmp 39) rfl rfl rfl R37.out HC39.out HX.out HX.out.size u67_ ?_; intro v40 w40 ho hb hap; have R40 := am_ ho; clear HX; have HX := am_ hb; clear ho hb hap; refine hK.out _ _ ⟨ab HX.out HS.out.1, ab HX.out HS.out.2.1, ab HX.out HS.out.2.2⟩ (fun hHeld => ?_); clear hK K; refine nm_ ?_; clear hHeld; refine ov_ 11 44 (fun K hK => ?_); refine k7 (w0 := w2) (B := w2.heap.size) cI (.tmp 40) (.tmp 43) rfl rfl rfl R40.out (Kd.C_below HC2.out (jd HW1.out HX.out)) HX.out HX.out.size u67_ ?_; intro v44 w44 ho hb hap; have R44 := am_ ho; clear HX; have HX := am_ hb; clear ho hb hap; refine hK.out _ _ ⟨ab HX.out HS.out.1, ab HX.out HS.out.2.1, ab HX.out HS.out.2.2⟩ (fun hHeld => ?_); clear hK K; refine nm_ ?_; refine pv_ 12 10 ?_; refine dn_ HT_ ?_; try go_wp2
 go_ret
 exact ⟨v44, rfl, HRR.out ▸ qO HM.out HRL.out HI.out HP.out R44.out HW1.out HB1.out HBW.out HX.out HB0.out.size ⟨Nat.le_refl _, by have := HZ.out; omega⟩, HB0.out.trans ((HW1.out.mono HB0.out.size).trans (HX.out.mono (Nat.le_trans HB0.out.size HW1.out.size))), Kept.of_below (HW1.out.trans (HX.out.mono HW1.out.size)) _⟩
end
section
open Go Go.RowKit Go.Proofs.YtnjjdojonflckaaGreatDoorW.PrintWords Go.Proofs.YtnjjdojonflckaaGreatDoorW.PrintLast Go.Proofs.YtnjjdojonflckaaGreatDoorW.PrintMore Go.Proofs.YtnjjdojonflckaaGreatDoor.Ent
theorem k4 (a3 a4 : Int) (w1 : World) (b : Nat) (hb : b ≤ w1.heap.size) : k50.M (w1.alloc (.cells #[.int .i64 a4] 3)) b (fun k => k = w1.heap.size) ⟨a3, [a4]⟩ [.int .i64 a3, .slice (some ⟨w1.heap.size, 0, none⟩) 1 1] := by
 refine iR _ _ _ _ ?_; have h := kS (enc := Value.int .i64) w1 b 3 [a4] hb cN; exact Kd.R_of_own h (fun k hk => by simpa [Value.ownBlock] using hk.symm)
theorem there {w : World} {base : Nat} {ok : Nat → Prop} {u : Value} {l : List S76} {i m : Nat} {e : S76} {p : S50} (hS : Kd.S kE 76 w base ok u l) (he : l[i]? = some e) (hp : e.f2[m]? = some p) (hm : e.f2.length = m + 1) :
  ∃ g cap g2 cap2 u2, ∃ oki2 oki : Nat → Prop, u = .slice (some ⟨g, 0, none⟩) l.length cap ∧
   w.cell? ⟨g, i * 3 + 2, none⟩ = some (.slice (some ⟨g2, 0, none⟩) (m + 1) cap2) ∧ w.frozen? ⟨g, i * 3 + 2, none⟩ = false ∧
   w.cell? ⟨g2, m * 2, none⟩ = some (.int .i64 p.f0) ∧ w.cell? ⟨g2, m * 2 + 1, none⟩ = some u2 ∧ w.frozen? ⟨g2, m * 2 + 1, none⟩ = false ∧
   kI.R 3 w base oki2 u2 p.f1 ∧ (∀ k, oki2 k → ok k ∧ k < w.heap.size ∧ k ≠ g2) ∧ g2 < w.heap.size ∧ ok g2 ∧ g2 ≠ g ∧ ok g ∧ g < w.heap.size ∧ base ≤ g2 ∧ base ≤ g ∧
   (∀ (w1 : World) (u1 : Value) (x : Int) (okp : Nat → Prop), w.grownBy w1 u2.ownBlock → kI.R 3 w1 base okp u1 (p.f1 ++ [x]) → (∀ k, okp k → oki2 k ∨ w.heap.size ≤ k) →
    Kd.S kE 76 (w1.setCell ⟨g2, m * 2 + 1, none⟩ u1) base (fun k => ok k ∨ w.heap.size ≤ k) u (l.set i ⟨e.f0, e.f1, e.f2.set m ⟨p.f0, p.f1 ++ [x]⟩⟩) ∧ w1.grownBy (w1.setCell ⟨g2, m * 2 + 1, none⟩ u1) (some g2)) ∧
   Kd.S k50 50 w base oki (.slice (some ⟨g2, 0, none⟩) (m + 1) cap2) e.f2 ∧ (∀ k, oki k → ok k ∧ k < w.heap.size ∧ k ≠ g) ∧
   (∀ (w1 : World) (v3 : Value) (ps' : List S50) (okp : Nat → Prop), w.grownBy w1 (some g2) → Kd.S k50 50 w1 base okp v3 ps' → (∀ k, okp k → oki k ∨ w.heap.size ≤ k) →
    Kd.S kE 76 (w1.setCell ⟨g, i * 3 + 2, none⟩ v3) base (fun k => ok k ∨ w.heap.size ≤ k) u (l.set i ⟨e.f0, e.f1, ps'⟩) ∧ w1.grownBy (w1.setCell ⟨g, i * 3 + 2, none⟩ v3) (some g)) := by
 have hil : i < l.length := (List.getElem?_eq_some_iff.1 he).1; obtain ⟨g, cap, rfl, hbase, hlt, hcells⟩ := Kd.S_form hS u7_; have hokg : ok g := (Kd.S_R hS).1 g (by simp [Value.ownBlock]); have hA : Kd.S kE 76 w base (fun k => (ok k ∨ w.heap.size ≤ k) ∧ ¬ (w.heap.size ≤ k)) (.slice (some ⟨g, 0, none⟩) l.length cap) l :=
  Kd.S_mono (Kd.S_bound hS) (fun k hk => ⟨.inl hk.1, by have := hk.2.2.1; omega⟩)
 obtain ⟨oki, c, hcl, hM, hcc, hfr, hoki, hH⟩ := Kd.S_elem hA z76 (i : Int) u7_ u7_; have hget : l.getD ((i : Int)).toNat z76 = e := by simp [List.getD_eq_getElem?_getD, he]
 rw [hget] at hM; obtain ⟨v2, rfl, hP⟩ := nN hM; have e3 : kE.sz = 3 := rfl; have hc2 := hcc 2 _ rfl; have hf2 := hfr 2; simp only [e3, Int.toNat_natCast] at hc2 hf2; obtain ⟨g2, cap2, u2, oki2, rfl, hlt2, hb2, hok2, hcells2, hd0, hd1, hdf, hR, hoki2, hback⟩ := pg hP m p hp hm.symm; have hok' : ∀ k, oki k → ok k ∧ k < w.heap.size ∧ k ≠ g := fun k hk => by
  have h := hoki k hk; exact ⟨h.1.1.elim id (fun h2 => absurd h2 h.1.2), by have := h.1.2; omega, h.2⟩
 have hH0 : Kd.H kE 76 w base (fun k => ok k ∨ w.heap.size ≤ k) (.slice (some ⟨g, 0, none⟩) l.length cap) l (i : Int) (fun k => oki k ∨ (ok k ∨ w.heap.size ≤ k) ∧ w.heap.size ≤ k) _ := Kd.H_widen (Kd.H_mono hH (fun k hk => hk.1)); rw [hm] at hc2; refine ⟨g, cap, g2, cap2, u2, oki2, oki, rfl, hc2, hf2, hd0, hd1, hdf, hR, fun k hk => ?_, hlt2, (hok' g2 hok2).1, (hok' g2 hok2).2.2, hokg, hlt, hb2, hbase, ?_, by rw [← hm]; exact hP, hok', ?_⟩
 ·have := hoki2 k hk; exact ⟨(hok' k this.1).1, this.2.1, this.2.2⟩
 ·intro w1 u1 x okp hg hr hokp; obtain ⟨h1, h2⟩ := hback w1 u1 x okp hg hr hokp; refine ⟨?_, h2⟩; have hH1 := Kd.H_grown (Kd.H_grown hH0 hg (fun k hk => .inl (hoki2 k (hR.1 k hk)).1)) h2 (fun k hk => by injection hk with hk; subst hk; exact .inl hok2); have hM2 : kE.M (w1.setCell ⟨g2, m * 2 + 1, none⟩ u1) base (fun k => oki k ∨ w.heap.size ≤ k) ⟨e.f0, e.f1, e.f2.set m ⟨p.f0, p.f1 ++ [x]⟩⟩ [.string e.f0, .string e.f1, .slice (some ⟨g2, 0, none⟩) e.f2.length cap2] := oN _ _ _ _ h1; have := Kd.H_back hH1 hM2 (fun k hk => hk.elim .inl (fun h => .inr ⟨.inr h, h⟩)); simpa using this
 ·intro w1 v3 ps' okp hg hP' hokp; have hH1 := Kd.H_grown hH0 hg (fun k hk => by injection hk with hk; subst hk; exact .inl hok2); have hM2 : kE.M w1 base okp ⟨e.f0, e.f1, ps'⟩ [.string e.f0, .string e.f1, v3] := oN _ _ _ _ hP'; have hz := Kd.S_seg0 (okp := okp) hH1 u7_ u7_ (seg := [v3]) (j := 2) (by show 2 + 1 ≤ 3; omega) (x' := ⟨e.f0, e.f1, ps'⟩) hM2 (fun k hk => (hokp k hk).elim .inl (fun h => .inr ⟨.inr h, h⟩)); simp only [e3, Int.toNat_natCast] at hz; exact hz
theorem qw (i m : Nat) (u : Value) (l : List S76) (a1 a2 : ByteArray) (a3 a4 : Int) (k : Nat) (w0 w : World) (ok : Nat → Prop) (e : S76) (p : S50) (hB : Below w0.heap.size w0 w) (hS : Kd.S kE 76 w w0.heap.size ok u l) (hA : bB.f k l a1 a2 = some ((i : Int), true)) (he : l[i]? = some e) (hp : e.f2[m]? = some p) (hm : e.f2.length = m + 1) (hd : p.f0 = a3) (hl : e.f2.length < 1000000) (hl2 : p.f1.length < 1000000) (r : List S76) (hr : l.set i ⟨e.f0, e.f1, e.f2.set m ⟨p.f0, p.f1 ++ [a4]⟩⟩ = r) :
  Calls Tryz.prog 142 #[u, .string a1, .string a2, .int .i64 a3, .int .i64 a4] w fun e w' => ∃ v : Value, e = .returned v ∧ Kd.S kE 76 w' w0.heap.size (fun k_ => ok k_ ∨ w.heap.size ≤ k_) v r ∧ Below w0.heap.size w0 w' ∧ Kept w w' ok := by
 have hil : i < l.length := (List.getElem?_eq_some_iff.1 he).1; obtain ⟨A, c, hu, hlc, hC⟩ := Kd.S_reads (pf hS); have hmax := hC.2.1; obtain ⟨g0, cap0, hu0, hx1_, hx2_, hx3_⟩ := Kd.S_form hS u7_; rw [hu] at hu0; injection hu0 with hA0 hy1_ hy2_
 clear hx1_ hx2_ hx3_ hy1_ hy2_; subst hA0; subst hu; have HS := am_ hS; have HB0 := am_ hB; have HA := am_ hA; have HE := am_ he; have HP := am_ hp; have HMM := am_ hm; have HD := am_ hd; have HRR := am_ hr; have HL := am_ hl; have HL2 := am_ hl2; have hmb : m ≤ 1000000 := by omega
 have hq1 : decide ((i : Int) < (l.length : Int)) = true := decide_eq_true u7_; have hq2 : (0 ≤ (i : Int)) = True := eq_true u7_; have hq3 : ((i : Int) < (l.length : Int)) = True := eq_true u7_; have hq4 : (0 ≤ (m : Int)) = True := eq_true u7_; have hq5 : ((m : Int) < ((m + 1 : Nat) : Int)) = True := eq_true u7_; clear hS hB hA he hp hm hd hr hl hl2; have HIL := am_ hil; clear hil hmax; go_enter Tryz.func142, Tryz.ntmps142
 go_wp2_with (first | (go_at_call 95; refine (bB.calls k _ _ _ _ _ _ _ _ hC hlc HA.out).mono ?_; rintro e1 w1 ⟨rfl, hd⟩; have HB1 := am_ hd.below; clear hd; obtain ⟨g, cap, g2, cap2, u2, oki2, oki, hu, hc2, hf2, hd0, hd1, hdf, hR, hoki2, hlt2, hok2, hne2, hok, hltg, hbg2, hbg, hsame, hpost, hoki, hnext⟩ := there (Kd.S_below HS.out HB1.out) HE.out HP.out HMM.out; injection hu with hu1 hy1_ hy2_; injection hu1 with hu1; injection hu1 with hu1 hy3_ hy4_; clear hy1_ hy2_ hy3_ hy4_; subst hu1; rw [HD.out] at hd0; have HR := am_ hR; have HOK2 := am_ hoki2; have HSAME := am_ hsame; have HX1 := am_ (And.intro hok2 (And.intro hne2 (And.intro hok (And.intro hltg (And.intro hlt2 (And.intro hbg2 hbg)))))); clear hbg2 hbg hR hoki2 hsame hpost hoki hnext hok2 hne2 hok hltg hlt2) | ((with_reducible refine bM (b := .append) (xs := #[.tmp 66, .tmp 68]) rfl ?_); at_builtin; refine Kd.R_append kI (w0 := w0) w0.heap.size rfl (.tmp 66) (.tmp 68) 39 3 (.int .i64 0) 8 rfl Tryz.underlying39 rE rfl bs u7_ u2 p.f1 a4 [.int .i64 a4] (fun k => oki2 k ∨ w1.heap.size ≤ k) (fun _ => False) rfl rfl rfl (fun _ hk => hk.elim) (fun k hk => .inr hk) (Kd.R_mono HR.out (fun _ hk => .inl hk)) (HB0.out.trans (HB1.out.mono HB0.out.size)) (Nat.le_trans HB0.out.size HB1.out.size) (by have := HL2.out; omega) ?_; intro u3 w3 ho hb hg hat; have hne : some g2 ≠ u2.ownBlock := (fun he => (HOK2.out g2 (HR.out.1 g2 he.symm)).2.2 rfl); have hh := hg.block g2 HX1.out.2.2.2.2.1 hne; replace hd1 := Go.Proofs.YtnjjdojonflckaaGreatDoorW.PrintWords.cell_grown hg hd1 hne; replace hdf : w3.frozen? ⟨g2, m * 2 + 1, none⟩ = false := (by simpa [World.frozen?, hh] using hdf); obtain ⟨A3, c3, rfl⟩ := Kd.R_slice ho; have HR3 := am_ ho; have HB3 := am_ hb; have HG := am_ hg; clear ho hb hg hat hne hh hd0 hc2 hf2))
 go_ret
 have hz := HSAME.out w3 _ a4 _ HG.out HR3.out (fun _ hk => hk); simp only [List.length_append, List.length_singleton] at hz; refine ⟨.slice (some ⟨g0, 0, none⟩) l.length c, rfl, ?_, eY HB3.out (some g2) (HB3.out.size) hz.2 (fun k hk => by injection hk with hk; rw [← hk]; exact HX1.out.2.2.2.2.2.1), ?_⟩
 ·exact u64_
 ·exact Kept.of_grown hz.2 (Kept.of_grown HG.out (Kept.of_below HB1.out ok) (fun k hk => .inl (HOK2.out k (HR.out.1 k hk)).1)) (fun k hk => by injection hk with hk; rw [← hk]; exact .inl HX1.out.1)
theorem qE (i m : Nat) (u : Value) (l : List S76) (a1 a2 : ByteArray) (a3 a4 : Int) (k : Nat) (w0 w : World) (ok : Nat → Prop) (e : S76) (p : S50) (hB : Below w0.heap.size w0 w) (hS : Kd.S kE 76 w w0.heap.size ok u l) (hA : bB.f k l a1 a2 = some ((i : Int), true)) (he : l[i]? = some e) (hp : e.f2[m]? = some p) (hm : e.f2.length = m + 1) (hd : p.f0 ≠ a3) (hl : e.f2.length < 1000000) (r : List S76) (hr : l.set i ⟨e.f0, e.f1, e.f2 ++ [⟨a3, [a4]⟩]⟩ = r) :
  Calls Tryz.prog 142 #[u, .string a1, .string a2, .int .i64 a3, .int .i64 a4] w fun e w' => ∃ v : Value, e = .returned v ∧ Kd.S kE 76 w' w0.heap.size (fun k_ => ok k_ ∨ w.heap.size ≤ k_) v r ∧ Below w0.heap.size w0 w' ∧ Kept w w' ok := by
 have hil : i < l.length := (List.getElem?_eq_some_iff.1 he).1; obtain ⟨A, c, hu, hlc, hC⟩ := Kd.S_reads (pf hS); have hmax := hC.2.1; obtain ⟨g0, cap0, hu0, hx1_, hx2_, hx3_⟩ := Kd.S_form hS u7_; rw [hu] at hu0; injection hu0 with hA0 hy1_ hy2_
 clear hx1_ hx2_ hx3_ hy1_ hy2_; subst hA0; subst hu; have HS := am_ hS; have HB0 := am_ hB; have HA := am_ hA; have HE := am_ he; have HP := am_ hp; have HMM := am_ hm; have HRR := am_ hr; have HL := am_ hl; have hdb : (p.f0 == a3) = false := by simpa using hd
 have hmb : m ≤ 1000000 := by omega
 have hq1 : decide ((i : Int) < (l.length : Int)) = true := decide_eq_true u7_; have hq2 : (0 ≤ (i : Int)) = True := eq_true u7_; have hq3 : ((i : Int) < (l.length : Int)) = True := eq_true u7_; have hq4 : (0 ≤ (m : Int)) = True := eq_true u7_; have hq5 : ((m : Int) < ((m + 1 : Nat) : Int)) = True := eq_true u7_; clear hS hB hA he hp hm hd hr hl hil hmax; go_enter Tryz.func142, Tryz.ntmps142
 go_wp2_with (first | (go_at_call 95; refine (bB.calls k _ _ _ _ _ _ _ _ hC hlc HA.out).mono ?_; rintro e1 w1 ⟨rfl, hd⟩; have HB1 := am_ hd.below; clear hd; obtain ⟨g, cap, g2, cap2, u2, oki2, oki, hu, hc2, hf2, hd0, hd1, hdf, hR, hoki2, hlt2, hok2, hne2, hok, hltg, hbg2, hbg, hsame, hpost, hoki, hnext⟩ := there (Kd.S_below HS.out HB1.out) HE.out HP.out HMM.out; injection hu with hu1 hy1_ hy2_; injection hu1 with hu1; injection hu1 with hu1 hy3_ hy4_; clear hy1_ hy2_ hy3_ hy4_; subst hu1; have HPO := am_ hpost; have HOKI := am_ hoki; have HNEXT := am_ hnext; have HX1 := am_ (And.intro hok2 (And.intro hne2 (And.intro hok (And.intro hltg (And.intro hlt2 (And.intro hbg2 hbg)))))); clear hbg2 hbg hR hoki2 hsame hpost hoki hnext hok2 hne2 hok hltg hlt2 hd1 hdf) | ((with_reducible refine bM (b := .append) (xs := #[.tmp 74, .tmp 79]) rfl ?_); at_builtin; refine Kd.S_append k50 (w0 := w0) w0.heap.size rfl (.tmp 74) (.tmp 79) 34 50 (.agg #[(.int .i64 0), (.slice none 0 0)]) 32 rfl Tryz.underlying34 m4 rfl bs u7_ (.slice (some ⟨g2, 0, none⟩) (m + 1) cap2) e.f2 (⟨a3, [a4]⟩ : S50) [.int .i64 a3, .slice (some ⟨w1.heap.size, 0, none⟩) 1 1] (fun k => oki k ∨ w1.heap.size ≤ k) (fun k => k = w1.heap.size) rfl u66_ ?aP ?aK ?aF ?aO ?aB ?aS ?aL ?_; (case aP => exact k4 a3 a4 w1 w0.heap.size (Nat.le_trans HB0.out.size HB1.out.size)); (case aK => exact (fun k hk => ⟨.inr u7_, by have := HX1.out.2.2.2.2.1; simp [Value.ownBlock]; omega⟩)); (case aF => exact (fun k hk => .inr (by simp at hk; omega))); (case aO => exact Kd.S_alloc (Kd.S_mono (Kd.S_bound HPO.out) (fun k hk => ⟨.inl hk.1, by have := hk.2.2.1; omega⟩)) _); (case aB => exact bF (HB0.out.trans (HB1.out.mono HB0.out.size)) _); (case aS => exact Nat.le_trans (Nat.le_trans HB0.out.size HB1.out.size) cN); (case aL => have := HL.out; omega); intro v3 w3 ho hb hg hat; have hg' : w1.grownBy w3 (some g2) := World.grownBy.trans (World.grownBy_alloc w1 _ _) hg; have hne : some g0 ≠ some g2 := (fun he => HX1.out.2.1 (by injection he with he; exact he.symm)); have hh := hg'.block g0 HX1.out.2.2.2.1 hne; replace hc2 := Go.Proofs.YtnjjdojonflckaaGreatDoorW.PrintWords.cell_grown hg' hc2 hne; replace hf2 : w3.frozen? ⟨g0, i * 3 + 2, none⟩ = false := (by simpa [World.frozen?, hh] using hf2); obtain ⟨A3, c3, rfl⟩ := Kd.S_slice ho; have HR3 := am_ ho; have HB3 := am_ hb; have HG := am_ hg'; clear ho hb hg hg' hat hne hh hd0))
 go_ret
 have hz := HNEXT.out w3 _ _ _ HG.out HR3.out (fun _ hk => hk); simp only [List.length_append, List.length_singleton] at hz; refine ⟨.slice (some ⟨g0, 0, none⟩) l.length c, rfl, ?_, eY HB3.out (some g0) (HB3.out.size) hz.2 (fun k hk => by injection hk with hk; rw [← hk]; exact HX1.out.2.2.2.2.2.2), ?_⟩
 ·exact u64_
 ·exact Kept.of_grown hz.2 (Kept.of_grown HG.out (Kept.of_below HB1.out ok) (fun k hk => by injection hk with hk; rw [← hk]; exact .inl HX1.out.1)) (fun k hk => by injection hk with hk; rw [← hk]; exact .inl HX1.out.2.2.1)
end
section
open Go Go.RowKit Go.Proofs.YtnjjdojonflckaaGreatDoorW.PrintWords Go.Proofs.YtnjjdojonflckaaGreatDoorW.PrintLast Go.Proofs.YtnjjdojonflckaaGreatDoorW.PrintMore Go.Proofs.YtnjjdojonflckaaGreatDoor.Ent
theorem ob {ps : List S50} {m : Nat} {p : S50} (hp : ps[m]? = some p) (hm : ps.length = m + 1) (id x : Int) : ff ps id x = if p.f0 = id then ps.set m ⟨p.f0, p.f1 ++ [x]⟩ else ps ++ [⟨id, [x]⟩] := by
 have hl : ps.getLast? = some p := by rw [List.getLast?_eq_getElem?, hm]; exact hp
 unfold ff
 rw [hl, hm]; rfl
theorem cn.calls (k : Nat) (u : Value) (l : List S76) (a1 a2 : ByteArray) (a3 a4 : Int) (r : List S76) (w0 w : World) (ok : Nat → Prop) (hB : Below w0.heap.size w0 w) (hS : Kd.S kE 76 w w0.heap.size ok u l) (h : cn.f k l a1 a2 a3 a4 = some r) :
  Calls Tryz.prog 142 #[u, .string a1, .string a2, .int .i64 a3, .int .i64 a4] w fun e w' => ∃ v : Value, e = .returned v ∧ Kd.S kE 76 w' w0.heap.size (fun k_ => ok k_ ∨ w.heap.size ≤ k_) v r ∧ Below w0.heap.size w0 w' ∧ Kept w w' ok := by
 unfold cn.f at h
 obtain ⟨⟨r1, r2⟩, hA, h⟩ := Option.bind_eq_some_iff.1 h; cases r2 with
 | false =>
  simp only [Bool.false_eq_true, if_false] at h; by_cases hc : 0 ≤ r1 ∧ r1 ≤ (l.length : Int) ∧ l.length < 1000000
  ·rw [if_pos hc] at h; obtain ⟨i, rfl⟩ := Int.eq_ofNat_of_zero_le hc.1; exact qU i u l a1 a2 a3 a4 k w0 w ok hB hS hA u7_ hc.2.2 r (Option.some.inj h)
  ·rw [if_neg hc] at h; cases h
 | true =>
  simp only [if_true] at h; cases he : l[r1.toNat]? with
  | none => rw [he] at h; cases h
  | some e =>
   rw [he] at h; simp only at h; by_cases hc : 0 ≤ r1 ∧ e.f2 ≠ [] ∧ wide e.f2 = true
   ·rw [if_pos hc] at h; obtain ⟨i, rfl⟩ := Int.eq_ofNat_of_zero_le hc.1; rw [Int.toNat_natCast] at he h; have hpos : 0 < e.f2.length := List.length_pos_iff.2 hc.2.1; obtain ⟨m, hm⟩ : ∃ m, e.f2.length = m + 1 := ⟨e.f2.length - 1, u7_⟩; have hp : e.f2[m]? = some (e.f2[m]'u7_) := List.getElem?_eq_getElem _; have hw := hc.2.2; unfold wide at hw
    rw [Bool.and_eq_true, decide_eq_true_eq, List.all_eq_true] at hw; rw [ob hp hm] at h; by_cases hd : (e.f2[m]'u7_).f0 = a3
    ·rw [if_pos hd] at h; exact qw i m u l a1 a2 a3 a4 k w0 w ok e _ hB hS hA he hp hm hd hw.1 (by simpa using hw.2 _ (List.getElem_mem _)) r (Option.some.inj h)
    ·rw [if_neg hd] at h; exact qE i m u l a1 a2 a3 a4 k w0 w ok e _ hB hS hA he hp hm hd hw.1 r (Option.some.inj h)
   ·rw [if_neg hc] at h; cases h
def cl.ts (k : Nat) (id : Int) (name : ByteArray) : List ByteArray → Int → List S76 → Option (List S76)
 | [], _, L => some L
 | t :: ts, x, L => if t.size = 0 then cl.ts k id name ts (x + 1) L else (cn.f k L name t id x).bind fun L' => cl.ts k id name ts (x + 1) L'
def cl.cs (k : Nat) (fs : List S92) (id : Int) : List S86 → List S76 → Option (List S76)
 | [], L => some L
 | c :: cs, L => (dH.f k fs c.f0 1).bind fun b => if b = true then (cy.f k c.f1).bind fun ts => (cl.ts k id c.f0 ts 0 L).bind fun L' => cl.cs k fs id cs L' else cl.cs k fs id cs L
def bZ.rs (k : Nat) (fs : List S92) : List S46 → List S76 → Option (List S76)
 | [], L => some L
 | r :: rs, L => (cl.cs k fs r.f0 r.f1.f1 L).bind fun L' => bZ.rs k fs rs L'
theorem rO {w : World} {A : Option Addr} {xs : List ByteArray} (h : Kd.C Kd.string w A xs.length xs) (j : Nat) (hj : j < xs.length) : ∃ ad, A = some ad ∧ w.cell? (ad.add j) = some (.string xs[j]) := by
 obtain ⟨ad, c, e, hcl, hK, hc⟩ := Kd.C_get h ByteArray.empty (j : Int) u7_ u7_; have hk : c = [.string (xs.getD ((j : Int)).toNat ByteArray.empty)] := hK; subst hk; have := hc 0 _ rfl; have e1 : Kd.string.sz = 1 := rfl; rw [e1, Nat.mul_one, Nat.add_zero, Int.toNat_natCast] at this; refine ⟨ad, e, ?_⟩; rw [this, List.getD_eq_getElem?_getD, List.getElem?_eq_getElem hj]; rfl
theorem sd {ops : Array Oper} {rest : List Oper} {o : Oper} {a : Act} {Q : Exit → Act → World → Prop} {w0 W : World} {B : Nat} (hgd : o.guard = none) {N : Tmp} (hd : o.dst = some N)
  (hrun : (execOp a.eval o).run Tryz.prog W = .ok (.value (.slice (some ⟨W.heap.size, 0, none⟩) 0 0)) (W.alloc (.cells #[] 76)))
  (HB : Below B w0 W) (hbase : B ≤ W.heap.size) (h : ∀ v1 w1, Kd.S kE 76 w1 B (fun _ => True) v1 [] → Below B w0 w1 → wpList Tryz.prog ops Q rest (a.put o.dst v1) w1) : wpList Tryz.prog ops Q (o :: rest) a W :=
 Kd.S_lit kE (w0 := w0) B 76 hgd hd (xs := []) (inner := []) (ok := fun _ => True) (okp := fun _ => True) hrun (Reps.none _ _) (fun _ hk => hk) trivial HB hbase cN (fun v1 w1 hs hb _ _ => h v1 w1 hs hb)
theorem qG {b : Bool} (s : ByteArray) (h : (!s.toList.isEmpty) = b) : decide (s.size = 0) = !b := by
 subst h; have e : s.toList.length = s.size := by rw [ByteArray.toList_eq]; exact Array.length_toList
 by_cases h : s.size = 0
 ·have : s.toList = [] := List.eq_nil_of_length_eq_zero u7_; simp [h, this]
 ·have : s.toList ≠ [] := fun h2 => h (by rw [← e, h2]; rfl)
  simp [h, this]
theorem oh (k : Nat) (A0 : Option Addr) (c0 : Nat) (fs : List S92) (u : Value) (L : List S76) (id : Int) (key : ByteArray) (A2 : Option Addr) (c2 : Nat) (cs : List S86) (r : List S76) (w0 w : World) (ok : Nat → Prop) (hB : Below w0.heap.size w0 w) (hS : Kd.S kE 76 w w0.heap.size ok u L)
  (hF : ∀ W, Below w0.heap.size w0 W → Kept w W ok → Kd.C k92 W A0 fs.length fs) (hF0 : fs.length ≤ c0) (hC : ∀ W, Below w0.heap.size w0 W → Kept w W ok → Kd.C k86 W A2 cs.length cs) (hC0 : cs.length ≤ c2) (h : cl.cs k fs id cs L = some r) :
  Calls Tryz.prog 101 #[.slice A0 fs.length c0, u, .agg #[.int .i64 id, .string key, .slice A2 cs.length c2]] w fun e w' => ∃ v : Value, e = .returned v ∧ Kd.S kE 76 w' w0.heap.size (fun k_ => ok k_ ∨ w.heap.size ≤ k_) v r ∧ Below w0.heap.size w0 w' ∧ Kept w w' ok := by
 have hlen := (hC w hB (Kept.refl _ _)).2.1; have HF := am_ hF; have HC := am_ hC; have HF0 := am_ hF0; have H := am_ h; have HB := am_ hB; have HK := am_ (Kept.refl w ok); have HS := am_ hS; clear hF hC hF0 h hB hS; have hu46_ := Tryz.underlying46; go_enter Tryz.func101, Tryz.ntmps101
 go_wp2_with (first | ((with_reducible refine gt_ 5 ?_); refine bx_ 5 #[.int .i64 id, .string key, .slice A2 cs.length c2] 46 ?_; intro gb hg w2 hbox hb; have BK := am_ hbox; have HGB := am_ hg; replace HS := am_ (Kd.S_below (Kd.S_bound HS.out) hb); replace HB := am_ (eO HB.out HB.out.size hb); replace HK := am_ (Kept.below HK.out hb); have HW2 := am_ hb.size; have HLT := am_ (dO hbox); clear hb hbox hg))
 go_loopw [1, 7] (fun v1 v7 wr => ∃ (i : Nat) (L' : List S76), v7 = .int .i64 (i : Int) ∧ i ≤ cs.length ∧ aa (cl.cs k fs id (cs.drop i) L' = some r) ∧ aa (Kd.S kE 76 wr w0.heap.size (fun k_ => (ok k_ ∨ w.heap.size ≤ k_) ∧ k_ ≠ gb) v1 L') ∧ aa (wr.heap[gb]? = some (.cells #[.int .i64 id, .string key, .slice A2 cs.length c2] 46 (0, 0))) ∧ aa (Below w0.heap.size w0 wr) ∧ aa (Kept w wr ok)) (fun _ v _ => match v with | .int _ i => cs.length - i.toNat | _ => 0)
 case atStart => exact ⟨0, L, rfl, Nat.zero_le _, H, ⟨Kd.S_mono HS.out (fun k_ hk => ⟨.inl hk.1, by have := hk.2.2.1; have := HGB.out; omega⟩)⟩, BK, HB, HK⟩
 case round =>
  clear HS BK HB HK H; obtain ⟨i, L', rfl, hi, H, HS, BK, HB, HK⟩ := hrel; rcases Nat.lt_or_ge i cs.length with hlt | hge
  ·obtain ⟨ad, e, hx0, hx1⟩ := dp (HC.out wr HB.out HK.out) (i : Int) u7_ u7_; subst e; simp only [Int.toNat_natCast] at hx0 hx1; have hrd : ah cs (i : Int) = cs[i] := by unfold ah; simp [List.getD_eq_getElem?_getD, List.getElem?_eq_getElem hlt]
   rw [hrd] at hx0 hx1; have h := H.out; rw [List.drop_eq_getElem_cons hlt, cl.cs] at h; generalize cs[i] = c at hx0 hx1 h hrd; have HRD := am_ hrd; clear hrd; obtain ⟨b, hb, h⟩ := Option.bind_eq_some_iff.1 h; have HKI := am_ hb; have hz0 : wr.cell? ⟨gb, 0, none⟩ = some (.int .i64 id) := (bn BK.out 0).trans rfl; have hz2 : wr.cell? ⟨gb, 2, none⟩ = some (.slice (some ad) cs.length c2) := (bn BK.out 2).trans rfl; have p1 : ((i : Int) < (cs.length : Int)) = True := eq_true u7_; have p0 : (0 ≤ (i : Int)) = True := eq_true u7_; cases b with
   | false =>
    simp only [Bool.false_eq_true, if_false] at h; have H2 := am_ h; clear h H; go_wp2_with (first | (go_at_call 140; refine (dH.calls k _ _ _ _ _ _ _ (HF.out wr HB.out HK.out) HF0.out HKI.out).mono ?_; rintro e w3 ⟨rfl, hd⟩; have hbe := hd.below; replace HS := am_ (Kd.S_below HS.out hbe); replace BK := am_ (aU BK.out hbe); replace HB := am_ (eO HB.out HB.out.size hbe); replace HK := am_ (Kept.below HK.out hbe); clear hd hbe hx0 hx1 hz0 hz2))
    go_roundw
    case rel => exact ⟨i + 1, L', gx, u7_, H2, HS, BK, HB, HK⟩
    case measure => simp; omega
   | true =>
    simp only [if_true] at h; obtain ⟨ts, hts, h⟩ := Option.bind_eq_some_iff.1 h; obtain ⟨L2, hL2, h⟩ := Option.bind_eq_some_iff.1 h; have HTS := am_ hts; have HL2 := am_ hL2; have H2 := am_ h; clear h H hts hL2; go_wp2_with (first | (go_at_call 140; refine (dH.calls k _ _ _ _ _ _ _ (HF.out wr HB.out HK.out) HF0.out HKI.out).mono ?_; rintro e w3 ⟨rfl, hd⟩; have hbe := hd.below; replace HS := am_ (Kd.S_below HS.out hbe); replace BK := am_ (aU BK.out hbe); replace HB := am_ (eO HB.out HB.out.size hbe); replace HK := am_ (Kept.below HK.out hbe); replace hx0 := ab hbe hx0; replace hx1 := ab hbe hx1; replace hz0 := ab hbe hz0; replace hz2 := ab hbe hz2; clear hd hbe) | (go_at_call 141; refine (cy.calls k _ _ _ HTS.out).mono ?_; rintro e w4 ⟨vt, rfl, ht, hbe⟩; obtain ⟨A8, c8, rfl⟩ := Kd.R_slice ht; have HS4 := am_ (Kd.S_elder' HS.out (Kd.R_base ht) hbe); have HT := am_ (Kd.R_lower (Kd.R_tight rfl ht) HB.out.size); replace BK := am_ (aU BK.out hbe); replace HB := am_ (eO HB.out HB.out.size hbe); replace HK := am_ (Kept.below HK.out hbe); replace hx0 := ab hbe hx0; replace hx1 := ab hbe hx1; replace hz0 := ab hbe hz0; replace hz2 := ab hbe hz2; clear hbe ht HS))
    clear hx0 hx1 hz0 hz2; have hlt8 := (Kd.R_reads' HT.out).2.2.2.1; go_loopw [1, 9] (fun v1 v9 wq => ∃ (j : Nat) (L3 : List S76), v9 = .int .i64 (j : Int) ∧ j ≤ ts.length ∧ aa (cl.ts k id c.f0 (ts.drop j) (j : Int) L3 = some L2) ∧ aa (Kd.S kE 76 wq w0.heap.size (fun k_ => ((ok k_ ∨ w.heap.size ≤ k_) ∧ k_ ≠ gb) ∧ some k_ ≠ (Value.slice A8 ts.length c8).ownBlock) v1 L3) ∧ aa (Kd.R Kd.string 9 wq w0.heap.size (fun k_ => some k_ = (Value.slice A8 ts.length c8).ownBlock) (.slice A8 ts.length c8) ts) ∧ aa (wq.heap[gb]? = some (.cells #[.int .i64 id, .string key, .slice (some ad) cs.length c2] 46 (0, 0))) ∧ aa (Below w0.heap.size w0 wq) ∧ aa (Kept w wq ok)) (fun _ v _ => match v with | .int _ i => ts.length - i.toNat | _ => 0)
    case atStart => exact ⟨0, L', rfl, Nat.zero_le _, HL2, HS4, HT, BK, HB, HK⟩
    case round =>
     clear HS4 HT BK HB HK HL2; obtain ⟨j, L3, rfl, hj, HL2, HS, HT, BK, HB, HK⟩ := hrel; rcases Nat.lt_or_ge j ts.length with hjlt | hjge
     ·have h := HL2.out; rw [List.drop_eq_getElem_cons hjlt, cl.ts] at h; have htc := (Kd.R_reads' HT.out).2.2; obtain ⟨ad8, e8, hy⟩ := rO htc j hjlt; subst e8; obtain ⟨ad', e', hx0, hx1⟩ := dp (HC.out wr HB.out HK.out) (i : Int) u7_ u7_; cases e'; rw [HRD.out] at hx0 hx1; simp only [Int.toNat_natCast] at hx0 hx1; have hz0 : wr.cell? ⟨gb, 0, none⟩ = some (.int .i64 id) := (bn BK.out 0).trans rfl; have hz2 : wr.cell? ⟨gb, 2, none⟩ = some (.slice (some ad) cs.length c2) := (bn BK.out 2).trans rfl; have q1 : ((j : Int) < (ts.length : Int)) = True := eq_true u7_; have q0 : (0 ≤ (j : Int)) = True := eq_true u7_; generalize ts[j] = tt at h hy; generalize hte : (!tt.toList.isEmpty) = bt; have hsz := qG tt hte; cases bt with
      | false =>
       rw [if_pos (by simpa using hsz)] at h; have HN := am_ h; clear h hsz htc; go_wp2; go_roundw
       case rel => exact ⟨j + 1, L3, gx, u7_, by simpa using HN, HS, HT, BK, HB, HK⟩
       case measure => simp; omega
      | true =>
       rw [if_neg (by simpa using hsz)] at h; obtain ⟨L4, hL4, h⟩ := Option.bind_eq_some_iff.1 h; have HN := am_ h; have HL4 := am_ hL4; clear h hsz htc hL4; go_wp2; refine wp_region_still_tail 15 b9 b9 ?_; simp only [List.take_succ_cons, List.take_zero, List.drop_succ_cons, List.drop_zero]; change wpStill _ _ (World.drew _) _ _ _
       repeat still_step
       refine wpStill_nil ?_; change wpList _ _ _ _ _ (World.drew _)
       have HS' := am_ (Kd.S_drew HS.out); have HT' := am_ (Kd.R_drew HT.out); have BK' := am_ (cd BK.out); have HB' := am_ (aQ HB.out); have HK' := am_ (Kept.drew HK.out); clear hx0 hx1 hz0 hz2 hy HS HT BK HB HK; generalize wr.drew = w5 at HS' HT' BK' HB' HK' ⊢; go_wp2_with (first | (go_at_call 142; refine (cn.calls k _ _ _ _ _ _ _ w0 _ _ HB'.out HS'.out HL4.out).mono ?_; rintro e w6 ⟨v6, rfl, hs, hb6, hk6⟩; have HS := am_ (Kd.S_mono hs (ok' := fun k_ => ((ok k_ ∨ w.heap.size ≤ k_) ∧ k_ ≠ gb) ∧ some k_ ≠ (Value.slice (some ad8) ts.length c8).ownBlock) (fun k_ hk => hk.elim (fun h2 => h2) (fun h2 => ⟨⟨.inr (Nat.le_trans HK'.out.1 h2), fun he => by have := dO BK'.out; omega⟩, fun he => by have := Kd.R_lt HT'.out k_ he.symm; omega⟩))); have HT := am_ (Kd.R_kept HT'.out hk6 (fun k_ hk h2 => h2.2 hk)); have BK := am_ (e6 BK'.out hk6 (fun h2 => h2.1.2 rfl)); have HK := am_ (Kept.then_ HK'.out hk6 (fun k_ h2 => h2.1.1)); have HB := am_ hb6; clear hs hk6 hb6 HS' HT' BK' HB' HK'))
       go_roundw
       case rel => exact ⟨j + 1, L4, gx, u7_, by simpa using HN, HS, HT, BK, HB, HK⟩
       case measure => simp; omega
     ·obtain rfl : j = ts.length := by omega
      have h := HL2.out; rw [List.drop_eq_nil_of_le (Nat.le_refl _), cl.ts] at h; obtain rfl := Option.some.inj h; have q1 : (((ts.length : Nat) : Int) < (ts.length : Int)) = False := eq_false u7_; clear h; go_wp2; go_roundw
      case rel => exact ⟨i + 1, _, gx, u7_, H2, ⟨Kd.S_mono HS.out (fun k_ hk => hk.1)⟩, BK, HB, HK⟩
      case measure => simp; omega
  ·obtain rfl : i = cs.length := by omega
   have h := H.out; rw [List.drop_eq_nil_of_le (Nat.le_refl _), cl.cs] at h; obtain rfl := Option.some.inj h; have hz2 : wr.cell? ⟨gb, 2, none⟩ = some (.slice A2 cs.length c2) := (bn BK.out 2).trans rfl; have p1 : (((cs.length : Nat) : Int) < (cs.length : Int)) = False := eq_false u7_; clear h; go_wp2; go_ret
   exact ⟨_, rfl, Kd.S_mono HS.out (fun k_ hk => hk.1), HB.out, HK.out⟩
def bZ.f (k : Nat) (fs : List S92) (rows : List S46) : Option (List S76) := bZ.rs k fs rows []
theorem bZ.calls_ (k : Nat) (A0 : Option Addr) (c0 : Nat) (l0 : List S92) (A1 : Option Addr) (c1 : Nat) (l1 : List S46) (r : List S76) (w : World) (hr0 : Kd.C k92 w A0 l0.length l0) (hc0 : l0.length ≤ c0) (hr1 : Kd.C k46 w A1 l1.length l1) (hc1 : l1.length ≤ c1) (h : bZ.f k l0 l1 = some r) :
  Calls Tryz.prog 55 #[.slice A0 l0.length c0, .slice A1 l1.length c1] w fun e w' => ∃ v : Value, e = .returned v ∧ Kd.S kE 76 w' w.heap.size (fun _ => True) v r ∧ Below w.heap.size w w' := by
 have hlen := hr1.2.1; have HF := am_ hr0; have HF0 := am_ hc0; have HR := am_ hr1; have H := am_ h; have HB := am_ (Below.refl w.heap.size w); have hu46_ := Tryz.underlying46; clear hr0 hc0 hr1 h; go_enter Tryz.func55, Tryz.ntmps55
 go_wp2_with (first | ((with_reducible refine az (N := 7) rfl ?_); refine sd (w0 := w) (B := w.heap.size) rfl (N := 7) ?hd ?hr HB.out HB.out.size ?_; (case hd => rfl); (case hr => exact u6_); intro v7 w2 hs hb; have HS := am_ hs; replace HB := am_ hb; clear hs hb))
 go_loopw [5, 6] (fun v5 v6 wr => ∃ (i : Nat) (L : List S76), v6 = .int .i64 (i : Int) ∧ i ≤ l1.length ∧ aa (bZ.rs k l0 (l1.drop i) L = some r) ∧ aa (Kd.S kE 76 wr w.heap.size (fun _ => True) v5 L) ∧ aa (Below w.heap.size w wr)) (fun _ v _ => match v with | .int _ i => l1.length - i.toNat | _ => 0)
 case atStart => exact ⟨0, [], rfl, Nat.zero_le _, H, HS, HB⟩
 case round =>
  clear HS HB H; obtain ⟨i, L, rfl, hi, H, HS, HB⟩ := hrel; rcases Nat.lt_or_ge i l1.length with hlt | hge
  ·obtain ⟨ad, A2, c2, e, hx0, hx1, hx2, hcl, hcc⟩ := fP HR.out (i : Int) u7_ u7_; subst e; simp only [Int.toNat_natCast] at hx0 hx1 hx2; replace hx0 := ab HB.out hx0; replace hx1 := ab HB.out hx1; replace hx2 := ab HB.out hx2; have hrd : ac l1 (i : Int) = l1[i] := by unfold ac; simp [List.getD_eq_getElem?_getD, List.getElem?_eq_getElem hlt]
   rw [hrd] at hx0 hx1 hx2 hcl hcc; have h := H.out; rw [List.drop_eq_getElem_cons hlt, bZ.rs] at h; generalize l1[i] = c at hx0 hx1 hx2 hcl hcc h; clear hrd; obtain ⟨L2, hL2, h⟩ := Option.bind_eq_some_iff.1 h; have HL2 := am_ hL2; have H2 := am_ h; have HCC := am_ hcc; have HCL := am_ hcl; have p1 : ((i : Int) < (l1.length : Int)) = True := eq_true u7_; have p0 : (0 ≤ (i : Int)) = True := eq_true u7_; clear h H hL2 hcc hcl; go_wp2_with (first | (go_at_call 101; refine (oh k _ _ _ _ _ _ _ _ _ _ _ w _ (fun k_ => w.heap.size ≤ k_) HB.out (Kd.S_mono (Kd.S_bound HS.out) (fun _ hk => hk.2.1)) (fun W hb _ => Kd.C_below HF.out hb) HF0.out (fun W hb _ => Kd.C_below HCC.out hb) HCL.out HL2.out).mono ?_; rintro e w6 ⟨v6, rfl, hs, hb6, hk6⟩; have HS2 := am_ (Kd.S_mono hs (ok' := fun _ => True) (fun _ _ => trivial)); have HB2 := am_ hb6; clear hs hb6 hk6 HS HB hx0 hx1 hx2))
   go_roundw
   case rel => exact ⟨i + 1, L2, gx, u7_, H2, HS2, HB2⟩
   case measure => simp; omega
  ·obtain rfl : i = l1.length := by omega
   have h := H.out; rw [List.drop_eq_nil_of_le (Nat.le_refl _), bZ.rs] at h; obtain rfl := Option.some.inj h; have p1 : (((l1.length : Nat) : Int) < (l1.length : Int)) = False := eq_false u7_; clear h; go_wp2; go_ret
   exact ⟨_, rfl, HS.out, HB.out⟩
end
theorem bZ.calls (k : Nat) (A0 : Option Addr) (c0 : Nat) (l0 : List (S92)) (A1 : Option Addr) (c1 : Nat) (l1 : List (S46)) (r : List (S76)) (w : World) (hr0 : Kd.C k92 w A0 l0.length l0) (hc0 : l0.length ≤ c0) (hr1 : Kd.C k46 w A1 l1.length l1) (hc1 : l1.length ≤ c1) (h : bZ.f k l0 l1 = some r) :
  Calls Tryz.prog 55 #[.slice A0 l0.length c0, .slice A1 l1.length c1] w fun e w' => ∃ v0_ : Value, e = .returned (v0_) ∧ Kd.R k76 76 w' w.heap.size (fun _ => True) v0_ r ∧ Below w.heap.size w w' :=
 (bZ.calls_ k A0 c0 l0 A1 c1 l1 r w hr0 hc0 hr1 hc1 h).mono fun _ _ ⟨v, he, hs, hb⟩ => ⟨v, he, Kd.S_R (pf hs), hb⟩
end
section
open Go Go.RowKit Go.Proofs.YtnjjdojonflckaaGreatDoor.Ent
section
open Go Go.RowKit Go.Sort Go.Proofs.YtnjjdojonflckaaGreatDoorW.PrintWords Go.Proofs.YtnjjdojonflckaaGreatDoorW.PrintLast Go.Proofs.YtnjjdojonflckaaGreatDoorW.PrintMore Go.Proofs.YtnjjdojonflckaaGreatDoor.Ent
abbrev Sl := Option Addr × Nat × Nat
def eV (x : S76 × Sl) : List Value := [.string x.1.f0, .string x.1.f1, .slice x.2.1 x.2.2.1 x.2.2.2]
def nj (x y : S76) : Int := ordS (x.f0, x.f1) (y.f0, y.f1)
instance : Inhabited (S76 × Sl) := ⟨(z76, none, 0, 0)⟩
theorem eE (x y : List UInt8) : Op.bytesLess x y = true ↔ x < y := by rw [Go.Proofs.bytesLess_eq]; simp
theorem nl (x y : ByteArray) : iB x y < 0 ↔ x.toList < y.toList := by
 unfold iB
 by_cases h : x.toList < y.toList
 ·rw [if_pos ((eE _ _).2 h)]; simp [h]
 ·rw [if_neg (fun h2 => h ((eE _ _).1 h2))]; simp only [h, iff_false]; split <;> simp
theorem mh (x y : ByteArray) : iB x y = 0 ↔ x.toList = y.toList := by
 unfold iB
 by_cases h : x.toList < y.toList
 ·rw [if_pos ((eE _ _).2 h)]; constructor
  ·intro h2; omega
  ·intro h2; rw [h2] at h; exact absurd h (List.lt_irrefl _)
 ·rw [if_neg (fun h2 => h ((eE _ _).1 h2))]; have hb : Op.bytesLess x.toList y.toList = false := by
   cases hc : Op.bytesLess x.toList y.toList
   ·rfl
   ·exact absurd ((eE _ _).1 hc) h
  rw [hb, Bool.false_or]; by_cases h2 : x.toList = y.toList
  ·simp [h2]
  ·simp [h2]
def ltP (p q : ByteArray × ByteArray) : Prop := p.1.toList < q.1.toList ∨ p.1.toList = q.1.toList ∧ p.2.toList < q.2.toList
theorem fV (p q : ByteArray × ByteArray) : ordS p q < 0 ↔ ltP p q := by
 unfold ordS ltP
 by_cases h : iB p.1 q.1 = 0
 ·rw [if_pos h, nl]; have h2 := (mh _ _).1 h; rw [h2]; constructor
  ·intro h3; exact .inr ⟨rfl, h3⟩
  ·rintro (h3 | ⟨_, h3⟩)
   ·exact absurd h3 (List.lt_irrefl _)
   ·exact h3
 ·rw [if_neg h, nl]; constructor
  ·intro h3; exact .inl h3
  ·rintro (h3 | ⟨h3, _⟩)
   ·exact h3
   ·exact absurd ((mh _ _).2 h3) h
theorem fz (p : ByteArray × ByteArray) : ¬ ltP p p := by
 rintro (h | ⟨_, h⟩) <;> exact absurd h (List.lt_irrefl _)
theorem fp {p q r : ByteArray × ByteArray} (h : ltP p q) (k : ltP q r) : ltP p r := by
 rcases h with h | ⟨h, h2⟩ <;> rcases k with k | ⟨k, k2⟩
 ·exact .inl (List.lt_trans h k)
 ·exact .inl (k ▸ h)
 ·exact .inl (h ▸ k)
 ·exact .inr ⟨h.trans k, List.lt_trans h2 k2⟩
theorem fS (p q : ByteArray × ByteArray) : ltP p q ∨ p = q ∨ ltP q p := by
 have ext : ∀ {a b : ByteArray}, a.toList = b.toList → a = b := fun {a b} h => by
  rw [ByteArray.toList_eq, ByteArray.toList_eq] at h; cases a; cases b; simpa using h
 have tri : ∀ a b : List UInt8, a < b ∨ a = b ∨ b < a := fun a b => by
  by_cases h1 : a < b
  ·exact .inl h1
  ·by_cases h2 : b < a
   ·exact .inr (.inr h2)
   ·exact .inr (.inl (List.le_antisymm h2 h1))
 rcases tri p.1.toList q.1.toList with h | h | h
 ·exact .inl (.inl h)
 ·rcases tri p.2.toList q.2.toList with k | k | k
  ·exact .inl (.inr ⟨h, k⟩)
  ·exact .inr (.inl (Prod.ext (ext h) (ext k)))
  ·exact .inr (.inr (.inr ⟨h.symm, k⟩))
 ·exact .inr (.inr (.inl h))
theorem swoE : SWO (ltOf fun (x y : S76 × Sl) => nj x.1 y.1) where
 irrefl x := by
  unfold ltOf nj
  rw [decide_eq_false_iff_not, fV]; exact fz _
 trans x y z h1 h2 := by
  unfold ltOf nj at *
  rw [decide_eq_true_eq, fV] at *; exact fp h1 h2
 ntrans x y z h1 h2 := by
  unfold ltOf nj at *
  rw [decide_eq_false_iff_not, fV] at *; intro h3; rcases fS (x.1.f0, x.1.f1) (y.1.f0, y.1.f1) with h | h | h
  ·exact h1 h
  ·rw [h] at h3; exact h2 h3
  ·exact h2 (fp h h3)
theorem my (blk off size : Nat) (w : World) : CmpLays Tryz.prog 116 #[] eV 3 (fun (x y : S76 × Sl) => nj x.1 y.1) blk off size w :=
 fun _ _ _ _ x y => pm x.1.f0 x.1.f1 y.1.f0 y.1.f1 _ _ _ _ _ _ _
theorem nE {R : S76 → List Value → Prop} (hR : ∀ x c, R x c → ∃ s : Sl, c = eV (x, s)) : ∀ (xs : List S76) (inner : List Value), Reps R 3 xs inner → ∃ ds : List (S76 × Sl), ds.map (·.1) = xs ∧ inner = ds.flatMap eV ∧ ∀ p ∈ ds, R p.1 (eV p)
 | [], inner, h => ⟨[], rfl, by have := h.1; simpa using this, cN⟩
 | x :: xs, inner, h => by
  have h0 := h.2 0 x rfl; rw [Nat.zero_mul, List.drop_zero] at h0; obtain ⟨s, hs⟩ := hR x _ h0; have hl := h.1; rw [List.length_cons] at hl; obtain ⟨ds, h1, h2, h3⟩ := nE hR xs (inner.drop 3) ⟨by rw [List.length_drop]; omega, fun j p hj => by
   have := h.2 (j + 1) p (by simpa using hj); rw [List.drop_drop]; have e : 3 + j * 3 = (j + 1) * 3 := by omega
   rw [e]; exact this⟩
  refine ⟨(x, s) :: ds, by rw [List.map_cons, h1], ?_, fun p hp => ?_⟩
  ·rw [List.flatMap_cons, ← h2, ← hs, List.take_append_drop]
  ·rcases List.mem_cons.1 hp with hp | hp
   ·rw [hp, ← hs]; exact h0
   ·exact h3 p hp
theorem kY {R : S76 → List Value → Prop} : ∀ (ds : List (S76 × Sl)), (∀ p ∈ ds, R p.1 (eV p)) → Reps R 3 (ds.map (·.1)) (ds.flatMap eV)
 | [], _ => ⟨rfl, cN⟩
 | p :: ds, h => by
  have ih := kY ds (fun q hq => h q (List.mem_cons_of_mem _ hq)); refine ⟨by have := ih.1; rw [List.flatMap_cons, List.length_append, this, List.map_cons, List.length_cons]; show 3 + _ = _; omega, fun j q hj => ?_⟩; cases j with
  | zero =>
   obtain rfl : p.1 = q := by simpa using hj
   exact h p cN
  | succ j =>
   have := ih.2 j q (by simpa using hj); rw [List.flatMap_cons]; have e : (j + 1) * 3 = (eV p).length + j * 3 := by show _ = 3 + _; omega
   rw [e, ← List.drop_drop, List.drop_left]; exact this
theorem im (d : Array (S76 × Sl)) : (flatK eV 3 d).toList = d.toList.flatMap eV := by
 have h : ∀ (l : List (S76 × Sl)) (t : Nat), t < l.length * 3 → (l.flatMap eV)[t]? = some (eV (l[t / 3]!))[t % 3]! := by
  intro l; induction l with
  | nil => intro t ht; simp at ht
  | cons p l ih =>
   intro t ht; rw [List.flatMap_cons]; by_cases h3 : t < 3
   ·rw [List.getElem?_append_left (by exact h3)]; have e0 : t / 3 = 0 := by omega
    have e1 : t % 3 = t := by omega
    rw [e0, e1]; have hl : (eV p).length = 3 := rfl; rw [List.getElem?_eq_getElem u7_]; simp [hl, h3]
   ·rw [List.getElem?_append_right (by show 3 ≤ t; omega)]; have hl : (eV p).length = 3 := rfl; rw [hl]; have := ih (t - 3) (by rw [List.length_cons] at ht; omega); rw [this]; have e0 : t / 3 = (t - 3) / 3 + 1 := by omega
    have e1 : t % 3 = (t - 3) % 3 := by omega
    rw [e0, e1]; simp
 have hfl : ∀ l : List (S76 × Sl), (l.flatMap eV).length = l.length * 3 := by
  intro l; induction l with
  | nil => rfl
  | cons p l ih => rw [List.flatMap_cons, List.length_append, ih, List.length_cons]; show 3 + _ = _; omega
 apply List.ext_getElem?
 intro t; rcases Nat.lt_or_ge t (d.size * 3) with ht | ht
 ·have h2 := h d.toList t (by simpa using ht); rw [h2]; have hs : t < (flatK eV 3 d).size := by simpa using ht
  rw [Array.getElem?_toList, Array.getElem?_eq_getElem hs]; have h3 := get_flatK eV 3 d t ht; rw [getElem!_pos (flatK eV 3 d) t hs] at h3; rw [h3]; have h4 : d.toList[t / 3]! = d[t / 3]! := by
   rw [getElem!_pos d (t / 3) u7_, getElem!_pos d.toList (t / 3) (by rw [Array.length_toList]; omega), Array.getElem_toList]
  rw [h4]
 ·rw [List.getElem?_eq_none (by simpa using ht), List.getElem?_eq_none (by rw [hfl]; simpa using ht)]
def cS (x : S76) : ByteArray × ByteArray := (x.f0, x.f1)
set_option maxHeartbeats 1000000 in
theorem rQ (v : Value) (xs : List S76) (B : Nat) (w0 w : World) (hB : Below B w0 w) (hR : Kd.R k76 76 w B (fun _ => True) v xs) (hv : ∃ g, v.ownBlock = some g) (hlen : xs.length < 1000000000) :
  Calls Tryz.prog 115 #[v, .func (.func 116) #[] #[]] w fun e w' => e = .returned (.tuple #[]) ∧ ∃ ys : List S76, ys.Perm xs ∧ ys.Pairwise (fun a b => ¬ ltP (cS b) (cS a)) ∧ Kd.R k76 76 w' B (fun _ => True) v ys ∧ Below B w0 w' := by
 obtain ⟨h0, inner, ho, hr⟩ := hR; obtain ⟨g, hg⟩ := hv; rcases ho.2 with ⟨rfl, _⟩ | ⟨g', cap, cur, rfl, hb, hh, hle, hmax, hsz, htake⟩
 ·simp [Value.ownBlock] at hg
 have hgg : g' = g := by simpa [Value.ownBlock] using hg
 subst hgg; have e3 : k76.sz = 3 := rfl; rw [e3] at hr htake hsz; obtain ⟨ds, hds1, hds2, hds3⟩ := nE (fun x c hM => by
  obtain ⟨v2, rfl, hP⟩ := gW hM; obtain ⟨A, n, rfl⟩ := Kd.R_slice hP; exact ⟨(A, x.f2.length, n), rfl⟩) xs inner hr
 have hlt : g' < w.heap.size := dO hh; have hdl : ds.length = xs.length := by rw [← hds1, List.length_map]
 have hil : inner.length = xs.length * 3 := hr.1; have hget : ∀ t, t < inner.length → cur[t]? = inner[t]? := fun t ht => by
  rw [← htake, List.getElem?_take, if_pos u7_, Array.getElem?_toList]
 have hflat : (flatK eV 3 ds.toArray).toList = inner := by rw [im, hds2]
 have hH : HoldsK eV 3 w g' 0 ds.toArray := by
  intro j hj; have hj' : j < inner.length := by rw [← hflat]; simpa using hj
  constructor
  ·rw [Nat.zero_add, bn hh, hget j hj', ← hflat, Array.getElem?_toList, Array.getElem?_eq_getElem hj, getElem!_pos (flatK eV 3 ds.toArray) j hj]; rfl
  ·exact cW hh _
 have hsize : ds.toArray.size = xs.length := by simpa using hdl
 have hcon := Tryz.slices_SortFunc_Entry eV (fun _ => rfl) (fun x u hu => by
  simp only [eV, List.mem_cons, List.not_mem_nil, or_false] at hu; rcases hu with rfl | rfl | rfl <;> rfl) (fun (x y : S76 × Sl) => nj x.1 y.1) swoE 116 #[] g' 0 cap ds.toArray w (enters_of Tryz.func116 b9 rfl) (my g' 0 _ w) hH hlt u7_
 rw [hsize] at hcon; refine hcon.mono ?_; rintro e w' ⟨rfl, d', n, os, hp, hs, rfl⟩; obtain ⟨hp1, _, hp3⟩ := hp; have hd'l : d'.size = xs.length := by rw [hp1, hsize]
 have hperm : d'.toList.Perm ds := by
  have e1 : d'.extract 0 xs.length = d' := by rw [← hd'l]; simp
  have e2 : ds.toArray.extract 0 xs.length = ds.toArray := by rw [← hsize]; simp
  rw [e1, e2] at hp3; simpa using hp3
 have hheap := ru (enc := id) (w := w) hh n os 0 (flatK eV 3 d'); have hother : ∀ k, k < w.heap.size → k ≠ g' → (sortWorldK eV 3 w g' 0 n d' os).heap[k]? = w.heap[k]? := fun k hk hne => kv hk (Ne.symm hne) n os 0 _
 have hsz' : w.heap.size ≤ (sortWorldK eV 3 w g' 0 n d' os).heap.size := size_sortWorldK_c eV 3 w g' 0 n d' os; have hxl : (d'.toList.map (·.1)).length = xs.length := by rw [List.length_map, Array.length_toList, hd'l]
 have hfl' : (d'.toList.flatMap eV).length = xs.length * 3 := by rw [← im, Array.length_toList, size_flatK, hd'l]
 refine ⟨rfl, d'.toList.map (·.1), ?_, ?_, ⟨fun _ _ => trivial, d'.toList.flatMap eV, ?_, ?_⟩, ⟨hB.os, hB.tape, hB.output, Nat.le_trans hB.size hsz', fun k hk => ?_⟩⟩
 ·have := hperm.map (·.1); rwa [hds1] at this
 ·rw [List.pairwise_map]; rw [List.pairwise_iff_getElem]; intro i j hi hj hij; have hi' : i < d'.size := by simpa using hi
  have hj' : j < d'.size := by simpa using hj
  have h1 := hs i j (Nat.zero_le _) hij u7_; unfold ltOf nj at h1
  rw [decide_eq_false_iff_not, fV, getElem!_pos d' i hi', getElem!_pos d' j hj'] at h1; simpa [cS] using h1
 ·rw [hxl]; refine ⟨by rw [hfl', e3], .inr ⟨g', cap, _, rfl, hb, hheap, hle, hmax, by rw [lL, e3]; exact hsz, ?_⟩⟩; apply List.ext_getElem?
  intro t; rw [List.getElem?_take, e3]; split
  ·rename_i ht
   have ht2 : t < (flatK eV 3 d').size := by rw [size_flatK, hd'l]; exact ht
   have ht3 : t < cur.size := by rw [hsz]; exact Nat.lt_of_lt_of_le ht (Nat.mul_le_mul_right _ hle)
   rw [Array.getElem?_toList, mI _ _ ht2 ht3, ← im, Array.getElem?_toList, Array.getElem?_eq_getElem ht2]; rfl
  ·rename_i ht
   rw [List.getElem?_eq_none (by rw [hfl']; omega)]
 ·rw [e3]; refine kY d'.toList (fun p hp => ?_); have hM := hds3 p (hperm.mem_iff.1 hp); refine k76.M_mono (fun k hk => hk.1) (k76.M_move (w1 := sortWorldK eV 3 w g' 0 n d' os) (fun k hk => hother k hk.2.2.1 (fun he => hk.1.2 (by rw [he]; simp [Value.ownBlock]))) (k76.M_bound hM))
 ·rw [hother k (Nat.lt_of_lt_of_le hk (Nat.le_of_lt (Nat.lt_of_le_of_lt hb hlt))) u7_]; exact hB.block k hk
end
section
open Go Go.RowKit Go.MapKept Go.Proofs.YtnjjdojonflckaaGreatDoorW.PrintWords Go.Proofs.YtnjjdojonflckaaGreatDoorW.PrintLast Go.Proofs.YtnjjdojonflckaaGreatDoorW.PrintMore Go.Proofs.YtnjjdojonflckaaGreatDoor.Ent
open Go.ChangeMaps (setBlock heap_setBlock_same heap_setBlock_other)
theorem jz : kT Tryz.prog 145 147 34 where
 K := Go.Maps.Keyed.of_law (deep_law_gate b9 (of_decide_eq_true b9) (of_decide_eq_true b9) b9 b9)
 ht := Tryz.underlying145
 key := fun p hp => qp Tryz.underlying147 Tryz.underlying9 Tryz.underlying9 rfl rfl b9 b9 b9 b9 b9 b9 ⟨_, rfl⟩ p hp
 zero := fun w => by kernel_rfl
section
variable {P : Program} {ops : Array Oper} {rest : List Oper} {o o2 : Oper} {a : Act} {Q : Exit → Act → World → Prop}
theorem fM {W : World} (hg1 : o.guard = none) {N : Tmp} (hd : o.dst = some N) (hg2 : o2.guard = none) (hd2 : o2.dst = none) {zs cs : Array Value} {t : TypeId}
  (hrun1 : (execOp a.eval o).run P W = .ok (.value (.pointer (some ⟨W.heap.size, 0, none⟩))) (W.alloc (.cells zs t (0, 0))))
  (hrun2 : (execOp (a.put o.dst (.pointer (some ⟨W.heap.size, 0, none⟩))).eval o2).run P (W.alloc (.cells zs t (0, 0))) = .ok .skip (W.alloc (.cells cs t (0, 0))))
  (h : ∀ g, g = W.heap.size → ∀ w1, w1.heap[g]? = some (.cells cs t (0, 0)) → Below W.heap.size W w1 → wpList P ops Q rest (a.put o.dst (.pointer (some ⟨g, 0, none⟩))) w1) : wpList P ops Q (o :: o2 :: rest) a W := by
 refine Kd.event_run hg1 hrun1 ?_; refine wpList_plain hg2 fun K hK => ?_
 unfold Oper.wp
 rw [hrun2]; show K ((a.put o.dst _).put o2.dst undef) _
 rw [hd2]; exact hK _ _ (h _ rfl _ (pn W _) (bF (Below.refl _ _) _))
theorem qh {W : World} (hg1 : o.guard = none) {N : Tmp} (hd : o.dst = some N) (base : Nat)
  (hrun : (execOp a.eval o).run P W = .ok (.value (.map (some W.heap.size))) (W.alloc (.map #[] 0)))
  (h : ∀ m, m = W.heap.size → ∀ w1, MapIs k50 50 w1 base m [] → Below W.heap.size W w1 → wpList P ops Q rest (a.put o.dst (.map (some m))) w1) : wpList P ops Q (o :: rest) a W :=
 Kd.event_run hg1 hrun (h _ rfl _ (MapIs.made W base) (bF (Below.refl _ _) _))
end
theorem MapRest.sub {α : Type} {d : Kd α} {e : Nat} {w : World} {base m N j : Nat} {G : List (Pl × List α)} {okj ok1 : Nat → Prop} (h : MapRest d e w base m G j okj N) (hs : ∀ k, ok1 k → okj k) : MapRest d e w base m G j ok1 N := by
 obtain ⟨es, clock, f, hc, hm, hok, hS⟩ := h; exact ⟨es, clock, f, hc, hm, fun k hk => hok k (hs k hk), hS⟩
def Wr (w : World) (m k : Nat) : Prop := k = m ∨ ∃ q cells, (q = 50 ∨ q = 3) ∧ w.heap[k]? = some (.cells cells q (0, 0))
theorem Wr.not {w : World} {m k t : Nat} {cells : Array Value} {es : Array MapEntry} {clock : Nat} (hm : w.heap[m]? = some (.map es clock)) (hb : w.heap[k]? = some (.cells cells t (0, 0))) (h1 : t ≠ 50) (h2 : t ≠ 3) : ¬ Wr w m k := by
 rintro (rfl | ⟨q, c, hq, hc⟩)
 ·rw [hm] at hb; cases hb
 ·rw [hb] at hc; injection hc with hc
  injection hc with _ hc
  rcases hq with rfl | rfl
  ·exact h1 hc
  ·exact h2 hc
theorem MapIs.block {α : Type} {d : Kd α} {e : Nat} {w : World} {base m : Nat} {G : List (Pl × List α)} (h : MapIs d e w base m G) : ∃ es clock, w.heap[m]? = some (.map es clock) := by
 obtain ⟨es, clock, _, hc, _⟩ := h; exact ⟨es, clock, hc.heap⟩
theorem l4 {w : World} {m : Nat} {S : Nat → Prop} {o : Obj} {w0 : World} (h : Kept w0 w S) (hm : S m ∨ w0.heap.size ≤ m) (hlt : m < w.heap.size) : Kept w0 (setBlock w m o) S :=
 h.then_ (S2 := fun k => k = m) ⟨by simp [setBlock], fun i hi hn => lp w o hn⟩ (fun k hk => by rw [hk]; exact hm)
theorem ls {B : Nat} {w0 w : World} {m : Nat} {o : Obj} (h : Below B w0 w) (hm : B ≤ m) : Below B w0 (setBlock w m o) :=
 ⟨h.os, h.tape, h.output, by have := h.size; simpa [setBlock] using this, fun k hk => (lp w o u7_).trans (h.block k hk)⟩
abbrev Gs := List (Pl × List S50)
def entriesW.cs (k : Nat) (fs : List S92) (id : Int) : List S86 → Gs × Nat → Option (Gs × Nat)
 | [], s => some s
 | c :: cs, s => (bf.f k fs c.f0).bind fun fd => if fd.2.1 = 1 then
   (cz.f k c.f1).bind fun ts => if s.2 + ts.length ≤ 1000000 ∧ c.f0.size ≤ 1000000 ∧ (ts.all fun t => decide (t.size ≤ 1000000)) = true then entriesW.cs k fs id cs (fO id c.f0 ts 0 s.1, s.2 + ts.length) else none
  else entriesW.cs k fs id cs s
def entriesW.rs (k : Nat) (fs : List S92) : List S46 → Gs × Nat → Option (Gs × Nat)
 | [], s => some s
 | r :: rs, s => (entriesW.cs k fs r.f0 r.f1.f1 s).bind fun s' => entriesW.rs k fs rs s'
def toE (g : Pl × List S50) : S76 := ⟨g.1.1, g.1.2, g.2⟩
theorem oT {b : Bool} (s : ByteArray) (h : s.toList.isEmpty = b) : decide (s.size = 0) = b := by
 subst h; have e : s.toList.length = s.size := by rw [ByteArray.toList_eq]; exact Array.length_toList
 by_cases h : s.size = 0
 ·have : s.toList = [] := List.eq_nil_of_length_eq_zero u7_; simp [h, this]
 ·have : s.toList ≠ [] := fun h2 => h (by rw [← e, h2]; rfl)
  simp [h, this]
def oF (e : S76) : List S76 → List S76
 | [] => [e]
 | x :: l => if nj e x < 0 then e :: x :: l else x :: oF e l
def ee (l : List S76) : List S76 := l.foldr oF []
def entriesW.f (k : Nat) (fs : List S92) (rows : List S46) : Option (List S76) := (entriesW.rs k fs rows ([], 0)).bind fun s => some (ee (s.1.map toE))
theorem fld92_1 (x0 : ByteArray) (x1 x2 : Int) (w : World) : (Instr.field 92 (Value.agg #[.string x0, .int .i64 x1, .int .i64 x2]) 1).run Tryz.prog w = .ok (.int .i64 x1) w := by kernel_rfl
attribute [local go_sem] fld92_1
theorem iF {w w1 : World} {row : Option Nat} {g o t : Nat} {cells : Array Value} {v : Value} (hg : w.grownBy w1 row) (hty : ∀ k, row = some k → ∃ q cells, (q = 50 ∨ q = 3) ∧ w.heap[k]? = some (.cells cells q (0, 0))) (hb : w.heap[g]? = some (.cells cells t (0, 0))) (hc : w.cell? ⟨g, o, none⟩ = some v) (h1 : t ≠ 50 := by decide) (h2 : t ≠ 3 := by decide) : w1.cell? ⟨g, o, none⟩ = some v :=
 Go.Proofs.YtnjjdojonflckaaGreatDoorW.PrintWords.cell_grown hg hc (fun he => by
  obtain ⟨q, c, hq, hh⟩ := hty g he.symm; rw [hb] at hh; injection hh with hh
  injection hh with _ hh
  rcases hq with rfl | rfl
  ·exact h1 hh
  ·exact h2 hh)
theorem rg {ops : Array Oper} {rest : List Oper} {o : Oper} {a : Act} {Q : Exit → Act → World → Prop} {w0 W : World} {B : Nat} (hgd : o.guard = none) {N : Tmp} (hd : o.dst = some N)
  (hrun : (execOp a.eval o).run Tryz.prog W = .ok (.value (.slice (some ⟨W.heap.size, 0, none⟩) 0 0)) (W.alloc (.cells #[] 76)))
  (HB : Below B w0 W) (hbase : B ≤ W.heap.size) (h : ∀ v1 w1, Kd.R k76 76 w1 B (fun _ => True) v1 [] → Below B w0 w1 → Below W.heap.size W w1 → (∃ b, v1.ownBlock = some b) → wpList Tryz.prog ops Q rest (a.put o.dst v1) w1) : wpList Tryz.prog ops Q (o :: rest) a W :=
 Kd.R_lit k76 (w0 := w0) B 76 hgd hd (xs := []) (inner := []) (ok := fun _ => True) (okp := fun _ => True) hrun (Reps.none _ _) (fun _ hk => hk) trivial HB hbase cN (fun v1 w1 hs hb hg hv => h v1 w1 hs hb ⟨hg.os, hg.tape, hg.output, hg.size, fun k hk => hg.block k hk cN⟩ (by obtain ⟨b, hb, _⟩ := hv; exact ⟨b, hb⟩))
theorem R_iter {wr w4 : World} {B m rr : Nat} {G : Gs} {is : List Nat} {v : Value} {xs : List S76} (h : Kd.R k76 76 wr B (fun _ => True) v xs) (hrg : Ranging k50 50 wr B m rr G is) (hg : wr.grownBy w4 (some rr)) : Kd.R k76 76 w4 B (fun _ => True) v xs := by
 obtain ⟨es, clock, f, c0, seen, hc, hS, hr, _⟩ := hrg; refine Kd.R_mono (Kd.R_grown (Kd.R_bound h) hg (fun k hk he => ?_)) (fun _ _ => trivial); obtain ⟨_, _, _, q, hq, cells, hcl⟩ := hk; injection he with he
 rw [he, hr] at hcl; cases hcl
theorem Ranging.nodup {wr : World} {B m rr : Nat} {G : Gs} {is : List Nat} (hrg : Ranging k50 50 wr B m rr G is) : (G.map (·.1)).Nodup := by
 obtain ⟨es, clock, f, c0, seen, hc, _⟩ := hrg; exact hc.nodup
theorem nS {w : World} {k : Nat} (h : ∃ q, q ∈ 50 :: k50.E ∧ ∃ cells, w.heap[k]? = some (.cells cells q (0, 0))) (h' : ∃ cells, w.heap[k]? = some (.cells cells 76 (0, 0))) : False := by
 obtain ⟨q, hq, cells, hc⟩ := h; obtain ⟨cells', hc'⟩ := h'; rw [hc] at hc'; injection hc' with hc'
 injection hc' with _ hc'
 rw [hc'] at hq; exact absurd hq bs
theorem ju (e : S76) : ∀ l, (oF e l).Perm (e :: l)
 | [] => List.Perm.refl _
 | x :: l => by
  unfold oF
  split
  ·exact List.Perm.refl _
  ·exact ((ju e l).cons x).trans (List.Perm.swap e x l)
theorem fD : ∀ l, (ee l).Perm l
 | [] => List.Perm.refl _
 | x :: l => (ju x (ee l)).trans ((fD l).cons x)
theorem jI (e : S76) : ∀ l : List S76, l.Pairwise (fun a b => ltP (cS a) (cS b)) → (∀ x ∈ l, cS x ≠ cS e) → (oF e l).Pairwise (fun a b => ltP (cS a) (cS b))
 | [], _, _ => by unfold oF; simp
 | x :: l, h, hne => by
  rw [List.pairwise_cons] at h; unfold oF
  split
  ·rename_i hlt
   have hlt' : ltP (cS e) (cS x) := (fV _ _).1 hlt; rw [List.pairwise_cons, List.pairwise_cons]; exact ⟨fun y hy => (List.mem_cons.1 hy).elim (fun h2 => by rw [h2]; exact hlt') (fun h2 => fp hlt' (h.1 y h2)), h⟩
  ·rename_i hlt
   have hge : ltP (cS x) (cS e) := by
    rcases fS (cS x) (cS e) with h2 | h2 | h2
    ·exact h2
    ·exact absurd h2 (hne x cN)
    ·exact absurd ((fV _ _).2 h2) hlt
   rw [List.pairwise_cons]; refine ⟨fun y hy => ?_, jI e l h.2 (fun y hy => hne y (List.mem_cons_of_mem _ hy))⟩; rcases List.mem_cons.1 ((ju e l).mem_iff.1 hy) with h2 | h2
   ·rw [h2]; exact hge
   ·exact h.1 y h2
theorem fm : ∀ l : List S76, (l.map cS).Nodup → (ee l).Pairwise (fun a b => ltP (cS a) (cS b))
 | [], _ => List.Pairwise.nil
 | x :: l, h => by
  rw [List.map_cons, List.nodup_cons] at h; refine jI x (ee l) (fm l h.2) (fun y hy he => h.1 ?_); exact List.mem_map.2 ⟨y, (fD l).mem_iff.1 hy, he⟩
theorem jD : ∀ {l m : List S76}, l.Perm m → l.Pairwise (fun a b => ltP (cS a) (cS b)) → m.Pairwise (fun a b => ltP (cS a) (cS b)) → l = m
 | [], m, h, _, _ => (List.nil_perm.1 h).symm
 | x :: l, [], h, _, _ => absurd h.symm cN
 | x :: l, y :: m, h, h1, h2 => by
  rw [List.pairwise_cons] at h1 h2; have hxy : x = y := by
   rcases List.mem_cons.1 (h.mem_iff.1 (List.mem_cons_self ..)) with e | e
   ·exact e
   ·rcases List.mem_cons.1 (h.mem_iff.2 (List.mem_cons_self (a := y) (l := m))) with e2 | e2
    ·exact e2.symm
    ·exact absurd (fp (h1.1 y e2) (h2.1 x e)) (fz _)
  subst hxy; rw [jD (List.Perm.cons_inv h) h1.2 h2.2]
theorem pT {G : Gs} {ys : List S76} (h : ys.Perm (G.map toE)) (hs : ys.Pairwise (fun a b => ¬ ltP (cS b) (cS a))) (hn : (G.map (·.1)).Nodup) : ys = ee (G.map toE) := by
 have hk : ((G.map toE).map cS).Nodup := by
  have e : (G.map toE).map cS = G.map (·.1) := by rw [List.map_map]; rfl
  rw [e]; exact hn
 have hk2 : (ys.map cS).Nodup := (h.map cS).nodup_iff.2 hk; refine jD (h.trans (fD _).symm) ?_ (fm _ hk); have h3 : ys.Pairwise (fun a b => cS a ≠ cS b) := List.pairwise_map.1 hk2; exact (hs.and h3).imp (fun {a b} hab => by
  rcases fS (cS a) (cS b) with h4 | h4 | h4
  ·exact h4
  ·exact absurd h4 hab.2
  ·exact absurd h4 hab.1)
theorem iD {w0 wr w3 : World} {B m jj : Nat} {G : Gs} {okj ok1 : Nat → Prop} {xs xs' : List S50} {v1 : Value} {p : Pl} {id x : Int} (hmap : MapIs k50 50 wr B m G) (hrest : MapRest k50 50 wr B m G jj okj wr.heap.size) (hk : Kept wr w3 okj) (hS : Kd.S k50 50 w3 B ok1 v1 xs') (hok : ∀ k, ok1 k → okj k ∨ wr.heap.size ≤ k)
  (hty : ∀ k, okj k → ∃ q cells, (q = 50 ∨ q = 3) ∧ wr.heap[k]? = some (.cells cells q (0, 0))) (hp : lg p) (hj : (jj = G.length ∧ xs = [] ∧ ∀ g ∈ G, g.1 ≠ p) ∨ ∃ g, G[jj]? = some g ∧ g.1 = p ∧ g.2 = xs) (he : xs' = ff xs id x) (hB : Below B w0 w3) (hm : B ≤ m) :
  ∃ es clock, (Instr.mapUpdate 145 (.map (some m)) (.agg #[.string p.1, .string p.2]) v1).run Tryz.prog w3 = .ok () (setBlock w3 m (.map es clock)) ∧ MapIs k50 50 (setBlock w3 m (.map es clock)) B m (stepG G p id x) ∧ Kept wr (setBlock w3 m (.map es clock)) (Wr wr m) ∧ Below B w0 (setBlock w3 m (.map es clock)) := by
 have hrest3 := hrest.step (w1 := w3) (fun k hk1 hn => hk.2 k hk1 hn); obtain ⟨es, clock, hrun, hmap3⟩ := Go.Proofs.YtnjjdojonflckaaGreatDoor.Ent.put jz hrest3 hS hok hp (hj.imp (fun h => ⟨h.1, h.2.2⟩) (fun ⟨g, h1, h2, _⟩ => ⟨g, h1, h2⟩)); rw [he, pW G p id x jj xs hmap.keys_nodup hj] at hmap3; exact ⟨es, clock, hrun, hmap3, l4 (hk.mono (fun k h => .inr (hty k h))) (.inl (.inl rfl)) (Nat.lt_of_lt_of_le hmap.lt hk.1), ls hB hm⟩
theorem entriesW.calls (k : Nat) (A0 : Option Addr) (c0 : Nat) (l0 : List (S92)) (A1 : Option Addr) (c1 : Nat) (l1 : List (S46)) (r : List (S76)) (w : World) (hG : StopsIn w) (hr0 : Kd.C k92 w A0 l0.length l0) (hc0 : l0.length ≤ c0) (hr1 : Kd.C k46 w A1 l1.length l1) (hc1 : l1.length ≤ c1) (h : entriesW.f k l0 l1 = some r) :
  Calls Tryz.prog 68 #[.slice A0 l0.length c0, .slice A1 l1.length c1] w fun e w' => ∃ v0_ : Value, e = .returned (v0_) ∧ Kd.R k76 76 w' w.heap.size (fun _ => True) v0_ r ∧ Below w.heap.size w w' := by
 obtain ⟨⟨GG, nn⟩, hrs, hsort⟩ := Option.bind_eq_some_iff.1 h; have hsort := Option.some.inj hsort; have hlen := hr1.2.1; have HG := am_ hG; have HF := am_ hr0; have HF0 := am_ hc0; have HR := am_ hr1; have H := am_ hrs; have HSORT := am_ hsort; have HB := am_ (Below.refl w.heap.size w); have hu46_ := Tryz.underlying46; have hu86_ := Tryz.underlying86; clear hG hr0 hc0 hr1 h hrs hsort; go_enter Tryz.func68, Tryz.ntmps68
 go_wp2_with (first | ((with_reducible refine az (N := 17) rfl ?_); refine qh ?hg (N := 17) ?hd w.heap.size ?hr ?_; (case hd => rfl); (case hg => rfl); (case hr => exact u6_); intro m hm w1 hmap hb; have HM := am_ hmap; have HMW := am_ (Nat.le_of_eq hm.symm); replace HB := am_ (bE HB.out hb); clear hm hmap hb))
 go_loopw [20] (fun v20 wr => ∃ (i : Nat) (s : Gs × Nat), v20 = .int .i64 (i : Int) ∧ i ≤ l1.length ∧ aa (entriesW.rs k l0 (l1.drop i) s = some (GG, nn)) ∧ aa (LenG s.2 s.1 ∧ s.2 ≤ 1000000) ∧ aa (MapIs k50 50 wr w.heap.size m s.1) ∧ aa (Below w.heap.size w wr)) (fun v _ => match v with | .int _ i => l1.length - i.toNat | _ => 0)
 case atStart => exact ⟨0, ([], 0), rfl, Nat.zero_le _, H, ⟨⟨Nat.zero_le _, cN⟩, Nat.zero_le _⟩, HM, HB⟩
 case round =>
  clear H HM HB; obtain ⟨i, s, rfl, hi, H, HL, HM, HB⟩ := hrel; rcases Nat.lt_or_ge i l1.length with hlt | hge
  ·obtain ⟨ad, A2, c2, e, hx0, hx1, hx2, hcl, hcc⟩ := fP HR.out (i : Int) u7_ u7_; subst e; simp only [Int.toNat_natCast] at hx0 hx1 hx2; replace hx0 := ab HB.out hx0; replace hx1 := ab HB.out hx1; replace hx2 := ab HB.out hx2; have hrd : ac l1 (i : Int) = l1[i] := by unfold ac; simp [List.getD_eq_getElem?_getD, List.getElem?_eq_getElem hlt]
   rw [hrd] at hx0 hx1 hx2 hcl hcc; have h := H.out; rw [List.drop_eq_getElem_cons hlt, entriesW.rs] at h; generalize l1[i] = row at hx0 hx1 hx2 hcl hcc h; clear hrd; obtain ⟨s2, hs2, h⟩ := Option.bind_eq_some_iff.1 h; have HS2 := am_ hs2; have H2 := am_ h; have HCC := am_ hcc; have hclen := hcc.2.1; have p1 : ((i : Int) < (l1.length : Int)) = True := eq_true u7_; have p0 : (0 ≤ (i : Int)) = True := eq_true u7_; clear h H hs2 hcc hcl; go_wp2_with (first | ((with_reducible refine az (N := 7) rfl ?_); refine fM rfl (N := 7) rfl rfl rfl (zs := #[.int .i64 0, .string (⟨#[]⟩ : ByteArray), .slice none 0 0]) (cs := #[.int .i64 row.f0, .string row.f1.f0, .slice A2 row.f1.f1.length c2]) (t := 46) ?hr ?hs ?_; (case hr => exact u6_); (case hs => exact u6_); intro gr hg w2 hbox hb; have BKr := am_ hbox; replace HM := am_ (HM.out.below hb); replace HB := am_ (bE HB.out hb); have hz2 : w2.cell? ⟨gr, 2, none⟩ = some (.slice A2 row.f1.f1.length c2) := (bn BKr.out 2).trans rfl; clear hg hbox hb hx0 hx1 hx2))
   have hclen' : row.f1.f1.length ≤ 9223372036854775807 := hclen; go_loopw [28] (fun v28 wr => ∃ (j : Nat) (s3 : Gs × Nat), v28 = .int .i64 (j : Int) ∧ j ≤ row.f1.f1.length ∧ aa (entriesW.cs k l0 row.f0 (row.f1.f1.drop j) s3 = some s2) ∧ aa (LenG s3.2 s3.1 ∧ s3.2 ≤ 1000000) ∧ aa (MapIs k50 50 wr w.heap.size m s3.1) ∧ aa (wr.heap[gr]? = some (.cells #[.int .i64 row.f0, .string row.f1.f0, .slice A2 row.f1.f1.length c2] 46 (0, 0))) ∧ aa (Below w.heap.size w wr)) (fun v _ => match v with | .int _ i => row.f1.f1.length - i.toNat | _ => 0)
   case atStart => exact ⟨0, s, rfl, Nat.zero_le _, HS2, HL, HM, BKr, HB⟩
   case round =>
    clear HS2 HL HM BKr HB hz2; obtain ⟨j, s3, rfl, hj, HS2, HL, HM, BKr, HB⟩ := hrel; rcases Nat.lt_or_ge j row.f1.f1.length with hjlt | hjge
    ·obtain ⟨adc, e, hy0, hy1⟩ := dp HCC.out (j : Int) u7_ u7_; subst e; simp only [Int.toNat_natCast] at hy0 hy1; replace hy0 := ab HB.out hy0; replace hy1 := ab HB.out hy1; have hrd : ah row.f1.f1 (j : Int) = row.f1.f1[j] := by unfold ah; simp [List.getD_eq_getElem?_getD, List.getElem?_eq_getElem hjlt]
     rw [hrd] at hy0 hy1; have h := HS2.out; rw [List.drop_eq_getElem_cons hjlt, entriesW.cs] at h; generalize row.f1.f1[j] = c at hy0 hy1 h; clear hrd; obtain ⟨⟨d1, d2, d3⟩, hfd, h⟩ := Option.bind_eq_some_iff.1 h; have HFD := am_ hfd; have q1 : ((j : Int) < (row.f1.f1.length : Int)) = True := eq_true u7_; have q0 : (0 ≤ (j : Int)) = True := eq_true u7_; simp only at h; by_cases hd2 : d2 = 1
     ·rw [if_pos hd2] at h; obtain ⟨ts, hts, h⟩ := Option.bind_eq_some_iff.1 h; by_cases hck : s3.2 + ts.length ≤ 1000000 ∧ c.f0.size ≤ 1000000 ∧ (ts.all fun t => decide (t.size ≤ 1000000)) = true
      ·rw [if_pos hck] at h; have HTS := am_ hts; have HCK := am_ hck; have H3 := am_ h; have hdb : (d2 != 1) = false := by rw [hd2]; rfl
       clear h HS2 hts hfd hck hd2; go_wp2_with (first | ((with_reducible refine az (N := 9) rfl ?_); refine fM rfl (N := 9) rfl rfl rfl (zs := #[.string (⟨#[]⟩ : ByteArray), .string (⟨#[]⟩ : ByteArray)]) (cs := #[.string c.f0, .string c.f1]) (t := 86) ?hr ?hs ?_; (case hr => exact u6_); (case hs => exact u6_); intro gc hg w3 hbox hb; have BKc := am_ hbox; replace HM := am_ (HM.out.below hb); replace BKr := am_ (aU BKr.out hb); replace HB := am_ (bE HB.out hb); have hz0 : w3.cell? ⟨gc, 0, none⟩ = some (.string c.f0) := (bn BKc.out 0).trans rfl; have hz1 : w3.cell? ⟨gc, 1, none⟩ = some (.string c.f1) := (bn BKc.out 1).trans rfl; clear hg hbox hb hy0 hy1) | (go_at_call 110; refine (bf.calls k _ _ _ _ _ _ _ _ (Kd.C_below HF.out HB.out) HF0.out HFD.out).mono ?_; rintro e w4 ⟨rfl, hb⟩; replace HM := am_ (HM.out.below hb); replace BKr := am_ (aU BKr.out hb); replace BKc := am_ (aU BKc.out hb); replace HB := am_ (bE HB.out hb); replace hz0 := ab hb hz0; replace hz1 := ab hb hz1; clear hb) | (go_at_call 20; refine (cz.calls k _ _ _ (StopsIn.below HG.out HB.out) HTS.out).mono ?_; rintro e w5 ⟨vt, rfl, ht, hb⟩; obtain ⟨A8, c8, rfl⟩ := Kd.R_slice ht; have HT := am_ (Kd.R_lower (Kd.R_tight rfl ht) HB.out.size); replace HM := am_ (HM.out.below hb); replace BKr := am_ (aU BKr.out hb); replace BKc := am_ (aU BKc.out hb); replace HB := am_ (bE HB.out hb); clear hb ht hz0 hz1))
       have hlt8 := (Kd.R_reads' HT.out).2.2.2.1; go_loopw [42] (fun v42 wr => ∃ (n : Nat) (G : Gs), v42 = .int .i64 (n : Int) ∧ n ≤ ts.length ∧ aa (fO row.f0 c.f0 (ts.drop n) (n : Int) G = fO row.f0 c.f0 ts 0 s3.1) ∧ aa (LenG (s3.2 + n) G) ∧ aa (MapIs k50 50 wr w.heap.size m G) ∧ aa (Kd.R Kd.string 9 wr w.heap.size (fun k_ => some k_ = (Value.slice A8 ts.length c8).ownBlock) (.slice A8 ts.length c8) ts) ∧ aa (wr.heap[gr]? = some (.cells #[.int .i64 row.f0, .string row.f1.f0, .slice (some adc) row.f1.f1.length c2] 46 (0, 0))) ∧ aa (wr.heap[gc]? = some (.cells #[.string c.f0, .string c.f1] 86 (0, 0))) ∧ aa (Below w.heap.size w wr)) (fun v _ => match v with | .int _ i => ts.length - i.toNat | _ => 0)
       case atStart => exact ⟨0, s3.1, rfl, Nat.zero_le _, ⟨rfl⟩, ⟨HL.out.1⟩, HM, HT, BKr, BKc, HB⟩
       case round =>
        clear HM HT BKr BKc HB; obtain ⟨n, G, rfl, hn, HGS, HLG, HM, HT, BKr, BKc, HB⟩ := hrel; rcases Nat.lt_or_ge n ts.length with hnlt | hnge
        ·have h := HGS.out; rw [List.drop_eq_getElem_cons hnlt, fO] at h; have htc := (Kd.R_reads' HT.out).2.2; obtain ⟨ad8, e8, hy⟩ := rO htc n hnlt; subst e8; have htm : ts[n] ∈ ts := List.getElem_mem _; have hsm : ts[n].size ≤ 1000000 := by have := List.all_eq_true.1 HCK.out.2.2 _ htm; simpa using this
         have r1 : ((n : Int) < (ts.length : Int)) = True := eq_true u7_; have r0 : (0 ≤ (n : Int)) = True := eq_true u7_; generalize ts[n] = tt at h hy hsm htm; generalize hte : tt.toList.isEmpty = bt; have hsz := oT tt hte; cases bt with
         | true =>
          rw [if_pos (by simpa using hsz)] at h; have HN := am_ h; clear h hsz htc htm hsm; go_wp2; go_roundw
          case rel => exact ⟨n + 1, G, gx, u7_, by simpa using HN, ⟨⟨by have := HLG.out.1; omega, fun g hg => ⟨by have := (HLG.out.2 g hg).1; omega, fun q hq => by have := (HLG.out.2 g hg).2 q hq; omega⟩⟩⟩, HM, HT, BKr, BKc, HB⟩
          case measure => simp; omega
         | false =>
          rw [if_neg (by simpa using hsz)] at h; have HN := am_ h; have hp : lg (c.f0, tt) := ⟨Nat.le_trans HCK.out.2.1 bs, Nat.le_trans hsm bs⟩; obtain ⟨jj, v, xs, okj0, hlook0, hS0, hrest0, hjj⟩ := Go.Proofs.YtnjjdojonflckaaGreatDoor.Ent.look jz HM.out hp; obtain ⟨Av, cv, rfl⟩ := Kd.S_slice hS0; have hlook : (Instr.lookup 145 (.map (some m)) (.agg #[.string c.f0, .string tt]) false).run Tryz.prog wr = .ok (.slice Av xs.length cv) wr := hlook0; have hxl : xs.length ≤ s3.2 + n ∧ ∀ q ∈ xs, q.f1.length ≤ s3.2 + n := HLG.out.at hjj; have hck1 := HCK.out.1; have hS := Kd.S_bound hS0; have hrest := MapRest.sub hrest0 (ok1 := fun k => okj0 k ∧ w.heap.size ≤ k ∧ k < wr.heap.size ∧ ∃ q, q ∈ 50 :: k50.E ∧ ∃ cells, wr.heap[k]? = some (.cells cells q (0, 0))) (fun k hk => hk.1); obtain ⟨okj, hokj⟩ : ∃ okj : Nat → Prop, okj = (fun k => okj0 k ∧ w.heap.size ≤ k ∧ k < wr.heap.size ∧ ∃ q, q ∈ 50 :: k50.E ∧ ∃ cells, wr.heap[k]? = some (.cells cells q (0, 0))) := ⟨_, rfl⟩; rw [← hokj] at hS hrest; have hty : ∀ k, okj k → ∃ q cells, (q = 50 ∨ q = 3) ∧ wr.heap[k]? = some (.cells cells q (0, 0)) := fun k hk => by
           rw [hokj] at hk; obtain ⟨_, _, _, q, hq, cells, hc⟩ := hk; refine ⟨q, cells, ?_, hc⟩; rcases List.mem_cons.1 hq with hq | hq
           ·exact .inl hq
           ·exact .inr (by have : k50.E = [3] := rfl; rw [this] at hq; simpa using hq)
          clear hokj; have hxl2 : xs.length ≤ 2000000 := by omega
          have HXL := am_ hxl; have HSX := am_ hS; have HREST := am_ hrest; have HTY := am_ hty; have HJJ := am_ hjj; have HPS := am_ hp; have hz0 : wr.cell? ⟨gc, 0, none⟩ = some (.string c.f0) := (bn BKc.out 0).trans rfl; have hzr : wr.cell? ⟨gr, 0, none⟩ = some (.int .i64 row.f0) := (bn BKr.out 0).trans rfl; clear h hsz htc htm hsm hlook0 hS0 hrest0 hS hrest hty hjj hp hxl hck1; have HLQ := am_ (show s3.2 + n ≤ 2000000 by have := HL.out.2; have := HCK.out.1; omega); obtain ⟨X, hX⟩ : ∃ X : List S50, X = xs := ⟨_, rfl⟩; have HJX : aa ((jj = G.length ∧ X = [] ∧ ∀ g ∈ G, g.1 ≠ (c.f0, tt)) ∨ ∃ g, G[jj]? = some g ∧ g.1 = (c.f0, tt) ∧ g.2 = X) := ⟨by rw [hX]; exact HJJ.out⟩; clear HJJ; rcases Nat.eq_zero_or_pos xs.length with h0 | hpos
          ·obtain rfl : xs = [] := List.eq_nil_of_length_eq_zero h0; have HX := am_ hX; clear hX h0; have HST := am_ (show ([] : List S50) ++ [⟨row.f0, [(n : Int)]⟩] = ff X row.f0 (n : Int) from by rw [HX.out]; rfl); go_wp2; go_quiet (fail)
           have HM5 := am_ (HM.out.below (aq (Below.refl _ _) nq)); have HREST5 := am_ (show MapRest k50 50 (wr.drewN nq) w.heap.size m G jj okj (wr.drewN nq).heap.size from HREST.out.step (fun _ _ _ => rfl)); have HS5 := am_ (Kd.S_drewN HSX.out nq); have HTY5 := am_ (show ∀ k, okj k → ∃ q cells, (q = 50 ∨ q = 3) ∧ (wr.drewN nq).heap[k]? = some (.cells cells q (0, 0)) from HTY.out); have BKr5 := am_ (eS BKr.out nq); have BKc5 := am_ (eS BKc.out nq); have HT5 := am_ (Kd.R_drewN HT.out nq); have HB5 := am_ (aq HB.out nq); have HBM := am_ (Nat.le_trans HMW.out (Nat.le_refl m)); clear HM HREST HSX HTY BKr BKc HT HB hlook hz0 hzr; generalize wr.drewN nq = w5 at HM5 HREST5 HS5 HTY5 BKr5 BKc5 HT5 HB5 ⊢; have hzr5 : w5.cell? ⟨gr, 0, none⟩ = some (.int .i64 row.f0) := (bn BKr5.out 0).trans rfl; have hz05 : w5.cell? ⟨gc, 0, none⟩ = some (.string c.f0) := (bn BKc5.out 0).trans rfl; go_wp2_with (first | ((with_reducible refine bM (b := .append) (xs := #[.tmp 82, .tmp 88]) rfl ?_); at_builtin; refine Kd.S_append k50 (w0 := w) w.heap.size rfl (.tmp 82) (.tmp 88) 34 50 (.agg #[(.int .i64 0), (.slice none 0 0)]) 32 rfl Tryz.underlying34 m4 rfl bs u7_ (.slice Av 0 cv) ([] : List S50) (⟨row.f0, [(n : Int)]⟩ : S50) [.int .i64 row.f0, .slice (some ⟨w5.heap.size, 0, none⟩) 1 1] (fun k => okj k ∨ w5.heap.size ≤ k) (fun k => k = w5.heap.size) rfl u66_ ?aP ?aK ?aF ?aO ?aB ?aS ?aL ?_; (case aP => exact k4 row.f0 (n : Int) w5 w.heap.size HB5.out.size); (case aK => exact (fun k hk => ⟨.inr u7_, fun he => by have := Kd.S_lt HS5.out k he.symm; omega⟩)); (case aF => exact (fun k hk => .inr (by simp at hk; omega))); (case aO => exact u73_); (case aB => exact bF HB5.out _); (case aS => exact Nat.le_trans HB5.out.size cN); (case aL => exact u71_); intro v3 w3 ho hb hg hat; have hg' : w5.grownBy w3 (Value.slice Av 0 cv).ownBlock := World.grownBy.trans (World.grownBy_alloc w5 _ _) hg; obtain ⟨A3, c3, rfl⟩ := Kd.S_slice ho; obtain ⟨es, clock, hput, hmap6, hk6, hb6⟩ := iD (w0 := w) HM5.out HREST5.out (Kept.of_grown hg' (Kept.refl w5 okj) (fun k hk => .inl ((Kd.S_R HS5.out).1 k hk))) ho (fun k hk => hk) HTY5.out HPS.out HJX.out HST.out hb HBM.out; have HM6 := am_ hmap6; have HKB := am_ hk6; have HB6 := am_ hb6; have hz06 : w3.cell? ⟨gc, 0, none⟩ = some (.string c.f0) := iF hg' (fun k hk => HTY5.out k ((Kd.S_R HS5.out).1 k hk)) BKc5.out hz05; simp only [List.length_append, List.length_nil, List.length_cons, Nat.zero_add] at hput; clear ho hb hg hg' hat hmap6 hk6 hb6 hzr5 hz05))
           obtain ⟨es0, cl0, hmb⟩ := MapIs.block HM5.out; have HT6 := am_ (Kd.R_kept HT5.out HKB.out (fun k_ hk => by
            obtain ⟨cells, hc⟩ := Kd.R_typed HT5.out k_ hk.symm; exact Wr.not hmb hc bs bs))
           have BKr6 := am_ (e6 BKr5.out HKB.out (Wr.not hmb BKr5.out bs bs)); have BKc6 := am_ (e6 BKc5.out HKB.out (Wr.not hmb BKc5.out bs bs)); clear hmb; go_roundw
           case rel => exact ⟨n + 1, stepG G (c.f0, tt) row.f0 (n : Int), gx, u7_, by simpa using HN, ⟨u48_⟩, HM6, HT6, BKr6, BKc6, HB6⟩
           case measure => simp; omega
          ·obtain ⟨m2, hm2⟩ : ∃ m2, X.length = m2 + 1 := ⟨X.length - 1, by rw [hX]; omega⟩; have hpp : X[m2]? = some (X[m2]'u7_) := List.getElem?_eq_getElem _; rw [← hX] at HSX hlook HXL; clear hX hpos hxl2; generalize X[m2]'u7_ = p at hpp; have HST0 := am_ (ob hpp hm2 row.f0 (n : Int)); have HPL := am_ (HXL.out.2 p (List.mem_of_getElem? hpp)); obtain ⟨g, cap, u2, oki2, hv, hgl, hgb, hgo, hgc, hd0, hd1, hdf, hri, hok2, hsame⟩ := pg HSX.out m2 p hpp hm2.symm; injection hv with hA hy1_ hy2_
           clear hy1_ hy2_ hgc; subst hA; rw [hm2] at HSX hlook hsame; have HRI := am_ hri; have HOK2 := am_ hok2; have HSAME := am_ hsame; have HGL := am_ hgl; have HGB := am_ hgb; have HGO := am_ hgo; have HXM := am_ hm2; have hmb : m2 ≤ 2000000 := by have h1_ := HXL.out.1; have h2_ := HLQ.out; omega
           have t4 : (0 ≤ (m2 : Int)) = True := eq_true u7_; have t5 : ((m2 : Int) < ((m2 + 1 : Nat) : Int)) = True := eq_true u7_; clear hpp hm2 hri hok2 hsame hgl hgb hgo; by_cases hd : p.f0 = row.f0
           ·have hdb2 : (p.f0 == row.f0) = true := by simpa using hd
            have HST := am_ (show X.set m2 ⟨p.f0, p.f1 ++ [(n : Int)]⟩ = ff X row.f0 (n : Int) from by rw [HST0.out, if_pos hd]); clear hd HST0; go_wp2; go_quiet (fail)
            have HM5 := am_ (HM.out.below (aq (Below.refl _ _) nq)); have HREST5 := am_ (show MapRest k50 50 (wr.drewN nq) w.heap.size m G jj okj (wr.drewN nq).heap.size from HREST.out.step (fun _ _ _ => rfl)); have HS5 := am_ (Kd.S_drewN HSX.out nq); have HTY5 := am_ (show ∀ k, okj k → ∃ q cells, (q = 50 ∨ q = 3) ∧ (wr.drewN nq).heap[k]? = some (.cells cells q (0, 0)) from HTY.out); have BKr5 := am_ (eS BKr.out nq); have BKc5 := am_ (eS BKc.out nq); have HT5 := am_ (Kd.R_drewN HT.out nq); have HB5 := am_ (aq HB.out nq); have HBM := am_ (Nat.le_trans HMW.out (Nat.le_refl m)); have HRI5 := am_ (Kd.R_drewN HRI.out nq); have HSAME5 := am_ (show ∀ (w1 : World) (u1 : Value) (x : Int) (okp : Nat → Prop), (wr.drewN nq).grownBy w1 u2.ownBlock → kI.R 3 w1 w.heap.size okp u1 (p.f1 ++ [x]) → (∀ k, okp k → oki2 k ∨ (wr.drewN nq).heap.size ≤ k) → Kd.S k50 50 (w1.setCell ⟨g, m2 * 2 + 1, none⟩ u1) w.heap.size (fun k => okj k ∨ (wr.drewN nq).heap.size ≤ k) (.slice (some ⟨g, 0, none⟩) (m2 + 1) cv) (X.set m2 ⟨p.f0, p.f1 ++ [x]⟩) ∧ w1.grownBy (w1.setCell ⟨g, m2 * 2 + 1, none⟩ u1) (some g) from fun w1 u1 x okp hg => HSAME.out w1 u1 x okp ⟨hg.os, hg.tape, hg.output, hg.size, hg.block⟩); have HGL5 := am_ (show g < (wr.drewN nq).heap.size from HGL.out); replace hd1 : (wr.drewN nq).cell? ⟨g, m2 * 2 + 1, none⟩ = some u2 := hd1; replace hdf : (wr.drewN nq).frozen? ⟨g, m2 * 2 + 1, none⟩ = false := hdf; clear HRI HSAME HGL hd0 HM HREST HSX HTY BKr BKc HT HB hlook hz0 hzr; generalize wr.drewN nq = w5 at HM5 HREST5 HS5 HTY5 BKr5 BKc5 HT5 HB5 HRI5 HSAME5 HGL5 hd1 hdf ⊢; have hzr5 : w5.cell? ⟨gr, 0, none⟩ = some (.int .i64 row.f0) := (bn BKr5.out 0).trans rfl; have hz05 : w5.cell? ⟨gc, 0, none⟩ = some (.string c.f0) := (bn BKc5.out 0).trans rfl; have hgc1 : g ≠ gc := fun he => by
             obtain ⟨q, cells, hq, hh⟩ := HTY5.out g HGO.out; rw [he, BKc5.out] at hh; injection hh with hh
             injection hh with _ hh
             rcases hq with rfl | rfl
             ·exact absurd hh bs
             ·exact absurd hh bs
            have hgc2 : gc ≠ g := Ne.symm hgc1; go_wp2_with (first | ((with_reducible refine bM (b := .append) (xs := #[.tmp 76, .tmp 78]) rfl ?_); at_builtin; refine Kd.R_append kI (w0 := w) w.heap.size rfl (.tmp 76) (.tmp 78) 39 3 (.int .i64 0) 8 rfl Tryz.underlying39 rE rfl bs u7_ u2 p.f1 (n : Int) [.int .i64 (n : Int)] (fun k => oki2 k ∨ w5.heap.size ≤ k) (fun _ => False) ?hs ?hx rfl (fun _ hk => hk.elim) (fun k hk => .inr hk) (Kd.R_mono HRI5.out (fun _ hk => .inl hk)) HB5.out HB5.out.size (by have h1_ := HPL.out; have h2_ := HLQ.out; omega) ?_; (case hs => first | rfl | (go_simp; done) | (go_simp; rfl) | (simp; done)); (case hx => first | rfl | (go_simp; done) | (go_simp; rfl) | (simp; done)); intro u3 w3 ho hb hg hat; have hne : some g ≠ u2.ownBlock := (fun he => (HOK2.out g (HRI5.out.1 g he.symm)).2.2 rfl); have hh := hg.block g HGL5.out hne; replace hd1 := Go.Proofs.YtnjjdojonflckaaGreatDoorW.PrintWords.cell_grown hg hd1 hne; have hdf3 : w3.frozen? ⟨g, m2 * 2 + 1, none⟩ = false := (by simpa [World.frozen?, hh] using hdf); obtain ⟨A3, c3, rfl⟩ := Kd.R_slice ho; have hsm := HSAME5.out w3 _ (n : Int) _ hg ho (fun _ hk => hk); have hk3 := Kept.of_grown hsm.2 (Kept.of_grown hg (Kept.refl w5 okj) (fun k hk => .inl (HOK2.out k (HRI5.out.1 k hk)).1)) (fun k hk => by injection hk with hk; rw [← hk]; exact .inl HGO.out); have hb3 := eY hb (some g) hb.size hsm.2 (fun k hk => by injection hk with hk; rw [← hk]; exact HGB.out); obtain ⟨es, clock, hput, hmap6, hk6, hb6⟩ := iD (w0 := w) HM5.out HREST5.out hk3 hsm.1 (fun k hk => hk) HTY5.out HPS.out HJX.out HST.out hb3 HBM.out; have HM6 := am_ hmap6; have HKB := am_ hk6; have HB6 := am_ hb6; have hz06 : w3.cell? ⟨gc, 0, none⟩ = some (.string c.f0) := iF hg (fun k hk => HTY5.out k (HOK2.out k (HRI5.out.1 k hk)).1) BKc5.out hz05; simp only [List.length_append, List.length_nil, List.length_cons, Nat.zero_add] at hput HM6 HKB HB6; clear ho hb hg hat hmap6 hk6 hb6 hzr5 hz05 hne hh hsm hk3 hb3 hdf))
            obtain ⟨es0, cl0, hmb⟩ := MapIs.block HM5.out; have HT6 := am_ (Kd.R_kept HT5.out HKB.out (fun k_ hk => by
             obtain ⟨cells, hc⟩ := Kd.R_typed HT5.out k_ hk.symm; exact Wr.not hmb hc bs bs))
            have BKr6 := am_ (e6 BKr5.out HKB.out (Wr.not hmb BKr5.out bs bs)); have BKc6 := am_ (e6 BKc5.out HKB.out (Wr.not hmb BKc5.out bs bs)); clear hmb; go_roundw
            case rel => exact ⟨n + 1, stepG G (c.f0, tt) row.f0 (n : Int), gx, u7_, by simpa using HN, ⟨u48_⟩, HM6, HT6, BKr6, BKc6, HB6⟩
            case measure => simp; omega
           ·have hdb2 : (p.f0 == row.f0) = false := by simpa using hd
            have HST := am_ (show X ++ [⟨row.f0, [(n : Int)]⟩] = ff X row.f0 (n : Int) from by rw [HST0.out, if_neg hd]); clear hd HST0 hd1 hdf HRI HSAME; go_wp2; go_quiet (fail)
            have HM5 := am_ (HM.out.below (aq (Below.refl _ _) nq)); have HREST5 := am_ (show MapRest k50 50 (wr.drewN nq) w.heap.size m G jj okj (wr.drewN nq).heap.size from HREST.out.step (fun _ _ _ => rfl)); have HS5 := am_ (Kd.S_drewN HSX.out nq); have HTY5 := am_ (show ∀ k, okj k → ∃ q cells, (q = 50 ∨ q = 3) ∧ (wr.drewN nq).heap[k]? = some (.cells cells q (0, 0)) from HTY.out); have BKr5 := am_ (eS BKr.out nq); have BKc5 := am_ (eS BKc.out nq); have HT5 := am_ (Kd.R_drewN HT.out nq); have HB5 := am_ (aq HB.out nq); have HBM := am_ (Nat.le_trans HMW.out (Nat.le_refl m)); clear hd0 HM HREST HSX HTY BKr BKc HT HB hlook hz0 hzr; generalize wr.drewN nq = w5 at HM5 HREST5 HS5 HTY5 BKr5 BKc5 HT5 HB5 ⊢; have hzr5 : w5.cell? ⟨gr, 0, none⟩ = some (.int .i64 row.f0) := (bn BKr5.out 0).trans rfl; have hz05 : w5.cell? ⟨gc, 0, none⟩ = some (.string c.f0) := (bn BKc5.out 0).trans rfl; go_wp2_with (first | ((with_reducible refine bM (b := .append) (xs := #[.tmp 82, .tmp 88]) rfl ?_); at_builtin; refine Kd.S_append k50 (w0 := w) w.heap.size rfl (.tmp 82) (.tmp 88) 34 50 (.agg #[(.int .i64 0), (.slice none 0 0)]) 32 rfl Tryz.underlying34 m4 rfl bs u7_ (.slice (some ⟨g, 0, none⟩) (m2 + 1) cv) X (⟨row.f0, [(n : Int)]⟩ : S50) [.int .i64 row.f0, .slice (some ⟨w5.heap.size, 0, none⟩) 1 1] (fun k => okj k ∨ w5.heap.size ≤ k) (fun k => k = w5.heap.size) rfl u66_ ?aP ?aK ?aF ?aO ?aB ?aS ?aL ?_; (case aP => exact k4 row.f0 (n : Int) w5 w.heap.size HB5.out.size); (case aK => exact (fun k hk => ⟨.inr u7_, fun he => by have := Kd.S_lt HS5.out k he.symm; omega⟩)); (case aF => exact (fun k hk => .inr (by simp at hk; omega))); (case aO => exact u73_); (case aB => exact bF HB5.out _); (case aS => exact Nat.le_trans HB5.out.size cN); (case aL => exact u71_); intro v3 w3 ho hb hg hat; have hg' : w5.grownBy w3 (Value.slice (some ⟨g, 0, none⟩) (m2 + 1) cv).ownBlock := World.grownBy.trans (World.grownBy_alloc w5 _ _) hg; obtain ⟨A3, c3, rfl⟩ := Kd.S_slice ho; obtain ⟨es, clock, hput, hmap6, hk6, hb6⟩ := iD (w0 := w) HM5.out HREST5.out (Kept.of_grown hg' (Kept.refl w5 okj) (fun k hk => .inl ((Kd.S_R HS5.out).1 k hk))) ho (fun k hk => hk) HTY5.out HPS.out HJX.out HST.out hb HBM.out; have HM6 := am_ hmap6; have HKB := am_ hk6; have HB6 := am_ hb6; have hz06 : w3.cell? ⟨gc, 0, none⟩ = some (.string c.f0) := iF hg' (fun k hk => HTY5.out k ((Kd.S_R HS5.out).1 k hk)) BKc5.out hz05; simp only [List.length_append, List.length_nil, List.length_cons, Nat.zero_add] at hput; clear ho hb hg hg' hat hmap6 hk6 hb6 hzr5 hz05))
            obtain ⟨es0, cl0, hmb⟩ := MapIs.block HM5.out; have HT6 := am_ (Kd.R_kept HT5.out HKB.out (fun k_ hk => by
             obtain ⟨cells, hc⟩ := Kd.R_typed HT5.out k_ hk.symm; exact Wr.not hmb hc bs bs))
            have BKr6 := am_ (e6 BKr5.out HKB.out (Wr.not hmb BKr5.out bs bs)); have BKc6 := am_ (e6 BKc5.out HKB.out (Wr.not hmb BKc5.out bs bs)); clear hmb; go_roundw
            case rel => exact ⟨n + 1, stepG G (c.f0, tt) row.f0 (n : Int), gx, u7_, by simpa using HN, ⟨u48_⟩, HM6, HT6, BKr6, BKc6, HB6⟩
            case measure => simp; omega
        ·obtain rfl : n = ts.length := by omega
         have h := HGS.out; rw [List.drop_eq_nil_of_le (Nat.le_refl _), fO] at h; have r1 : (((ts.length : Nat) : Int) < (ts.length : Int)) = False := eq_false u7_; have HGE := am_ h; clear h; go_wp2; go_roundw
         case rel => exact ⟨j + 1, _, gx, u7_, H3, ⟨⟨by rw [← HGE.out]; exact HLG.out, HCK.out.1⟩⟩, ⟨by rw [← HGE.out]; exact HM.out⟩, BKr, HB⟩
         case measure => simp; omega
      ·rw [if_neg hck] at h; cases h
     ·rw [if_neg hd2] at h; have H3 := am_ h; have hdb : (d2 != 1) = true := bne_iff_ne.2 hd2; clear h HS2 hfd hd2; go_wp2_with (first | ((with_reducible refine az (N := 9) rfl ?_); refine fM rfl (N := 9) rfl rfl rfl (zs := #[.string (⟨#[]⟩ : ByteArray), .string (⟨#[]⟩ : ByteArray)]) (cs := #[.string c.f0, .string c.f1]) (t := 86) ?hr ?hs ?_; (case hr => exact u6_); (case hs => exact u6_); intro gc hg w3 hbox hb; replace HM := am_ (HM.out.below hb); replace BKr := am_ (aU BKr.out hb); replace HB := am_ (bE HB.out hb); have hz0 : w3.cell? ⟨gc, 0, none⟩ = some (.string c.f0) := (bn hbox 0).trans rfl; clear hg hbox hb hy0 hy1) | (go_at_call 110; refine (bf.calls k _ _ _ _ _ _ _ _ (Kd.C_below HF.out HB.out) HF0.out HFD.out).mono ?_; rintro e w4 ⟨rfl, hb⟩; replace HM := am_ (HM.out.below hb); replace BKr := am_ (aU BKr.out hb); replace HB := am_ (bE HB.out hb); clear hb hz0))
      go_roundw
      case rel => exact ⟨j + 1, s3, gx, u7_, H3, HL, HM, BKr, HB⟩
      case measure => simp; omega
    ·obtain rfl : j = row.f1.f1.length := by omega
     have h := HS2.out; rw [List.drop_eq_nil_of_le (Nat.le_refl _), entriesW.cs] at h; obtain rfl := Option.some.inj h; have q1 : (((row.f1.f1.length : Nat) : Int) < (row.f1.f1.length : Int)) = False := eq_false u7_; clear h; go_wp2; go_roundw
     case rel => exact ⟨i + 1, _, gx, u7_, H2, HL, HM, HB⟩
     case measure => simp; omega
  ·obtain rfl : i = l1.length := by omega
   have h := H.out; rw [List.drop_eq_nil_of_le (Nat.le_refl _), entriesW.rs] at h; have hse : s = (GG, nn) := Option.some.inj h; have HSO := am_ (show ee (s.1.map toE) = r by rw [hse]; exact HSORT.out); clear hse; have p1 : (((l1.length : Nat) : Int) < (l1.length : Int)) = False := eq_false u7_; clear h; have hsl : s.1.length ≤ 1000000 := Nat.le_trans HL.out.1.1 HL.out.2; go_wp2_with (first | ((with_reducible refine az (N := 99) rfl ?_); refine rg (w0 := w) (B := w.heap.size) rfl (N := 99) ?hd ?hr HB.out HB.out.size ?_; (case hd => rfl); (case hr => exact u6_); intro v99 w2 hs2 hb2 hb3 hv2; have HO := am_ hs2; have HV := am_ hv2; have hmm2 := HM.out.below hb3; obtain ⟨clock, hrange, hranging⟩ := Ranging.start jz hmm2; obtain ⟨rr, hrr⟩ : ∃ rr, rr = w2.heap.size := ⟨_, rfl⟩; obtain ⟨w3, hw3⟩ : ∃ w3, w3 = w2.alloc (.mapIter (some m) clock #[] clock) := ⟨_, rfl⟩; rw [← hrr, ← hw3] at hrange hranging; have hbw : Below w2.heap.size w2 w3 := (by rw [hw3]; exact bF (Below.refl _ _) _); have HRG := am_ hranging; replace HO := am_ (Kd.R_below HO.out hbw); replace HB := am_ (bE hb2 hbw); have HRB := am_ (show w.heap.size ≤ rr from by rw [hrr]; exact hb2.size); have HRM := am_ (show rr ≠ m from by rw [hrr]; exact Nat.ne_of_gt hmm2.lt); clear hs2 hb2 hb3 hv2 hmm2 hranging hrr hw3 hbw HM))
   clear hrange; go_loopg [14] (s.1.length) (fun q v14 wr => ∃ is : List Nat, s.1.length = q + is.length ∧ aa (Kd.R k76 76 wr w.heap.size (fun _ => True) v14 ((lC s.1 is).map toE)) ∧ aa (∃ b, v14.ownBlock = some b) ∧ aa (Ranging k50 50 wr w.heap.size m rr s.1 is) ∧ aa (Below w.heap.size w wr))
   case atStart => exact ⟨[], rfl, HO, HV, HRG, HB⟩
   case round =>
    clear HO HV HRG HB; obtain ⟨is, hq, HO, HV, HRG, HB⟩ := hrel; have hil : ((lC s.1 is).map toE).length = is.length := by unfold lC; simp
    rcases Ranging.next (P := Tryz.prog) HRG.out HRM.out 0 with ⟨hperm, hnext⟩ | ⟨i, g, v, w4, hgi, hni, hnext0, hrg4, hentry0, hgrow, hsz4, hR4, hle⟩
    ·have HP := am_ hperm; have hil2 : is.length ≤ 1000000 := by omega
     have HIL := am_ (show ((lC s.1 is).map toE).length < 1000000000 by omega); have HKN := am_ (Ranging.nodup HRG.out); clear hperm hil; go_wp2_with (first | (go_at_call 115; refine (rQ _ _ w.heap.size w _ HB.out HO.out HV.out HIL.out).mono ?_; rintro e w5 ⟨rfl, ys, hys, hpw, hr5, hb5⟩; have HY := am_ (And.intro hys hpw); have HR5 := am_ hr5; replace HB := am_ hb5; clear hys hpw hr5 hb5))
     go_ret
     refine ⟨_, rfl, ?_, HB.out⟩; have he : ys = r := by
      rw [← HSO.out]; exact pT (HY.out.1.trans (HP.out.map toE)) HY.out.2 HKN.out
     rw [← he]; exact HR5.out
    ·cases gk with
     | zero => exact absurd hle (by rw [List.length_append, List.length_singleton]; omega)
     | succ k1 =>
      obtain ⟨Av, cv, rfl⟩ := Kd.R_slice hR4; have hnext : (Instr.next (.pointer (some ⟨rr, 0, none⟩)) false 0).run Tryz.prog wr = .ok (.tuple #[.bool true, .agg #[.string g.1.1, .string g.1.2], .slice Av g.2.length cv]) w4 := hnext0; have hentry : (Instr.entry (.pointer (some ⟨rr, 0, none⟩))).run Tryz.prog w4 = .ok (.tuple #[.agg #[.string g.1.1, .string g.1.2], .slice Av g.2.length cv]) w4 := hentry0; have HG4 := am_ hrg4; have HR4 := am_ hR4; have HO4 := am_ (R_iter HO.out HRG.out hgrow); have HB4 := am_ (eY HB.out (some rr) HB.out.size hgrow (fun b hb => by injection hb with hb; rw [← hb]; exact HRB.out)); have HGI := am_ hgi; have HLE := am_ hle; clear hnext0 hentry0 hgrow hsz4 hrg4 hR4 hgi hni hle HO HRG HB; go_wp2_with (first | ((with_reducible refine az (N := 15) rfl ?_); refine fM rfl (N := 15) rfl rfl rfl (zs := #[.string (⟨#[]⟩ : ByteArray), .string (⟨#[]⟩ : ByteArray)]) (cs := #[.string g.1.1, .string g.1.2]) (t := 147) ?hr ?hs ?_; (case hr => exact u6_); (case hs => exact u6_); intro gp hg w5 hbox hb; replace HG4 := am_ (HG4.out.below hb); replace HR4 := am_ (Kd.R_below HR4.out hb); replace HO4 := am_ (Kd.R_below HO4.out hb); replace HB4 := am_ (bE HB4.out hb); have hz0 : w5.cell? ⟨gp, 0, none⟩ = some (.string g.1.1) := (bn hbox 0).trans rfl; have hz1 : w5.cell? ⟨gp, 1, none⟩ = some (.string g.1.2) := (bn hbox 1).trans rfl; clear hg hbox hb) | ((with_reducible refine bM (b := .append) (xs := #[.tmp 107, .tmp 114]) rfl ?_); at_builtin; refine Kd.R_append k76 (w0 := w) w.heap.size rfl (.tmp 107) (.tmp 114) 25 76 (.agg #[(.string ⟨#[]⟩), (.string ⟨#[]⟩), (.slice none 0 0)]) 56 rfl Tryz.underlying25 jk rfl bs u7_ u14 ((lC s.1 is).map toE) (toE g) [.string g.1.1, .string g.1.2, .slice Av g.2.length cv] (fun _ => True) (fun k => (True ∧ w.heap.size ≤ k ∧ k < w5.heap.size ∧ ∃ q, q ∈ 50 :: k50.E ∧ ∃ cells, w5.heap[k]? = some (.cells cells q (0, 0)))) ?hs ?hx ?aP ?aK (fun _ _ => trivial) HO4.out HB4.out HB4.out.size ?aL ?_; (case hs => first | rfl | (go_simp; done) | (go_simp; rfl)); (case hx => first | rfl | (go_simp; done) | (go_simp; rfl)); (case aP => exact ki _ _ _ (toE g) (Kd.R_bound HR4.out)); (case aK => exact (fun k hk => ⟨trivial, fun he => nS hk.2.2.2 (Kd.R_typed HO4.out k he.symm)⟩)); (case aL => rw [hil]; omega); intro v8 w8 ho hb hg hat; have HO8 := am_ ho; have HG8 := am_ (HG4.out.step (E := 76) bs hg (fun b hb => Kd.R_typed HO4.out b hb)); have HV8 := am_ (show ∃ b, v8.ownBlock = some b from hat.elim (fun h => by obtain ⟨b, hb⟩ := HV.out; exact ⟨b, h.trans hb⟩) (fun ⟨b, hb, _⟩ => ⟨b, hb⟩)); have HB8 := am_ hb; clear ho hb hg hat hz0 hz1))
      go_roundg k1
      case measure => omega
      case rel => exact ⟨is ++ [i], by rw [List.length_append, List.length_singleton]; omega, ⟨by rw [qA _ _ HGI.out, List.map_append]; exact HO8.out⟩, HV8, HG8, HB8⟩
end
def eq.f (k : Nat) (l0 : List S92) (l1 : List S46) : Option (List S76) := entriesW.f k l0 l1
theorem eq.calls (k : Nat) (A0 : Option Addr) (c0 : Nat) (l0 : List (S92)) (A1 : Option Addr) (c1 : Nat) (l1 : List (S46)) (r : List (S76)) (w : World) (hG : StopsIn w) (hr0 : Kd.C k92 w A0 l0.length l0) (hc0 : l0.length ≤ c0) (hr1 : Kd.C k46 w A1 l1.length l1) (hc1 : l1.length ≤ c1) (h : eq.f k l0 l1 = some r) :
  Calls Tryz.prog 68 #[.slice A0 l0.length c0, .slice A1 l1.length c1] w fun e w' => ∃ v0_ : Value, e = .returned (v0_) ∧ Kd.R k76 76 w' w.heap.size (fun _ => True) v0_ r ∧ Below w.heap.size w w' := entriesW.calls k A0 c0 l0 A1 c1 l1 r w hG hr0 hc0 hr1 hc1 h
end
mutual
def ai.j0 : Nat → Bool → List (S92) → List (S46) → List (S76) → Int → Option (Bool)
 | 0, _, _, _, _, _ => none
 | k + 1, x20, x239000, x239001, x239002, x239003 => if x20 = true then (some false) else (ai.l0 k x239001 (x239001.length : Int) 0 x239000 x239001 x239002 x239003)
def ai.l0 : Nat → List (S46) → Int → Int → List (S92) → List (S46) → List (S76) → Int → Option (Bool)
 | 0, _, _, _, _, _, _, _ => none
 | k + 1, x22, x23, x24, x239000, x239001, x239002, x239003 => if x24 < x23 then (if 0 ≤ x24 then (if x24 < (x22.length : Int) then ((aM.f ((ac x22 x24).f0) 0 (wrap64 (x239003 - 1))).bind fun t247 => (if t247 = true then (if x24 > 0 then (if 0 ≤ (wrap64 (x24 - 1)) then (if (wrap64 (x24 - 1)) < (x239001.length : Int) then (if ((ac x239001 (wrap64 (x24 - 1))).f0) ≥ ((ac x22 x24).f0) then (some false) else ((aN.f k x239000 ((ac x22 x24).f1.f0) ((ac x22 x24).f1.f1)).bind fun t249 => (if t249 = true then ((da.f x239000 x239001 x239002 x239003 ((ac x22 x24).f1.f0)).bind fun t250 => (if t250 = x24 then (ai.l0 k x22 x23 (wrap64 (x24 + 1)) x239000 x239001 x239002 x239003) else (some false))) else (some false)))) else (none)) else (none)) else ((aN.f k x239000 ((ac x22 x24).f1.f0) ((ac x22 x24).f1.f1)).bind fun t251 => (if t251 = true then ((da.f x239000 x239001 x239002 x239003 ((ac x22 x24).f1.f0)).bind fun t252 => (if t252 = x24 then (ai.l0 k x22 x23 (wrap64 (x24 + 1)) x239000 x239001 x239002 x239003) else (some false))) else (some false)))) else (some false))) else (none)) else (none)) else ((eq.f k x239000 x239001).bind fun t241 => ((cF.f k x239002 t241).bind fun t244 => (some t244)))
end
def ai.f (k : Nat) (l0_0 : List (S92)) (l0_1 : List (S46)) (l0_2 : List (S76)) (a0_3 : Int) : Option (Bool) := (aC.f k l0_0).bind fun t239 => (if t239 = true then (if (l0_1.length : Int) > 8 then (ai.j0 k true l0_0 l0_1 l0_2 a0_3) else ((aM.f a0_3 0 999999999).bind fun t240 => (ai.j0 k (!t240) l0_0 l0_1 l0_2 a0_3))) else (ai.j0 k true l0_0 l0_1 l0_2 a0_3))
def ai.T6 : Bool × List (List Nat × List Nat) := (true, [([], []), ([0], [0]), ([], []), ([2], [2]), ([3], [3]), ([1, 4], [1, 4]), ([5], [5]), ([6, 5], [6]), ([7], [7]), ([8, 7], [7, 8]), ([9, 7, 7], [7, 9]), ([10], [10]), ([11, 10], [10, 11]), ([10], [10]), ([13, 10], [10, 13]), ([12, 14, 10], [10, 12, 14]), ([15, 10], [10, 15]), ([16, 10], [10, 16]), ([10], [10]), ([18, 10], [10, 18]), ([17, 19, 10], [10, 17, 19]), ([10, 20, 7], [7, 10, 20]), ([7, 21], [7, 21]), ([22, 10], [22]), ([23], [23]), ([24, 23], [23, 24]), ([23], [23]), ([26, 23], [23, 26]), ([25, 27, 23, 23], [23, 25, 27]), ([28, 23], [23, 28]), ([23, 29], [23, 29]), ([30, 28], [30]), ([31], [31]), ([31], [31]), ([33, 31], [31, 33]), ([34, 31], [31, 34]), ([32, 35, 31, 31], [31, 32, 35]), ([31], [31]), ([36, 37, 31], [31, 36, 37]), ([31, 38], [31, 38])])
def ai.B6 : List Nat := [0, 1, 0, 4, 12, 31, 63, 127, 255, 511, 1023, 2047, 4095, 2047, 10239, 32767, 65535, 131071, 2047, 264191, 1048575, 2097151, 4194303, 8388607, 16777215, 33554431, 16777215, 83886079, 268435455, 536870911, 1073741823, 2147483647, 4294967295, 4294967295, 12884901887, 30064771071, 68719476735, 4294967295, 274877906943, 549755813887]
theorem ai.tab6 : dC .any (f4 Tryz.f25 6) = ai.T6 := by kernel_rfl
theorem ai.bits6 : dn ai.T6.2 ai.B6 = true := by kernel_rfl
def ai.T9 : Bool × List (List Nat × List Nat) := (true, [([], []), ([0], [0]), ([], []), ([2], [2]), ([], []), ([4], [4]), ([3, 5], [3, 5]), ([1, 6, 6], [1, 6]), ([7, 7, 0, 1, 2, 3, 4, 5, 6, 7], [7])])
def ai.B9 : List Nat := [0, 1, 0, 4, 0, 16, 60, 127, 255]
theorem ai.tab9 : dC .any (f4 Tryz.f25 9) = ai.T9 := by kernel_rfl
theorem ai.bits9 : dn ai.T9.2 ai.B9 = true := by kernel_rfl
theorem ai.calls (k : Nat) (A0_0 : Option Addr) (c0_0 : Nat) (l0_0 : List (S92)) (A0_1 : Option Addr) (c0_1 : Nat) (l0_1 : List (S46)) (A0_2 : Option Addr) (c0_2 : Nat) (l0_2 : List (S76)) (a0_3 : Int) (r : Bool) (w : World) (hG : StopsIn w) (hr0_0 : Kd.C k92 w A0_0 l0_0.length l0_0) (hc0_0 : l0_0.length ≤ c0_0) (hr0_1 : Kd.C k46 w A0_1 l0_1.length l0_1) (hc0_1 : l0_1.length ≤ c0_1) (hr0_2 : Kd.C k76 w A0_2 l0_2.length l0_2) (hc0_2 : l0_2.length ≤ c0_2) (h : ai.f k l0_0 l0_1 l0_2 a0_3 = some r) :
  Calls Tryz.prog 25 #[.agg #[.slice A0_0 l0_0.length c0_0, .slice A0_1 l0_1.length c0_1, .slice A0_2 l0_2.length c0_2, .int .i64 a0_3]] w fun e w' => e = .returned (.bool r) ∧ Below w.heap.size w w' := by
 have hu27 := Tryz.underlying27; have hu46 := Tryz.underlying46; have hu44 := Tryz.underlying44; have HG_ := am_ hG; clear hG; have HR0_0 := am_ hr0_0; have HC0_0 := am_ hc0_0; clear hr0_0 hc0_0; have HR0_1 := am_ hr0_1; have HC0_1 := am_ hc0_1; clear hr0_1 hc0_1; have HR0_2 := am_ hr0_2; have HC0_2 := am_ hc0_2; clear hr0_2 hc0_2; have HB := am_ (Below.refl w.heap.size w); have H := h; clear h; unfold ai.f at H
 have HC2 := am_ H; clear H; go_enter Tryz.func25, Tryz.ntmps25
 go_upto_region 1 with (first | ((with_reducible refine az (N := 1) rfl ?_); (try (refine a6 cI ?_; dsimp only)); refine bu ?hg (N := 1) ?hd (cs := #[.slice A0_0 l0_0.length c0_0, .slice A0_1 l0_1.length c0_1, .slice A0_2 l0_2.length c0_2, .int .i64 a0_3]) (t := 27) ?hr ?_; (case hd => rfl); (case hg => rfl); (case hr => exact u6_); intro gb238 hg w3 hbox hb; have BK238 := am_ (hbox); have GE238 := gw_ HB hg; replace HB := bs_ HB hb; clear hb hbox hg))
 (try simp only [Act.put, List.setIfInBounds_toArray, List.set_cons_zero, List.set_cons_succ])
 go_cut [20] (fun v20 wc => ∃ (kq : Nat) (x20_1 : Bool), v20 = .bool x20_1 ∧ aa (ai.j0 kq x20_1 l0_0 l0_1 l0_2 a0_3 = some r) ∧ aa (kq ≤ k) ∧ aa (wc.heap[gb238]? = some (.cells #[(.slice A0_0 l0_0.length c0_0), (.slice A0_1 l0_1.length c0_1), (.slice A0_2 l0_2.length c0_2), .int .i64 a0_3] 27 (0, 0))) ∧ aa (Below w.heap.size w wc))
 case first =>
  have H := HC2.out; clear HC2; obtain ⟨t239, A4, H⟩ := bi_ H; cases t239
  ·replace H := hf_ H; have H' := am_ H; clear H; obtain ⟨hcz14_0, hcz14_1, hcz14_2, hcz14_3, hfz14_0, hfz14_1, hfz14_2, hfz14_3⟩ := cu BK238.out; go_wp2_with (first | ((with_reducible refine gt_ 7 ?_); refine gB_ 7 Tryz.func63 (aC.calls k _ _ l0_0 false _ (kc_ HR0_0 HB) HC0_0.out A4.out) ?_; intro w15 hb; replace BK238 := bb_ BK238 hb; replace HB := bs_ HB hb; (try clear hb)))
   go_meet
   case rel => exact ⟨_, (true), u1_, H', ⟨j5⟩, ⟨pb_ BK238⟩, ⟨bw_ HB⟩⟩
  ·replace H := ht_ H; by_cases c6 : (l0_1.length : Int) > 8
   ·rw [if_pos c6] at H; have c6b0 : decide (8 < (l0_1.length : Int)) = true := decide_eq_true c6; have c6b1 : decide (8 < l0_1.length) = true := decide_eq_true u7_; clear c6; (first | rw [c6b0] | (simp only [ao, au]; rw [c6b0]) | skip)
    have H' := am_ H; clear H; obtain ⟨hcz7_0, hcz7_1, hcz7_2, hcz7_3, hfz7_0, hfz7_1, hfz7_2, hfz7_3⟩ := cu BK238.out; go_wp2_with (first | ((with_reducible refine gt_ 7 ?_); refine gB_ 7 Tryz.func63 (aC.calls k _ _ l0_0 true _ (kc_ HR0_0 HB) HC0_0.out A4.out) ?_; intro w8 hb; replace BK238 := bb_ BK238 hb; replace HB := bs_ HB hb; (try clear hb); obtain ⟨hcz9_0, hcz9_1, hcz9_2, hcz9_3, hfz9_0, hfz9_1, hfz9_2, hfz9_3⟩ := cu BK238.out))
    go_meet
    case rel => exact ⟨_, (true), u1_, H', ⟨j5⟩, ⟨pb_ BK238⟩, ⟨bw_ HB⟩⟩
   ·rw [if_neg c6] at H; have c6b0 : decide (8 < (l0_1.length : Int)) = false := decide_eq_false c6; have c6b1 : decide (8 < l0_1.length) = false := decide_eq_false u7_; clear c6; (first | rw [c6b0] | (simp only [ao, au]; rw [c6b0]) | skip)
    obtain ⟨t240, A10, H⟩ := bi_ H; have H' := am_ H; clear H; obtain ⟨hcz11_0, hcz11_1, hcz11_2, hcz11_3, hfz11_0, hfz11_1, hfz11_2, hfz11_3⟩ := cu BK238.out; go_wp2_with (first | ((with_reducible refine gt_ 7 ?_); refine gB_ 7 Tryz.func63 (aC.calls k _ _ l0_0 true _ (kc_ HR0_0 HB) HC0_0.out A4.out) ?_; intro w12 hb; replace BK238 := bb_ BK238 hb; replace HB := bs_ HB hb; (try clear hb); obtain ⟨hcz13_0, hcz13_1, hcz13_2, hcz13_3, hfz13_0, hfz13_1, hfz13_2, hfz13_3⟩ := cu BK238.out) | (go_at_call 64; (with_reducible refine (aM.calls a0_3 0 999999999 t240 _ A10.out).mono ?_); rintro e w' ⟨rfl, ⟨nd, rfl⟩⟩))
    go_meet
    case rel => exact ⟨_, (!t240), u1_, H', ⟨j5⟩, ⟨pb_ BK238⟩, ⟨bw_ HB⟩⟩
 case rest =>
  clear HC2; obtain ⟨kq, x20_1, rfl, HA, HJ1, BK238, HB⟩ := hcut; cases kq with
  | zero => exact absurd HA.out (by simp [ai.j0])
  | succ kj1 =>
   have H := HA.out; clear HA; simp only [ai.j0] at H; cases x20_1
   ·replace H := hf_ H; have H' := am_ H; clear H; obtain ⟨hcz17_0, hcz17_1, hcz17_2, hcz17_3, hfz17_0, hfz17_1, hfz17_2, hfz17_3⟩ := cu BK238.out; go_wp2; go_loopg [24] kj1 (fun kq v24 w' => ∃ (x24_2 : Int), v24 = .int .i64 x24_2 ∧ aa (ai.l0 kq l0_1 (l0_1.length : Int) x24_2 l0_0 l0_1 l0_2 a0_3 = some r) ∧ aa (kq ≤ kj1) ∧ aa (w'.heap[gb238]? = some (.cells #[(.slice A0_0 l0_0.length c0_0), (.slice A0_1 l0_1.length c0_1), (.slice A0_2 l0_2.length c0_2), .int .i64 a0_3] 27 (0, 0))) ∧ aa (Below w.heap.size w w'))
    case atStart => exact ⟨(0), u1_, H', ⟨Nat.le_refl _⟩, ⟨pb_ BK238⟩, ⟨bw_ HB⟩⟩
    case round =>
     clear H'; try clear hcz17_0 hcz17_1 hcz17_2 hcz17_3 hfz17_0 hfz17_1 hfz17_2 hfz17_3
     obtain ⟨x24_2, rfl, HA, HK2, BK238, HB⟩ := hrel; cases gk with
     | zero => exact absurd HA.out (by simp [ai.l0])
     | succ k2 =>
      have H := HA.out; clear HA; simp only [ai.l0] at H; by_cases c18 : x24_2 < (l0_1.length : Int)
      ·rw [if_pos c18] at H; have c18b0 := decide_eq_true c18; clear c18; obtain ⟨c19b0, H⟩ := gd_ H; obtain ⟨c20b0, H⟩ := gd_ H; obtain ⟨t247, A21, H⟩ := bi_ H; have HC_ := am_ H; clear H; obtain ⟨ad245, A245_2, c245_2, e245, hx245_0, hx245_1, hx245_2, hl245_2, hi245_2⟩ := fP HR0_1.out x24_2 od_ od_; cases e245; replace hx245_0 := cb_ HB hx245_0; replace hx245_1 := cb_ HB hx245_1; replace hx245_2 := cb_ HB hx245_2; have HR245_2 := am_ hi245_2; have HC245_2 := am_ hl245_2; clear hi245_2 hl245_2; obtain ⟨p245, q245⟩ := pt_ x24_2 l0_1.length; have H := HC_.out; clear HC_; cases t247
       ·replace H := hf_ H; obtain rfl := si_ H; try go_wp2_with (first | ((with_reducible refine az (N := 4) rfl ?_); (try (refine a6 cI ?_; dsimp only)); refine bu ?hg (N := 4) ?hd (cs := #[.int .i64 0, .string (⟨#[]⟩ : ByteArray), .slice none 0 0]) (t := 46) ?hr ?_; (case hd => rfl); (case hg => rfl); (case hr => exact u6_); intro gb246 hg w81 hbox hb; have BK246 := am_ (hbox); have GE246 := gw_ HB hg; replace HB := bs_ HB hb; have NB238_246 := nl_ BK238 hg; have NB246_238 := ng_ BK238 hg; replace BK238 := bb_ BK238 hb; clear hb hbox hg; have hnb82 := NB246_238.out; have hnc82 := NB238_246.out; obtain ⟨hcz83_0, hcz83_1, hcz83_2, hfz83_0, hfz83_1, hfz83_2⟩ := bO BK246.out))
        generalize hW_ : (((w81.setCell ⟨gb246, 0, none⟩ (.int .i64 ((ac l0_1 x24_2).f0))).setCell ⟨gb246, 1, none⟩ (.string ((ac l0_1 x24_2).f1.f0))).setCell ⟨gb246, 2, none⟩ (.slice A245_2 ((ac l0_1 x24_2).f1.f1).length c245_2)) = w84; replace BK238 := gk_ hW_ #[.slice A0_0 l0_0.length c0_0, .slice (some ad245) l0_1.length c0_1, .slice A0_2 l0_2.length c0_2, .int .i64 a0_3] BK238; replace BK246 := gk_ hW_ #[.int .i64 ((ac l0_1 x24_2).f0), .string ((ac l0_1 x24_2).f1.f0), .slice A245_2 ((ac l0_1 x24_2).f1.f1).length c245_2] BK246; replace HB := gb_ hW_ HB; clear hW_; replace BK238 := am_ (cd BK238.out); replace BK246 := am_ (cd BK246.out); replace HB := am_ (aQ HB.out); refine dk (n := 40) (S := fun w' => w'.cell? ⟨gb246, 0, none⟩ = some (.int .i64 ((ac l0_1 x24_2).f0)) ∧ w'.cell? ⟨gb246, 1, none⟩ = some (.string ((ac l0_1 x24_2).f1.f0)) ∧ w'.cell? ⟨gb246, 2, none⟩ = some (.slice A245_2 ((ac l0_1 x24_2).f1.f1).length c245_2) ∧ w'.cell? ⟨gb238, 0, none⟩ = some (.slice A0_0 l0_0.length c0_0) ∧ w'.cell? ⟨gb238, 1, none⟩ = some (.slice (some ad245) l0_1.length c0_1) ∧ w'.cell? ⟨gb238, 2, none⟩ = some (.slice A0_2 l0_2.length c0_2) ∧ w'.cell? ⟨gb238, 3, none⟩ = some (.int .i64 a0_3)) (ds := []) (bm_ 40 0) b9 rfl rfl ⟨bc_ BK246 0, bc_ BK246 1, bc_ BK246 2, bc_ BK238 0, bc_ BK238 1, bc_ BK238 2, bc_ BK238 3⟩ (fun hHeld => ?_); refine bX ai.tab6 ai.bits6 (fun HT_ HW_ => ?_); generalize w84.drew = w85 at BK238 BK246 HB hHeld ⊢; refine pv_ 0 29 ?_; refine pv_ 2 31 ?_; refine tv_ 1 30 ?_; refine tv_ 3 32 ?_; refine pv_ 4 33 ?_; refine ov_ 5 34 (fun K hK => ?_); refine oD_ Tryz.func64 (aM.calls ((ac l0_1 x24_2).f0) 0 (wrap64 (a0_3 - 1)) false _ A21.out) ?_; intro nd; refine hK.out _ _ ⟨bc_ BK246 0, bc_ BK246 1, bc_ BK246 2, bc_ BK238 0, bc_ BK238 1, bc_ BK238 2, bc_ BK238 3⟩ (fun hHeld => ?_); clear hK K; refine nm_ ?_; refine pv_ 6 35 ?_; refine pv_ 7 36 ?_; refine sv_ 8 37 ?_; refine sv_ 9 38 ?_; refine sv_ 10 39 ?_; refine sv_ 11 40 ?_; refine sv_ 12 41 ?_; refine sv_ 13 42 ?_; refine sv_ 14 43 ?_; refine sv_ 15 44 ?_; refine sv_ 16 45 ?_; refine sv_ 17 46 ?_; refine sv_ 18 47 ?_; refine sv_ 19 48 ?_; refine sv_ 20 49 ?_; refine sv_ 21 50 ?_; refine pv_ 22 51 ?_; refine pv_ 23 52 ?_; refine sv_ 24 53 ?_; refine sv_ 25 54 ?_; refine sv_ 26 55 ?_; refine sv_ 27 56 ?_; refine sv_ 28 57 ?_; refine sv_ 29 58 ?_; refine pv_ 30 59 ?_; refine pv_ 31 60 ?_; refine sv_ 32 61 ?_; refine sv_ 33 62 ?_; refine sv_ 34 63 ?_; refine sv_ 35 64 ?_; refine sv_ 36 65 ?_; refine sv_ 37 66 ?_; refine sv_ 38 67 ?_; refine pv_ 39 68 ?_; refine dn_ HT_ ?_; try go_wp2
        go_ret
        exact ⟨u0_, bw_ HB⟩
       ·replace H := ht_ H; have HC_ := am_ H; clear H; have H := HC_.out; clear HC_; by_cases c23 : x24_2 > 0
        ·rw [if_pos c23] at H; have c23b0 : decide (0 < x24_2) = true := decide_eq_true c23; clear c23; obtain ⟨ji24, hji24⟩ : ∃ j_ : Int, (wrap64 (x24_2 - 1)) = j_ := ⟨_, rfl⟩; replace H : (if 0 ≤ (ji24) then (if (ji24) < (l0_1.length : Int) then (if ((ac l0_1 (ji24)).f0) ≥ ((ac l0_1 x24_2).f0) then (some false) else ((aN.f k2 l0_0 ((ac l0_1 x24_2).f1.f0) ((ac l0_1 x24_2).f1.f1)).bind fun t249 => (if t249 = true then ((da.f l0_0 l0_1 l0_2 a0_3 ((ac l0_1 x24_2).f1.f0)).bind fun t250 => (if t250 = x24_2 then (ai.l0 k2 l0_1 (l0_1.length : Int) (wrap64 (x24_2 + 1)) l0_0 l0_1 l0_2 a0_3) else (some false))) else (some false)))) else (none)) else (none)) = some r := by first | (rw [hji24] at H; exact H) | (simp only [hji24] at H ⊢; exact H)
         (try rw [hji24] at A21)
         have hji24w : (IntKind.i64.wrap (x24_2 - 1)) = ji24 := (ao _).trans hji24; obtain ⟨c25b0, H⟩ := gd_ H; obtain ⟨c26b0, H⟩ := gd_ H; have HC_ := am_ H; clear H; (first | rw [c23b0] | (simp only [ao, au]; rw [c23b0]) | skip)
         try go_wp2_with (first | ((with_reducible refine az (N := 4) rfl ?_); (try (refine a6 cI ?_; dsimp only)); refine bu ?hg (N := 4) ?hd (cs := #[.int .i64 0, .string (⟨#[]⟩ : ByteArray), .slice none 0 0]) (t := 46) ?hr ?_; (case hd => rfl); (case hg => rfl); (case hr => exact u6_); intro gb246 hg w28 hbox hb; have BK246 := am_ (hbox); have GE246 := gw_ HB hg; replace HB := bs_ HB hb; have NB238_246 := nl_ BK238 hg; have NB246_238 := ng_ BK238 hg; replace BK238 := bb_ BK238 hb; clear hb hbox hg; have hnb29 := NB246_238.out; have hnc29 := NB238_246.out; obtain ⟨hcz30_0, hcz30_1, hcz30_2, hfz30_0, hfz30_1, hfz30_2⟩ := bO BK246.out))
         generalize hW_ : (((w28.setCell ⟨gb246, 0, none⟩ (.int .i64 ((ac l0_1 x24_2).f0))).setCell ⟨gb246, 1, none⟩ (.string ((ac l0_1 x24_2).f1.f0))).setCell ⟨gb246, 2, none⟩ (.slice A245_2 ((ac l0_1 x24_2).f1.f1).length c245_2)) = w31; replace BK238 := gk_ hW_ #[.slice A0_0 l0_0.length c0_0, .slice (some ad245) l0_1.length c0_1, .slice A0_2 l0_2.length c0_2, .int .i64 a0_3] BK238; replace BK246 := gk_ hW_ #[.int .i64 ((ac l0_1 x24_2).f0), .string ((ac l0_1 x24_2).f1.f0), .slice A245_2 ((ac l0_1 x24_2).f1.f1).length c245_2] BK246; replace HB := gb_ hW_ HB; clear hW_; replace BK238 := am_ (cd BK238.out); replace BK246 := am_ (cd BK246.out); replace HB := am_ (aQ HB.out); obtain ⟨ad248, A248_2, c248_2, e248, hx248_0, hx248_1, hx248_2, hl248_2, hi248_2⟩ := fP HR0_1.out (ji24) od_ od_; have hw248_2 := hx248_2; have hw248_1 := hx248_1; have hw248_0 := hx248_0; obtain rfl : ad245 = ad248 := (by injection e248); replace hx248_0 := cb_ HB hx248_0; replace hx248_1 := cb_ HB hx248_1; replace hx248_2 := cb_ HB hx248_2; have HR248_2 := am_ hi248_2; have HC248_2 := am_ hl248_2; clear hi248_2 hl248_2; obtain ⟨p248, q248⟩ := pt_ (ji24) l0_1.length; refine dk (n := 40) (S := fun w' => w'.cell? ⟨gb246, 0, none⟩ = some (.int .i64 ((ac l0_1 x24_2).f0)) ∧ w'.cell? ⟨gb246, 1, none⟩ = some (.string ((ac l0_1 x24_2).f1.f0)) ∧ w'.cell? ⟨gb246, 2, none⟩ = some (.slice A245_2 ((ac l0_1 x24_2).f1.f1).length c245_2) ∧ w'.cell? ⟨gb238, 0, none⟩ = some (.slice A0_0 l0_0.length c0_0) ∧ w'.cell? ⟨gb238, 1, none⟩ = some (.slice (some ad245) l0_1.length c0_1) ∧ w'.cell? ⟨gb238, 2, none⟩ = some (.slice A0_2 l0_2.length c0_2) ∧ w'.cell? ⟨gb238, 3, none⟩ = some (.int .i64 a0_3) ∧ w'.cell? (ad245.add (((ji24)).toNat * 3)) = some (.int .i64 ((ac l0_1 (ji24)).f0)) ∧ w'.cell? ⟨(ad245.add (((ji24)).toNat * 3)).block, (ad245.add (((ji24)).toNat * 3)).off + 1, none⟩ = some (.string ((ac l0_1 (ji24)).f1.f0)) ∧ w'.cell? ⟨(ad245.add (((ji24)).toNat * 3)).block, (ad245.add (((ji24)).toNat * 3)).off + 2, none⟩ = some (.slice A248_2 ((ac l0_1 (ji24)).f1.f1).length c248_2)) (ds := []) (bm_ 40 0) b9 rfl rfl ⟨bc_ BK246 0, bc_ BK246 1, bc_ BK246 2, bc_ BK238 0, bc_ BK238 1, bc_ BK238 2, bc_ BK238 3, (cc_ HB hw248_0), (cc_ HB hw248_1), (cc_ HB hw248_2)⟩ (fun hHeld => ?_); refine bX ai.tab6 ai.bits6 (fun HT_ HW_ => ?_); generalize w31.drew = w32 at BK238 BK246 HB HR248_2 hx248_0 hx248_1 hx248_2 hHeld ⊢; refine pv_ 0 29 ?_; refine pv_ 2 31 ?_; refine tv_ 1 30 ?_; refine tv_ 3 32 ?_; refine pv_ 4 33 ?_; refine ov_ 5 34 (fun K hK => ?_); refine oD_ Tryz.func64 (aM.calls ((ac l0_1 x24_2).f0) 0 (wrap64 (a0_3 - 1)) true _ A21.out) ?_; intro nd; refine hK.out _ _ ⟨bc_ BK246 0, bc_ BK246 1, bc_ BK246 2, bc_ BK238 0, bc_ BK238 1, bc_ BK238 2, bc_ BK238 3, (cc_ HB hw248_0), (cc_ HB hw248_1), (cc_ HB hw248_2)⟩ (fun hHeld => ?_); clear hK K; refine nm_ ?_; refine pv_ 6 35 ?_; refine pv_ 7 36 ?_; refine pv_ 8 37 ?_; refine pv_ 9 38 ?_; refine pv_ 10 39 ?_; refine pv_ 11 40 ?_; refine pv_ 13 42 ?_; refine pv_ 14 43 ?_; refine pv_ 18 47 ?_; refine tv_ 12 41 ?_; refine pv_ 15 44 ?_; refine pv_ 16 45 ?_; refine tv_ 17 46 ?_; refine tv_ 19 48 ?_; refine pv_ 20 49 ?_; refine pv_ 21 50 ?_; refine pv_ 22 51 ?_; refine pv_ 23 52 ?_; have H := HC_.out; clear HC_; by_cases c27 : ((ac l0_1 (ji24)).f0) ≥ ((ac l0_1 x24_2).f0)
         ·rw [if_pos c27] at H; have c27b0 : decide (((ac l0_1 x24_2).f0) ≤ ((ac l0_1 (ji24)).f0)) = true := decide_eq_true c27; clear c27; obtain rfl := si_ H; (first | rw [c27b0] | (simp only [ao, au]; rw [c27b0]) | skip)
          refine sv_ 24 53 ?_; refine sv_ 25 54 ?_; refine sv_ 26 55 ?_; refine sv_ 27 56 ?_; refine sv_ 28 57 ?_; refine sv_ 29 58 ?_; refine pv_ 30 59 ?_; refine pv_ 31 60 ?_; refine sv_ 32 61 ?_; refine sv_ 33 62 ?_; refine sv_ 34 63 ?_; refine sv_ 35 64 ?_; refine sv_ 36 65 ?_; refine sv_ 37 66 ?_; refine sv_ 38 67 ?_; refine pv_ 39 68 ?_; refine dn_ HT_ ?_; try go_wp2
          go_ret
          exact ⟨u24_, bw_ HB⟩
         ·rw [if_neg c27] at H; have c27b0 : decide (((ac l0_1 x24_2).f0) ≤ ((ac l0_1 (ji24)).f0)) = false := decide_eq_false c27; clear c27; obtain ⟨t249, A33, H⟩ := bi_ H; have HC_ := am_ H; clear H; (first | rw [c27b0] | (simp only [ao, au]; rw [c27b0]) | skip)
          refine pv_ 24 53 ?_; refine pv_ 26 55 ?_; refine tv_ 25 54 ?_; refine tv_ 27 56 ?_; refine ov_ 28 57 (fun K hK => ?_); refine go_ Tryz.func65 (aN.calls k2 _ _ l0_0 ((ac l0_1 x24_2).f1.f0) _ _ ((ac l0_1 x24_2).f1.f1) t249 _ ?side1 (kc_ HR0_0 HB) HC0_0.out (kc_ HR245_2 HB) HC245_2.out A33.out) ?_; (case side1 => exact kF)
          rintro e w56 ⟨rfl, hb⟩; refine ⟨_, rfl, ?_⟩; replace BK238 := bb_ BK238 hb; replace BK246 := bb_ BK246 hb; replace HB := bs_ HB hb; (try clear hb)
          refine hK.out _ _ ⟨bc_ BK246 0, bc_ BK246 1, bc_ BK246 2, bc_ BK238 0, bc_ BK238 1, bc_ BK238 2, bc_ BK238 3, (cc_ HB hw248_0), (cc_ HB hw248_1), (cc_ HB hw248_2)⟩ (fun hHeld => ?_); clear hK K; refine nm_ ?_; refine pv_ 29 58 ?_; refine pv_ 30 59 ?_; refine pv_ 31 60 ?_; have H := HC_.out; clear HC_; cases t249
          ·replace H := hf_ H; obtain rfl := si_ H; refine sv_ 32 61 ?_; refine sv_ 33 62 ?_; refine sv_ 34 63 ?_; refine sv_ 35 64 ?_; refine sv_ 36 65 ?_; refine sv_ 37 66 ?_; refine sv_ 38 67 ?_; refine pv_ 39 68 ?_; refine dn_ HT_ ?_; try go_wp2
           go_ret
           exact ⟨u24_, bw_ HB⟩
          ·replace H := ht_ H; obtain ⟨t250, A35, H⟩ := bi_ H; have HC_ := am_ H; clear H; refine pv_ 33 62 ?_; refine pv_ 34 63 ?_; refine pv_ 37 66 ?_; refine tv_ 32 61 ?_; refine tv_ 35 64 ?_; refine ov_ 36 65 (fun K hK => ?_); refine oB_ Tryz.func66 (da.calls _ _ l0_0 _ _ l0_1 _ _ l0_2 a0_3 ((ac l0_1 x24_2).f1.f0) t250 _ (kc_ HR0_0 HB) HC0_0.out (kc_ HR0_1 HB) HC0_1.out (kc_ HR0_2 HB) HC0_2.out A35.out) ?_; intro w43 hb; replace BK238 := bb_ BK238 hb; replace BK246 := bb_ BK246 hb; replace HB := bs_ HB hb; (try clear hb)
           refine hK.out _ _ ⟨bc_ BK246 0, bc_ BK246 1, bc_ BK246 2, bc_ BK238 0, bc_ BK238 1, bc_ BK238 2, bc_ BK238 3, (cc_ HB hw248_0), (cc_ HB hw248_1), (cc_ HB hw248_2)⟩ (fun hHeld => ?_); clear hK K; refine nm_ ?_; refine pv_ 38 67 ?_; refine pv_ 39 68 ?_; refine dn_ HT_ ?_; have H := HC_.out; clear HC_; by_cases c36 : t250 = x24_2
           ·rw [if_pos c36] at H; have c36b0 := cQ c36; have c36b1 := cO c36; clear c36; have H' := am_ H; clear H; (first | rw [c36b0] | (simp only [ao, au]; rw [c36b0]) | skip)
            try go_wp2
            go_roundg k2
            case measure => have := HJ1.out; have := HK2.out; omega
            case rel => exact ⟨(wrap64 (x24_2 + 1)), u1_, H', ⟨by have := HJ1.out; have := HK2.out; omega⟩, ⟨pb_ BK238⟩, ⟨bw_ HB⟩⟩
           ·rw [if_neg c36] at H; have c36b0 := cT c36; have c36b1 := cV c36; obtain rfl := si_ H; (first | rw [c36b0] | (simp only [ao, au]; rw [c36b0]) | skip)
            try go_wp2
            go_ret
            exact ⟨u24_, bw_ HB⟩
        ·rw [if_neg c23] at H; have c23b0 : decide (0 < x24_2) = false := decide_eq_false c23; clear c23; obtain ⟨t251, A57, H⟩ := bi_ H; have HC_ := am_ H; clear H; (first | rw [c23b0] | (simp only [ao, au]; rw [c23b0]) | skip)
         try go_wp2_with (first | ((with_reducible refine az (N := 4) rfl ?_); (try (refine a6 cI ?_; dsimp only)); refine bu ?hg (N := 4) ?hd (cs := #[.int .i64 0, .string (⟨#[]⟩ : ByteArray), .slice none 0 0]) (t := 46) ?hr ?_; (case hd => rfl); (case hg => rfl); (case hr => exact u6_); intro gb246 hg w75 hbox hb; have BK246 := am_ (hbox); have GE246 := gw_ HB hg; replace HB := bs_ HB hb; have NB238_246 := nl_ BK238 hg; have NB246_238 := ng_ BK238 hg; replace BK238 := bb_ BK238 hb; clear hb hbox hg; have hnb76 := NB246_238.out; have hnc76 := NB238_246.out; obtain ⟨hcz77_0, hcz77_1, hcz77_2, hfz77_0, hfz77_1, hfz77_2⟩ := bO BK246.out))
         generalize hW_ : (((w75.setCell ⟨gb246, 0, none⟩ (.int .i64 ((ac l0_1 x24_2).f0))).setCell ⟨gb246, 1, none⟩ (.string ((ac l0_1 x24_2).f1.f0))).setCell ⟨gb246, 2, none⟩ (.slice A245_2 ((ac l0_1 x24_2).f1.f1).length c245_2)) = w78; replace BK238 := gk_ hW_ #[.slice A0_0 l0_0.length c0_0, .slice (some ad245) l0_1.length c0_1, .slice A0_2 l0_2.length c0_2, .int .i64 a0_3] BK238; replace BK246 := gk_ hW_ #[.int .i64 ((ac l0_1 x24_2).f0), .string ((ac l0_1 x24_2).f1.f0), .slice A245_2 ((ac l0_1 x24_2).f1.f1).length c245_2] BK246; replace HB := gb_ hW_ HB; clear hW_; replace BK238 := am_ (cd BK238.out); replace BK246 := am_ (cd BK246.out); replace HB := am_ (aQ HB.out); refine dk (n := 40) (S := fun w' => w'.cell? ⟨gb246, 0, none⟩ = some (.int .i64 ((ac l0_1 x24_2).f0)) ∧ w'.cell? ⟨gb246, 1, none⟩ = some (.string ((ac l0_1 x24_2).f1.f0)) ∧ w'.cell? ⟨gb246, 2, none⟩ = some (.slice A245_2 ((ac l0_1 x24_2).f1.f1).length c245_2) ∧ w'.cell? ⟨gb238, 0, none⟩ = some (.slice A0_0 l0_0.length c0_0) ∧ w'.cell? ⟨gb238, 1, none⟩ = some (.slice (some ad245) l0_1.length c0_1) ∧ w'.cell? ⟨gb238, 2, none⟩ = some (.slice A0_2 l0_2.length c0_2) ∧ w'.cell? ⟨gb238, 3, none⟩ = some (.int .i64 a0_3)) (ds := []) (bm_ 40 0) b9 rfl rfl ⟨bc_ BK246 0, bc_ BK246 1, bc_ BK246 2, bc_ BK238 0, bc_ BK238 1, bc_ BK238 2, bc_ BK238 3⟩ (fun hHeld => ?_); refine bX ai.tab6 ai.bits6 (fun HT_ HW_ => ?_); generalize w78.drew = w79 at BK238 BK246 HB hHeld ⊢; refine pv_ 0 29 ?_; refine pv_ 2 31 ?_; refine tv_ 1 30 ?_; refine tv_ 3 32 ?_; refine pv_ 4 33 ?_; refine ov_ 5 34 (fun K hK => ?_); refine oD_ Tryz.func64 (aM.calls ((ac l0_1 x24_2).f0) 0 (wrap64 (a0_3 - 1)) true _ A21.out) ?_; intro nd; refine hK.out _ _ ⟨bc_ BK246 0, bc_ BK246 1, bc_ BK246 2, bc_ BK238 0, bc_ BK238 1, bc_ BK238 2, bc_ BK238 3⟩ (fun hHeld => ?_); clear hK K; refine nm_ ?_; refine pv_ 6 35 ?_; refine pv_ 7 36 ?_; refine pv_ 8 37 ?_; refine pv_ 9 38 ?_; refine pv_ 10 39 ?_; refine sv_ 11 40 ?_; refine sv_ 12 41 ?_; refine sv_ 13 42 ?_; refine sv_ 14 43 ?_; refine sv_ 15 44 ?_; refine sv_ 16 45 ?_; refine sv_ 17 46 ?_; refine sv_ 18 47 ?_; refine sv_ 19 48 ?_; refine sv_ 20 49 ?_; refine pv_ 21 50 ?_; refine pv_ 22 51 ?_; refine pv_ 23 52 ?_; refine pv_ 24 53 ?_; refine pv_ 26 55 ?_; refine tv_ 25 54 ?_; refine tv_ 27 56 ?_; refine ov_ 28 57 (fun K hK => ?_); refine go_ Tryz.func65 (aN.calls k2 _ _ l0_0 ((ac l0_1 x24_2).f1.f0) _ _ ((ac l0_1 x24_2).f1.f1) t251 _ ?side1 (kc_ HR0_0 HB) HC0_0.out (kc_ HR245_2 HB) HC245_2.out A57.out) ?_; (case side1 => exact kF)
         rintro e w80 ⟨rfl, hb⟩; refine ⟨_, rfl, ?_⟩; replace BK238 := bb_ BK238 hb; replace BK246 := bb_ BK246 hb; replace HB := bs_ HB hb; (try clear hb)
         refine hK.out _ _ ⟨bc_ BK246 0, bc_ BK246 1, bc_ BK246 2, bc_ BK238 0, bc_ BK238 1, bc_ BK238 2, bc_ BK238 3⟩ (fun hHeld => ?_); clear hK K; refine nm_ ?_; refine pv_ 29 58 ?_; refine pv_ 30 59 ?_; refine pv_ 31 60 ?_; have H := HC_.out; clear HC_; cases t251
         ·replace H := hf_ H; obtain rfl := si_ H; refine sv_ 32 61 ?_; refine sv_ 33 62 ?_; refine sv_ 34 63 ?_; refine sv_ 35 64 ?_; refine sv_ 36 65 ?_; refine sv_ 37 66 ?_; refine sv_ 38 67 ?_; refine pv_ 39 68 ?_; refine dn_ HT_ ?_; try go_wp2
          go_ret
          exact ⟨u0_, bw_ HB⟩
         ·replace H := ht_ H; obtain ⟨t252, A59, H⟩ := bi_ H; have HC_ := am_ H; clear H; refine pv_ 33 62 ?_; refine pv_ 34 63 ?_; refine pv_ 37 66 ?_; refine tv_ 32 61 ?_; refine tv_ 35 64 ?_; refine ov_ 36 65 (fun K hK => ?_); refine oB_ Tryz.func66 (da.calls _ _ l0_0 _ _ l0_1 _ _ l0_2 a0_3 ((ac l0_1 x24_2).f1.f0) t252 _ (kc_ HR0_0 HB) HC0_0.out (kc_ HR0_1 HB) HC0_1.out (kc_ HR0_2 HB) HC0_2.out A59.out) ?_; intro w67 hb; replace BK238 := bb_ BK238 hb; replace BK246 := bb_ BK246 hb; replace HB := bs_ HB hb; (try clear hb)
          refine hK.out _ _ ⟨bc_ BK246 0, bc_ BK246 1, bc_ BK246 2, bc_ BK238 0, bc_ BK238 1, bc_ BK238 2, bc_ BK238 3⟩ (fun hHeld => ?_); clear hK K; refine nm_ ?_; refine pv_ 38 67 ?_; refine pv_ 39 68 ?_; refine dn_ HT_ ?_; have H := HC_.out; clear HC_; by_cases c60 : t252 = x24_2
          ·rw [if_pos c60] at H; have c60b0 := cQ c60; have c60b1 := cO c60; clear c60; have H' := am_ H; clear H; (first | rw [c60b0] | (simp only [ao, au]; rw [c60b0]) | skip)
           try go_wp2
           go_roundg k2
           case measure => have := HJ1.out; have := HK2.out; omega
           case rel => exact ⟨(wrap64 (x24_2 + 1)), u1_, H', ⟨by have := HJ1.out; have := HK2.out; omega⟩, ⟨pb_ BK238⟩, ⟨bw_ HB⟩⟩
          ·rw [if_neg c60] at H; have c60b0 := cT c60; have c60b1 := cV c60; obtain rfl := si_ H; (first | rw [c60b0] | (simp only [ao, au]; rw [c60b0]) | skip)
           try go_wp2
           go_ret
           exact ⟨u0_, bw_ HB⟩
      ·rw [if_neg c18] at H; have c18b0 := decide_eq_false c18; clear c18; obtain ⟨t241, A86, H⟩ := bi_ H; obtain ⟨t244, A87, H⟩ := bi_ H; obtain rfl := si_ H; try go_wp2
       replace BK238 := am_ (cd BK238.out); replace HB := am_ (aQ HB.out); refine dk (n := 9) (S := fun w' => w'.cell? ⟨gb238, 0, none⟩ = some (.slice A0_0 l0_0.length c0_0) ∧ w'.cell? ⟨gb238, 1, none⟩ = some (.slice A0_1 l0_1.length c0_1) ∧ w'.cell? ⟨gb238, 2, none⟩ = some (.slice A0_2 l0_2.length c0_2) ∧ w'.cell? ⟨gb238, 3, none⟩ = some (.int .i64 a0_3)) (ds := []) (bm_ 9 0) b9 rfl rfl ⟨bc_ BK238 0, bc_ BK238 1, bc_ BK238 2, bc_ BK238 3⟩ (fun hHeld => ?_); refine bX ai.tab9 ai.bits9 (fun HT_ HW_ => ?_); generalize wr.drew = w88 at BK238 HB hHeld ⊢; refine pv_ 0 70 ?_; refine pv_ 2 72 ?_; refine pv_ 4 74 ?_; refine tv_ 1 71 ?_; refine tv_ 3 73 ?_; refine tv_ 5 75 ?_; refine ov_ 6 76 (fun K hK => ?_); refine go_ Tryz.func68 (eq.calls k2 _ _ l0_0 _ _ l0_1 t241 _ ?side1 (kc_ HR0_0 HB) HC0_0.out (kc_ HR0_1 HB) HC0_1.out A86.out) ?_; (case side1 => exact kF)
       rintro e w89 ⟨v242, rfl, ho0, hb⟩; refine ⟨_, rfl, ?_⟩; have HO243 := am_ (Kd.R_lower ho0 (av (bw_ HB))); replace BK238 := bb_ BK238 hb; replace HB := bs_ HB hb; (try clear hb)
       (try clear ho0)
       obtain ⟨Ao90, co90, eo90⟩ := Kd.R_slice HO243.out; (first | subst eo90 | (injection eo90 with f1_ f2_ f3_; have f4_ := f1_.symm; have f5_ := f3_.symm; clear f1_ f2_ f3_; subst f4_; subst f5_))
       refine hK.out _ _ ⟨bc_ BK238 0, bc_ BK238 1, bc_ BK238 2, bc_ BK238 3⟩ (fun hHeld => ?_); clear hK K; refine nm_ ?_; refine ov_ 7 77 (fun K hK => ?_); refine go_ Tryz.func67 (cF.calls k2 _ _ l0_2 _ _ t241 t244 _ (kc_ HR0_2 HB) HC0_2.out (kR_ HO243) ?side4 A87.out) ?_; (case side4 => exact (Kd.R_reads' HO243.out).2.1)
       rintro e w91 ⟨rfl, hb⟩; refine ⟨_, rfl, ?_⟩; replace BK238 := bb_ BK238 hb; replace HB := bs_ HB hb; (try clear hb)
       refine hK.out _ _ ⟨bc_ BK238 0, bc_ BK238 1, bc_ BK238 2, bc_ BK238 3⟩ (fun hHeld => ?_); clear hK K; refine nm_ ?_; refine pv_ 8 2 ?_; refine dn_ HT_ ?_; try go_wp2
       go_ret
       exact ⟨u0_, bw_ HB⟩
   ·replace H := ht_ H; obtain rfl := si_ H; go_wp2; go_ret
    exact ⟨u0_, bw_ HB⟩
def stringslite_HasPrefix.f (a0 : ByteArray) (a1 : ByteArray) : Option (Bool) := if (a0.size : Int) ≥ (a1.size : Int) then (if 0 ≤ (a1.size : Int) then (if (a1.size : Int) ≤ (a0.size : Int) then (some ((a0.extract 0 ((a1.size : Int) : Int).toNat).toList == a1.toList)) else (none)) else (none)) else (some false)
theorem stringslite_HasPrefix.calls (a0 : ByteArray) (a1 : ByteArray) (r : Bool) (w : World) (h : stringslite_HasPrefix.f a0 a1 = some r) :
  Calls Tryz.prog 89 #[.string a0, .string a1] w fun e w' => e = .returned (.bool r) ∧ Drawn0 w w' := by
 have H := h; clear h; unfold stringslite_HasPrefix.f at H
 by_cases c3 : (a0.size : Int) ≥ (a1.size : Int)
 ·rw [if_pos c3] at H; have c3b0 : decide ((a1.size : Int) ≤ (a0.size : Int)) = true := decide_eq_true c3; have c3b1 : decide (a1.size ≤ a0.size) = true := decide_eq_true (Int.ofNat_le.mp c3); clear c3; obtain ⟨c4b0, c4b1, H⟩ := ge_ H; obtain ⟨c5b0, c5b1, H⟩ := ge_ H; obtain rfl := si_ H; go_enter Tryz.func89, Tryz.ntmps89
  go_wp2; go_ret
  exact ⟨u4_, u3_⟩
 ·rw [if_neg c3] at H; have c3b0 : decide ((a1.size : Int) ≤ (a0.size : Int)) = false := decide_eq_false c3; have c3b1 : decide (a1.size ≤ a0.size) = false := decide_eq_false (fun h => c3 (Int.ofNat_le.mpr h)); clear c3; obtain rfl := si_ H; go_enter Tryz.func89, Tryz.ntmps89
  go_wp2; go_ret
  exact ⟨u4_, u3_⟩
def cK.f (a0 : ByteArray) (a1 : ByteArray) : Option (Bool) := (stringslite_HasPrefix.f a0 a1).bind fun t253 => (some t253)
theorem cK.calls (a0 : ByteArray) (a1 : ByteArray) (r : Bool) (w : World) (h : cK.f a0 a1 = some r) :
  Calls Tryz.prog 43 #[.string a0, .string a1] w fun e w' => e = .returned (.bool r) ∧ Drawn0 w w' := by
 have H := h; clear h; unfold cK.f at H
 obtain ⟨t253, A3, H⟩ := bi_ H; obtain rfl := si_ H; go_enter Tryz.func43, Tryz.ntmps43
 go_wp2_with (first | ((with_reducible refine gt_ 7 ?_); refine gD_ 7 Tryz.func89 (stringslite_HasPrefix.calls a0 a1 t253 _ A3.out) ?_; intro nd))
 go_ret
 exact ⟨u4_, u3_⟩
def aT.l0 : Nat → ByteArray → ByteArray → List ByteArray → List (S76) → Int → Int → Option (List ByteArray)
 | 0, _, _, _, _, _, _ => none
 | k + 1, x1, x2, x7, x16, x17, x18 => if x18 < x17 then (if 0 ≤ x18 then (if x18 < (x16.length : Int) then (if ((aj x16 x18).f0).toList = x1.toList then ((cK.f ((aj x16 x18).f1) x2).bind fun t261 => (if t261 = true then (if x7.length < 8796093022208 then (aT.l0 k x1 x2 (x7 ++ [(aj x16 x18).f1]) x16 x17 (wrap64 (x18 + 1))) else (none)) else (aT.l0 k x1 x2 x7 x16 x17 (wrap64 (x18 + 1))))) else (aT.l0 k x1 x2 x7 x16 x17 (wrap64 (x18 + 1)))) else (none)) else (none)) else (some x7)
def aT.f (k : Nat) (l0_0 : List (S92)) (l0_1 : List (S46)) (l0_2 : List (S76)) (a0_3 : Int) (a1 : ByteArray) (a2 : ByteArray) : Option (List ByteArray) := (some (([] : List ByteArray) : List ByteArray)).bind fun y255 => ((ai.f k l0_0 l0_1 l0_2 a0_3).bind fun t258 => (if t258 = true then (aT.l0 k a1 a2 y255 l0_2 (l0_2.length : Int) 0) else (some y255)))
theorem aT.calls (k : Nat) (A0_0 : Option Addr) (c0_0 : Nat) (l0_0 : List (S92)) (A0_1 : Option Addr) (c0_1 : Nat) (l0_1 : List (S46)) (A0_2 : Option Addr) (c0_2 : Nat) (l0_2 : List (S76)) (a0_3 : Int) (a1 : ByteArray) (a2 : ByteArray) (r : List ByteArray) (w : World) (hG : StopsIn w) (hr0_0 : Kd.C k92 w A0_0 l0_0.length l0_0) (hc0_0 : l0_0.length ≤ c0_0) (hr0_1 : Kd.C k46 w A0_1 l0_1.length l0_1) (hc0_1 : l0_1.length ≤ c0_1) (hr0_2 : Kd.C k76 w A0_2 l0_2.length l0_2) (hc0_2 : l0_2.length ≤ c0_2) (h : aT.f k l0_0 l0_1 l0_2 a0_3 a1 a2 = some r) :
  Calls Tryz.prog 10 #[.agg #[.slice A0_0 l0_0.length c0_0, .slice A0_1 l0_1.length c0_1, .slice A0_2 l0_2.length c0_2, .int .i64 a0_3], .string a1, .string a2] w fun e w' => ∃ v0_ : Value, e = .returned (v0_) ∧ Kd.R Kd.string 9 w' w.heap.size (fun _ => True) v0_ r ∧ Below w.heap.size w w' := by
 have hu27 := Tryz.underlying27; have hu76 := Tryz.underlying76; have HG_ := am_ hG; clear hG; have HR0_0 := am_ hr0_0; have HC0_0 := am_ hc0_0; clear hr0_0 hc0_0; have HR0_1 := am_ hr0_1; have HC0_1 := am_ hc0_1; clear hr0_1 hc0_1; have HR0_2 := am_ hr0_2; have HC0_2 := am_ hc0_2; clear hr0_2 hc0_2; have HB := am_ (Below.refl w.heap.size w); have H := h; clear h; unfold aT.f at H
 obtain ⟨y255, hy255⟩ : ∃ y_ : List ByteArray, y_ = (([] : List ByteArray)) := ⟨_, rfl⟩; replace H : ((ai.f k l0_0 l0_1 l0_2 a0_3).bind fun t258 => (if t258 = true then (aT.l0 k a1 a2 y255 l0_2 (l0_2.length : Int) 0) else (some y255))) = some r := by first | (rw [hy255]; with_reducible exact H) | (have H2_ := (Option.bind_some _ _).symm.trans H; rw [hy255]; with_reducible exact H2_) | (have H2_ := (Option.bind_some _ _).symm.trans H; with_reducible exact H2_) | with_reducible exact H | (rw [hy255]; exact H) | exact H
 have Ny255 := am_ hy255; clear hy255; obtain ⟨t258, A4, H⟩ := bi_ H; cases t258
 ·replace H := hf_ H; obtain rfl := si_ H; go_enter Tryz.func10, Tryz.ntmps10
  go_wp2_with (first | ((with_reducible refine gt_ 3 ?_); refine bx_ 3 #[.slice A0_0 l0_0.length c0_0, .slice A0_1 l0_1.length c0_1, .slice A0_2 l0_2.length c0_2, .int .i64 a0_3] 27 ?_; intro gb254 hg w29 hbox hb; have BK254 := am_ (hbox); have GE254 := gw_ HB hg; replace HB := bs_ HB hb; clear hb hbox hg) | ((with_reducible refine az (N := 10) rfl ?_); refine Kd.R_lit Kd.string _ 9 ?hg (N := 10) ?hd (xs := ([] : List ByteArray)) (inner := []) (ok := fun _ => True) (okp := fun _ => True) ?hr ?hp (fun _ hk => hk) trivial (Below.refl _ _) (Nat.le_refl _) cN ?_; (case hd => rfl); (case hg => rfl); (case hr => exact u6_); (case hp => exact gt); intro v256 w30 ho31 hb hg_ hnew_; clear hg_ hnew_; (first | rw [← Ny255.out] at ho31 | (simp only [Int.reduceToNat] at ho31; rw [← Ny255.out] at ho31)); have HO257 := am_ (Kd.R_lower ho31 (av (bw_ HB))); replace BK254 := bb_ BK254 hb; replace HB := bs_ HB hb; clear hb ho31; obtain ⟨hcz32_0, hcz32_1, hcz32_2, hcz32_3, hfz32_0, hfz32_1, hfz32_2, hfz32_3⟩ := cu BK254.out) | ((with_reducible refine gt_ 12 ?_); refine gB_ 12 Tryz.func25 (ai.calls k _ _ l0_0 _ _ l0_1 _ _ l0_2 a0_3 false _ ?side1 (kc_ HR0_0 HB) HC0_0.out (kc_ HR0_1 HB) HC0_1.out (kc_ HR0_2 HB) HC0_2.out A4.out) ?_; (case side1 => exact kF); intro w33 hb; replace HO257 := am_ (Kd.R_below (aR_ HO257.out) hb); replace HB := bs_ HB hb; (try clear hb)))
  go_ret
  exact ⟨_, u0_, aR_ HO257.out, bw_ HB⟩
 ·replace H := ht_ H; have H' := am_ H; clear H; go_enter Tryz.func10, Tryz.ntmps10
  go_wp2_with (first | ((with_reducible refine gt_ 3 ?_); refine bx_ 3 #[.slice A0_0 l0_0.length c0_0, .slice A0_1 l0_1.length c0_1, .slice A0_2 l0_2.length c0_2, .int .i64 a0_3] 27 ?_; intro gb254 hg w6 hbox hb; have BK254 := am_ (hbox); have GE254 := gw_ HB hg; replace HB := bs_ HB hb; clear hb hbox hg) | ((with_reducible refine az (N := 10) rfl ?_); refine Kd.R_lit Kd.string _ 9 ?hg (N := 10) ?hd (xs := ([] : List ByteArray)) (inner := []) (ok := fun _ => True) (okp := fun _ => True) ?hr ?hp (fun _ hk => hk) trivial (Below.refl _ _) (Nat.le_refl _) cN ?_; (case hd => rfl); (case hg => rfl); (case hr => exact u6_); (case hp => exact gt); intro v256 w7 ho8 hb hg_ hnew_; clear hg_ hnew_; (first | rw [← Ny255.out] at ho8 | (simp only [Int.reduceToNat] at ho8; rw [← Ny255.out] at ho8)); have HO257 := am_ (Kd.R_lower ho8 (av (bw_ HB))); replace BK254 := bb_ BK254 hb; replace HB := bs_ HB hb; clear hb ho8; obtain ⟨hcz9_0, hcz9_1, hcz9_2, hcz9_3, hfz9_0, hfz9_1, hfz9_2, hfz9_3⟩ := cu BK254.out) | ((with_reducible refine gt_ 12 ?_); refine gB_ 12 Tryz.func25 (ai.calls k _ _ l0_0 _ _ l0_1 _ _ l0_2 a0_3 true _ ?side1 (kc_ HR0_0 HB) HC0_0.out (kc_ HR0_1 HB) HC0_1.out (kc_ HR0_2 HB) HC0_2.out A4.out) ?_; (case side1 => exact kF); intro w10 hb; replace HO257 := am_ (Kd.R_below (aR_ HO257.out) hb); replace BK254 := bb_ BK254 hb; replace HB := bs_ HB hb; (try clear hb); obtain ⟨hcz11_0, hcz11_1, hcz11_2, hcz11_3, hfz11_0, hfz11_1, hfz11_2, hfz11_3⟩ := cu BK254.out))
  go_loopg [7, 18] k (fun kq v7 v18 w' => ∃ (x7_1 : List ByteArray) (x18_1 : Int), v18 = .int .i64 x18_1 ∧ aa (aT.l0 kq a1 a2 x7_1 l0_2 (l0_2.length : Int) x18_1 = some r) ∧ aa (kq ≤ k) ∧ aa (Kd.R Kd.string 9 w' w.heap.size (fun _ => True) v7 x7_1) ∧ aa (w'.heap[gb254]? = some (.cells #[(.slice A0_0 l0_0.length c0_0), (.slice A0_1 l0_1.length c0_1), (.slice A0_2 l0_2.length c0_2), .int .i64 a0_3] 27 (0, 0))) ∧ aa (Below w.heap.size w w'))
  case atStart => exact ⟨(y255), (0), u1_, H', ⟨Nat.le_refl _⟩, ⟨aR_ HO257.out⟩, ⟨pb_ BK254⟩, ⟨bw_ HB⟩⟩
  case round =>
   clear H'; try clear hcz11_0 hcz11_1 hcz11_2 hcz11_3 hfz11_0 hfz11_1 hfz11_2 hfz11_3
   try clear hcz9_0 hcz9_1 hcz9_2 hcz9_3 hfz9_0 hfz9_1 hfz9_2 hfz9_3
   obtain ⟨x7_1, x18_1, rfl, HA, HK1, HO_7, BK254, HB⟩ := hrel; cases gk with
   | zero => exact absurd HA.out (by simp [aT.l0])
   | succ k1 =>
    have H := HA.out; clear HA; simp only [aT.l0] at H; by_cases c12 : x18_1 < (l0_2.length : Int)
    ·rw [if_pos c12] at H; have c12b0 := decide_eq_true c12; clear c12; obtain ⟨c13b0, H⟩ := gd_ H; obtain ⟨c14b0, H⟩ := gd_ H; have HC_ := am_ H; clear H; obtain ⟨ad259, A259_2, c259_2, e259, hx259_0, hx259_1, hx259_2, hl259_2, hi259_2⟩ := em HR0_2.out x18_1 od_ od_; cases e259; replace hx259_0 := cb_ HB hx259_0; replace hx259_1 := cb_ HB hx259_1; replace hx259_2 := cb_ HB hx259_2; have HR259_2 := am_ hi259_2; have HC259_2 := am_ hl259_2; clear hi259_2 hl259_2; obtain ⟨p259, q259⟩ := pt_ x18_1 l0_2.length; have H := HC_.out; clear HC_; by_cases c15 : ((aj l0_2 x18_1).f0).toList = a1.toList
     ·rw [if_pos c15] at H; have c15b0 := cQ c15; have c15b1 := cO c15; clear c15; obtain ⟨t261, A16, H⟩ := bi_ H; have HC_ := am_ H; clear H; (first | rw [c15b0] | (simp only [ao, au]; rw [c15b0]) | skip)
      have H := HC_.out; clear HC_; cases t261
      ·replace H := hf_ H; have H' := am_ H; clear H; go_wp2_with (first | ((with_reducible refine gt_ 9 ?_); refine bx_ 9 #[.string (⟨#[]⟩ : ByteArray), .string (⟨#[]⟩ : ByteArray), .slice none 0 0] 76 ?_; intro gb260 hg w23 hbox hb; replace HO_7 := am_ (Kd.R_below (aR_ HO_7.out) hb); have BK260 := am_ (hbox); have GE260 := gw_ HB hg; replace HB := bs_ HB hb; have NB254_260 := nl_ BK254 hg; have NB260_254 := ng_ BK254 hg; replace BK254 := bb_ BK254 hb; clear hb hbox hg; have hnb24 := NB260_254.out; have hnc24 := NB254_260.out; obtain ⟨hcz25_0, hcz25_1, hcz25_2, hfz25_0, hfz25_1, hfz25_2⟩ := bO BK260.out) | (go_at_call 43; (with_reducible refine (cK.calls ((aj l0_2 x18_1).f1) a2 false _ A16.out).mono ?_); rintro e w' ⟨rfl, ⟨nd, rfl⟩⟩))
       go_roundg k1
       case measure => have := HK1.out; omega
       case rel => exact ⟨(x7_1), (wrap64 (x18_1 + 1)), u1_, H', ⟨dc⟩, ⟨u76_⟩, ⟨pb_ BK254⟩, ⟨bw_ HB⟩⟩
      ·replace H := ht_ H; obtain ⟨LMc18, H⟩ := gl_ H; generalize hy262 : ((x7_1 ++ [(aj l0_2 x18_1).f1]) : List ByteArray) = y262 at H; have Ny262 := am_ hy262.symm; clear hy262; have H' := am_ H; clear H; go_wp2_with (first | ((with_reducible refine gt_ 9 ?_); refine bx_ 9 #[.string (⟨#[]⟩ : ByteArray), .string (⟨#[]⟩ : ByteArray), .slice none 0 0] 76 ?_; intro gb260 hg w19 hbox hb; replace HO_7 := am_ (Kd.R_below (aR_ HO_7.out) hb); have BK260 := am_ (hbox); have GE260 := gw_ HB hg; replace HB := bs_ HB hb; have NB254_260 := nl_ BK254 hg; have NB260_254 := ng_ BK254 hg; replace BK254 := bb_ BK254 hb; clear hb hbox hg; have hnb20 := NB260_254.out; have hnc20 := NB254_260.out; obtain ⟨hcz21_0, hcz21_1, hcz21_2, hfz21_0, hfz21_1, hfz21_2⟩ := bO BK260.out) | (go_at_call 43; (with_reducible refine (cK.calls ((aj l0_2 x18_1).f1) a2 true _ A16.out).mono ?_); rintro e w' ⟨rfl, ⟨nd, rfl⟩⟩) | ((with_reducible refine bM (b := .append) (xs := #[.tmp 32, .tmp 35]) rfl ?_); at_builtin; refine Kd.R_append Kd.string (w0 := w) w.heap.size rfl (.tmp 32) (.tmp 35) 30 9 (.string ⟨#[]⟩) 16 rfl Tryz.underlying30 eD rfl bs u7_ u7 x7_1 ((aj l0_2 x18_1).f1) [.string ((aj l0_2 x18_1).f1)] (fun _ => True) (fun _ => False) rfl (by first | (go_simp; done) | (go_simp; rfl)) ?aP (fun _ hk => hk.elim) ?aF ?aO ?aB ?aS ?aL ?_; (case aP => exact rfl); (case aB => exact fG); (case aF => exact j4); (case aO => exact u76_); (case aS => exact fH); (case aL => have := LMc18.out; omega); intro v263 w22 ho hb hg hat; rw [← Ny262.out] at ho; replace BK254 := am_ (mr (g := gb254) (o := .cells #[.slice A0_0 l0_0.length c0_0, .slice A0_1 l0_1.length c0_1, .slice (some ad259) l0_2.length c0_2, .int .i64 a0_3] 27 (0, 0)) (pb_ BK254) hg (Kd.R_ne HO_7.out BK254.out bs)); replace HB := am_ (hb); have HO264 := am_ (ho); clear HO_7 ho hb hg hat))
       go_roundg k1
       case measure => have := HK1.out; omega
       case rel => exact ⟨(y262), (wrap64 (x18_1 + 1)), u1_, H', ⟨dc⟩, ⟨aR_ HO264.out⟩, ⟨pb_ BK254⟩, ⟨bw_ HB⟩⟩
     ·rw [if_neg c15] at H; have c15b0 := cT c15; have c15b1 := cV c15; have H' := am_ H; clear H; (first | rw [c15b0] | (simp only [ao, au]; rw [c15b0]) | skip)
      go_wp2_with (first | ((with_reducible refine gt_ 9 ?_); refine bx_ 9 #[.string (⟨#[]⟩ : ByteArray), .string (⟨#[]⟩ : ByteArray), .slice none 0 0] 76 ?_; intro gb260 hg w26 hbox hb; replace HO_7 := am_ (Kd.R_below (aR_ HO_7.out) hb); have BK260 := am_ (hbox); have GE260 := gw_ HB hg; replace HB := bs_ HB hb; have NB254_260 := nl_ BK254 hg; have NB260_254 := ng_ BK254 hg; replace BK254 := bb_ BK254 hb; clear hb hbox hg; have hnb27 := NB260_254.out; have hnc27 := NB254_260.out; obtain ⟨hcz28_0, hcz28_1, hcz28_2, hfz28_0, hfz28_1, hfz28_2⟩ := bO BK260.out))
      go_roundg k1
      case measure => have := HK1.out; omega
      case rel => exact ⟨(x7_1), (wrap64 (x18_1 + 1)), u1_, H', ⟨dc⟩, ⟨u76_⟩, ⟨pb_ BK254⟩, ⟨bw_ HB⟩⟩
    ·rw [if_neg c12] at H; have c12b0 := decide_eq_false c12; clear c12; obtain rfl := si_ H; go_wp2; go_ret
     exact ⟨_, u0_, aR_ HO_7.out, bw_ HB⟩
def b7.f (a0 : Int) (a1 : Int) (a2 : Int) : Option (Bool) := if a0 ≥ a1 then (some (decide (a0 ≤ a2))) else (some false)
theorem b7.calls (a0 : Int) (a1 : Int) (a2 : Int) (r : Bool) (w : World) (h : b7.f a0 a1 a2 = some r) :
  Calls Tryz.prog 52 #[.int .i64 a0, .int .i64 a1, .int .i64 a2] w fun e w' => e = .returned (.bool r) ∧ Drawn0 w w' := by
 have H := h; clear h; unfold b7.f at H
 by_cases c4 : a0 ≥ a1
 ·rw [if_pos c4] at H; have c4b0 : decide (a1 ≤ a0) = true := decide_eq_true c4; clear c4; obtain rfl := si_ H; go_enter Tryz.func52, Tryz.ntmps52
  go_wp2; go_ret
  exact ⟨u4_, u3_⟩
 ·rw [if_neg c4] at H; have c4b0 : decide (a1 ≤ a0) = false := decide_eq_false c4; clear c4; obtain rfl := si_ H; go_enter Tryz.func52, Tryz.ntmps52
  go_wp2; go_ret
  exact ⟨u4_, u3_⟩
def aE.l0 : Nat → ByteArray → Int → Option (Bool)
 | 0, _, _ => none
 | k + 1, x0, x3 => if x3 < (x0.size : Int) then (if 0 ≤ x3 then (if (bt x0 x3) ≥ 97 then (if ((bt x0 x3) ≤ 122) then (aE.l0 k x0 (wrap64 (x3 + 1))) else (if x3 = 0 then (some false) else (if (bt x0 x3) < 48 then (some false) else (if (bt x0 x3) > 57 then (some false) else (aE.l0 k x0 (wrap64 (x3 + 1))))))) else (if x3 = 0 then (some false) else (if (bt x0 x3) < 48 then (some false) else (if (bt x0 x3) > 57 then (some false) else (aE.l0 k x0 (wrap64 (x3 + 1))))))) else (none)) else ((b7.f (x0.size : Int) 1 8).bind fun t265 => (some t265))
def aE.f (k : Nat) (a0 : ByteArray) : Option (Bool) := aE.l0 k a0 0
theorem aE.calls (k : Nat) (a0 : ByteArray) (r : Bool) (w : World) (h : aE.f k a0 = some r) :
  Calls Tryz.prog 99 #[.string a0] w fun e w' => e = .returned (.bool r) ∧ Drawn0 w w' := by
 have H := h; clear h; unfold aE.f at H
 have H' := am_ H; clear H; go_enter Tryz.func99, Tryz.ntmps99
 go_wp2; go_loopg [3] k (fun kq v3 w' => ∃ (x3_1 : Int), v3 = .int .i64 x3_1 ∧ aa (aE.l0 kq a0 x3_1 = some r) ∧ aa (kq ≤ k) ∧ Drawn0 w w')
 case atStart => exact ⟨(0), u1_, H', ⟨Nat.le_refl _⟩, u3_⟩
 case round =>
  clear H'; obtain ⟨x3_1, rfl, HA, HK1, ⟨m1, rfl⟩⟩ := hrel; cases gk with
  | zero => exact absurd HA.out (by simp [aE.l0])
  | succ k1 =>
   have H := HA.out; clear HA; simp only [aE.l0] at H; by_cases c2 : x3_1 < (a0.size : Int)
   ·rw [if_pos c2] at H; have c2b0 := decide_eq_true c2; clear c2; obtain ⟨c3b0, H⟩ := gd_ H; have HC_ := am_ H; clear H; obtain ⟨p4, q4⟩ := pq_ x3_1 a0.size; have hx4 := d7 a0 x3_1; obtain ⟨p4, q4⟩ := tt_ p4 q4; have H := HC_.out; clear HC_; by_cases c5 : (bt a0 x3_1) ≥ 97
    ·rw [if_pos c5] at H; have c5b0 : decide (97 ≤ (bt a0 x3_1)) = true := decide_eq_true c5; clear c5; have HC_ := am_ H; clear H; (first | rw [c5b0] | (simp only [ao, au]; rw [c5b0]) | skip)
     obtain ⟨p6, q6⟩ := pq_ x3_1 a0.size; have hx6 := d7 a0 x3_1; obtain ⟨p6, q6⟩ := tt_ p6 q6; have H := HC_.out; clear HC_; by_cases c7 : ((bt a0 x3_1) ≤ 122)
     ·rw [if_pos c7] at H; have c7b0 : decide ((bt a0 x3_1) ≤ 122) = true := decide_eq_true c7; clear c7; have H' := am_ H; clear H; (first | rw [c7b0] | (simp only [ao, au]; rw [c7b0]) | skip)
      go_wp2; go_roundg k1
      case measure => have := HK1.out; omega
      case rel => exact ⟨(wrap64 (x3_1 + 1)), u1_, H', ⟨dc⟩, u3_⟩
     ·rw [if_neg c7] at H; have c7b0 : decide ((bt a0 x3_1) ≤ 122) = false := decide_eq_false c7; clear c7; have HC_ := am_ H; clear H; (first | rw [c7b0] | (simp only [ao, au]; rw [c7b0]) | skip)
      have H := HC_.out; clear HC_; by_cases c8 : x3_1 = 0
      ·rw [if_pos c8] at H; have c8b0 := cQ c8; have c8b1 := cO c8; clear c8; obtain rfl := si_ H; (first | rw [c8b0] | (simp only [ao, au]; rw [c8b0]) | skip)
       go_wp2; go_ret
       exact ⟨u4_, u3_⟩
      ·rw [if_neg c8] at H; have c8b0 := cT c8; have c8b1 := cV c8; have HC_ := am_ H; clear H; (first | rw [c8b0] | (simp only [ao, au]; rw [c8b0]) | skip)
       obtain ⟨p9, q9⟩ := pq_ x3_1 a0.size; have hx9 := d7 a0 x3_1; obtain ⟨p9, q9⟩ := tt_ p9 q9; have H := HC_.out; clear HC_; by_cases c10 : (bt a0 x3_1) < 48
       ·rw [if_pos c10] at H; have c10b0 := decide_eq_true c10; clear c10; obtain rfl := si_ H; (first | rw [c10b0] | (simp only [ao, au]; rw [c10b0]) | skip)
        go_wp2; go_ret
        exact ⟨u4_, u3_⟩
       ·rw [if_neg c10] at H; have c10b0 := decide_eq_false c10; clear c10; have HC_ := am_ H; clear H; (first | rw [c10b0] | (simp only [ao, au]; rw [c10b0]) | skip)
        obtain ⟨p11, q11⟩ := pq_ x3_1 a0.size; have hx11 := d7 a0 x3_1; obtain ⟨p11, q11⟩ := tt_ p11 q11; have H := HC_.out; clear HC_; by_cases c12 : (bt a0 x3_1) > 57
        ·rw [if_pos c12] at H; have c12b0 : decide (57 < (bt a0 x3_1)) = true := decide_eq_true c12; clear c12; obtain rfl := si_ H; (first | rw [c12b0] | (simp only [ao, au]; rw [c12b0]) | skip)
         go_wp2; go_ret
         exact ⟨u4_, u3_⟩
        ·rw [if_neg c12] at H; have c12b0 : decide (57 < (bt a0 x3_1)) = false := decide_eq_false c12; clear c12; have H' := am_ H; clear H; (first | rw [c12b0] | (simp only [ao, au]; rw [c12b0]) | skip)
         go_wp2; go_roundg k1
         case measure => have := HK1.out; omega
         case rel => exact ⟨(wrap64 (x3_1 + 1)), u1_, H', ⟨dc⟩, u3_⟩
    ·rw [if_neg c5] at H; have c5b0 : decide (97 ≤ (bt a0 x3_1)) = false := decide_eq_false c5; clear c5; have HC_ := am_ H; clear H; (first | rw [c5b0] | (simp only [ao, au]; rw [c5b0]) | skip)
     have H := HC_.out; clear HC_; by_cases c13 : x3_1 = 0
     ·rw [if_pos c13] at H; have c13b0 := cQ c13; have c13b1 := cO c13; clear c13; obtain rfl := si_ H; (first | rw [c13b0] | (simp only [ao, au]; rw [c13b0]) | skip)
      go_wp2; go_ret
      exact ⟨u4_, u3_⟩
     ·rw [if_neg c13] at H; have c13b0 := cT c13; have c13b1 := cV c13; have HC_ := am_ H; clear H; (first | rw [c13b0] | (simp only [ao, au]; rw [c13b0]) | skip)
      obtain ⟨p14, q14⟩ := pq_ x3_1 a0.size; have hx14 := d7 a0 x3_1; obtain ⟨p14, q14⟩ := tt_ p14 q14; have H := HC_.out; clear HC_; by_cases c15 : (bt a0 x3_1) < 48
      ·rw [if_pos c15] at H; have c15b0 := decide_eq_true c15; clear c15; obtain rfl := si_ H; (first | rw [c15b0] | (simp only [ao, au]; rw [c15b0]) | skip)
       go_wp2; go_ret
       exact ⟨u4_, u3_⟩
      ·rw [if_neg c15] at H; have c15b0 := decide_eq_false c15; clear c15; have HC_ := am_ H; clear H; (first | rw [c15b0] | (simp only [ao, au]; rw [c15b0]) | skip)
       obtain ⟨p16, q16⟩ := pq_ x3_1 a0.size; have hx16 := d7 a0 x3_1; obtain ⟨p16, q16⟩ := tt_ p16 q16; have H := HC_.out; clear HC_; by_cases c17 : (bt a0 x3_1) > 57
       ·rw [if_pos c17] at H; have c17b0 : decide (57 < (bt a0 x3_1)) = true := decide_eq_true c17; clear c17; obtain rfl := si_ H; (first | rw [c17b0] | (simp only [ao, au]; rw [c17b0]) | skip)
        go_wp2; go_ret
        exact ⟨u4_, u3_⟩
       ·rw [if_neg c17] at H; have c17b0 : decide (57 < (bt a0 x3_1)) = false := decide_eq_false c17; clear c17; have H' := am_ H; clear H; (first | rw [c17b0] | (simp only [ao, au]; rw [c17b0]) | skip)
        go_wp2; go_roundg k1
        case measure => have := HK1.out; omega
        case rel => exact ⟨(wrap64 (x3_1 + 1)), u1_, H', ⟨dc⟩, u3_⟩
   ·rw [if_neg c2] at H; have c2b0 := decide_eq_false c2; clear c2; obtain ⟨t265, A18, H⟩ := bi_ H; obtain rfl := si_ H; go_wp2_with (first | ((with_reducible refine gt_ 41 ?_); refine gD_ 41 Tryz.func52 (b7.calls (a0.size : Int) 1 8 t265 _ A18.out) ?_; intro nd))
    go_ret
    exact ⟨u4_, u3_⟩
mutual
def ar.l0 : Nat → List (S92) → Int → Option (Bool)
 | 0, _, _ => none
 | k + 1, x0, x3 => if x3 < (x0.length : Int) then (if 0 ≤ x3 then (if ((an x0 x3).f1) = 1 then ((b7.f ((an x0 x3).f2) 1 9).bind fun t269 => (ar.j1 k x0 x3 t269 ((an x0 x3).f0) ((an x0 x3).f1) ((an x0 x3).f2))) else (ar.j1 k x0 x3 false ((an x0 x3).f0) ((an x0 x3).f1) ((an x0 x3).f2))) else (none)) else ((b7.f (x0.length : Int) 1 4).bind fun t266 => (some t266))
def ar.j1 : Nat → List (S92) → Int → Bool → ByteArray → Int → Int → Option (Bool)
 | 0, _, _, _, _, _, _ => none
 | k + 1, x0, x3, x5, x269000, x269001, x269002 => (b7.f x269001 2 3).bind fun t270 => (if t270 = true then (ar.j2 k x0 x3 x5 (x269002 == 0) x269000 x269001 x269002) else (ar.j2 k x0 x3 x5 false x269000 x269001 x269002))
def ar.j2 : Nat → List (S92) → Int → Bool → Bool → ByteArray → Int → Int → Option (Bool)
 | 0, _, _, _, _, _, _, _ => none
 | k + 1, x0, x3, x5, x6, x269000, x269001, x269002 => (aE.f k x269000).bind fun t271 => (if t271 = true then ((a8.f k x0 x269000).bind fun t272 => (if t272 = x3 then (if x5 = true then (ar.l0 k x0 (wrap64 (x3 + 1))) else (if x6 = true then (ar.l0 k x0 (wrap64 (x3 + 1))) else (some false))) else (some false))) else (some false))
end
def ar.f (k : Nat) (l0 : List (S92)) : Option (Bool) := ar.l0 k l0 0
theorem ar.calls (k : Nat) (A0 : Option Addr) (c0 : Nat) (l0 : List (S92)) (r : Bool) (w : World) (hr0 : Kd.C k92 w A0 l0.length l0) (hc0 : l0.length ≤ c0) (h : ar.f k l0 = some r) :
  Calls Tryz.prog 53 #[.slice A0 l0.length c0] w fun e w' => e = .returned (.bool r) ∧ Below w.heap.size w w' := by
 have hu92 := Tryz.underlying92; have HR0 := am_ hr0; have HC0 := am_ hc0; clear hr0 hc0; have HB := am_ (Below.refl w.heap.size w); have H := h; clear h; unfold ar.f at H
 have H' := am_ H; clear H; go_enter Tryz.func53, Tryz.ntmps53
 go_wp2; go_loopg [3] k (fun kq v3 w' => ∃ (x3_1 : Int), v3 = .int .i64 x3_1 ∧ aa (ar.l0 kq l0 x3_1 = some r) ∧ aa (kq ≤ k) ∧ aa (Below w.heap.size w w'))
 case atStart => exact ⟨(0), u1_, H', ⟨Nat.le_refl _⟩, ⟨bw_ HB⟩⟩
 case round =>
  clear H'; obtain ⟨x3_1, rfl, HA, HK1, HB⟩ := hrel; cases gk with
  | zero => exact absurd HA.out (by simp [ar.l0])
  | succ k1 =>
   have H := HA.out; clear HA; simp only [ar.l0] at H; by_cases c2 : x3_1 < (l0.length : Int)
   ·rw [if_pos c2] at H; have c2b0 := decide_eq_true c2; clear c2; obtain ⟨c3b0, H⟩ := gd_ H; have HC4 := am_ H; clear H; obtain ⟨ad267, e267, hx267_0, hx267_1, hx267_2⟩ := gH HR0.out x3_1 od_ od_; cases e267; replace hx267_0 := cb_ HB hx267_0; replace hx267_1 := cb_ HB hx267_1; replace hx267_2 := cb_ HB hx267_2; obtain ⟨p267, q267⟩ := pt_ x3_1 l0.length; go_upto_region 5 with (first | ((with_reducible refine gt_ 4 ?_); refine bx_ 4 #[.string (⟨#[]⟩ : ByteArray), .int .i64 0, .int .i64 0] 92 ?_; intro gb268 hg w5 hbox hb; have BK268 := am_ (hbox); have GE268 := gw_ HB hg; replace HB := bs_ HB hb; clear hb hbox hg; obtain ⟨hcz6_0, hcz6_1, hcz6_2, hfz6_0, hfz6_1, hfz6_2⟩ := bO BK268.out))
    (try simp only [Act.put, List.setIfInBounds_toArray, List.set_cons_zero, List.set_cons_succ])
    go_cut [5] (fun v5 wc => ∃ (kq : Nat) (x5_3 : Bool), v5 = .bool x5_3 ∧ aa (ar.j1 kq l0 x3_1 x5_3 ((an l0 x3_1).f0) ((an l0 x3_1).f1) ((an l0 x3_1).f2) = some r) ∧ aa (kq ≤ k1) ∧ aa (wc.heap[gb268]? = some (.cells #[.string ((an l0 x3_1).f0), .int .i64 ((an l0 x3_1).f1), .int .i64 ((an l0 x3_1).f2)] 92 (0, 0))) ∧ aa (Below w.heap.size w wc))
    case first =>
     have H := HC4.out; clear HC4; by_cases c7 : ((an l0 x3_1).f1) = 1
     ·rw [if_pos c7] at H; have c7b0 := cQ c7; have c7b1 := cO c7; clear c7; (first | rw [c7b0] | (simp only [ao, au]; rw [c7b0]) | skip)
      obtain ⟨t269, A8, H⟩ := bi_ H; have H' := am_ H; clear H; obtain ⟨hcz9_0, hcz9_1, hcz9_2, hfz9_0, hfz9_1, hfz9_2⟩ := bO BK268.out; go_wp2_with (first | (go_at_call 52; (with_reducible refine (b7.calls ((an l0 x3_1).f2) 1 9 t269 _ A8.out).mono ?_); rintro e w' ⟨rfl, ⟨nd, rfl⟩⟩))
      go_meet
      case rel => exact ⟨_, (t269), u1_, H', ⟨u35_⟩, ⟨pb_ BK268⟩, ⟨bw_ HB⟩⟩
     ·rw [if_neg c7] at H; have c7b0 := cT c7; have c7b1 := cV c7; (first | rw [c7b0] | (simp only [ao, au]; rw [c7b0]) | skip)
      have H' := am_ H; clear H; obtain ⟨hcz10_0, hcz10_1, hcz10_2, hfz10_0, hfz10_1, hfz10_2⟩ := bO BK268.out; go_wp2; go_meet
      case rel => exact ⟨_, (false), u1_, H', ⟨u35_⟩, ⟨pb_ BK268⟩, ⟨bw_ HB⟩⟩
    case rest =>
     clear HC4; try clear c2
     try clear c2b0
     try clear c3b0
     try clear hcz6_0 hcz6_1 hcz6_2 hfz6_0 hfz6_1 hfz6_2
     try clear hx267_0
     try clear hx267_1
     try clear hx267_2
     try clear p267
     try clear q267
     obtain ⟨kq, x5_3, rfl, HA, HJ3, BK268, HB⟩ := hcut; cases kq with
     | zero => exact absurd HA.out (by simp [ar.j1])
     | succ kj3 =>
      have H := HA.out; clear HA; simp only [ar.j1] at H; have HC11 := am_ H; clear H; go_upto_region 6 with (fail)
      go_cut [6] (fun v6 wc => ∃ (kq : Nat) (x6_10 : Bool), v6 = .bool x6_10 ∧ aa (ar.j2 kq l0 x3_1 x5_3 x6_10 ((an l0 x3_1).f0) ((an l0 x3_1).f1) ((an l0 x3_1).f2) = some r) ∧ aa (kq ≤ kj3) ∧ aa (wc.heap[gb268]? = some (.cells #[.string ((an l0 x3_1).f0), .int .i64 ((an l0 x3_1).f1), .int .i64 ((an l0 x3_1).f2)] 92 (0, 0))) ∧ aa (Below w.heap.size w wc))
      case first =>
       have H := HC11.out; clear HC11; obtain ⟨t270, A12, H⟩ := bi_ H; cases t270
       ·replace H := hf_ H; have H' := am_ H; clear H; obtain ⟨hcz15_0, hcz15_1, hcz15_2, hfz15_0, hfz15_1, hfz15_2⟩ := bO BK268.out; go_wp2_with (first | ((with_reducible refine gt_ 27 ?_); refine gD_ 27 Tryz.func52 (b7.calls ((an l0 x3_1).f1) 2 3 false _ A12.out) ?_; intro nd))
        go_meet
        case rel => exact ⟨_, (false), u1_, H', ⟨by have := HK1.out; have := HJ3.out; first | omega | exact Nat.le_refl _⟩, ⟨pb_ BK268⟩, ⟨bw_ HB⟩⟩
       ·replace H := ht_ H; have H' := am_ H; clear H; obtain ⟨hcz14_0, hcz14_1, hcz14_2, hfz14_0, hfz14_1, hfz14_2⟩ := bO BK268.out; go_wp2_with (first | ((with_reducible refine gt_ 27 ?_); refine gD_ 27 Tryz.func52 (b7.calls ((an l0 x3_1).f1) 2 3 true _ A12.out) ?_; intro nd))
        go_meet
        case rel => exact ⟨_, ((((an l0 x3_1).f2) == 0)), u1_, H', ⟨by have := HK1.out; have := HJ3.out; first | omega | exact Nat.le_refl _⟩, ⟨pb_ BK268⟩, ⟨bw_ HB⟩⟩
      case rest =>
       clear HC11; try clear c2
       try clear c2b0
       try clear c3b0
       try clear hcz6_0 hcz6_1 hcz6_2 hfz6_0 hfz6_1 hfz6_2
       try clear hx267_0
       try clear hx267_1
       try clear hx267_2
       try clear p267
       try clear q267
       obtain ⟨kq, x6_10, rfl, HA, HJ10, BK268, HB⟩ := hcut; cases kq with
       | zero => exact absurd HA.out (by simp [ar.j2])
       | succ kj10 =>
        have H := HA.out; clear HA; simp only [ar.j2] at H; obtain ⟨t271, A16, H⟩ := bi_ H; cases t271
        ·replace H := hf_ H; obtain rfl := si_ H; obtain ⟨hcz26_0, hcz26_1, hcz26_2, hfz26_0, hfz26_1, hfz26_2⟩ := bO BK268.out; go_wp2_with (first | ((with_reducible refine gt_ 35 ?_); refine gD_ 35 Tryz.func99 (aE.calls kj10 ((an l0 x3_1).f0) false _ A16.out) ?_; intro nd))
         go_ret
         exact ⟨u0_, bw_ HB⟩
        ·replace H := ht_ H; obtain ⟨t272, A18, H⟩ := bi_ H; by_cases c19 : t272 = x3_1
         ·rw [if_pos c19] at H; have c19b0 := cQ c19; have c19b1 := cO c19; clear c19; cases x5_3
          ·replace H := hf_ H; cases x6_10
           ·replace H := hf_ H; obtain rfl := si_ H; obtain ⟨hcz24_0, hcz24_1, hcz24_2, hfz24_0, hfz24_1, hfz24_2⟩ := bO BK268.out; go_wp2_with (first | ((with_reducible refine gt_ 35 ?_); refine gD_ 35 Tryz.func99 (aE.calls kj10 ((an l0 x3_1).f0) true _ A16.out) ?_; intro nd) | (go_at_call 96; (with_reducible refine (a8.calls kj10 _ _ l0 ((an l0 x3_1).f0) t272 _ (kc_ HR0 HB) HC0.out A18.out).mono ?_); rintro e w' ⟨rfl, ⟨nd, rfl⟩⟩))
            go_ret
            exact ⟨u0_, bw_ HB⟩
           ·replace H := ht_ H; have H' := am_ H; clear H; obtain ⟨hcz23_0, hcz23_1, hcz23_2, hfz23_0, hfz23_1, hfz23_2⟩ := bO BK268.out; go_wp2_with (first | ((with_reducible refine gt_ 35 ?_); refine gD_ 35 Tryz.func99 (aE.calls kj10 ((an l0 x3_1).f0) true _ A16.out) ?_; intro nd) | (go_at_call 96; (with_reducible refine (a8.calls kj10 _ _ l0 ((an l0 x3_1).f0) t272 _ (kc_ HR0 HB) HC0.out A18.out).mono ?_); rintro e w' ⟨rfl, ⟨nd, rfl⟩⟩))
            go_roundg kj10
            case measure => have := HK1.out; have := HJ3.out; have := HJ10.out; omega
            case rel => exact ⟨(wrap64 (x3_1 + 1)), u1_, H', ⟨by have := HK1.out; have := HJ3.out; have := HJ10.out; omega⟩, ⟨bw_ HB⟩⟩
          ·replace H := ht_ H; have H' := am_ H; clear H; obtain ⟨hcz21_0, hcz21_1, hcz21_2, hfz21_0, hfz21_1, hfz21_2⟩ := bO BK268.out; go_wp2_with (first | ((with_reducible refine gt_ 35 ?_); refine gD_ 35 Tryz.func99 (aE.calls kj10 ((an l0 x3_1).f0) true _ A16.out) ?_; intro nd) | (go_at_call 96; (with_reducible refine (a8.calls kj10 _ _ l0 ((an l0 x3_1).f0) t272 _ (kc_ HR0 HB) HC0.out A18.out).mono ?_); rintro e w' ⟨rfl, ⟨nd, rfl⟩⟩))
           go_roundg kj10
           case measure => have := HK1.out; have := HJ3.out; have := HJ10.out; omega
           case rel => exact ⟨(wrap64 (x3_1 + 1)), u1_, H', ⟨by have := HK1.out; have := HJ3.out; have := HJ10.out; omega⟩, ⟨bw_ HB⟩⟩
         ·rw [if_neg c19] at H; have c19b0 := cT c19; have c19b1 := cV c19; obtain rfl := si_ H; obtain ⟨hcz25_0, hcz25_1, hcz25_2, hfz25_0, hfz25_1, hfz25_2⟩ := bO BK268.out; go_wp2_with (first | ((with_reducible refine gt_ 35 ?_); refine gD_ 35 Tryz.func99 (aE.calls kj10 ((an l0 x3_1).f0) true _ A16.out) ?_; intro nd) | (go_at_call 96; (with_reducible refine (a8.calls kj10 _ _ l0 ((an l0 x3_1).f0) t272 _ (kc_ HR0 HB) HC0.out A18.out).mono ?_); rintro e w' ⟨rfl, ⟨nd, rfl⟩⟩))
          go_ret
          exact ⟨u0_, bw_ HB⟩
   ·rw [if_neg c2] at H; have c2b0 := decide_eq_false c2; clear c2; obtain ⟨t266, A27, H⟩ := bi_ H; obtain rfl := si_ H; go_wp2_with (first | ((with_reducible refine gt_ 55 ?_); refine gD_ 55 Tryz.func52 (b7.calls (l0.length : Int) 1 4 t266 _ A27.out) ?_; intro nd))
    go_ret
    exact ⟨u0_, bw_ HB⟩
def bp.l0 : Nat → ByteArray → Int → Int → Option (Int)
 | 0, _, _, _ => none
 | k + 1, x0, x3, x4 => if x4 < (x0.size : Int) then (if 0 ≤ x4 then (if (bt x0 x4) < 48 then (some (-1)) else (if (bt x0 x4) > 57 then (some (-1)) else (if x4 ≥ 9 then (some (-1)) else (bp.l0 k x0 (wrap64 ((wrap64 (x3 * 10)) + (((bt x0 x4) - 48) % 256))) (wrap64 (x4 + 1)))))) else (none)) else (if (x0.size : Int) = 0 then (some (-1)) else (if (x0.size : Int) > 1 then (if 0 < (x0.size : Int) then (if (bt x0 0) = 48 then (some (-1)) else (some x3)) else (none)) else (some x3)))
def bp.f (k : Nat) (a0 : ByteArray) : Option (Int) := bp.l0 k a0 0 0
theorem bp.calls (k : Nat) (a0 : ByteArray) (r : Int) (w : World) (h : bp.f k a0 = some r) :
  Calls Tryz.prog 158 #[.string a0] w fun e w' => e = .returned (.int .i64 r) ∧ Drawn0 w w' := by
 have H := h; clear h; unfold bp.f at H
 have H' := am_ H; clear H; go_enter Tryz.func158, Tryz.ntmps158
 go_wp2; go_loopg [3, 4] k (fun kq v3 v4 w' => ∃ (x3_1 : Int) (x4_1 : Int), v3 = .int .i64 x3_1 ∧ v4 = .int .i64 x4_1 ∧ aa (bp.l0 kq a0 x3_1 x4_1 = some r) ∧ aa (kq ≤ k) ∧ Drawn0 w w')
 case atStart => exact ⟨(0), (0), u1_, u1_, H', ⟨Nat.le_refl _⟩, u3_⟩
 case round =>
  clear H'; obtain ⟨x3_1, x4_1, rfl, rfl, HA, HK1, ⟨m1, rfl⟩⟩ := hrel; cases gk with
  | zero => exact absurd HA.out (by simp [bp.l0])
  | succ k1 =>
   have H := HA.out; clear HA; simp only [bp.l0] at H; by_cases c2 : x4_1 < (a0.size : Int)
   ·rw [if_pos c2] at H; have c2b0 := decide_eq_true c2; clear c2; obtain ⟨c3b0, H⟩ := gd_ H; have HC_ := am_ H; clear H; obtain ⟨p4, q4⟩ := pq_ x4_1 a0.size; have hx4 := d7 a0 x4_1; obtain ⟨p4, q4⟩ := tt_ p4 q4; have H := HC_.out; clear HC_; by_cases c5 : (bt a0 x4_1) < 48
    ·rw [if_pos c5] at H; have c5b0 := decide_eq_true c5; clear c5; obtain rfl := si_ H; (first | rw [c5b0] | (simp only [ao, au]; rw [c5b0]) | skip)
     go_wp2; go_ret
     exact ⟨u4_, u3_⟩
    ·rw [if_neg c5] at H; have c5b0 := decide_eq_false c5; clear c5; have HC_ := am_ H; clear H; (first | rw [c5b0] | (simp only [ao, au]; rw [c5b0]) | skip)
     obtain ⟨p6, q6⟩ := pq_ x4_1 a0.size; have hx6 := d7 a0 x4_1; obtain ⟨p6, q6⟩ := tt_ p6 q6; have H := HC_.out; clear HC_; by_cases c7 : (bt a0 x4_1) > 57
     ·rw [if_pos c7] at H; have c7b0 : decide (57 < (bt a0 x4_1)) = true := decide_eq_true c7; clear c7; obtain rfl := si_ H; (first | rw [c7b0] | (simp only [ao, au]; rw [c7b0]) | skip)
      go_wp2; go_ret
      exact ⟨u4_, u3_⟩
     ·rw [if_neg c7] at H; have c7b0 : decide (57 < (bt a0 x4_1)) = false := decide_eq_false c7; clear c7; have HC_ := am_ H; clear H; (first | rw [c7b0] | (simp only [ao, au]; rw [c7b0]) | skip)
      have H := HC_.out; clear HC_; by_cases c8 : x4_1 ≥ 9
      ·rw [if_pos c8] at H; have c8b0 : decide (9 ≤ x4_1) = true := decide_eq_true c8; clear c8; obtain rfl := si_ H; (first | rw [c8b0] | (simp only [ao, au]; rw [c8b0]) | skip)
       go_wp2; go_ret
       exact ⟨u4_, u3_⟩
      ·rw [if_neg c8] at H; have c8b0 : decide (9 ≤ x4_1) = false := decide_eq_false c8; clear c8; have H' := am_ H; clear H; (first | rw [c8b0] | (simp only [ao, au]; rw [c8b0]) | skip)
       obtain ⟨p9, q9⟩ := pq_ x4_1 a0.size; have hx9 := d7 a0 x4_1; obtain ⟨p9, q9⟩ := tt_ p9 q9; go_wp2; go_roundg k1
       case measure => have := HK1.out; omega
       case rel => exact ⟨(wrap64 ((wrap64 (x3_1 * 10)) + (((bt a0 x4_1) - 48) % 256))), (wrap64 (x4_1 + 1)), u1_, u1_, H', ⟨dc⟩, u3_⟩
   ·rw [if_neg c2] at H; have c2b0 := decide_eq_false c2; clear c2; by_cases c10 : (a0.size : Int) = 0
    ·rw [if_pos c10] at H; have c10b0 := cQ c10; have c10b1 := cO c10; clear c10; obtain rfl := si_ H; go_wp2; go_ret
     exact ⟨u4_, u3_⟩
    ·rw [if_neg c10] at H; have c10b0 := cT c10; have c10b1 := cV c10; by_cases c11 : (a0.size : Int) > 1
     ·rw [if_pos c11] at H; have c11b0 : decide (1 < (a0.size : Int)) = true := decide_eq_true c11; have c11b1 : decide (1 < a0.size) = true := decide_eq_true u7_; clear c11; obtain ⟨c12, H⟩ := gn_ H; have c12b0 := decide_eq_true c12; have c12b1 : decide (0 < a0.size) = true := decide_eq_true u7_; clear c12; have HC_ := am_ H; clear H; have p13 : 0 ≤ (0 : Int) := u7_; have q13 : 0 < a0.size := (by have : (0 : Int) < (a0.size : Int) := od_; omega); have hx13 : ∀ h : 0 < a0.size, ((a0[0]'h).toNat : Int) = bt a0 0 := d7 a0 0; clear p13; have qi13 : (0 < (a0.size : Int)) = True := eq_true (od_); replace q13 := eq_true q13; have H := HC_.out; clear HC_; by_cases c14 : (bt a0 0) = 48
      ·rw [if_pos c14] at H; have c14b0 := cQ c14; have c14b1 := cO c14; clear c14; obtain rfl := si_ H; (first | rw [c14b0] | (simp only [ao, au]; rw [c14b0]) | skip)
       go_wp2; go_ret
       exact ⟨u4_, u3_⟩
      ·rw [if_neg c14] at H; have c14b0 := cT c14; have c14b1 := cV c14; obtain rfl := si_ H; (first | rw [c14b0] | (simp only [ao, au]; rw [c14b0]) | skip)
       go_wp2; go_ret
       exact ⟨u4_, u3_⟩
     ·rw [if_neg c11] at H; have c11b0 : decide (1 < (a0.size : Int)) = false := decide_eq_false c11; have c11b1 : decide (1 < a0.size) = false := decide_eq_false u7_; clear c11; obtain rfl := si_ H; go_wp2; go_ret
      exact ⟨u4_, u3_⟩
def be.j0 : Nat → ByteArray → Bool → Option (Int × Bool)
 | 0, _, _ => none
 | k + 1, x0, x13 => if x13 = true then (if 1 ≤ (x0.size : Int) then ((bp.f k (x0.extract 1 x0.size)).bind fun t273 => (some (wrap64 (-t273), decide (t273 > 0)))) else (none)) else ((bp.f k x0).bind fun t274 => (some (t274, decide (t274 ≥ 0))))
def be.f (k : Nat) (a0 : ByteArray) : Option (Int × Bool) := if (a0.size : Int) > 1 then (if 0 < (a0.size : Int) then (be.j0 k a0 ((bt a0 0) == 45)) else (none)) else (be.j0 k a0 false)
theorem be.calls (k : Nat) (a0 : ByteArray) (r1 : Int) (r2 : Bool) (w : World) (h : be.f k a0 = some (r1, r2)) :
  Calls Tryz.prog 137 #[.string a0] w fun e w' => e = .returned (.tuple #[.int .i64 r1, .bool r2]) ∧ Drawn0 w w' := by
 have H := h; clear h; unfold be.f at H
 have HC2 := am_ H; clear H; go_enter Tryz.func137, Tryz.ntmps137
 go_upto_region 1 with (fail)
 go_cut [13] (fun v13 wc => ∃ (kq : Nat) (x13_1 : Bool), v13 = .bool x13_1 ∧ aa (be.j0 kq a0 x13_1 = some (r1, r2)) ∧ aa (kq ≤ k) ∧ Drawn0 w wc)
 case first =>
  have H := HC2.out; clear HC2; by_cases c3 : (a0.size : Int) > 1
  ·rw [if_pos c3] at H; have c3b0 : decide (1 < (a0.size : Int)) = true := decide_eq_true c3; have c3b1 : decide (1 < a0.size) = true := decide_eq_true u7_; clear c3; (first | rw [c3b0] | (simp only [ao, au]; rw [c3b0]) | skip)
   obtain ⟨c4, H⟩ := gn_ H; have c4b0 := decide_eq_true c4; have c4b1 : decide (0 < a0.size) = true := decide_eq_true u7_; clear c4; have H' := am_ H; clear H; have p5 : 0 ≤ (0 : Int) := u7_; have q5 : 0 < a0.size := (by have : (0 : Int) < (a0.size : Int) := od_; omega); have hx5 : ∀ h : 0 < a0.size, ((a0[0]'h).toNat : Int) = bt a0 0 := d7 a0 0; clear p5; have qi5 : (0 < (a0.size : Int)) = True := eq_true (od_); replace q5 := eq_true q5; go_wp2; go_meet
   case rel => exact ⟨_, (((bt a0 0) == 45)), u1_, H', ⟨j5⟩, u3_⟩
  ·rw [if_neg c3] at H; have c3b0 : decide (1 < (a0.size : Int)) = false := decide_eq_false c3; have c3b1 : decide (1 < a0.size) = false := decide_eq_false u7_; clear c3; (first | rw [c3b0] | (simp only [ao, au]; rw [c3b0]) | skip)
   have H' := am_ H; clear H; go_wp2; go_meet
   case rel => exact ⟨_, (false), u1_, H', ⟨j5⟩, u3_⟩
 case rest =>
  clear HC2; obtain ⟨kq, x13_1, rfl, HA, HJ1, ⟨mc1, rfl⟩⟩ := hcut; cases kq with
  | zero => exact absurd HA.out (by simp [be.j0])
  | succ kj1 =>
   have H := HA.out; clear HA; simp only [be.j0] at H; cases x13_1
   ·replace H := hf_ H; obtain ⟨t274, A9, H⟩ := bi_ H; simp only [Option.some.injEq, Prod.mk.injEq] at H; obtain ⟨rfl, rfl⟩ := H; go_wp2_with (first | ((with_reducible refine gt_ 22 ?_); refine gD_ 22 Tryz.func158 (bp.calls kj1 a0 t274 _ A9.out) ?_; intro nd))
    go_ret2
    exact ⟨u4_, u3_⟩
   ·replace H := ht_ H; obtain ⟨c7b0, c7b1, H⟩ := ge_ H; obtain ⟨t273, A8, H⟩ := bi_ H; simp only [Option.some.injEq, Prod.mk.injEq] at H; obtain ⟨rfl, rfl⟩ := H; go_wp2_with (first | ((with_reducible refine gt_ 16 ?_); refine gD_ 16 Tryz.func158 (bp.calls kj1 (a0.extract 1 a0.size) t273 _ A8.out) ?_; intro nd))
    go_ret2
    exact ⟨u4_, u3_⟩
mutual
def bi.l0 : Nat → ByteArray → Int → Int → List ByteArray → Int → Int → Option (List ByteArray)
 | 0, _, _, _, _, _, _ => none
 | k + 1, x0, x1, x2, x7, x8, x9 => if x9 < (x0.size : Int) then (bi.j1 k x0 x1 x2 x7 x8 x9 (decide ((x7.length : Int) < x2))) else (bi.j1 k x0 x1 x2 x7 x8 x9 false)
def bi.j1 : Nat → ByteArray → Int → Int → List ByteArray → Int → Int → Bool → Option (List ByteArray)
 | 0, _, _, _, _, _, _, _ => none
 | k + 1, x0, x1, x2, x7, x8, x9, x20 => if x20 = true then (if 0 ≤ x9 then (if x9 < (x0.size : Int) then (if (bt x0 x9) = x1 then (if 0 ≤ x8 then (if x8 ≤ x9 then (if x9 ≤ (x0.size : Int) then (if x7.length < 8796093022208 then (bi.l0 k x0 x1 x2 (x7 ++ [x0.extract (x8 : Int).toNat (x9 : Int).toNat]) (wrap64 (x9 + 1)) (wrap64 (x9 + 1))) else (none)) else (none)) else (none)) else (none)) else (bi.l0 k x0 x1 x2 x7 x8 (wrap64 (x9 + 1)))) else (none)) else (none)) else (if 0 ≤ x8 then (if x8 ≤ (x0.size : Int) then (if x7.length < 8796093022208 then (some (x7 ++ [x0.extract (x8 : Int).toNat x0.size])) else (none)) else (none)) else (none))
end
def bi.f (k : Nat) (a0 : ByteArray) (a1 : Int) (a2 : Int) : Option (List ByteArray) := bi.l0 k a0 a1 a2 (([] : List ByteArray)) 0 0
theorem bi.calls (k : Nat) (a0 : ByteArray) (a1 : Int) (a2 : Int) (r : List ByteArray) (w : World) (h : bi.f k a0 a1 a2 = some r) :
  Calls Tryz.prog 159 #[.string a0, .int .u8 a1, .int .i64 a2] w fun e w' => ∃ v0_ : Value, e = .returned (v0_) ∧ Kd.R Kd.string 9 w' w.heap.size (fun _ => True) v0_ r ∧ Below w.heap.size w w' := by
 have HB := am_ (Below.refl w.heap.size w); have H := h; clear h; unfold bi.f at H
 obtain ⟨y275, hy275⟩ : ∃ y_ : List ByteArray, y_ = (([] : List ByteArray)) := ⟨_, rfl⟩; replace H : (bi.l0 k a0 a1 a2 y275 0 0) = some r := by first | (rw [hy275]; with_reducible exact H) | (have H2_ := (Option.bind_some _ _).symm.trans H; rw [hy275]; with_reducible exact H2_) | (have H2_ := (Option.bind_some _ _).symm.trans H; with_reducible exact H2_) | with_reducible exact H | (rw [hy275]; exact H) | exact H
 have Ny275 := am_ hy275; clear hy275; have H' := am_ H; clear H; go_enter Tryz.func159, Tryz.ntmps159
 go_wp2_with (first | ((with_reducible refine az (N := 10) rfl ?_); (try (refine a6 cI ?_; dsimp only)); refine Kd.R_lit Kd.string _ 9 ?hg (N := 10) ?hd (xs := ([] : List ByteArray)) (inner := []) (ok := fun _ => True) (okp := fun _ => True) ?hr ?hp (fun _ hk => hk) trivial (Below.refl _ _) (Nat.le_refl _) cN ?_; (case hd => rfl); (case hg => rfl); (case hr => exact u6_); (case hp => exact gt); intro v276 w4 ho5 hb hg_ hnew_; clear hg_ hnew_; (first | rw [← Ny275.out] at ho5 | (simp only [Int.reduceToNat] at ho5; rw [← Ny275.out] at ho5)); have HO277 := am_ (Kd.R_lower ho5 (av (bw_ HB))); replace HB := bs_ HB hb; clear hb ho5))
 go_loopg [7, 8, 9] k (fun kq v7 v8 v9 w' => ∃ (x7_1 : List ByteArray) (x8_1 : Int) (x9_1 : Int), v8 = .int .i64 x8_1 ∧ v9 = .int .i64 x9_1 ∧ aa (bi.l0 kq a0 a1 a2 x7_1 x8_1 x9_1 = some r) ∧ aa (kq ≤ k) ∧ aa (Kd.R Kd.string 9 w' w.heap.size (fun _ => True) v7 x7_1) ∧ aa (Below w.heap.size w w'))
 case atStart => exact ⟨(y275), (0), (0), u1_, u1_, H', ⟨Nat.le_refl _⟩, ⟨aR_ HO277.out⟩, ⟨bw_ HB⟩⟩
 case round =>
  clear H'; obtain ⟨x7_1, x8_1, x9_1, rfl, rfl, HA, HK1, HO_7, HB⟩ := hrel; cases gk with
  | zero => exact absurd HA.out (by simp [bi.l0])
  | succ k1 =>
   have H := HA.out; clear HA; simp only [bi.l0] at H; have HC6 := am_ H; clear H; go_upto_region 4 with (fail)
   go_cut [20] (fun v20 wc => ∃ (kq : Nat) (x20_5 : Bool), v20 = .bool x20_5 ∧ aa (bi.j1 kq a0 a1 a2 x7_1 x8_1 x9_1 x20_5 = some r) ∧ aa (kq ≤ k1) ∧ aa (Kd.R Kd.string 9 wc w.heap.size (fun _ => True) u7 x7_1) ∧ aa (Below w.heap.size w wc))
   case first =>
    have H := HC6.out; clear HC6; by_cases c7 : x9_1 < (a0.size : Int)
    ·rw [if_pos c7] at H; have c7b0 := decide_eq_true c7; clear c7; (first | rw [c7b0] | (simp only [ao, au]; rw [c7b0]) | skip)
     have H' := am_ H; clear H; obtain ⟨Ao8, co8, eo8⟩ := Kd.R_slice HO_7.out; subst eo8; go_wp2; go_meet
     case rel => exact ⟨_, (decide ((x7_1.length : Int) < a2)), u1_, H', ⟨u35_⟩, ⟨aR_ HO_7.out⟩, ⟨bw_ HB⟩⟩
    ·rw [if_neg c7] at H; have c7b0 := decide_eq_false c7; clear c7; (first | rw [c7b0] | (simp only [ao, au]; rw [c7b0]) | skip)
     have H' := am_ H; clear H; go_wp2; go_meet
     case rel => exact ⟨_, (false), u1_, H', ⟨u35_⟩, ⟨aR_ HO_7.out⟩, ⟨bw_ HB⟩⟩
   case rest =>
    clear HC6; obtain ⟨kq, x20_5, rfl, HA, HJ5, HO_7, HB⟩ := hcut; cases kq with
    | zero => exact absurd HA.out (by simp [bi.j1])
    | succ kj5 =>
     have H := HA.out; clear HA; simp only [bi.j1] at H; cases x20_5
     ·replace H := hf_ H; by_cases c19 : 0 ≤ x8_1
      ·rw [if_pos c19] at H; have c19b0 := eq_true c19; have c19b1 := decide_eq_true c19; clear c19; obtain ⟨c20b0, c20b1, H⟩ := ge_ H; obtain ⟨LMc21, H⟩ := gl_ H; generalize hy281 : ((x7_1 ++ [a0.extract (x8_1 : Int).toNat a0.size]) : List ByteArray) = y281 at H; have Ny281 := am_ hy281.symm; clear hy281; obtain rfl := si_ H; go_wp2_with (first | ((with_reducible refine bM (b := .append) (xs := #[.tmp 37, .tmp 41]) rfl ?_); (try (refine a6 cI ?_; dsimp only)); at_builtin; refine Kd.R_append Kd.string (w0 := w) w.heap.size rfl (.tmp 37) (.tmp 41) 30 9 (.string ⟨#[]⟩) 16 rfl Tryz.underlying30 eD rfl bs u7_ u7 x7_1 (a0.extract (x8_1 : Int).toNat a0.size) [.string (a0.extract (x8_1 : Int).toNat a0.size)] (fun _ => True) (fun _ => False) rfl rfl ?aP (fun _ hk => hk.elim) ?aF ?aO ?aB ?aS ?aL ?_; (case aP => exact rfl); (case aB => exact fG); (case aF => exact j4); (case aO => exact (aR_ HO_7.out)); (case aS => exact fH); (case aL => have := LMc21.out; omega); intro v282 w22 ho hb hg hat; rw [← Ny281.out] at ho; replace HB := am_ (hb); have HO283 := am_ (ho); clear HO_7 ho hb hg hat))
       go_ret
       exact ⟨_, u0_, aR_ HO283.out, bw_ HB⟩
      ·rw [if_neg c19] at H; exact absurd H cN
     ·replace H := ht_ H; obtain ⟨c10b0, H⟩ := gd_ H; obtain ⟨c11b0, H⟩ := gd_ H; have HC_ := am_ H; clear H; obtain ⟨p12, q12⟩ := pq_ x9_1 a0.size; have hx12 := d7 a0 x9_1; obtain ⟨p12, q12⟩ := tt_ p12 q12; have H := HC_.out; clear HC_; by_cases c13 : (bt a0 x9_1) = a1
      ·rw [if_pos c13] at H; have c13b0 := cQ c13; have c13b1 := cO c13; clear c13; obtain ⟨c14b0, c14b1, H⟩ := ge_ H; obtain ⟨c15b0, c15b1, H⟩ := ge_ H; obtain ⟨c16b0, c16b1, H⟩ := ge_ H; obtain ⟨LMc17, H⟩ := gl_ H; generalize hy278 : ((x7_1 ++ [a0.extract (x8_1 : Int).toNat (x9_1 : Int).toNat]) : List ByteArray) = y278 at H; have Ny278 := am_ hy278.symm; clear hy278; have H' := am_ H; clear H; (first | rw [c13b0] | (simp only [ao, au]; rw [c13b0]) | skip)
       go_wp2_with (first | ((with_reducible refine bM (b := .append) (xs := #[.tmp 28, .tmp 33]) rfl ?_); (try (refine a6 cI ?_; dsimp only)); at_builtin; refine Kd.R_append Kd.string (w0 := w) w.heap.size rfl (.tmp 28) (.tmp 33) 30 9 (.string ⟨#[]⟩) 16 rfl Tryz.underlying30 eD rfl bs u7_ u7 x7_1 (a0.extract (x8_1 : Int).toNat (x9_1 : Int).toNat) [.string (a0.extract (x8_1 : Int).toNat (x9_1 : Int).toNat)] (fun _ => True) (fun _ => False) rfl rfl ?aP (fun _ hk => hk.elim) ?aF ?aO ?aB ?aS ?aL ?_; (case aP => exact rfl); (case aB => exact fG); (case aF => exact j4); (case aO => exact (aR_ HO_7.out)); (case aS => exact fH); (case aL => have := LMc17.out; omega); intro v279 w18 ho hb hg hat; rw [← Ny278.out] at ho; replace HB := am_ (hb); have HO280 := am_ (ho); clear HO_7 ho hb hg hat))
       go_roundg kj5
       case measure => have := HK1.out; have := HJ5.out; omega
       case rel => exact ⟨(y278), (wrap64 (x9_1 + 1)), (wrap64 (x9_1 + 1)), u1_, u1_, H', ⟨by have := HK1.out; have := HJ5.out; omega⟩, ⟨aR_ HO280.out⟩, ⟨bw_ HB⟩⟩
      ·rw [if_neg c13] at H; have c13b0 := cT c13; have c13b1 := cV c13; have H' := am_ H; clear H; (first | rw [c13b0] | (simp only [ao, au]; rw [c13b0]) | skip)
       go_wp2; go_roundg kj5
       case measure => have := HK1.out; have := HJ5.out; omega
       case rel => exact ⟨(x7_1), (x8_1), (wrap64 (x9_1 + 1)), u1_, u1_, H', ⟨by have := HK1.out; have := HJ5.out; omega⟩, ⟨aR_ HO_7.out⟩, ⟨bw_ HB⟩⟩
end Go.Proofs.YtnjjdojonflckaaGreatDoor.PFnExactIndexTerms
