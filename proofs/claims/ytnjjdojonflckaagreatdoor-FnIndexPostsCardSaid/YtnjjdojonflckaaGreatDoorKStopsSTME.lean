/- What the walks know of package variables, and that a call which keeps what lay before keeps it; no condition. -/
import Derived.Test.YtnjjdojonflckaaGreatDoorKWMore
import Derived.Test.YtnjjdojonflckaaGreatDoorProg
import Derived.Lib.LaidTab
import Derived.Lib.ItoaNum
namespace Go.Proofs.YtnjjdojonflckaaGreatDoorW.PrintMore
open Go.RowKit Go.Proofs.YtnjjdojonflckaaGreatDoorW.PrintWords
def cQ:List ByteArray:=[⟨#[97]⟩,⟨#[97,110]⟩,⟨#[97,110,100]⟩,⟨#[111,102]⟩,⟨#[116,104,101]⟩,⟨#[116,111]⟩]
def StopsIn (w : World) : Prop := (∃ A c, w.cell? ⟨0, 0, none⟩ = some (.slice A cQ.length c) ∧ cQ.length ≤ c ∧ Kd.string.C w A cQ.length cQ) ∧ Lib.TabIs Tryz.prog w "internal/strconv.uint64pow10" .u64 Lib.pow10Tab ∧ (∃ m : Int, w.cell? ⟨4, 0, none⟩ = some (.int .i64 m)) ∧ ((∃ u v, w.var? Tryz.prog "strconv.ErrSyntax" = some #[.iface u v]) ∧ (∃ u v, w.var? Tryz.prog "strconv.ErrRange" = some #[.iface u v]))
theorem StopsIn.stops {w:World} (h:StopsIn w):(∃A c,w.cell? ⟨0,0,none⟩=some (.slice A cQ.length c)∧cQ.length≤c∧Kd.string.C w A cQ.length cQ):=h.1
theorem StopsIn.tab {w : World} (h : StopsIn w) : Lib.TabIs Tryz.prog w "internal/strconv.uint64pow10" .u64 Lib.pow10Tab := h.2.1
theorem StopsIn.max {w:World} (h:StopsIn w):(∃m:Int,w.cell? ⟨4,0,none⟩=some (.int .i64 m)):=h.2.2.1
theorem StopsIn.errs {w : World} (h : StopsIn w) : ((∃ u v, w.var? Tryz.prog "strconv.ErrSyntax" = some #[.iface u v]) ∧ (∃ u v, w.var? Tryz.prog "strconv.ErrRange" = some #[.iface u v])) := h.2.2.2
theorem nB {w w':World} {n:String} {cs:Array Value} (h:w.var? Tryz.prog n=some cs) (hb:Below w.heap.size w w'):w'.var? Tryz.prog n=some cs:=by
 unfold World.var? at h ⊢
 cases hg:Tryz.prog.globalNamed n with
 | none=>rw[hg] at h;cases h
 | some g=>
  rw[hg] at h;simp only[Option.bind_some] at h ⊢;have hlt:g<w.heap.size:=by
   rcases Nat.lt_or_ge g w.heap.size with h2 | h2
   ·exact h2
   ·rw[Array.getElem?_eq_none h2] at h;cases h
  rw[hb.block _ hlt];exact h
theorem StopsIn.below {w w':World} (h:StopsIn w) (hb:Below w.heap.size w w'):StopsIn w':=by
 refine⟨?_,?_,?_,?_⟩
 ·obtain⟨A,c,h1,h2,h3⟩:=h.stops;exact⟨A,c,(hb.cell (World.block_lt_of_cell? w _ h1)).trans h1,h2,Kd.C_below h3 hb⟩
 ·have h1:=h.tab;unfold Lib.TabIs World.var? at h1 ⊢
  have hg : Tryz.prog.globalNamed "internal/strconv.uint64pow10" = some 3 := by kernel_rfl
  rw[hg] at h1 ⊢;simp only[Option.bind_some] at h1 ⊢;have hlt:3<w.heap.size:=by
   rcases Nat.lt_or_ge 3 w.heap.size with h2 | h2
   ·exact h2
   ·rw[Array.getElem?_eq_none h2] at h1;cases h1
  rw[hb.block _ hlt];exact h1
 ·obtain⟨m,h1⟩:=h.max;exact⟨m,(hb.cell (World.block_lt_of_cell? w _ h1)).trans h1⟩
 ·obtain⟨⟨u1,v1,h1⟩,⟨u2,v2,h2⟩⟩:=h.errs;exact⟨⟨u1,v1,nB h1 hb⟩,⟨u2,v2,nB h2 hb⟩⟩
end Go.Proofs.YtnjjdojonflckaaGreatDoorW.PrintMore
