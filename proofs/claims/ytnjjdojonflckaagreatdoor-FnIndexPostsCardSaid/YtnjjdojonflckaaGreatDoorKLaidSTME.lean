/- What the row's condition on package variables and the world's shape give a walk; no condition of its own. -/
import Derived.Test.YtnjjdojonflckaaGreatDoorRows
import Derived.Test.YtnjjdojonflckaaGreatDoorKStopsSTME
import Derived.Test.YtnjjdojonflckaaGreatDoorKHanded2
import Derived.MakeChecks
import Derived.Deep.Slices
import Derived.ChangeArms
import Derived.ChangeVars
import Derived.ChangeShapes
import Derived.Carry
import Derived.LaidMore
import Derived.LaidHandle
import Derived.LaidLaws
import Derived.RowKit
import Derived.Shelf.Vars
import Derived.Lib.LaidTab
import Derived.Lib.ItoaNum
namespace Go.Proofs.YtnjjdojonflckaaGreatDoor.Laid
open Go Go.ChangeShapes Go.RowKit Go.Proofs.YtnjjdojonflckaaGreatDoorW.PrintWords Go.Proofs.YtnjjdojonflckaaGreatDoorW.PrintMore
abbrev pv : List (String × DataW Unit) := [("math/bits.deBruijn32tab", Rows.laid_math_bits_deBruijn32tab), ("math/bits.deBruijn64tab", Rows.laid_math_bits_deBruijn64tab), ("internal/strconv.uint64pow10", Rows.laid_internal_strconv_uint64pow10), ("unicode/utf8.acceptRanges", Rows.laid_unicode_utf8_acceptRanges), ("strconv.ErrRange", Rows.laid_strconv_ErrRange), ("strconv.ErrSyntax", Rows.laid_strconv_ErrSyntax), ("loop.example/spandrel/impl.stops", Rows.laid_loop_example_spandrel_impl_stops), ("unicode/utf8.first", Rows.laid_unicode_utf8_first)]
theorem im {w:World} : ∀ {l:List (String × DataW Unit)} {ps:List MemPlace},DataW.LaidVars Tryz.prog w l ps→∀n d,(n,d)∈l →
  ∃g t cs fuel p,Tryz.prog.globalNamed n=some g∧(Tryz.prog.globals[g]?).map (·.type)=some t∧w.var? Tryz.prog n=some cs∧DataW.trod (fun _=>()) Tryz.prog w 0 (fun _=>true) false fuel t cs.toList=some (d,p)
 | [],_,_,_,_,hm=>by cases hm
 | (n1,d1) :: r,ps,h,n,d,hm=>by
  obtain⟨g,t,cs,fuel,p,q,h1,h2,h3,h4,h5,_⟩:=h;rcases List.mem_cons.1 hm with e | e
  ·cases e;exact⟨g,t,cs,fuel,p,h1,h2,h3,h4⟩
  ·exact im h5 n d e
theorem pU : Tryz.prog.globalNamed "loop.example/spandrel/impl.stops" = some 0 := by kernel_rfl
theorem sk:(Tryz.prog.globals[0]?).map (·.type)=some 30:=by kernel_rfl
theorem qR {a b:ByteArray} (h:a.data.toList=b.data.toList):a=b:=by
 cases a;cases b;congr 1;exact Array.toList_inj.1 h
theorem pD {H:Type} : (Rows.laid_loop_example_spandrel_impl_stops:DataW H) = .slice (cQ.map fun s=>.lit (.string s.data.toList)) []:=rfl
theorem mS {H:Type} {enc:TypeId × Value→H} {W:World} {spare:Nat→Bool} {held:Bool} {fuel:Nat} {cs:List Value} {p:List MemPlace}
  (h:DataW.trod enc Tryz.prog W 0 spare held fuel 30 cs=some (Rows.laid_loop_example_spandrel_impl_stops,p)):∃A c,cs = [.slice A cQ.length c] ∧ cQ.length≤c∧Kd.string.C W A cQ.length cQ:=by
 rw[pD] at h;rcases Deep.open_slice1 Tryz.underlying30 (by kernel_rfl) h with ⟨_,hx⟩ | ⟨a,len,cap,m,n,V,D,Pl,rfl,_,hl,hm,hmm,hx,he⟩
 ·simp[cQ] at hx
 ·have h1:=congrArg (fun y=>y.1) hx;simp only[DataW.slice.injEq] at h1;have hlen:=congrArg List.length h1.1;rw[List.length_map,List.length_map,List.length_range] at hlen;have h6:len=6:=hlen.symm;subst h6;have hle:6≤m:=by rw[hmm];split;exact hl;exact Nat.le_refl _
  refine⟨some a,cap,rfl,hl,rfl,by decide,fun _=>⟨a,rfl,fun j q hj=>?_⟩⟩;have hj6:j<6:=(List.getElem?_eq_some_iff.1 hj).1;obtain⟨hc,ht⟩:=he j (by omega);obtain⟨s,hs,hd,_⟩:=DataW.trod_string Tryz.underlying9 ht;have hV:V j = .string s:=by simpa using hs
  have hD:D j = .lit (.string s.data.toList):=congrArg (fun y=>y.1) hd;have e2:=congrArg (fun l=>l[j]?) h1.1;simp only[List.getElem?_map,hj,List.getElem?_range hj6,Option.map_some,hD,Option.some.injEq,DataW.lit.injEq,Lit.string.injEq] at e2;have hq:q=s:=qR e2;subst hq;refine⟨[.string q],rfl,rfl,fun i u hu=>?_⟩;cases i with
  | zero=>
   obtain rfl:Value.string q=u:=by simpa using hu
   have e3:a.add (j*1+0)=a.add j:=by rw[Nat.mul_one,Nat.add_zero]
   change W.cell? (a.add (j*1+0))=_
   rw[e3,hc,hV]
  | succ i=>simp at hu
theorem gTen : Tryz.prog.globalNamed "internal/strconv.uint64pow10" = some 3 := by kernel_rfl
theorem tTen:(Tryz.prog.globals[3]?).map (·.type)=some 237:=by kernel_rfl
theorem ta:(Rows.laid_internal_strconv_uint64pow10:DataW Unit)=Lib.tabData .u64 Lib.pow10Tab:=by rfl
theorem pW : Tryz.prog.globalNamed "strconv.ErrSyntax" = some 1 := by kernel_rfl
theorem pZ:(Tryz.prog.globals[1]?).map (·.type)=some 169:=by kernel_rfl
theorem rF : Tryz.prog.globalNamed "strconv.ErrRange" = some 2 := by kernel_rfl
theorem qZ:(Tryz.prog.globals[2]?).map (·.type)=some 169:=by kernel_rfl
set_option maxRecDepth 100000 in
theorem nK {W:World} (hs:W.ShapedOpen Tryz.prog) (h:laidMetH Tryz.prog pv W):StopsIn W:=by
 rw[MakeChecks.laidMetH_plain _ _ _ (by kernel_rfl)] at h;obtain⟨ps,hV,_⟩:=h;refine⟨?_,?_,?_,?_⟩
 ·obtain ⟨g, t, cs, fuel, p, hg, hty, hvar, hd⟩ := im hV "loop.example/spandrel/impl.stops" Rows.laid_loop_example_spandrel_impl_stops (by simp [pv]); obtain rfl := Option.some.inj (pU.symm.trans hg); obtain rfl := Option.some.inj (sk.symm.trans hty); obtain ⟨A, c, hcs, hle, hC⟩ := mS hd; have := World.var?_cell pU hvar 0; rw [Array.eq_one_of_toList hcs] at this; exact ⟨A, c, by simpa using this, hle, hC⟩
 ·obtain ⟨g, t, cs, fuel, p, hg, hty, hvar, hd⟩ := im hV "internal/strconv.uint64pow10" Rows.laid_internal_strconv_uint64pow10 (by simp [pv]); obtain rfl := Option.some.inj (gTen.symm.trans hg); obtain rfl := Option.some.inj (tTen.symm.trans hty); rw [ta] at hd; have hcs := Lib.cells_of_tab (n := 20) (e := 198) Tryz.underlying237 Tryz.underlying198 (by kernel_rfl) (by kernel_rfl) hd; (try unfold StopsIn)
  unfold Lib.TabIs
  rw[hvar];congr 1
  cases cs with
  | mk l=>exact congrArg List.toArray hcs
 ·exact Go.Proofs.cell_of_shapedOpen_int (g:=4) (zero:=#[.int .i64 0]) (t:=3) hs (of_decide_eq_true (by kernel_rfl)) (by kernel_rfl) rfl (by kernel_rfl) (by kernel_rfl) Tryz.underlying3
 ·refine⟨?_,?_⟩
  ·obtain ⟨g, t, cs, fuel, p, hg, hty, hvar, hd⟩ := im hV "strconv.ErrSyntax" Rows.laid_strconv_ErrSyntax (by simp [pv]); obtain rfl := Option.some.inj (pW.symm.trans hg); obtain rfl := Option.some.inj (pZ.symm.trans hty); unfold Rows.laid_strconv_ErrSyntax at hd
   obtain⟨_,u,v,hcs,_,_⟩:=iface_of_trod Tryz.underlying169 hd;exact⟨u,v,by rw[hvar];congr 1;cases cs with | mk l=>exact congrArg List.toArray hcs⟩
  ·obtain ⟨g, t, cs, fuel, p, hg, hty, hvar, hd⟩ := im hV "strconv.ErrRange" Rows.laid_strconv_ErrRange (by simp [pv]); obtain rfl := Option.some.inj (rF.symm.trans hg); obtain rfl := Option.some.inj (qZ.symm.trans hty); unfold Rows.laid_strconv_ErrRange at hd
   obtain⟨_,u,v,hcs,_,_⟩:=iface_of_trod Tryz.underlying169 hd;exact⟨u,v,by rw[hvar];congr 1;cases cs with | mk l=>exact congrArg List.toArray hcs⟩
theorem qT {H:Type} {enc:TypeId × Value→H} {W W':World} {gs:List (DataW H)} {q:List MemPlace} (hl:laidOutB Tryz.prog=true)
  (hV : DataW.TrodVars enc Tryz.prog W (fun _ => true) ["loop.example/spandrel/impl.stops"] gs q) (hb : Below W.heap.size W W') :
  DataW.TrodVars enc Tryz.prog W' (fun b => decide (b < W.heap.size)) ["loop.example/spandrel/impl.stops"] gs q := by
 obtain ⟨g, t, cs, fuel, d, p, rfl, hg, ht, hv, hd, rfl⟩ := trodVars_one hV; have hg' := hg; have ht' := ht; obtain rfl := Option.some.inj (pU.symm.trans hg); obtain rfl := Option.some.inj (sk.symm.trans ht); have hlt : ∀ x ∈ p, x.block < W.heap.size := DataW.trod_lt fuel _ _ _ hd; have hv2 : W'.var? Tryz.prog "loop.example/spandrel/impl.stops" = some cs := by
  unfold World.var? at hv ⊢
  rw[hg] at hv ⊢;simp only[Option.bind_some] at hv ⊢;have hlt:0<W.heap.size:=by
   rcases Nat.lt_or_ge 0 W.heap.size with h | h
   ·exact h
   ·rw[Array.getElem?_eq_none h] at hv;cases hv
  rw[hb.block _ hlt];exact hv
 have hone:∃v:Value,cs = #[v] ∧ v.cells.toList = [v]:=by
  rcases Deep.open_slice1 Tryz.underlying30 (by kernel_rfl) hd with ⟨hcs,_⟩ | ⟨a,len,cap,m,n,V,D,Pl,hcs,_⟩
  ·exact⟨_,Array.eq_one_of_toList hcs,rfl⟩
  ·exact⟨_,Array.eq_one_of_toList hcs,rfl⟩
 obtain⟨v,rfl,hcells⟩:=hone;have htrod:DataW.Trod enc Tryz.prog W 0 (fun _=>true) true 30 v d p:=⟨fuel,by rw[hcells];exact hd⟩;obtain⟨fuel',hd'⟩:=Below.trod hl (by kernel_rfl) (of_decide_eq_true (by kernel_rfl)) htrod hb hlt;rw[hcells] at hd';have:=trodVars_mk1 (spare:=fun b=>decide (b<W.heap.size)) hg' ht' hv2 hd';exact this
end Go.Proofs.YtnjjdojonflckaaGreatDoor.Laid
