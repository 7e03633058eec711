/- A map of the call's own, its keys pairs of texts, its elements rows of the call's own, no two of which lead to one block; no condition beyond what each states. -/
import Derived.Test.YtnjjdojonflckaaGreatDoorKWMore
import Derived.Maps.Keyed
import Derived.Maps.RangeRun
import Derived.Carry
import Derived.Laws.IdiomRangeMap
namespace Go.Proofs.YtnjjdojonflckaaGreatDoor.Ent
open Go Go.RowKit Go.MapKept Go.Proofs.YtnjjdojonflckaaGreatDoorW.PrintWords
open Go.ChangeMaps (setBlock heap_setBlock_same heap_setBlock_other)
theorem qq {w:World} {r:Nat} (h:r<w.heap.size) (o:Obj):(setBlock w r o).heap[r]? = some o:=by simp[setBlock,h]
theorem mt (w:World) {r k:Nat} (o:Obj) (hk:k≠r):(setBlock w r o).heap[k]? = w.heap[k]?:=by simp[setBlock,Ne.symm hk]
theorem rL {n:Nat} {l:List Nat} (h:l.Nodup) (hl:∀i∈l,i<n):l.length≤n:=by
 have hp:l.Perm ((List.range n).filter (fun i=>decide (i∈l))):=(List.perm_ext_iff_of_nodup h (List.nodup_range.filter _)).2 (fun i=>by
  rw[List.mem_filter,List.mem_range,decide_eq_true_eq];exact⟨fun hi=>⟨hl i hi,hi⟩,fun hi=>hi.2⟩)
 rw[hp.length_eq];exact Nat.le_trans (List.length_filter_le _ _) (by rw[List.length_range];exact Nat.le_refl _)
abbrev Pl:=ByteArray × ByteArray
def fV (p:Pl):Value:=.agg #[.string p.1,.string p.2]
theorem oV {p q:Pl} (h:fV p=fV q):p=q:=by
 unfold fV at h
 injection h with h
 simp at h
 exact Prod.ext h.1 h.2
def ly (p:Pl):Prop:=p.1.size≤maxLen∧p.2.size≤maxLen
theorem ru {P:Program} {k:TypeId} {f1 f2:Field} (hk:P.underlying k=some (.struct #[f1,f2])) (h1:P.underlying f1.type=some .string) (h2:P.underlying f2.type=some .string) (o1:f1.offset=0) (o2:f2.offset=1)
  (c0 : P.cellsOf k = 2) (c1 : P.cellsOf f1.type = 1) (c2 : P.cellsOf f2.type = 1) (n1 : (f1.name != "_") = true) (n2 : (f2.name != "_") = true) (hkt : P.keyType k = true) (hsz : ∃ m, P.types.size = m + 1) (p : Pl) (hp : ly p) : ∃ l, keyOf P k (fV p) = some l := by
 obtain⟨m,hm⟩:=hsz;have hl:P.keyLits (P.types.size+1) k [.string p.1,.string p.2] = some [.string p.1.data.toList,.string p.2.data.toList]:=by
  rw[hm];simp[Program.keyLits,hk,h1,h2,o1,o2,c0,c1,c2,n1,n2,hp.1,hp.2]
 refine⟨.string (keyBytes [.string p.1.data.toList,.string p.2.data.toList]),?_⟩;unfold keyOf fV
 rw[hk];simp[hkt,Value.formed,Value.cells,hk,c0,hl]
structure lu (P:Program) (t k et:TypeId):Prop where
 K:Go.Maps.Keyed P k
 ht:P.underlying t=some (.map k et)
 key:∀p:Pl,ly p→∃l,keyOf P k (fV p)=some l
 zero:∀w,(zeroValue et).run P w = .ok (.slice none 0 0) w
section
variable {α : Type} {d:Kd α} {e:Nat} {P:Program} {t k et:TypeId} {w w1:World} {base m N j:Nat} {G:List (Pl × List α)} {okj ok1:Nat→Prop} {v:Value} {xs:List α} {p:Pl}
structure Core (w:World) (m:Nat) (G:List (Pl × List α)) (es:Array MapEntry) (clock:Nat):Prop where
 heap:w.heap[m]? = some (.map es clock)
 stamped:Stamped es clock
 keys:es.toList.map (·.key)=G.map (fun g=>fV g.1)
 small:∀g∈G,ly g.1
def MapIs (d:Kd α) (e:Nat) (w:World) (base m:Nat) (G:List (Pl × List α)):Prop:=
 ∃es clock,∃f:Nat→Nat,Core w m G es clock∧∀j g x,G[j]? = some g→es.toList[j]? = some x→Kd.S d e w base (fun k=>f k=j) x.val g.2
def MapRest (d:Kd α) (e:Nat) (w:World) (base m:Nat) (G:List (Pl × List α)) (j:Nat) (okj:Nat→Prop) (N:Nat):Prop:=
 ∃es clock,∃f:Nat→Nat,Core w m G es clock∧m<N∧(∀k,okj k→f k=j∧k<N∧k≠m)∧∀i g x,i≠j→G[i]? = some g→es.toList[i]? = some x→Kd.S d e w base (fun k=>f k=i∧k<N) x.val g.2
theorem Core.len {es:Array MapEntry} {clock:Nat} (h:Core w m G es clock):es.toList.length=G.length:=by
 have:=congrArg List.length h.keys;simpa using this
theorem Core.lt {es:Array MapEntry} {clock:Nat} (h:Core w m G es clock):m<w.heap.size:=(Array.getElem?_eq_some_iff.1 h.heap).1
theorem Core.key {es:Array MapEntry} {clock i:Nat} {g:Pl × List α} {x:MapEntry} (h:Core w m G es clock) (hg:G[i]? = some g) (hx:es.toList[i]? = some x):x.key=fV g.1:=by
 have h1:(es.toList.map (·.key))[i]? = (G.map (fun g=>fV g.1))[i]?:=by rw[h.keys]
 rw[List.getElem?_map,List.getElem?_map,hg,hx] at h1;simpa using h1
theorem Core.at {es:Array MapEntry} {clock i:Nat} {g:Pl × List α} (h:Core w m G es clock) (hg:G[i]? = some g):∃x,es.toList[i]? = some x∧x.key=fV g.1:=by
 have hl:=h.len;have hi:=(List.getElem?_eq_some_iff.1 hg).1;have hx:es.toList[i]? = some es.toList[i]:=List.getElem?_eq_getElem (by omega);exact⟨_,hx,h.key hg hx⟩
theorem Core.keyed {es:Array MapEntry} {clock:Nat} (F:lu P t k et) (h:Core w m G es clock):∀x∈es.toList,∃l,keyOf P k x.key=some l:=by
 intro x hx;obtain⟨i,hi⟩:=List.mem_iff_getElem?.1 hx;have hl:=h.len;have hi':=(List.getElem?_eq_some_iff.1 hi).1;have hg:G[i]? = some (G[i]'(by omega)):=List.getElem?_eq_getElem (by omega);rw[h.key hg hi];exact F.key _ (h.small _ (List.mem_of_getElem? hg))
theorem Core.nodup {es:Array MapEntry} {clock:Nat} (h:Core w m G es clock):(G.map (·.1)).Nodup:=by
 have h1:=h.stamped.2.2;rw[h.keys] at h1;have e:G.map (fun g=>fV g.1)=(G.map (·.1)).map fV:=by rw[List.map_map];rfl
 rw[e] at h1;exact(List.pairwise_map.1 h1).imp (fun h e=>h (by rw[e]))
theorem Core.move {es:Array MapEntry} {clock:Nat} (h:Core w m G es clock) (hm:w1.heap[m]? = w.heap[m]?):Core w1 m G es clock:=⟨hm.trans h.heap,h.stamped,h.keys,h.small⟩
theorem j9 {es:Array MapEntry} {clock:Nat} {ok:Nat→Prop} (hb:w.heap[m]? = some (.map es clock)) (h:Kd.S d e w base ok v xs):Kd.S d e w base (fun k=>(ok k∧k<w.heap.size)∧k≠m) v xs:=
 Kd.S_mono (Kd.S_bound h) (fun k hk=>⟨⟨hk.1,hk.2.2.1⟩,by
  obtain⟨_,_,_,q,_,cells,hc⟩:=hk;rintro rfl;rw[hb] at hc;cases hc⟩)
theorem MapIs.made (w:World) (base:Nat):MapIs d e (w.alloc (.map #[] 0)) base w.heap.size ([] : List (Pl × List α)):=
 ⟨#[],0,fun _=>0,⟨heap_alloc_new w _,stamped_empty 0,rfl,by simp⟩,fun j g x hg=>by simp at hg⟩
theorem MapIs.below (h:MapIs d e w base m G) (hb:Below w.heap.size w w1):MapIs d e w1 base m G:=by
 obtain⟨es,clock,f,hc,hS⟩:=h;exact⟨es,clock,f,hc.move (hb.block m hc.lt),fun j g x hg hx=>Kd.S_below (hS j g x hg hx) hb⟩
theorem MapIs.lt (h:MapIs d e w base m G):m<w.heap.size:=by
 obtain⟨es,clock,f,hc,_⟩:=h;exact hc.lt
theorem MapIs.keys_nodup (h:MapIs d e w base m G):(G.map (·.1)).Nodup:=by
 obtain⟨es,clock,f,hc,_⟩:=h;exact hc.nodup
theorem MapRest.step (h:MapRest d e w base m G j okj N) (hs:∀k,k<N→¬okj k→w1.heap[k]? = w.heap[k]?):MapRest d e w1 base m G j okj N:=by
 obtain⟨es,clock,f,hc,hm,hok,hS⟩:=h;refine⟨es,clock,f,hc.move (hs m hm (fun h2=>(hok m h2).2.2 rfl)),hm,hok,fun i g x hi hg hx=>?_⟩;exact Kd.S_step (hS i g x hi hg hx) (fun k hk _=>hs k hk.2 (fun h2=>hi (hk.1.symm.trans (hok k h2).1)))
theorem MapRest.below (h:MapRest d e w base m G j okj N) (hN:N≤w.heap.size) (hb:Below w.heap.size w w1):MapRest d e w1 base m G j okj N:=h.step (fun k hk _=>hb.block k (by omega))
theorem MapRest.grown {row:Option Nat} (h:MapRest d e w base m G j okj N) (hN:N≤w.heap.size) (hg:w.grownBy w1 row) (hrow:∀k,row=some k→okj k∨N≤k):MapRest d e w1 base m G j okj N:=
 h.step (fun k hk hn=>hg.block k (by omega) (fun he=>(hrow k he.symm).elim hn (fun h2=>by omega)))
theorem look (F:lu P t k et) (h:MapIs d e w base m G) (hp:ly p) :
  ∃j v xs,∃okj:Nat→Prop,(Instr.lookup t (.map (some m)) (fV p) false).run P w = .ok v w∧Kd.S d e w base okj v xs∧MapRest d e w base m G j okj w.heap.size ∧
   ((j=G.length∧xs = [] ∧ ∀g∈G,g.1≠p)∨∃g,G[j]? = some g∧g.1=p∧g.2=xs):=by
 obtain⟨es,clock,f,hc,hS⟩:=h;obtain⟨l,hl⟩:=F.key p hp;have hlen:=hc.len;have rest:∀(j:Nat) (okj:Nat→Prop),(∀k,okj k→f k=j∧k<w.heap.size∧k≠m)→MapRest d e w base m G j okj w.heap.size:=fun j okj hok=>
  ⟨es,clock,f,hc,hc.lt,hok,fun i g x _ hg hx=>Kd.S_mono (j9 hc.heap (hS i g x hg hx)) (fun k hk=>hk.1)⟩
 rcases F.K.find w hl es.toList (hc.keyed F) with ⟨h1,h2⟩ | ⟨j,x,h1,h2,h3⟩
 ·refine⟨G.length,.slice none 0 0,[],fun _=>False,?_,Kd.S_nil _ _ _ _ _,rest _ _ (fun _ hk=>hk.elim),.inl ⟨rfl,rfl,fun g hg he=>?_⟩⟩
  ·simp[Instr.lookup,run_underlying F.ht,MapKept.run_getObj_map hc.heap,F.K.check w _ hl,h1,F.zero,Result.andThen]
  ·obtain⟨i,hi⟩:=List.mem_iff_getElem?.1 hg;obtain⟨x,hx,hk⟩:=hc.at hi;exact h2 x (List.mem_of_getElem? hx) (by rw[hk,he])
 ·have hj:j<es.toList.length:=(List.getElem?_eq_some_iff.1 h2).1;have hg:G[j]? = some (G[j]'(by omega)):=List.getElem?_eq_getElem (by omega);have hk:=hc.key hg h2;refine⟨j,x.val,(G[j]'(by omega)).2,fun k=>(f k=j∧k<w.heap.size)∧k≠m,?_,j9 hc.heap (hS j _ x hg h2),rest _ _ (fun k hk=>⟨hk.1.1,hk.1.2,hk.2⟩),.inr ⟨_,hg,(oV (hk.symm.trans h3)),rfl⟩⟩;simp[Instr.lookup,run_underlying F.ht,MapKept.run_getObj_map hc.heap,F.K.check w _ hl,h1,Result.andThen]
def pE (G:List (Pl × List α)) (j:Nat) (g:Pl × List α):List (Pl × List α):=if j<G.length then G.set j g else G ++ [g]
theorem put (F:lu P t k et) (h:MapRest d e w base m G j okj N) (hV:Kd.S d e w base ok1 v xs) (hok:∀k,ok1 k→okj k∨N≤k) (hp:ly p)
  (hj:(j=G.length∧∀g∈G,g.1≠p)∨∃g,G[j]? = some g∧g.1=p) :
  ∃es' clock',(Instr.mapUpdate t (.map (some m)) (fV p) v).run P w = .ok () (setBlock w m (.map es' clock'))∧MapIs d e (setBlock w m (.map es' clock')) base m (pE G j (p,xs)):=by
 obtain⟨es,clock,f,hc,hm,hokj,hS⟩:=h;obtain⟨l,hl⟩:=F.key p hp;have hlen:=hc.len;have hother:∀(es':Array MapEntry) (clock' k:Nat),k≠m→(setBlock w m (.map es' clock')).heap[k]? = w.heap[k]?:=fun es' clock' k hk=>heap_setBlock_other hc.heap _ hk
 have hsame:∀(es':Array MapEntry) (clock':Nat),(setBlock w m (.map es' clock')).heap[m]? = some (.map es' clock'):=fun es' clock'=>heap_setBlock_same hc.heap _
 have hmove:∀(es':Array MapEntry) (clock':Nat) {ok:Nat→Prop} {u:Value} {ys:List α},Kd.S d e w base ok u ys→Kd.S d e (setBlock w m (.map es' clock')) base ok u ys:=fun es' clock' {ok u ys} hu=>
  Kd.S_mono (Kd.S_move (j9 hc.heap hu) (fun k hk=>hother es' clock' k hk.2)) (fun k hk=>hk.1.1)
 have fnew:∀k,ok1 k→(if k<N then f k else j)=j:=fun k hk=>by
  rcases hok k hk with h2 | h2
  ·rw[if_pos (hokj k h2).2.1];exact(hokj k h2).1
  ·rw[if_neg (by omega)]
 have fold:∀i k,f k=i∧k<N→(if k<N then f k else j)=i:=fun i k hk=>by rw[if_pos hk.2];exact hk.1
 rcases F.K.find w hl es.toList (hc.keyed F) with ⟨h1,h2⟩ | ⟨j',x,h1,h2,h3⟩
 ·have hjl:j=G.length:=by
   rcases hj with ⟨h4,_⟩ | ⟨g,hg,hgp⟩
   ·exact h4
   ·obtain⟨x,hx,hk⟩:=hc.at hg;exact absurd (by rw[hk,hgp]) (h2 x (List.mem_of_getElem? hx))
  have ep:pE G j (p,xs)=G ++ [(p,xs)]:=by unfold pE;rw[if_neg (by omega)]
  refine⟨es.push ⟨fV p,v,clock⟩,clock+1,?_,?_⟩
  ·simp[Instr.mapUpdate,run_underlying F.ht,MapKept.run_getObj_map hc.heap,F.K.check w false hl,h1,MapKept.run_setObj_map _ hc.heap,Result.andThen,setBlock]
  ·rw[ep];refine⟨_,_,fun k=>if k<N then f k else j,⟨hsame _ _,stamped_push hc.stamped h2,by simp[hc.keys],fun g hg=>?_⟩,fun i g x hg hx=>hmove _ _ ?_⟩
   ·rcases List.mem_append.1 hg with hg | hg
    ·exact hc.small g hg
    ·rw[List.mem_singleton.1 hg];exact hp
   ·rw[Array.toList_push] at hx;rcases Nat.lt_or_ge i G.length with hi | hi
    ·rw[List.getElem?_append_left hi] at hg;rw[List.getElem?_append_left (by omega)] at hx;exact Kd.S_mono (hS i g x (by omega) hg hx) (fun k hk=>fold i k hk)
    ·have hi2:i=G.length:=by
      have:=(List.getElem?_eq_some_iff.1 hg).1;simp at this;omega
     subst hi2;rw[List.getElem?_append_right (Nat.le_refl _),Nat.sub_self] at hg;rw[List.getElem?_append_right (by omega),hlen,Nat.sub_self] at hx;have hg2:(p,xs)=g:=by simpa using hg
     have hx2:(⟨fV p,v,clock⟩:MapEntry)=x:=by simpa using hx
     subst hg2 hx2;exact Kd.S_mono hV (fun k hk=>by rw[← hjl];exact fnew k hk)
 ·have hj'l:j'<es.toList.length:=(List.getElem?_eq_some_iff.1 h2).1;have hg':G[j']? = some (G[j']'(by omega)):=List.getElem?_eq_getElem (by omega);have hk':=hc.key hg' h2;have hp':(G[j']'(by omega)).1=p:=oV (hk'.symm.trans h3);have hjj:j=j':=by
   rcases hj with ⟨_,h4⟩ | ⟨g,hg,hgp⟩
   ·exact absurd hp' (h4 _ (List.getElem_mem _))
   ·have hjlt:=(List.getElem?_eq_some_iff.1 hg).1;have hnd:=hc.nodup;have e1:(G.map (·.1))[j]'(by simpa using hjlt)=p:=by
     rw[List.getElem_map];have:=(List.getElem?_eq_some_iff.1 hg).2;rw[this];exact hgp
    have e2:(G.map (·.1))[j']'(by simp;omega)=p:=by rw[List.getElem_map];exact hp'
    have hpw:=List.pairwise_iff_getElem.1 hnd;rcases Nat.lt_trichotomy j j' with h5 | h5 | h5
    ·exact absurd (e1.trans e2.symm) (hpw j j' (by simpa using hjlt) (by simp;omega) h5)
    ·exact h5
    ·exact absurd (e2.trans e1.symm) (hpw j' j (by simp;omega) (by simpa using hjlt) h5)
  subst hjj;have hjs:es[j]? = some x:=by simpa using h2
  have hjlt:j<G.length:=by omega
  have ep:pE G j (p,xs)=G.set j (p,xs):=by unfold pE;rw[if_pos hjlt]
  have hlist:(es.modify j (fun e'=>{ e' with key:=fV p,val:=v })).toList=es.toList.set j { x with key:=fV p,val:=v }:=by rw[Array.toList_modify,Go.ChangeMaps.modify_eq_set _ _ _ _ h2]
  refine⟨es.modify j (fun e'=>{ e' with key:=fV p,val:=v }),clock,?_,?_⟩
  ·simp[Instr.mapUpdate,run_underlying F.ht,MapKept.run_getObj_map hc.heap,F.K.check w false hl,h1,hjs,h3,F.K.stays w hl,MapKept.run_setObj_map _ hc.heap,Result.andThen,setBlock]
  ·rw[ep];refine⟨_,_,fun k=>if k<N then f k else j,⟨hsame _ _,stamped_modify hc.stamped _ _ (fun _ _=>rfl) (fun e' _ he'=>by rw[hjs] at he';cases he';exact h3.symm),?_,fun g hg=>?_⟩,fun i g y hg hy=>hmove _ _ ?_⟩
   ·rw[hlist,List.map_set,List.map_set,hc.keys]
   ·rcases List.mem_or_eq_of_mem_set hg with hg | hg
    ·exact hc.small g hg
    ·rw[hg];exact hp
   ·rw[hlist] at hy;by_cases hij:i=j
    ·subst hij;rw[List.getElem?_set_self (by omega)] at hg hy;have hg2:(p,xs)=g:=by simpa using hg
     have hy2:({ x with key:=fV p,val:=v } : MapEntry)=y:=by simpa using hy
     subst hg2 hy2;exact Kd.S_mono hV (fun k hk=>fnew k hk)
    ·rw[List.getElem?_set_ne (Ne.symm hij)] at hg hy;exact Kd.S_mono (hS i g y hij hg hy) (fun k hk=>fold i k hk)
def zG:Pl × List α:=(((⟨#[]⟩:ByteArray),(⟨#[]⟩:ByteArray)),[])
def mH (G:List (Pl × List α)) (is:List Nat):List (Pl × List α):=is.map (fun i=>G.getD i zG)
theorem qM {G:List (Pl × List α)} {is:List Nat} (hn:is.Nodup) (hm:∀i,i∈is↔i<G.length):(mH G is).Perm G:=by
 have h1:is.Perm (List.range G.length):=(List.perm_ext_iff_of_nodup hn List.nodup_range).2 (fun i=>by rw[hm i,List.mem_range]);have h2:=h1.map (fun i=>G.getD i (zG (α:=α)));have h3:(List.range G.length).map (fun i=>G.getD i (zG (α:=α)))=G:=by
  apply List.ext_getElem (by simp)
  intro i h4 h5;simp[List.getD,List.getElem?_eq_getElem h5]
 rw[h3] at h2;exact h2
theorem rg (G:List (Pl × List α)) (is:List Nat) {i:Nat} {g:Pl × List α} (h:G[i]? = some g):mH G (is ++ [i])=mH G is ++ [g]:=by
 unfold mH
 rw[List.map_append,List.map_singleton,List.getD_eq_getElem?_getD,h];rfl
def Ranging (d:Kd α) (e:Nat) (w:World) (base m r:Nat) (G:List (Pl × List α)) (is:List Nat):Prop:=
 ∃es clock,∃f:Nat→Nat,∃c0 seen,Core w m G es clock∧(∀j g x,G[j]? = some g→es.toList[j]? = some x→Kd.S d e w base (fun k=>f k=j) x.val g.2) ∧
  w.heap[r]? = some (.mapIter (some m) clock seen c0)∧clock≤c0∧is.Nodup∧(∀i∈is,i<G.length)∧seen.toList=is.map (fun i=>(es.toList.getD i ⟨.nilIface,.nilIface,0⟩).born)
theorem Ranging.start (F:lu P t k et) (h:MapIs d e w base m G):∃clock,(Instr.range t (.map (some m))).run P w = .ok (.pointer (some ⟨w.heap.size,0,none⟩)) (w.alloc (.mapIter (some m) clock #[] clock))∧Ranging d e (w.alloc (.mapIter (some m) clock #[] clock)) base m w.heap.size G []:=by
 obtain⟨es,clock,f,hc,hS⟩:=h;have hb:Below w.heap.size w (w.alloc (.mapIter (some m) clock #[] clock)):=aE (Below.refl _ _) _;exact⟨clock,run_range_map w t k et m es clock F.ht hc.heap,es,clock,f,clock,#[],hc.move (hb.block m hc.lt),fun j g x hg hx=>Kd.S_below (hS j g x hg hx) hb,heap_alloc_new w _,Nat.le_refl _,by simp,by simp,rfl⟩
theorem Ranging.step {r E:Nat} {is:List Nat} {row:Option Nat} (h:Ranging d e w base m r G is) (hE:∀q,q∈e :: d.E→q≠E) (hg:w.grownBy w1 row) (hrow:∀b,row=some b→∃cells,w.heap[b]? = some (.cells cells E (0,0))):Ranging d e w1 base m r G is:=by
 obtain⟨es,clock,f,c0,seen,hc,hS,hr,h1,h2,h3,h4⟩:=h;have hlt:∀ {b:Nat} {o:Obj},w.heap[b]? = some o→b<w.heap.size:=fun hb=>(Array.getElem?_eq_some_iff.1 hb).1
 have hne:∀(b:Nat),(∀cells,w.heap[b]? ≠ some (.cells cells E (0,0)))→some b≠row:=fun b hb he=>by
  obtain⟨cells,hcl⟩:=hrow b he.symm;exact hb cells hcl
 refine⟨es,clock,f,c0,seen,hc.move (hg.block m hc.lt (hne m (fun cells h5=>by rw[hc.heap] at h5;cases h5))),fun j g x hgj hx=>?_,(hg.block r (hlt hr) (hne r (fun cells h5=>by rw[hr] at h5;cases h5))).trans hr,h1,h2,h3,h4⟩;have hb:=Kd.S_bound (hS j g x hgj hx);exact Kd.S_mono (Kd.S_move hb (fun k hk=>hg.block k hk.2.2.1 (hne k (fun cells h5=>by
  obtain⟨_,_,_,q,hq,cells',hcl⟩:=hk;rw[hcl] at h5;injection h5 with h5
  injection h5 with _ h6
  exact hE q hq h6)))) (fun k hk=>hk.1)
theorem Ranging.below {r:Nat} {is:List Nat} (h:Ranging d e w base m r G is) (hb:Below w.heap.size w w1):Ranging d e w1 base m r G is:=by
 obtain⟨es,clock,f,c0,seen,hc,hS,hr,h1⟩:=h;exact⟨es,clock,f,c0,seen,hc.move (hb.block m hc.lt),fun j g x hg hx=>Kd.S_below (hS j g x hg hx) hb,(hb.block r (Array.getElem?_eq_some_iff.1 hr).1).trans hr,h1⟩
theorem Ranging.next {r:Nat} {is:List Nat} (h:Ranging d e w base m r G is) (hrm:r≠m) (ty:TypeId) :
  ((mH G is).Perm G∧(Instr.next (.pointer (some ⟨r,0,none⟩)) false ty).run P w = .ok (.tuple #[.bool false]) w) ∨
  ∃i g v w',G[i]? = some g∧i ∉ is∧(Instr.next (.pointer (some ⟨r,0,none⟩)) false ty).run P w = .ok (.tuple #[.bool true,fV g.1,v]) w'∧Ranging d e w' base m r G (is ++ [i]) ∧
   (Instr.entry (.pointer (some ⟨r,0,none⟩))).run P w' = .ok (.tuple #[fV g.1,v]) w'∧w.grownBy w' (some r)∧w'.heap.size=w.heap.size∧Kd.R d e w' base (fun _=>True) v g.2∧(is ++ [i]).length≤G.length:=by
 obtain⟨es,clock,f,c0,seen,hc,hS,hr,h1,h2,h3,h4⟩:=h;have hlen:=hc.len;have hborn:∀ {i:Nat} {x:MapEntry},es.toList[i]? = some x→(es.toList.getD i ⟨.nilIface,.nilIface,0⟩).born=x.born:=fun {i x} hx=>by rw[List.getD_eq_getElem?_getD,hx];rfl
 have binj:∀ {i i':Nat} {x x':MapEntry},es.toList[i]? = some x→es.toList[i']? = some x'→x.born=x'.born→i=i':=fun {i i' x x'} hx hx' he=>by
  have hpw:=List.pairwise_iff_getElem.1 (show (es.toList.map (·.born)).Pairwise (· ≠ ·) from hc.stamped.2.1);have hi:=(List.getElem?_eq_some_iff.1 hx).1;have hi':=(List.getElem?_eq_some_iff.1 hx').1;have e1:(es.toList.map (·.born))[i]'(by simpa using hi)=x.born:=by rw[List.getElem_map,(List.getElem?_eq_some_iff.1 hx).2]
  have e2:(es.toList.map (·.born))[i']'(by simpa using hi')=x'.born:=by rw[List.getElem_map,(List.getElem?_eq_some_iff.1 hx').2]
  rcases Nat.lt_trichotomy i i' with h5 | h5 | h5
  ·exact absurd (e1.trans (he.trans e2.symm)) (hpw i i' (by simpa using hi) (by simpa using hi') h5)
  ·exact h5
  ·exact absurd (e2.trans (he.symm.trans e1.symm)) (hpw i' i (by simpa using hi') (by simpa using hi) h5)
 have hseen:∀(i:Nat) (x:MapEntry),es.toList[i]? = some x→(x.born∈seen.toList↔i∈is):=fun i x hx=>by
  rw[h4,List.mem_map];constructor
  ·rintro ⟨i',hi',he⟩;have hi2:es.toList[i']? = some (es.toList[i']'(by have:=h3 i' hi';omega)):=List.getElem?_eq_getElem _;rw[hborn hi2] at he;rw[← binj hi2 hx he];exact hi'
  ·intro hi;exact⟨i,hi,hborn hx⟩
 rcases run_next_at (P:=P) w ty r m clock c0 seen es clock hr hc.heap hc.stamped.1 h1 with ⟨h0,hrun⟩ | ⟨x,hx,w1',hw1,hrun⟩
 ·refine .inl ⟨qM h2 (fun i=>⟨h3 i,fun hi=>?_⟩),hrun⟩;have hxi:es.toList[i]? = some (es.toList[i]'(by omega)):=List.getElem?_eq_getElem _;refine(hseen i _ hxi).1 ?_;have hz:leftOf es seen = #[]:=Array.eq_empty_of_size_eq_zero h0;unfold leftOf at hz
  rw[Array.filter_eq_empty_iff] at hz;have:=hz (es.toList[i]'(by omega)) (by rw[← Array.mem_toList_iff];exact List.getElem_mem _);simpa using this
 ·unfold leftOf at hx
  rw[Array.mem_toList_iff,Array.mem_filter] at hx;obtain⟨hxm,hxs⟩:=hx;obtain⟨i,hi⟩:=List.mem_iff_getElem?.1 (Array.mem_toList_iff.2 hxm);have hil:=(List.getElem?_eq_some_iff.1 hi).1;have hg:G[i]? = some (G[i]'(by omega)):=List.getElem?_eq_getElem (by omega);have hk:=hc.key hg hi;have hnot:i ∉ is:=fun h5=>by
   have h6:=(hseen i x hi).2 h5;simp at hxs
   exact hxs (Array.mem_toList_iff.1 h6)
  have hh:w1'.heap=w.heap:=by rcases hw1 with rfl | rfl <;> rfl
  have hr1:w1'.heap[r]? = some (.mapIter (some m) clock seen c0):=by rw[hh];exact hr
  have hrl:r<w1'.heap.size:=(Array.getElem?_eq_some_iff.1 hr1).1;have hoth:∀k,k≠r→(setBlock w1' r (.mapIter (some m) clock (seen.push x.born) clock)).heap[k]? = w.heap[k]?:=fun k hk2=>by rw[mt _ _ hk2,hh]
  have hgrow:w.grownBy (setBlock w1' r (.mapIter (some m) clock (seen.push x.born) clock)) (some r):=by
   refine⟨?_,?_,?_,?_,fun k _ hk2=>hoth k (fun e2=>hk2 (by rw[e2]))⟩
   ·rcases hw1 with rfl | rfl <;> rfl
   ·rcases hw1 with rfl | rfl <;> rfl
   ·rcases hw1 with rfl | rfl <;> rfl
   ·simp[setBlock,hh]
  have hc':Core (setBlock w1' r (.mapIter (some m) clock (seen.push x.born) clock)) m G es clock:=hc.move (hoth m (Ne.symm hrm));have hS':∀j g x',G[j]? = some g→es.toList[j]? = some x'→Kd.S d e (setBlock w1' r (.mapIter (some m) clock (seen.push x.born) clock)) base (fun k=>f k=j) x'.val g.2:=fun j g x' hgj hx'=>by
   have hb:=Kd.S_bound (hS j g x' hgj hx');exact Kd.S_mono (Kd.S_move hb (fun k hk2=>hoth k (by
    obtain⟨_,_,_,q,_,cells,hcl⟩:=hk2;rintro rfl;rw[hr] at hcl;cases hcl))) (fun k hk2=>hk2.1)
  refine .inr ⟨i,_,x.val,_,hg,hnot,by rw[← hk];exact hrun,⟨es,clock,f,clock,_,hc',hS',qq hrl _,Nat.le_refl _,?_,?_,?_⟩,?_,hgrow,by simp[setBlock,hh],Kd.R_mono (Kd.S_R (hS' i _ x hg hi)) (fun _ _=>trivial),?_⟩
  ·exact List.nodup_append.2 ⟨h2,by simp,fun a ha b hb=>by rw[List.mem_singleton.1 hb];rintro rfl;exact hnot ha⟩
  ·intro j hj;rcases List.mem_append.1 hj with hj | hj
   ·exact h3 j hj
   ·rw[List.mem_singleton.1 hj];omega
  ·rw[Array.toList_push,h4,List.map_append,List.map_singleton,hborn hi]
  ·rw[← hk];exact run_entry_at _ r m clock seen es clock x (qq hrl _) (hc'.heap) (Array.mem_toList_iff.2 hxm) hc.stamped.2.1
  ·have hnd:(is ++ [i]).Nodup:=List.nodup_append.2 ⟨h2,by simp,fun a ha b hb=>by rw[List.mem_singleton.1 hb];rintro rfl;exact hnot ha⟩;exact rL hnd (fun j hj=>by
    rcases List.mem_append.1 hj with hj | hj
    ·exact h3 j hj
    ·rw[List.mem_singleton.1 hj];omega)
end
end Go.Proofs.YtnjjdojonflckaaGreatDoor.Ent
