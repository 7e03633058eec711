/- A row of one's own taken apart into its cells and what each element leads to, and put together again; a kind of rows whose elements lie apart; no condition beyond what each states. -/
import Derived.Test.YtnjjdojonflckaaGreatDoorKWMore
namespace Go.Proofs.YtnjjdojonflckaaGreatDoor.Ent
open Go Go.RowKit Go.Proofs.YtnjjdojonflckaaGreatDoorW.PrintWords
theorem sT {α : Type} {d:Kd α} {e:Nat} {w:World} {base:Nat} {ok:Nat→Prop} {v:Value} {xs:List α} (h:Kd.S d e w base ok v xs) :
  ∃(rows:List (List Value)) (f:Nat→Nat),rows.length=xs.length∧(Kd.raw d.sz).R e w base (fun k=>some k=v.ownBlock) v rows∧(∀k,some k=v.ownBlock→ok k) ∧
   ∀(j:Nat) (x : α) (c:List Value),xs[j]? = some x→rows[j]? = some c→d.M w base (fun k=>(ok k∧some k≠v.ownBlock)∧f k=j) x c:=by
 obtain⟨f,h0,inner,ho,hr⟩:=h;rw[List.length_zipIdx] at ho;have hlen:inner.length=xs.length*d.sz:=by have:=hr.1;rw[List.length_zipIdx] at this;exact this
 have hrow:∀(j:Nat) (c:List Value),((List.range xs.length).map fun j=>(inner.drop (j*d.sz)).take d.sz)[j]? = some c→j<xs.length∧c=(inner.drop (j*d.sz)).take d.sz:=by
  intro j c hj;rw[List.getElem?_map] at hj;obtain⟨j',hj',rfl⟩:=Option.map_eq_some_iff.1 hj;obtain⟨hl,he⟩:=List.getElem?_eq_some_iff.1 hj';rw[List.getElem_range] at he;subst he;rw[List.length_range] at hl;exact⟨hl,rfl⟩
 have hM:∀(j:Nat) (x : α),xs[j]? = some x→(Kd.tag f d).M w base (fun k=>ok k∧some k≠v.ownBlock) (x,j) ((inner.drop (j*d.sz)).take d.sz):=fun j x hx=>hr.2 j _ (Kd.zip_at hx)
 refine⟨(List.range xs.length).map fun j=>(inner.drop (j*d.sz)).take d.sz,f,by rw[List.length_map,List.length_range],⟨fun k hk=>hk.symm,inner,?_,?_,fun j c hj=>?_⟩,fun k hk=>h0 k hk.symm,fun j x c hx hc=>?_⟩
 ·rw[List.length_map,List.length_range];exact ho
 ·rw[List.length_map,List.length_range];exact hlen
 ·obtain⟨hl,rfl⟩:=hrow j c hj;have hm:=(Kd.tag f d).K_of_M (hM j _ (List.getElem?_eq_getElem hl));exact⟨rfl,(Kd.tag f d).K_len hm,(Kd.tag f d).K_one hm⟩
 ·obtain⟨hl,rfl⟩:=hrow j c hc;exact hM j x hx
theorem S_join {α : Type} {d:Kd α} {e:Nat} {w:World} {base:Nat} {okr ok:Nat→Prop} {v:Value} {xs:List α} {rows:List (List Value)} (okj:Nat→Nat→Prop) (hR:(Kd.raw d.sz).R e w base okr v rows) (hl:rows.length=xs.length) (hv:∀k,v.ownBlock=some k→ok k)
  (hM:∀(j:Nat) (x : α) (c:List Value),xs[j]? = some x→rows[j]? = some c→d.M w base (okj j) x c) (hap:∀i j k,okj i k→okj j k→i=j) (hok:∀j k,okj j k→ok k∧some k≠v.ownBlock):Kd.S d e w base ok v xs:=by
 obtain⟨_,inner,ho,hr⟩:=hR;have hlen:inner.length=xs.length*d.sz:=by rw[← hl];exact hr.1
 obtain⟨f,hf⟩:=Kd.reps_tag (d:=d) (w:=w) (base:=base) (ok:=fun k=>ok k∧some k≠v.ownBlock) (xs:=xs) (inner:=inner) okj hap hok hlen (fun j x hx=>by
  have hj:=(List.getElem?_eq_some_iff.1 hx).1;have hc:rows[j]? = some (rows[j]'(by omega)):=List.getElem?_eq_getElem (by omega);have h2:(inner.drop (j*d.sz)).take d.sz=rows[j]'(by omega):=(hr.2 j _ hc).1;rw[h2];exact hM j x _ hx hc)
 refine⟨f,hv,inner,?_,hf⟩;rw[List.length_zipIdx,← hl];exact ho
def sliceS {α : Type} (e:Nat) (d:Kd α):Kd (List α) where
 sz:=1
 E:=e :: d.E
 K:=(Kd.slice e d).K
 M:=fun w base ok xs cs=>∃v,cs = [v] ∧ Kd.S d e w base ok v xs
 K_len:=(Kd.slice e d).K_len
 K_one:=(Kd.slice e d).K_one
 K_below:=(Kd.slice e d).K_below
 K_of_M:=by
  rintro w base ok x cs ⟨v,rfl,h⟩;exact(Kd.slice e d).K_of_M (base:=base) (ok:=ok) ⟨v,rfl,Kd.S_R h⟩
 M_mono:=by
  rintro w base ok ok' x cs hok ⟨v,rfl,h⟩;exact⟨v,rfl,Kd.S_mono h hok⟩
 M_bound:=by
  rintro w base ok x cs ⟨v,rfl,h⟩;exact⟨v,rfl,Kd.S_bound h⟩
 M_move:=by
  rintro w w1 base ok x cs hm ⟨v,rfl,h⟩;exact⟨v,rfl,Kd.S_move h hm⟩
 M_lower:=by
  rintro w base base' ok x cs hb ⟨v,rfl,h⟩;exact⟨v,rfl,Kd.S_lower h hb⟩
end Go.Proofs.YtnjjdojonflckaaGreatDoor.Ent
