/- Words that a program of the kit printed; those that this claim does not name are left out. -/
import Derived.Test.YtnjjdojonflckaaGreatDoorKWLast
import Derived.Test.YtnjjdojonflckaaGreatDoorKWWords
namespace Go.Proofs.YtnjjdojonflckaaGreatDoorW.PrintLast
open Go.Proofs.YtnjjdojonflckaaGreatDoorW.PrintWords (aa)
def iD (md:Region.Mode) (o:Oper):List Nat:=(o.after.toList.filter (fun e=>Region.binds md e)).map (fun e=>e.on)
def oG (md:Region.Mode) (ops:Array Oper) (i:Nat) (oi:Oper):List Nat:=(List.range ops.size).filter fun j=>!(j == i) && match ops[j]? with
 | some oj=>!(oj.after.any (fun e=>Region.binds md e && e.on == i) || oi.apart ops oj)
 | none=>false
def dL (md:Region.Mode) (ops:Array Oper):Bool × List (List Nat × List Nat):=(Region.noSelect ops,(List.range ops.size).map fun i=>match ops[i]? with
 | some o=>(iD md o,oG md ops i o)
 | none=>([],[]))
def f5 (T:List (List Nat × List Nat)) (l:List Bool) (i:Nat):Bool:=!l.getD i true && match T[i]? with
 | some r=>r.1.all (fun j=>l.getD j false)
 | none=>false
def gL (T:List (List Nat × List Nat)) (l:List Bool):List Nat:=(List.range T.length).filter (f5 T l)
def pc (T:List (List Nat × List Nat)) (l:List Bool) (i:Nat):Bool:=match T[i]? with
 | some r=>r.2.all (fun j=>l.getD j true)
 | none=>false
def lf (T:List (List Nat × List Nat)) (l:List Bool):Bool:=(List.range T.length).all fun j=>!l.getD j false || match T[j]? with
 | some r=>r.1.all (fun k=>l.getD k false)
 | none=>true
def jS (T:List (List Nat × List Nat)) (i:Nat):Nat→Nat→Bool
 | 0,_=>false
 | fuel+1,d=>match T[d]? with
  | some r=>r.1.any fun j=>j == i || jS T i fuel j
  | none=>false
def qG (T:List (List Nat × List Nat)) (l:List Bool) (ds:List Nat) (i:Nat):Bool:=ds.all fun d=>l.getD d true || jS T i T.length d
section
variable {md:Region.Mode} {ops:Array Oper} {T:Bool × List (List Nat × List Nat)} {l l' li lj lk:Array Bool} {ds:List Nat} {i j k:Nat}
theorem gd (l:Array Bool) (j:Nat) (b:Bool):l.getD j b=l.toList.getD j b:=by simp[Array.getD_eq_getD_getElem?,List.getD_eq_getElem?_getD]
theorem nw (o:Oper) (p:Nat→Bool):o.after.all (fun e=>!Region.binds md e || p e.on)=(iD md o).all p:=by
 unfold iD
 rw[← Array.all_toList];induction o.after.toList with
 | nil=>rfl
 | cons e r ih=>
  rw[List.all_cons,ih,List.filter_cons];cases h:Region.binds md e <;> simp
theorem qP (o:Oper) (p:Nat→Bool):o.after.any (fun e=>Region.binds md e && p e.on)=(iD md o).any p:=by
 unfold iD
 rw[← Array.any_toList];induction o.after.toList with
 | nil=>rfl
 | cons e r ih=>
  rw[List.any_cons,ih,List.filter_cons];cases h:Region.binds md e <;> simp
theorem fW:(dL md ops).2.length=ops.size:=by simp[dL]
theorem iw {o:Oper} (h:ops[i]? = some o):(dL md ops).2[i]? = some (iD md o,oG md ops i o):=by
 have hi:=(Array.getElem?_eq_some_iff.1 h).1;unfold dL
 rw[List.getElem?_map,List.getElem?_range hi,Option.map_some,h]
theorem ix (h:ops[i]? = none):(dL md ops).2[i]? = none:=by
 have hi:ops.size≤i:=Array.getElem?_eq_none_iff.1 h;exact List.getElem?_eq_none (by rw[fW];exact hi)
theorem pJ:f5 (dL md ops).2 l.toList i=(!l.getD i true && ((ops[i]?).map (·.after.all fun e=>!Region.binds md e || l.getD e.on false)).getD false):=by
 unfold f5
 rw[gd];cases h:ops[i]? with
 | none=>rw[ix h];rfl
 | some o=>
  rw[iw h];simp only[Option.map_some,Option.getD_some];rw[← nw];simp only[gd]
theorem jD:Region.ready md ops l=gL (dL md ops).2 l.toList:=by
 unfold Region.ready gL
 rw[fW];refine List.filter_congr (fun i _=>?_);rw[pJ]
theorem qo:Region.free md ops l i=pc (dL md ops).2 l.toList i:=by
 unfold Region.free pc
 cases h:ops[i]? with
 | none=>rw[ix h]
 | some oi=>
  rw[iw h];simp only[oG];rw[List.all_filter];congr 1
  funext j
  rw[gd];cases hj:ops[j]? with
  | none=>cases (j == i) <;> cases (l.toList.getD j true) <;> simp
  | some oj=>
   cases (j == i) <;> cases (l.toList.getD j true) <;> cases (oj.after.any (fun e=>Region.binds md e && e.on == i) || oi.apart ops oj) <;> simp_all
theorem qS:Region.closedB md ops l=lf (dL md ops).2 l.toList:=by
 unfold Region.closedB lf
 rw[fW];congr 1
 funext j
 rw[gd];cases h:ops[j]? with
 | none=>rw[ix h]
 | some o=>
  rw[iw h];simp only;rw[← nw];simp only[gd]
theorem oR:∀(fuel d:Nat),Region.reachB md ops i fuel d=jS (dL md ops).2 i fuel d
 | 0,_=>rfl
 | fuel+1,d=>by
  unfold Region.reachB jS
  cases h:ops[d]? with
  | none=>rw[ix h]
  | some o=>
   rw[iw h];simp only;rw[← qP];congr 1
   funext e
   rw[oR fuel]
theorem tc:Region.lastB md ops l ds i=qG (dL md ops).2 l.toList ds i:=by
 unfold Region.lastB qG
 rw[fW];congr 1
 funext d
 rw[gd,oR]
theorem kA (h:f5 T.2 l.toList i=true) (hT:dL md ops=T):(Region.ready md ops l).contains i=true:=by
 subst hT;rw[jD];unfold gL
 rw[List.contains_iff_mem,List.mem_filter,List.mem_range];refine⟨?_,h⟩;unfold f5 at h
 rw[Bool.and_eq_true] at h;cases hq:(dL md ops).2[i]? with
 | none=>rw[hq] at h;simp at h
 | some r=>exact(List.getElem?_eq_some_iff.1 hq).1
theorem lr (h:(l.toList.set i true == l'.toList)=true):(l.setIfInBounds i true == l')=true:=by
 rw[beq_iff_eq] at h ⊢;apply Array.ext'
 rw[Array.toList_setIfInBounds];exact h
def anyT (T:Bool × List (List Nat × List Nat)) (l l':List Bool) (i:Nat):Bool:=T.1 && pc T.2 l i && f5 T.2 l i && (l.set i true == l')
theorem rP (hT:dL md ops=T) (h:anyT T l.toList l'.toList i=true):anyB md ops l l' i=true:=by
 simp only[anyT,Bool.and_eq_true] at h;obtain⟨⟨⟨h1,h2⟩,h3⟩,h4⟩:=h;have h5:=kA h3 hT;have h6:=lr h4;subst hT;simp only[anyB,Bool.and_eq_true];exact⟨⟨⟨h1,by rw[qo];exact h2⟩,h5⟩,h6⟩
def sM (T:Bool × List (List Nat × List Nat)) (ds:List Nat) (l l':List Bool) (i:Nat):Bool:=T.1 && pc T.2 l i && f5 T.2 l i && lf T.2 l && qG T.2 l ds i && (l.set i true == l')
theorem sS (hT:dL md ops=T) (h:sM T ds l.toList l'.toList i=true):pF md ops ds l l' i=true:=by
 simp only[sM,Bool.and_eq_true] at h;obtain⟨⟨⟨⟨⟨h1,h2⟩,h3⟩,h4⟩,h5⟩,h6⟩:=h;have h7:=kA h3 hT;have h8:=lr h6;subst hT;simp only[pF,Bool.and_eq_true];exact⟨⟨⟨⟨⟨h1,by rw[qo];exact h2⟩,h7⟩,by rw[qS];exact h4⟩,by rw[tc];exact h5⟩,h8⟩
theorem jT (hT:dL md ops=T) (h:(gL T.2 l.toList == [i] && l.toList.set i true == l'.toList)=true):ka md ops l l' i=true:=by
 simp only[Bool.and_eq_true] at h;obtain⟨h1,h2⟩:=h;subst hT;simp only[ka,Bool.and_eq_true];exact⟨by rw[jD];exact h1,lr h2⟩
theorem fO (hT:dL md ops=T) (h:(gL T.2 l.toList == [i,j] && l.toList.set i true == li.toList && l.toList.set j true == lj.toList)=true):(Region.ready md ops l == [i,j] && l.setIfInBounds i true == li && l.setIfInBounds j true == lj)=true:=by
 simp only[Bool.and_eq_true] at h ⊢;obtain⟨⟨h1,h2⟩,h3⟩:=h;subst hT;exact⟨⟨by rw[jD];exact h1,lr h2⟩,lr h3⟩
theorem s5 (hT:dL md ops=T) (h:(gL T.2 l.toList == [])=true):(Region.ready md ops l == [])=true:=by
 subst hT;rw[jD];exact h
def upM (B:List Nat) (d:Nat):List Nat→Nat
 | []=>0
 | n :: r=>(2 ^ n ||| (if n<d then B.getD n 0 else 0)) ||| upM B d r
def di (T:List (List Nat × List Nat)) (B:List Nat):Bool:=(List.range T.length).all fun d=>match T[d]? with
 | some r=>(B.getD d 0 ||| upM B d r.1) == upM B d r.1
 | none=>false
theorem qE {B:List Nat} {d i:Nat} : ∀ {ns:List Nat},(upM B d ns).testBit i=true→∃n∈ns,n=i∨(n<d∧(B.getD n 0).testBit i=true)
 | [],h=>by simp[upM] at h
 | n :: r,h=>by
  unfold upM at h
  rw[Nat.testBit_or,Nat.testBit_or,Bool.or_eq_true,Bool.or_eq_true] at h;rcases h with (h | h) | h
  ·rw[Nat.testBit_two_pow] at h;exact⟨n,List.mem_cons_self,.inl (by simpa using h)⟩
  ·by_cases hn:n<d
   ·rw[if_pos hn] at h;exact⟨n,List.mem_cons_self,.inr ⟨hn,h⟩⟩
   ·rw[if_neg hn] at h;simp at h
  ·obtain⟨m,hm,h2⟩:=qE h;exact⟨m,List.mem_cons_of_mem _ hm,h2⟩
theorem nj {T:List (List Nat × List Nat)} {B:List Nat} (hB:di T B=true):∀(fuel d:Nat),d<fuel→d<T.length→(B.getD d 0).testBit i=true→jS T i fuel d=true
 | 0,d,h,_,_=>by omega
 | fuel+1,d,h,hd,hb=>by
  have h1:=List.all_eq_true.1 hB d (List.mem_range.2 hd);cases hr:T[d]? with
  | none=>rw[hr] at h1;simp at h1
  | some r=>
   rw[hr] at h1;simp only[beq_iff_eq] at h1;have h2:(upM B d r.1).testBit i=true:=by rw[← h1,Nat.testBit_or,hb,Bool.true_or]
   obtain⟨n,hn,h3⟩:=qE h2;unfold jS
   rw[hr];simp only;rw[List.any_eq_true];refine⟨n,hn,?_⟩;rcases h3 with rfl | ⟨h4,h5⟩
   ·simp
   ·rw[nj hB fuel n (by omega) (by omega) h5,Bool.or_true]
def lastW (T:List (List Nat × List Nat)) (B:List Nat) (l:List Bool) (ds:List Nat) (i:Nat):Bool:=ds.all fun d=>l.getD d true || (decide (d<T.length) && (B.getD d 0).testBit i)
def qI (T:Bool × List (List Nat × List Nat)) (B:List Nat) (ds:List Nat) (l l':List Bool) (i:Nat):Bool:=T.1 && pc T.2 l i && f5 T.2 l i && lf T.2 l && lastW T.2 B l ds i && (l.set i true == l')
theorem oN {B:List Nat} (hT:dL md ops=T) (hB:di T.2 B=true) (h:qI T B ds l.toList l'.toList i=true):pF md ops ds l l' i=true:=by
 refine sS hT ?_;simp only[qI,sM,Bool.and_eq_true] at h ⊢;obtain⟨⟨⟨⟨⟨h1,h2⟩,h3⟩,h4⟩,h5⟩,h6⟩:=h;refine⟨⟨⟨⟨⟨h1,h2⟩,h3⟩,h4⟩,?_⟩,h6⟩;unfold lastW at h5
 unfold qG
 rw[List.all_eq_true] at h5 ⊢;intro d hd;have h7:=h5 d hd;rw[Bool.or_eq_true,Bool.and_eq_true,decide_eq_true_eq] at h7;rcases h7 with h7 | ⟨h8,h9⟩
 ·rw[h7,Bool.true_or]
 ·rw[nj hB _ d h8 h8 h9,Bool.or_true]
theorem bN {P:Program} {Q:Exit→Act→World→Prop} {S:World→Prop} {n:Nat} {a:Act} {w:World} {B:List Nat} (hT:dL md ops=T) (hB:di T.2 B=true) (h:aa (dL md ops=T)→aa (di T.2 B=true)→aM P md ops Q S ds n l a w):aM P md ops Q S ds n l a w:=h ⟨hT⟩ ⟨hB⟩
end
def iV:Code→Nat→Option (Array Oper)
 | .region id ops _,k=>if id == k then some ops else none
 | .seq a b,k=>match iV a k with
  | some o=>some o
  | none=>iV b k
 | .cond _ a b,k=>match iV a k with
  | some o=>some o
  | none=>iV b k
 | .block _ c,k=>iV c k
 | .loop c,k=>iV c k
 | .scope c,k=>iV c k
 | .rangeFunc _ _ a b,k=>match iV a k with
  | some o=>some o
  | none=>iV b k
 | _,_=>none
def fC (f:Func) (k:Nat):Array Oper:=((f.body.bind fun c=>iV c k)).getD #[]
end Go.Proofs.YtnjjdojonflckaaGreatDoorW.PrintLast
