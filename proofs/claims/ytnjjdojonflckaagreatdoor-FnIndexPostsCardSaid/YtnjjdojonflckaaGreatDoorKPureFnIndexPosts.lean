/- The plain law of FnIndexPosts: whatever the input, the printed function of this law answers true after enough rounds; conditions: only the sizes and kinds that the law's Pure states. -/
import Derived.Test.YtnjjdojonflckaaGreatDoorKSFnIndexPosts
import Derived.Lib.IndexBytes
import Derived.Lib.SplitLaws
import Derived.Lib.AtoiAllCases
import Derived.Lib.ItoaNum
import Derived.Lib.Strings
namespace Go.Proofs.YtnjjdojonflckaaGreatDoor.Pure
open Go.RowKit Go.Proofs.YtnjjdojonflckaaGreatDoor.PFnIndexPosts Go.Proofs.YtnjjdojonflckaaGreatDoorW.PrintWords Go.Proofs.YtnjjdojonflckaaGreatDoorW.PrintLast Go.Proofs.YtnjjdojonflckaaGreatDoorW.PrintMore
set_option linter.unusedVariables false
set_option linter.unusedSimpArgs false
def CodeOk (s:List Int):Prop:=s.length≤2000∧∀c∈s,0≤c∧c≤255
theorem rD (s:List Int) (hb:∀c∈s,0≤c∧c≤255):∃s',en.f s=some (s',0)∧CodeOk s':=by
 unfold en.f
 by_cases h:(s.length:Int)>2000
 ·rw[if_pos h,if_pos (by omega)];exact⟨_,rfl,by rw[List.length_take];omega,fun c hc=>hb c (List.mem_of_mem_take hc)⟩
 ·rw[if_neg h];exact⟨_,rfl,by omega,hb⟩
def fK:List ByteArray:=[(⟨#[116,105,116,108,101]⟩:ByteArray),(⟨#[98,111,100,121]⟩:ByteArray),(⟨#[112,114,105,99,101]⟩:ByteArray),(⟨#[99,111,108,111,114]⟩:ByteArray),(⟨#[122]⟩:ByteArray),(⟨#[]⟩:ByteArray)]
def ia (n:Nat) (l:List S92):Prop:=l.length≤n∧∀f∈l,f.f0∈fK
theorem pj {n:Nat} {l:List S92} (h:ia n l):∀f∈l,f.f0.size≤1048576:=by
 intro f hf;have:∀x∈fK,x.size≤1048576:=by decide
 exact this _ (h.2 f hf)
def dY (l:List S86):Prop:=∀c∈l,c.f0.size≤300∧c.f1.size≤300
def eM (c:Nat) (l:List S46):Prop:=∀r∈l,r.f1.f0.size≤400∧r.f1.f1.length≤c∧dY r.f1.f1
def ee (c:Nat) (l:List S76):Prop:=l.length≤c∧∀e∈l,e.f2 ≠ [] ∧ LenP c e.f2
def qe (F:List S92) (R:List S46) (E:List S76):Prop:=ia 5 F∧R.length≤9∧eM 5 R∧ee 45000 E
structure fN (F:List S92) (R:List S46) (E:List S76):Prop where
 f:F.length≤1048576
 fs:∀x∈F,x.f0.size≤1048576
 r:R.length≤1048576
 rs:∀x∈R,x.f1.f0.size≤1048576∧x.f1.f1.length≤1048576∧∀c∈x.f1.f1,c.f0.size≤1048576∧c.f1.size≤1048576
 e:E.length≤1048576
 es:∀x∈E,x.f2.length≤1048576∧∀p∈x.f2,p.f1.length≤1048576
theorem nP {F:List S92} {R:List S46} {E:List S76} (h:qe F R E):fN F R E:=by
 obtain⟨h1,h2,h3,h4⟩:=h;refine⟨by have:=h1.1;omega,pj h1,by omega,fun r hr=>?_,by have:=h4.1;omega,fun e he=>?_⟩
 ·obtain⟨a,b,c⟩:=h3 r hr;exact⟨by omega,by omega,fun x hx=>by have:=c x hx;omega⟩
 ·obtain⟨_,a,b⟩:=h4.2 e he;exact⟨by omega,fun p hp=>by have:=b p hp;omega⟩
theorem b8 {x:Int} (h0 : -9223372036854775808≤x) (h1:x≤9223372036854775807):wrap64 x=x:=by unfold wrap64;omega
theorem CodeOk.byte {s:List Int} (h:CodeOk s) (i:Int):0≤rd s i∧rd s i≤255:=by
 unfold rd
 rw[List.getD_eq_getElem?_getD];rcases Nat.lt_or_ge i.toNat s.length with hi | hi
 ·rw[List.getElem?_eq_getElem hi];exact h.2 _ (List.getElem_mem _)
 ·rw[List.getElem?_eq_none hi];simp
theorem qn {a b:Int} (ha:0≤a) (hb:0<b):0≤Int.tdiv a b∧Int.tdiv a b≤a:=by
 rw[Int.tdiv_eq_ediv_of_nonneg ha];exact⟨Int.ediv_nonneg ha (by omega),Int.ediv_le_self _ ha⟩
theorem jF {a b:Int} (ha:0≤a) (hb:0<b):0≤Int.tmod a b∧Int.tmod a b<b:=by
 rw[Int.tmod_eq_emod_of_nonneg ha];exact⟨Int.emod_nonneg _ (by omega),Int.emod_lt_of_pos _ hb⟩
theorem sV (a b:Nat) (ha:a<2 ^ 62) (hb:b<2 ^ 62):∃m:Nat,Go.bits .xor .i64 (a:Int) (b:Int)=(m:Int)∧m<2 ^ 62:=by
 have ha':a % 2 ^ IntKind.i64.bits=a:=Nat.mod_eq_of_lt (Nat.lt_of_lt_of_le ha (by decide));have hb':b % 2 ^ IntKind.i64.bits=b:=Nat.mod_eq_of_lt (Nat.lt_of_lt_of_le hb (by decide));have hx:=Nat.xor_lt_two_pow ha hb;refine⟨a ^^^ b,?_,hx⟩;simp only[Go.bits,BitVec.ofInt_natCast,BitVec.toNat_xor,BitVec.toNat_ofNat,ha',hb'];rw[IntKind.wrap_i64];have:((a ^^^ b:Nat):Int)<4611686018427387904:=by have:=hx;omega
 omega
theorem dU (s:List Int) (hs:CodeOk s) (p n:Int) (hp:0≤p) (hp1:p≤1000000) (hn:1≤n) (hn1:n≤1000000) :
  ∃r,Ev (fun k=>ac.f k s p n) (r,p+1)∧0≤r∧r<n:=by
 simp only[ac.f,if_neg (show ¬n<1 by omega),b8 (x:=p+1) (by omega) (by omega)];by_cases h0:s.length=0
 ·refine⟨0,Ev.step (fun k=>ac.j0.eq_2 _ _ _ _ _) ?_,by omega,by omega⟩;simp only[show ((s.length:Int) == 0)=true by simp[h0],if_true];exact Ev.now _
 ·have hl:0<(s.length:Int):=by omega
  have hb:((s.length:Int) == 0)=false:=by simp;intro h;exact h0 (by rw[h];rfl)
  have e1:wrap64 (p+1 - 1)=p:=by rw[b8 (by omega) (by omega)];omega
  by_cases hlt:p<(s.length:Int)
  ·have hc:=hs.byte p;refine⟨Int.tmod (rd s p) n,Ev.step (fun k=>ac.j0.eq_2 _ _ _ _ _) ?_,(jF hc.1 (by omega)).1,(jF hc.1 (by omega)).2⟩;simp only[hb,if_neg (show ¬(false=true) by decide),e1,if_pos hlt,if_pos hp,if_neg (show ¬n=0 by omega),b8 (x:=rd s p) (by omega) (by omega)];exact Ev.now _
  ·have m1:=jF hp hl;have e2:wrap64 (wrap64 (p*7)+3)=p*7+3:=by rw[b8 (x:=p*7) (by omega) (by omega),b8 (by omega) (by omega)]
   have m2:=jF (show 0≤p*7+3 by omega) hl;have d1:=qn hp hl;obtain⟨A,hA⟩:∃A,rd s (Int.tmod p (s.length:Int))=A:=⟨_,rfl⟩;obtain⟨B,hB⟩:∃B,rd s (Int.tmod (p*7+3) (s.length:Int))=B:=⟨_,rfl⟩;obtain⟨C,hC⟩:∃C,Int.tdiv p (s.length:Int)=C:=⟨_,rfl⟩;have a1:=hs.byte (Int.tmod p (s.length:Int));rw[hA] at a1;have b1:=hs.byte (Int.tmod (p*7+3) (s.length:Int));rw[hB] at b1;rw[hC] at d1;have v1:wrap64 (wrap64 (wrap64 (wrap64 (wrap64 A*131)+wrap64 (wrap64 B*1117))+wrap64 (p*29))+wrap64 (wrap64 C*53))=A*131+B*1117+p*29+C*53:=by
    rw[b8 (x:=A) (by omega) (by omega),b8 (x:=B) (by omega) (by omega),b8 (x:=C) (by omega) (by omega),b8 (x:=A*131) (by omega) (by omega),b8 (x:=B*1117) (by omega) (by omega),b8 (x:=p*29) (by omega) (by omega),b8 (x:=C*53) (by omega) (by omega),b8 (x:=A*131+B*1117) (by omega) (by omega),b8 (x:=A*131+B*1117+p*29) (by omega) (by omega),b8 (by omega) (by omega)]
   obtain⟨V,hV⟩:∃V:Nat,A*131+B*1117+p*29+C*53=(V:Int):=⟨(A*131+B*1117+p*29+C*53).toNat,by omega⟩;have hVb:V<2 ^ 62:=by(have:(2:Nat) ^ 62=4611686018427387904:=by decide);omega
   have hd:=qn (show 0≤(V:Int) by omega) (show (0:Int)<64 by omega);obtain⟨Q,hQ⟩:∃Q:Nat,Int.tdiv (V:Int) 64=(Q:Int):=⟨(Int.tdiv (V:Int) 64).toNat,by omega⟩;have hQb:Q<2 ^ 62:=by omega
   obtain⟨m,hm,hmb⟩:=sV V Q hVb hQb;have e3:wrap64 (Int.tdiv (V:Int) 64)=(Q:Int):=by
    have:(2:Nat) ^ 62=4611686018427387904:=by decide
    rw[hQ,b8 (by omega) (by omega)]
   have mm:=jF (show 0≤(m:Int) by omega) (show 0<n by omega);refine⟨Int.tmod (m:Int) n,Ev.step (fun k=>ac.j0.eq_2 _ _ _ _ _) ?_,mm.1,mm.2⟩;simp only[hb,if_neg (show ¬(false=true) by decide),e1,if_neg hlt,if_neg (show ¬(s.length:Int)=0 by omega),if_pos m1.1,if_pos m1.2,e2,if_pos m2.1,if_pos m2.2,if_neg (show ¬n=0 by omega),hA,hB,hC,v1,hV,e3,hm];exact Ev.now _
theorem fz (l:List S86) (j:Nat) (h:j<l.length):ap l (j:Int)=l[j]:=by
 unfold ap;simp[List.getD_eq_getElem?_getD,List.getElem?_eq_getElem h]
theorem dM (i:Nat):((i:Int)).toNat=i:=by simp
def n8:List ByteArray:=[(⟨#[97]⟩:ByteArray),(⟨#[98]⟩:ByteArray),(⟨#[99]⟩:ByteArray),(⟨#[100]⟩:ByteArray),(⟨#[101]⟩:ByteArray),(⟨#[107,57]⟩:ByteArray)]
theorem nS {x:ByteArray} (h:x∈n8):x.size≤300:=by
 have:∀x∈n8,x.size≤300:=by decide
 exact this x h
theorem eo {α : Type} (d : α) (l:List α) (j:Nat) (h:j<l.length):cZ d l (j:Int)=l[j]:=by
 unfold cZ;simp[List.getD_eq_getElem?_getD,List.getElem?_eq_getElem h]
theorem cm (j:Nat) (h:j<9223372036854775807):wrap64 ((j:Int)+1)=((j+1:Nat):Int):=by rw[b8 (by omega) (by omega)];omega
def co:List ByteArray:=[(⟨#[98,111,100,121]⟩:ByteArray),(⟨#[99,111,108,111,114]⟩:ByteArray),(⟨#[112,114,105,99,101]⟩:ByteArray),(⟨#[116,105,116,108,101]⟩:ByteArray)]
theorem m8 {x:ByteArray} (h:x∈co):x.size≤300:=by
 have:∀x∈co,x.size≤300:=by decide
 exact this x h
def ot:List ByteArray:=[(⟨#[48]⟩:ByteArray),(⟨#[53]⟩:ByteArray),(⟨#[55]⟩:ByteArray),(⟨#[45,51]⟩:ByteArray),(⟨#[49,50]⟩:ByteArray),(⟨#[57,57,57,57,57,57,57,57,57]⟩:ByteArray)]
theorem oC {x:ByteArray} (h:x∈ot):x.size≤300:=by
 have:∀x∈ot,x.size≤300:=by decide
 exact this x h
def oI:List ByteArray:=[(⟨#[114,101,100]⟩:ByteArray),(⟨#[98,108,117,101]⟩:ByteArray),(⟨#[114,101,100,44,98,108,117,101]⟩:ByteArray),(⟨#[98,108,117,101,44,114,101,100,44,114,101,100]⟩:ByteArray),(⟨#[103,114,101,101,110]⟩:ByteArray)]
theorem oM {x:ByteArray} (h:x∈oI):x.size≤300:=by
 have:∀x∈oI,x.size≤300:=by decide
 exact this x h
theorem rh (l:List S92) (j:Nat) (h:j<l.length):∃f,ay l (j:Int)=f:=⟨_,rfl⟩
theorem eK {l:List S86} (h:dY l) {a b:ByteArray} (ha:a.size≤300) (hb:b.size≤300):dY (l ++ [⟨a,b⟩]):=by
 intro c hc;rcases List.mem_append.1 hc with h1 | h1
 ·exact h c h1
 ·rw[List.mem_singleton.1 h1];exact⟨ha,hb⟩
theorem ik (s:List Int) (hs:CodeOk s) (p:Int) (l:List ByteArray) (hp:0≤p) (hp1:p≤1000000) (hl:1≤l.length) (hl1:l.length≤1000000) :
  ∃r,Ev (fun k=>aX.f k s p l) (r,p+1)∧r∈l:=by
 obtain⟨i,hi,h0,h1⟩:=dU s hs p (l.length:Int) hp hp1 (by omega) (by omega);obtain⟨j,rfl⟩:∃j:Nat,i=(j:Int):=⟨i.toNat,by omega⟩;refine⟨l[j]'(by omega),?_,List.getElem_mem _⟩;simp only[aX.f];refine Ev.bind hi ?_;simp only[if_pos h0,if_pos h1,eo _ l j (by omega)];exact Ev.now _
theorem qC (j:Nat) (h:j<9223372036854775807):wrap64 (((j+1:Nat):Int) - 1)=(j:Int):=by rw[b8 (by omega) (by omega)];omega
def jB:List ByteArray:=[(⟨#[114,101,100]⟩:ByteArray),(⟨#[82,101,100]⟩:ByteArray),(⟨#[97,112,112,108,101]⟩:ByteArray),(⟨#[97,112,112,108,101,115]⟩:ByteArray),(⟨#[112,105,101]⟩:ByteArray),(⟨#[116,104,101]⟩:ByteArray),(⟨#[111,102]⟩:ByteArray),(⟨#[103,108,97,115,115]⟩:ByteArray),(⟨#[98,117,115]⟩:ByteArray),(⟨#[116,114,101,101]⟩:ByteArray),(⟨#[116,114,101,101,115]⟩:ByteArray),(⟨#[55]⟩:ByteArray),(⟨#[118,101,114,121,108,111,110,103,119,111,114,100,105,110,100,101,101,100]⟩:ByteArray),(⟨#[97]⟩:ByteArray)]
theorem mx (s:List Int) (hs:CodeOk s) (p:Int) (hp:0≤p) (hp1:p≤1000000):∃r,Ev (fun k=>dR.f k s p) (r,p+1)∧r∈jB:=by
 obtain⟨r,hr,hm⟩:=ik s hs p jB hp hp1 (by decide) (by decide);exact⟨r,Ev.bind hr (Ev.now _),hm⟩
theorem ni {r:ByteArray} (h:r∈jB):r.size≤18:=by
 have:∀x∈jB,x.size≤18:=by decide
 exact this r h
theorem pR (s:List Int) (hs:CodeOk s):∀(n:Nat) (p:Int) (out:ByteArray),0≤p→p+2*n≤900000→n≤1000→out.size+20*n≤100000 →
  ∃r q,Ev (fun k=>bH.l0 k out (n:Int) s p) (r,q)∧p≤q∧q≤p+2*n∧r.size≤out.size+20*n:=by
 intro n;induction n with
 | zero=>
  intro p out hp hb hn ho;refine⟨out,p,Ev.step (fun k=>bH.l0.eq_2 _ _ _ _ _) ?_,by omega,by omega,by omega⟩;simp only[if_neg (show ¬(((0:Nat):Int)>0) by omega)];exact Ev.now _
 | succ n ih=>
  intro p out hp hb hn ho;obtain⟨w,hw,hwm⟩:=mx s hs p hp (by omega);have hws:=ni hwm;obtain⟨x,hx,hxm⟩:=ik s hs (p+1) (([(⟨#[32]⟩:ByteArray),(⟨#[44,32]⟩:ByteArray),(⟨#[45]⟩:ByteArray),(⟨#[32]⟩:ByteArray),(⟨#[46]⟩:ByteArray)] : List ByteArray)) (by omega) (by omega) (by decide) (by decide);have hxs:x.size≤2:=by
   have h:∀x∈([(⟨#[32]⟩:ByteArray),(⟨#[44,32]⟩:ByteArray),(⟨#[45]⟩:ByteArray),(⟨#[32]⟩:ByteArray),(⟨#[46]⟩:ByteArray)] : List ByteArray),x.size≤2:=by decide
   exact h x hxm
  obtain⟨r,q,hr,h1,h2,h3⟩:=ih (p+1+1) ((out ++ w) ++ x) (by omega) (by omega) (by omega) (by simp only[ByteArray.size_append];omega);refine⟨r,q,Ev.step (fun k=>bH.l0.eq_2 _ _ _ _ _) ?_,by omega,by omega,by simp only[ByteArray.size_append] at h3;omega⟩;simp only[if_pos (show (((n+1:Nat):Int)>0) by omega)];refine Ev.bind hw ?_;simp only[if_pos (show out.size+w.size≤9223372036854775807 by omega)];refine Ev.bind hx ?_;simp only[if_pos (show (out ++ w).size+x.size≤9223372036854775807 by simp only[ByteArray.size_append];omega),qC n (by omega)];exact hr
theorem i6 (s:List Int) (hs:CodeOk s) (p:Int) (hp:0≤p) (hp1:p≤800000):∃r q,Ev (fun k=>bH.f k s p) (r,q)∧p≤q∧q≤p+20∧r.size≤200:=by
 obtain⟨i,hi,h0,h1⟩:=dU s hs p 6 hp (by omega) (by omega) (by omega);obtain⟨j,rfl⟩:∃j:Nat,i=(j:Int):=⟨i.toNat,by omega⟩;obtain⟨r,q,hr,h2,h3,h4⟩:=pR s hs j (p+1) (⟨#[]⟩:ByteArray) (by omega) (by omega) (by omega) (by show 0+20*j≤100000;omega);have e0:(⟨#[]⟩:ByteArray).size=0:=rfl;refine⟨r,q,?_,by omega,by omega,by omega⟩;simp only[bH.f];exact Ev.bind hi hr
theorem eA (l:List S92) (j:Nat) (h:j<l.length):ay l (j:Int)=l[j]:=by
 unfold ay;simp[List.getD_eq_getElem?_getD,List.getElem?_eq_getElem h]
theorem hU (s:ByteArray):s.toList=s.data.toList:=by
 exact ByteArray.toList_eq s
theorem toList_inj {a b:ByteArray} : a.toList=b.toList↔a=b:=by
 rw[hU,hU];constructor
 ·intro h;exact ByteArray.ext (Array.toList_inj.1 h)
 ·rintro rfl;rfl
theorem kY (l:List S92) (n:ByteArray) (hn:l.length<4611686018427387904):∀(d i:Nat),i+d=l.length→(∀m (hm:m<l.length),m<i→l[m].f0≠n) →
  ∃r,Ev (fun k=>bh.l0 k l n (i:Int)) r∧((r = -1∧∀x∈l,x.f0≠n)∨∃(j:Nat) (hj:j<l.length),r=(j:Int)∧l[j].f0=n∧∀m (hm:m<j),l[m].f0≠n):=by
 intro d;induction d with
 | zero=>
  intro i hi hb;refine⟨-1,Ev.step (fun k=>bh.l0.eq_2 _ _ _ _) ?_,.inl ⟨rfl,fun x hx=>?_⟩⟩
  ·simp only[if_neg (show ¬((i:Int)<(l.length:Int)) by omega)];exact Ev.now _
  ·obtain⟨m,hm,rfl⟩:=List.mem_iff_getElem.1 hx;exact hb m hm (by omega)
 | succ d ih=>
  intro i hi hb;by_cases h:l[i].f0=n
  ·refine⟨(i:Int),Ev.step (fun k=>bh.l0.eq_2 _ _ _ _) ?_,.inr ⟨i,by omega,rfl,h,fun m hm=>hb m (by omega) hm⟩⟩;simp only[if_pos (show ((i:Int)<(l.length:Int)) by omega),if_pos (show 0≤(i:Int) by omega),eA l i (by omega),toList_inj,if_pos h];exact Ev.now _
  ·obtain⟨r,hr,hq⟩:=ih (i+1) (by omega) (fun m hm hlt=>by
    rcases Nat.lt_or_ge m i with h1 | h1
    ·exact hb m hm h1
    ·obtain rfl:m=i:=by omega
     exact h)
   refine⟨r,Ev.step (fun k=>bh.l0.eq_2 _ _ _ _) ?_,hq⟩;simp only[if_pos (show ((i:Int)<(l.length:Int)) by omega),if_pos (show 0≤(i:Int) by omega),eA l i (by omega),toList_inj,if_neg h,cm i (by omega)];exact hr
theorem eL (l:List S92) (n:ByteArray) (hn:l.length<4611686018427387904) :
  ∃r,Ev (fun k=>bh.f k l n) r∧((r = -1∧∀x∈l,x.f0≠n)∨∃(j:Nat) (hj:j<l.length),r=(j:Int)∧l[j].f0=n∧∀m (hm:m<j),l[m].f0≠n):=
 kY l n hn l.length 0 (by omega) (fun m hm h=>absurd h (by omega))
theorem ro (s:List Int) (hs:CodeOk s) (F:List S92) (hF:F.length≤1000) (key:ByteArray):∀(d i:Nat) (p:Int) (acc:List S86),i+d=co.length→0≤p→p+40*d≤700000→acc.length≤i→dY acc →
  ∃r q,Ev (fun k=>aD.l0 k F co (i:Int) s p key acc) (key,r,q)∧p≤q∧q≤p+40*d∧r.length≤acc.length+d∧dY r:=by
 have hlen:co.length=4:=rfl;intro d;induction d with
 | zero=>
  intro i p acc hi hp hp1 ha hsh;refine⟨acc,p,Ev.step (fun k=>aD.l0.eq_2 _ _ _ _ _ _ _ _) ?_,by omega,by omega,by omega,hsh⟩;simp only[if_neg (show ¬((i:Int)<(co.length:Int)) by omega)];exact Ev.now _
 | succ d ih=>
  intro i p acc hi hp hp1 ha hsh;have hil:i<co.length:=by omega
  have hn:=m8 (List.getElem_mem hil);obtain⟨t,ht,hq⟩:=eL F co[i] (by omega);have skip:∀(q:Int) (t:Int),p≤q→q≤p+1→∃r q',Ev (fun k=>aD.j1 k F co (i:Int) t true s q key acc) (key,r,q')∧p≤q'∧q'≤p+40*(d+1:Nat)∧r.length≤acc.length+(d+1)∧dY r:=by
   intro q t h1 h2;obtain⟨r,q',hr,a1,a2,a3,a4⟩:=ih (i+1) q acc (by omega) (by omega) (by omega) (by omega) hsh;refine⟨r,q',Ev.step (fun k=>aD.j1.eq_2 _ _ _ _ _ _ _ _ _ _) ?_,by omega,by omega,by omega,a4⟩;simp only[if_true,cm i (by omega)];exact hr
  by_cases ht0:t<0
  ·obtain⟨r,q',hr,a1,a2,a3,a4⟩:=skip p t (by omega) (by omega);refine⟨r,q',Ev.step (fun k=>aD.l0.eq_2 _ _ _ _ _ _ _ _) ?_,a1,a2,a3,a4⟩;simp only[if_pos (show ((i:Int)<(co.length:Int)) by omega),if_pos (show 0≤(i:Int) by omega),eo _ co i hil];refine Ev.bind ht ?_;simp only[if_pos ht0];exact hr
  ·obtain⟨x,hx,x0,x1⟩:=dU s hs p 4 hp (by omega) (by omega) (by omega);by_cases hx0:x=0
   ·obtain⟨r,q',hr,a1,a2,a3,a4⟩:=skip (p+1) t (by omega) (by omega);refine⟨r,q',Ev.step (fun k=>aD.l0.eq_2 _ _ _ _ _ _ _ _) ?_,a1,a2,a3,a4⟩;simp only[if_pos (show ((i:Int)<(co.length:Int)) by omega),if_pos (show 0≤(i:Int) by omega),eo _ co i hil];refine Ev.bind ht ?_;simp only[if_neg ht0];refine Ev.bind hx ?_;have e:(x == 0)=true:=by simpa using hx0
    simp only[e];exact hr
   ·have ex:(x == 0)=false:=by simpa using hx0
    obtain⟨j,hj,rfl⟩:∃(j:Nat) (hj:j<F.length),t=(j:Int):=by
     rcases hq with ⟨h,_⟩ | ⟨j,hj,h,_⟩
     ·omega
     ·exact⟨j,hj,h⟩
    obtain⟨T,q1,hT,b1,b2,b3⟩:=i6 s hs (p+1) (by omega) (by omega);obtain⟨f,hf⟩:=rh F j hj;have go:∃r q',Ev (fun k=>aD.j1 k F co (i:Int) (j:Int) false s (p+1) key acc) (key,r,q')∧p≤q'∧q'≤p+40*(d+1:Nat)∧r.length≤acc.length+(d+1)∧dY r:=by
     have st:∀k,aD.j1 (k+1) F co (i:Int) (j:Int) false s (p+1) key acc=_:=fun k=>aD.j1.eq_2 _ _ _ _ _ _ _ _ _ _
     by_cases c2:f.f1=2
     ·obtain⟨y,hy,hym⟩:=ik s hs q1 ot (by omega) (by omega) (by decide) (by decide);obtain⟨r,q',hr,a1,a2,a3,a4⟩:=ih (i+1) (q1+1) (acc ++ [⟨co[i],y⟩]) (by omega) (by omega) (by omega) (by simp;omega) (eK hsh hn (oC hym));refine⟨r,q',Ev.step (fun k=>aD.j1.eq_2 _ _ _ _ _ _ _ _ _ _) ?_,by omega,by omega,by simp at a3;omega,a4⟩;simp only[if_neg (show ¬(false=true) by decide),if_pos (show 0≤(i:Int) by omega),if_pos (show ((i:Int)<(co.length:Int)) by omega)];refine Ev.bind hT ?_;simp only[if_pos (show 0≤(j:Int) by omega),if_pos (show (j:Int)<(F.length:Int) by omega),hf,if_pos c2];refine Ev.bind hy ?_;simp only[if_pos (show acc.length<4398046511104 by omega),eo _ co i hil,cm i (by omega)];exact hr
     ·by_cases c3:f.f1=3
      ·obtain⟨y,hy,hym⟩:=ik s hs q1 oI (by omega) (by omega) (by decide) (by decide);obtain⟨r,q',hr,a1,a2,a3,a4⟩:=ih (i+1) (q1+1) (acc ++ [⟨co[i],y⟩]) (by omega) (by omega) (by omega) (by simp;omega) (eK hsh hn (oM hym));refine⟨r,q',Ev.step (fun k=>aD.j1.eq_2 _ _ _ _ _ _ _ _ _ _) ?_,by omega,by omega,by simp at a3;omega,a4⟩;simp only[if_neg (show ¬(false=true) by decide),if_pos (show 0≤(i:Int) by omega),if_pos (show ((i:Int)<(co.length:Int)) by omega)];refine Ev.bind hT ?_;simp only[if_pos (show 0≤(j:Int) by omega),if_pos (show (j:Int)<(F.length:Int) by omega),hf,if_neg c2,if_pos c3];refine Ev.bind hy ?_;simp only[if_pos (show acc.length<4398046511104 by omega),eo _ co i hil,cm i (by omega)];exact hr
      ·obtain⟨r,q',hr,a1,a2,a3,a4⟩:=ih (i+1) q1 (acc ++ [⟨co[i],T⟩]) (by omega) (by omega) (by omega) (by simp;omega) (eK hsh hn (by omega));refine⟨r,q',Ev.step (fun k=>aD.j1.eq_2 _ _ _ _ _ _ _ _ _ _) ?_,by omega,by omega,by simp at a3;omega,a4⟩;simp only[if_neg (show ¬(false=true) by decide),if_pos (show 0≤(i:Int) by omega),if_pos (show ((i:Int)<(co.length:Int)) by omega)];refine Ev.bind hT ?_;simp only[if_pos (show 0≤(j:Int) by omega),if_pos (show (j:Int)<(F.length:Int) by omega),hf,if_neg c2,if_neg c3,if_pos (show acc.length<4398046511104 by omega),eo _ co i hil,cm i (by omega)];exact hr
    obtain⟨r,q',hr,a1,a2,a3,a4⟩:=go;refine⟨r,q',Ev.step (fun k=>aD.l0.eq_2 _ _ _ _ _ _ _ _) ?_,a1,a2,a3,a4⟩;simp only[if_pos (show ((i:Int)<(co.length:Int)) by omega),if_pos (show 0≤(i:Int) by omega),eo _ co i hil];refine Ev.bind ht ?_;simp only[if_neg ht0];refine Ev.bind hx ?_;simp only[ex];exact hr
theorem nh (s:List Int) (hs:CodeOk s) (F:List S92) (hF:F.length≤1000) (p:Int) (hp:0≤p) (hp1:p≤600000) :
  ∃key r q,Ev (fun k=>aD.f k s p F) (key,r,q)∧p≤q∧q≤p+200∧key.size≤300∧r.length≤4∧dY r:=by
 obtain⟨x,hx,hxm⟩:=ik s hs p n8 hp (by omega) (by decide) (by decide);obtain⟨r,q,hr,a1,a2,a3,a4⟩:=ro s hs F hF x 4 0 (p+1) [] (by decide) (by omega) (by omega) (by simp) (fun c hc=>by simp at hc);refine⟨x,r,q,?_,by omega,by omega,nS hxm,by simpa using a3,a4⟩;simp only[aD.f];exact Ev.bind hx hr
theorem ry:∀(d n:Nat) (x out:ByteArray),n<2 ^ d→d≤20→x.size*2 ^ d≤1099511627776→out.size+x.size*n≤1099511627776→∃r,Ev (fun k=>cd.l0 k x (n:Int) out) r∧r.size=out.size+x.size*n:=by
 intro d;induction d with
 | zero=>
  intro n x out hn hd hx ho;obtain rfl:n=0:=by simpa using hn
  refine⟨out,Ev.step (fun k=>cd.l0.eq_2 _ _ _ _) ?_,by omega⟩;simp only[if_neg (show ¬(((0:Nat):Int)>0) by omega)];exact Ev.now _
 | succ d ih=>
  intro n x out hn hd hx ho;have hp:2 ^ (d+1)=2*2 ^ d:=by rw[Nat.pow_succ,Nat.mul_comm]
  have hb:n<1048576:=Nat.lt_of_lt_of_le hn (Nat.pow_le_pow_right (Nat.succ_pos 1) hd);rw[hp,← Nat.mul_assoc,Nat.mul_comm x.size 2] at hx;rw[hp] at hn;have hd1:0<2 ^ d:=Nat.pow_pos (by decide);have hxs:x.size≤2*x.size*2 ^ d:=Nat.le_trans (by omega) (Nat.le_mul_of_pos_right _ hd1);by_cases h0:n=0
  ·subst h0;refine⟨out,Ev.step (fun k=>cd.l0.eq_2 _ _ _ _) ?_,by omega⟩;simp only[if_neg (show ¬(((0:Nat):Int)>0) by omega)];exact Ev.now _
  ·have e1:Int.tmod (n:Int) 2=((n % 2:Nat):Int):=by rw[Int.tmod_eq_emod_of_nonneg (by omega)];omega
   have e2:wrap64 (Int.tdiv (n:Int) 2)=((n / 2:Nat):Int):=by
    rw[Int.tdiv_eq_ediv_of_nonneg (by omega),b8 (by omega) (by omega)];omega
   have hs2:(x ++ x).size=2*x.size:=by rw[ByteArray.size_append];omega
   have hq:n / 2<2 ^ d:=by omega
   by_cases h1:n % 2=1
   ·have hm:x.size*n=2*x.size*(n / 2)+x.size:=by
     have hn2:n=2*(n / 2)+1:=by omega
     conv=>lhs;rw[hn2]
     rw[Nat.mul_add,Nat.mul_one,← Nat.mul_assoc,Nat.mul_comm x.size 2]
    obtain⟨r,hr,hrs⟩:=ih (n / 2) (x ++ x) (out ++ x) hq (by omega) (by rw[hs2];exact hx) (by rw[hs2,ByteArray.size_append];omega);refine⟨r,Ev.step (fun k=>cd.l0.eq_2 _ _ _ _) ?_,?_⟩
    ·simp only[if_pos (show ((n:Int)>0) by omega),e1,e2,if_pos (show ((n % 2:Nat):Int)=1 by omega),if_pos (show out.size+x.size≤9223372036854775807 by omega),if_pos (show x.size+x.size≤9223372036854775807 by omega)];exact hr
    ·rw[hs2,ByteArray.size_append] at hrs;omega
   ·have hm:x.size*n=2*x.size*(n / 2):=by
     have hn2:n=2*(n / 2):=by omega
     conv=>lhs;rw[hn2]
     rw[← Nat.mul_assoc,Nat.mul_comm x.size 2]
    obtain⟨r,hr,hrs⟩:=ih (n / 2) (x ++ x) out hq (by omega) (by rw[hs2];exact hx) (by rw[hs2];omega);refine⟨r,Ev.step (fun k=>cd.l0.eq_2 _ _ _ _) ?_,?_⟩
    ·simp only[if_pos (show ((n:Int)>0) by omega),e1,e2,if_neg (show ¬((n % 2:Nat):Int)=1 by omega),if_pos (show x.size+x.size≤9223372036854775807 by omega)];exact hr
    ·rw[hs2] at hrs;omega
theorem mO (s:List Int) (hs:CodeOk s) (p:Int) (hp:0≤p) (hp1:p≤800000 - 10):∃r q,Ev (fun k=>dB.f k s p) (r,q)∧p≤q∧q≤p+30∧r.size≤300:=by
 obtain⟨i,hi,h0,h1⟩:=dU s hs p 14 hp (by omega) (by omega) (by omega);simp only[dB.f];by_cases c0:i=0
 ·obtain⟨j,hj,h2,h3⟩:=dU s hs (p+1) 2 (by omega) (by omega) (by omega) (by omega);obtain⟨m,hm⟩:∃m:Nat,60+j=(m:Int):=⟨(60+j).toNat,by omega⟩;have e1:(⟨#[120]⟩:ByteArray).size=1:=rfl;obtain⟨r,hr,hrs⟩:=ry 7 m (⟨#[120]⟩:ByteArray) (⟨#[]⟩:ByteArray) (by omega) (by decide) (by decide) (by rw[e1];show 0+1*m≤_;omega);have e0:(⟨#[]⟩:ByteArray).size=0:=rfl;rw[e0,e1,Nat.one_mul] at hrs;refine⟨r,p+1+1,Ev.bind hi ?_,by omega,by omega,by omega⟩;simp only[if_pos c0];refine Ev.bind hj ?_;simp only[hm,b8 (x:=(m:Int)) (by omega) (by omega)];exact Ev.bind (show Ev (fun k=>cd.f k _ _) r from hr) (Ev.now _)
 ·by_cases c1:i=1
  ·obtain⟨t,q,ht,h2,h3,h4⟩:=i6 s hs (p+1) (by omega) (by omega);obtain⟨x,hx,hxm⟩:=ik s hs q (([(⟨#[10]⟩:ByteArray),(⟨#[1]⟩:ByteArray),(⟨#[127]⟩:ByteArray)] : List ByteArray)) (by omega) (by omega) (by decide) (by decide);have hxs:x.size≤1:=by
    have h:∀x∈([(⟨#[10]⟩:ByteArray),(⟨#[1]⟩:ByteArray),(⟨#[127]⟩:ByteArray)] : List ByteArray),x.size≤1:=by decide
    exact h x hxm
   refine⟨t ++ x,q+1,Ev.bind hi ?_,by omega,by omega,by rw[ByteArray.size_append];omega⟩;simp only[if_neg c0,if_pos c1];refine Ev.bind ht ?_;refine Ev.bind hx ?_;simp only[if_pos (show t.size+x.size≤9223372036854775807 by omega)];exact Ev.now _
  ·obtain⟨t,q,ht,h2,h3,h4⟩:=i6 s hs (p+1) (by omega) (by omega);refine⟨t,q,Ev.bind hi ?_,by omega,by omega,by omega⟩;simp only[if_neg c0,if_neg c1];exact Ev.bind ht (Ev.now _)
theorem oo (s:List Int) (hs:CodeOk s) (F:List S92) (hF:F.length≤1000) (p:Int) (hp:0≤p) (hp1:p≤500000) :
  ∃key r q,Ev (fun k=>aW.f k s p F) (key,r,q)∧p≤q∧q≤p+300∧key.size≤300∧r.length≤5∧dY r:=by
 obtain⟨key,r,q,hd,b1,b2,b3,b4,b5⟩:=nh s hs F hF p hp (by omega);obtain⟨x,hx,x0,x1⟩:=dU s hs q 14 (by omega) (by omega) (by omega) (by omega);simp only[aW.f];by_cases c0:x=0
 ·obtain⟨y,hy,hym⟩:=ik s hs (q+1) (([(⟨#[]⟩:ByteArray),(⟨#[65]⟩:ByteArray),(⟨#[110,105,110,101,108,101,116,116,101]⟩:ByteArray)] : List ByteArray)) (by omega) (by omega) (by decide) (by decide);have hys:y.size≤300:=by
   have h:∀x∈(([(⟨#[]⟩:ByteArray),(⟨#[65]⟩:ByteArray),(⟨#[110,105,110,101,108,101,116,116,101]⟩:ByteArray)] : List ByteArray)),x.size≤300:=by decide
   exact h y hym
  refine⟨y,r,q+1+1,Ev.bind hd (Ev.bind hx ?_),by omega,by omega,hys,by omega,b5⟩;simp only[if_pos c0];exact Ev.bind hy (Ev.now _)
 ·by_cases c1:x=1
  ·obtain⟨y,hy,hym⟩:=ik s hs (q+1) (([(⟨#[122,122]⟩:ByteArray),(⟨#[98,111,100,121]⟩:ByteArray),(⟨#[]⟩:ByteArray)] : List ByteArray)) (by omega) (by omega) (by decide) (by decide);have hys:y.size≤300:=by
    have h:∀x∈(([(⟨#[122,122]⟩:ByteArray),(⟨#[98,111,100,121]⟩:ByteArray),(⟨#[]⟩:ByteArray)] : List ByteArray)),x.size≤300:=by decide
    exact h y hym
   obtain⟨T,q2,hT,t1,t2,t3⟩:=mO s hs (q+1+1) (by omega) (by omega);refine⟨key,r ++ [⟨y,T⟩],q2,Ev.bind hd (Ev.bind hx ?_),by omega,by omega,b3,by simp;omega,eK b5 hys t3⟩;simp only[if_neg c0,if_pos c1];refine Ev.bind hy (Ev.bind hT ?_);simp only[if_pos (show r.length<4398046511104 by omega)];exact Ev.now _
  ·by_cases c2:x=2
   ·by_cases hr0:(r.length:Int)>0
    ·obtain⟨z,hz,z0,z1⟩:=dU s hs (q+1) (r.length:Int) (by omega) (by omega) (by omega) (by omega);obtain⟨m,rfl⟩:∃m:Nat,z=(m:Int):=⟨z.toNat,by omega⟩;obtain⟨y,hy,hym⟩:=ik s hs (q+1+1) (([(⟨#[48,49]⟩:ByteArray),(⟨#[]⟩:ByteArray),(⟨#[120,44]⟩:ByteArray),(⟨#[45,48]⟩:ByteArray),(⟨#[114,101,100,44,44,98,108,117,101]⟩:ByteArray),(⟨#[97,44,98,44,99,44,100,44,101]⟩:ByteArray),(⟨#[119,111,114,100,115,32,104,101,114,101]⟩:ByteArray)] : List ByteArray)) (by omega) (by omega) (by decide) (by decide);have hys:y.size≤300:=by
      have h:∀x∈(([(⟨#[48,49]⟩:ByteArray),(⟨#[]⟩:ByteArray),(⟨#[120,44]⟩:ByteArray),(⟨#[45,48]⟩:ByteArray),(⟨#[114,101,100,44,44,98,108,117,101]⟩:ByteArray),(⟨#[97,44,98,44,99,44,100,44,101]⟩:ByteArray),(⟨#[119,111,114,100,115,32,104,101,114,101]⟩:ByteArray)] : List ByteArray)),x.size≤300:=by decide
      exact h y hym
     have hm:m<r.length:=by omega
     refine⟨key,r.set m ⟨r[m].f0,y⟩,q+1+1+1,Ev.bind hd (Ev.bind hx ?_),by omega,by omega,b3,by simp;omega,?_⟩
     ·simp only[if_neg c0,if_neg c1,if_pos c2,if_pos hr0];refine Ev.bind hz (Ev.bind hy ?_);simp only[if_pos z0,if_pos z1,dM,fz r m hm];exact Ev.now _
     ·intro c hc;rcases List.mem_or_eq_of_mem_set hc with h | h
      ·exact b5 c h
      ·rw[h];exact⟨(b5 _ (List.getElem_mem hm)).1,hys⟩
    ·refine⟨key,r,q+1,Ev.bind hd (Ev.bind hx ?_),by omega,by omega,b3,by omega,b5⟩;simp only[if_neg c0,if_neg c1,if_pos c2,if_neg hr0];exact Ev.now _
   ·refine⟨key,r,q+1,Ev.bind hd (Ev.bind hx ?_),by omega,by omega,b3,by omega,b5⟩;simp only[if_neg c0,if_neg c1,if_neg c2];exact Ev.now _
def eS:List S92:=[⟨(⟨#[116,105,116,108,101]⟩:ByteArray),1,3⟩,⟨(⟨#[98,111,100,121]⟩:ByteArray),1,1⟩,⟨(⟨#[112,114,105,99,101]⟩:ByteArray),2,0⟩,⟨(⟨#[99,111,108,111,114]⟩:ByteArray),3,0⟩]
theorem jc:ia 4 eS:=by
 refine⟨by decide,fun f hf=>?_⟩;unfold eS at hf
 simp only[List.mem_cons,List.not_mem_nil,or_false] at hf;unfold fK
 rcases hf with rfl | rfl | rfl | rfl <;> simp
theorem ow:dw.f=some eS:=rfl
theorem jK (s:List Int) (hs:CodeOk s) (p:Int) (hp:0≤p) (hp1:p≤900000):∃r,Ev (fun k=>bY.f k s p) (r,p+1)∧ia 4 r∧1≤r.length:=by
 obtain⟨x,hx,x0,x1⟩:=dU s hs p 4 hp (by omega) (by omega) (by omega);have hl:(eS.length:Int)=4:=rfl;have n1:(1:Int).toNat=1:=rfl;simp only[bY.f,ow,Option.bind_some];by_cases c0:x=0
 ·refine⟨eS.take 1,Ev.bind hx ?_,⟨by decide,fun f hf=>jc.2 f (List.mem_of_mem_take hf)⟩,by decide⟩;simp only[if_pos c0,hl,if_pos (show (1:Int)≤4 by decide),n1];exact Ev.now _
 ·by_cases c1:x=1
  ·refine⟨eS.drop 1,Ev.bind hx ?_,⟨by decide,fun f hf=>jc.2 f (List.mem_of_mem_drop hf)⟩,by decide⟩;simp only[if_neg c0,if_pos c1,hl,if_pos (show (1:Int)≤4 by decide),n1];exact Ev.now _
  ·refine⟨eS,Ev.bind hx ?_,jc,by decide⟩;simp only[if_neg c0,if_neg c1];exact Ev.now _
theorem g5 (l:List Int) (j:Nat) (h:j<l.length):rd l (j:Int)=l[j]:=by
 unfold rd;simp[List.getD_eq_getElem?_getD,List.getElem?_eq_getElem h]
theorem sE (s:List Int) (hs:CodeOk s) (p:Int) (l:List Int) (hp:0≤p) (hp1:p≤1000000) (hl:1≤l.length) (hl1:l.length≤1000000) :
  ∃r,Ev (fun k=>cJ.f k s p l) (r,p+1)∧r∈l:=by
 obtain⟨i,hi,h0,h1⟩:=dU s hs p (l.length:Int) hp hp1 (by omega) (by omega);obtain⟨j,rfl⟩:∃j:Nat,i=(j:Int):=⟨i.toNat,by omega⟩;refine⟨l[j]'(by omega),?_,List.getElem_mem _⟩;simp only[cJ.f];refine Ev.bind hi ?_;simp only[if_pos h0,if_pos h1,g5 l j (by omega)];exact Ev.now _
theorem kT (s:List Int) (hs:CodeOk s) (p:Int) (hp:0≤p) (hp1:p≤800000):∃r q,Ev (fun k=>dd.f k s p) (r,q)∧p≤q∧q≤p+5∧ia 5 r:=by
 obtain⟨r,hr,hd,hl1⟩:=jK s hs p hp (by omega);obtain⟨x,hx,x0,x1⟩:=dU s hs (p+1) 12 (by omega) (by omega) (by omega) (by omega);have hl:=hd.1;simp only[dd.f,Option.bind_some,List.nil_append,List.length_nil,Nat.zero_add];have st:∀(R:List S92 × Int),Ev (fun k=>(ac.f k s (p+1) 12).bind fun bt287=>(if bt287.1=0 then((aX.f k s bt287.2 (([(⟨#[116,105,116,108,101]⟩:ByteArray),(⟨#[122]⟩:ByteArray),(⟨#[]⟩:ByteArray)] : List ByteArray))).bind fun bt292=>((ac.f k s bt292.2 5).bind fun bt294=>((ac.f k s bt294.2 11).bind fun bt296=>(if r.length<4398046511104 then(some ((r ++ [(⟨bt292.1,bt294.1,bt296.1⟩:S92)]),bt296.2)) else(none))))) else(if bt287.1=1 then((cJ.f k s bt287.2 (([0,9,10] : List Int))).bind fun bt304=>(if 0<(r.length:Int) then(some ((r.set (0:Int).toNat (⟨(ay r 0).f0,(ay r 0).f1,bt304.1⟩:S92)),bt304.2)) else(none))) else(if bt287.1=2 then(some (([] : List (S92)),bt287.2)) else(some (r,bt287.2)))))) R →
   Ev (fun k=>(bY.f k s p).bind fun bt280=>(if bt280.1.length<4398046511104 then((ac.f k s bt280.2 12).bind fun bt287=>(if bt287.1=0 then((aX.f k s bt287.2 (([(⟨#[116,105,116,108,101]⟩:ByteArray),(⟨#[122]⟩:ByteArray),(⟨#[]⟩:ByteArray)] : List ByteArray))).bind fun bt292=>((ac.f k s bt292.2 5).bind fun bt294=>((ac.f k s bt294.2 11).bind fun bt296=>(if bt280.1.length<4398046511104 then(some ((bt280.1 ++ [(⟨bt292.1,bt294.1,bt296.1⟩:S92)]),bt296.2)) else(none))))) else(if bt287.1=1 then((cJ.f k s bt287.2 (([0,9,10] : List Int))).bind fun bt304=>(if 0<(bt280.1.length:Int) then(some ((bt280.1.set (0:Int).toNat (⟨(ay bt280.1 0).f0,(ay bt280.1 0).f1,bt304.1⟩:S92)),bt304.2)) else(none))) else(if bt287.1=2 then(some (([] : List (S92)),bt287.2)) else(some (bt280.1,bt287.2)))))) else(none))) R:=by
  intro R hR;refine Ev.bind hr ?_;simp only[if_pos (show r.length<4398046511104 by omega)] at hR ⊢;exact hR
 by_cases c0:x=0
 ·obtain⟨a,ha,ham⟩:=ik s hs (p+1+1) (([(⟨#[116,105,116,108,101]⟩:ByteArray),(⟨#[122]⟩:ByteArray),(⟨#[]⟩:ByteArray)] : List ByteArray)) (by omega) (by omega) (by decide) (by decide);obtain⟨b,hb,b0,b1⟩:=dU s hs (p+1+1+1) 5 (by omega) (by omega) (by omega) (by omega);obtain⟨c,hc,e0,e1⟩:=dU s hs (p+1+1+1+1) 11 (by omega) (by omega) (by omega) (by omega);refine⟨r ++ [⟨a,b,c⟩],p+1+1+1+1+1,st _ (Ev.bind hx ?_),by omega,by omega,by simp;omega,fun f hf=>?_⟩
  ·simp only[if_pos c0];refine Ev.bind ha (Ev.bind hb (Ev.bind hc ?_));simp only[if_pos (show r.length<4398046511104 by omega)];exact Ev.now _
  ·rcases List.mem_append.1 hf with h | h
   ·exact hd.2 f h
   ·rw[List.mem_singleton.1 h];have hsub:∀x∈(([(⟨#[116,105,116,108,101]⟩:ByteArray),(⟨#[122]⟩:ByteArray),(⟨#[]⟩:ByteArray)] : List ByteArray)),x∈fK:=by
     intro x hx;simp only[List.mem_cons,List.not_mem_nil,or_false] at hx;unfold fK
     rcases hx with rfl | rfl | rfl <;> simp
    exact hsub a ham
 ·by_cases c1:x=1
  ·obtain⟨a,ha,ham⟩:=sE s hs (p+1+1) ([0,9,10] : List Int) (by omega) (by omega) (by decide) (by decide);have h0:=eA r 0 (by omega);refine⟨r.set 0 ⟨(r[0]'(by omega)).f0,(r[0]'(by omega)).f1,a⟩,p+1+1+1,st _ (Ev.bind hx ?_),by omega,by omega,by simp;omega,fun f hf=>?_⟩
   ·simp only[if_neg c0,if_pos c1];refine Ev.bind ha ?_;have n0:(0:Int).toNat=0:=rfl;have h0':ay r 0=r[0]'(by omega):=h0;simp only[if_pos (show 0<(r.length:Int) by omega),n0,h0'];exact Ev.now _
   ·rcases List.mem_or_eq_of_mem_set hf with h | h
    ·exact hd.2 f h
    ·rw[h];exact hd.2 (r[0]'(by omega)) (List.getElem_mem (show 0<r.length by omega))
  ·by_cases c2:x=2
   ·refine⟨[],p+1+1,st _ (Ev.bind hx ?_),by omega,by omega,by simp,fun f hf=>by simp at hf⟩;simp only[if_neg c0,if_neg c1,if_pos c2];exact Ev.now _
   ·refine⟨r,p+1+1,st _ (Ev.bind hx ?_),by omega,by omega,by omega,hd.2⟩;simp only[if_neg c0,if_neg c1,if_neg c2];exact Ev.now _
theorem oP {a b:Nat} {l:List S92} (h:ia a l) (hb:a≤b):ia b l:=⟨Nat.le_trans h.1 hb,h.2⟩
theorem pV {c:Nat} {l:List S76} (h:ee c l) (n:Nat):ee c (l.drop n):=⟨by have:=h.1;rw[List.length_drop];omega,fun e he=>h.2 e (List.mem_of_mem_drop he)⟩
def kU (u:Nat):ByteArray:=⟨(Lib.decDigits u).toArray⟩
theorem decDigits_length (u:Nat):(Lib.decDigits u).length=Lib.nDigits u:=by rw[Lib.decDigits_eq,List.length_map,List.length_range]
theorem rv (u:Nat):(kU u).size=Lib.nDigits u:=by rw[← decDigits_length];rfl
theorem jg:∀(k u:Nat),u<10 ^ (k+1)→Lib.nDigits u≤k+1
 | 0,u,h=>by rw[Lib.nDigits_small (by simpa using h)];exact Nat.le_refl _
 | k+1,u,h=>by
  by_cases h1:u<10
  ·rw[Lib.nDigits_small h1];omega
  ·rw[Lib.nDigits_big h1];have:=jg k (u / 10) (by rw[Nat.pow_succ] at h;omega);omega
theorem gJ (u:Nat) (h:u<10 ^ 19):(kU u).size≤19:=by rw[rv];exact jg 18 u h
theorem rI (a b:List UInt8):(⟨a.toArray⟩:ByteArray) ++ (⟨b.toArray⟩:ByteArray)=⟨(a ++ b).toArray⟩:=by
 apply ByteArray.ext
 rw[ByteArray.data_append];simp
theorem px {a b:ByteArray} (h:ar a=ar b):a=b:=by
 have h1:a.data.toList=b.data.toList:=by
  have hl:a.data.toList.length=b.data.toList.length:=by
   have:=congrArg List.length h;simpa [ar] using this
  apply List.ext_getElem hl
  intro i h1 h2;have h3:(ar a)[i]? = (ar b)[i]?:=by rw[h]
  simp only[ar,List.getElem?_map,List.getElem?_eq_getElem h1,List.getElem?_eq_getElem h2,Option.map_some,Option.some.injEq] at h3;exact UInt8.toNat_inj.1 (by omega)
 exact ByteArray.ext (Array.toList_inj.1 h1)
theorem fX (l:List Int) (h:∀c∈l,0≤c∧c≤255):ar (strOfNums l)=l:=by
 unfold ar
 rw[strOfNums_data,List.map_map];conv=>rhs;rw[← List.map_id l]
 apply List.map_congr_left
 intro c hc;have:=h c hc;simp only[Function.comp,id];rw[UInt8.toNat_ofNat'];omega
theorem ku (u:Nat) (h:u<10) (c:Int) (hc:c=48+(u:Int)):strOfNums [c] = (⟨[UInt8.ofNat (48+u)].toArray⟩:ByteArray):=by
 subst hc;apply px
 rw[fX _ (by intro c hc;rw[List.mem_singleton] at hc;omega)];have:ar (⟨[UInt8.ofNat (48+u)].toArray⟩:ByteArray) = [((UInt8.ofNat (48+u)).toNat:Int)]:=rfl;rw[this];have h2:(UInt8.ofNat (48+u)).toNat=48+u:=by
  rw[UInt8.toNat_ofNat'];exact Nat.mod_eq_of_lt (by omega)
 rw[h2];rfl
theorem mI (u:Nat):u≤9223372036854775807→Ev (fun k=>b7.f k (u:Int)) (kU u):=by
 induction u using Nat.strongRecOn with
 | _ u ih=>
  intro hu;refine Ev.step (fun k=>b7.f.eq_2 _ _) ?_;simp only[if_neg (show ¬((u:Int)<(-9223372036854775807)) by omega),if_neg (show ¬((u:Int)<0) by omega)];by_cases h:u<10
  ·simp only[if_pos (show (u:Int)<10 by omega),b8 (x:=48+(u:Int)) (by omega) (by omega)];rw[ku u h _ (by omega)];have e:kU u=(⟨[UInt8.ofNat (48+u)].toArray⟩:ByteArray):=by unfold kU;rw[Lib.decDigits,dif_pos h]
   rw[e];exact Ev.now _
  ·have e1:Int.tdiv (u:Int) 10=((u / 10:Nat):Int):=by rw[Int.tdiv_eq_ediv_of_nonneg (by omega)];omega
   have e2:Int.tmod (u:Int) 10=((u % 10:Nat):Int):=by rw[Int.tmod_eq_emod_of_nonneg (by omega)];omega
   simp only[if_neg (show ¬((u:Int)<10) by omega),e1,e2,b8 (x:=((u / 10:Nat):Int)) (by omega) (by omega),b8 (x:=48+((u % 10:Nat):Int)) (by omega) (by omega)];refine Ev.bind (ih (u / 10) (by omega) (by omega)) ?_;have hz:=gJ (u / 10) (by omega);have es:=ku (u % 10) (by omega) ((48+((u % 10:Nat):Int)) % 256) (by omega);have z1:(⟨[UInt8.ofNat (48+u % 10)].toArray⟩:ByteArray).size=1:=rfl;simp only[Option.bind_some,es,z1,if_pos (show (kU (u / 10)).size+1≤9223372036854775807 by omega)];have e:kU u=kU (u / 10) ++ (⟨[UInt8.ofNat (48+u % 10)].toArray⟩:ByteArray):=by
    unfold kU
    rw[rI];conv=>lhs;rw[Lib.decDigits,dif_neg h]
   rw[e];exact Ev.now _
theorem fx (l:List S46) (j:Nat) (h:j<l.length):ab l (j:Int)=l[j]:=by
 unfold ab;simp[List.getD_eq_getElem?_getD,List.getElem?_eq_getElem h]
def mV (c:Int):Prop:=48≤c∧c≤57
instance (c:Int):Decidable (mV c):=by unfold mV;infer_instance
def my (c:Int):Prop:=97≤c∧c≤122
instance (c:Int):Decidable (my c):=by unfold my;infer_instance
def upP (c:Int):Prop:=65≤c∧c≤90
instance (c:Int):Decidable (upP c):=by unfold upP;infer_instance
def gn (c:Int):Prop:=upP c∨my c∨mV c
instance (c:Int):Decidable (gn c):=by unfold gn;infer_instance
def cM:Nat→Option Nat→List Int→List (Nat × Nat)
 | _,none,[]=>[]
 | p,some st,[]=>[(st,p)]
 | p,none,c :: cs=>if gn c then cM (p+1) (some p) cs else cM (p+1) none cs
 | p,some st,c :: cs=>if gn c then cM (p+1) (some st) cs else(st,p) :: cM (p+1) none cs
def gD (s:ByteArray) (q:Nat × Nat):S90:=⟨s.extract q.1 q.2,(q.1:Int),(q.2:Int)⟩
def fh (s:ByteArray):List S90:=(cM 0 none (ar s)).map (gD s)
def eH (s:ByteArray):ByteArray:=strOfNums ((ar s).map dN)
def gZ (w:ByteArray):ByteArray:=w.extract 0 (min w.size 12)
def jC (w:ByteArray):Bool:=decide (w.size>3∧bt w ((w.size:Int) - 1)=115∧bt w ((w.size:Int) - 2)≠115)
def noS (w:ByteArray):ByteArray:=if jC w=true then w.extract 0 (w.size - 1) else w
open Classical in
noncomputable def fG (w:ByteArray):ByteArray:=if w∈cQ then(⟨#[]⟩:ByteArray) else w
noncomputable def gU (s:ByteArray):ByteArray:=fG (noS (gZ (eH s)))
noncomputable def dg (s:ByteArray):List ByteArray:=(fh s).map (fun w=>gU w.f0)
def ec (n:ByteArray):List S92→ByteArray × Int × Int
 | []=>(⟨#[]⟩,0,0)
 | f :: F=>if f.f0=n then(f.f0,f.f1,f.f2) else ec n F
def dc (F:List S92) (n:ByteArray):Int:=(ec n F).2.1
def il (p:ByteArray × ByteArray) (id x:Int):S76:=⟨p.1,p.2,[⟨id,[x]⟩]⟩
def j4 (id x:Int) (e:S76):S76:=⟨e.f0,e.f1,ey e.f2 id x⟩
open Classical in
noncomputable def d8 (p:ByteArray × ByteArray) (id x:Int):List S76→List S76
 | []=>[il p id x]
 | e :: l=>if ltP (b9 e) p then e :: d8 p id x l else if b9 e=p then j4 id x e :: l else il p id x :: e :: l
noncomputable def gj (id:Int) (name:ByteArray):List ByteArray→Int→List S76→List S76
 | [],_,L=>L
 | t :: ts,x,L=>gj id name ts (x+1) (if t.size=0 then L else d8 (name,t) id x L)
noncomputable def lX (F:List S92) (id:Int):List S86→List S76→List S76
 | [],L=>L
 | c :: cs,L=>lX F id cs (if dc F c.f0=1 then gj id c.f0 (dg c.f1) 0 L else L)
noncomputable def ei (F:List S92):List S46→List S76→List S76
 | [],L=>L
 | r :: rs,L=>ei F rs (lX F r.f0 r.f1.f1 L)
theorem dK {c d:Nat} {l:List S76} (h:ee c l) (hd:c≤d):ee d l:=
 ⟨by have:=h.1;omega,fun e he=>⟨(h.2 e he).1,by have:=(h.2 e he).2.1;omega,fun q hq=>by have:=(h.2 e he).2.2 q hq;omega⟩⟩
theorem fS {α : Type} {g:Nat→Option α} {r : α} (h:∀k,g k=some r):Ev g r:=⟨0,fun k _=>h k⟩
theorem cT {α : Type} (l:List α) (j:Nat) (h:j<l.length):l.drop j=l[j] :: l.drop (j+1):=List.drop_eq_getElem_cons h
theorem ks (l:List S90) (j:Nat) (h:j<l.length):eQ l (j:Int)=l[j]:=by
 unfold eQ;simp[List.getD_eq_getElem?_getD,List.getElem?_eq_getElem h]
theorem fw (s:ByteArray):∀c∈ar s,0≤c∧c≤255:=by
 intro c hc;obtain⟨b,_,rfl⟩:=List.mem_map.1 hc;have:=b.toNat_lt;omega
theorem o8 (c:Int) (h:0≤c∧c≤255):0≤dN c∧dN c≤255:=by
 unfold dN;split <;> omega
theorem mU (s:ByteArray):ar (eH s)=(ar s).map dN:=by
 unfold eH
 apply fX
 intro c hc;obtain⟨b,hb,rfl⟩:=List.mem_map.1 hc;exact o8 b (fw s b hb)
theorem lD (s:ByteArray):(eH s).size=s.size:=by
 rw[← bX,mU,List.length_map,bX]
theorem gY (s:ByteArray) (j:Nat) (h:j<(ar s).length):bt s (j:Int)=(ar s)[j]:=by
 rw[← ml,g5 _ _ h]
theorem sw (c:Int):dN c=if upP c then c+32 else c:=by
 unfold dN
 by_cases h:65≤c∧c≤90
 ·rw[if_pos h,if_pos (show upP c from h)]
 ·rw[if_neg h,if_neg (show ¬upP c from h)]
theorem gO (c:Int) (h0:0≤c) (h1:c≤255):cO.f c=some (if upP c then c+32 else c):=by
 unfold cO.f
 by_cases h:upP c
 ·have h':65≤c∧c≤90:=h;rw[if_pos h'.1,if_pos h'.2,if_pos h];congr 1;omega
 ·have h':¬(65≤c∧c≤90):=h;rw[if_neg h];by_cases h2:c≥65
  ·rw[if_pos h2,if_neg (by omega)]
  ·rw[if_neg h2]
theorem ou (s:ByteArray) (hn:s.size<70368744177664):∀(d i:Nat) (acc:List Int),i+d=s.size→acc.length≤i →
  Ev (fun k=>dl.l0 k s acc (i:Int)) (strOfNums (acc ++ ((ar s).drop i).map dN)):=by
 have hb:=bX s;have hr:=fw s;intro d;induction d with
 | zero=>
  intro i acc hi hacc;refine Ev.step (fun k=>dl.l0.eq_2 _ _ _ _) ?_;simp only[if_neg (show ¬((i:Int)<(s.size:Int)) by omega)];rw[List.drop_of_length_le (by omega),List.map_nil,List.append_nil];exact Ev.now _
 | succ d ih=>
  intro i acc hi hacc;have hc:=hr (ar s)[i] (List.getElem_mem _);refine Ev.step (fun k=>dl.l0.eq_2 _ _ _ _) ?_;simp only[if_pos (show ((i:Int)<(s.size:Int)) by omega),if_pos (show 0≤(i:Int) by omega),gY s i (by omega),gO _ hc.1 hc.2,Option.bind_some,if_pos (show acc.length<140737488355328 by omega),cm i (by omega),← sw];have:=ih (i+1) (acc ++ [dN (ar s)[i]]) (by omega) (by simp;omega);rw[cT (ar s) i (by omega),List.map_cons];rw[List.append_assoc,List.singleton_append] at this;exact this
theorem nV (s:ByteArray) (hn:s.size<70368744177664):Ev (fun k=>dl.f k s) (eH s):=by
 have:=ou s hn s.size 0 [] (by omega) (by simp);rw[List.nil_append,List.drop_zero] at this;exact this
theorem dp {g:Nat→Option Bool} {p:Prop} [Decidable p] (h:¬p) (k:Ev g false):Ev g (decide p):=by
 rw[decide_eq_false h];exact k
theorem db {g:Nat→Option Bool} {p q:Prop} [Decidable p] [Decidable q] (h:p↔q) (k:Ev g (decide p)):Ev g (decide q):=by
 have:decide p=decide q:=decide_eq_decide.2 h;rw[← this];exact k
theorem sU {g:Nat→Option Bool} {p:Prop} [Decidable p] (h:p) (k:Ev g true):Ev g (decide p):=by
 rw[decide_eq_true h];exact k
theorem ju (l:List ByteArray) (j:Nat) (h:j<l.length):cZ ByteArray.empty l (j:Int)=l[j]:=eo _ l j h
open Classical in
theorem lE (s:ByteArray) (l:List ByteArray) (hl:l.length<100):∀(d i:Nat),i+d=l.length→Ev (fun k=>bP.l0 k s l (i:Int)) (decide (s∈l.drop i)):=by
 intro d;induction d with
 | zero=>
  intro i hi;refine Ev.step (fun k=>bP.l0.eq_2 _ _ _ _) ?_;simp only[if_neg (show ¬((i:Int)<(l.length:Int)) by omega)];refine dp (fun h=>?_) (Ev.now _);rw[List.drop_eq_nil_of_le (by omega)] at h;simp at h
 | succ d ih=>
  intro i hi;refine Ev.step (fun k=>bP.l0.eq_2 _ _ _ _) ?_;have e:=List.drop_eq_getElem_cons (l:=l) (i:=i) (by omega);simp only[if_pos (show ((i:Int)<(l.length:Int)) by omega),if_pos (show 0≤(i:Int) by omega),ju l i (by omega),cm i (by omega),toList_inj];by_cases h:l[i] = s
  ·simp only[if_pos h];exact sU (by rw[e,h];exact List.mem_cons_self ..) (Ev.now _)
  ·simp only[if_neg h];refine db ?_ (ih (i+1) (by omega));rw[e,List.mem_cons];exact⟨.inr,fun h2=>h2.resolve_left (fun h3=>h h3.symm)⟩
open Classical in
theorem ig (s:ByteArray):Ev (fun k=>bP.f k s) (decide (s∈cQ)):=by
 simp only[bP.f];exact lE s cQ (by decide) 6 0 rfl
open Classical in
theorem nT (x:ByteArray) (hx:x.size≤100) (b:Bool) (hb:b=true→1≤x.size):Ev (fun k=>bJ.j1 k x (x.size:Int) b) (fG (if b=true then x.extract 0 (x.size - 1) else x)):=by
 refine Ev.step (fun k=>bJ.j1.eq_2 _ _ _ _) ?_;cases b with
 | false=>
  simp only[if_neg (show ¬(false=true) by decide)];refine Ev.bind (ig x) ?_;unfold fG
  by_cases h:x∈cQ
  ·simp only[if_pos h,decide_eq_true h,if_true];exact Ev.now _
  ·simp only[if_neg h,decide_eq_false h,if_neg (show ¬(false=true) by decide)];exact Ev.now _
 | true=>
  have h1:=hb rfl;simp only[if_true,b8 (x:=(x.size:Int) - 1) (by omega) (by omega),if_pos (show 0≤(x.size:Int) - 1 by omega),if_pos (show (x.size:Int) - 1≤(x.size:Int) by omega),show ((x.size:Int) - 1).toNat=x.size - 1 by omega];refine Ev.bind (ig _) ?_;unfold fG
  by_cases h:x.extract 0 (x.size - 1)∈cQ
  ·simp only[if_pos h,decide_eq_true h,if_true];exact Ev.now _
  ·simp only[if_neg h,decide_eq_false h,if_neg (show ¬(false=true) by decide)];exact Ev.now _
theorem jA (x:ByteArray) (hx:x.size≤100):Ev (fun k=>bJ.j0 k x) (fG (noS x)):=by
 refine Ev.step (fun k=>bJ.j0.eq_2 _ _) ?_;have key:∀b:Bool,b=jC x→Ev (fun k=>bJ.j1 k x (x.size:Int) b) (fG (noS x)):=by
  intro b hb;have:=nT x hx b (fun h=>by
   rw[hb] at h;have:=(of_decide_eq_true h).1;omega)
  rw[hb] at this ⊢;exact this
 by_cases h3:(x.size:Int)>3
 ·simp only[if_pos h3,b8 (x:=(x.size:Int) - 1) (by omega) (by omega),b8 (x:=(x.size:Int) - 2) (by omega) (by omega),if_pos (show 0≤(x.size:Int) - 1 by omega),if_pos (show (x.size:Int) - 1<(x.size:Int) by omega),if_pos (show 0≤(x.size:Int) - 2 by omega),if_pos (show (x.size:Int) - 2<(x.size:Int) by omega)];by_cases h4:bt x ((x.size:Int) - 1)=115
  ·simp only[if_pos h4];refine key _ ?_;unfold jC
   by_cases h5:bt x ((x.size:Int) - 2)=115
   ·rw[decide_eq_false (fun h=>h.2.2 h5)];simp[h5]
   ·rw[decide_eq_true ⟨by omega,h4,h5⟩];simp[h5]
  ·simp only[if_neg h4];refine key _ ?_;unfold jC
   rw[decide_eq_false (fun h=>h4 h.2.1)]
 ·simp only[if_neg h3];refine key _ ?_;unfold jC
  rw[decide_eq_false (fun h=>by have:=h.1;omega)]
theorem qc (w:ByteArray) (h:12<w.size):gZ w=w.extract 0 12:=by unfold gZ;rw[Nat.min_eq_right (by omega)]
theorem oA (w:ByteArray):w.extract 0 w.size=w:=by
 apply ByteArray.ext
 rw[ByteArray.data_extract];exact Array.extract_size
theorem pC (w:ByteArray) (h:w.size≤12):gZ w=w:=by unfold gZ;rw[Nat.min_eq_left h];exact oA w
theorem extract_size (w:ByteArray) (n:Nat) (h:n≤w.size):(w.extract 0 n).size=n:=by rw[ByteArray.size_extract];omega
theorem jw (s:ByteArray) (hs:s.size<70368744177664):Ev (fun k=>bJ.f k s) (gU s):=by
 simp only[bJ.f];have hz:=lD s;refine Ev.bind (nV s hs) ?_;unfold gU
 by_cases h:((eH s).size:Int)>12
 ·simp only[if_pos h,if_pos (show (0:Int)≤12 by omega),if_pos (show (12:Int)≤((eH s).size:Int) by omega)];rw[qc _ (by omega)];exact jA _ (by rw[extract_size _ _ (by omega)];omega)
 ·simp only[if_neg h];rw[pC _ (by omega)];exact jA _ (by omega)
theorem mP (l:List S90) (hn:l.length≤1048578) (hs:∀w∈l,w.f0.size<70368744177664):∀(d i:Nat) (acc:List ByteArray),i+d=l.length→acc.length≤i →
  Ev (fun k=>cI.l0 k acc l (i:Int)) (acc ++ (l.drop i).map (fun w=>gU w.f0)):=by
 intro d;induction d with
 | zero=>
  intro i acc hi ha;refine Ev.step (fun k=>cI.l0.eq_2 _ _ _ _) ?_;simp only[if_neg (show ¬((i:Int)<(l.length:Int)) by omega)];rw[List.drop_eq_nil_of_le (by omega),List.map_nil,List.append_nil];exact Ev.now _
 | succ d ih=>
  intro i acc hi ha;refine Ev.step (fun k=>cI.l0.eq_2 _ _ _ _) ?_;simp only[if_pos (show ((i:Int)<(l.length:Int)) by omega),if_pos (show 0≤(i:Int) by omega),ks l i (by omega),cm i (by omega)];refine Ev.bind (jw _ (hs _ (List.getElem_mem (by omega)))) ?_;simp only[if_pos (show acc.length<8796093022208 by omega)];have:=ih (i+1) (acc ++ [gU l[i].f0]) (by omega) (by simp;omega);rw[cT l i (by omega),List.map_cons];rw[List.append_assoc] at this;exact this
theorem kS (s:ByteArray) (a b:Nat):(s.extract a b).size≤s.size:=by rw[ByteArray.size_extract];omega
theorem iN (s:ByteArray):∀w∈fh s,w.f0.size≤s.size:=by
 intro w hw;obtain⟨q,_,rfl⟩:=List.mem_map.1 hw;exact kS s _ _
theorem ij (c:Int) (h0:0≤c) (h1:c≤255):dT.f c=some (decide (gn c)):=by
 simp only[dT.f,gO c h0 h1,Option.bind_some];by_cases h:upP c
 ·have h':65≤c∧c≤90:=h;simp only[if_pos h,if_pos (show c+32≥97 by omega),if_pos (show c+32≤122 by omega)];congr 1;symm;exact decide_eq_true (.inl h)
 ·have h':¬(65≤c∧c≤90):=h;simp only[if_neg h];by_cases h2:c≥97
  ·simp only[if_pos h2];by_cases h3:c≤122
   ·simp only[if_pos h3];congr 1;symm;exact decide_eq_true (.inr (.inl ⟨h2,h3⟩))
   ·simp only[if_neg h3,if_pos (show c≥48 by omega)];congr 1;exact decide_eq_decide.2 ⟨fun h4=>.inr (.inr ⟨by omega,h4⟩),fun h4=>by rcases h4 with h4 | h4 | h4;exact absurd h4 h;exact absurd h4.2 h3;exact h4.2⟩
  ·simp only[if_neg h2];by_cases h3:c≥48
   ·simp only[if_pos h3];congr 1;exact decide_eq_decide.2 ⟨fun h4=>.inr (.inr ⟨by omega,h4⟩),fun h4=>by rcases h4 with h4 | h4 | h4;exact absurd h4 h;exact absurd h4.1 h2;exact h4.2⟩
   ·simp only[if_neg h3];congr 1;symm;exact decide_eq_false (fun h4=>by rcases h4 with h4 | h4 | h4;exact absurd h4 h;exact absurd h4.1 h2;exact absurd h4.1 h3)
theorem oy (s:ByteArray) (hn:s.size<1099511627776):∀(d:Nat),
  (∀(i:Nat) (acc:List S90),i+d=s.size→acc.length≤i→Ev (fun k=>bm.l0 k s acc (i:Int)) (acc ++ (cM i none ((ar s).drop i)).map (gD s))) ∧
  (∀(i j:Nat) (acc:List S90),i+d=s.size→j<i→acc.length≤j→Ev (fun k=>bm.l1 k s acc (j:Int) (i:Int)) (acc ++ (cM i (some j) ((ar s).drop i)).map (gD s))):=by
 have hb:=bX s;intro d;induction d with
 | zero=>
  have h0:∀(i:Nat) (acc:List S90),s.size≤i→Ev (fun k=>bm.l0 k s acc (i:Int)) acc:=by
   intro i acc hi;refine Ev.step (fun k=>bm.l0.eq_2 _ _ _ _) ?_;simp only[if_neg (show ¬((i:Int)<(s.size:Int)) by omega)];exact Ev.now _
  constructor
  ·intro i acc hi hacc;rw[List.drop_of_length_le (by omega)];simpa [cM] using h0 i acc (by omega)
  ·intro i j acc hi hj hacc;rw[List.drop_of_length_le (by omega)];refine Ev.step (fun k=>bm.l1.eq_2 _ _ _ _ _) ?_;simp only[if_neg (show ¬((i:Int)<(s.size:Int)) by omega),if_neg (show ¬(i:Int)=(j:Int) by omega),if_pos (show 0≤(j:Int) by omega),if_pos (show (j:Int)≤(i:Int) by omega),if_pos (show (i:Int)≤(s.size:Int) by omega),if_pos (show acc.length<4398046511104 by omega),dM];exact h0 i _ (by omega)
 | succ d ih=>
  have hr:∀c∈ar s,0≤c∧c≤255:=fw s;have hstep:∀(i:Nat) (acc:List S90),i+(d+1)=s.size→acc.length≤i→Ev (fun k=>bm.l0 k s acc (i:Int)) (acc ++ (cM i none ((ar s).drop i)).map (gD s)):=by
   intro i acc hi hacc;have hc:=hr (ar s)[i] (List.getElem_mem _);refine Ev.step (fun k=>bm.l0.eq_2 _ _ _ _) ?_;simp only[if_pos (show ((i:Int)<(s.size:Int)) by omega)];refine Ev.step (fun k=>bm.l1.eq_2 _ _ _ _ _) ?_;simp only[if_pos (show ((i:Int)<(s.size:Int)) by omega),if_pos (show 0≤(i:Int) by omega),gY s i (by omega),ij _ hc.1 hc.2,Option.bind_some,decide_eq_true_eq,cm i (by omega),if_true];rw[cT (ar s) i (by omega)];by_cases hw:gn (ar s)[i]
   ·simp only[if_pos hw,cM];exact ih.2 (i+1) i acc (by omega) (by omega) (by omega)
   ·simp only[if_neg hw,cM];exact ih.1 (i+1) acc (by omega) (by omega)
  refine⟨hstep,?_⟩;intro i j acc hi hj hacc;have hc:=hr (ar s)[i] (List.getElem_mem _);refine Ev.step (fun k=>bm.l1.eq_2 _ _ _ _ _) ?_;simp only[if_pos (show ((i:Int)<(s.size:Int)) by omega),if_pos (show 0≤(i:Int) by omega),gY s i (by omega),ij _ hc.1 hc.2,Option.bind_some,decide_eq_true_eq,cm i (by omega)];have hd:=cT (ar s) i (by omega);by_cases hw:gn (ar s)[i]
  ·rw[hd];simp only[if_pos hw,cM];exact ih.2 (i+1) j acc (by omega) (by omega) (by omega)
  ·simp only[if_neg hw,if_neg (show ¬(i:Int)=(j:Int) by omega),if_pos (show 0≤(j:Int) by omega),if_pos (show (j:Int)≤(i:Int) by omega),if_pos (show (i:Int)≤(s.size:Int) by omega),if_pos (show acc.length<4398046511104 by omega),dM];have:=hstep i (acc ++ [gD s (j,i)]) hi (by simp;omega);rw[hd] at this ⊢;simp only[cM,if_neg hw,List.append_assoc] at this ⊢;exact this
theorem m7 (s:ByteArray) (hn:s.size<1099511627776):Ev (fun k=>bm.f k s) (fh s):=by
 have:=(oy s hn s.size).1 0 [] (by omega) (by simp);rw[List.nil_append,List.drop_zero] at this;exact this
theorem mq:∀(l:List Int) (p:Nat) (o:Option Nat),(cM p o l).length≤l.length+(if o.isSome then 1 else 0):=by
 intro l;induction l with
 | nil=>intro p o;cases o <;> simp[cM]
 | cons c cs ih=>
  intro p o;cases o with
  | none=>
   by_cases h:gn c
   ·simp only[cM,if_pos h];have:=ih (p+1) (some p);simp at this ⊢;omega
   ·simp only[cM,if_neg h];have:=ih (p+1) none;simp at this ⊢;omega
  | some st=>
   by_cases h:gn c
   ·simp only[cM,if_pos h];have:=ih (p+1) (some st);simp at this ⊢;omega
   ·simp only[cM,if_neg h];have:=ih (p+1) none;simp at this ⊢;omega
theorem er (s:ByteArray):(fh s).length≤s.size:=by
 unfold fh
 rw[List.length_map];have:=mq (ar s) 0 none;rw[bX] at this;simpa using this
theorem iS (s:ByteArray) (hs:s.size≤1048578):Ev (fun k=>cI.f k s) (dg s):=by
 simp only[cI.f];have hl:=er s;refine Ev.bind (m7 s (by omega)) ?_;exact mP (fh s) (by omega) (fun w hw=>by have:=iN s w hw;omega) (fh s).length 0 [] (by omega) (by simp)
theorem gi (s:ByteArray):(dg s).length=(fh s).length:=List.length_map ..
theorem gK {n:ByteArray} : ∀ {F:List S92},(∀x∈F,x.f0≠n)→ec n F=(⟨#[]⟩,0,0)
 | [],_=>rfl
 | f :: F,h=>by
  rw[ec,if_neg (h f (by simp))];exact gK (fun x hx=>h x (List.mem_cons_of_mem _ hx))
theorem gH {n:ByteArray} : ∀ {F:List S92} {j:Nat} (hj:j<F.length),F[j].f0=n→(∀m (hm:m<j),F[m].f0≠n)→ec n F=(F[j].f0,F[j].f1,F[j].f2)
 | [],_,hj,_,_=>by simp at hj
 | f :: F,0,_,h,_=>by
  rw[ec];have h':f.f0=n:=h;rw[if_pos h'];rfl
 | f :: F,j+1,hj,h,hb=>by
  have h0:f.f0≠n:=hb 0 (by omega);rw[ec,if_neg h0];exact gH (F:=F) (j:=j) (by simpa using hj) (by simpa using h) (fun m hm=>by have:=hb (m+1) (by omega);simpa using this)
theorem gR (F:List S92) (hF:F.length≤1048576) (n:ByteArray):Ev (fun k=>d6.f k F n 1) (dc F n == 1):=by
 simp only[d6.f];obtain⟨r,hr,hq⟩:=eL F n (by omega);refine Ev.bind hr ?_;rcases hq with ⟨rfl,h⟩ | ⟨j,hj,rfl,h1,h2⟩
 ·simp only[if_neg (show ¬((-1:Int)≥0) by omega),dc,gK h];exact Ev.now _
 ·simp only[if_pos (show ((j:Int)≥0) by omega),if_pos (show (0:Int)≤(j:Int) by omega),if_pos (show ((j:Int)<(F.length:Int)) by omega),eA F j hj,dc,gH hj h1 h2];exact Ev.now _
theorem sB (ps:List S50) (id x:Int):ey ps id x ≠ []:=by
 unfold ey
 cases hl:ps.getLast? with
 | none=>simp
 | some q=>
  simp only;split
  ·intro h;have:=congrArg List.length h;rw[List.length_set] at this;have h2:ps = []:=List.eq_nil_of_length_eq_zero this;rw[h2] at hl;simp at hl
  ·simp
theorem lm {c:Nat} {p:ByteArray × ByteArray} {id x:Int} : ∀ {l:List S76},(∀e∈l,e.f2 ≠ [] ∧ LenP c e.f2)→(d8 p id x l).length≤l.length+1∧∀e∈d8 p id x l,e.f2 ≠ [] ∧ LenP (c+1) e.f2
 | [],_=>by
  rw[d8];exact⟨by simp,fun e he=>by rw[List.mem_singleton] at he;rw[he];exact⟨by simp[il],by simp[il,LenP]⟩⟩
 | y :: l,h=>by
  have hw:∀e∈l,e.f2 ≠ [] ∧ LenP (c+1) e.f2:=fun e he=>by
   have:=h e (List.mem_cons_of_mem _ he);exact⟨this.1,by have:=this.2.1;omega,fun q hq=>by have:=this.2.2 q hq;omega⟩
  have hy:=h y (by simp);have hy2:y.f2 ≠ [] ∧ LenP (c+1) y.f2:=⟨hy.1,by have:=hy.2.1;omega,fun q hq=>by have:=hy.2.2 q hq;omega⟩;rw[d8];split
  ·have ih:=lm (c:=c) (p:=p) (id:=id) (x:=x) (l:=l) (fun e he=>h e (List.mem_cons_of_mem _ he));refine⟨by simp;exact ih.1,fun e he=>?_⟩;rcases List.mem_cons.1 he with he | he
   ·rw[he];exact hy2
   ·exact ih.2 e he
  ·split
   ·refine⟨by simp,fun e he=>?_⟩;rcases List.mem_cons.1 he with he | he
    ·rw[he];exact⟨sB _ _ _,LenP.step hy.2 id x⟩
    ·exact hw e he
   ·refine⟨by simp,fun e he=>?_⟩;rcases List.mem_cons.1 he with he | he
    ·rw[he];exact⟨by simp[il],by simp[il,LenP]⟩
    ·rcases List.mem_cons.1 he with he | he
     ·rw[he];exact hy2
     ·exact hw e he
theorem qh {c:Nat} {l:List S76} (h:ee c l) (p:ByteArray × ByteArray) (id x:Int):ee (c+1) (d8 p id x l):=by
 have:=lm (c:=c) (p:=p) (id:=id) (x:=x) h.2;exact⟨by have:=h.1;omega,this.2⟩
theorem el:∀(x y:List UInt8),Op.bytesLess x y=decide (x<y)
 | [],[]=>by simp[Op.bytesLess]
 | _ :: _,[]=>by simp[Op.bytesLess]
 | [],_ :: _=>by simp[Op.bytesLess]
 | a :: x,b :: y=>by
  rw[Op.bytesLess,el x y];simp only[List.cons_lt_cons_iff];by_cases h1:a<b <;> by_cases h2:a=b <;> by_cases h3:x<y <;> simp[h1,h2,h3]
theorem fk (l:List S76) (j:Nat) (h:j<l.length):aj l (j:Int)=l[j]:=by
 unfold aj;simp[List.getD_eq_getElem?_getD,List.getElem?_eq_getElem h]
theorem tb (l:List S76) (p:ByteArray × ByteArray) (id x:Int) (hn:l.length≤1099511627776):∀(d i:Nat),i+d=l.length →
  ∃(j:Nat) (b:Bool),Ev (fun k=>bg.l0 k l p.1 p.2 (i:Int)) ((j:Int),b)∧i≤j∧j≤l.length∧(b=true→∃h:j<l.length,d8 p id x (l.drop i)=(l.drop i).set (j - i) (j4 id x l[j])) ∧
   (b=false→d8 p id x (l.drop i)=(l.drop i).take (j - i) ++ [il p id x] ++ l.drop j):=by
 intro d;induction d with
 | zero=>
  intro i hi;refine⟨i,false,Ev.step (fun k=>bg.l0.eq_2 _ _ _ _ _) ?_,Nat.le_refl _,by omega,fun h=>(by cases h),fun _=>?_⟩
  ·simp only[if_neg (show ¬((i:Int)<(l.length:Int)) by omega)];exact Ev.now _
  ·rw[List.drop_eq_nil_of_le (by omega),d8];simp
 | succ d ih=>
  intro i hi;have hil:i<l.length:=by omega
  have hlt:ltP (b9 l[i]) p↔(l[i].f0.toList<p.1.toList∨l[i].f0.toList=p.1.toList∧l[i].f1.toList<p.2.toList):=Iff.rfl;have next:ltP (b9 l[i]) p→∃(j:Nat) (b:Bool),Ev (fun k=>bg.l0 k l p.1 p.2 ((i+1:Nat):Int)) ((j:Int),b)∧i≤j∧j≤l.length∧(b=true→∃h:j<l.length,d8 p id x (l.drop i)=(l.drop i).set (j - i) (j4 id x l[j])) ∧
   (b=false→d8 p id x (l.drop i)=(l.drop i).take (j - i) ++ [il p id x] ++ l.drop j):=by
   intro h;obtain⟨j,b,h1,h2,h3,h4,h5⟩:=ih (i+1) (by omega);have e1:d8 p id x (l.drop i)=l[i] :: d8 p id x (l.drop (i+1)):=by rw[cT l i hil,d8,if_pos h]
   have e2:j - i=(j - (i+1))+1:=by omega
   refine⟨j,b,h1,by omega,h3,fun hb=>?_,fun hb=>?_⟩
   ·obtain⟨hj,h4⟩:=h4 hb;exact⟨hj,by rw[e1,h4,e2,cT l i hil,List.set_cons_succ]⟩
   ·rw[e1,h5 hb,e2,cT l i hil,List.take_succ_cons];rfl
  have stop:∀b:Bool,¬ltP (b9 l[i]) p→(b=true↔b9 l[i] = p)→∃(j:Nat) (b':Bool),Ev (fun _:Nat=>some ((i:Int),b)) ((j:Int),b')∧i≤j∧j≤l.length∧(b'=true→∃h:j<l.length,d8 p id x (l.drop i)=(l.drop i).set (j - i) (j4 id x l[j])) ∧
   (b'=false→d8 p id x (l.drop i)=(l.drop i).take (j - i) ++ [il p id x] ++ l.drop j):=by
   intro b h hb;refine⟨i,b,Ev.now _,Nat.le_refl _,by omega,fun hb'=>⟨hil,?_⟩,fun hb'=>?_⟩
   ·rw[Nat.sub_self,cT l i hil,d8,if_neg h,if_pos (hb.1 hb'),List.set_cons_zero]
   ·have hk:b9 l[i] ≠ p:=fun hk=>by rw[hb.2 hk] at hb';cases hb'
    rw[Nat.sub_self,cT l i hil,d8,if_neg h,if_neg hk,List.take_zero];rfl
  have lift:∀ {g:Nat→Option (Int × Bool)},(∃(j:Nat) (b:Bool),Ev g ((j:Int),b)∧i≤j∧j≤l.length∧(b=true→∃h:j<l.length,d8 p id x (l.drop i)=(l.drop i).set (j - i) (j4 id x l[j])) ∧
   (b=false→d8 p id x (l.drop i)=(l.drop i).take (j - i) ++ [il p id x] ++ l.drop j))→(∀k,bg.l0 (k+1) l p.1 p.2 (i:Int)=g k)→∃(j:Nat) (b:Bool),Ev (fun k=>bg.l0 k l p.1 p.2 (i:Int)) ((j:Int),b)∧i≤j∧j≤l.length∧(b=true→∃h:j<l.length,d8 p id x (l.drop i)=(l.drop i).set (j - i) (j4 id x l[j])) ∧
   (b=false→d8 p id x (l.drop i)=(l.drop i).take (j - i) ++ [il p id x] ++ l.drop j):=by
   intro g ⟨j,b,h1,h2⟩ he;exact⟨j,b,Ev.step he h1,h2⟩
  have hgo:∀k,bg.l0 (k+1) l p.1 p.2 (i:Int)=if Op.bytesLess l[i].f0.toList p.1.toList=true then bg.l0 k l p.1 p.2 ((i+1:Nat):Int) else if l[i].f0.toList=p.1.toList then if Op.bytesLess l[i].f1.toList p.2.toList=true then bg.l0 k l p.1 p.2 ((i+1:Nat):Int) else some ((i:Int),l[i].f1.toList == p.2.toList) else some ((i:Int),false):=by
   intro k;rw[bg.l0.eq_2];simp only[if_pos (show ((i:Int)<(l.length:Int)) by omega),if_pos (show 0≤(i:Int) by omega),fk l i hil,cm i (by omega)]
  by_cases c1:l[i].f0.toList<p.1.toList
  ·refine lift (next (hlt.2 (.inl c1))) (fun k=>?_);rw[hgo k,if_pos (by rw[el];exact decide_eq_true c1)]
  ·by_cases c2:l[i].f0.toList=p.1.toList
   ·by_cases c3:l[i].f1.toList<p.2.toList
    ·refine lift (next (hlt.2 (.inr ⟨c2,c3⟩))) (fun k=>?_);rw[hgo k,if_neg (by rw[el];simpa using c1),if_pos c2,if_pos (by rw[el];exact decide_eq_true c3)]
    ·refine lift (stop (l[i].f1.toList == p.2.toList) (fun h=>?_) ?_) (fun k=>?_)
     ·rcases hlt.1 h with h | h
      ·exact c1 h
      ·exact c3 h.2
     ·rw[beq_iff_eq];constructor
      ·intro h;exact Prod.ext (toList_inj.1 c2) (toList_inj.1 h)
      ·intro h;rw[← h];rfl
     ·rw[hgo k,if_neg (by rw[el];simpa using c1),if_pos c2,if_neg (by rw[el];simpa using c3)]
   ·refine lift (stop false (fun h=>?_) ⟨fun h=>(by cases h),fun h=>absurd (by rw[← h];rfl) c2⟩) (fun k=>?_)
    ·rcases hlt.1 h with h | h
     ·exact c1 h
     ·exact c2 h.1
    ·rw[hgo k,if_neg (by rw[el];simpa using c1),if_neg c2]
theorem lJ (l:List S76) (p:ByteArray × ByteArray) (id x:Int) (hg:ee 999999 l):Ev (fun k=>cz.f k l p.1 p.2 id x) (d8 p id x l):=by
 have hlen:=hg.1;obtain⟨j,b,h1,_,h2,h3,h4⟩:=tb l p id x (by omega) l.length 0 (by omega);simp only[List.drop_zero,Nat.sub_zero] at h3 h4;have h1':Ev (fun k=>bg.f k l p.1 p.2) ((j:Int),b):=by simpa [bg.f] using h1
 simp only[cz.f];refine Ev.bind h1' ?_;cases b with
 | true=>
  obtain⟨hj,h3⟩:=h3 rfl;have he:=hg.2 l[j] (List.getElem_mem hj);have hw:wide l[j].f2=true:=by
   unfold wide
   rw[Bool.and_eq_true,decide_eq_true_eq,List.all_eq_true];exact⟨by have:=he.2.1;omega,fun q hq=>by have:=he.2.2 q hq;exact decide_eq_true (by omega)⟩
  simp only[if_true,dM,List.getElem?_eq_getElem hj];rw[h3];rw[if_pos ⟨by omega,he.1,hw⟩];exact Ev.now _
 | false=>
  simp only[if_neg (show ¬(false=true) by decide),dM];rw[h4 rfl,if_pos ⟨by omega,by omega,by omega⟩];exact Ev.now _
theorem ez (id:Int) (name:ByteArray):∀(ts:List ByteArray) (x:Int) (L:List S76) (c:Nat),ee c L→c+ts.length≤1000000 →
  Ev (fun k=>b6.ts k id name ts x L) (gj id name ts x L)∧ee (c+ts.length) (gj id name ts x L)
 | [],x,L,c,h,hc=>⟨fS (fun k=>rfl),by simpa [gj] using h⟩
 | t :: ts,x,L,c,h,hc=>by
  rw[List.length_cons] at hc;rw[gj];by_cases ht:t.size=0
  ·rw[if_pos ht];have ih:=ez id name ts (x+1) L (c+1) (dK h (by omega)) (by omega);refine⟨?_,by have:=ih.2;rw[List.length_cons];rw[show c+1+ts.length=c+(ts.length+1) by omega] at this;exact this⟩;simp only[b6.ts,if_pos ht];exact ih.1
  ·rw[if_neg ht];have ih:=ez id name ts (x+1) (d8 (name,t) id x L) (c+1) (qh h _ _ _) (by omega);refine⟨?_,by have:=ih.2;rw[List.length_cons];rw[show c+1+ts.length=c+(ts.length+1) by omega] at this;exact this⟩;simp only[b6.ts,if_neg ht];exact Ev.bind (lJ L (name,t) id x (dK h (by omega))) ih.1
set_option maxRecDepth 20000 in
theorem ov (F:List S92) (hF:F.length≤1048576) (id:Int):∀(cs:List S86) (L:List S76) (n:Nat),ee n L→(∀x∈cs,x.f0.size≤1000000∧x.f1.size≤1000)→n+cs.length*1000≤1000000 →
  Ev (fun k=>b6.cs k F id cs L) (lX F id cs L)∧ee (n+cs.length*1000) (lX F id cs L)
 | [],L,n,hg,_,_=>⟨fS (fun k=>rfl),dK hg (by omega)⟩
 | c :: cs,L,n,hg,hs,hc=>by
  rw[List.length_cons] at hc ⊢;have hsc:=hs c (by simp);have hst:=fun x hx=>hs x (List.mem_cons_of_mem _ hx)
  simp only[b6.cs,lX];have hk:=gR F hF c.f0;by_cases h1:dc F c.f0=1
  ·rw[if_pos h1];have hlen:(dg c.f1).length≤1000:=by rw[gi];have:=er c.f1;omega
   obtain⟨hw1,hw2⟩:=ez id c.f0 (dg c.f1) 0 L n hg (by omega);obtain⟨e1,e2⟩:=ov F hF id cs _ (n+1000) (dK hw2 (by omega)) hst (by omega);refine⟨Ev.bind hk ?_,dK e2 (by omega)⟩;simp only[h1,beq_self_eq_true,if_true];refine Ev.bind (iS c.f1 (by omega)) ?_;exact Ev.bind hw1 e1
  ·rw[if_neg h1];obtain⟨e1,e2⟩:=ov F hF id cs L n hg hst (by omega);refine⟨Ev.bind hk ?_,dK e2 (by omega)⟩;rw[beq_eq_false_iff_ne.2 h1];simp only[if_neg (show ¬(false=true) by decide)];exact e1
set_option maxRecDepth 20000 in
theorem oO (F:List S92) (hF:F.length≤1048576):∀(rs:List S46) (L:List S76) (n:Nat),ee n L→(∀r∈rs,r.f1.f1.length≤5∧∀x∈r.f1.f1,x.f0.size≤1000000∧x.f1.size≤1000)→n+rs.length*5000≤1000000 →
  Ev (fun k=>bn.rs k F rs L) (ei F rs L)∧ee (n+rs.length*5000) (ei F rs L)
 | [],L,n,hg,_,_=>⟨fS (fun k=>rfl),dK hg (by omega)⟩
 | r :: rs,L,n,hg,hs,hc=>by
  rw[List.length_cons] at hc ⊢;have hsr:=hs r (by simp);obtain⟨e1,e2⟩:=ov F hF r.f0 r.f1.f1 L n hg hsr.2 (by omega);obtain⟨d1,d2⟩:=oO F hF rs _ (n+5000) (dK e2 (by omega)) (fun x hx=>hs x (List.mem_cons_of_mem _ hx)) (by omega);simp only[bn.rs,ei];exact⟨Ev.bind e1 d1,dK d2 (by omega)⟩
theorem nX (F:List S92) (hF:F.length≤1048576) (rs:List S46) (hs:∀r∈rs,r.f1.f1.length≤5∧∀x∈r.f1.f1,x.f0.size≤1000000∧x.f1.size≤1000) (hc:rs.length≤9) :
  Ev (fun k=>bn.f k F rs) (ei F rs [])∧ee 45000 (ei F rs []):=by
 obtain⟨h1,h2⟩:=oO F hF rs [] 0 ⟨Nat.le_refl _,fun e he=>by cases he⟩ hs (by omega);exact⟨by simp only[bn.f];exact h1,dK h2 (by omega)⟩
theorem qg (F:List S92) (hF:F.length≤1000) (R:List S46) (hl:R.length≤9) (ho:eM 5 R) (n:Int):∀(d i:Nat),i+d=R.length→Ev (fun k=>a6.l0 k R (i:Int) F (R.take i) n) (F,R,ei F R [],n):=by
 intro d;induction d with
 | zero=>
  intro i hi;refine Ev.step (fun k=>a6.l0.eq_2 _ _ _ _ _ _) ?_;simp only[if_neg (show ¬((i:Int)<(R.length:Int)) by omega)];rw[List.take_of_length_le (by omega)];obtain⟨h1,_⟩:=nX F (by omega) R (fun r hr=>⟨(ho r hr).2.1,fun x hx=>by have:=(ho r hr).2.2 x hx;omega⟩) hl;exact Ev.bind h1 (Ev.now _)
 | succ d ih=>
  intro i hi;have hil:i<R.length:=by omega
  have h0:=(ho R[i] (List.getElem_mem hil)).2.1;refine Ev.step (fun k=>a6.l0.eq_2 _ _ _ _ _ _) ?_;have ht:(R.take i).length=i:=by rw[List.length_take];omega
  simp only[if_pos (show ((i:Int)<(R.length:Int)) by omega),if_pos (show 0≤(i:Int) by omega),fx R i hil,Option.bind_some,List.length_nil,Nat.zero_add,List.nil_append,ht,if_pos (show R[i].f1.f1.length<4398046511104 by omega),if_pos (show i<2932031007402 by omega),cm i (by omega)];have:=ih (i+1) (by omega);rw[List.take_succ_eq_append_getElem hil] at this;exact this
theorem mw (F:List S92) (hF:F.length≤1000) (R:List S46) (hl:R.length≤9) (ho:eM 5 R) (n:Int):Ev (fun k=>a6.f k F R n) (F,R,ei F R [],n):=by
 simp only[a6.f,Option.bind_some,List.length_nil,Nat.zero_add,List.nil_append,if_pos (show F.length<4398046511104 by omega)];exact qg F hF R hl ho n R.length 0 (by omega)
theorem f7 {c:Nat} {l:List S46} (h:eM c l) {r:S46} (hr:r.f1.f0.size≤400∧r.f1.f1.length≤c∧dY r.f1.f1):eM c (l ++ [r]):=by
 intro x hx;rcases List.mem_append.1 hx with hx | hx
 ·exact h x hx
 ·rw[List.mem_singleton.1 hx];exact hr
theorem o9 (s:List Int) (F:List S92) (hF:F.length≤1000) (p:Int):∀(d:Nat) (R:List S46) (id:Int) (i:Nat),i+d=8→R.length=i→eM 5 R →
  ∃R' n,Ev (fun k=>aI.l1 k F R id (i:Int) s p) (F,R',ei F R' [],n,p)∧R'.length≤8∧eM 5 R':=by
 intro d;induction d with
 | zero=>
  intro R id i hi hl ho;refine⟨R,id,Ev.step (fun k=>aI.l1.eq_2 _ _ _ _ _ _ _) ?_,by omega,ho⟩;simp only[if_neg (show ¬((i:Int)<8) by omega)];exact Ev.bind (mw F hF R (by omega) ho id) (Ev.now _)
 | succ d ih=>
  intro R id i hi hl ho;obtain⟨R',n,h1,h2,h3⟩:=ih (R ++ [⟨id,⟨(⟨#[122]⟩:ByteArray) ++ kU i,[]⟩⟩]) (wrap64 (id+1)) (i+1) (by omega) (by simp;omega) (f7 ho ⟨by
   have:=gJ i (by omega);show ((⟨#[122]⟩:ByteArray) ++ kU i).size≤400
   rw[ByteArray.size_append];have e:(⟨#[122]⟩:ByteArray).size=1:=rfl;omega,Nat.zero_le _,fun c hc=>by cases hc⟩)
  refine⟨R',n,Ev.step (fun k=>aI.l1.eq_2 _ _ _ _ _ _ _) ?_,h2,h3⟩;simp only[if_pos (show ((i:Int)<8) by omega)];refine Ev.bind (mI i (by omega)) ?_;have:=gJ i (by omega);simp only[if_pos (show 1+(kU i).size≤9223372036854775807 by omega),Option.bind_some,List.length_singleton,if_pos (show R.length+1<2932031007402 by omega),cm i (by omega)];exact h1
theorem ox (c:Nat) (l:List S46) (key:ByteArray) (hl:l.length≤100) (ho:eM c l):∀(d i:Nat) (acc:List S46),i+d=l.length→acc.length≤i→eM c acc →
  ∃r,Ev (fun k=>br.l0 k l key acc (i:Int)) r∧r.length≤l.length∧eM c r:=by
 intro d;induction d with
 | zero=>
  intro i acc hi ha hc;refine⟨acc,Ev.step (fun k=>br.l0.eq_2 _ _ _ _ _) ?_,by omega,hc⟩;simp only[if_neg (show ¬((i:Int)<(l.length:Int)) by omega)];exact Ev.now _
 | succ d ih=>
  intro i acc hi ha hc;have hil:i<l.length:=by omega
  by_cases h:l[i].f1.f0.toList=key.toList
  ·obtain⟨r,h1,h2,h3⟩:=ih (i+1) acc (by omega) (by omega) hc;refine⟨r,Ev.step (fun k=>br.l0.eq_2 _ _ _ _ _) ?_,h2,h3⟩;simp only[if_pos (show ((i:Int)<(l.length:Int)) by omega),if_pos (show 0≤(i:Int) by omega),fx l i hil,if_pos h,cm i (by omega)];exact h1
  ·obtain⟨r,h1,h2,h3⟩:=ih (i+1) (acc ++ [⟨l[i].f0,⟨l[i].f1.f0,l[i].f1.f1⟩⟩]) (by omega) (by simp;omega) (f7 hc (ho l[i] (List.getElem_mem hil)));refine⟨r,Ev.step (fun k=>br.l0.eq_2 _ _ _ _ _) ?_,h2,h3⟩;simp only[if_pos (show ((i:Int)<(l.length:Int)) by omega),if_pos (show 0≤(i:Int) by omega),fx l i hil,if_neg h,if_pos (show acc.length<2932031007402 by omega),cm i (by omega)];exact h1
theorem oF (c:Nat) (l:List S46) (key:ByteArray) (hl:l.length≤100) (ho:eM c l):∃r,Ev (fun k=>br.f k l key) r∧r.length≤l.length∧eM c r:=by
 obtain⟨r,h1,h2⟩:=ox c l key hl ho l.length 0 [] (by omega) (by simp) (fun r hr=>by cases hr);exact⟨r,by simp only[br.f];exact h1,h2⟩
theorem o6 (s:List Int) (hs:CodeOk s) (F:List S92) (hF:F.length≤1000):∀(m:Nat) (R:List S46) (id p:Int),R.length+m≤5→eM 5 R→0≤p→p+300*m≤500000 →
  ∃R' n q,Ev (fun k=>aI.l0 k F R id (m:Int) s p) (F,R',ei F R' [],n,q)∧p≤q∧q≤p+300*m+1∧R'.length≤8∧eM 5 R':=by
 intro m;induction m with
 | zero=>
  intro R id p hR ho h0 h1;obtain⟨x,hx,x0,x1⟩:=dU s hs p 30 h0 (by omega) (by omega) (by omega);by_cases hz:x=0
  ·obtain⟨R',n,e1,e2,e3⟩:=o9 s F hF (p+1) (8 - R.length) R id R.length (by omega) rfl ho;refine⟨R',n,p+1,Ev.step (fun k=>aI.l0.eq_2 _ _ _ _ _ _ _) ?_,by omega,by omega,e2,e3⟩;simp only[if_neg (show ¬(((0:Nat):Int)>0) by omega)];refine Ev.bind hx ?_;simp only[if_pos hz];exact e1
  ·refine⟨R,id,p+1,Ev.step (fun k=>aI.l0.eq_2 _ _ _ _ _ _ _) ?_,by omega,by omega,by omega,ho⟩;simp only[if_neg (show ¬(((0:Nat):Int)>0) by omega)];refine Ev.bind hx ?_;simp only[if_neg hz];exact Ev.bind (mw F hF R (by omega) ho id) (Ev.now _)
 | succ m ih=>
  intro R id p hR ho h0 h1;obtain⟨key,cs,q,hd,d1,d2,d3,d4,d5⟩:=nh s hs F hF p h0 (by omega);obtain⟨R1,hw,w1,w2⟩:=oF 5 R key (by omega) ho;obtain⟨x,hx,x0,x1⟩:=dU s hs q 2 (by omega) (by omega) (by omega) (by omega);obtain⟨R',n,q',e1,e2,e3,e4,e5⟩:=ih (R1 ++ [⟨id,⟨key,cs⟩⟩]) (wrap64 (wrap64 (id+1)+x)) (q+1) (by simp;omega) (f7 w2 ⟨by show key.size≤400;omega,by show cs.length≤5;omega,d5⟩) (by omega) (by omega);refine⟨R',n,q',Ev.step (fun k=>aI.l0.eq_2 _ _ _ _ _ _ _) ?_,by omega,by omega,e4,e5⟩;simp only[if_pos (show (((m+1:Nat):Int)>0) by omega)];refine Ev.bind hd ?_;refine Ev.bind hw ?_;simp only[Option.bind_some,List.length_singleton,if_pos (show R1.length+1<2932031007402 by omega)];refine Ev.bind hx ?_;rw[qC m (by omega)];exact e1
theorem pG (s:List Int) (hs:CodeOk s) (p:Int) (hp:0≤p) (hp1:p≤400000) :
  ∃F R n q,Ev (fun k=>aI.f k s p) (F,R,ei F R [],n,q)∧p≤q∧q≤p+2000∧ia 4 F∧R.length≤8∧eM 5 R:=by
 obtain⟨F,hF,f1,_⟩:=jK s hs p hp (by omega);obtain⟨x,hx,_,_⟩:=dU s hs (p+1) 2 (by omega) (by omega) (by omega) (by omega);obtain⟨y,hy,y0,y1⟩:=dU s hs (p+1+1) 6 (by omega) (by omega) (by omega) (by omega);obtain⟨m,rfl⟩:∃m:Nat,y=(m:Int):=⟨y.toNat,by omega⟩;obtain⟨R,n,q,e1,e2,e3,e4,e5⟩:=o6 s hs F (by have:=f1.1;omega) m [] x (p+1+1+1) (by simp;omega) (fun r hr=>by cases hr) (by omega) (by omega);refine⟨F,R,n,q,?_,by omega,by omega,f1,e4,e5⟩;simp only[aI.f];refine Ev.bind hF ?_;refine Ev.bind hx ?_;exact Ev.bind hy e1
theorem lY (s:List Int) (hs:CodeOk s) (p:Int) (hp:0≤p) (hp1:p≤300000) :
  ∃F R E n q,Ev (fun k=>bx.f k s p) (F,R,E,n,q)∧p≤q∧q≤p+3000∧qe F R E:=by
 obtain⟨F,R,n,q,h1,h2,h3,h4,h5,h6⟩:=pG s hs p hp (by omega);have hg:=(nX F (by have:=h4.1;omega) R (fun r hr=>⟨(h6 r hr).2.1,fun x hx=>by have:=(h6 r hr).2.2 x hx;omega⟩) (by omega)).2;have h4':=oP h4 (show 4≤5 by omega);have hd:qe F R (ei F R []):=⟨h4',by omega,h6,hg⟩;obtain⟨x,hx,x0,x1⟩:=dU s hs q 16 (by omega) (by omega) (by omega) (by omega);simp only[bx.f];by_cases c0:x=0
 ·obtain⟨y,hy,_⟩:=sE s hs (q+1) [0,-1,999999999] (by omega) (by omega) (by decide) (by decide);refine⟨F,R,ei F R [],y,q+1+1,Ev.bind h1 (Ev.bind hx ?_),by omega,by omega,hd⟩;simp only[if_pos c0];exact Ev.bind hy (Ev.now _)
 by_cases c1:x=1
 ·by_cases c2:((ei F R []).length:Int)>0
  ·refine⟨F,R,(ei F R []).drop 1,n,q+1,Ev.bind h1 (Ev.bind hx ?_),by omega,by omega,h4',by omega,h6,pV hg 1⟩;simp only[if_neg c0,if_pos c1,if_pos c2,if_pos (show 1≤((ei F R []).length:Int) by omega)];exact Ev.now _
  ·refine⟨F,R,ei F R [],n,q+1,Ev.bind h1 (Ev.bind hx ?_),by omega,by omega,hd⟩;simp only[if_neg c0,if_pos c1,if_neg c2];exact Ev.now _
 by_cases c3:x=2
 ·obtain⟨key,cs,q',hy,d1,d2,d3,d4,d5⟩:=oo s hs F (by have:=h4.1;omega) (q+1) (by omega) (by omega);refine⟨F,R ++ [⟨n,⟨key,cs⟩⟩],ei F R [],n,q',Ev.bind h1 (Ev.bind hx ?_),by omega,by omega,h4',by simp;omega,f7 h6 ⟨by show key.size≤400;omega,d4,d5⟩,hg⟩;simp only[if_neg c0,if_neg c1,if_pos c3];refine Ev.bind hy ?_;simp only[if_pos (show R.length<2932031007402 by omega)];exact Ev.now _
 by_cases c4:x=3
 ·obtain⟨F',q',hy,d1,d2,d3⟩:=kT s hs (q+1) (by omega) (by omega);refine⟨F',R,ei F R [],n,q',Ev.bind h1 (Ev.bind hx ?_),by omega,by omega,d3,by omega,h6,hg⟩;simp only[if_neg c0,if_neg c1,if_neg c3,if_pos c4];exact Ev.bind hy (Ev.now _)
 ·refine⟨F,R,ei F R [],n,q+1,Ev.bind h1 (Ev.bind hx ?_),by omega,by omega,hd⟩;simp only[if_neg c0,if_neg c1,if_neg c3,if_neg c4];exact Ev.now _
theorem qf (s:List Int) (hs:CodeOk s) (p:Int) (hp:0≤p) (hp1:p≤1000000):∃nm,Ev (fun k=>eb.f k s p) (nm,p+1):=by
 obtain⟨nm,hn,_⟩:=ik s hs p (([(⟨#[116,105,116,108,101]⟩:ByteArray),(⟨#[98,111,100,121]⟩:ByteArray),(⟨#[112,114,105,99,101]⟩:ByteArray),(⟨#[99,111,108,111,114]⟩:ByteArray),(⟨#[110,111,110,101]⟩:ByteArray)] : List ByteArray)) hp hp1 (by decide) (by decide);refine⟨nm,?_⟩;simp only[eb.f];exact Ev.bind hn (Ev.now _)
theorem sg {l:List Int} (h:∀x∈l,(Lit.int .u8 x).wf=true):∀c∈l,0≤c∧c≤255:=by
 intro c hc;have:=h c hc;simp[Lit.wf,IntKind.min,IntKind.max,IntKind.bits,IntKind.signed] at this
 omega
theorem jH (l:List Int) (h:∀x∈l,(Lit.int .u8 x).wf=true):∃F R E n f t,Ev (fun k=>cU.f k l) (F,R,E,n,f,t)∧fN F R E:=by
 obtain⟨s,h1,hs⟩:=rD l (sg h);obtain⟨F,R,E,n,q,h2,q0,q1,hd⟩:=lY s hs 0 (by omega) (by omega);obtain⟨f,h3⟩:=qf s hs q (by omega) (by omega);obtain⟨a,h4,h5⟩:=mx s hs (q+1) (by omega) (by omega);have ha:=ni h5;refine⟨F,R,E,n,f,gU a,?_,nP hd⟩;simp only[cU.f,h1,Option.bind_some];refine Ev.bind h2 (Ev.bind h3 ?_);refine Ev.bind h4 ?_;exact Ev.bind (jw a (by omega)) (Ev.now _)
def gg (f:S92):Prop:=(f.f1=1∧1≤f.f2∧f.f2≤9)∨(2≤f.f1∧f.f1≤3∧f.f2=0)
def dW (l:List Int) (j:Nat):Prop:=(∀(i:Nat) (h:i<l.length),j≤i→my l[i] ∨ (0<i∧mV l[i]))∧1≤l.length∧l.length≤8
def dH (l:List S92) (j:Nat):Prop:=(∀(i:Nat) (h:i<l.length),j≤i→dW (ar l[i].f0) 0∧gg l[i] ∧ ∀m (hm:m<i),l[m].f0≠l[i].f0)∧1≤l.length∧l.length≤4
open Classical in
noncomputable def fv (l:List S92):Bool:=decide (dH l 0)
def iX (F:List S92) (R:List S46) (E:List S76) (n:Int):Prop:=
 fv F=true∧R.length≤8∧(0≤n∧n≤999999999)∧Ev (fun k=>bn.f k F R) E
open Classical in
noncomputable def eU (l:List Int):Bool:=decide (dW l 0)
def nD (a b:ByteArray):Prop:=Op.bytesLess a.toList b.toList=true
def sN (c:Int):Prop:=32≤c∧c≤126
open Classical in
noncomputable def eD (s:ByteArray) (m:Int):Bool:=decide ((∀c∈ar s,sN c)∧(s.size:Int)≤m)
def fR (key:ByteArray) (l:List S86) (j:Nat):Prop:=(∀(i:Nat) (h:i<l.length),j≤i→eU (ar l[i].f0)=true∧eD l[i].f1 60=true∧∀h0:0<i,nD (l[i - 1]'(by omega)).f0 l[i].f0)∧eU (ar key)=true∧l.length≤4
open Classical in
noncomputable def jx (key:ByteArray) (l:List S86):Bool:=decide (fR key l 0)
def gC (l:List ByteArray):Prop:=∀x∈l,eU (ar x)=true
def eC (c:UInt8):Nat→List UInt8→List UInt8→List (List UInt8)
 | _,acc,[]=>[acc]
 | 0,acc,x :: xs=>[acc ++ x :: xs]
 | n+1,acc,x :: xs=>if x=c then acc :: eC c n [] xs else eC c (n+1) (acc ++ [x]) xs
def mkT (l:List UInt8):ByteArray:=⟨l.toArray⟩
def em (c:UInt8) (s:ByteArray):List ByteArray:=(eC c (s.data.toList.count c) [] s.data.toList).map mkT
def lB (s:ByteArray):Prop:=gC (em 44 s)∧(em 44 s).length≤4
def jp (s:ByteArray):Int × Bool:=match Lib.atoiAll s.data.toList with
 | .ok n=>if -999999999≤n∧n≤999999999∧Lib.itoa n=s.data.toList then(n,true) else(0,false)
 | _=>(0,false)
def kL (kind:Int) (s:ByteArray):Prop:=kind=1∨(kind=2∧(jp s).2=true)∨(kind=3∧lB s)
def jh (F:List S92) (key:ByteArray) (l:List S86):Prop:=fv F=true∧jx key l=true∧∀c∈l,kL (dc F c.f0) c.f1
open Classical in
noncomputable def gF (F:List S92) (key:ByteArray) (l:List S86):Bool:=decide (jh F key l)
def pB (F:List S92) (R:List S46) (n:Int) (i:Nat) (h:i<R.length):Prop:=
 gF F R[i].f1.f0 R[i].f1.f1=true∧ej R[i].f1.f0 0 R=(i:Int)∧(0≤R[i].f0∧R[i].f0≤wrap64 (n - 1))∧∀h0:0<i,(R[i - 1]'(by omega)).f0<R[i].f0
def dC (F:List S92) (R:List S46) (n:Int) (i:Nat):Prop:=∀(j:Nat) (h:j<R.length),i≤j→pB F R n j h
open Classical in
noncomputable def eO (F:List S92) (R:List S46) (E:List S76) (n:Int):Bool:=decide (dC F R n 0∧iX F R E n)
theorem iv {α : Type} {g:Nat→Option α} {a b : α} (h:Ev g a) (h':Ev g b):a=b:=by
 obtain⟨K,h⟩:=h;obtain⟨K',h'⟩:=h';exact Option.some.inj ((h (max K K') (by omega)).symm.trans (h' (max K K') (by omega)))
theorem bu {g:Nat→Option Bool} {p:Prop} {ip:Decidable p} (h:¬p) (k:Ev g false):Ev g (@decide p ip):=by
 rw[decide_eq_false h];exact k
theorem da {g:Nat→Option Bool} {p q:Prop} {ip:Decidable p} {iq:Decidable q} (h:p↔q) (k:Ev g (@decide p ip)):Ev g (@decide q iq):=by
 have e : @decide p ip = @decide q iq:=decide_eq_decide.2 h;rw[← e];exact k
open Classical in
theorem ln {key:ByteArray} {l:List S86} (h:jx key l=true):(∀c∈l,eU (ar c.f0)=true∧eD c.f1 60=true)∧eU (ar key)=true∧l.length≤4:=by
 unfold jx at h
 have h1:=decide_eq_true_iff.1 h;refine⟨fun c hc=>?_,h1.2⟩;obtain⟨i,hi,rfl⟩:=List.mem_iff_getElem.1 hc;have h2:=h1.1 i hi (Nat.zero_le _);exact⟨h2.1,h2.2.1⟩
theorem jP {key:ByteArray} {l:List S86} {j:Nat} (hj:l.length≤j):fR key l j↔eU (ar key)=true∧l.length≤4:=⟨fun h=>h.2,fun h=>⟨fun i hi hji=>by omega,h⟩⟩
theorem iU {key:ByteArray} {l:List S86} {j:Nat} (hj:j<l.length):fR key l j↔(eU (ar l[j].f0)=true∧eD l[j].f1 60=true∧∀h0:0<j,nD (l[j - 1]'(by omega)).f0 l[j].f0)∧fR key l (j+1):=by
 constructor
 ·rintro ⟨h,h2⟩;exact⟨h j hj (Nat.le_refl _),fun i hi hji=>h i hi (by omega),h2⟩
 ·rintro ⟨h,h1,h2⟩;refine⟨fun i hi hji=>?_,h2⟩;rcases Nat.lt_or_ge j i with hlt | hge
  ·exact h1 i hi hlt
  ·obtain rfl:i=j:=by omega
   exact h
theorem jN {l:List Int} {j:Nat} (hj:l.length≤j):dW l j↔1≤l.length∧l.length≤8:=⟨fun h=>h.2,fun h=>⟨fun i hi hji=>by omega,h⟩⟩
theorem iM {l:List Int} {j:Nat} (hj:j<l.length):dW l j↔(my l[j] ∨ (0<j∧mV l[j]))∧dW l (j+1):=by
 constructor
 ·rintro ⟨h,h2⟩;exact⟨h j hj (Nat.le_refl _),fun i hi hji=>h i hi (by omega),h2⟩
 ·rintro ⟨h,h1,h2⟩;refine⟨fun i hi hji=>?_,h2⟩;rcases Nat.lt_or_ge j i with hlt | hge
  ·exact h1 i hi hlt
  ·obtain rfl:i=j:=by omega
   exact h
theorem d9 (a b c:Int):ch.f a b c=some (decide (b≤a∧a≤c)):=by
 unfold ch.f
 by_cases h:a≥b
 ·rw[if_pos h];congr 1;exact decide_eq_decide.2 ⟨fun h2=>⟨h,h2⟩,fun h2=>h2.2⟩
 ·rw[if_neg h];congr 1;symm;exact decide_eq_false (fun h2=>h h2.1)
open Classical in
theorem l3 (s:ByteArray) (hn:s.size<4611686018427387904):∀(d i:Nat),i+d=s.size→Ev (fun k=>aY.l0 k s (i:Int)) (decide (dW (ar s) i)):=by
 have hb:=bX s;intro d;induction d with
 | zero=>
  intro i hi;refine Ev.step (fun k=>aY.l0.eq_2 _ _ _) ?_;simp only[if_neg (show ¬((i:Int)<(s.size:Int)) by omega),d9,Option.bind_some];refine db (jN (by omega)).symm ?_;refine fS fun _=>?_
  congr 1;exact decide_eq_decide.2 (by omega)
 | succ d ih=>
  intro i hi;have hs:=iM (l:=ar s) (j:=i) (by omega);refine Ev.step (fun k=>aY.l0.eq_2 _ _ _) ?_;simp only[if_pos (show ((i:Int)<(s.size:Int)) by omega),if_pos (show 0≤(i:Int) by omega),cm i (by omega),gY s i (by omega)];by_cases h1:my (ar s)[i]
  ·simp only[if_pos (show (ar s)[i] ≥ 97 from h1.1),if_pos h1.2];exact db (hs.trans ⟨fun h=>h.2,fun h=>⟨.inl h1,h⟩⟩).symm (ih (i+1) (by omega))
  ·have key:Ev (fun k=>if(i:Int)=0 then some false else if(ar s)[i] < 48 then some false else if(ar s)[i] > 57 then some false else aY.l0 k s ((i+1:Nat):Int)) (decide (dW (ar s) i)):=by
    by_cases h0:(i:Int)=0
    ·simp only[if_pos h0];have:decide (dW (ar s) i)=false:=decide_eq_false (fun h=>by rcases (hs.1 h).1 with h2 | h2;exact h1 h2;omega);rw[this];exact Ev.now _
    ·simp only[if_neg h0];by_cases h2:mV (ar s)[i]
     ·simp only[if_neg (show ¬(ar s)[i] < 48 by have:=h2.1;omega),if_neg (show ¬(ar s)[i] > 57 by have:=h2.2;omega)];exact db (hs.trans ⟨fun h=>h.2,fun h=>⟨.inr ⟨by omega,h2⟩,h⟩⟩).symm (ih (i+1) (by omega))
     ·have:decide (dW (ar s) i)=false:=decide_eq_false (fun h=>by rcases (hs.1 h).1 with h3 | h3;exact h1 h3;exact h2 h3.2);rw[this];by_cases h3:(ar s)[i] < 48
      ·simp only[if_pos h3];exact Ev.now _
      ·simp only[if_neg h3,if_pos (show (ar s)[i] > 57 by unfold mV at h2;omega)];exact Ev.now _
   by_cases h3:(ar s)[i] ≥ 97
   ·simp only[if_pos h3,if_neg (show ¬(ar s)[i] ≤ 122 by unfold my at h1;omega)];exact key
   ·simp only[if_neg h3];exact key
theorem e7 (s:ByteArray) (hn:s.size<4611686018427387904):Ev (fun k=>aY.f k s) (eU (ar s)):=l3 s hn s.size 0 (by omega)
theorem ql (s:ByteArray) (j:Nat) (h:j<(ar s).length):wrap64 (bt s (j:Int))=(ar s)[j]:=by
 rw[gY s j h];have:=fw s _ (List.getElem_mem h);exact b8 (by omega) (by omega)
open Classical in
theorem lU (s:ByteArray) (hs:s.size<4611686018427387904):∀(d i:Nat),i+d=s.size→Ev (fun k=>bv.l0 k s (i:Int)) (decide ((∀c∈(ar s).drop i,sN c)∧(s.size:Int)≤60)):=by
 have hlen:=bX s;intro d;induction d with
 | zero=>
  intro i hi;refine Ev.step (fun k=>bv.l0.eq_2 _ _ _) ?_;simp only[if_neg (show ¬((i:Int)<(s.size:Int)) by omega)];refine db ?_ (Ev.now _);rw[List.drop_eq_nil_of_le (by omega)];exact⟨fun h=>⟨fun c hc=>by simp at hc,h⟩,fun h=>h.2⟩
 | succ d ih=>
  intro i hi;refine Ev.step (fun k=>bv.l0.eq_2 _ _ _) ?_;simp only[if_pos (show ((i:Int)<(s.size:Int)) by omega),if_pos (show 0≤(i:Int) by omega),ql s i (by omega),d9,Option.bind_some,decide_eq_true_eq,cm i (by omega)];have e:=List.drop_eq_getElem_cons (l:=ar s) (i:=i) (by omega);by_cases hw:32≤(ar s)[i] ∧ (ar s)[i] ≤ 126
  ·simp only[if_pos hw];refine db ?_ (ih (i+1) (by omega));rw[e];constructor
   ·rintro ⟨h1,h2⟩;exact⟨fun c hc=>by rcases List.mem_cons.1 hc with h | h;exact h ▸ hw;exact h1 c h,h2⟩
   ·rintro ⟨h1,h2⟩;exact⟨fun c hc=>h1 c (List.mem_cons_of_mem _ hc),h2⟩
  ·simp only[if_neg hw];refine dp (fun h=>hw (h.1 _ ?_)) (Ev.now _);rw[e];exact List.mem_cons_self ..
theorem ic (s:ByteArray) (hs:s.size<4611686018427387904):Ev (fun k=>bv.f k s) (eD s 60):=by
 simp only[bv.f,eD];exact lU s hs s.size 0 (by omega)
open Classical in
theorem l4 (key:ByteArray) (l:List S86) (hk:key.size≤1048576) (hn:l.length≤1048576) (hs:∀x∈l,x.f0.size≤1048576∧x.f1.size≤1048576):∀(d i:Nat),i+d=l.length →
  Ev (fun k=>ba.l0 k (i:Int) key l) (decide (fR key l i)):=by
 intro d;induction d with
 | zero=>
  intro i hi;refine Ev.step (fun k=>ba.l0.eq_2 _ _ _ _) ?_;simp only[if_neg (show ¬((i:Int)<(l.length:Int)) by omega)];refine db (jP (by omega)).symm ?_;refine Ev.bind (e7 key (by omega)) ?_;cases hnm:eU (ar key) with
  | false=>simp only[if_neg (show ¬(false=true) by decide)];exact dp (fun h=>by cases h.1) (Ev.now _)
  | true=>
   simp only[if_true];exact db ⟨fun h=>⟨(by first | trivial | rfl),by omega⟩,fun h=>by have:=h.2;omega⟩ (Ev.now _)
 | succ d ih=>
  intro i hi;have hst:=iU (key:=key) (l:=l) (j:=i) (by omega);have hsz:=hs l[i] (List.getElem_mem _);have hnext:=ih (i+1) (by omega);refine Ev.step (fun k=>ba.l0.eq_2 _ _ _ _) ?_;simp only[if_pos (show ((i:Int)<(l.length:Int)) by omega),if_pos (show 0≤(i:Int) by omega),fz l i (by omega),cm i (by omega)];refine Ev.bind (e7 l[i].f0 (by omega)) ?_;cases hnm:eU (ar l[i].f0) with
  | false=>simp only[if_neg (show ¬(false=true) by decide)];exact dp (fun h=>by have:=(hst.1 h).1.1;rw[hnm] at this;cases this) (Ev.now _)
  | true=>
   simp only[if_true];refine Ev.bind (ic l[i].f1 (by omega)) ?_;cases htx:eD l[i].f1 60 with
   | false=>simp only[if_neg (show ¬(false=true) by decide)];exact dp (fun h=>by have:=(hst.1 h).1.2.1;rw[htx] at this;cases this) (Ev.now _)
   | true=>
    simp only[if_true];by_cases h0:(i:Int)>0
    ·have he:wrap64 ((i:Int) - 1)=((i - 1:Nat):Int):=by rw[b8 (by omega) (by omega)];omega
     simp only[if_pos h0,he,if_pos (show 0≤((i - 1:Nat):Int) by omega),if_pos (show ((i - 1:Nat):Int)<(l.length:Int) by omega),fz l (i - 1) (by omega)];by_cases hl:nD (l[i - 1]'(by omega)).f0 l[i].f0
     ·have hl2:Op.bytesLess (l[i - 1]'(by omega)).f0.toList l[i].f0.toList=true:=hl;simp only[hl2,if_true];exact db (hst.trans ⟨fun h=>h.2,fun h=>⟨⟨hnm,htx,fun _=>hl⟩,h⟩⟩).symm hnext
     ·have hl2:Op.bytesLess (l[i - 1]'(by omega)).f0.toList l[i].f0.toList=false:=Bool.eq_false_iff.2 hl;simp only[hl2,if_neg (show ¬(false=true) by decide)];exact dp (fun h=>hl ((hst.1 h).1.2.2 (by omega))) (Ev.now _)
    ·simp only[if_neg h0];exact db (hst.trans ⟨fun h=>h.2,fun h=>⟨⟨hnm,htx,fun h1=>by omega⟩,h⟩⟩).symm hnext
theorem lM (key:ByteArray) (l:List S86) (hk:key.size≤1048576) (hn:l.length≤1048576) (hs:∀x∈l,x.f0.size≤1048576∧x.f1.size≤1048576):Ev (fun k=>ba.f k key l) (jx key l):=l4 key l hk hn hs l.length 0 (by omega)
theorem eG {g:Nat→Option Bool} {p:Prop} {ip:Decidable p} (h:p) (k:Ev g true):Ev g (@decide p ip):=by
 rw[decide_eq_true h];exact k
def isD (c:UInt8):Prop:=48≤c.toNat∧c.toNat≤57
instance (c:UInt8):Decidable (isD c):=by unfold isD;infer_instance
def lz (l:List UInt8):Prop:=l ≠ [] ∧ (∀c∈l,isD c)∧(1<l.length→l.head? ≠ some 48)
theorem rj {l:List UInt8} {i:Nat} (h:i<l.length) (hd:¬isD l[i]):¬lz l:=fun hc=>hd (hc.2.1 _ (List.getElem_mem h))
def eE (acc:Nat) (l:List UInt8):Nat:=l.foldl (fun a c=>a*10+(c.toNat - 48)) acc
theorem hZ (a:List UInt8) (acc:Nat) (b:List UInt8):eE acc (a ++ b)=eE (eE acc a) b:=by unfold eE;rw[List.foldl_append]
theorem eB (acc:Nat) (c:UInt8) (r:List UInt8):eE acc (c :: r)=eE (acc*10+(c.toNat - 48)) r:=by unfold eE;rw[List.foldl_cons]
theorem fU (acc:Nat):eE acc [] = acc:=rfl
theorem rB {l:List UInt8} {i:Nat} (h:i<l.length):eE 0 (l.take (i+1))=eE 0 (l.take i)*10+(l[i].toNat - 48):=by
 rw[List.take_add_one,List.getElem?_eq_getElem h];show eE 0 (l.take i ++ [l[i]])=_
 rw[hZ,eB,fU]
theorem qv (s:ByteArray) (i:Nat) (h:i<s.data.toList.length):bt s (i:Int)=((s.data.toList[i]).toNat:Int):=by
 rw[gY s i (by rw[bX];exact h)];unfold ar
 rw[List.getElem_map]
open Classical in
noncomputable def eN (s:ByteArray):Int:=if lz s.data.toList∧s.size≤9 then(eE 0 s.data.toList:Int) else -1
theorem nM:∀(l:List UInt8) (acc:Nat),(∀c∈l,isD c)→eE acc l<(acc+1)*10 ^ l.length
 | [],acc,_=>by rw[fU];simp
 | c :: l,acc,h=>by
  have hc:=h c (by simp);unfold isD at hc
  have h1:=nM l (acc*10+(c.toNat - 48)) (fun x hx=>h x (List.mem_cons_of_mem _ hx));rw[eB,List.length_cons,Nat.pow_succ,Nat.mul_comm (10 ^ l.length) 10,← Nat.mul_assoc];refine Nat.lt_of_lt_of_le h1 (Nat.mul_le_mul_right _ (by omega))
theorem fJ (s:ByteArray):s.data.toList.length=s.size:=rfl
theorem ob (s:ByteArray) (hs:s.size≤1099511627776):∀(d i:Nat),i+d=s.size→i≤9→(∀c∈s.data.toList.take i,isD c) →
  Ev (fun k=>bB.l0 k s ((eE 0 (s.data.toList.take i):Nat):Int) (i:Int)) (eN s):=by
 have hlen:=fJ s;intro d;induction d with
 | zero=>
  intro i hi h9 hd;refine Ev.step (fun k=>bB.l0.eq_2 _ _ _ _) ?_;have et:s.data.toList.take i=s.data.toList:=List.take_of_length_le (by omega);rw[et] at hd ⊢;simp only[if_neg (show ¬((i:Int)<(s.size:Int)) by omega)];by_cases h0:s.size=0
  ·have e0:eN s = -1:=by unfold eN;rw[if_neg (fun hc=>hc.1.1 (List.length_eq_zero_iff.1 (by omega)))]
   rw[e0];simp only[if_pos (show (s.size:Int)=0 by omega)];exact Ev.now _
  ·simp only[if_neg (show ¬(s.size:Int)=0 by omega)];have hne:s.data.toList ≠ []:=fun e=>h0 (by rw[← hlen,e];rfl)
   by_cases h1:(s.size:Int)>1
   ·have hb:=qv s 0 (by omega);have hb0:bt s 0=((s.data.toList[0]'(by omega)).toNat:Int):=hb;simp only[if_pos h1,if_pos (show 0<(s.size:Int) by omega),hb0];have hh:s.data.toList.head? = some (s.data.toList[0]'(by omega)):=by
     rw[List.head?_eq_getElem?,List.getElem?_eq_getElem]
    by_cases h48:((s.data.toList[0]'(by omega)).toNat:Int)=48
    ·have e48:s.data.toList[0]'(by omega)=48:=UInt8.toNat_inj.1 (show _=48 by omega);have e0:eN s = -1:=by unfold eN;rw[if_neg (fun hc=>hc.1.2.2 (by omega) (by rw[hh,e48]))]
     rw[e0];simp only[if_pos h48];exact Ev.now _
    ·have e0:eN s=((eE 0 s.data.toList:Nat):Int):=by unfold eN;rw[if_pos ⟨⟨hne,hd,fun _ he=>by rw[hh] at he;exact h48 (by rw[Option.some.inj he];rfl)⟩,by omega⟩]
     rw[e0];simp only[if_neg h48];exact Ev.now _
   ·have e0:eN s=((eE 0 s.data.toList:Nat):Int):=by unfold eN;rw[if_pos ⟨⟨hne,hd,fun h=>by omega⟩,by omega⟩]
    rw[e0];simp only[if_neg h1];exact Ev.now _
 | succ d ih=>
  intro i hi h9 hd;have hil:i<s.data.toList.length:=by omega
  have hb:=qv s i hil;refine Ev.step (fun k=>bB.l0.eq_2 _ _ _ _) ?_;simp only[if_pos (show ((i:Int)<(s.size:Int)) by omega),if_pos (show 0≤(i:Int) by omega),hb];have hno:∀(h:¬isD s.data.toList[i]),eN s = -1:=fun h=>by unfold eN;rw[if_neg (fun hc=>rj hil h hc.1)]
  by_cases h1:((s.data.toList[i]).toNat:Int)<48
  ·simp only[if_pos h1];rw[hno (by unfold isD;omega)];exact Ev.now _
  ·by_cases h2:((s.data.toList[i]).toNat:Int)>57
   ·simp only[if_neg h1,if_pos h2];rw[hno (by unfold isD;omega)];exact Ev.now _
   ·by_cases h3:(i:Int)≥9
    ·simp only[if_neg h1,if_neg h2,if_pos h3];have:eN s = -1:=by unfold eN;rw[if_neg (fun hc=>by have:=hc.2;omega)]
     rw[this];exact Ev.now _
    ·have hlt:=nM (s.data.toList.take i) 0 hd;have hl1:(s.data.toList.take i).length=i:=by rw[List.length_take];omega
     rw[hl1] at hlt;have hp:10 ^ i≤10 ^ 9:=Nat.pow_le_pow_right (by decide) (by omega);have e9:(10:Nat) ^ 9=1000000000:=by decide
     have hstep:=rB hil;have ew:wrap64 (wrap64 (((eE 0 (s.data.toList.take i):Nat):Int)*10)+((((s.data.toList[i]).toNat:Int) - 48) % 256))=((eE 0 (s.data.toList.take (i+1)):Nat):Int):=by
      rw[hstep,b8 (x:=((eE 0 (s.data.toList.take i):Nat):Int)*10) (by omega) (by omega),b8 (by omega) (by omega)];omega
     simp only[if_neg h1,if_neg h2,if_neg h3,ew,cm i (by omega)];refine ih (i+1) (by omega) (by omega) (fun c hc=>?_);rw[List.take_add_one,List.getElem?_eq_getElem hil] at hc;rcases List.mem_append.1 hc with h | h
     ·exact hd c h
     ·have:c=s.data.toList[i]:=by simpa using h
      rw[this];unfold isD;omega
theorem f8 (s:ByteArray) (hs:s.size≤1099511627776):Ev (fun k=>bB.f k s) (eN s):=by
 have:=ob s hs s.size 0 (by omega) (by omega) (fun c hc=>by simp at hc);simpa [bB.f,fU] using this
theorem n3 {n:Int} (h:0≤n):Lib.itoa n=Lib.decDigits n.toNat:=by unfold Lib.itoa;rw[if_neg (by omega)]
theorem iE (v:Nat) (h:v<10):(UInt8.ofNat (48+v)).toNat=48+v:=by rw[UInt8.toNat_ofNat'];exact Nat.mod_eq_of_lt (by omega)
theorem lb (u:Nat):∀c∈Lib.decDigits u,isD c:=by
 induction u using Nat.strongRecOn with
 | _ u ih=>
  intro c hc;unfold isD
  by_cases h:u<10
  ·rw[Lib.decDigits,dif_pos h,List.mem_singleton] at hc;rw[hc,iE u h];omega
  ·rw[Lib.decDigits,dif_neg h] at hc;rcases List.mem_append.1 hc with h1 | h1
   ·exact ih (u / 10) (by omega) c h1
   ·rw[List.mem_singleton] at h1;rw[h1,iE (u % 10) (by omega)];omega
theorem ra (u:Nat) (t:List UInt8):Lib.decDigits u≠45 :: t:=by
 intro h;have:=lb u 45 (by rw[h];simp);exact absurd this (by decide)
theorem j5 (u:Nat):Lib.decDigits u ≠ []:=by
 intro h;have h1:=Lib.decDigits_length u;have h2:=Lib.nDigits_pos u;rw[h] at h1;simp at h1;omega
theorem sb (u:Nat):1≤u→∀c r,Lib.decDigits u=c :: r→49≤c.toNat:=by
 induction u using Nat.strongRecOn with
 | _ u ih=>
  intro hu c r he;by_cases h:u<10
  ·rw[Lib.decDigits,dif_pos h] at he;have:=(List.cons.inj he).1;rw[← this,iE u h];omega
  ·rw[Lib.decDigits,dif_neg h] at he;obtain⟨c',r',e'⟩:∃c' r',Lib.decDigits (u / 10)=c' :: r':=by
    cases hd:Lib.decDigits (u / 10) with
    | nil=>exact absurd hd (j5 _)
    | cons c' r'=>exact⟨c',r',rfl⟩
   have:=ih (u / 10) (by omega) (by omega) c' r' e';rw[e',List.cons_append] at he;rw[← (List.cons.inj he).1];exact this
theorem ri (u:Nat):lz (Lib.decDigits u):=by
 refine⟨j5 u,lb u,fun hl=>?_⟩;intro he;have hu:1≤u:=by
  rcases Nat.lt_or_ge u 1 with h | h
  ·obtain rfl:u=0:=by omega
   rw[Lib.decDigits,dif_pos (by omega)] at hl;simp at hl
  ·exact h
 cases hd:Lib.decDigits u with
 | nil=>exact j5 u hd
 | cons c r=>
  have:=sb u hu c r hd;rw[hd] at he;simp at he
  rw[he] at this;exact absurd this (by decide)
theorem om:∀(l:List UInt8) (acc:Nat),acc≤eE acc l
 | [],_=>Nat.le_refl _
 | c :: l,acc=>by
  have:=om l (acc*10+(c.toNat - 48));rw[eB];omega
theorem lG:∀(n:Nat) (l:List UInt8),l.length=n→lz l→Lib.decDigits (eE 0 l)=l
 | 0,l,hn,h=>absurd (List.length_eq_zero_iff.1 hn) h.1
 | n+1,l,hn,h=>by
  obtain⟨a,c,rfl⟩:∃a c,l=a ++ [c]:=⟨l.dropLast,l.getLast h.1,(List.dropLast_concat_getLast h.1).symm⟩;have hc:=h.2.1 c (by simp);unfold isD at hc
  have hcc:UInt8.ofNat (48+(c.toNat - 48))=c:=UInt8.toNat_inj.1 (by rw[iE _ (by omega)];omega);have ev:eE 0 (a ++ [c])=eE 0 a*10+(c.toNat - 48):=by rw[hZ,eB,fU]
  by_cases ha:a = []
  ·subst ha;rw[ev,fU,Nat.zero_mul,Nat.zero_add,Lib.decDigits,dif_pos (by omega),hcc];rfl
  ·obtain⟨x,r,rfl⟩:∃x r,a=x :: r:=by
    cases a with
    | nil=>exact absurd rfl ha
    | cons x r=>exact⟨x,r,rfl⟩
   have hx:=h.2.1 x (by simp);unfold isD at hx
   have hx48:x≠48:=fun e=>h.2.2 (by simp) (by simp[e])
   have hx49:49≤x.toNat:=by
    rcases Nat.lt_or_ge x.toNat 49 with h1 | h1
    ·exact absurd (UInt8.toNat_inj.1 (show x.toNat=(48:UInt8).toNat by show _=48;omega)) hx48
    ·exact h1
   have hge:=om r (0*10+(x.toNat - 48));have hv:1≤eE 0 (x :: r):=by rw[eB];omega
   have hcan:lz (x :: r):=⟨by simp,fun y hy=>h.2.1 y (List.mem_append_left _ hy),fun _=>by simpa using hx48⟩;have ih:=lG n (x :: r) (by simp at hn ⊢;omega) hcan;rw[ev,Lib.decDigits,dif_neg (by omega),show (eE 0 (x :: r)*10+(c.toNat - 48)) / 10=eE 0 (x :: r) by omega,show (eE 0 (x :: r)*10+(c.toNat - 48)) % 10=c.toNat - 48 by omega,ih,hcc]
theorem oH (u:Nat):eE 0 (Lib.decDigits u)=u:=by
 induction u using Nat.strongRecOn with
 | _ u ih=>
  by_cases h:u<10
  ·rw[Lib.decDigits,dif_pos h,eB,fU,iE u h];omega
  ·rw[Lib.decDigits,dif_neg h,hZ,ih (u / 10) (by omega),eB,fU,iE (u % 10) (by omega)];omega
theorem mz {s:ByteArray} {u:Nat} : eN s=(u:Int)↔u≤999999999∧Lib.decDigits u=s.data.toList:=by
 constructor
 ·intro h;unfold eN at h
  split at h
  ·rename_i hc
   have hu:eE 0 s.data.toList=u:=by omega
   have hl:=nM s.data.toList 0 hc.1.2.1;have hp:10 ^ s.data.toList.length≤10 ^ 9:=Nat.pow_le_pow_right (by decide) hc.2;have e9:(10:Nat) ^ 9=1000000000:=by decide
   refine⟨by omega,?_⟩;rw[← hu];exact lG _ _ rfl hc.1
  ·omega
 ·rintro ⟨h1,h2⟩;have hs:s.size≤9:=by
   have h3:=jg 8 u (by omega);rw[← Lib.decDigits_length,h2] at h3;exact h3
  have hcan:=ri u;rw[h2] at hcan;unfold eN
  rw[if_pos ⟨hcan,hs⟩,← h2,oH]
theorem lK (s:ByteArray):eN s = -1∨∃u:Nat,u≤999999999∧eN s=(u:Int)∧Lib.decDigits u=s.data.toList:=by
 by_cases h:∃u:Nat,eN s=(u:Int)
 ·obtain⟨u,hu⟩:=h;have:=mz.1 hu;exact Or.inr ⟨u,this.1,hu,this.2⟩
 ·refine Or.inl ?_;unfold eN
  split
  ·rename_i hc
   exact absurd ⟨_,show eN s=((eE 0 s.data.toList:Nat):Int) by unfold eN;rw[if_pos hc]⟩ h
  ·rfl
theorem nL (s:ByteArray):0<eN s↔∃u:Nat,1≤u∧u≤999999999∧Lib.decDigits u=s.data.toList:=by
 constructor
 ·intro h;rcases lK s with h1 | ⟨u,h1,h2,h3⟩
  ·omega
  ·exact⟨u,by omega,h1,h3⟩
 ·rintro ⟨u,h0,h1,h2⟩;have:=mz.2 (show u≤999999999∧Lib.decDigits u=s.data.toList from ⟨h1,h2⟩);omega
theorem ol {n:Int} (h:n<0):Lib.itoa n=45 :: Lib.decDigits n.natAbs:=by unfold Lib.itoa;rw[if_pos h]
theorem nF:∀(l:List UInt8) (acc:Nat),(∀c∈l,isD c)→eE acc l<1844674407370955162→Lib.parseUint10 acc l = .ok (eE acc l)
 | [],_,_,_=>rfl
 | c :: r,acc,h,hv=>by
  have hc:=h c (by simp);unfold isD at hc
  rw[eB] at hv;have hg:=om r (acc*10+(c.toNat - 48));rw[Lib.parseUint10,if_pos hc,if_neg (by omega),if_neg (by omega),nF r _ (fun x hx=>h x (List.mem_cons_of_mem _ hx)) hv,eB]
theorem qF (u:Nat) (h:u≤999999999999):Lib.parseMag (Lib.decDigits u) = .ok u:=by
 unfold Lib.parseMag
 rw[if_neg (j5 u),nF _ 0 (lb u) (by rw[oH];omega),oH]
theorem sA (u:Nat) (h:u≤999999999999):Lib.atoiAll (Lib.decDigits u) = .ok (u:Int):=by
 obtain⟨c,r,e⟩:∃c r,Lib.decDigits u=c :: r:=by
  cases hd:Lib.decDigits u with
  | nil=>exact absurd hd (j5 _)
  | cons c r=>exact⟨c,r,rfl⟩
 have hc:=lb u c (by rw[e];simp);unfold isD at hc
 have hm:=qF u h;rw[e] at hm ⊢;rw[Lib.atoiAll_plain c r (by omega) (by omega),hm];simp only[Lib.signless,if_neg (show ¬ 9223372036854775808≤u by omega)]
theorem rN (u:Nat) (h:u≤999999999999):Lib.atoiAll (45 :: Lib.decDigits u) = .ok (-(u:Int)):=by
 rw[Lib.atoiAll_minus,qF u h];simp only[Lib.signed,if_neg (show ¬ 9223372036854775808<u by omega)]
theorem qV (n:Int) (h0 : -999999999999≤n) (h1:n≤999999999999):Lib.atoiAll (Lib.itoa n) = .ok n:=by
 unfold Lib.itoa
 by_cases h:n<0
 ·rw[if_pos h,rN _ (by omega)];congr 1;omega
 ·rw[if_neg h,sA _ (by omega)];congr 1;omega
theorem pA {s:ByteArray} {n:Int} : jp s=(n,true) ↔ -999999999≤n∧n≤999999999∧Lib.itoa n=s.data.toList:=by
 constructor
 ·intro h;unfold jp at h
  split at h
  ·split at h
   ·rename_i hc;rw[← (Prod.mk.inj h).1];exact hc
   ·cases (Prod.mk.inj h).2
  ·cases (Prod.mk.inj h).2
 ·rintro ⟨h0,h1,h2⟩;unfold jp
  rw[← h2,qV n (by omega) (by omega)];simp only[if_pos (show -999999999≤n∧n≤999999999∧True from ⟨h0,h1,trivial⟩)]
theorem kv (s:ByteArray):(jp s).2=true↔∃n:Int,-999999999≤n∧n≤999999999∧Lib.itoa n=s.data.toList:=by
 constructor
 ·intro h;exact⟨(jp s).1,pA.1 (by rw[← h])⟩
 ·rintro ⟨n,h⟩;rw[pA.2 h]
theorem qi (s r:ByteArray) (h:s.data.toList=45 :: r.data.toList):(jp s).2=true↔0<eN r:=by
 rw[kv,nL];constructor
 ·rintro ⟨n,h0,h1,h2⟩;rw[h] at h2;by_cases hn:n<0
  ·rw[ol hn] at h2;exact⟨n.natAbs,by omega,by omega,(List.cons.inj h2).2⟩
  ·rw[n3 (by omega)] at h2;exact absurd h2 (ra _ _)
 ·rintro ⟨u,h0,h1,h2⟩;refine⟨-(u:Int),by omega,by omega,?_⟩;rw[ol (by omega),h,← h2];congr 2;omega
theorem oQ (s:ByteArray):0≤eN s↔∃u:Nat,u≤999999999∧Lib.decDigits u=s.data.toList:=by
 constructor
 ·intro h;rcases lK s with h1 | ⟨u,h1,h2,h3⟩
  ·omega
  ·exact⟨u,h1,h3⟩
 ·rintro ⟨u,h1,h2⟩;have:=mz.2 (show u≤999999999∧Lib.decDigits u=s.data.toList from ⟨h1,h2⟩);omega
theorem p8 (s:ByteArray) (h:∀t,s.data.toList=45 :: t→t = []):(jp s).2=true↔0≤eN s:=by
 rw[kv,oQ];constructor
 ·rintro ⟨n,h0,h1,h2⟩;by_cases hn:n<0
  ·rw[ol hn] at h2;exact absurd (h _ h2.symm) (j5 _)
  ·rw[n3 (by omega)] at h2;exact⟨n.toNat,by omega,h2⟩
 ·rintro ⟨u,h1,h2⟩;exact⟨(u:Int),by omega,by omega,by rw[n3 (by omega)];exact h2⟩
theorem jR (s:ByteArray) (hs:s.size≤1048576):∃v,Ev (fun k=>bq.f k s) (v,(jp s).2):=by
 have hlen:=fJ s;simp only[bq.f];have pos:(∀t,s.data.toList=45 :: t→t = [])→∃v,Ev (fun k=>bq.j0 k s false) (v,(jp s).2):=by
  intro h;refine⟨eN s,Ev.step (fun k=>bq.j0.eq_2 _ _ _) ?_⟩;simp only[if_neg (show ¬(false=true) by decide)];refine Ev.bind (f8 s (by omega)) ?_;have e:decide (eN s≥0)=(jp s).2:=by
   rw[Bool.eq_iff_iff,decide_eq_true_eq];exact(p8 s h).symm
  rw[e];exact Ev.now _
 by_cases h1:(s.size:Int)>1
 ·have hb:bt s 0=((s.data.toList[0]'(by omega)).toNat:Int):=qv s 0 (by omega);simp only[if_pos h1,if_pos (show 0<(s.size:Int) by omega),hb];obtain⟨x,r,hx⟩:∃x r,s.data.toList=x :: r:=by
   cases hd:s.data.toList with
   | nil=>rw[hd] at hlen;simp at hlen;omega
   | cons x r=>exact⟨x,r,rfl⟩
  have h0:s.data.toList[0]'(by omega)=x:=by simp[hx]
  rw[h0];by_cases h45:(x.toNat:Int)=45
  ·have e45:((x.toNat:Int) == 45)=true:=by simpa using h45
   have ex:x=45:=UInt8.toNat_inj.1 (show _=45 by omega);subst ex;have hr:(s.extract 1 s.size).data.toList=r:=by
    rw[Lib.extract_data,hx,List.drop_succ_cons,List.drop_zero];apply List.take_of_length_le
    rw[hx,List.length_cons] at hlen;omega
   have hz:(s.extract 1 s.size).size≤1048576:=by rw[ByteArray.size_extract];omega
   rw[e45];refine⟨wrap64 (-eN (s.extract 1 s.size)),Ev.step (fun k=>bq.j0.eq_2 _ _ _) ?_⟩;simp only[if_true,if_pos (show 1≤(s.size:Int) by omega)];refine Ev.bind (f8 _ (by omega)) ?_;have e:decide (eN (s.extract 1 s.size)>0)=(jp s).2:=by
    rw[Bool.eq_iff_iff,decide_eq_true_eq];exact(qi s (s.extract 1 s.size) (by rw[hr,hx])).symm
   rw[e];exact Ev.now _
  ·have e45:((x.toNat:Int) == 45)=false:=by simpa using h45
   rw[e45];exact pos (fun t ht=>absurd (show (x.toNat:Int)=45 by rw[hx] at ht;rw[(List.cons.inj ht).1];rfl) h45)
 ·simp only[if_neg h1];exact pos (fun t ht=>by
   rw[ht,List.length_cons] at hlen;exact List.length_eq_zero_iff.1 (by omega))
def cutT (c:UInt8) (n:Nat) (s:ByteArray):List ByteArray:=(eC c n [] s.data.toList).map mkT
theorem iF (c:UInt8) (acc l:List UInt8):eC c 0 acc l = [acc ++ l]:=by cases l <;> simp[eC]
theorem jQ (c:UInt8):∀(x:List UInt8) (n:Nat) (acc r:List UInt8),c ∉ x→eC c n acc (x ++ r)=eC c n (acc ++ x) r
 | [],n,acc,r,_=>by simp
 | a :: x,0,acc,r,_=>by rw[iF,iF];simp
 | a :: x,n+1,acc,r,h=>by
  have h1:a≠c:=fun e=>h (by simp[e])
  rw[List.cons_append,eC,if_neg h1,jQ c x (n+1) _ r (fun e=>h (List.mem_cons_of_mem _ e))];simp
theorem kf (c:UInt8):∀(l:List UInt8) (n:Nat) (acc:List UInt8),l.count c≤n→eC c n acc l=eC c (l.count c) acc l
 | [],n,acc,_=>by simp[eC]
 | x :: xs,n,acc,h=>by
  by_cases hx:x=c
  ·subst hx;rw[List.count_cons_self] at h ⊢;obtain⟨m,rfl⟩:∃m,n=m+1:=⟨n - 1,by omega⟩;rw[eC,eC,if_pos rfl,if_pos rfl,kf x xs m [] (by omega)]
  ·have e:(x :: xs).count c=xs.count c:=List.count_cons_of_ne (by simpa using hx);rw[e] at h ⊢;have h1:=kf c xs n (acc ++ [x]) h;have e0:∀k,eC c k acc (x :: xs)=eC c k (acc ++ [x]) xs:=by
    intro k;have:=jQ c [x] k acc xs (by simpa using fun h=>hx h.symm);exact this
   rw[e0,e0,h1]
theorem rM (c:UInt8) (s:ByteArray):cutT c (s.size+1) s=em c s:=by
 unfold cutT em
 have h:s.data.toList.count c≤s.data.toList.length:=List.count_le_length;rw[fJ] at h;rw[kf c _ (s.size+1) [] (by omega)]
def ii (s:ByteArray):List ByteArray→List ByteArray
 | []=>[s]
 | x :: xs=>if Op.bytesLess x.toList s.toList=true then x :: ii s xs else if x=s then x :: xs else s :: x :: xs
def lh (acc:List ByteArray) (l:List ByteArray):List ByteArray:=l.foldl (fun a s=>ii s a) acc
theorem n4 (acc:List ByteArray) (s:ByteArray) (l:List ByteArray):lh acc (s :: l)=lh (ii s acc) l:=rfl
theorem kN (s:ByteArray):∀l:List ByteArray,(ii s l).length≤l.length+1
 | []=>by simp[ii]
 | x :: xs=>by
  have:=kN s xs;unfold ii
  split
  ·simp only[List.length_cons];omega
  ·split <;> simp
theorem eT {x:ByteArray} {l:List ByteArray} : gC (x :: l)↔eU (ar x)=true∧gC l:=by
 unfold gC
 constructor
 ·intro h;exact⟨h x (by simp),fun y hy=>h y (List.mem_cons_of_mem _ hy)⟩
 ·rintro ⟨h1,h2⟩ y hy;rcases List.mem_cons.1 hy with rfl | hy
  ·exact h1
  ·exact h2 y hy
theorem m5 (s:ByteArray) (l:List ByteArray) (hn:l.length≤1099511627776):∀(d i:Nat),i+d=l.length→Ev (fun k=>bG.l0 k l s (i:Int)) (l.take i ++ ii s (l.drop i)):=by
 intro d;induction d with
 | zero=>
  intro i hi;refine Ev.step (fun k=>bG.l0.eq_2 _ _ _ _) ?_;have e1:l.take i=l:=List.take_of_length_le (by omega);have e2:l.drop i = []:=List.drop_eq_nil_of_le (by omega);simp only[if_neg (show ¬((i:Int)<(l.length:Int)) by omega),Option.bind_some,if_pos (show 0≤(i:Int) by omega),if_pos (show (i:Int)≤(l.length:Int) by omega),dM,e1,e2,ii,List.nil_append,List.length_nil,Nat.zero_add,if_pos (show l.length<8796093022208 by omega),List.length_cons,List.length_append,Nat.add_zero,if_pos (show l.length+1<8796093022208 by omega),List.append_nil];exact Ev.now _
 | succ d ih=>
  intro i hi;have hil:i<l.length:=by omega
  have ed:l.drop i=l[i] :: l.drop (i+1):=cT l i hil;refine Ev.step (fun k=>bG.l0.eq_2 _ _ _ _) ?_;simp only[if_pos (show ((i:Int)<(l.length:Int)) by omega),if_pos (show 0≤(i:Int) by omega),eo _ l i hil,toList_inj,cm i (by omega)];by_cases h1:Op.bytesLess l[i].toList s.toList=true
  ·simp only[if_pos h1];have e:l.take i ++ ii s (l.drop i)=l.take (i+1) ++ ii s (l.drop (i+1)):=by
    rw[ed,ii,if_pos h1,List.take_add_one,List.getElem?_eq_getElem hil,List.append_assoc];rfl
   rw[e];exact ih (i+1) (by omega)
  ·simp only[if_neg h1];by_cases h2:l[i] = s
   ·simp only[if_pos h2];have e:l.take i ++ ii s (l.drop i)=l:=by rw[ed,ii,if_neg h1,if_pos h2,← ed,List.take_append_drop]
    rw[e];exact Ev.now _
   ·have lt:(l.take i).length=i:=by rw[List.length_take];omega
    have ld:(l.drop i).length=l.length - i:=List.length_drop;simp only[if_neg h2,Option.bind_some,if_pos (show (i:Int)≤(l.length:Int) by omega),dM,List.nil_append,List.length_nil,Nat.zero_add,lt,if_pos (show i<8796093022208 by omega),List.length_cons,List.length_append,Nat.add_zero,if_pos (show i+1<8796093022208 by omega),ld,if_pos (show i+1+(l.length - i)<8796093022208 by omega)];have e:l.take i ++ ii s (l.drop i)=l.take i ++ [s] ++ l.drop i:=by rw[ed,ii,if_neg h1,if_neg h2,List.append_assoc];rfl
    rw[e];exact Ev.now _
theorem mG (s:ByteArray) (l:List ByteArray) (hn:l.length≤1099511627776):Ev (fun k=>bG.f k l s) (ii s l):=by
 have:=m5 s l hn l.length 0 (by omega);simpa [bG.f] using this
open Classical in
theorem lW (L:List ByteArray) (hL:L.length≤1048577) (hx:∀x∈L,x.size≤1048576):∀(d i:Nat) (acc:List ByteArray),i+d=L.length→acc.length≤i →
  Ev (fun k=>bL.l0 k acc L (i:Int)) (if gC (L.drop i) then(lh acc (L.drop i),decide (L.length≤4)) else([],false)):=by
 intro d;induction d with
 | zero=>
  intro i acc hi ha;refine Ev.step (fun k=>bL.l0.eq_2 _ _ _ _) ?_;simp only[if_neg (show ¬((i:Int)<(L.length:Int)) by omega)];rw[List.drop_eq_nil_of_le (by omega),if_pos (show gC [] from fun x hx=>by simp at hx)];have e:decide ((L.length:Int)≤4)=decide (L.length≤4):=decide_eq_decide.2 ⟨fun h=>by omega,fun h=>by omega⟩;rw[e];exact Ev.now _
 | succ d ih=>
  intro i acc hi ha;have hil:i<L.length:=by omega
  have hxi:=hx L[i] (List.getElem_mem _);have hl2:=kN L[i] acc;refine Ev.step (fun k=>bL.l0.eq_2 _ _ _ _) ?_;simp only[if_pos (show ((i:Int)<(L.length:Int)) by omega),if_pos (show 0≤(i:Int) by omega),eo _ L i hil,cm i (by omega)];refine Ev.bind (e7 L[i] (by omega)) ?_;rw[cT L i hil];cases hnm:eU (ar L[i]) with
  | false=>
   simp only[if_neg (show ¬(false=true) by decide)];rw[if_neg (fun h=>by have:=(eT.1 h).1;rw[hnm] at this;cases this)];exact Ev.now _
  | true=>
   simp only[if_true];refine Ev.bind (mG L[i] acc (by omega)) ?_;have h:=ih (i+1) (ii L[i] acc) (by omega) (by omega);rw[n4];by_cases hp:gC (L.drop (i+1))
   ·rw[if_pos hp] at h;rw[if_pos (eT.2 ⟨hnm,hp⟩)];exact h
   ·rw[if_neg hp] at h;rw[if_neg (fun h2=>hp (eT.1 h2).2)];exact h
open Classical in
noncomputable def jL (s:ByteArray):List ByteArray × Bool:=if gC (em 44 s) then(lh [] (em 44 s),decide ((em 44 s).length≤4)) else([],false)
theorem o5 (s:ByteArray):mkT s.data.toList=s:=by cases s;rfl
theorem kM (s:ByteArray) (a b:Nat):s.extract a b=mkT ((s.data.toList.drop a).take (b - a)):=by
 rw[← o5 (s.extract a b),Lib.extract_data]
theorem nc (l:List UInt8) {f i:Nat} (hf:f≤i):(l.drop f).take (i - f) ++ l.drop i=l.drop f:=by
 have:=List.take_append_drop (i - f) (l.drop f);rw[List.drop_drop,show f+(i - f)=i by omega] at this;exact this
theorem rt {l:List UInt8} {f i:Nat} (hf:f≤i) (hi:i<l.length):(l.drop f).take (i+1 - f)=(l.drop f).take (i - f) ++ [l[i]]:=by
 have e:i+1 - f=(i - f)+1:=by omega
 rw[e,List.take_add_one,List.getElem?_drop,show f+(i - f)=i by omega,List.getElem?_eq_getElem hi];rfl
theorem rH (a b:UInt8):((a.toNat:Int)=(b.toNat:Int))↔a=b:=⟨fun h=>UInt8.toNat_inj.1 (by omega),fun h=>by rw[h]⟩
theorem sm (c:UInt8) (s:ByteArray) (hs:s.size≤1099511627776) (most:Nat):∀(d i f n:Nat) (out:List ByteArray),i+d=s.size→f≤i→out.length+n=most→out.length≤i →
  Ev (fun k=>bw.l0 k s (c.toNat:Int) (most:Int) out (f:Int) (i:Int)) (out ++ (eC c n ((s.data.toList.drop f).take (i - f)) (s.data.toList.drop i)).map mkT):=by
 have hlen:=fJ s;have fin:∀(i f:Nat) (out:List ByteArray),f≤i→i≤s.size→out.length≤i→∀k,bw.j1 (k+1) s (c.toNat:Int) (most:Int) out (f:Int) (i:Int) false=some (out ++ [mkT (s.data.toList.drop f)]):=by
  intro i f out hf hi ho k;have e:=kM s f s.size;rw[List.take_of_length_le (by rw[List.length_drop];omega)] at e;rw[bw.j1.eq_2];simp only[if_neg (show ¬(false=true) by decide),if_pos (show 0≤(f:Int) by omega),if_pos (show (f:Int)≤(s.size:Int) by omega),if_pos (show out.length<8796093022208 by omega),dM,e]
 have finE:∀(i f:Nat) (out:List ByteArray),f≤i→i≤s.size→out.length≤i→Ev (fun k=>bw.j1 k s (c.toNat:Int) (most:Int) out (f:Int) (i:Int) false) (out ++ [mkT (s.data.toList.drop f)]):=by
  intro i f out hf hi ho;refine⟨1,fun k hk=>?_⟩;obtain⟨k,rfl⟩:∃m,k=m+1:=⟨k - 1,by omega⟩;exact fin i f out hf hi ho k
 intro d;induction d with
 | zero=>
  intro i f n out hi hf hn ho;refine Ev.step (fun k=>bw.l0.eq_2 _ _ _ _ _ _ _) ?_;simp only[if_neg (show ¬((i:Int)<(s.size:Int)) by omega)];have e:=nc s.data.toList hf;have e0:s.data.toList.drop i = []:=List.drop_eq_nil_of_le (by omega);rw[e0,List.append_nil] at e;have hc:eC c n ((s.data.toList.drop f).take (i - f)) (s.data.toList.drop i) = [s.data.toList.drop f]:=by
   rw[e0,e];cases n <;> rfl
  rw[hc];exact finE i f out hf (by omega) ho
 | succ d ih=>
  intro i f n out hi hf hn ho;refine Ev.step (fun k=>bw.l0.eq_2 _ _ _ _ _ _ _) ?_;simp only[if_pos (show ((i:Int)<(s.size:Int)) by omega)];cases n with
  | zero=>
   rw[decide_eq_false (show ¬(out.length:Int)<(most:Int) by omega),iF,nc _ hf];exact finE i f out hf (by omega) ho
  | succ n=>
   rw[decide_eq_true (show (out.length:Int)<(most:Int) by omega)];refine Ev.step (fun k=>bw.j1.eq_2 _ _ _ _ _ _ _ _) ?_;have hil:i<s.data.toList.length:=by omega
   have ed:s.data.toList.drop i=s.data.toList[i] :: s.data.toList.drop (i+1):=List.drop_eq_getElem_cons hil;rw[ed];simp only[if_true,if_pos (show 0≤(i:Int) by omega),if_pos (show ((i:Int)<(s.size:Int)) by omega),qv s i hil,rH,cm i (by omega)];by_cases hb:s.data.toList[i] = c
   ·have e:=kM s f i;rw[eC,if_pos hb];simp only[if_pos hb,if_pos (show 0≤(f:Int) by omega),if_pos (show (f:Int)≤(i:Int) by omega),if_pos (show (i:Int)≤(s.size:Int) by omega),if_pos (show out.length<8796093022208 by omega),dM,e];have h:=ih (i+1) (i+1) n (out ++ [mkT ((s.data.toList.drop f).take (i - f))]) (by omega) (Nat.le_refl _) (by simp;omega) (by simp;omega);rw[Nat.sub_self,List.take_zero,List.append_assoc] at h;exact h
   ·rw[eC,if_neg hb];simp only[if_neg hb];have h:=ih (i+1) f (n+1) out (by omega) (by omega) hn (by omega);rw[rt hf hil] at h;exact h
theorem mN (c:UInt8) (n:Nat) (s:ByteArray) (hs:s.size≤1099511627776):Ev (fun k=>bw.f k s (c.toNat:Int) (n:Int)) (cutT c n s):=by
 simp only[bw.f,cutT];have:=sm c s hs n s.size 0 0 n [] (by omega) (Nat.le_refl _) (by simp) (by simp);simpa using this
theorem gX (c:UInt8):∀(l:List UInt8) (n:Nat) (acc:List UInt8),(eC c n acc l).length≤l.length+1∧(eC c n acc l).length≤n+1∧1≤(eC c n acc l).length
 | [],n,acc=>by simp[eC]
 | x :: xs,0,acc=>by simp[eC]
 | x :: xs,n+1,acc=>by
  have h1:=gX c xs n [];have h2:=gX c xs (n+1) (acc ++ [x]);unfold eC
  split
  ·simp only[List.length_cons];omega
  ·simp only[List.length_cons];omega
theorem iP (c:UInt8) (s:ByteArray):(em c s).length≤s.size+1∧1≤(em c s).length:=by
 unfold em
 have:=gX c s.data.toList (s.data.toList.count c) [];rw[List.length_map];rw[fJ] at this;omega
theorem ki (c:UInt8):∀(l:List UInt8) (n:Nat) (acc:List UInt8),∀p∈eC c n acc l,p.length≤acc.length+l.length
 | [],n,acc=>by simp[eC]
 | x :: xs,0,acc=>by simp[eC]
 | x :: xs,n+1,acc=>by
  intro p hp;unfold eC at hp
  split at hp
  ·rcases List.mem_cons.1 hp with rfl | hp
   ·omega
   ·have:=ki c xs n [] p hp;simp only[List.length_nil,List.length_cons] at this ⊢;omega
  ·have:=ki c xs (n+1) (acc ++ [x]) p hp;simp only[List.length_append,List.length_cons,List.length_nil] at this ⊢;omega
theorem rR (l:List UInt8):(mkT l).size=l.length:=by simp[mkT,ByteArray.size]
theorem ky {c:UInt8} {s p:ByteArray} (h:p∈em c s):p.size≤s.size:=by
 obtain⟨x,hx,rfl⟩:=List.mem_map.1 h;have:=ki c _ _ _ x hx;rw[fJ] at this;rw[rR];simpa using this
theorem lA (s:ByteArray) (hs:s.size≤1048576):Ev (fun k=>bL.f k s) (jL s):=by
 have hlen:=iP 44 s;simp only[bL.f,cm s.size (by omega)];have h1:=mN 44 (s.size+1) s (by omega);rw[rM] at h1;refine Ev.bind h1 ?_;have h:=lW (em 44 s) (by omega) (fun x hx=>by have:=ky hx;omega) (em 44 s).length 0 [] (by omega) (by simp);rw[List.drop_zero] at h;exact h
theorem pM (s:ByteArray):(jL s).2=true↔lB s:=by
 unfold jL lB
 split
 ·rename_i h
  simp only[decide_eq_true_eq];exact⟨fun h2=>⟨h,h2⟩,fun h2=>h2.2⟩
 ·rename_i h
  exact⟨(fun h2=>by cases h2),fun h2=>absurd h2.1 h⟩
open Classical in
theorem mu (a:ByteArray) (b c:Int) (s:ByteArray) (hs:s.size≤1048576):Ev (fun k=>eu.f k a b c s) (decide (eD s 60=true∧kL b s)):=by
 obtain⟨v,hv⟩:=jR s hs;have ht:=pM s;simp only[eu.f];refine Ev.bind hv ?_;refine Ev.bind (lA s hs) ?_;refine Ev.bind (ic s (by omega)) ?_;unfold kL
 cases hp:eD s 60 with
 | false=>simp only[if_neg (show ¬(false=true) by decide)];exact bu (fun h=>by cases h.1) (Ev.now _)
 | true=>
  simp only[if_true];have third:Ev (fun _:Nat=>some ((jL s).2)) (decide (lB s)):=by
   have e:(jL s).2=decide (lB s):=by rw[Bool.eq_iff_iff,decide_eq_true_eq];exact ht
   rw[e];exact Ev.now _
  by_cases h1:b=1
  ·simp only[if_pos h1];exact eG ⟨(by first | trivial | rfl),Or.inl h1⟩ (Ev.now _)
  ·simp only[if_neg h1];by_cases h2:b=2
   ·simp only[if_pos h2];cases hn:(jp s).2 with
    | true=>simp only[if_true];exact eG ⟨(by first | trivial | rfl),Or.inr (Or.inl ⟨h2,(by first | trivial | rfl)⟩)⟩ (Ev.now _)
    | false=>
     simp only[if_neg (show ¬(false=true) by decide),if_neg (show ¬b=3 by omega)];refine bu (fun h=>?_) (Ev.now _);rcases h.2 with h | ⟨_,h⟩ | ⟨h,_⟩
     ·exact h1 h
     ·first | exact absurd h (by simp) | cases h
     ·omega
   ·simp only[if_neg h2];by_cases h3:b=3
    ·simp only[if_pos h3];refine da ?_ third;exact⟨fun h=>⟨(by first | trivial | rfl),Or.inr (Or.inr ⟨h3,h⟩)⟩,fun h=>by
      rcases h.2 with h | ⟨h,_⟩ | ⟨_,h⟩
      ·exact absurd h h1
      ·exact absurd h h2
      ·exact h⟩
    ·simp only[if_neg h3];refine bu (fun h=>?_) (Ev.now _);rcases h.2 with h | ⟨h,_⟩ | ⟨h,_⟩
     ·exact h1 h
     ·exact h2 h
     ·exact h3 h
theorem io {l:List S92} {j:Nat} (hj:l.length≤j):dH l j↔1≤l.length∧l.length≤4:=⟨fun h=>h.2,fun h=>⟨fun i hi hji=>by omega,h⟩⟩
theorem gQ {l:List S92} {j:Nat} (hj:j<l.length):dH l j↔(dW (ar l[j].f0) 0∧gg l[j] ∧ ∀m (hm:m<j),l[m].f0≠l[j].f0)∧dH l (j+1):=by
 constructor
 ·rintro ⟨h,h2⟩;exact⟨h j hj (Nat.le_refl _),fun i hi hji=>h i hi (by omega),h2⟩
 ·rintro ⟨h,h1,h2⟩;refine⟨fun i hi hji=>?_,h2⟩;rcases Nat.lt_or_ge j i with hlt | hge
  ·exact h1 i hi hlt
  ·obtain rfl:i=j:=by omega
   exact h
open Classical in
theorem gq {l:List Int} : eU l=true↔dW l 0:=by unfold eU;exact decide_eq_true_iff
open Classical in
theorem kn (l:List S92) (hn:l.length≤1048577) (hs:∀x∈l,x.f0.size≤1048576):∀(d i:Nat),i+d=l.length→Ev (fun k=>aJ.l0 k l (i:Int)) (decide (dH l i)):=by
 intro d;induction d with
 | zero=>
  intro i hi;refine Ev.step (fun k=>aJ.l0.eq_2 _ _ _) ?_;simp only[if_neg (show ¬((i:Int)<(l.length:Int)) by omega),d9,Option.bind_some];refine db (io (by omega)).symm ?_;refine fS fun _=>?_
  congr 1;exact decide_eq_decide.2 (by omega)
 | succ d ih=>
  intro i hi;have hst:=gQ (l:=l) (j:=i) (by omega);have hsz:=hs l[i] (List.getElem_mem _);refine Ev.step (fun k=>aJ.l0.eq_2 _ _ _) ?_;simp only[if_pos (show ((i:Int)<(l.length:Int)) by omega),if_pos (show 0≤(i:Int) by omega),eA l i (by omega),d9,Option.bind_some];have hj2:∀(t o:Bool),((t || o)=true↔gg l[i])→Ev (fun k=>aJ.j2 k l (i:Int) t o l[i].f0 l[i].f1 l[i].f2) (decide (dH l i)):=by
   intro t o hto;refine Ev.step (fun k=>aJ.j2.eq_2 _ _ _ _ _ _ _ _) ?_;refine Ev.bind (e7 l[i].f0 (by omega)) ?_;cases hnm:eU (ar l[i].f0) with
   | false=>
    simp only[if_neg (show ¬(false=true) by decide)];refine dp (fun h=>?_) (Ev.now _);have:=gq.2 (hst.1 h).1.1;rw[hnm] at this;cases this
   | true=>
    simp only[if_true];obtain⟨r,hr,hq⟩:=eL l l[i].f0 (by omega);refine Ev.bind hr ?_;by_cases he:r=(i:Int)
    ·have hfirst:∀m (hm:m<i),l[m].f0≠l[i].f0:=by
      rcases hq with hq | ⟨j,hj,h1,h2,h3⟩
      ·omega
      ·obtain rfl:j=i:=by omega
       exact h3
     simp only[if_pos he,cm i (by omega)];have hnext:=ih (i+1) (by omega);by_cases hp:gg l[i]
     ·have hb:=hto.2 hp;have hgoal:Ev (fun k=>aJ.l0 k l ((i+1:Nat):Int)) (decide (dH l i)):=db (hst.trans ⟨fun h=>h.2,fun h=>⟨⟨gq.1 hnm,hp,hfirst⟩,h⟩⟩).symm hnext;cases t with
      | true=>simp only[if_true];exact hgoal
      | false=>
       have ho:o=true:=by simpa using hb
       simp only[if_neg (show ¬(false=true) by decide),ho,if_true];exact hgoal
     ·have hb:(t || o)=false:=by rw[Bool.eq_false_iff];exact fun h=>hp (hto.1 h)
      have ht:t=false:=by cases t;rfl;simp at hb
      have ho:o=false:=by cases o;rfl;simp at hb
      simp only[ht,ho,if_neg (show ¬(false=true) by decide)];exact dp (fun h=>hp (hst.1 h).1.2.1) (Ev.now _)
    ·simp only[if_neg he];refine dp (fun h=>?_) (Ev.now _);have h4:=(hst.1 h).1.2.2;rcases hq with ⟨h1,h2⟩ | ⟨j,hj,h1,h2,h3⟩
     ·exact h2 l[i] (List.getElem_mem _) rfl
     ·rcases Nat.lt_trichotomy j i with h5 | h5 | h5
      ·exact h4 j h5 h2
      ·exact he (by omega)
      ·exact h3 i h5 rfl
  have hj1:∀(t:Bool),(t=true↔(l[i].f1=1∧1≤l[i].f2∧l[i].f2≤9))→Ev (fun k=>aJ.j1 k l (i:Int) t l[i].f0 l[i].f1 l[i].f2) (decide (dH l i)):=by
   intro t ht;refine Ev.step (fun k=>aJ.j1.eq_2 _ _ _ _ _ _ _) ?_;simp only[d9,Option.bind_some,decide_eq_true_eq];by_cases h2:2≤l[i].f1∧l[i].f1≤3
   ·simp only[if_pos h2];refine hj2 t _ ?_;unfold gg
    rw[Bool.or_eq_true,ht,beq_iff_eq];constructor
    ·rintro (h | h)
     ·exact .inl h
     ·exact .inr ⟨h2.1,h2.2,h⟩
    ·rintro (h | h)
     ·exact .inl h
     ·exact .inr h.2.2
   ·simp only[if_neg h2];refine hj2 t false ?_;unfold gg
    rw[Bool.or_false,ht];exact⟨.inl,fun h=>h.resolve_right (fun h3=>h2 ⟨h3.1,h3.2.1⟩)⟩
  by_cases h1:l[i].f1=1
  ·simp only[if_pos h1];refine hj1 _ ?_;rw[decide_eq_true_eq];exact⟨fun h=>⟨h1,h⟩,fun h=>h.2⟩
  ·simp only[if_neg h1];exact hj1 false ⟨(fun h=>by cases h),fun h=>absurd h.1 h1⟩
theorem gl (l:List S92) (hn:l.length≤1048577) (hs:∀x∈l,x.f0.size≤1048576):Ev (fun k=>aJ.f k l) (fv l):=kn l hn hs l.length 0 (by omega)
open Classical in
theorem nb (F:List S92) (hF:F.length≤1048576) (hFs:∀x∈F,x.f0.size≤1048576) (key:ByteArray) (l:List S86) (hk:key.size≤1048576) (hn:l.length≤1048576) (hs:∀x∈l,x.f0.size≤1048576∧x.f1.size≤1048576):∀(d i:Nat),i+d=l.length →
  Ev (fun k=>bo.l0 k F (i:Int) key l) (decide ((∀c∈l.drop i,eD c.f1 60=true∧kL (dc F c.f0) c.f1)∧fv F=true∧jx key l=true)):=by
 intro d;induction d with
 | zero=>
  intro i hi;refine Ev.step (fun k=>bo.l0.eq_2 _ _ _ _ _) ?_;simp only[if_neg (show ¬((i:Int)<(l.length:Int)) by omega)];rw[List.drop_eq_nil_of_le (by omega)];refine Ev.bind (gl F (by omega) hFs) ?_;cases hf:fv F with
  | false=>simp only[if_neg (show ¬(false=true) by decide)];exact bu (fun h=>by cases h.2.1) (Ev.now _)
  | true=>
   simp only[if_true];refine Ev.bind (lM key l hk hn hs) ?_;cases hm:jx key l with
   | false=>exact bu (fun h=>by cases h.2.2) (Ev.now _)
   | true=>exact eG ⟨fun c hc=>by simp at hc,(by first | trivial | rfl),(by first | trivial | rfl)⟩ (Ev.now _)
 | succ d ih=>
  intro i hi;have hil:i<l.length:=by omega
  have hsz:=hs l[i] (List.getElem_mem _);obtain⟨r,hr,hq⟩:=eL F l[i].f0 (by omega);refine Ev.step (fun k=>bo.l0.eq_2 _ _ _ _ _) ?_;rw[cT l i hil];simp only[if_pos (show ((i:Int)<(l.length:Int)) by omega),if_pos (show 0≤(i:Int) by omega),fz l i hil,cm i (by omega)];refine Ev.bind hr ?_;rcases hq with ⟨rfl,hno⟩ | ⟨j,hj,rfl,hj2,hjb⟩
  ·simp only[if_pos (show (-1:Int)<0 by decide)];refine bu (fun h=>?_) (Ev.now _);have h1:=(h.1 l[i] (List.mem_cons_self ..)).2;unfold dc at h1
   rw[gK hno] at h1;rcases h1 with h1 | ⟨h1,_⟩ | ⟨h1,_⟩ <;> exact absurd h1 (by decide)
  ·have hk2:dc F l[i].f0=F[j].f1:=by unfold dc;rw[gH hj hj2 hjb]
   simp only[if_neg (show ¬(j:Int)<0 by omega),if_pos (show 0≤(j:Int) by omega),if_pos (show (j:Int)<(F.length:Int) by omega),eA F j hj];refine Ev.bind (mu _ _ _ l[i].f1 hsz.2) ?_;by_cases hc:eD l[i].f1 60=true∧kL F[j].f1 l[i].f1
   ·rw[decide_eq_true hc];simp only[if_true];refine da ⟨fun h=>⟨fun c hcm=>?_,h.2⟩,fun h=>⟨fun c hcm=>h.1 c (List.mem_cons_of_mem _ hcm),h.2⟩⟩ (ih (i+1) (by omega));rcases List.mem_cons.1 hcm with rfl | hcm
    ·rw[hk2];exact hc
    ·exact h.1 c hcm
   ·rw[decide_eq_false hc];simp only[if_neg (show ¬(false=true) by decide)];refine bu (fun h=>hc ?_) (Ev.now _);have:=h.1 l[i] (List.mem_cons_self ..);rw[hk2] at this;exact this
open Classical in
theorem m3 (F:List S92) (hF:F.length≤1048576) (hFs:∀x∈F,x.f0.size≤1048576) (key:ByteArray) (l:List S86) (hk:key.size≤1048576) (hn:l.length≤1048576) (hs:∀x∈l,x.f0.size≤1048576∧x.f1.size≤1048576):Ev (fun k=>bo.f k F key l) (gF F key l):=by
 simp only[bo.f,gF];have h:=nb F hF hFs key l hk hn hs l.length 0 (by omega);rw[List.drop_zero] at h;refine da ?_ h;unfold jh
 exact⟨fun h=>⟨h.2.1,h.2.2,fun c hc=>(h.1 c hc).2⟩,fun h=>⟨fun c hc=>⟨((ln h.2.1).1 c hc).2,h.2.2 c hc⟩,h.1,h.2.1⟩⟩
theorem oh (s:ByteArray) (hn:s.size<70368744177664):fj.f s=some (eH s):=by
 unfold fj.f
 rw[if_pos (by omega)];rfl
theorem m0 {α : Type} {l:List α} {j:Nat} {n : α} (h:j<l.length):n∈l.drop j↔n=l[j] ∨ n∈l.drop (j+1):=by
 rw[List.drop_eq_getElem_cons h,List.mem_cons]
open Classical in
theorem fA (l:List ByteArray) (n:ByteArray) (hn:l.length<4611686018427387904):∀(d i:Nat),i+d=l.length→∃r:Int,Ev (fun k=>aQ.l0 k l n (l.length:Int) (i:Int)) r∧decide (r≥0)=decide (n∈l.drop i):=by
 intro d;induction d with
 | zero=>
  intro i hi;refine⟨-1,Ev.step (fun k=>aQ.l0.eq_2 _ _ _ _ _) ?_,?_⟩
  ·simp only[if_neg (show ¬((i:Int)<(l.length:Int)) by omega)];exact Ev.now _
  ·rw[List.drop_of_length_le (by omega)];simp
 | succ d ih=>
  intro i hi;have hs:=m0 (l:=l) (n:=n) (show i<l.length by omega);by_cases h:n=l[i]
  ·refine⟨(i:Int),Ev.step (fun k=>aQ.l0.eq_2 _ _ _ _ _) ?_,?_⟩
   ·simp only[if_pos (show ((i:Int)<(l.length:Int)) by omega),if_pos (show 0≤(i:Int) by omega),ju l i (by omega),toList_inj,if_pos h];exact Ev.now _
   ·rw[decide_eq_true (hs.2 (.inl h))];simp
  ·obtain⟨r,h1,h2⟩:=ih (i+1) (by omega);refine⟨r,Ev.step (fun k=>aQ.l0.eq_2 _ _ _ _ _) ?_,?_⟩
   ·simp only[if_pos (show ((i:Int)<(l.length:Int)) by omega),if_pos (show 0≤(i:Int) by omega),ju l i (by omega),toList_inj,if_neg h,cm i (by omega)];exact h1
   ·rw[h2];exact decide_eq_decide.2 (hs.trans ⟨fun h1=>h1.resolve_left h,.inr⟩).symm
open Classical in
theorem dh (l:List ByteArray) (n:ByteArray) (hn:l.length<4611686018427387904):Ev (fun k=>aA.f k l n) (decide (n∈l)):=by
 obtain⟨r,h1,h2⟩:=fA l n hn l.length 0 (by omega);simp only[aA.f];refine Ev.bind (a:=r) h1 ?_;rw[h2];exact Ev.now _
open Classical in
theorem nZ (x:ByteArray) (hx:x.size≤100) (b:Bool) (hb:b=true→1≤x.size):Ev (fun k=>cl.j0 k x (x.size:Int) b) (fG (if b=true then x.extract 0 (x.size - 1) else x)):=by
 refine Ev.step (fun k=>cl.j0.eq_2 _ _ _ _) ?_;cases b with
 | false=>
  simp only[if_neg (show ¬(false=true) by decide)];refine Ev.bind (dh cQ x (by decide)) ?_;unfold fG
  by_cases h:x∈cQ
  ·simp only[if_pos h,decide_eq_true h,if_true];exact Ev.now _
  ·simp only[if_neg h,decide_eq_false h,if_neg (show ¬(false=true) by decide)];exact Ev.now _
 | true=>
  have h1:=hb rfl;simp only[if_true,b8 (x:=(x.size:Int) - 1) (by omega) (by omega),if_pos (show 0≤(x.size:Int) - 1 by omega),if_pos (show (x.size:Int) - 1≤(x.size:Int) by omega),show ((x.size:Int) - 1).toNat=x.size - 1 by omega];refine Ev.bind (dh cQ _ (by decide)) ?_;unfold fG
  by_cases h:x.extract 0 (x.size - 1)∈cQ
  ·simp only[if_pos h,decide_eq_true h,if_true];exact Ev.now _
  ·simp only[if_neg h,decide_eq_false h,if_neg (show ¬(false=true) by decide)];exact Ev.now _
theorem lN (w:ByteArray):(gZ w).size=min w.size 12:=extract_size w _ (Nat.min_le_left _ _)
theorem oD (s:ByteArray) (hs:s.size<70368744177664):Ev (fun k=>cl.f k s) (gU s):=by
 simp only[cl.f];have hz:=lD s;simp only[oh s hs,Option.bind_some];have hmn:mn ((eH s).size:Int) 12=((min (eH s).size 12:Nat):Int):=by unfold mn;split <;> omega
 simp only[hmn,if_pos (show (0:Int)≤((min (eH s).size 12:Nat):Int) by omega),if_pos (show ((min (eH s).size 12:Nat):Int)≤((eH s).size:Int) by omega),Int.toNat_natCast];have hc:(eH s).extract 0 (min (eH s).size 12)=gZ (eH s):=rfl;have hx:(gZ (eH s)).size≤100:=by rw[lN];omega
 simp only[hc];unfold gU
 generalize gZ (eH s)=x at hx;have key:∀b:Bool,b=jC x→Ev (fun k=>cl.j0 k x (x.size:Int) b) (fG (noS x)):=by
  intro b hb;have:=nZ x hx b (fun h=>by
   rw[hb] at h;have:=(of_decide_eq_true h).1;omega)
  rw[hb] at this ⊢;exact this
 by_cases h3:(x.size:Int)>3
 ·simp only[if_pos h3,b8 (x:=(x.size:Int) - 1) (by omega) (by omega),b8 (x:=(x.size:Int) - 2) (by omega) (by omega),if_pos (show 0≤(x.size:Int) - 1 by omega),if_pos (show (x.size:Int) - 1<(x.size:Int) by omega),if_pos (show 0≤(x.size:Int) - 2 by omega),if_pos (show (x.size:Int) - 2<(x.size:Int) by omega)];by_cases h4:bt x ((x.size:Int) - 1)=115
  ·simp only[if_pos h4];refine key _ ?_;unfold jC
   by_cases h5:bt x ((x.size:Int) - 2)=115
   ·rw[decide_eq_false (fun h=>h.2.2 h5)];simp[h5]
   ·rw[decide_eq_true ⟨by omega,h4,h5⟩];simp[h5]
  ·simp only[if_neg h4];refine key _ ?_;unfold jC
   rw[decide_eq_false (fun h=>h4 h.2.1)]
 ·simp only[if_neg h3];refine key _ ?_;unfold jC
  rw[decide_eq_false (fun h=>by have:=h.1;omega)]
theorem mE (l:List S90) (hn:l.length≤1048578) (hs:∀w∈l,w.f0.size<70368744177664):∀(d i:Nat) (acc:List ByteArray),i+d=l.length→acc.length≤i →
  Ev (fun k=>ck.l0 k acc l (l.length:Int) (i:Int)) (acc ++ (l.drop i).map (fun w=>gU w.f0)):=by
 intro d;induction d with
 | zero=>
  intro i acc hi ha;refine Ev.step (fun k=>ck.l0.eq_2 _ _ _ _ _) ?_;simp only[if_neg (show ¬((i:Int)<(l.length:Int)) by omega)];rw[List.drop_eq_nil_of_le (by omega),List.map_nil,List.append_nil];exact Ev.now _
 | succ d ih=>
  intro i acc hi ha;refine Ev.step (fun k=>ck.l0.eq_2 _ _ _ _ _) ?_;simp only[if_pos (show ((i:Int)<(l.length:Int)) by omega),if_pos (show 0≤(i:Int) by omega),ks l i (by omega),cm i (by omega)];refine Ev.bind (oD _ (hs _ (List.getElem_mem (by omega)))) ?_;simp only[if_pos (show acc.length<8796093022208 by omega)];have:=ih (i+1) (acc ++ [gU l[i].f0]) (by omega) (by simp;omega);rw[cT l i (by omega),List.map_cons];rw[List.append_assoc] at this;exact this
theorem iR (a:Int):dX.f a=some (decide (mV a)):=by
 unfold dX.f mV
 by_cases h:a≥48
 ·rw[if_pos h];congr 1;exact decide_eq_decide.2 (by omega)
 ·rw[if_neg h];congr 1;symm;exact decide_eq_false (by omega)
theorem iT (a:Int):dt.f a=some (decide (my a)):=by
 unfold dt.f my
 by_cases h:a≥97
 ·rw[if_pos h];congr 1;exact decide_eq_decide.2 (by omega)
 ·rw[if_neg h];congr 1;symm;exact decide_eq_false (by omega)
theorem m6 (a:Int):dr.f a=some (decide (upP a)):=by
 unfold dr.f upP
 by_cases h:a≥65
 ·rw[if_pos h];congr 1;exact decide_eq_decide.2 (by omega)
 ·rw[if_neg h];congr 1;symm;exact decide_eq_false (by omega)
theorem kc (c:Int):du.f c=some (decide (gn c)):=by
 simp only[du.f,m6,iT,iR,Option.bind_some,decide_eq_true_eq];by_cases h1:upP c
 ·rw[if_pos h1,decide_eq_true (show gn c from .inl h1)]
 ·rw[if_neg h1];by_cases h2:my c
  ·rw[if_pos h2,decide_eq_true (show gn c from .inr (.inl h2))]
  ·rw[if_neg h2];congr 1;exact decide_eq_decide.2 ⟨fun h=>.inr (.inr h),fun h=>(h.resolve_left h1).resolve_left h2⟩
theorem oe (s:ByteArray) (hn:s.size<1099511627776):∀(d:Nat),
  (∀(i:Nat) (acc:List S90),i+d=s.size→acc.length≤i→Ev (fun k=>bp.l0 k s acc (i:Int)) (acc ++ (cM i none ((ar s).drop i)).map (gD s))) ∧
  (∀(i j:Nat) (acc:List S90),i+d=s.size→j<i→acc.length≤i→Ev (fun k=>bp.l1 k s acc (i:Int) (j:Int)) (acc ++ (cM i (some j) ((ar s).drop i)).map (gD s))):=by
 have hb:=bX s;intro d;induction d with
 | zero=>
  have h0:∀(i:Nat) (acc:List S90),s.size≤i→Ev (fun k=>bp.l0 k s acc (i:Int)) acc:=by
   intro i acc hi;refine Ev.step (fun k=>bp.l0.eq_2 _ _ _ _) ?_;simp only[if_neg (show ¬((i:Int)<(s.size:Int)) by omega)];exact Ev.now _
  constructor
  ·intro i acc hi hacc;rw[List.drop_of_length_le (by omega)];simpa [cM] using h0 i acc (by omega)
  ·intro i j acc hi hj hacc;rw[List.drop_of_length_le (by omega)];refine Ev.step (fun k=>bp.l1.eq_2 _ _ _ _ _) ?_;simp only[if_neg (show ¬((i:Int)<(s.size:Int)) by omega),if_pos (show (i:Int)>(j:Int) by omega),if_pos (show 0≤(j:Int) by omega),if_pos (show (j:Int)≤(i:Int) by omega),if_pos (show (i:Int)≤(s.size:Int) by omega),if_pos (show acc.length<4398046511104 by omega),cm i (by omega),dM];exact h0 (i+1) _ (by omega)
 | succ d ih=>
  have h1:∀(i j:Nat) (acc:List S90),i+(d+1)=s.size→j≤i→acc.length≤i→Ev (fun k=>bp.l1 k s acc (i:Int) (j:Int)) (acc ++ (cM i (if j<i then some j else none) ((ar s).drop i)).map (gD s)):=by
   intro i j acc hi hj hacc;refine Ev.step (fun k=>bp.l1.eq_2 _ _ _ _ _) ?_;simp only[if_pos (show ((i:Int)<(s.size:Int)) by omega),if_pos (show 0≤(i:Int) by omega),gY s i (by omega),kc,Option.bind_some,decide_eq_true_eq,cm i (by omega)];rw[cT (ar s) i (by omega)];by_cases hw:gn (ar s)[i]
   ·simp only[if_pos hw];have:=ih.2 (i+1) j acc (by omega) (by omega) (by omega);by_cases hji:j<i
    ·simpa only[if_pos hji,cM,if_pos hw] using this
    ·obtain rfl:j=i:=by omega
     simpa only[if_neg hji,cM,if_pos hw] using this
   ·simp only[if_neg hw];by_cases hji:j<i
    ·simp only[if_pos hji,if_pos (show (i:Int)>(j:Int) by omega),if_pos (show 0≤(j:Int) by omega),if_pos (show (j:Int)≤(i:Int) by omega),if_pos (show (i:Int)≤(s.size:Int) by omega),if_pos (show acc.length<4398046511104 by omega),dM,cM,if_neg hw];have:=ih.1 (i+1) (acc ++ [gD s (j,i)]) (by omega) (by simp;omega);rw[List.append_assoc] at this;exact this
    ·simp only[if_neg hji,if_neg (show ¬(i:Int)>(j:Int) by omega),cM,if_neg hw];exact ih.1 (i+1) acc (by omega) (by omega)
  constructor
  ·intro i acc hi hacc;refine Ev.step (fun k=>bp.l0.eq_2 _ _ _ _) ?_;simp only[if_pos (show ((i:Int)<(s.size:Int)) by omega)];have:=h1 i i acc hi (Nat.le_refl _) hacc;simpa only[if_neg (Nat.lt_irrefl i)] using this
  ·intro i j acc hi hj hacc;have:=h1 i j acc hi (by omega) hacc;simpa only[if_pos hj] using this
theorem mF (s:ByteArray) (hn:s.size<1099511627776):Ev (fun k=>bp.f k s) (fh s):=by
 have:=(oe s hn s.size).1 0 [] (by omega) (by simp);rw[List.nil_append,List.drop_zero] at this;exact this
theorem iW (s:ByteArray) (hs:s.size≤1048578):Ev (fun k=>ck.f k s) (dg s):=by
 simp only[ck.f];have hl:=er s;refine Ev.bind (mF s (by omega)) ?_;exact mE (fh s) (by omega) (fun w hw=>by have:=iN s w hw;omega) (fh s).length 0 [] (by omega) (by simp)
theorem k9 (n:ByteArray) (F:List S92) (hn:F.length<4611686018427387904):∀(d i:Nat),i+d=F.length→Ev (fun k=>bs.l0 k n F (F.length:Int) (i:Int)) (ec n (F.drop i)):=by
 intro d;induction d with
 | zero=>
  intro i hi;refine Ev.step (fun k=>bs.l0.eq_2 _ _ _ _ _) ?_;simp only[if_neg (show ¬((i:Int)<(F.length:Int)) by omega)];rw[List.drop_eq_nil_of_le (by omega)];exact Ev.now _
 | succ d ih=>
  intro i hi;have hil:i<F.length:=by omega
  refine Ev.step (fun k=>bs.l0.eq_2 _ _ _ _ _) ?_;rw[cT F i hil];simp only[if_pos (show ((i:Int)<(F.length:Int)) by omega),if_pos (show 0≤(i:Int) by omega),eA F i hil,toList_inj,cm i (by omega),ec];by_cases h:F[i].f0=n
  ·simp only[if_pos h];exact Ev.now _
  ·simp only[if_neg h];exact ih (i+1) (by omega)
theorem gS (n:ByteArray) (F:List S92) (hn:F.length<4611686018427387904):Ev (fun k=>bs.f k F n) (ec n F):=by
 have:=k9 n F hn F.length 0 (by omega);simpa [bs.f] using this
open Classical in
noncomputable def iK (p:ByteArray × ByteArray) (id x:Int) (l:List S76):List S76:=
 if ∃e∈l,b9 e=p then l.map (fun e=>if b9 e=p then j4 id x e else e) else l ++ [il p id x]
theorem nC {p:ByteArray × ByteArray} {id x:Int} {l:List S76} (h:∀e∈l,b9 e≠p):l.map (fun e=>if b9 e=p then j4 id x e else e)=l:=by
 have:l.map (fun e=>if b9 e=p then j4 id x e else e)=l.map (fun e=>e):=List.map_congr_left (fun e he=>if_neg (h e he));rw[this,List.map_id']
def dP (l:List S76):Prop:=l.Pairwise (fun a b=>ltP (b9 a) (b9 b))
theorem nI (p:ByteArray × ByteArray) (id x:Int):∀ {l:List S76},dP l→(d8 p id x l).Perm (iK p id x l)
 | [],_=>by
  rw[d8,iK,if_neg (by simp)];exact List.Perm.refl _
 | e :: l,h=>by
  obtain⟨h1,h2⟩:=List.pairwise_cons.1 h;have ih:=nI p id x h2;rw[d8];split
  ·rename_i hlt
   have hne:b9 e≠p:=fun he=>dA _ (by rw[← he] at hlt;exact hlt)
   have e2:iK p id x (e :: l)=e :: iK p id x l:=by
    unfold iK
    by_cases hc:∃y∈l,b9 y=p
    ·rw[if_pos hc,if_pos (by obtain⟨y,hy,hk⟩:=hc;exact⟨y,List.mem_cons_of_mem _ hy,hk⟩),List.map_cons,if_neg hne]
    ·rw[if_neg hc,if_neg (fun ⟨y,hy,hk⟩=>by
      rcases List.mem_cons.1 hy with hy | hy
      ·exact hne (by rw[← hy];exact hk)
      ·exact hc ⟨y,hy,hk⟩)]
     rfl
   rw[e2];exact ih.cons _
  ·rename_i hlt
   split
   ·rename_i heq
    have hno:∀y∈l,b9 y≠p:=fun y hy hk=>dA _ (by have:=h1 y hy;rw[heq,hk] at this;exact this)
    have e2:iK p id x (e :: l)=j4 id x e :: l:=by
     unfold iK
     rw[if_pos ⟨e,by simp,heq⟩,List.map_cons,if_pos heq,nC hno]
    rw[e2]
   ·rename_i hne
    have hgt:ltP p (b9 e):=by
     rcases fq (b9 e) p with h | h | h
     ·exact absurd h hlt
     ·exact absurd h hne
     ·exact h
    have hno:∀y∈e :: l,b9 y≠p:=fun y hy hk=>by
     rcases List.mem_cons.1 hy with hy | hy
     ·exact hne (by rw[← hy];exact hk)
     ·exact dA _ (by have:=fm hgt (h1 y hy);rw[hk] at this;exact this)
    have e2:iK p id x (e :: l)=(e :: l) ++ [il p id x]:=by
     unfold iK
     rw[if_neg (fun ⟨y,hy,hk⟩=>hno y hy hk)]
    rw[e2];exact(List.perm_append_singleton _ _).symm
theorem o7 {p:ByteArray × ByteArray} {id x:Int} : ∀ {l:List S76} {y:S76},y∈d8 p id x l→b9 y=p∨∃e∈l,b9 y=b9 e
 | [],y,h=>by
  rw[d8,List.mem_singleton] at h;exact .inl (by rw[h];rfl)
 | e :: l,y,h=>by
  rw[d8] at h;split at h
  ·rcases List.mem_cons.1 h with h | h
   ·exact .inr ⟨e,by simp,by rw[h]⟩
   ·rcases o7 h with h | ⟨z,hz,h⟩
    ·exact .inl h
    ·exact .inr ⟨z,List.mem_cons_of_mem _ hz,h⟩
  ·split at h
   ·rcases List.mem_cons.1 h with h | h
    ·exact .inr ⟨e,by simp,by rw[h];rfl⟩
    ·exact .inr ⟨y,List.mem_cons_of_mem _ h,rfl⟩
   ·rcases List.mem_cons.1 h with h | h
    ·exact .inl (by rw[h];rfl)
    ·exact .inr ⟨y,h,rfl⟩
theorem f3 (p:ByteArray × ByteArray) (id x:Int):∀ {l:List S76},dP l→dP (d8 p id x l)
 | [],_=>by rw[d8];exact List.pairwise_singleton _ _
 | e :: l,h=>by
  obtain⟨h1,h2⟩:=List.pairwise_cons.1 h;rw[d8];split
  ·rename_i hlt
   refine List.pairwise_cons.2 ⟨fun y hy=>?_,f3 p id x h2⟩;rcases o7 hy with hy | ⟨z,hz,hy⟩
   ·rw[hy];exact hlt
   ·rw[hy];exact h1 z hz
  ·rename_i hlt
   split
   ·exact List.pairwise_cons.2 ⟨h1,h2⟩
   ·rename_i hne
    have hgt:ltP p (b9 e):=by
     rcases fq (b9 e) p with h | h | h
     ·exact absurd h hlt
     ·exact absurd h hne
     ·exact h
    refine List.pairwise_cons.2 ⟨fun y hy=>?_,h⟩;rcases List.mem_cons.1 hy with hy | hy
    ·rw[hy];exact hgt
    ·exact fm hgt (h1 y hy)
theorem qQ {p:ByteArray × ByteArray} {id x:Int} {l m:List S76} (h:l.Perm m):(iK p id x l).Perm (iK p id x m):=by
 unfold iK
 by_cases hc:∃e∈l,b9 e=p
 ·rw[if_pos hc,if_pos (by obtain⟨e,he,hk⟩:=hc;exact⟨e,h.mem_iff.1 he,hk⟩)];exact h.map _
 ·rw[if_neg hc,if_neg (fun ⟨e,he,hk⟩=>hc ⟨e,h.mem_iff.2 he,hk⟩)];exact h.append_right _
theorem lR {p:ByteArray × ByteArray} {id x:Int} : ∀ {G:List ((ByteArray × ByteArray) × List S50)} {y:ByteArray × ByteArray},y∈(PFnIndexPosts.stepG G p id x).map (·.1)→y=p∨y∈G.map (·.1)
 | [],y,h=>by
  rw[PFnIndexPosts.stepG] at h;exact .inl (by simpa using h)
 | g :: G,y,h=>by
  rw[PFnIndexPosts.stepG] at h;split at h
  ·rename_i heq
   rw[List.map_cons] at h;rcases List.mem_cons.1 h with h | h
   ·exact .inl h
   ·exact .inr (by rw[List.map_cons];exact List.mem_cons_of_mem _ h)
  ·rw[List.map_cons] at h;rcases List.mem_cons.1 h with h | h
   ·exact .inr (by rw[List.map_cons,h];exact List.mem_cons_self ..)
   ·rcases lR h with h | h
    ·exact .inl h
    ·exact .inr (by rw[List.map_cons];exact List.mem_cons_of_mem _ h)
theorem g9 {p:ByteArray × ByteArray} {id x:Int} : ∀ {G:List ((ByteArray × ByteArray) × List S50)},(G.map (·.1)).Nodup→((PFnIndexPosts.stepG G p id x).map (·.1)).Nodup
 | [],_=>by rw[PFnIndexPosts.stepG];simp
 | g :: G,hn=>by
  rw[List.map_cons,List.nodup_cons] at hn;rw[PFnIndexPosts.stepG];split
  ·rename_i heq
   rw[List.map_cons,List.nodup_cons];exact⟨by show p ∉ _;rw[← heq];exact hn.1,hn.2⟩
  ·rename_i hne
   rw[List.map_cons,List.nodup_cons];refine⟨fun h=>?_,g9 hn.2⟩;rcases lR h with h | h
   ·exact hne h
   ·exact hn.1 h
theorem me {p:ByteArray × ByteArray} {id x:Int} : ∀ {G:List ((ByteArray × ByteArray) × List S50)},(G.map (·.1)).Nodup→(PFnIndexPosts.stepG G p id x).map toE=iK p id x (G.map toE)
 | [],_=>by
  rw[PFnIndexPosts.stepG,iK,if_neg (by simp)];rfl
 | g :: G,hn=>by
  rw[List.map_cons,List.nodup_cons] at hn;have ih:=me (p:=p) (id:=id) (x:=x) hn.2;have hkey:∀y:(ByteArray × ByteArray) × List S50,b9 (toE y)=y.1:=fun y=>rfl
  rw[PFnIndexPosts.stepG];split
  ·rename_i heq
   have hno:∀y∈G.map toE,b9 y≠p:=fun y hy hk=>by
    obtain⟨z,hz,rfl⟩:=List.mem_map.1 hy;rw[hkey] at hk;exact hn.1 (List.mem_map.2 ⟨z,hz,by rw[hk,heq]⟩)
   unfold iK
   rw[List.map_cons,List.map_cons,if_pos ⟨toE g,by simp,by rw[hkey];exact heq⟩,List.map_cons,if_pos (by rw[hkey];exact heq),nC hno];subst heq;rfl
  ·rename_i hne
   rw[List.map_cons,ih,List.map_cons];unfold iK
   by_cases hc:∃y∈G.map toE,b9 y=p
   ·rw[if_pos hc,if_pos (by obtain⟨y,hy,hk⟩:=hc;exact⟨y,List.mem_cons_of_mem _ hy,hk⟩),List.map_cons,if_neg (by rw[hkey];exact hne)]
   ·rw[if_neg hc,if_neg (fun ⟨y,hy,hk⟩=>by
     rcases List.mem_cons.1 hy with hy | hy
     ·rw[hy,hkey] at hk;exact hne hk
     ·exact hc ⟨y,hy,hk⟩)]
    rfl
theorem lF (G:List ((ByteArray × ByteArray) × List S50)):(G.map toE).map b9=G.map (·.1):=by
 rw[List.map_map];rfl
theorem qU {G:List ((ByteArray × ByteArray) × List S50)} (hn:(G.map (·.1)).Nodup) (p:ByteArray × ByteArray) (id x:Int):dQ ((PFnIndexPosts.stepG G p id x).map toE)=d8 p id x (dQ (G.map toE)):=by
 have hs:dP (dQ (G.map toE)):=eX _ (by rw[lF];exact hn);refine j8 ?_ (eX _ (by rw[lF];exact g9 hn)) (f3 p id x hs);refine(fT _).trans ?_;rw[me hn];exact(qQ (fT _).symm).trans (nI p id x hs).symm
theorem je (id:Int) (name:ByteArray):∀(ts:List ByteArray) (x:Int) (G:List ((ByteArray × ByteArray) × List S50)),(G.map (·.1)).Nodup →
  gj id name ts x (dQ (G.map toE))=dQ ((gf id name ts x G).map toE)∧((gf id name ts x G).map (·.1)).Nodup
 | [],_,G,hn=>⟨rfl,hn⟩
 | t :: ts,x,G,hn=>by
  rw[gj,gf];by_cases ht:t.size=0
  ·rw[if_pos ht,if_pos ht];exact je id name ts (x+1) G hn
  ·rw[if_neg ht,if_neg ht,← qU hn];exact je id name ts (x+1) _ (g9 hn)
theorem rW (w:ByteArray):(noS w).size≤w.size:=by
 unfold noS
 split
 ·rw[extract_size w _ (by omega)];omega
 ·exact Nat.le_refl _
theorem pi (w:ByteArray):(fG w).size≤w.size:=by
 unfold fG
 split
 ·exact Nat.zero_le _
 ·exact Nat.le_refl _
theorem qb (s:ByteArray):(gU s).size≤12:=by
 have h1:=pi (noS (gZ (eH s)));have h2:=rW (gZ (eH s));have h3:=lN (eH s);unfold gU;omega
theorem od (s:ByteArray):((dg s).all fun t=>decide (t.size≤1000000))=true:=by
 rw[List.all_eq_true];intro t ht;obtain⟨w,_,rfl⟩:=List.mem_map.1 ht;have:=qb w.f0;exact decide_eq_true (by omega)
set_option maxRecDepth 20000 in
theorem iA (F:List S92) (hF:F.length≤1048576) (id:Int):∀(cs:List S86) (G:List ((ByteArray × ByteArray) × List S50)) (n:Nat),(G.map (·.1)).Nodup→ee n (dQ (G.map toE))→(∀x∈cs,x.f0.size≤1000000∧x.f1.size≤1000)→n+cs.length*1000≤1000000 →
  ∃(G':List ((ByteArray × ByteArray) × List S50)) (n':Nat),Ev (fun k=>entriesW.cs k F id cs (G,n)) (G',n')∧Ev (fun k=>b6.cs k F id cs (dQ (G.map toE))) (dQ (G'.map toE))∧(G'.map (·.1)).Nodup∧ee n' (dQ (G'.map toE))∧n'≤n+cs.length*1000
 | [],G,n,hn,hg,_,_=>⟨G,n,fS (fun k=>rfl),fS (fun k=>rfl),hn,hg,by omega⟩
 | c :: cs,G,n,hn,hg,hs,hc=>by
  rw[List.length_cons] at hc;have hsc:=hs c (by simp);have hst:=fun x hx=>hs x (List.mem_cons_of_mem _ hx)
  simp only[entriesW.cs,b6.cs];have hf:=gS c.f0 F (by omega);have hk:=gR F hF c.f0;by_cases h1:dc F c.f0=1
  ·have hlen:(dg c.f1).length≤1000:=by rw[gi];have:=er c.f1;omega
   obtain⟨hw1,hw2⟩:=ez id c.f0 (dg c.f1) 0 (dQ (G.map toE)) n hg (by omega);obtain⟨hf1,hf2⟩:=je id c.f0 (dg c.f1) 0 G hn;rw[hf1] at hw1 hw2;obtain⟨G',n',e1,e2,e3,e4,e5⟩:=iA F hF id cs (gf id c.f0 (dg c.f1) 0 G) (n+(dg c.f1).length) hf2 hw2 hst (by omega);refine⟨G',n',?_,?_,e3,e4,by rw[List.length_cons];omega⟩
   ·refine Ev.bind hf ?_;have h1':(ec c.f0 F).2.1=1:=h1;simp only[if_pos h1'];refine Ev.bind (iW c.f1 (by omega)) ?_;have hcond:n+(dg c.f1).length≤1000000∧c.f0.size≤1000000∧((dg c.f1).all fun t=>decide (t.size≤1000000))=true:=⟨by omega,by omega,od _⟩;simp only[if_pos hcond];exact e1
   ·refine Ev.bind hk ?_;simp only[h1,beq_self_eq_true,if_true];refine Ev.bind (iS c.f1 (by omega)) ?_;exact Ev.bind hw1 e2
  ·obtain⟨G',n',e1,e2,e3,e4,e5⟩:=iA F hF id cs G n hn hg hst (by omega);refine⟨G',n',?_,?_,e3,e4,by rw[List.length_cons];omega⟩
   ·refine Ev.bind hf ?_;have h1':¬(ec c.f0 F).2.1=1:=h1;simp only[if_neg h1'];exact e1
   ·refine Ev.bind hk ?_;rw[beq_eq_false_iff_ne.2 h1];simp only[if_neg (show ¬(false=true) by decide)];exact e2
set_option maxRecDepth 20000 in
theorem nt (F:List S92) (hF:F.length≤1048576):∀(rs:List S46) (G:List ((ByteArray × ByteArray) × List S50)) (n:Nat),(G.map (·.1)).Nodup→ee n (dQ (G.map toE))→(∀r∈rs,r.f1.f1.length≤4∧∀x∈r.f1.f1,x.f0.size≤1000000∧x.f1.size≤1000)→n+rs.length*4000≤1000000 →
  ∃(G':List ((ByteArray × ByteArray) × List S50)) (n':Nat),Ev (fun k=>entriesW.rs k F rs (G,n)) (G',n')∧Ev (fun k=>bn.rs k F rs (dQ (G.map toE))) (dQ (G'.map toE))∧ee n' (dQ (G'.map toE))∧n'≤n+rs.length*4000
 | [],G,n,hn,hg,_,_=>⟨G,n,fS (fun k=>rfl),fS (fun k=>rfl),hg,by omega⟩
 | r :: rs,G,n,hn,hg,hs,hc=>by
  rw[List.length_cons] at hc;have hsr:=hs r (by simp);obtain⟨G1,n1,e1,e2,e3,e4,e5⟩:=iA F hF r.f0 r.f1.f1 G n hn hg hsr.2 (by omega);obtain⟨G2,n2,d1,d2,d4,d5⟩:=nt F hF rs G1 n1 e3 e4 (fun x hx=>hs x (List.mem_cons_of_mem _ hx)) (by omega);refine⟨G2,n2,?_,?_,d4,by rw[List.length_cons];omega⟩
  ·simp only[entriesW.rs];exact Ev.bind e1 d1
  ·simp only[bn.rs];exact Ev.bind e2 d2
theorem l8 (F:List S92) (hF:F.length≤1048576) (rs:List S46) (hs:∀r∈rs,r.f1.f1.length≤4∧∀x∈r.f1.f1,x.f0.size≤1000000∧x.f1.size≤1000) (hc:rs.length≤8) :
  ∃L:List S76,Ev (fun k=>dS.f k F rs) L∧Ev (fun k=>bn.f k F rs) L∧ee 32000 L:=by
 have hg:ee 0 (dQ (([] : List ((ByteArray × ByteArray) × List S50)).map toE)):=⟨Nat.le_refl _,fun e he=>by cases he⟩;obtain⟨G,n,e1,e2,e3,e4⟩:=nt F hF rs [] 0 List.nodup_nil hg hs (by omega);refine⟨dQ (G.map toE),?_,?_,dK e3 (by omega)⟩
 ·simp only[dS.f,entriesW.f];exact Ev.bind e1 (Ev.now _)
 ·simp only[bn.f];exact e2
theorem sq (R:List S46) (hR:R.length≤1099511627776) (key:ByteArray):Ev (fun k=>cx.f k R key) (ej key 0 R):=by
 have main:∀(d i:Nat),i+d=R.length→Ev (fun k=>cx.l0 k R key (i:Int)) (ej key i (R.drop i)):=by
  intro d;induction d with
  | zero=>
   intro i hi;refine Ev.step (fun k=>cx.l0.eq_2 _ _ _ _) ?_;simp only[if_neg (show ¬((i:Int)<(R.length:Int)) by omega)];rw[List.drop_eq_nil_of_le (by omega),ej];exact Ev.now _
  | succ d ih=>
   intro i hi;have hil:i<R.length:=by omega
   refine Ev.step (fun k=>cx.l0.eq_2 _ _ _ _) ?_;rw[cT R i hil,ej];simp only[if_pos (show ((i:Int)<(R.length:Int)) by omega),if_pos (show (0:Int)≤(i:Int) by omega),fx R i hil,cm i (by omega),beq_iff_eq];by_cases h:R[i].f1.f0.toList=key.toList
   ·simp only[if_pos h];exact Ev.now _
   ·simp only[if_neg h];exact ih (i+1) (by omega)
 have:=main R.length 0 (by omega);simpa [cx.f] using this
open Classical in
theorem pP {s:ByteArray} {m:Int} (h:eD s m=true):(s.size:Int)≤m:=by
 unfold eD at h
 exact(decide_eq_true_iff.1 h).2
open Classical in
theorem iz {F:List S92} {R:List S46} {n:Int} (h:dC F R n 0):∀r∈R,r.f1.f1.length≤4∧∀x∈r.f1.f1,x.f0.size≤1000000∧x.f1.size≤1000:=by
 intro r hr;obtain⟨i,hi,rfl⟩:=List.mem_iff_getElem.1 hr;have h1:=(h i hi (Nat.zero_le _)).1;have hp:jh F R[i].f1.f0 R[i].f1.f1:=by unfold gF at h1;exact of_decide_eq_true h1
 have hf:=ln hp.2.1;refine⟨hf.2.2,fun x hx=>?_⟩;have h2:=hf.1 x hx;have h3:=pP h2.2;have h4:=(gq.1 h2.1).2.2;rw[bX] at h4;exact⟨by omega,by omega⟩
theorem eh {F:List S92} {R:List S46} {n:Int} {i:Nat} (h:i<R.length):dC F R n i↔pB F R n i h∧dC F R n (i+1):=by
 constructor
 ·intro h2;exact⟨h2 i h (Nat.le_refl _),fun j hj hij=>h2 j hj (by omega)⟩
 ·rintro ⟨h1,h2⟩ j hj hij;rcases Nat.lt_or_ge i j with hlt | hge
  ·exact h2 j hj hlt
  ·obtain rfl:i=j:=by omega
   exact h1
theorem mo {p q:S76} : p=q↔p.f0=q.f0∧p.f1=q.f1∧p.f2=q.f2:=by
 constructor
 ·intro h;rw[h];exact⟨rfl,rfl,rfl⟩
 ·obtain⟨a,b,e⟩:=p;obtain⟨c,d,f⟩:=q;rintro ⟨h1,h2,h3⟩;have h1':a=c:=h1;have h2':b=d:=h2;have h3':e=f:=h3;rw[h1',h2',h3']
theorem cS {α : Type} {a b:List α} {j:Nat} (ha:j<a.length) (hb:j<b.length):a.drop j=b.drop j↔a[j] = b[j] ∧ a.drop (j+1)=b.drop (j+1):=by
 rw[List.drop_eq_getElem_cons ha,List.drop_eq_getElem_cons hb,List.cons.injEq]
open Classical in
theorem rG (a b:List Int) (ha:a.length≤1099511627776):Ev (fun k=>cA.f k a b) (decide (a=b)):=by
 simp only[cA.f];by_cases hl:a.length=b.length
 ·simp only[if_pos (show (a.length:Int)=(b.length:Int) by omega)];have main:∀(d i:Nat),i+d=a.length→Ev (fun k=>cA.l0 k a b (i:Int)) (decide (a.drop i=b.drop i)):=by
   intro d;induction d with
   | zero=>
    intro i hi;refine Ev.step (fun k=>cA.l0.eq_2 _ _ _ _) ?_;simp only[if_neg (show ¬((i:Int)<(a.length:Int)) by omega)];rw[List.drop_eq_nil_of_le (by omega),List.drop_eq_nil_of_le (by omega)];exact eG rfl (Ev.now _)
   | succ d ih=>
    intro i hi;have hia:i<a.length:=by omega
    have hib:i<b.length:=by omega
    refine Ev.step (fun k=>cA.l0.eq_2 _ _ _ _) ?_;simp only[if_pos (show ((i:Int)<(a.length:Int)) by omega),if_pos (show (0:Int)≤(i:Int) by omega),if_pos (show ((i:Int)<(b.length:Int)) by omega),g5 a i hia,g5 b i hib,cm i (by omega)];by_cases h:a[i] = b[i]
    ·simp only[if_pos h];exact da ⟨fun h2=>(cS hia hib).2 ⟨h,h2⟩,fun h2=>((cS hia hib).1 h2).2⟩ (ih (i+1) (by omega))
    ·simp only[if_neg h];exact bu (fun h2=>h ((cS hia hib).1 h2).1) (Ev.now _)
  have:=main a.length 0 (by omega);simpa using this
 ·simp only[if_neg (show ¬(a.length:Int)=(b.length:Int) by omega)];exact bu (fun h=>hl (by rw[h])) (Ev.now _)
theorem nO {p q:S50} : p=q↔p.f0=q.f0∧p.f1=q.f1:=by
 constructor
 ·intro h;rw[h];exact⟨rfl,rfl⟩
 ·obtain⟨a,b⟩:=p;obtain⟨c,d⟩:=q;rintro ⟨h1,h2⟩;have h1':a=c:=h1;have h2':b=d:=h2;rw[h1',h2']
open Classical in
theorem js:∀(a b:List S50),a.length=b.length→(∀p∈a,p.f1.length≤1099511627776)→Ev (fun k=>a8.ps k a b) (decide (a=b))
 | [],[],_,_=>eG rfl (fS (fun k=>by rw[a8.ps];intro _ _ _ _ h;cases h))
 | p :: a,q :: b,hl,hs=>by
  have ih:=js a b (by simpa using hl) (fun x hx=>hs x (List.mem_cons_of_mem _ hx));have hi:=rG p.f1 q.f1 (hs p (by simp));simp only[a8.ps];by_cases h0:p.f0=q.f0
  ·simp only[if_pos h0];refine Ev.bind hi ?_;by_cases h1:p.f1=q.f1
   ·rw[decide_eq_true h1];simp only[if_true];exact da ⟨fun h=>by rw[h,nO.2 ⟨h0,h1⟩],fun h=>(List.cons.inj h).2⟩ ih
   ·rw[decide_eq_false h1];simp only[if_neg (show ¬(false=true) by decide)];exact bu (fun h=>h1 (by rw[(List.cons.inj h).1])) (Ev.now _)
  ·simp only[if_neg h0];exact bu (fun h=>h0 (by rw[(List.cons.inj h).1])) (Ev.now _)
 | [],_ :: _,h,_=>by simp at h
 | _ :: _,[],h,_=>by simp at h
open Classical in
theorem jI:∀(a b:List S76),a.length=b.length→(∀e∈a,∀p∈e.f2,p.f1.length≤1099511627776)→Ev (fun k=>a8.es k a b) (decide (a=b))
 | [],[],_,_=>eG rfl (fS (fun k=>by rw[a8.es];intro _ _ _ _ h;cases h))
 | p :: a,q :: b,hl,hs=>by
  have ih:=jI a b (by simpa using hl) (fun x hx=>hs x (List.mem_cons_of_mem _ hx));simp only[a8.es,toList_inj];by_cases h0:p.f0=q.f0
  ·simp only[if_pos h0];by_cases h1:p.f1=q.f1
   ·simp only[if_pos h1];by_cases h2:p.f2.length=q.f2.length
    ·simp only[if_pos h2];refine Ev.bind (js p.f2 q.f2 h2 (hs p (by simp))) ?_;by_cases h3:p.f2=q.f2
     ·rw[decide_eq_true h3];simp only[if_true];exact da ⟨fun h=>by rw[h,mo.2 ⟨h0,h1,h3⟩],fun h=>(List.cons.inj h).2⟩ ih
     ·rw[decide_eq_false h3];simp only[if_neg (show ¬(false=true) by decide)];exact bu (fun h=>h3 (by rw[(List.cons.inj h).1])) (Ev.now _)
    ·simp only[if_neg h2];exact bu (fun h=>h2 (by rw[(List.cons.inj h).1])) (Ev.now _)
   ·simp only[if_neg h1];exact bu (fun h=>h1 (by rw[(List.cons.inj h).1])) (Ev.now _)
  ·simp only[if_neg h0];exact bu (fun h=>h0 (by rw[(List.cons.inj h).1])) (Ev.now _)
 | [],_ :: _,h,_=>by simp at h
 | _ :: _,[],h,_=>by simp at h
open Classical in
theorem lp (a b:List S76) (hs:∀e∈a,∀p∈e.f2,p.f1.length≤1099511627776):Ev (fun k=>a8.f k a b) (decide (a=b)):=by
 simp only[a8.f];by_cases hl:a.length=b.length
 ·simp only[if_pos hl];exact jI a b hl hs
 ·simp only[if_neg hl];exact bu (fun h=>hl (by rw[h])) (Ev.now _)
open Classical in
theorem kZ {F:List S92} {R:List S46} {E:List S76} (hz:fN F R E) (n:Int):∀(d i:Nat),i+d=R.length→(∀(j:Nat) (h:j<R.length),j<i→pB F R n j h)→Ev (fun k=>ax.l0 k (i:Int) F R E n) (decide (dC F R n i∧iX F R E n)):=by
 have hr:=hz.r;intro d;induction d with
 | zero=>
  intro i hi hprev;have hall:dC F R n 0:=fun j hj _=>hprev j hj (by omega)
  have hend:dC F R n i:=fun j hj hij=>by omega
  refine Ev.step (fun k=>ax.l0.eq_2 _ _ _ _ _ _) ?_;simp only[if_neg (show ¬((i:Int)<(R.length:Int)) by omega)];refine Ev.bind (gl F (by have:=hz.f;omega) hz.fs) ?_;cases hf:fv F with
  | false=>simp only[if_neg (show ¬(false=true) by decide)];exact bu (fun h=>by have:=h.2.1;rw[hf] at this;cases this) (Ev.now _)
  | true=>
   simp only[if_true];by_cases h8:R.length≤8
   ·simp only[if_pos (show ((R.length:Int)≤8) by omega),d9,Option.bind_some];by_cases hn:0≤n∧n≤999999999
    ·simp only[decide_eq_true hn,if_true];obtain⟨L,h1,h2,h3⟩:=l8 F hz.f R (iz hall) h8;refine Ev.bind h2 ?_;refine Ev.bind (lp L E (fun e he p hp=>by have:=((h3.2 e he).2).2 p hp;omega)) ?_;refine da ⟨fun h=>⟨hend,hf,h8,hn,by rw[← h];exact h2⟩,fun h=>iv h2 h.2.2.2.2⟩ (Ev.now (decide (L=E)))
    ·simp only[decide_eq_false hn,if_neg (show ¬(false=true) by decide)];exact bu (fun h=>hn h.2.2.2.1) (Ev.now _)
   ·simp only[if_neg (show ¬((R.length:Int)≤8) by omega)];exact bu (fun h=>h8 h.2.2.1) (Ev.now _)
 | succ d ih=>
  intro i hi hprev;have hil:i<R.length:=by omega
  have hs:=hz.rs _ (List.getElem_mem hil);have next:pB F R n i hil→Ev (fun k=>ax.l0 k ((i+1:Nat):Int) F R E n) (decide (dC F R n i∧iX F R E n)):=fun hp=>
   da ⟨fun h=>⟨(eh hil).2 ⟨hp,h.1⟩,h.2⟩,fun h=>⟨((eh hil).1 h.1).2,h.2⟩⟩ (ih (i+1) (by omega) (fun j hj hji=>by
    rcases Nat.lt_or_ge j i with hlt | hge
    ·exact hprev j hj hlt
    ·obtain rfl:j=i:=by omega
     exact hp))
  have stop:¬pB F R n i hil→Ev (fun _:Nat=>some false) (decide (dC F R n i∧iX F R E n)):=fun hp=>bu (fun h=>hp ((eh hil).1 h.1).1) (Ev.now _)
  refine Ev.step (fun k=>ax.l0.eq_2 _ _ _ _ _ _) ?_;simp only[if_pos (show ((i:Int)<(R.length:Int)) by omega),if_pos (show (0:Int)≤(i:Int) by omega),fx R i hil,cm i (by omega)];refine Ev.bind (m3 F hz.f hz.fs R[i].f1.f0 R[i].f1.f1 hs.1 hs.2.1 hs.2.2) ?_;cases hd:gF F R[i].f1.f0 R[i].f1.f1 with
  | false=>simp only[if_neg (show ¬(false=true) by decide)];exact stop (fun h=>by have:=h.1;rw[hd] at this;cases this)
  | true=>
   simp only[if_true];refine Ev.bind (sq R (by omega) R[i].f1.f0) ?_;by_cases hk:ej R[i].f1.f0 0 R=(i:Int)
   ·simp only[if_pos hk,d9,Option.bind_some];by_cases hin:0≤R[i].f0∧R[i].f0≤wrap64 (n - 1)
    ·simp only[decide_eq_true hin,if_true];by_cases h0:0<i
     ·obtain⟨m,rfl⟩:∃m,i=m+1:=⟨i - 1,by omega⟩;simp only[if_pos (show ((m+1:Nat):Int)>0 by omega),qC m (by omega),if_pos (show (0:Int)≤(m:Int) by omega),if_pos (show ((m:Int)<(R.length:Int)) by omega),fx R m (by omega)];by_cases ho:R[m].f0≥R[m+1].f0
      ·simp only[if_pos ho];exact stop (fun h=>by have h2:R[m].f0<R[m+1].f0:=h.2.2.2 h0;omega)
      ·simp only[if_neg ho];exact next ⟨hd,hk,hin,fun _=>by show R[m].f0<R[m+1].f0;omega⟩
     ·simp only[if_neg (show ¬((i:Int)>0) by omega)];exact next ⟨hd,hk,hin,fun h=>absurd h h0⟩
    ·simp only[decide_eq_false hin,if_neg (show ¬(false=true) by decide)];exact stop (fun h=>hin h.2.2.1)
   ·simp only[if_neg hk];exact stop (fun h=>hk h.2.1)
theorem gT {F:List S92} {R:List S46} {E:List S76} (hz:fN F R E) (n:Int):Ev (fun k=>ax.f k F R E n) (eO F R E n):=by
 have:=kZ hz n R.length 0 (by omega) (fun j hj h=>by omega);simpa [ax.f,eO] using this
set_option maxRecDepth 20000 in
theorem mj (F:List S92) (hF:F.length≤1048576):∀(rs:List S46) (G:List ((ByteArray × ByteArray) × List S50)) (n:Nat),(G.map (·.1)).Nodup→ee n (dQ (G.map toE))→(∀r∈rs,r.f1.f1.length≤4∧∀x∈r.f1.f1,x.f0.size≤1000000∧x.f1.size≤1000)→n+rs.length*4000≤1000000 →
  ∃(G':List ((ByteArray × ByteArray) × List S50)) (n':Nat),Ev (fun k=>entriesW.rs k F rs (G,n)) (G',n')∧Ev (fun k=>bn.rs k F rs (dQ (G.map toE))) (dQ (G'.map toE))∧(ee n' (dQ (G'.map toE))∧(G'.map (·.1)).Nodup)∧n'≤n+rs.length*4000
 | [],G,n,hn,hg,_,_=>⟨G,n,fS (fun k=>rfl),fS (fun k=>rfl),⟨hg,hn⟩,by omega⟩
 | r :: rs,G,n,hn,hg,hs,hc=>by
  rw[List.length_cons] at hc;have hsr:=hs r (by simp);obtain⟨G1,n1,e1,e2,e3,e4,e5⟩:=iA F hF r.f0 r.f1.f1 G n hn hg hsr.2 (by omega);obtain⟨G2,n2,d1,d2,d4,d5⟩:=mj F hF rs G1 n1 e3 e4 (fun x hx=>hs x (List.mem_cons_of_mem _ hx)) (by omega);refine⟨G2,n2,?_,?_,d4,by rw[List.length_cons];omega⟩
  ·simp only[entriesW.rs];exact Ev.bind e1 d1
  ·simp only[bn.rs];exact Ev.bind e2 d2
theorem ma (F:List S92) (hF:F.length≤1048576) (rs:List S46) (hs:∀r∈rs,r.f1.f1.length≤4∧∀x∈r.f1.f1,x.f0.size≤1000000∧x.f1.size≤1000) (hc:rs.length≤8) :
  ∃L:List S76,Ev (fun k=>dS.f k F rs) L∧Ev (fun k=>bn.f k F rs) L∧dP L:=by
 have hg:ee 0 (dQ (([] : List ((ByteArray × ByteArray) × List S50)).map toE)):=⟨Nat.le_refl _,fun e he=>by cases he⟩;obtain⟨G,n,e1,e2,⟨e3,e5⟩,e4⟩:=mj F hF rs [] 0 List.nodup_nil hg hs (by omega);refine⟨dQ (G.map toE),?_,?_,eX _ (by rw[lF];exact e5)⟩
 ·simp only[dS.f,entriesW.f];exact Ev.bind e1 (Ev.now _)
 ·simp only[bn.f];exact e2
open Classical in
theorem kx {F:List S92} {R:List S46} {E:List S76} {n:Int} (hF:F.length≤1048576) (h:eO F R E n=true):dP E:=by
 unfold eO at h
 obtain⟨h1,_,h2,_,h3⟩:=of_decide_eq_true h;obtain⟨L,_,e2,hs⟩:=ma F hF R (iz h1) h2;exact(iv h3 e2) ▸ hs
def dj (f t:ByteArray):List S76→List S50
 | []=>[]
 | e :: l=>if e.f0.toList=f.toList then(if e.f1.toList=t.toList then e.f2 ++ dj f t l else dj f t l) else dj f t l
theorem nl (f t:ByteArray):∀(l:List S76) (p:S50),p∈dj f t l→∃e∈l,p∈e.f2
 | [],p,h=>by simp[dj] at h
 | e :: l,p,h=>by
  rw[dj] at h;have ih:=nl f t l p;split at h
  ·split at h
   ·rcases List.mem_append.1 h with h | h
    ·exact⟨e,by simp,h⟩
    ·obtain⟨x,hx,hp⟩:=ih h;exact⟨x,List.mem_cons_of_mem _ hx,hp⟩
   ·obtain⟨x,hx,hp⟩:=ih h;exact⟨x,List.mem_cons_of_mem _ hx,hp⟩
  ·obtain⟨x,hx,hp⟩:=ih h;exact⟨x,List.mem_cons_of_mem _ hx,hp⟩
theorem fp (f t:ByteArray):∀l:List S76,(∀e∈l,b9 e≠(f,t))→dj f t l = []
 | [],_=>rfl
 | e :: l,h=>by
  rw[dj,fp f t l (fun x hx=>h x (List.mem_cons_of_mem _ hx))];split
  ·rename_i h1
   rw[if_neg (show ¬e.f1.toList=t.toList from fun h2=>h e (by simp) (Prod.ext (toList_inj.1 h1) (toList_inj.1 h2)))]
  ·rfl
theorem kd (f t:ByteArray):∀l:List S76,dP l→∀e∈l,b9 e=(f,t)→dj f t l=e.f2
 | [],_,e,h,_=>by simp at h
 | x :: l,hs,e,h,hk=>by
  obtain⟨h1,h2⟩:=List.pairwise_cons.1 hs;rw[dj];rcases List.mem_cons.1 h with rfl | h
  ·have h3:e.f0=f:=congrArg Prod.fst hk;have h4:e.f1=t:=congrArg Prod.snd hk;rw[if_pos (by rw[h3]),if_pos (by rw[h4]),fp f t l (fun y hy he=>dA (b9 e) (by have:=h1 y hy;rwa [he,← hk] at this)),List.append_nil]
  ·have h3:=h1 e h;rw[hk] at h3;have h4:¬(x.f0.toList=f.toList∧x.f1.toList=t.toList):=fun h5=>dA (f,t) (by
    have h6:b9 x=(f,t):=Prod.ext (toList_inj.1 h5.1) (toList_inj.1 h5.2);rwa [h6] at h3)
   have ih:=kd f t l h2 e h hk;split
   ·rename_i h5
    rw[if_neg (fun h6=>h4 ⟨h5,h6⟩)];exact ih
   ·exact ih
noncomputable def fI (F:List S92) (R:List S46) (E:List S76) (n:Int) (f t:ByteArray):List S50:=if eO F R E n=true then dj f t E else[]
set_option maxRecDepth 20000 in
theorem mX {F:List S92} {R:List S46} {E:List S76} (hz:fN F R E) (n:Int) (f t:ByteArray):(fI F R E n f t).length≤1048576∧∀p∈fI F R E n f t,p.f1.length≤1048576:=by
 unfold fI
 split
 ·rename_i hb
  have hs:=kx hz.f hb;refine⟨?_,fun p hp=>?_⟩
  ·by_cases h:∃e∈E,b9 e=(f,t)
   ·obtain⟨e,he,hk⟩:=h;rw[kd f t E hs e he hk];exact(hz.es e he).1
   ·rw[fp f t E (fun e he hk=>h ⟨e,he,hk⟩)];exact Nat.zero_le _
  ·obtain⟨e,he,h⟩:=nl f t E p hp;exact(hz.es e he).2 p h
 ·exact⟨Nat.zero_le _,fun p hp=>by cases hp⟩
def cH (name:ByteArray):List S86→ByteArray × Bool
 | []=>((⟨#[]⟩:ByteArray),false)
 | c :: cs=>if c.f0=name then(c.f1,true) else cH name cs
theorem k8 (name:ByteArray) (l:List S86) (hn:l.length<4611686018427387904):∀(d i:Nat),i+d=l.length→Ev (fun k=>cg.l0 k name l (l.length:Int) (i:Int)) (cH name (l.drop i)):=by
 intro d;induction d with
 | zero=>
  intro i hi;refine Ev.step (fun k=>cg.l0.eq_2 _ _ _ _ _) ?_;simp only[if_neg (show ¬((i:Int)<(l.length:Int)) by omega)];rw[List.drop_of_length_le (by omega)];exact Ev.now _
 | succ d ih=>
  intro i hi;refine Ev.step (fun k=>cg.l0.eq_2 _ _ _ _ _) ?_;simp only[if_pos (show ((i:Int)<(l.length:Int)) by omega),if_pos (show 0≤(i:Int) by omega),cm i (by omega),fz l i (by omega),toList_inj];rw[cT l i (by omega)];by_cases h:l[i].f0=name
  ·simp only[if_pos h,cH];exact Ev.now _
  ·simp only[if_neg h,cH];exact ih (i+1) (by omega)
theorem k6 (name key:ByteArray) (l:List S86) (hn:l.length<4611686018427387904):Ev (fun k=>cg.f k key l name) (cH name l):=k8 name l hn l.length 0 (by omega)
theorem kw {n:ByteArray} : ∀ {l:List S86},(cH n l).2=true→∃c∈l,c.f0=n∧c.f1=(cH n l).1
 | [],h=>by cases h
 | c :: l,h=>by
  unfold cH at h ⊢
  by_cases e:c.f0=n
  ·rw[if_pos e];exact⟨c,by simp,e,rfl⟩
  ·rw[if_neg e] at h ⊢;obtain⟨x,hx,h1,h2⟩:=kw h;exact⟨x,List.mem_cons_of_mem _ hx,h1,h2⟩
theorem oK {n:ByteArray} {l:List S86} (hs:∀x∈l,x.f0.size≤1048576∧x.f1.size≤1048576):(cH n l).1.size≤1048576:=by
 by_cases h:(cH n l).2=true
 ·obtain⟨c,hc,_,h2⟩:=kw h;rw[← h2];exact(hs c hc).2
 ·have:∀l:List S86,¬(cH n l).2=true→(cH n l).1.size≤1048576:=by
   intro l;induction l with
   | nil=>intro _;exact Nat.zero_le _
   | cons c l ih=>
    intro h;unfold cH at h ⊢
    by_cases e:c.f0=n
    ·rw[if_pos e] at h;exact absurd rfl h
    ·rw[if_neg e] at h ⊢;exact ih h
  exact this l h
theorem gt (l:List S50) (j:Nat) (h:j<l.length):ao l (j:Int)=l[j]:=by
 unfold ao;simp[List.getD_eq_getElem?_getD,List.getElem?_eq_getElem h]
theorem rz (f:ByteArray) (F:List S92) (hn:F.length≤1048576):∀(d i:Nat),i+d=F.length→Ev (fun k=>ca.l0 k F f (i:Int)) (dc (F.drop i) f):=by
 intro d;induction d with
 | zero=>
  intro i hi;refine Ev.step (fun k=>ca.l0.eq_2 _ _ _ _) ?_;simp only[if_neg (show ¬((i:Int)<(F.length:Int)) by omega)];rw[List.drop_of_length_le (by omega)];exact Ev.now _
 | succ d ih=>
  intro i hi;have hil:i<F.length:=by omega
  refine Ev.step (fun k=>ca.l0.eq_2 _ _ _ _) ?_;rw[cT F i hil];simp only[if_pos (show ((i:Int)<(F.length:Int)) by omega),if_pos (show 0≤(i:Int) by omega),eA F i hil,toList_inj,cm i (by omega)];by_cases h:F[i].f0=f
  ·have e:dc (F[i] :: F.drop (i+1)) f=F[i].f1:=by unfold dc ec;rw[if_pos h]
   rw[e];simp only[if_pos h];exact Ev.now _
  ·have e:dc (F[i] :: F.drop (i+1)) f=dc (F.drop (i+1)) f:=by unfold dc;rw[ec,if_neg h]
   rw[e];simp only[if_neg h];exact ih (i+1) (by omega)
theorem nr (f:ByteArray) (F:List S92) (hn:F.length≤1048576):Ev (fun k=>ca.f k F f) (dc F f):=by
 simp only[ca.f];exact rz f F hn F.length 0 (by omega)
theorem qd {t:ByteArray} : t.toList=([] : List UInt8)↔t.size=0:=by
 rw[hU];constructor
 ·intro h;have h1:=congrArg List.length h;rw[Array.length_toList,List.length_nil] at h1;exact h1
 ·intro h;exact List.eq_nil_of_length_eq_zero (by rw[Array.length_toList];exact h)
def kj (t:ByteArray):List ByteArray→Int→List Int
 | [],_=>[]
 | a :: us,x=>if a=t then(if t.size=0 then kj t us (x+1) else x :: kj t us (x+1)) else kj t us (x+1)
theorem kV {F:List S92} {R:List S46} {E:List S76} (hz:fN F R E) (n:Int) (f t:ByteArray) (P:List S50) (m i:Int) (ts:List ByteArray) (hl:ts.length≤1048576) (hk:dc F f=1) (xs:List Int)
  (h:Ev (fun k=>ai.j3 k f t P m i xs true ts (ts.length:Int) false F R E n) true):∀(d j:Nat) (acc:List Int),j+d=ts.length→acc.length≤j→acc ++ kj t (ts.drop j) (j:Int)=xs→Ev (fun k=>ai.l1 k f t P m i acc true ts (j:Int) F R E n) true:=by
 intro d;induction d with
 | zero=>
  intro j acc hj ha hx;refine Ev.step (fun k=>ai.l1.eq_2 _ _ _ _ _ _ _ _ _ _ _ _ _ _) ?_;simp only[if_neg (show ¬((j:Int)<(ts.length:Int)) by omega)];rw[List.drop_of_length_le (by omega),kj,List.append_nil] at hx;rw[hx,show (j:Int)=(ts.length:Int) by omega];exact h
 | succ d ih=>
  intro j acc hj ha hx;have hjl:j<ts.length:=by omega
  rw[cT ts j hjl,kj] at hx;have e1:((j:Int)+1)=((j+1:Nat):Int):=by omega
  rw[e1] at hx;refine Ev.step (fun k=>ai.l1.eq_2 _ _ _ _ _ _ _ _ _ _ _ _ _ _) ?_;simp only[if_pos (show ((j:Int)<(ts.length:Int)) by omega),if_true];refine Ev.bind (nr f F hz.f) ?_;rw[hk];refine Ev.step (fun k=>ai.j3.eq_2 _ _ _ _ _ _ _ _ _ _ _ _ _ _ _) ?_;simp only[beq_self_eq_true,if_true,if_pos (show 0≤(j:Int) by omega),if_pos (show ((j:Int)<(ts.length:Int)) by omega),ju ts j hjl,toList_inj,qd,cm j (by omega)];by_cases hq:ts[j] = t
  ·rw[if_pos hq] at hx;simp only[if_pos hq];by_cases h0:t.size=0
   ·rw[if_pos h0] at hx;simp only[if_pos h0];exact ih (j+1) acc (by omega) (by omega) hx
   ·rw[if_neg h0] at hx;simp only[if_neg h0,if_pos (show acc.length<17592186044416 by omega)];exact ih (j+1) (acc ++ [(j:Int)]) (by omega) (by simp;omega) (by rw[List.append_assoc];exact hx)
  ·rw[if_neg hq] at hx;simp only[if_neg hq];exact ih (j+1) acc (by omega) (by omega) hx
theorem kP (t:ByteArray):∀(ts:List ByteArray) (x:Int),(kj t ts x).length≤ts.length
 | [],_=>Nat.le_refl _
 | a :: us,x=>by
  have:=kP t us (x+1);rw[kj,List.length_cons];split
  ·split
   ·omega
   ·rw[List.length_cons];omega
  ·omega
noncomputable def dq (F:List S92) (f t:ByteArray) (cs:List S86):List Int:=if(cH f cs).2=true∧dc F f=1 then kj t (dg (cH f cs).1) 0 else[]
noncomputable def fZ (F:List S92) (f t:ByteArray):List S46→List S50
 | []=>[]
 | r :: rs=>(if dq F f t r.f1.f1 = [] then[] else[⟨r.f0,dq F f t r.f1.f1⟩]) ++ fZ F f t rs
theorem rq (a b:List Int) (hn:a.length<4611686018427387904) (hl:a.length=b.length):∀(d i:Nat),i+d=a.length →
  Ev (fun k=>bk.l0 k a b (i:Int)) (decide (a.drop i=b.drop i)):=by
 intro d;induction d with
 | zero=>
  intro i hi;refine Ev.step (fun k=>bk.l0.eq_2 _ _ _ _) ?_;simp only[if_neg (show ¬((i:Int)<(a.length:Int)) by omega)];rw[List.drop_of_length_le (by omega),List.drop_of_length_le (by omega)];exact Ev.now _
 | succ d ih=>
  intro i hi;refine Ev.step (fun k=>bk.l0.eq_2 _ _ _ _) ?_;simp only[if_pos (show ((i:Int)<(a.length:Int)) by omega),if_pos (show 0≤(i:Int) by omega),if_pos (show ((i:Int)<(b.length:Int)) by omega),cm i (by omega),g5 a i (by omega),g5 b i (by omega)];have hs:=cS (a:=a) (b:=b) (show i<a.length by omega) (show i<b.length by omega);by_cases h:a[i] = b[i]
  ·simp only[if_pos h];exact db (hs.trans ⟨fun h1=>h1.2,fun h1=>⟨h,h1⟩⟩).symm (ih (i+1) (by omega))
  ·simp only[if_neg h];exact dp (fun h1=>h (hs.1 h1).1) (Ev.now _)
theorem q3 (a b:List Int) (hn:a.length<4611686018427387904):Ev (fun k=>bk.f k a b) (decide (a=b)):=by
 simp only[bk.f];by_cases hl:a.length=b.length
 ·simp only[if_pos (show (a.length:Int)=(b.length:Int) by omega)];exact rq a b hn hl a.length 0 (by omega)
 ·simp only[if_neg (show ¬(a.length:Int)=(b.length:Int) by omega)];have:decide (a=b)=false:=by simp;intro h;exact hl (by rw[h])
  rw[this];exact Ev.now _
theorem kC {a b:List Int} (h:a=b) (hn:a.length<4611686018427387904):Ev (fun k=>bk.f k a b) true:=by
 have:=q3 a b hn;rwa [decide_eq_true h] at this
theorem kX {F:List S92} {R:List S46} {E:List S76} (hz:fN F R E) (n:Int) (f t:ByteArray) (P:List S50) (hr:R.length≤8) (hP:P.length≤1048576):∀(d i m:Nat),i+d=R.length→m≤P.length→P.drop m=fZ F f t (R.drop i)→Ev (fun k=>ai.l0 k f t P (m:Int) (i:Int) F R E n) true:=by
 intro d;induction d with
 | zero=>
  intro i m hi hm hd;refine Ev.step (fun k=>ai.l0.eq_2 _ _ _ _ _ _ _ _ _ _) ?_;simp only[if_neg (show ¬((i:Int)<(R.length:Int)) by omega)];rw[List.drop_of_length_le (show R.length≤i by omega),fZ,List.drop_eq_nil_iff] at hd;have e:((m:Int) == (P.length:Int))=true:=by rw[beq_iff_eq];omega
  rw[e];exact Ev.now _
 | succ d ih=>
  intro i m hi hm hd;have hil:i<R.length:=by omega
  obtain⟨_,hs1,hs2⟩:=hz.rs R[i] (List.getElem_mem hil);have hts:=oK (n:=f) hs2;have hwl:(dg (cH f R[i].f1.f1).1).length≤1048576:=by rw[gi];have:=er (cH f R[i].f1.f1).1;omega
  rw[cT R i hil,fZ] at hd;refine Ev.step (fun k=>ai.l0.eq_2 _ _ _ _ _ _ _ _ _ _) ?_;simp only[if_pos (show ((i:Int)<(R.length:Int)) by omega),if_pos (show 0≤(i:Int) by omega),fx R i hil];refine Ev.bind (k6 f R[i].f1.f0 R[i].f1.f1 (by omega)) ?_;refine Ev.bind (iW _ (by omega)) ?_;have fin:∀(b:Bool) (j:Int),Ev (fun k=>ai.j3 k f t P (m:Int) (i:Int) (dq F f t R[i].f1.f1) b (dg (cH f R[i].f1.f1).1) j false F R E n) true:=by
   intro b j;refine Ev.step (fun k=>ai.j3.eq_2 _ _ _ _ _ _ _ _ _ _ _ _ _ _ _) ?_;simp only[if_neg (show ¬(false=true) by decide),cm i (by omega)];by_cases hx:dq F f t R[i].f1.f1 = []
   ·rw[if_pos hx,List.nil_append] at hd;simp only[hx,List.length_nil,if_pos (show ((0:Nat):Int)=0 from rfl)];exact ih (i+1) m (by omega) hm hd
   ·rw[if_neg hx] at hd;have hml:m<P.length:=by
     rcases Nat.lt_or_ge m P.length with h | h
     ·exact h
     ·rw[List.drop_of_length_le h] at hd;cases hd
    rw[List.drop_eq_getElem_cons hml] at hd;obtain⟨e1,e2⟩:=List.cons.inj hd;have hne:¬((dq F f t R[i].f1.f1).length:Int)=0:=fun h5=>hx (List.length_eq_zero_iff.1 (by omega))
    have hpl:(dq F f t R[i].f1.f1).length≤1048576:=by
     unfold dq
     split
     ·have:=kP t (dg (cH f R[i].f1.f1).1) 0;omega
     ·exact Nat.zero_le _
    simp only[if_neg hne,if_neg (show ¬((m:Int)≥(P.length:Int)) by omega),if_pos (show 0≤(m:Int) by omega),if_pos (show ((m:Int)<(P.length:Int)) by omega),if_pos (show 0≤(i:Int) by omega),if_pos (show ((i:Int)<(R.length:Int)) by omega),fx R i hil,gt P m hml,e1,if_true,cm m (by omega)];refine Ev.bind (kC rfl (by omega)) ?_;simp only[if_true];exact ih (i+1) (m+1) (by omega) (by omega) e2
  by_cases hk:(cH f R[i].f1.f1).2=true∧dc F f=1
  ·have e:dq F f t R[i].f1.f1=kj t (dg (cH f R[i].f1.f1).1) 0:=by unfold dq;rw[if_pos hk]
   have h1:=fin true ((dg (cH f R[i].f1.f1).1).length:Int);rw[hk.1];exact kV hz n f t P (m:Int) (i:Int) _ hwl hk.2 _ h1 _ 0 [] (Nat.zero_add _) (Nat.le_refl _) (by rw[e,List.drop_zero];rfl)
  ·have e:dq F f t R[i].f1.f1 = []:=by unfold dq;rw[if_neg hk]
   have h1:=fin (cH f R[i].f1.f1).2 0;rw[e] at h1;refine Ev.step (fun k=>ai.l1.eq_2 _ _ _ _ _ _ _ _ _ _ _ _ _ _) ?_;by_cases h2:(0:Int)<((dg (cH f R[i].f1.f1).1).length:Int)
   ·simp only[if_pos h2];by_cases h3:(cH f R[i].f1.f1).2=true
    ·simp only[if_pos h3];refine Ev.bind (nr f F hz.f) ?_;have h4:(dc F f == 1)=false:=by rw[beq_eq_false_iff_ne];exact fun h5=>hk ⟨h3,h5⟩
     rw[h4];exact h1
    ·simp only[if_neg h3];exact h1
   ·simp only[if_neg h2];exact h1
theorem pH (l:List S50) (hn:l.length≤1048576) (hp:∀p∈l,p.f1.length≤1048576):∀(d i:Nat),i+d=l.length→Ev (fun k=>bO.l0 k l l (i:Int)) true:=by
 intro d;induction d with
 | zero=>
  intro i hi;refine Ev.step (fun k=>bO.l0.eq_2 _ _ _ _) ?_;simp only[if_neg (show ¬((i:Int)<(l.length:Int)) by omega)];exact Ev.now _
 | succ d ih=>
  intro i hi;have hil:i<l.length:=by omega
  refine Ev.step (fun k=>bO.l0.eq_2 _ _ _ _) ?_;simp only[if_pos (show ((i:Int)<(l.length:Int)) by omega),if_pos (show 0≤(i:Int) by omega),if_true,cm i (by omega),gt l i hil];refine Ev.bind (kC rfl (by have:=hp l[i] (List.getElem_mem hil);omega)) ?_;simp only[if_true];exact ih (i+1) (by omega)
theorem jt (l:List S50) (hn:l.length≤1048576) (hp:∀p∈l,p.f1.length≤1048576):Ev (fun k=>bO.f k l l) true:=by
 simp only[bO.f,if_true];exact pH l hn hp l.length 0 (by omega)
theorem dJ (a b c:Int):bd.f a b c=some (decide (b≤a∧a≤c)):=by
 unfold bd.f
 by_cases h:a≥b
 ·rw[if_pos h];congr 1;exact decide_eq_decide.2 ⟨fun h2=>⟨h,h2⟩,fun h2=>h2.2⟩
 ·rw[if_neg h];congr 1;symm;exact decide_eq_false (fun h2=>h h2.1)
open Classical in
theorem mc (s:ByteArray) (hn:s.size<4611686018427387904):∀(d i:Nat),i+d=s.size→Ev (fun k=>aT.l0 k s (s.size:Int) (i:Int)) (decide (dW (ar s) i)):=by
 have hb:=bX s;intro d;induction d with
 | zero=>
  intro i hi;refine Ev.step (fun k=>aT.l0.eq_2 _ _ _ _) ?_;simp only[if_neg (show ¬((i:Int)<(s.size:Int)) by omega),dJ,Option.bind_some];refine db (jN (by omega)).symm ?_;refine fS fun _=>?_
  congr 1;exact decide_eq_decide.2 (by omega)
 | succ d ih=>
  intro i hi;have hs:=iM (l:=ar s) (j:=i) (by omega);refine Ev.step (fun k=>aT.l0.eq_2 _ _ _ _) ?_;simp only[if_pos (show ((i:Int)<(s.size:Int)) by omega),if_pos (show 0≤(i:Int) by omega),cm i (by omega),gY s i (by omega),iT,iR,Option.bind_some,decide_eq_true_eq];by_cases h1:my (ar s)[i]
  ·simp only[if_pos h1];exact db (hs.trans ⟨fun h=>h.2,fun h=>⟨.inl h1,h⟩⟩).symm (ih (i+1) (by omega))
  ·simp only[if_neg h1];by_cases h0:(i:Int)=0
   ·simp only[if_pos h0];have:decide (dW (ar s) i)=false:=decide_eq_false (fun h=>by rcases (hs.1 h).1 with h2 | h2;exact h1 h2;omega);rw[this];exact Ev.now _
   ·simp only[if_neg h0];by_cases h2:mV (ar s)[i]
    ·simp only[if_pos h2];exact db (hs.trans ⟨fun h=>h.2,fun h=>⟨.inr ⟨by omega,h2⟩,h⟩⟩).symm (ih (i+1) (by omega))
    ·simp only[if_neg h2];have:decide (dW (ar s) i)=false:=decide_eq_false (fun h=>by rcases (hs.1 h).1 with h3 | h3;exact h1 h3;exact h2 h3.2);rw[this];exact Ev.now _
theorem ff (s:ByteArray) (hn:s.size<4611686018427387904):Ev (fun k=>aT.f k s) (eU (ar s)):=mc s hn s.size 0 (by omega)
open Classical in
theorem mY (s:ByteArray) (m:Int) (hs:s.size<4611686018427387904):∀(d i:Nat),i+d=s.size→Ev (fun k=>cV.l0 k s m (s.size:Int) (i:Int)) (decide ((∀c∈(ar s).drop i,sN c)∧(s.size:Int)≤m)):=by
 have hlen:=bX s;intro d;induction d with
 | zero=>
  intro i hi;refine Ev.step (fun k=>cV.l0.eq_2 _ _ _ _ _) ?_;simp only[if_neg (show ¬((i:Int)<(s.size:Int)) by omega)];refine db ?_ (Ev.now _);rw[List.drop_eq_nil_of_le (by omega)];exact⟨fun h=>⟨fun c hc=>by simp at hc,h⟩,fun h=>h.2⟩
 | succ d ih=>
  intro i hi;refine Ev.step (fun k=>cV.l0.eq_2 _ _ _ _ _) ?_;simp only[if_pos (show ((i:Int)<(s.size:Int)) by omega),if_pos (show 0≤(i:Int) by omega),ql s i (by omega),dJ,Option.bind_some,decide_eq_true_eq,cm i (by omega)];have e:=List.drop_eq_getElem_cons (l:=ar s) (i:=i) (by omega);by_cases hw:32≤(ar s)[i] ∧ (ar s)[i] ≤ 126
  ·simp only[if_pos hw];refine db ?_ (ih (i+1) (by omega));rw[e];constructor
   ·rintro ⟨h1,h2⟩;exact⟨fun c hc=>by rcases List.mem_cons.1 hc with h | h;exact h ▸ hw;exact h1 c h,h2⟩
   ·rintro ⟨h1,h2⟩;exact⟨fun c hc=>h1 c (List.mem_cons_of_mem _ hc),h2⟩
  ·simp only[if_neg hw];refine dp (fun h=>hw (h.1 _ ?_)) (Ev.now _);rw[e];exact List.mem_cons_self ..
theorem mD (s:ByteArray) (m:Int) (hs:s.size<4611686018427387904):Ev (fun k=>cV.f k s m) (eD s m):=by
 simp only[cV.f,eD];exact mY s m hs s.size 0 (by omega)
theorem mv (s:ByteArray) (hs:s.size<4611686018427387904):Ev (fun k=>cX.f k s) (eD s 60):=by
 simp only[cX.f];exact Ev.bind (mD s 60 hs) (Ev.now _)
open Classical in
theorem jk (key:ByteArray) (l:List S86) (hk:key.size≤1048576) (hn:l.length≤1048576) (hs:∀x∈l,x.f0.size≤1048576∧x.f1.size≤1048576):∀(d i:Nat),i+d=l.length →
  Ev (fun k=>bz.l0 k l (l.length:Int) (i:Int) key l) (decide (fR key l i)):=by
 intro d;induction d with
 | zero=>
  intro i hi;refine Ev.step (fun k=>bz.l0.eq_2 _ _ _ _ _ _) ?_;simp only[if_neg (show ¬((i:Int)<(l.length:Int)) by omega)];refine db (jP (by omega)).symm ?_;refine Ev.bind (ff key (by omega)) ?_;cases hnm:eU (ar key) with
  | false=>simp only[if_neg (show ¬(false=true) by decide)];exact dp (fun h=>by cases h.1) (Ev.now _)
  | true=>
   simp only[if_true];exact db ⟨fun h=>⟨(by first | trivial | rfl),by omega⟩,fun h=>by have:=h.2;omega⟩ (Ev.now _)
 | succ d ih=>
  intro i hi;have hst:=iU (key:=key) (l:=l) (j:=i) (by omega);have hsz:=hs l[i] (List.getElem_mem _);have hnext:=ih (i+1) (by omega);refine Ev.step (fun k=>bz.l0.eq_2 _ _ _ _ _ _) ?_;simp only[if_pos (show ((i:Int)<(l.length:Int)) by omega),if_pos (show 0≤(i:Int) by omega),fz l i (by omega),cm i (by omega)];refine Ev.bind (ff l[i].f0 (by omega)) ?_;cases hnm:eU (ar l[i].f0) with
  | false=>simp only[if_neg (show ¬(false=true) by decide)];exact dp (fun h=>by have:=(hst.1 h).1.1;rw[hnm] at this;cases this) (Ev.now _)
  | true=>
   simp only[if_true];refine Ev.bind (mv l[i].f1 (by omega)) ?_;cases htx:eD l[i].f1 60 with
   | false=>simp only[if_neg (show ¬(false=true) by decide)];exact dp (fun h=>by have:=(hst.1 h).1.2.1;rw[htx] at this;cases this) (Ev.now _)
   | true=>
    simp only[if_true];by_cases h0:(i:Int)>0
    ·have he:wrap64 ((i:Int) - 1)=((i - 1:Nat):Int):=by rw[b8 (by omega) (by omega)];omega
     simp only[if_pos h0,he,if_pos (show 0≤((i - 1:Nat):Int) by omega),if_pos (show ((i - 1:Nat):Int)<(l.length:Int) by omega),fz l (i - 1) (by omega)];by_cases hl:nD (l[i - 1]'(by omega)).f0 l[i].f0
     ·have hl2:Op.bytesLess (l[i - 1]'(by omega)).f0.toList l[i].f0.toList=true:=hl;simp only[hl2,if_true];exact db (hst.trans ⟨fun h=>h.2,fun h=>⟨⟨hnm,htx,fun _=>hl⟩,h⟩⟩).symm hnext
     ·have hl2:Op.bytesLess (l[i - 1]'(by omega)).f0.toList l[i].f0.toList=false:=Bool.eq_false_iff.2 hl;simp only[hl2,if_neg (show ¬(false=true) by decide)];exact dp (fun h=>hl ((hst.1 h).1.2.2 (by omega))) (Ev.now _)
    ·simp only[if_neg h0];exact db (hst.trans ⟨fun h=>h.2,fun h=>⟨⟨hnm,htx,fun h1=>by omega⟩,h⟩⟩).symm hnext
theorem ja (key:ByteArray) (l:List S86) (hk:key.size≤1048576) (hn:l.length≤1048576) (hs:∀x∈l,x.f0.size≤1048576∧x.f1.size≤1048576):Ev (fun k=>bz.f k key l) (jx key l):=jk key l hk hn hs l.length 0 (by omega)
def pY (F:List S92) (l:List S86):Prop:=∀c∈l,kL (dc F c.f0) c.f1
open Classical in
theorem lV (L:List ByteArray) (hL:L.length≤1048577) (hx:∀x∈L,x.size≤1048576):∀(d i:Nat),i+d=L.length→Ev (fun k=>cr.l0 k L L (L.length:Int) (i:Int)) (decide (gC (L.drop i)∧L.length≤4)):=by
 intro d;induction d with
 | zero=>
  intro i hi;refine Ev.step (fun k=>cr.l0.eq_2 _ _ _ _ _) ?_;simp only[if_neg (show ¬((i:Int)<(L.length:Int)) by omega)];rw[List.drop_eq_nil_of_le (by omega)];refine da ?_ (Ev.now _);exact⟨fun h=>⟨fun x hx=>by simp at hx,by omega⟩,fun h=>by have:=h.2;omega⟩
 | succ d ih=>
  intro i hi;have hil:i<L.length:=by omega
  have hxi:=hx L[i] (List.getElem_mem _);refine Ev.step (fun k=>cr.l0.eq_2 _ _ _ _ _) ?_;simp only[if_pos (show ((i:Int)<(L.length:Int)) by omega),if_pos (show 0≤(i:Int) by omega),eo _ L i hil,cm i (by omega)];refine Ev.bind (ff L[i] (by omega)) ?_;rw[cT L i hil];cases hnm:eU (ar L[i]) with
  | false=>simp only[if_neg (show ¬(false=true) by decide)];exact bu (fun h=>by have:=(eT.1 h.1).1;rw[hnm] at this;cases this) (Ev.now _)
  | true=>
   simp only[if_true];exact da ⟨fun h=>⟨eT.2 ⟨hnm,h.1⟩,h.2⟩,fun h=>⟨(eT.1 h.1).2,h.2⟩⟩ (ih (i+1) (by omega))
theorem jv (c:UInt8) (r:List UInt8):∀(x:List UInt8),c ∉ x→Lib.indexByte (x ++ c :: r) c=(x.length:Int)
 | [],_=>by simp[Lib.indexByte]
 | a :: x,h=>by
  have ha:a≠c:=fun e=>h (by simp[e])
  have:=jv c r x (fun e=>h (List.mem_cons_of_mem _ e));simp[Lib.indexByte,this,ha]
theorem iO (c:UInt8):∀(l:List UInt8),c ∉ l→Lib.indexByte l c = -1
 | [],_=>rfl
 | x :: l,h=>by
  have hx:x≠c:=fun e=>h (by simp[e])
  have:=iO c l (fun e=>h (List.mem_cons_of_mem _ e));simp[Lib.indexByte,this,hx]
theorem nk (c:UInt8):∀(k:Nat) (l:List UInt8),Lib.splitK [c] 0 k l=eC c k [] l
 | 0,l=>by rw[iF];rfl
 | k+1,l=>by
  unfold Lib.splitK
  rw[Lib.index_one];by_cases h:c∈l
  ·obtain⟨x,r,rfl,hx⟩:=List.eq_append_cons_of_mem h;rw[jv c r x hx,if_neg (by simp),nk c k,jQ c x (k+1) [] _ hx,eC,if_pos rfl];simp
  ·rw[iO c l h,if_pos (by decide)];have:=jQ c l (k+1) [] [] h;rw[List.append_nil,List.nil_append] at this;rw[this];simp[eC]
theorem r9 (c:UInt8) (s:ByteArray) (hs:s.size<4294967281):strings_Split.f s ⟨#[c]⟩=some (em c s):=by
 unfold strings_Split.f
 rw[if_pos ⟨hs,Nat.le_refl _⟩];have e:(⟨#[c]⟩:ByteArray).data.toList = [c]:=rfl;have h1:=Lib.splitB_data ⟨#[c]⟩ 0 (Lib.countB s ⟨#[c]⟩) s;rw[e,nk] at h1;have h2:Lib.countB s ⟨#[c]⟩=s.data.toList.count c:=by
  show Lib.count s.data.toList [c] = _
  exact Lib.count_one c _
 rw[h2] at h1 ⊢;unfold em
 rw[← h1,List.map_map];congr 1
 conv=>lhs;rw[← List.map_id (Lib.splitB _ _ _ _)]
 exact List.map_congr_left (fun x _=>(o5 x).symm)
open Classical in
theorem lx (s:ByteArray) (hs:s.size≤1048576):Ev (fun k=>cr.f k s) (decide (lB s)):=by
 have hlen:=iP 44 s;simp only[cr.f,r9 44 s (show s.size<4294967281 by omega),Option.bind_some];have h:=lV (em 44 s) (by omega) (fun x hx=>by have:=ky hx;omega) (em 44 s).length 0 (by omega);rw[List.drop_zero] at h;exact da Iff.rfl h
theorem qN (s:ByteArray) (hs:s.size≤140737488355328):ce.f s=some (jp s):=by
 unfold ce.f
 rw[if_pos hs];rfl
open Classical in
theorem mJ (F:List S92) (hF:F.length≤1048576) (l:List S86) (hn:l.length≤1048576) (hs:∀x∈l,x.f0.size≤1048576∧x.f1.size≤1048576):∀(d i:Nat),i+d=l.length →
  Ev (fun k=>bj.l0 k F l (l.length:Int) (i:Int)) (decide (pY F (l.drop i))):=by
 intro d;induction d with
 | zero=>
  intro i hi;refine Ev.step (fun k=>bj.l0.eq_2 _ _ _ _ _) ?_;simp only[if_neg (show ¬((i:Int)<(l.length:Int)) by omega)];rw[List.drop_eq_nil_of_le (by omega)];exact eG (fun c hc=>by simp at hc) (Ev.now _)
 | succ d ih=>
  intro i hi;have hil:i<l.length:=by omega
  have hsz:=hs l[i] (List.getElem_mem _);have hnx:=ih (i+1) (by omega);have yes:kL (dc F l[i].f0) l[i].f1→Ev (fun k=>bj.l0 k F l (l.length:Int) ((i+1:Nat):Int)) (decide (pY F (l[i] :: l.drop (i+1)))):=by
   intro h;refine da ⟨fun h2 c hc=>?_,fun h2 c hc=>h2 c (List.mem_cons_of_mem _ hc)⟩ hnx;rcases List.mem_cons.1 hc with rfl | hc
   ·exact h
   ·exact h2 c hc
  have no:¬kL (dc F l[i].f0) l[i].f1→Ev (fun _:Nat=>some false) (decide (pY F (l[i] :: l.drop (i+1)))):=fun h=>bu (fun h2=>h (h2 _ (List.mem_cons_self ..))) (Ev.now _)
  refine Ev.step (fun k=>bj.l0.eq_2 _ _ _ _ _) ?_;rw[cT l i hil];simp only[if_pos (show ((i:Int)<(l.length:Int)) by omega),if_pos (show 0≤(i:Int) by omega),fz l i hil,cm i (by omega)];refine Ev.bind (gS l[i].f0 F (by omega)) ?_;have hkd:(ec l[i].f0 F).2.1=dc F l[i].f0:=rfl;rw[hkd];by_cases h1:dc F l[i].f0=1
  ·simp only[if_pos h1];exact yes (Or.inl h1)
  ·simp only[if_neg h1];by_cases h2:dc F l[i].f0=2
   ·simp only[if_pos h2,qN l[i].f1 (by omega),Option.bind_some];cases hnum:(jp l[i].f1).2 with
    | true=>simp only[if_true];exact yes (Or.inr (Or.inl ⟨h2,hnum⟩))
    | false=>
     simp only[if_neg (show ¬(false=true) by decide)];refine no (fun h=>?_);rcases h with h | ⟨_,h⟩ | ⟨h,_⟩
     ·exact h1 h
     ·rw[hnum] at h;cases h
     ·omega
   ·simp only[if_neg h2];by_cases h3:dc F l[i].f0=3
    ·simp only[if_pos h3];refine Ev.bind (lx l[i].f1 hsz.2) ?_;by_cases ht:lB l[i].f1
     ·rw[decide_eq_true ht];simp only[if_true];exact yes (Or.inr (Or.inr ⟨h3,ht⟩))
     ·rw[decide_eq_false ht];simp only[if_neg (show ¬(false=true) by decide)];refine no (fun h=>?_);rcases h with h | ⟨h,_⟩ | ⟨_,h⟩
      ·exact h1 h
      ·exact h2 h
      ·exact ht h
    ·simp only[if_neg h3];refine no (fun h=>?_);rcases h with h | ⟨h,_⟩ | ⟨h,_⟩
     ·exact h1 h
     ·exact h2 h
     ·exact h3 h
open Classical in
theorem ko (l:List S92) (hn:l.length≤1048577) (hs:∀x∈l,x.f0.size≤1048576):∀(d i:Nat),i+d=l.length →
  Ev (fun k=>aU.l0 k l ((l.take i).map (fun x=>x.f0)) l (l.length:Int) (i:Int)) (decide (dH l i)):=by
 intro d;induction d with
 | zero=>
  intro i hi;refine Ev.step (fun k=>aU.l0.eq_2 _ _ _ _ _ _) ?_;simp only[if_neg (show ¬((i:Int)<(l.length:Int)) by omega),dJ,Option.bind_some];refine db (io (by omega)).symm ?_;refine fS fun _=>?_
  congr 1;exact decide_eq_decide.2 (by omega)
 | succ d ih=>
  intro i hi;have hst:=gQ (l:=l) (j:=i) (by omega);have hsz:=hs l[i] (List.getElem_mem _);have hlen:((l.take i).map (fun x=>x.f0)).length=i:=by rw[List.length_map,List.length_take];omega
  have hmem:l[i].f0∈(l.take i).map (fun x=>x.f0)↔∃m,∃hm:m<i,l[m].f0=l[i].f0:=by
   rw[List.mem_map];constructor
   ·rintro ⟨x,hx,he⟩;obtain⟨m,hm,rfl⟩:=List.mem_iff_getElem.1 hx;rw[List.length_take] at hm;exact⟨m,by omega,by rw[← he,List.getElem_take]⟩
   ·rintro ⟨m,hm,he⟩;exact⟨l[m],List.mem_iff_getElem.2 ⟨m,by rw[List.length_take];omega,by rw[List.getElem_take]⟩,he⟩
  have hnx:(l.take (i+1)).map (fun x=>x.f0)=(l.take i).map (fun x=>x.f0) ++ [l[i].f0]:=by
   rw[List.take_add_one,List.getElem?_eq_getElem (by omega),List.map_append];rfl
  refine Ev.step (fun k=>aU.l0.eq_2 _ _ _ _ _ _) ?_;simp only[if_pos (show ((i:Int)<(l.length:Int)) by omega),if_pos (show 0≤(i:Int) by omega),eA l i (by omega),dJ,Option.bind_some];have hj1:∀(t:Bool),((t=true∧1≤l[i].f1∧l[i].f1≤3)↔gg l[i])→Ev (fun k=>aU.j1 k l ((l.take i).map (fun x=>x.f0)) t l (l.length:Int) (i:Int) l[i].f0 l[i].f1 l[i].f2) (decide (dH l i)):=by
   intro t ht;refine Ev.step (fun k=>aU.j1.eq_2 _ _ _ _ _ _ _ _ _ _) ?_;refine Ev.bind (ff l[i].f0 (by omega)) ?_;cases hnm:eU (ar l[i].f0) with
   | false=>
    simp only[if_neg (show ¬(false=true) by decide)];refine dp (fun h=>?_) (Ev.now _);have:=gq.2 (hst.1 h).1.1;rw[hnm] at this;cases this
   | true=>
    simp only[if_true];refine Ev.bind (dh _ _ (by rw[hlen];omega)) ?_;simp only[decide_eq_true_eq,dJ,Option.bind_some];by_cases hc:l[i].f0∈(l.take i).map (fun x=>x.f0)
    ·simp only[if_pos hc];obtain⟨m,hm,he⟩:=hmem.1 hc;exact dp (fun h=>(hst.1 h).1.2.2 m hm he) (Ev.now _)
    ·simp only[if_neg hc];by_cases hp:gg l[i]
     ·obtain⟨h1,h2⟩:=ht.2 hp;simp only[if_pos h2,h1,if_true,hlen,if_pos (show i<8796093022208 by omega),cm i (by omega)];have hnext:=ih (i+1) (by omega);rw[hnx] at hnext;exact db (hst.trans ⟨fun h=>h.2,fun h=>⟨⟨gq.1 hnm,hp,fun m hm he=>hc (hmem.2 ⟨m,hm,he⟩)⟩,h⟩⟩).symm hnext
     ·have hf:Ev (fun _=>some false) (decide (dH l i)):=dp (fun h=>hp (hst.1 h).1.2.1) (Ev.now _);by_cases h2:1≤l[i].f1∧l[i].f1≤3
      ·have h1:t=false:=by
        cases t
        ·rfl
        ·exact absurd (ht.1 ⟨rfl,h2⟩) hp
       simp only[if_pos h2,h1,if_neg (show ¬(false=true) by decide)];exact hf
      ·simp only[if_neg h2];exact hf
  by_cases h1:l[i].f1=1
  ·simp only[if_pos h1];refine hj1 _ ?_;unfold gg
   rw[decide_eq_true_eq];constructor
   ·intro h;exact .inl ⟨h1,h.1⟩
   ·intro h;rcases h with h | h
    ·exact⟨h.2,by omega,by omega⟩
    ·omega
  ·simp only[if_neg h1];refine hj1 _ ?_;unfold gg
   rw[beq_iff_eq];constructor
   ·intro h;exact .inr ⟨by omega,h.2.2,h.1⟩
   ·intro h;rcases h with h | h
    ·exact absurd h.1 h1
    ·exact⟨h.2.2,by omega,h.2.1⟩
theorem gw (l:List S92) (hn:l.length≤1048577) (hs:∀x∈l,x.f0.size≤1048576):Ev (fun k=>aU.f k l) (fv l):=ko l hn hs l.length 0 (by omega)
open Classical in
theorem mC (F:List S92) (hF:F.length≤1048576) (hFs:∀x∈F,x.f0.size≤1048576) (key:ByteArray) (l:List S86) (hk:key.size≤1048576) (hn:l.length≤1048576) (hs:∀x∈l,x.f0.size≤1048576∧x.f1.size≤1048576):Ev (fun k=>bj.f k F key l) (gF F key l):=by
 simp only[bj.f,gF];have stop:¬jh F key l→Ev (fun k=>bj.j0 k F true key l) (decide (jh F key l)):=by
  intro h;refine Ev.step (fun k=>bj.j0.eq_2 _ _ _ _ _) ?_;simp only[if_true];exact bu h (Ev.now _)
 refine Ev.bind (gw F (by omega) hFs) ?_;cases hf:fv F with
 | false=>simp only[if_neg (show ¬(false=true) by decide)];exact stop (fun h=>by have:=h.1;rw[hf] at this;cases this)
 | true=>
  simp only[if_true];refine Ev.bind (ja key l hk hn hs) ?_;cases hm:jx key l with
  | false=>exact stop (fun h=>by have:=h.2.1;rw[hm] at this;cases this)
  | true=>
   simp only[Bool.not_true];refine Ev.step (fun k=>bj.j0.eq_2 _ _ _ _ _) ?_;simp only[if_neg (show ¬(false=true) by decide)];have h:=mJ F hF l hn hs l.length 0 (by omega);rw[List.drop_zero] at h;refine da ?_ h;unfold jh
   exact⟨fun h=>⟨hf,hm,h⟩,fun h=>h.2.2⟩
open Classical in
theorem qY (a b:List Int) (ha:a.length≤1099511627776):Ev (fun k=>aZ.f k a b) (decide (a=b)):=by
 simp only[aZ.f];by_cases hl:a.length=b.length
 ·simp only[if_pos (show (a.length:Int)=(b.length:Int) by omega)];have main:∀(d i:Nat),i+d=a.length→Ev (fun k=>aZ.l0 k a b (a.length:Int) (i:Int)) (decide (a.drop i=b.drop i)):=by
   intro d;induction d with
   | zero=>
    intro i hi;refine Ev.step (fun k=>aZ.l0.eq_2 _ _ _ _ _) ?_;simp only[if_neg (show ¬((i:Int)<(a.length:Int)) by omega)];rw[List.drop_eq_nil_of_le (by omega),List.drop_eq_nil_of_le (by omega)];exact eG rfl (Ev.now _)
   | succ d ih=>
    intro i hi;have hia:i<a.length:=by omega
    have hib:i<b.length:=by omega
    refine Ev.step (fun k=>aZ.l0.eq_2 _ _ _ _ _) ?_;simp only[if_pos (show ((i:Int)<(a.length:Int)) by omega),if_pos (show (0:Int)≤(i:Int) by omega),if_pos (show ((i:Int)<(b.length:Int)) by omega),g5 a i hia,g5 b i hib,cm i (by omega)];by_cases h:a[i] = b[i]
    ·simp only[if_pos h];exact da ⟨fun h2=>(cS hia hib).2 ⟨h,h2⟩,fun h2=>((cS hia hib).1 h2).2⟩ (ih (i+1) (by omega))
    ·simp only[if_neg h];exact bu (fun h2=>h ((cS hia hib).1 h2).1) (Ev.now _)
  have:=main a.length 0 (by omega);simpa using this
 ·simp only[if_neg (show ¬(a.length:Int)=(b.length:Int) by omega)];exact bu (fun h=>hl (by rw[h])) (Ev.now _)
open Classical in
theorem j6 (p q:S50) (hp:p.f1.length≤1099511627776):Ev (fun k=>dE.f k p.f0 p.f1 q.f0 q.f1) (decide (p=q)):=by
 simp only[dE.f];by_cases h0:p.f0=q.f0
 ·simp only[if_pos h0];refine Ev.bind (qY p.f1 q.f1 hp) ?_;exact da ⟨fun h=>nO.2 ⟨h0,h⟩,fun h=>(nO.1 h).2⟩ (Ev.now (decide (p.f1=q.f1)))
 ·simp only[if_neg h0];exact bu (fun h=>h0 (by rw[h])) (Ev.now _)
open Classical in
theorem nR (a b:List S50) (ha:a.length≤1099511627776) (hs:∀p∈a,p.f1.length≤1099511627776):Ev (fun k=>dk.f k a b) (decide (a=b)):=by
 simp only[dk.f];by_cases hl:a.length=b.length
 ·simp only[if_pos (show (a.length:Int)=(b.length:Int) by omega)];have main:∀(d i:Nat),i+d=a.length→Ev (fun k=>dk.l0 k b a (a.length:Int) (i:Int)) (decide (a.drop i=b.drop i)):=by
   intro d;induction d with
   | zero=>
    intro i hi;refine Ev.step (fun k=>dk.l0.eq_2 _ _ _ _ _) ?_;simp only[if_neg (show ¬((i:Int)<(a.length:Int)) by omega)];rw[List.drop_eq_nil_of_le (by omega),List.drop_eq_nil_of_le (by omega)];exact eG rfl (Ev.now _)
   | succ d ih=>
    intro i hi;have hia:i<a.length:=by omega
    have hib:i<b.length:=by omega
    refine Ev.step (fun k=>dk.l0.eq_2 _ _ _ _ _) ?_;simp only[if_pos (show ((i:Int)<(a.length:Int)) by omega),if_pos (show (0:Int)≤(i:Int) by omega),if_pos (show ((i:Int)<(b.length:Int)) by omega),gt a i hia,gt b i hib,cm i (by omega)];refine Ev.bind (j6 a[i] b[i] (hs _ (List.getElem_mem hia))) ?_;by_cases h:a[i] = b[i]
    ·rw[decide_eq_true h];simp only[if_true];exact da ⟨fun h2=>(cS hia hib).2 ⟨h,h2⟩,fun h2=>((cS hia hib).1 h2).2⟩ (ih (i+1) (by omega))
    ·rw[decide_eq_false h];simp only[if_neg (show ¬(false=true) by decide)];exact bu (fun h2=>h ((cS hia hib).1 h2).1) (Ev.now _)
  have:=main a.length 0 (by omega);simpa using this
 ·simp only[if_neg (show ¬(a.length:Int)=(b.length:Int) by omega)];exact bu (fun h=>hl (by rw[h])) (Ev.now _)
open Classical in
theorem jy (p q:S76) (hp:p.f2.length≤1099511627776) (hs:∀x∈p.f2,x.f1.length≤1099511627776):Ev (fun k=>dy.f k p.f0 p.f1 p.f2 q.f0 q.f1 q.f2) (decide (p=q)):=by
 simp only[dy.f,toList_inj];by_cases h0:p.f0=q.f0
 ·simp only[if_pos h0];by_cases h1:p.f1=q.f1
  ·simp only[if_pos h1];refine Ev.bind (nR p.f2 q.f2 hp hs) ?_;exact da ⟨fun h=>mo.2 ⟨h0,h1,h⟩,fun h=>(mo.1 h).2.2⟩ (Ev.now (decide (p.f2=q.f2)))
  ·simp only[if_neg h1];exact bu (fun h=>h1 (by rw[h])) (Ev.now _)
 ·simp only[if_neg h0];exact bu (fun h=>h0 (by rw[h])) (Ev.now _)
open Classical in
theorem m4 (a b:List S76) (ha:a.length≤1099511627776) (hs:∀e∈a,e.f2.length≤1099511627776∧∀p∈e.f2,p.f1.length≤1099511627776):Ev (fun k=>cW.f k a b) (decide (a=b)):=by
 simp only[cW.f];by_cases hl:a.length=b.length
 ·simp only[if_pos (show (a.length:Int)=(b.length:Int) by omega)];have main:∀(d i:Nat),i+d=a.length→Ev (fun k=>cW.l0 k b a (a.length:Int) (i:Int)) (decide (a.drop i=b.drop i)):=by
   intro d;induction d with
   | zero=>
    intro i hi;refine Ev.step (fun k=>cW.l0.eq_2 _ _ _ _ _) ?_;simp only[if_neg (show ¬((i:Int)<(a.length:Int)) by omega)];rw[List.drop_eq_nil_of_le (by omega),List.drop_eq_nil_of_le (by omega)];exact eG rfl (Ev.now _)
   | succ d ih=>
    intro i hi;have hia:i<a.length:=by omega
    have hib:i<b.length:=by omega
    have hx:=hs _ (List.getElem_mem hia);refine Ev.step (fun k=>cW.l0.eq_2 _ _ _ _ _) ?_;simp only[if_pos (show ((i:Int)<(a.length:Int)) by omega),if_pos (show (0:Int)≤(i:Int) by omega),if_pos (show ((i:Int)<(b.length:Int)) by omega),fk a i hia,fk b i hib,cm i (by omega)];refine Ev.bind (jy a[i] b[i] hx.1 hx.2) ?_;by_cases h:a[i] = b[i]
    ·rw[decide_eq_true h];simp only[if_true];exact da ⟨fun h2=>(cS hia hib).2 ⟨h,h2⟩,fun h2=>((cS hia hib).1 h2).2⟩ (ih (i+1) (by omega))
    ·rw[decide_eq_false h];simp only[if_neg (show ¬(false=true) by decide)];exact bu (fun h2=>h ((cS hia hib).1 h2).1) (Ev.now _)
  have:=main a.length 0 (by omega);simpa using this
 ·simp only[if_neg (show ¬(a.length:Int)=(b.length:Int) by omega)];exact bu (fun h=>hl (by rw[h])) (Ev.now _)
open Classical in
theorem la {F:List S92} {R:List S46} {E:List S76} (hz:fN F R E) (n:Int) (hf:fv F=true) (h8:R.length≤8) (hn:0≤n∧n≤999999999):∀(d i:Nat),i+d=R.length→(∀(j:Nat) (h:j<R.length),j<i→pB F R n j h)→Ev (fun k=>aq.l0 k R (R.length:Int) (i:Int) F R E n) (decide (dC F R n i∧iX F R E n)):=by
 have hr:=hz.r;intro d;induction d with
 | zero=>
  intro i hi hprev;have hall:dC F R n 0:=fun j hj _=>hprev j hj (by omega)
  have hend:dC F R n i:=fun j hj hij=>by omega
  refine Ev.step (fun k=>aq.l0.eq_2 _ _ _ _ _ _ _ _) ?_;simp only[if_neg (show ¬((i:Int)<(R.length:Int)) by omega)];obtain⟨L,h1,h2,h3⟩:=l8 F hz.f R (iz hall) h8;refine Ev.bind h1 ?_;refine Ev.bind (m4 E L (by have:=hz.e;omega) (fun e he=>⟨by have:=(hz.es e he).1;omega,fun p hp=>by have:=(hz.es e he).2 p hp;omega⟩)) ?_;exact da ⟨fun h=>⟨hend,hf,h8,hn,by rw[h];exact h2⟩,fun h=>iv h.2.2.2.2 h2⟩ (Ev.now (decide (E=L)))
 | succ d ih=>
  intro i hi hprev;have hil:i<R.length:=by omega
  have hs:=hz.rs _ (List.getElem_mem hil);have next:pB F R n i hil→Ev (fun k=>aq.l0 k R (R.length:Int) ((i+1:Nat):Int) F R E n) (decide (dC F R n i∧iX F R E n)):=fun hp=>
   da ⟨fun h=>⟨(eh hil).2 ⟨hp,h.1⟩,h.2⟩,fun h=>⟨((eh hil).1 h.1).2,h.2⟩⟩ (ih (i+1) (by omega) (fun j hj hji=>by
    rcases Nat.lt_or_ge j i with hlt | hge
    ·exact hprev j hj hlt
    ·obtain rfl:j=i:=by omega
     exact hp))
  have stop:¬pB F R n i hil→Ev (fun _:Nat=>some false) (decide (dC F R n i∧iX F R E n)):=fun hp=>bu (fun h=>hp ((eh hil).1 h.1).1) (Ev.now _)
  have doc:(0≤R[i].f0∧R[i].f0≤wrap64 (n - 1))→(∀h0:0<i,(R[i - 1]'(by omega)).f0<R[i].f0)→Ev (fun k=>(bj.f k F R[i].f1.f0 R[i].f1.f1).bind fun t=>if t=true then(de.f F R E n R[i].f1.f0).bind fun t2=>if t2=(i:Int) then aq.l0 k R (R.length:Int) ((i+1:Nat):Int) F R E n else some false else some false) (decide (dC F R n i∧iX F R E n)):=by
   intro hin ho;refine Ev.bind (mC F hz.f hz.fs R[i].f1.f0 R[i].f1.f1 hs.1 hs.2.1 hs.2.2) ?_;cases hd:gF F R[i].f1.f0 R[i].f1.f1 with
   | false=>simp only[if_neg (show ¬(false=true) by decide)];exact stop (fun h=>by have:=h.1;rw[hd] at this;cases this)
   | true=>
    simp only[if_true,de.f,Option.bind_some];by_cases hk:ej R[i].f1.f0 0 R=(i:Int)
    ·simp only[if_pos hk];exact next ⟨hd,hk,hin,ho⟩
    ·simp only[if_neg hk];exact stop (fun h=>hk h.2.1)
  refine Ev.step (fun k=>aq.l0.eq_2 _ _ _ _ _ _ _ _) ?_;simp only[if_pos (show ((i:Int)<(R.length:Int)) by omega),if_pos (show (0:Int)≤(i:Int) by omega),fx R i hil,cm i (by omega),dJ,Option.bind_some];by_cases hin:0≤R[i].f0∧R[i].f0≤wrap64 (n - 1)
  ·simp only[decide_eq_true hin,if_true];by_cases h0:0<i
   ·obtain⟨m,rfl⟩:∃m,i=m+1:=⟨i - 1,by omega⟩;simp only[if_pos (show ((m+1:Nat):Int)>0 by omega),qC m (by omega),if_pos (show (0:Int)≤(m:Int) by omega),if_pos (show ((m:Int)<(R.length:Int)) by omega),fx R m (by omega)];by_cases ho:R[m].f0≥R[m+1].f0
    ·simp only[if_pos ho];exact stop (fun h=>by have h2:R[m].f0<R[m+1].f0:=h.2.2.2 h0;omega)
    ·simp only[if_neg ho];exact doc hin (fun _=>by show R[m].f0<R[m+1].f0;omega)
   ·simp only[if_neg (show ¬((i:Int)>0) by omega)];exact doc hin (fun h=>absurd h h0)
  ·simp only[decide_eq_false hin,if_neg (show ¬(false=true) by decide)];exact stop (fun h=>hin h.2.2.1)
open Classical in
theorem kW {F:List S92} {R:List S46} {E:List S76} (hz:fN F R E) (n:Int):Ev (fun k=>aq.f k F R E n) (eO F R E n):=by
 have hr:=hz.r;simp only[aq.f,eO];have stop:¬iX F R E n→Ev (fun k=>aq.j0 k true F R E n) (decide (dC F R n 0∧iX F R E n)):=by
  intro h;refine Ev.step (fun k=>aq.j0.eq_2 _ _ _ _ _ _) ?_;simp only[if_true];exact bu (fun h2=>h h2.2) (Ev.now _)
 refine Ev.bind (gw F (by have:=hz.f;omega) hz.fs) ?_;cases hf:fv F with
 | false=>simp only[if_neg (show ¬(false=true) by decide)];exact stop (fun h=>by have:=h.1;rw[hf] at this;cases this)
 | true=>
  simp only[if_true];by_cases h8:R.length≤8
  ·simp only[if_neg (show ¬((R.length:Int)>8) by omega),dJ,Option.bind_some];by_cases hn:0≤n∧n≤999999999
   ·simp only[decide_eq_true hn,Bool.not_true];refine Ev.step (fun k=>aq.j0.eq_2 _ _ _ _ _ _) ?_;simp only[if_neg (show ¬(false=true) by decide)];exact la hz n hf h8 hn R.length 0 (by omega) (fun j hj h=>by omega)
   ·simp only[decide_eq_false hn,Bool.not_false];exact stop (fun h=>hn h.2.2.1)
  ·simp only[if_pos (show ((R.length:Int)>8) by omega)];exact stop (fun h=>h8 h.2.1)
theorem iZ (f t:ByteArray) (E:List S76) (n i0:Int) (ps:List S50) (r:List S50) (hp:∀p∈ps,p.f1.length≤1048576) (hn:ps.length≤1048576):∀(d i:Nat) (acc:List S50),i+d=ps.length→acc.length+d≤4398046511103 →
  Ev (fun k=>an.l0 k f t (acc ++ ps.drop i) E n (wrap64 (i0+1))) r→Ev (fun k=>an.l1 k f t acc E n i0 ps (ps.length:Int) (i:Int)) r:=by
 intro d;induction d with
 | zero=>
  intro i acc hi ha h;refine Ev.step (fun k=>an.l1.eq_2 _ _ _ _ _ _ _ _ _ _) ?_;simp only[if_neg (show ¬((i:Int)<(ps.length:Int)) by omega)];rwa [List.drop_of_length_le (by omega),List.append_nil] at h
 | succ d ih=>
  intro i acc hi ha h;have hl:i<ps.length:=by omega
  have h1:=hp ps[i] (List.getElem_mem hl);refine Ev.step (fun k=>an.l1.eq_2 _ _ _ _ _ _ _ _ _ _) ?_;rw[List.drop_eq_getElem_cons hl] at h;simp only[if_pos (show ((i:Int)<(ps.length:Int)) by omega),if_pos (show 0≤(i:Int) by omega),gt ps i hl,Option.bind_some,List.length_nil,Nat.zero_add,List.nil_append,if_pos (show ps[i].f1.length<17592186044416 by omega),if_pos (show acc.length<4398046511104 by omega),cm i (by omega)];refine ih (i+1) (acc ++ [⟨ps[i].f0,ps[i].f1⟩]) (by omega) (by simp;omega) ?_;rw[List.append_assoc];exact h
theorem jb (E:List S76) (f t:ByteArray) (hE:E.length≤1048576) (he:∀x∈E,x.f2.length≤1048576∧∀p∈x.f2,p.f1.length≤1048576):∀(d i:Nat) (acc:List S50),i+d=E.length→acc.length≤i*1048576→Ev (fun k=>an.l0 k f t acc E (E.length:Int) (i:Int)) (acc ++ dj f t (E.drop i)):=by
 intro d;induction d with
 | zero=>
  intro i acc hi ha;refine Ev.step (fun k=>an.l0.eq_2 _ _ _ _ _ _ _) ?_;simp only[if_neg (show ¬((i:Int)<(E.length:Int)) by omega)];rw[List.drop_of_length_le (by omega),dj,List.append_nil];exact Ev.now _
 | succ d ih=>
  intro i acc hi ha;have hl:i<E.length:=by omega
  have h0:=he E[i] (List.getElem_mem hl);refine Ev.step (fun k=>an.l0.eq_2 _ _ _ _ _ _ _) ?_;rw[List.drop_eq_getElem_cons hl,dj];simp only[if_pos (show ((i:Int)<(E.length:Int)) by omega),if_pos (show 0≤(i:Int) by omega),fk E i hl];have skip:Ev (fun k=>an.j1 k f t acc E (E.length:Int) (i:Int) true E[i].f0 E[i].f1 E[i].f2) (acc ++ dj f t (E.drop (i+1))):=by
   refine Ev.step (fun k=>an.j1.eq_2 _ _ _ _ _ _ _ _ _ _ _) ?_;simp only[if_true,cm i (by omega)];exact ih (i+1) acc (by omega) (Nat.le_trans ha (Nat.mul_le_mul_right _ (Nat.le_succ i)))
  by_cases h1:E[i].f0.toList=f.toList
  ·simp only[if_pos h1];by_cases h2:E[i].f1.toList=t.toList
   ·simp only[if_pos h2];have e:(E[i].f1.toList != t.toList)=false:=by rw[h2];exact bne_self_eq_false _
    simp only[e];refine Ev.step (fun k=>an.j1.eq_2 _ _ _ _ _ _ _ _ _ _ _) ?_;simp only[if_neg (show ¬(false=true) by decide)];refine iZ f t E (E.length:Int) (i:Int) E[i].f2 _ h0.2 h0.1 E[i].f2.length 0 acc (by omega) (by omega) ?_;rw[cm i (by omega),List.drop_zero,← List.append_assoc];exact ih (i+1) (acc ++ E[i].f2) (by omega) (by rw[List.length_append,Nat.succ_mul];exact Nat.add_le_add ha h0.1)
   ·simp only[if_neg h2];have e:(E[i].f1.toList != t.toList)=true:=bne_iff_ne.2 h2;simp only[e];exact skip
  ·simp only[if_neg h1];exact skip
theorem i7 {F:List S92} {R:List S46} {E:List S76} (hz:fN F R E) (n:Int) (f t:ByteArray):Ev (fun k=>an.f k F R E n f t) (fI F R E n f t):=by
 have he:=hz.e;simp only[an.f,Option.bind_some];refine Ev.bind (kW hz n) ?_;unfold fI
 by_cases hb:eO F R E n=true
 ·simp only[if_pos hb];exact jb E f t he hz.es E.length 0 [] (by omega) (by simp)
 ·simp only[if_neg hb];exact Ev.now _
theorem rl (l:List S76) (p:ByteArray × ByteArray) (hs:dP l) (hn:l.length≤1099511627776):∀(d i:Nat),i+d=l.length→(∀(j:Nat) (h:j<l.length),j<i→ltP (b9 l[j]) p) →
  ∃(j:Nat) (b:Bool),Ev (fun k=>bg.l0 k l p.1 p.2 (i:Int)) ((j:Int),b)∧((b=true∧∃h:j<l.length,b9 l[j] = p)∨(b=false∧∀e∈l,b9 e≠p)):=by
 intro d;induction d with
 | zero=>
  intro i hi hb;refine⟨i,false,Ev.step (fun k=>bg.l0.eq_2 _ _ _ _ _) ?_,.inr ⟨rfl,fun e he hk=>?_⟩⟩
  ·simp only[if_neg (show ¬((i:Int)<(l.length:Int)) by omega)];exact Ev.now _
  ·obtain⟨j,hj,rfl⟩:=List.mem_iff_getElem.1 he;have:=hb j hj (by omega);rw[hk] at this;exact dA _ this
 | succ d ih=>
  intro i hi hb;have hil:i<l.length:=by omega
  have hlt:ltP (b9 l[i]) p↔(l[i].f0.toList<p.1.toList∨l[i].f0.toList=p.1.toList∧l[i].f1.toList<p.2.toList):=Iff.rfl;have hgo:∀k,bg.l0 (k+1) l p.1 p.2 (i:Int)=if Op.bytesLess l[i].f0.toList p.1.toList=true then bg.l0 k l p.1 p.2 ((i+1:Nat):Int) else if l[i].f0.toList=p.1.toList then if Op.bytesLess l[i].f1.toList p.2.toList=true then bg.l0 k l p.1 p.2 ((i+1:Nat):Int) else some ((i:Int),l[i].f1.toList == p.2.toList) else some ((i:Int),false):=by
   intro k;rw[bg.l0.eq_2];simp only[if_pos (show ((i:Int)<(l.length:Int)) by omega),if_pos (show 0≤(i:Int) by omega),fk l i hil,cm i (by omega)]
  have none_:¬ltP (b9 l[i]) p→b9 l[i] ≠ p→∀e∈l,b9 e≠p:=by
   intro h1 h2 e he hk;have h3:ltP p (b9 l[i]):=by
    rcases fq (b9 l[i]) p with h | h | h
    ·exact absurd h h1
    ·exact absurd h h2
    ·exact h
   obtain⟨j,hj,rfl⟩:=List.mem_iff_getElem.1 he;rcases Nat.lt_trichotomy j i with h | h | h
   ·have:=hb j hj h;rw[hk] at this;exact dA _ this
   ·subst h;exact h2 hk
   ·have:=List.pairwise_iff_getElem.1 hs i j hil hj h;rw[hk] at this;exact h1 this
  by_cases c1:l[i].f0.toList<p.1.toList
  ·obtain⟨j,b,h1,h2⟩:=ih (i+1) (by omega) (fun j hj h=>by
    rcases Nat.lt_or_ge j i with h3 | h3
    ·exact hb j hj h3
    ·obtain rfl:j=i:=by omega
     exact hlt.2 (.inl c1))
   exact⟨j,b,Ev.step (fun k=>by rw[hgo k,if_pos (by rw[el];exact decide_eq_true c1)]) h1,h2⟩
  ·by_cases c2:l[i].f0.toList=p.1.toList
   ·by_cases c3:l[i].f1.toList<p.2.toList
    ·obtain⟨j,b,h1,h2⟩:=ih (i+1) (by omega) (fun j hj h=>by
      rcases Nat.lt_or_ge j i with h3 | h3
      ·exact hb j hj h3
      ·obtain rfl:j=i:=by omega
       exact hlt.2 (.inr ⟨c2,c3⟩))
     exact⟨j,b,Ev.step (fun k=>by rw[hgo k,if_neg (by rw[el];simpa using c1),if_pos c2,if_pos (by rw[el];exact decide_eq_true c3)]) h1,h2⟩
    ·refine⟨i,l[i].f1.toList == p.2.toList,Ev.step (fun k=>by rw[hgo k,if_neg (by rw[el];simpa using c1),if_pos c2,if_neg (by rw[el];simpa using c3)]) (Ev.now _),?_⟩;by_cases c4:l[i].f1.toList=p.2.toList
     ·exact .inl ⟨by rw[c4];exact beq_self_eq_true _,hil,Prod.ext (toList_inj.1 c2) (toList_inj.1 c4)⟩
     ·refine .inr ⟨beq_eq_false_iff_ne.2 c4,none_ (fun h=>?_) (fun h=>c4 (by rw[← h];rfl))⟩;rcases hlt.1 h with h | h
      ·exact c1 h
      ·exact c3 h.2
   ·refine⟨i,false,Ev.step (fun k=>by rw[hgo k,if_neg (by rw[el];simpa using c1),if_neg c2]) (Ev.now _),.inr ⟨rfl,none_ (fun h=>?_) (fun h=>c2 (by rw[← h];rfl))⟩⟩;rcases hlt.1 h with h | h
    ·exact c1 h
    ·exact c2 h.1
theorem k4 (F:List S92) (R:List S46) (E:List S76) (n:Int) (j:Nat) (hj:j<E.length) (hp:∀p∈E[j].f2,p.f1.length≤1048576) (hn:E[j].f2.length≤1048576):∀(d i:Nat) (acc:List S50),i+d=E[j].f2.length→acc.length≤i→Ev (fun k=>bi.l0 k acc (j:Int) (i:Int) F R E n) (acc ++ E[j].f2.drop i):=by
 intro d;induction d with
 | zero=>
  intro i acc hi ha;refine Ev.step (fun k=>bi.l0.eq_2 _ _ _ _ _ _ _ _) ?_;simp only[if_pos (show 0≤(j:Int) by omega),if_pos (show (j:Int)<(E.length:Int) by omega),fk E j hj,if_neg (show ¬((i:Int)<(E[j].f2.length:Int)) by omega)];rw[List.drop_of_length_le (by omega),List.append_nil];exact Ev.now _
 | succ d ih=>
  intro i acc hi ha;have hl:i<E[j].f2.length:=by omega
  have h1:=hp E[j].f2[i] (List.getElem_mem hl);refine Ev.step (fun k=>bi.l0.eq_2 _ _ _ _ _ _ _ _) ?_;rw[List.drop_eq_getElem_cons hl];simp only[if_pos (show 0≤(j:Int) by omega),if_pos (show (j:Int)<(E.length:Int) by omega),fk E j hj,if_pos (show ((i:Int)<(E[j].f2.length:Int)) by omega),if_pos (show 0≤(i:Int) by omega),gt E[j].f2 i hl,Option.bind_some,List.length_nil,Nat.zero_add,List.nil_append,if_pos (show E[j].f2[i].f1.length<17592186044416 by omega),if_pos (show acc.length<4398046511104 by omega),cm i (by omega)];have:=ih (i+1) (acc ++ [⟨E[j].f2[i].f0,E[j].f2[i].f1⟩]) (by omega) (by simp;omega);rw[List.append_assoc] at this;exact this
theorem fQ {F:List S92} {R:List S46} {E:List S76} (hz:fN F R E) (n:Int) (f t:ByteArray):Ev (fun k=>cK.f k F R E n f t) (fI F R E n f t):=by
 have he:=hz.e;simp only[cK.f];refine Ev.bind (gT hz n) ?_;unfold fI
 by_cases hb:eO F R E n=true
 ·simp only[if_pos hb];have hs:=kx hz.f hb;obtain⟨j,b,h1,h2⟩:=rl E (f,t) hs (by omega) E.length 0 (by omega) (fun j _ h=>by omega);refine Ev.bind (?_:Ev (fun k=>bi.f k F R E n f t) (dj f t E)) (Ev.now _);simp only[bi.f,Option.bind_some,bg.f];refine Ev.bind h1 ?_;rcases h2 with ⟨rfl,hj,hk⟩ | ⟨rfl,hk⟩
  ·simp only[if_true];rw[kd f t E hs E[j] (List.getElem_mem hj) hk];have h0:=hz.es E[j] (List.getElem_mem hj);exact k4 F R E n j hj h0.2 h0.1 E[j].f2.length 0 [] (by omega) (by simp)
  ·simp only[if_neg (show ¬(false=true) by decide)];rw[fp f t E hk];exact Ev.now _
 ·simp only[if_neg hb];exact Ev.now _
open Classical in
theorem pO {F:List S92} {R:List S46} {E:List S76} {n:Int} (hF:F.length≤1048576) (h:eO F R E n=true):E=ei F R [] ∧ ee 45000 E:=by
 unfold eO at h
 obtain⟨h1,_,h2,_,h3⟩:=of_decide_eq_true h;obtain⟨e1,e2⟩:=nX F hF R (fun r hr=>by have:=iz h1 r hr;exact⟨by omega,this.2⟩) (by omega);have:=iv h3 e1;exact⟨this,this ▸ e2⟩
theorem sK {a b:ByteArray} (h:nD a b):a.toList<b.toList:=by
 unfold nD at h
 rw[el] at h;exact of_decide_eq_true h
theorem eZ (id:Int) (name:ByteArray):∀(ts:List ByteArray) (x:Int) (L:List S76),dP L→dP (gj id name ts x L)
 | [],_,_,h=>h
 | t :: ts,x,L,h=>by
  rw[gj];refine eZ id name ts (x+1) _ ?_;split
  ·exact h
  ·exact f3 _ _ _ h
theorem kz (F:List S92) (id:Int):∀(cs:List S86) (L:List S76),dP L→dP (lX F id cs L)
 | [],_,h=>h
 | c :: cs,L,h=>by
  rw[lX];refine kz F id cs _ ?_;split
  ·exact eZ id c.f0 (dg c.f1) 0 L h
  ·exact h
theorem nJ (id x:Int) (e:S76):b9 (j4 id x e)=b9 e:=rfl
theorem gm {f t:ByteArray} {e:S76} {l:List S76} (h:b9 e=(f,t)):dj f t (e :: l)=e.f2 ++ dj f t l:=by
 have h3:e.f0=f:=congrArg Prod.fst h;have h4:e.f1=t:=congrArg Prod.snd h;rw[dj,if_pos (by rw[h3]),if_pos (by rw[h4])]
theorem fB {f t:ByteArray} {e:S76} {l:List S76} (h:b9 e≠(f,t)):dj f t (e :: l)=dj f t l:=by
 rw[dj];split
 ·rename_i h1
  rw[if_neg (show ¬e.f1.toList=t.toList from fun h2=>h (Prod.ext (toList_inj.1 h1) (toList_inj.1 h2)))]
 ·rfl
theorem lC (f t:ByteArray) (p:ByteArray × ByteArray) (id x:Int):∀ {l:List S76},dP l→(p=(f,t)→dj f t (d8 p id x l)=ey (dj f t l) id x)∧(p≠(f,t)→dj f t (d8 p id x l)=dj f t l)
 | [],_=>by
  rw[d8];exact⟨fun h=>by rw[gm (e:=il p id x) h];rfl,fun h=>by rw[fB (e:=il p id x) h]⟩
 | e :: l,hs=>by
  obtain⟨h1,h2⟩:=List.pairwise_cons.1 hs;obtain⟨i1,i2⟩:=lC f t p id x h2;rw[d8];split
  ·rename_i hlt
   refine⟨fun h=>?_,fun h=>?_⟩
   ·have hne:b9 e≠(f,t):=fun he=>dA _ (by rw[he,h] at hlt;exact hlt)
    rw[fB hne,fB hne,i1 h]
   ·by_cases he:b9 e=(f,t)
    ·rw[gm he,gm he,i2 h]
    ·rw[fB he,fB he,i2 h]
  ·rename_i hlt
   split
   ·rename_i heq
    refine⟨fun h=>?_,fun h=>?_⟩
    ·rw[h] at heq;have hno:dj f t l = []:=fp f t l (fun y hy hk=>dA _ (by have:=h1 y hy;rw[heq,hk] at this;exact this));rw[gm (e:=j4 id x e) (by rw[nJ];exact heq),gm heq,hno,List.append_nil,List.append_nil];rfl
    ·have hne:b9 e≠(f,t):=by rw[heq];exact h
     rw[fB (e:=j4 id x e) (by rw[nJ];exact hne),fB hne]
   ·rename_i hne
    have hgt:ltP p (b9 e):=by
     rcases fq (b9 e) p with h | h | h
     ·exact absurd h hlt
     ·exact absurd h hne
     ·exact h
    refine⟨fun h=>?_,fun h=>?_⟩
    ·have hno:dj f t (e :: l) = []:=fp f t (e :: l) (fun y hy hk=>by
      rcases List.mem_cons.1 hy with hy | hy
      ·exact hne (by rw[← hy,hk,h])
      ·exact dA _ (by have:=fm hgt (h1 y hy);rw[hk,← h] at this;exact this))
     rw[gm (e:=il p id x) h,hno];rfl
    ·rw[fB (e:=il p id x) h]
def gM (id:Int):List Int→List S50→List S50
 | [],ps=>ps
 | x :: xs,ps=>gM id xs (ey ps id x)
theorem fy (f t:ByteArray) (id:Int) (name:ByteArray):∀(ts:List ByteArray) (x:Int) (L:List S76),dP L →
  (name=f→dj f t (gj id name ts x L)=gM id (kj t ts x) (dj f t L))∧(name≠f→dj f t (gj id name ts x L)=dj f t L)
 | [],_,_,_=>⟨fun _=>rfl,fun _=>rfl⟩
 | a :: us,x,L,hs=>by
  rw[gj,kj];by_cases h0:a.size=0
  ·rw[if_pos h0];obtain⟨i1,i2⟩:=fy f t id name us (x+1) L hs;refine⟨fun h=>?_,i2⟩;rw[i1 h];by_cases ha:a=t
   ·rw[if_pos ha,if_pos (by rw[← ha];exact h0)]
   ·rw[if_neg ha]
  ·rw[if_neg h0];obtain⟨i1,i2⟩:=fy f t id name us (x+1) _ (f3 (name,a) id x hs);obtain⟨j1,j2⟩:=lC f t (name,a) id x hs;refine⟨fun h=>?_,fun h=>?_⟩
   ·rw[i1 h];by_cases ha:a=t
    ·rw[if_pos ha,if_neg (by rw[← ha];exact h0),j1 (by rw[h,ha])];rfl
    ·rw[if_neg ha,j2 (fun e=>ha (congrArg Prod.snd e))]
   ·rw[i2 h,j2 (fun e=>h (congrArg Prod.fst e))]
theorem eJ (F:List S92) (f t:ByteArray) (id:Int):∀(cs:List S86) (L:List S76),dP L→(∀c∈cs,c.f0≠f)→dj f t (lX F id cs L)=dj f t L
 | [],_,_,_=>rfl
 | c :: cs,L,hs,hn=>by
  rw[lX];have hc:=hn c (by simp);have hn':=fun x hx=>hn x (List.mem_cons_of_mem _ hx)
  split
  ·rw[eJ F f t id cs _ (eZ id c.f0 (dg c.f1) 0 L hs) hn',(fy f t id c.f0 (dg c.f1) 0 L hs).2 hc]
  ·exact eJ F f t id cs L hs hn'
theorem jn (F:List S92) (f t:ByteArray) (id:Int):∀(cs:List S86) (L:List S76),dP L→cs.Pairwise (fun a b=>a.f0≠b.f0)→dj f t (lX F id cs L)=gM id (dq F f t cs) (dj f t L)
 | [],_,_,_=>by
  unfold dq
  rw[if_neg (by simp[cH])];rfl
 | c :: cs,L,hs,hp=>by
  obtain⟨h1,h2⟩:=List.pairwise_cons.1 hp;rw[lX];by_cases hc:c.f0=f
  ·have hn:∀x∈cs,x.f0≠f:=fun x hx h=>h1 x hx (by rw[hc,h])
   have e:dq F f t (c :: cs)=if dc F f=1 then kj t (dg c.f1) 0 else[]:=by
    unfold dq
    simp only[cH,if_pos hc,true_and]
   rw[e,hc];split
   ·rw[eJ F f t id cs _ (eZ id f (dg c.f1) 0 L hs) hn,(fy f t id f (dg c.f1) 0 L hs).1 rfl]
   ·rw[eJ F f t id cs L hs hn];rfl
  ·have e:dq F f t (c :: cs)=dq F f t cs:=by
    unfold dq
    simp only[cH,if_neg hc]
   rw[e];split
   ·rw[jn F f t id cs _ (eZ id c.f0 (dg c.f1) 0 L hs) h2,(fy f t id c.f0 (dg c.f1) 0 L hs).2 hc]
   ·exact jn F f t id cs L hs h2
theorem re (ps:List S50) (id x:Int) (h:∀p∈ps,p.f0≠id):ey ps id x=ps ++ [⟨id,[x]⟩]:=by
 unfold ey
 cases hl:ps.getLast? with
 | none=>rw[List.getLast?_eq_none_iff.1 hl];rfl
 | some q=>simp only[if_neg (h q (List.mem_of_getLast? hl))]
theorem pN (ps:List S50) (id x:Int) (ys:List Int):ey (ps ++ [⟨id,ys⟩]) id x=ps ++ [⟨id,ys ++ [x]⟩]:=by
 unfold ey
 simp
theorem kD (ps:List S50) (id:Int):∀(xs ys:List Int),gM id xs (ps ++ [⟨id,ys⟩])=ps ++ [⟨id,ys ++ xs⟩]
 | [],ys=>by rw[gM,List.append_nil]
 | x :: xs,ys=>by
  rw[gM,pN,kD ps id xs,List.append_assoc];rfl
theorem pT (ps:List S50) (id:Int) (xs:List Int) (h:∀p∈ps,p.f0≠id):gM id xs ps=ps ++ (if xs = [] then[] else[⟨id,xs⟩]):=by
 cases xs with
 | nil=>rw[gM,if_pos rfl,List.append_nil]
 | cons x xs=>rw[gM,re ps id x h,kD,if_neg (by simp)];rfl
theorem kO (F:List S92) (f t:ByteArray):∀(rs:List S46) (L:List S76),dP L→(∀r∈rs,r.f1.f1.Pairwise (fun a b=>a.f0≠b.f0))→rs.Pairwise (fun a b=>a.f0≠b.f0)→(∀p∈dj f t L,∀r∈rs,p.f0≠r.f0) →
  dj f t (ei F rs L)=dj f t L ++ fZ F f t rs
 | [],L,_,_,_,_=>by rw[ei,fZ,List.append_nil]
 | r :: rs,L,hs,hc,hp,hn=>by
  obtain⟨h1,h2⟩:=List.pairwise_cons.1 hp;have e:=jn F f t r.f0 r.f1.f1 L hs (hc r (by simp));rw[pT _ _ _ (fun p hq=>hn p hq r (by simp))] at e;rw[ei,fZ,kO F f t rs _ (kz F r.f0 r.f1.f1 L hs) (fun x hx=>hc x (List.mem_cons_of_mem _ hx)) h2 ?_,e,List.append_assoc];intro p hq x hx;rw[e] at hq;rcases List.mem_append.1 hq with hq | hq
  ·exact hn p hq x (List.mem_cons_of_mem _ hx)
  ·split at hq
   ·cases hq
   ·rw[List.mem_singleton.1 hq];exact h1 x hx
theorem rises {α : Type} {lt : α → α → Prop} (tr:∀ {a b c},lt a b→lt b c→lt a c) (l:List α) (h:∀(i:Nat) (hi:i+1<l.length),lt (l[i]'(by omega)) l[i+1]):l.Pairwise lt:=by
 rw[List.pairwise_iff_getElem];intro i j hi hj hij;obtain⟨d,rfl⟩:∃d,j=i+d+1:=⟨j - i - 1,by omega⟩;clear hij;induction d with
 | zero=>exact h i hj
 | succ d ih=>exact tr (ih (by omega)) (h (i+d+1) hj)
open Classical in
theorem oE {F:List S92} {R:List S46} {E:List S76} {n:Int} (hF:F.length≤1048576) (h:eO F R E n=true) (f t:ByteArray):fI F R E n f t=fZ F f t R:=by
 unfold fI
 rw[if_pos h,(pO hF h).1];unfold eO at h
 obtain⟨h1,_⟩:=of_decide_eq_true h;refine(kO F f t R [] List.Pairwise.nil (fun r hr=>?_) ?_ (fun p hp=>by cases hp)).trans (List.nil_append _)
 ·obtain⟨i,hi,rfl⟩:=List.mem_iff_getElem.1 hr;have hd:=(h1 i hi (Nat.zero_le _)).1;have hp:jh F R[i].f1.f0 R[i].f1.f1:=by unfold gF at hd;exact of_decide_eq_true hd
  have hf:fR R[i].f1.f0 R[i].f1.f1 0:=by have:=hp.2.1;unfold jx at this;exact of_decide_eq_true this
  have hr:=rises (lt:=fun (a b:S86)=>a.f0.toList<b.f0.toList) (fun h1 h2=>List.lt_trans h1 h2) R[i].f1.f1 (fun j hj=>sK ((hf.1 (j+1) hj (Nat.zero_le _)).2.2 (by omega)));refine hr.imp ?_;intro a b hlt he;have h9:a.f0.toList<b.f0.toList:=hlt;rw[he] at h9;exact List.lt_irrefl _ h9
 ·have hr:=rises (lt:=fun (a b:S46)=>a.f0<b.f0) (fun h1 h2=>Int.lt_trans h1 h2) R (fun j hj=>(h1 (j+1) hj (Nat.zero_le _)).2.2.2 (by omega));refine hr.imp ?_;intro a b hlt he;have h9:a.f0<b.f0:=hlt;omega
open Classical in
theorem FnIndexPosts:ai.PureX:=by
 intro l hw;refine Ev.rounds (g:=fun k=>ai.f k l) ?_;simp only[ai.f];by_cases hg:(l.length:Int)>1048576
 ·simp only[if_pos hg];exact Ev.now _
 simp only[if_neg hg];obtain⟨F,R,E,n,f,t,h1,hz⟩:=jH l hw.2;obtain⟨s1,s2⟩:=mX hz n f t;refine Ev.bind h1 ?_;refine Ev.bind (i7 hz n f t) ?_;refine Ev.bind (fQ hz n f t) ?_;refine Ev.bind (jt _ s1 s2) ?_;simp only[if_true];refine Ev.bind (gT hz n) ?_;cases hb:eO F R E n with
 | false=>
  refine Ev.step (fun k=>ai.j0.eq_2 _ _ _ _ _ _ _ _ _) ?_;simp only[Bool.not_false,if_true];refine Ev.bind (fQ hz n f t) ?_;exact Ev.bind (jt _ s1 s2) (Ev.now _)
 | true=>
  refine Ev.step (fun k=>ai.j0.eq_2 _ _ _ _ _ _ _ _ _) ?_;simp only[Bool.not_true,if_neg (show ¬(false=true) by decide)];have hr:R.length≤8:=by unfold eO at hb;exact(of_decide_eq_true hb).2.2.1
  exact kX hz n f t _ hr s1 R.length 0 0 (Nat.zero_add _) (Nat.zero_le _) (by rw[List.drop_zero,List.drop_zero];exact oE hz.f hb f t)
end Go.Proofs.YtnjjdojonflckaaGreatDoor.Pure
