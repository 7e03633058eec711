/- The plain law of FnIndexTerms: whatever the input, the printed function of this law answers true after enough rounds; conditions: only the sizes and kinds that the law's Pure states. -/
import Derived.Test.YtnjjdojonflckaaGreatDoorYSFnIndexTerms
import Derived.Lib.IndexBytes
import Derived.Lib.SplitLaws
import Derived.Lib.AtoiAllCases
import Derived.Lib.ItoaNum
import Derived.Lib.Strings
namespace Go.Proofs.YtnjjdojonflckaaGreatDoor.Pure
open Go.RowKit Go.Proofs.YtnjjdojonflckaaGreatDoor.PFnIndexTerms Go.Proofs.YtnjjdojonflckaaGreatDoorW.PrintWords Go.Proofs.YtnjjdojonflckaaGreatDoorW.PrintLast Go.Proofs.YtnjjdojonflckaaGreatDoorW.PrintMore
set_option linter.unusedVariables false
set_option linter.unusedSimpArgs false
def CodeOk (s:List Int):Prop:=s.length≤2000∧∀c∈s,0≤c∧c≤255
theorem rB (s:List Int) (hb:∀c∈s,0≤c∧c≤255):∃s',ei.f s=some (s',0)∧CodeOk s':=by
 unfold ei.f
 by_cases h:(s.length:Int)>2000
 ·rw[if_pos h,if_pos (by omega)];exact⟨_,rfl,by rw[List.length_take];omega,fun c hc=>hb c (List.mem_of_mem_take hc)⟩
 ·rw[if_neg h];exact⟨_,rfl,by omega,hb⟩
def fG:List ByteArray:=[(⟨#[116,105,116,108,101]⟩:ByteArray),(⟨#[98,111,100,121]⟩:ByteArray),(⟨#[112,114,105,99,101]⟩:ByteArray),(⟨#[99,111,108,111,114]⟩:ByteArray),(⟨#[122]⟩:ByteArray),(⟨#[]⟩:ByteArray)]
def g6 (n:Nat) (l:List S92):Prop:=l.length≤n∧∀f∈l,f.f0∈fG
theorem pb {n:Nat} {l:List S92} (h:g6 n l):∀f∈l,f.f0.size≤1048576:=by
 intro f hf;have:∀x∈fG,x.size≤1048576:=by decide
 exact this _ (h.2 f hf)
def dT (l:List S86):Prop:=∀c∈l,c.f0.size≤300∧c.f1.size≤300
def eS (c:Nat) (l:List S46):Prop:=∀r∈l,r.f1.f0.size≤400∧r.f1.f1.length≤c∧dT r.f1.f1
def d7 (c:Nat) (l:List S76):Prop:=l.length≤c∧∀e∈l,e.f2 ≠ [] ∧ LenP c e.f2
def qb (F:List S92) (R:List S46) (E:List S76):Prop:=g6 5 F∧R.length≤9∧eS 5 R∧d7 45000 E
structure fo (F:List S92) (R:List S46) (E:List S76):Prop where
 f:F.length≤1048576
 fs:∀x∈F,x.f0.size≤1048576
 r:R.length≤1048576
 rs:∀x∈R,x.f1.f0.size≤1048576∧x.f1.f1.length≤1048576∧∀c∈x.f1.f1,c.f0.size≤1048576∧c.f1.size≤1048576
 e:E.length≤1048576
 es:∀x∈E,x.f2.length≤1048576∧∀p∈x.f2,p.f1.length≤1048576
theorem nR {F:List S92} {R:List S46} {E:List S76} (h:qb F R E):fo F R E:=by
 obtain⟨h1,h2,h3,h4⟩:=h;refine⟨by have:=h1.1;omega,pb h1,by omega,fun r hr=>?_,by have:=h4.1;omega,fun e he=>?_⟩
 ·obtain⟨a,b,c⟩:=h3 r hr;exact⟨by omega,by omega,fun x hx=>by have:=c x hx;omega⟩
 ·obtain⟨_,a,b⟩:=h4.2 e he;exact⟨by omega,fun p hp=>by have:=b p hp;omega⟩
theorem cd {x:Int} (h0 : -9223372036854775808≤x) (h1:x≤9223372036854775807):wrap64 x=x:=by unfold wrap64;omega
theorem CodeOk.byte {s:List Int} (h:CodeOk s) (i:Int):0≤rd s i∧rd s i≤255:=by
 unfold rd
 rw[List.getD_eq_getElem?_getD];rcases Nat.lt_or_ge i.toNat s.length with hi | hi
 ·rw[List.getElem?_eq_getElem hi];exact h.2 _ (List.getElem_mem _)
 ·rw[List.getElem?_eq_none hi];simp
theorem qC {a b:Int} (ha:0≤a) (hb:0<b):0≤Int.tdiv a b∧Int.tdiv a b≤a:=by
 rw[Int.tdiv_eq_ediv_of_nonneg ha];exact⟨Int.ediv_nonneg ha (by omega),Int.ediv_le_self _ ha⟩
theorem jo {a b:Int} (ha:0≤a) (hb:0<b):0≤Int.tmod a b∧Int.tmod a b<b:=by
 rw[Int.tmod_eq_emod_of_nonneg ha];exact⟨Int.emod_nonneg _ (by omega),Int.emod_lt_of_pos _ hb⟩
theorem tc (a b:Nat) (ha:a<2 ^ 62) (hb:b<2 ^ 62):∃m:Nat,Go.bits .xor .i64 (a:Int) (b:Int)=(m:Int)∧m<2 ^ 62:=by
 have ha':a % 2 ^ IntKind.i64.bits=a:=Nat.mod_eq_of_lt (Nat.lt_of_lt_of_le ha (by decide));have hb':b % 2 ^ IntKind.i64.bits=b:=Nat.mod_eq_of_lt (Nat.lt_of_lt_of_le hb (by decide));have hx:=Nat.xor_lt_two_pow ha hb;refine⟨a ^^^ b,?_,hx⟩;simp only[Go.bits,BitVec.ofInt_natCast,BitVec.toNat_xor,BitVec.toNat_ofNat,ha',hb'];rw[IntKind.wrap_i64];have:((a ^^^ b:Nat):Int)<4611686018427387904:=by have:=hx;omega
 omega
theorem dN (s:List Int) (hs:CodeOk s) (p n:Int) (hp:0≤p) (hp1:p≤1000000) (hn:1≤n) (hn1:n≤1000000) :
  ∃r,Ev (fun k=>ac.f k s p n) (r,p+1)∧0≤r∧r<n:=by
 simp only[ac.f,if_neg (show ¬n<1 by omega),cd (x:=p+1) (by omega) (by omega)];by_cases h0:s.length=0
 ·refine⟨0,Ev.step (fun k=>ac.j0.eq_2 _ _ _ _ _) ?_,by omega,by omega⟩;simp only[show ((s.length:Int) == 0)=true by simp[h0],if_true];exact Ev.now _
 ·have hl:0<(s.length:Int):=by omega
  have hb:((s.length:Int) == 0)=false:=by simp;intro h;exact h0 (by rw[h];rfl)
  have e1:wrap64 (p+1 - 1)=p:=by rw[cd (by omega) (by omega)];omega
  by_cases hlt:p<(s.length:Int)
  ·have hc:=hs.byte p;refine⟨Int.tmod (rd s p) n,Ev.step (fun k=>ac.j0.eq_2 _ _ _ _ _) ?_,(jo hc.1 (by omega)).1,(jo hc.1 (by omega)).2⟩;simp only[hb,if_neg (show ¬(false=true) by decide),e1,if_pos hlt,if_pos hp,if_neg (show ¬n=0 by omega),cd (x:=rd s p) (by omega) (by omega)];exact Ev.now _
  ·have m1:=jo hp hl;have e2:wrap64 (wrap64 (p*7)+3)=p*7+3:=by rw[cd (x:=p*7) (by omega) (by omega),cd (by omega) (by omega)]
   have m2:=jo (show 0≤p*7+3 by omega) hl;have d1:=qC hp hl;obtain⟨A,hA⟩:∃A,rd s (Int.tmod p (s.length:Int))=A:=⟨_,rfl⟩;obtain⟨B,hB⟩:∃B,rd s (Int.tmod (p*7+3) (s.length:Int))=B:=⟨_,rfl⟩;obtain⟨C,hC⟩:∃C,Int.tdiv p (s.length:Int)=C:=⟨_,rfl⟩;have a1:=hs.byte (Int.tmod p (s.length:Int));rw[hA] at a1;have b1:=hs.byte (Int.tmod (p*7+3) (s.length:Int));rw[hB] at b1;rw[hC] at d1;have v1:wrap64 (wrap64 (wrap64 (wrap64 (wrap64 A*131)+wrap64 (wrap64 B*1117))+wrap64 (p*29))+wrap64 (wrap64 C*53))=A*131+B*1117+p*29+C*53:=by
    rw[cd (x:=A) (by omega) (by omega),cd (x:=B) (by omega) (by omega),cd (x:=C) (by omega) (by omega),cd (x:=A*131) (by omega) (by omega),cd (x:=B*1117) (by omega) (by omega),cd (x:=p*29) (by omega) (by omega),cd (x:=C*53) (by omega) (by omega),cd (x:=A*131+B*1117) (by omega) (by omega),cd (x:=A*131+B*1117+p*29) (by omega) (by omega),cd (by omega) (by omega)]
   obtain⟨V,hV⟩:∃V:Nat,A*131+B*1117+p*29+C*53=(V:Int):=⟨(A*131+B*1117+p*29+C*53).toNat,by omega⟩;have hVb:V<2 ^ 62:=by (have:(2:Nat) ^ 62=4611686018427387904:=by decide);omega
   have hd:=qC (show 0≤(V:Int) by omega) (show (0:Int)<64 by omega);obtain⟨Q,hQ⟩:∃Q:Nat,Int.tdiv (V:Int) 64=(Q:Int):=⟨(Int.tdiv (V:Int) 64).toNat,by omega⟩;have hQb:Q<2 ^ 62:=by omega
   obtain⟨m,hm,hmb⟩:=tc V Q hVb hQb;have e3:wrap64 (Int.tdiv (V:Int) 64)=(Q:Int):=by
    have:(2:Nat) ^ 62=4611686018427387904:=by decide
    rw[hQ,cd (by omega) (by omega)]
   have mm:=jo (show 0≤(m:Int) by omega) (show 0<n by omega);refine⟨Int.tmod (m:Int) n,Ev.step (fun k=>ac.j0.eq_2 _ _ _ _ _) ?_,mm.1,mm.2⟩;simp only[hb,if_neg (show ¬(false=true) by decide),e1,if_neg hlt,if_neg (show ¬(s.length:Int)=0 by omega),if_pos m1.1,if_pos m1.2,e2,if_pos m2.1,if_pos m2.2,if_neg (show ¬n=0 by omega),hA,hB,hC,v1,hV,e3,hm];exact Ev.now _
theorem fJ (l:List S86) (j:Nat) (h:j<l.length):an l (j:Int)=l[j]:=by
 unfold an;simp[List.getD_eq_getElem?_getD,List.getElem?_eq_getElem h]
theorem dI (i:Nat):((i:Int)).toNat=i:=by simp
def om:List ByteArray:=[(⟨#[97]⟩:ByteArray),(⟨#[98]⟩:ByteArray),(⟨#[99]⟩:ByteArray),(⟨#[100]⟩:ByteArray),(⟨#[101]⟩:ByteArray),(⟨#[107,57]⟩:ByteArray)]
theorem nX {x:ByteArray} (h:x∈om):x.size≤300:=by
 have:∀x∈om,x.size≤300:=by decide
 exact this x h
theorem ek {α : Type} (d : α) (l:List α) (j:Nat) (h:j<l.length):bC d l (j:Int)=l[j]:=by
 unfold bC;simp[List.getD_eq_getElem?_getD,List.getElem?_eq_getElem h]
theorem cn (j:Nat) (h:j<9223372036854775807):wrap64 ((j:Int)+1)=((j+1:Nat):Int):=by rw[cd (by omega) (by omega)];omega
def cr:List ByteArray:=[(⟨#[98,111,100,121]⟩:ByteArray),(⟨#[99,111,108,111,114]⟩:ByteArray),(⟨#[112,114,105,99,101]⟩:ByteArray),(⟨#[116,105,116,108,101]⟩:ByteArray)]
theorem mX {x:ByteArray} (h:x∈cr):x.size≤300:=by
 have:∀x∈cr,x.size≤300:=by decide
 exact this x h
def oH:List ByteArray:=[(⟨#[48]⟩:ByteArray),(⟨#[53]⟩:ByteArray),(⟨#[55]⟩:ByteArray),(⟨#[45,51]⟩:ByteArray),(⟨#[49,50]⟩:ByteArray),(⟨#[57,57,57,57,57,57,57,57,57]⟩:ByteArray)]
theorem nZ {x:ByteArray} (h:x∈oH):x.size≤300:=by
 have:∀x∈oH,x.size≤300:=by decide
 exact this x h
def nU:List ByteArray:=[(⟨#[114,101,100]⟩:ByteArray),(⟨#[98,108,117,101]⟩:ByteArray),(⟨#[114,101,100,44,98,108,117,101]⟩:ByteArray),(⟨#[98,108,117,101,44,114,101,100,44,114,101,100]⟩:ByteArray),(⟨#[103,114,101,101,110]⟩:ByteArray)]
theorem ow {x:ByteArray} (h:x∈nU):x.size≤300:=by
 have:∀x∈nU,x.size≤300:=by decide
 exact this x h
theorem ro (l:List S92) (j:Nat) (h:j<l.length):∃f,az l (j:Int)=f:=⟨_,rfl⟩
theorem eK {l:List S86} (h:dT l) {a b:ByteArray} (ha:a.size≤300) (hb:b.size≤300):dT (l ++ [⟨a,b⟩]):=by
 intro c hc;rcases List.mem_append.1 hc with h1 | h1
 ·exact h c h1
 ·rw[List.mem_singleton.1 h1];exact⟨ha,hb⟩
theorem gR (s:List Int) (hs:CodeOk s) (p:Int) (l:List ByteArray) (hp:0≤p) (hp1:p≤1000000) (hl:1≤l.length) (hl1:l.length≤1000000) :
  ∃r,Ev (fun k=>aV.f k s p l) (r,p+1)∧r∈l:=by
 obtain⟨i,hi,h0,h1⟩:=dN s hs p (l.length:Int) hp hp1 (by omega) (by omega);obtain⟨j,rfl⟩:∃j:Nat,i=(j:Int):=⟨i.toNat,by omega⟩;refine⟨l[j]'(by omega),?_,List.getElem_mem _⟩;simp only[aV.f];refine Ev.bind hi ?_;simp only[if_pos h0,if_pos h1,ek _ l j (by omega)];exact Ev.now _
theorem pE (j:Nat) (h:j<9223372036854775807):wrap64 (((j+1:Nat):Int) - 1)=(j:Int):=by rw[cd (by omega) (by omega)];omega
def jJ:List ByteArray:=[(⟨#[114,101,100]⟩:ByteArray),(⟨#[82,101,100]⟩:ByteArray),(⟨#[97,112,112,108,101]⟩:ByteArray),(⟨#[97,112,112,108,101,115]⟩:ByteArray),(⟨#[112,105,101]⟩:ByteArray),(⟨#[116,104,101]⟩:ByteArray),(⟨#[111,102]⟩:ByteArray),(⟨#[103,108,97,115,115]⟩:ByteArray),(⟨#[98,117,115]⟩:ByteArray),(⟨#[116,114,101,101]⟩:ByteArray),(⟨#[116,114,101,101,115]⟩:ByteArray),(⟨#[55]⟩:ByteArray),(⟨#[118,101,114,121,108,111,110,103,119,111,114,100,105,110,100,101,101,100]⟩:ByteArray),(⟨#[97]⟩:ByteArray)]
theorem pM (s:List Int) (hs:CodeOk s) (p:Int) (hp:0≤p) (hp1:p≤1000000):∃r,Ev (fun k=>er.f k s p) (r,p+1)∧r∈jJ:=by
 obtain⟨r,hr,hm⟩:=gR s hs p jJ hp hp1 (by decide) (by decide);exact⟨r,Ev.bind hr (Ev.now _),hm⟩
theorem qT {r:ByteArray} (h:r∈jJ):r.size≤18:=by
 have:∀x∈jJ,x.size≤18:=by decide
 exact this r h
theorem pL (s:List Int) (hs:CodeOk s):∀(n:Nat) (p:Int) (out:ByteArray),0≤p→p+2*n≤900000→n≤1000→out.size+20*n≤100000 →
  ∃r q,Ev (fun k=>bK.l0 k out (n:Int) s p) (r,q)∧p≤q∧q≤p+2*n∧r.size≤out.size+20*n:=by
 intro n;induction n with
 | zero=>
  intro p out hp hb hn ho;refine⟨out,p,Ev.step (fun k=>bK.l0.eq_2 _ _ _ _ _) ?_,by omega,by omega,by omega⟩;simp only[if_neg (show ¬(((0:Nat):Int)>0) by omega)];exact Ev.now _
 | succ n ih=>
  intro p out hp hb hn ho;obtain⟨w,hw,hwm⟩:=pM s hs p hp (by omega);have hws:=qT hwm;obtain⟨x,hx,hxm⟩:=gR s hs (p+1) (([(⟨#[32]⟩:ByteArray),(⟨#[44,32]⟩:ByteArray),(⟨#[45]⟩:ByteArray),(⟨#[32]⟩:ByteArray),(⟨#[46]⟩:ByteArray)] : List ByteArray)) (by omega) (by omega) (by decide) (by decide);have hxs:x.size≤2:=by
   have h:∀x∈([(⟨#[32]⟩:ByteArray),(⟨#[44,32]⟩:ByteArray),(⟨#[45]⟩:ByteArray),(⟨#[32]⟩:ByteArray),(⟨#[46]⟩:ByteArray)] : List ByteArray),x.size≤2:=by decide
   exact h x hxm
  obtain⟨r,q,hr,h1,h2,h3⟩:=ih (p+1+1) ((out ++ w) ++ x) (by omega) (by omega) (by omega) (by simp only[ByteArray.size_append];omega);refine⟨r,q,Ev.step (fun k=>bK.l0.eq_2 _ _ _ _ _) ?_,by omega,by omega,by simp only[ByteArray.size_append] at h3;omega⟩;simp only[if_pos (show (((n+1:Nat):Int)>0) by omega)];refine Ev.bind hw ?_;simp only[if_pos (show out.size+w.size≤9223372036854775807 by omega)];refine Ev.bind hx ?_;simp only[if_pos (show (out ++ w).size+x.size≤9223372036854775807 by simp only[ByteArray.size_append];omega),pE n (by omega)];exact hr
theorem iZ (s:List Int) (hs:CodeOk s) (p:Int) (hp:0≤p) (hp1:p≤800000):∃r q,Ev (fun k=>bK.f k s p) (r,q)∧p≤q∧q≤p+20∧r.size≤200:=by
 obtain⟨i,hi,h0,h1⟩:=dN s hs p 6 hp (by omega) (by omega) (by omega);obtain⟨j,rfl⟩:∃j:Nat,i=(j:Int):=⟨i.toNat,by omega⟩;obtain⟨r,q,hr,h2,h3,h4⟩:=pL s hs j (p+1) (⟨#[]⟩:ByteArray) (by omega) (by omega) (by omega) (by show 0+20*j≤100000;omega);have e0:(⟨#[]⟩:ByteArray).size=0:=rfl;refine⟨r,q,?_,by omega,by omega,by omega⟩;simp only[bK.f];exact Ev.bind hi hr
theorem eX (l:List S92) (j:Nat) (h:j<l.length):az l (j:Int)=l[j]:=by
 unfold az;simp[List.getD_eq_getElem?_getD,List.getElem?_eq_getElem h]
theorem g8 (s:ByteArray):s.toList=s.data.toList:=by
 exact ByteArray.toList_eq s
theorem toList_inj {a b:ByteArray} : a.toList=b.toList↔a=b:=by
 rw[g8,g8];constructor
 ·intro h;exact ByteArray.ext (Array.toList_inj.1 h)
 ·rintro rfl;rfl
theorem kW (l:List S92) (n:ByteArray) (hn:l.length<4611686018427387904):∀(d i:Nat),i+d=l.length→(∀m (hm:m<l.length),m<i→l[m].f0≠n) →
  ∃r,Ev (fun k=>bk.l0 k l n (i:Int)) r∧((r = -1∧∀x∈l,x.f0≠n)∨∃(j:Nat) (hj:j<l.length),r=(j:Int)∧l[j].f0=n∧∀m (hm:m<j),l[m].f0≠n):=by
 intro d;induction d with
 | zero=>
  intro i hi hb;refine⟨-1,Ev.step (fun k=>bk.l0.eq_2 _ _ _ _) ?_,.inl ⟨rfl,fun x hx=>?_⟩⟩
  ·simp only[if_neg (show ¬((i:Int)<(l.length:Int)) by omega)];exact Ev.now _
  ·obtain⟨m,hm,rfl⟩:=List.mem_iff_getElem.1 hx;exact hb m hm (by omega)
 | succ d ih=>
  intro i hi hb;by_cases h:l[i].f0=n
  ·refine⟨(i:Int),Ev.step (fun k=>bk.l0.eq_2 _ _ _ _) ?_,.inr ⟨i,by omega,rfl,h,fun m hm=>hb m (by omega) hm⟩⟩;simp only[if_pos (show ((i:Int)<(l.length:Int)) by omega),if_pos (show 0≤(i:Int) by omega),eX l i (by omega),toList_inj,if_pos h];exact Ev.now _
  ·obtain⟨r,hr,hq⟩:=ih (i+1) (by omega) (fun m hm hlt=>by
    rcases Nat.lt_or_ge m i with h1 | h1
    ·exact hb m hm h1
    ·obtain rfl:m=i:=by omega
     exact h)
   refine⟨r,Ev.step (fun k=>bk.l0.eq_2 _ _ _ _) ?_,hq⟩;simp only[if_pos (show ((i:Int)<(l.length:Int)) by omega),if_pos (show 0≤(i:Int) by omega),eX l i (by omega),toList_inj,if_neg h,cn i (by omega)];exact hr
theorem eJ (l:List S92) (n:ByteArray) (hn:l.length<4611686018427387904) :
  ∃r,Ev (fun k=>bk.f k l n) r∧((r = -1∧∀x∈l,x.f0≠n)∨∃(j:Nat) (hj:j<l.length),r=(j:Int)∧l[j].f0=n∧∀m (hm:m<j),l[m].f0≠n):=
 kW l n hn l.length 0 (by omega) (fun m hm h=>absurd h (by omega))
theorem qR (s:List Int) (hs:CodeOk s) (F:List S92) (hF:F.length≤1000) (key:ByteArray):∀(d i:Nat) (p:Int) (acc:List S86),i+d=cr.length→0≤p→p+40*d≤700000→acc.length≤i→dT acc →
  ∃r q,Ev (fun k=>aD.l0 k F cr (i:Int) s p key acc) (key,r,q)∧p≤q∧q≤p+40*d∧r.length≤acc.length+d∧dT r:=by
 have hlen:cr.length=4:=rfl;intro d;induction d with
 | zero=>
  intro i p acc hi hp hp1 ha hsh;refine⟨acc,p,Ev.step (fun k=>aD.l0.eq_2 _ _ _ _ _ _ _ _) ?_,by omega,by omega,by omega,hsh⟩;simp only[if_neg (show ¬((i:Int)<(cr.length:Int)) by omega)];exact Ev.now _
 | succ d ih=>
  intro i p acc hi hp hp1 ha hsh;have hil:i<cr.length:=by omega
  have hn:=mX (List.getElem_mem hil);obtain⟨t,ht,hq⟩:=eJ F cr[i] (by omega);have skip:∀(q:Int) (t:Int),p≤q→q≤p+1→∃r q',Ev (fun k=>aD.j1 k F cr (i:Int) t true s q key acc) (key,r,q')∧p≤q'∧q'≤p+40*(d+1:Nat)∧r.length≤acc.length+(d+1)∧dT r:=by
   intro q t h1 h2;obtain⟨r,q',hr,a1,a2,a3,a4⟩:=ih (i+1) q acc (by omega) (by omega) (by omega) (by omega) hsh;refine⟨r,q',Ev.step (fun k=>aD.j1.eq_2 _ _ _ _ _ _ _ _ _ _) ?_,by omega,by omega,by omega,a4⟩;simp only[if_true,cn i (by omega)];exact hr
  by_cases ht0:t<0
  ·obtain⟨r,q',hr,a1,a2,a3,a4⟩:=skip p t (by omega) (by omega);refine⟨r,q',Ev.step (fun k=>aD.l0.eq_2 _ _ _ _ _ _ _ _) ?_,a1,a2,a3,a4⟩;simp only[if_pos (show ((i:Int)<(cr.length:Int)) by omega),if_pos (show 0≤(i:Int) by omega),ek _ cr i hil];refine Ev.bind ht ?_;simp only[if_pos ht0];exact hr
  ·obtain⟨x,hx,x0,x1⟩:=dN s hs p 4 hp (by omega) (by omega) (by omega);by_cases hx0:x=0
   ·obtain⟨r,q',hr,a1,a2,a3,a4⟩:=skip (p+1) t (by omega) (by omega);refine⟨r,q',Ev.step (fun k=>aD.l0.eq_2 _ _ _ _ _ _ _ _) ?_,a1,a2,a3,a4⟩;simp only[if_pos (show ((i:Int)<(cr.length:Int)) by omega),if_pos (show 0≤(i:Int) by omega),ek _ cr i hil];refine Ev.bind ht ?_;simp only[if_neg ht0];refine Ev.bind hx ?_;have e:(x == 0)=true:=by simpa using hx0
    simp only[e];exact hr
   ·have ex:(x == 0)=false:=by simpa using hx0
    obtain⟨j,hj,rfl⟩:∃(j:Nat) (hj:j<F.length),t=(j:Int):=by
     rcases hq with ⟨h,_⟩ | ⟨j,hj,h,_⟩
     ·omega
     ·exact⟨j,hj,h⟩
    obtain⟨T,q1,hT,b1,b2,b3⟩:=iZ s hs (p+1) (by omega) (by omega);obtain⟨f,hf⟩:=ro F j hj;have go:∃r q',Ev (fun k=>aD.j1 k F cr (i:Int) (j:Int) false s (p+1) key acc) (key,r,q')∧p≤q'∧q'≤p+40*(d+1:Nat)∧r.length≤acc.length+(d+1)∧dT r:=by
     have st:∀k,aD.j1 (k+1) F cr (i:Int) (j:Int) false s (p+1) key acc=_:=fun k=>aD.j1.eq_2 _ _ _ _ _ _ _ _ _ _
     by_cases c2:f.f1=2
     ·obtain⟨y,hy,hym⟩:=gR s hs q1 oH (by omega) (by omega) (by decide) (by decide);obtain⟨r,q',hr,a1,a2,a3,a4⟩:=ih (i+1) (q1+1) (acc ++ [⟨cr[i],y⟩]) (by omega) (by omega) (by omega) (by simp;omega) (eK hsh hn (nZ hym));refine⟨r,q',Ev.step (fun k=>aD.j1.eq_2 _ _ _ _ _ _ _ _ _ _) ?_,by omega,by omega,by simp at a3;omega,a4⟩;simp only[if_neg (show ¬(false=true) by decide),if_pos (show 0≤(i:Int) by omega),if_pos (show ((i:Int)<(cr.length:Int)) by omega)];refine Ev.bind hT ?_;simp only[if_pos (show 0≤(j:Int) by omega),if_pos (show (j:Int)<(F.length:Int) by omega),hf,if_pos c2];refine Ev.bind hy ?_;simp only[if_pos (show acc.length<4398046511104 by omega),ek _ cr i hil,cn i (by omega)];exact hr
     ·by_cases c3:f.f1=3
      ·obtain⟨y,hy,hym⟩:=gR s hs q1 nU (by omega) (by omega) (by decide) (by decide);obtain⟨r,q',hr,a1,a2,a3,a4⟩:=ih (i+1) (q1+1) (acc ++ [⟨cr[i],y⟩]) (by omega) (by omega) (by omega) (by simp;omega) (eK hsh hn (ow hym));refine⟨r,q',Ev.step (fun k=>aD.j1.eq_2 _ _ _ _ _ _ _ _ _ _) ?_,by omega,by omega,by simp at a3;omega,a4⟩;simp only[if_neg (show ¬(false=true) by decide),if_pos (show 0≤(i:Int) by omega),if_pos (show ((i:Int)<(cr.length:Int)) by omega)];refine Ev.bind hT ?_;simp only[if_pos (show 0≤(j:Int) by omega),if_pos (show (j:Int)<(F.length:Int) by omega),hf,if_neg c2,if_pos c3];refine Ev.bind hy ?_;simp only[if_pos (show acc.length<4398046511104 by omega),ek _ cr i hil,cn i (by omega)];exact hr
      ·obtain⟨r,q',hr,a1,a2,a3,a4⟩:=ih (i+1) q1 (acc ++ [⟨cr[i],T⟩]) (by omega) (by omega) (by omega) (by simp;omega) (eK hsh hn (by omega));refine⟨r,q',Ev.step (fun k=>aD.j1.eq_2 _ _ _ _ _ _ _ _ _ _) ?_,by omega,by omega,by simp at a3;omega,a4⟩;simp only[if_neg (show ¬(false=true) by decide),if_pos (show 0≤(i:Int) by omega),if_pos (show ((i:Int)<(cr.length:Int)) by omega)];refine Ev.bind hT ?_;simp only[if_pos (show 0≤(j:Int) by omega),if_pos (show (j:Int)<(F.length:Int) by omega),hf,if_neg c2,if_neg c3,if_pos (show acc.length<4398046511104 by omega),ek _ cr i hil,cn i (by omega)];exact hr
    obtain⟨r,q',hr,a1,a2,a3,a4⟩:=go;refine⟨r,q',Ev.step (fun k=>aD.l0.eq_2 _ _ _ _ _ _ _ _) ?_,a1,a2,a3,a4⟩;simp only[if_pos (show ((i:Int)<(cr.length:Int)) by omega),if_pos (show 0≤(i:Int) by omega),ek _ cr i hil];refine Ev.bind ht ?_;simp only[if_neg ht0];refine Ev.bind hx ?_;simp only[ex];exact hr
theorem nC (s:List Int) (hs:CodeOk s) (F:List S92) (hF:F.length≤1000) (p:Int) (hp:0≤p) (hp1:p≤600000) :
  ∃key r q,Ev (fun k=>aD.f k s p F) (key,r,q)∧p≤q∧q≤p+200∧key.size≤300∧r.length≤4∧dT r:=by
 obtain⟨x,hx,hxm⟩:=gR s hs p om hp (by omega) (by decide) (by decide);obtain⟨r,q,hr,a1,a2,a3,a4⟩:=qR s hs F hF x 4 0 (p+1) [] (by decide) (by omega) (by omega) (by simp) (fun c hc=>by simp at hc);refine⟨x,r,q,?_,by omega,by omega,nX hxm,by simpa using a3,a4⟩;simp only[aD.f];exact Ev.bind hx hr
theorem qX:∀(d n:Nat) (x out:ByteArray),n<2 ^ d→d≤20→x.size*2 ^ d≤1099511627776→out.size+x.size*n≤1099511627776→∃r,Ev (fun k=>cg.l0 k x (n:Int) out) r∧r.size=out.size+x.size*n:=by
 intro d;induction d with
 | zero=>
  intro n x out hn hd hx ho;obtain rfl:n=0:=by simpa using hn
  refine⟨out,Ev.step (fun k=>cg.l0.eq_2 _ _ _ _) ?_,by omega⟩;simp only[if_neg (show ¬(((0:Nat):Int)>0) by omega)];exact Ev.now _
 | succ d ih=>
  intro n x out hn hd hx ho;have hp:2 ^ (d+1)=2*2 ^ d:=by rw[Nat.pow_succ,Nat.mul_comm]
  have hb:n<1048576:=Nat.lt_of_lt_of_le hn (Nat.pow_le_pow_right (Nat.succ_pos 1) hd);rw[hp,← Nat.mul_assoc,Nat.mul_comm x.size 2] at hx;rw[hp] at hn;have hd1:0<2 ^ d:=Nat.pow_pos (by decide);have hxs:x.size≤2*x.size*2 ^ d:=Nat.le_trans (by omega) (Nat.le_mul_of_pos_right _ hd1);by_cases h0:n=0
  ·subst h0;refine⟨out,Ev.step (fun k=>cg.l0.eq_2 _ _ _ _) ?_,by omega⟩;simp only[if_neg (show ¬(((0:Nat):Int)>0) by omega)];exact Ev.now _
  ·have e1:Int.tmod (n:Int) 2=((n % 2:Nat):Int):=by rw[Int.tmod_eq_emod_of_nonneg (by omega)];omega
   have e2:wrap64 (Int.tdiv (n:Int) 2)=((n / 2:Nat):Int):=by
    rw[Int.tdiv_eq_ediv_of_nonneg (by omega),cd (by omega) (by omega)];omega
   have hs2:(x ++ x).size=2*x.size:=by rw[ByteArray.size_append];omega
   have hq:n / 2<2 ^ d:=by omega
   by_cases h1:n % 2=1
   ·have hm:x.size*n=2*x.size*(n / 2)+x.size:=by
     have hn2:n=2*(n / 2)+1:=by omega
     conv=>lhs;rw[hn2]
     rw[Nat.mul_add,Nat.mul_one,← Nat.mul_assoc,Nat.mul_comm x.size 2]
    obtain⟨r,hr,hrs⟩:=ih (n / 2) (x ++ x) (out ++ x) hq (by omega) (by rw[hs2];exact hx) (by rw[hs2,ByteArray.size_append];omega);refine⟨r,Ev.step (fun k=>cg.l0.eq_2 _ _ _ _) ?_,?_⟩
    ·simp only[if_pos (show ((n:Int)>0) by omega),e1,e2,if_pos (show ((n % 2:Nat):Int)=1 by omega),if_pos (show out.size+x.size≤9223372036854775807 by omega),if_pos (show x.size+x.size≤9223372036854775807 by omega)];exact hr
    ·rw[hs2,ByteArray.size_append] at hrs;omega
   ·have hm:x.size*n=2*x.size*(n / 2):=by
     have hn2:n=2*(n / 2):=by omega
     conv=>lhs;rw[hn2]
     rw[← Nat.mul_assoc,Nat.mul_comm x.size 2]
    obtain⟨r,hr,hrs⟩:=ih (n / 2) (x ++ x) out hq (by omega) (by rw[hs2];exact hx) (by rw[hs2];omega);refine⟨r,Ev.step (fun k=>cg.l0.eq_2 _ _ _ _) ?_,?_⟩
    ·simp only[if_pos (show ((n:Int)>0) by omega),e1,e2,if_neg (show ¬((n % 2:Nat):Int)=1 by omega),if_pos (show x.size+x.size≤9223372036854775807 by omega)];exact hr
    ·rw[hs2] at hrs;omega
theorem mM (s:List Int) (hs:CodeOk s) (p:Int) (hp:0≤p) (hp1:p≤800000 - 10):∃r q,Ev (fun k=>dw.f k s p) (r,q)∧p≤q∧q≤p+30∧r.size≤300:=by
 obtain⟨i,hi,h0,h1⟩:=dN s hs p 14 hp (by omega) (by omega) (by omega);simp only[dw.f];by_cases c0:i=0
 ·obtain⟨j,hj,h2,h3⟩:=dN s hs (p+1) 2 (by omega) (by omega) (by omega) (by omega);obtain⟨m,hm⟩:∃m:Nat,60+j=(m:Int):=⟨(60+j).toNat,by omega⟩;have e1:(⟨#[120]⟩:ByteArray).size=1:=rfl;obtain⟨r,hr,hrs⟩:=qX 7 m (⟨#[120]⟩:ByteArray) (⟨#[]⟩:ByteArray) (by omega) (by decide) (by decide) (by rw[e1];show 0+1*m≤_;omega);have e0:(⟨#[]⟩:ByteArray).size=0:=rfl;rw[e0,e1,Nat.one_mul] at hrs;refine⟨r,p+1+1,Ev.bind hi ?_,by omega,by omega,by omega⟩;simp only[if_pos c0];refine Ev.bind hj ?_;simp only[hm,cd (x:=(m:Int)) (by omega) (by omega)];exact Ev.bind (show Ev (fun k=>cg.f k _ _) r from hr) (Ev.now _)
 ·by_cases c1:i=1
  ·obtain⟨t,q,ht,h2,h3,h4⟩:=iZ s hs (p+1) (by omega) (by omega);obtain⟨x,hx,hxm⟩:=gR s hs q (([(⟨#[10]⟩:ByteArray),(⟨#[1]⟩:ByteArray),(⟨#[127]⟩:ByteArray)] : List ByteArray)) (by omega) (by omega) (by decide) (by decide);have hxs:x.size≤1:=by
    have h:∀x∈([(⟨#[10]⟩:ByteArray),(⟨#[1]⟩:ByteArray),(⟨#[127]⟩:ByteArray)] : List ByteArray),x.size≤1:=by decide
    exact h x hxm
   refine⟨t ++ x,q+1,Ev.bind hi ?_,by omega,by omega,by rw[ByteArray.size_append];omega⟩;simp only[if_neg c0,if_pos c1];refine Ev.bind ht ?_;refine Ev.bind hx ?_;simp only[if_pos (show t.size+x.size≤9223372036854775807 by omega)];exact Ev.now _
  ·obtain⟨t,q,ht,h2,h3,h4⟩:=iZ s hs (p+1) (by omega) (by omega);refine⟨t,q,Ev.bind hi ?_,by omega,by omega,by omega⟩;simp only[if_neg c0,if_neg c1];exact Ev.bind ht (Ev.now _)
theorem nI (s:List Int) (hs:CodeOk s) (F:List S92) (hF:F.length≤1000) (p:Int) (hp:0≤p) (hp1:p≤500000) :
  ∃key r q,Ev (fun k=>aX.f k s p F) (key,r,q)∧p≤q∧q≤p+300∧key.size≤300∧r.length≤5∧dT r:=by
 obtain⟨key,r,q,hd,b1,b2,b3,b4,b5⟩:=nC s hs F hF p hp (by omega);obtain⟨x,hx,x0,x1⟩:=dN s hs q 14 (by omega) (by omega) (by omega) (by omega);simp only[aX.f];by_cases c0:x=0
 ·obtain⟨y,hy,hym⟩:=gR s hs (q+1) (([(⟨#[]⟩:ByteArray),(⟨#[65]⟩:ByteArray),(⟨#[110,105,110,101,108,101,116,116,101]⟩:ByteArray)] : List ByteArray)) (by omega) (by omega) (by decide) (by decide);have hys:y.size≤300:=by
   have h:∀x∈(([(⟨#[]⟩:ByteArray),(⟨#[65]⟩:ByteArray),(⟨#[110,105,110,101,108,101,116,116,101]⟩:ByteArray)] : List ByteArray)),x.size≤300:=by decide
   exact h y hym
  refine⟨y,r,q+1+1,Ev.bind hd (Ev.bind hx ?_),by omega,by omega,hys,by omega,b5⟩;simp only[if_pos c0];exact Ev.bind hy (Ev.now _)
 ·by_cases c1:x=1
  ·obtain⟨y,hy,hym⟩:=gR s hs (q+1) (([(⟨#[122,122]⟩:ByteArray),(⟨#[98,111,100,121]⟩:ByteArray),(⟨#[]⟩:ByteArray)] : List ByteArray)) (by omega) (by omega) (by decide) (by decide);have hys:y.size≤300:=by
    have h:∀x∈(([(⟨#[122,122]⟩:ByteArray),(⟨#[98,111,100,121]⟩:ByteArray),(⟨#[]⟩:ByteArray)] : List ByteArray)),x.size≤300:=by decide
    exact h y hym
   obtain⟨T,q2,hT,t1,t2,t3⟩:=mM s hs (q+1+1) (by omega) (by omega);refine⟨key,r ++ [⟨y,T⟩],q2,Ev.bind hd (Ev.bind hx ?_),by omega,by omega,b3,by simp;omega,eK b5 hys t3⟩;simp only[if_neg c0,if_pos c1];refine Ev.bind hy (Ev.bind hT ?_);simp only[if_pos (show r.length<4398046511104 by omega)];exact Ev.now _
  ·by_cases c2:x=2
   ·by_cases hr0:(r.length:Int)>0
    ·obtain⟨z,hz,z0,z1⟩:=dN s hs (q+1) (r.length:Int) (by omega) (by omega) (by omega) (by omega);obtain⟨m,rfl⟩:∃m:Nat,z=(m:Int):=⟨z.toNat,by omega⟩;obtain⟨y,hy,hym⟩:=gR s hs (q+1+1) (([(⟨#[48,49]⟩:ByteArray),(⟨#[]⟩:ByteArray),(⟨#[120,44]⟩:ByteArray),(⟨#[45,48]⟩:ByteArray),(⟨#[114,101,100,44,44,98,108,117,101]⟩:ByteArray),(⟨#[97,44,98,44,99,44,100,44,101]⟩:ByteArray),(⟨#[119,111,114,100,115,32,104,101,114,101]⟩:ByteArray)] : List ByteArray)) (by omega) (by omega) (by decide) (by decide);have hys:y.size≤300:=by
      have h:∀x∈(([(⟨#[48,49]⟩:ByteArray),(⟨#[]⟩:ByteArray),(⟨#[120,44]⟩:ByteArray),(⟨#[45,48]⟩:ByteArray),(⟨#[114,101,100,44,44,98,108,117,101]⟩:ByteArray),(⟨#[97,44,98,44,99,44,100,44,101]⟩:ByteArray),(⟨#[119,111,114,100,115,32,104,101,114,101]⟩:ByteArray)] : List ByteArray)),x.size≤300:=by decide
      exact h y hym
     have hm:m<r.length:=by omega
     refine⟨key,r.set m ⟨r[m].f0,y⟩,q+1+1+1,Ev.bind hd (Ev.bind hx ?_),by omega,by omega,b3,by simp;omega,?_⟩
     ·simp only[if_neg c0,if_neg c1,if_pos c2,if_pos hr0];refine Ev.bind hz (Ev.bind hy ?_);simp only[if_pos z0,if_pos z1,dI,fJ r m hm];exact Ev.now _
     ·intro c hc;rcases List.mem_or_eq_of_mem_set hc with h | h
      ·exact b5 c h
      ·rw[h];exact⟨(b5 _ (List.getElem_mem hm)).1,hys⟩
    ·refine⟨key,r,q+1,Ev.bind hd (Ev.bind hx ?_),by omega,by omega,b3,by omega,b5⟩;simp only[if_neg c0,if_neg c1,if_pos c2,if_neg hr0];exact Ev.now _
   ·refine⟨key,r,q+1,Ev.bind hd (Ev.bind hx ?_),by omega,by omega,b3,by omega,b5⟩;simp only[if_neg c0,if_neg c1,if_neg c2];exact Ev.now _
def eT:List S92:=[⟨(⟨#[116,105,116,108,101]⟩:ByteArray),1,3⟩,⟨(⟨#[98,111,100,121]⟩:ByteArray),1,1⟩,⟨(⟨#[112,114,105,99,101]⟩:ByteArray),2,0⟩,⟨(⟨#[99,111,108,111,114]⟩:ByteArray),3,0⟩]
theorem jh:g6 4 eT:=by
 refine⟨by decide,fun f hf=>?_⟩;unfold eT at hf
 simp only[List.mem_cons,List.not_mem_nil,or_false] at hf;unfold fG
 rcases hf with rfl | rfl | rfl | rfl <;> simp
theorem nW:dq.f=some eT:=rfl
theorem jv (s:List Int) (hs:CodeOk s) (p:Int) (hp:0≤p) (hp1:p≤900000):∃r,Ev (fun k=>b8.f k s p) (r,p+1)∧g6 4 r∧1≤r.length:=by
 obtain⟨x,hx,x0,x1⟩:=dN s hs p 4 hp (by omega) (by omega) (by omega);have hl:(eT.length:Int)=4:=rfl;have n1:(1:Int).toNat=1:=rfl;simp only[b8.f,nW,Option.bind_some];by_cases c0:x=0
 ·refine⟨eT.take 1,Ev.bind hx ?_,⟨by decide,fun f hf=>jh.2 f (List.mem_of_mem_take hf)⟩,by decide⟩;simp only[if_pos c0,hl,if_pos (show (1:Int)≤4 by decide),n1];exact Ev.now _
 ·by_cases c1:x=1
  ·refine⟨eT.drop 1,Ev.bind hx ?_,⟨by decide,fun f hf=>jh.2 f (List.mem_of_mem_drop hf)⟩,by decide⟩;simp only[if_neg c0,if_pos c1,hl,if_pos (show (1:Int)≤4 by decide),n1];exact Ev.now _
  ·refine⟨eT,Ev.bind hx ?_,jh,by decide⟩;simp only[if_neg c0,if_neg c1];exact Ev.now _
theorem j5 (l:List Int) (j:Nat) (h:j<l.length):rd l (j:Int)=l[j]:=by
 unfold rd;simp[List.getD_eq_getElem?_getD,List.getElem?_eq_getElem h]
theorem sk (s:List Int) (hs:CodeOk s) (p:Int) (l:List Int) (hp:0≤p) (hp1:p≤1000000) (hl:1≤l.length) (hl1:l.length≤1000000) :
  ∃r,Ev (fun k=>cK.f k s p l) (r,p+1)∧r∈l:=by
 obtain⟨i,hi,h0,h1⟩:=dN s hs p (l.length:Int) hp hp1 (by omega) (by omega);obtain⟨j,rfl⟩:∃j:Nat,i=(j:Int):=⟨i.toNat,by omega⟩;refine⟨l[j]'(by omega),?_,List.getElem_mem _⟩;simp only[cK.f];refine Ev.bind hi ?_;simp only[if_pos h0,if_pos h1,j5 l j (by omega)];exact Ev.now _
theorem kO (s:List Int) (hs:CodeOk s) (p:Int) (hp:0≤p) (hp1:p≤800000):∃r q,Ev (fun k=>df.f k s p) (r,q)∧p≤q∧q≤p+5∧g6 5 r:=by
 obtain⟨r,hr,hd,hl1⟩:=jv s hs p hp (by omega);obtain⟨x,hx,x0,x1⟩:=dN s hs (p+1) 12 (by omega) (by omega) (by omega) (by omega);have hl:=hd.1;simp only[df.f,Option.bind_some,List.nil_append,List.length_nil,Nat.zero_add];have st:∀(R:List S92 × Int),Ev (fun k=>(ac.f k s (p+1) 12).bind fun bt287=>(if bt287.1=0 then((aV.f k s bt287.2 (([(⟨#[116,105,116,108,101]⟩:ByteArray),(⟨#[122]⟩:ByteArray),(⟨#[]⟩:ByteArray)] : List ByteArray))).bind fun bt292=>((ac.f k s bt292.2 5).bind fun bt294=>((ac.f k s bt294.2 11).bind fun bt296=>(if r.length<4398046511104 then(some ((r ++ [(⟨bt292.1,bt294.1,bt296.1⟩:S92)]),bt296.2)) else(none))))) else(if bt287.1=1 then((cK.f k s bt287.2 (([0,9,10] : List Int))).bind fun bt304=>(if 0<(r.length:Int) then(some ((r.set (0:Int).toNat (⟨(az r 0).f0,(az r 0).f1,bt304.1⟩:S92)),bt304.2)) else(none))) else(if bt287.1=2 then(some (([] : List (S92)),bt287.2)) else(some (r,bt287.2)))))) R →
   Ev (fun k=>(b8.f k s p).bind fun bt280=>(if bt280.1.length<4398046511104 then((ac.f k s bt280.2 12).bind fun bt287=>(if bt287.1=0 then((aV.f k s bt287.2 (([(⟨#[116,105,116,108,101]⟩:ByteArray),(⟨#[122]⟩:ByteArray),(⟨#[]⟩:ByteArray)] : List ByteArray))).bind fun bt292=>((ac.f k s bt292.2 5).bind fun bt294=>((ac.f k s bt294.2 11).bind fun bt296=>(if bt280.1.length<4398046511104 then(some ((bt280.1 ++ [(⟨bt292.1,bt294.1,bt296.1⟩:S92)]),bt296.2)) else(none))))) else(if bt287.1=1 then((cK.f k s bt287.2 (([0,9,10] : List Int))).bind fun bt304=>(if 0<(bt280.1.length:Int) then(some ((bt280.1.set (0:Int).toNat (⟨(az bt280.1 0).f0,(az bt280.1 0).f1,bt304.1⟩:S92)),bt304.2)) else(none))) else(if bt287.1=2 then(some (([] : List (S92)),bt287.2)) else(some (bt280.1,bt287.2)))))) else(none))) R:=by
  intro R hR;refine Ev.bind hr ?_;simp only[if_pos (show r.length<4398046511104 by omega)] at hR ⊢;exact hR
 by_cases c0:x=0
 ·obtain⟨a,ha,ham⟩:=gR s hs (p+1+1) (([(⟨#[116,105,116,108,101]⟩:ByteArray),(⟨#[122]⟩:ByteArray),(⟨#[]⟩:ByteArray)] : List ByteArray)) (by omega) (by omega) (by decide) (by decide);obtain⟨b,hb,b0,b1⟩:=dN s hs (p+1+1+1) 5 (by omega) (by omega) (by omega) (by omega);obtain⟨c,hc,e0,e1⟩:=dN s hs (p+1+1+1+1) 11 (by omega) (by omega) (by omega) (by omega);refine⟨r ++ [⟨a,b,c⟩],p+1+1+1+1+1,st _ (Ev.bind hx ?_),by omega,by omega,by simp;omega,fun f hf=>?_⟩
  ·simp only[if_pos c0];refine Ev.bind ha (Ev.bind hb (Ev.bind hc ?_));simp only[if_pos (show r.length<4398046511104 by omega)];exact Ev.now _
  ·rcases List.mem_append.1 hf with h | h
   ·exact hd.2 f h
   ·rw[List.mem_singleton.1 h];have hsub:∀x∈(([(⟨#[116,105,116,108,101]⟩:ByteArray),(⟨#[122]⟩:ByteArray),(⟨#[]⟩:ByteArray)] : List ByteArray)),x∈fG:=by
     intro x hx;simp only[List.mem_cons,List.not_mem_nil,or_false] at hx;unfold fG
     rcases hx with rfl | rfl | rfl <;> simp
    exact hsub a ham
 ·by_cases c1:x=1
  ·obtain⟨a,ha,ham⟩:=sk s hs (p+1+1) ([0,9,10] : List Int) (by omega) (by omega) (by decide) (by decide);have h0:=eX r 0 (by omega);refine⟨r.set 0 ⟨(r[0]'(by omega)).f0,(r[0]'(by omega)).f1,a⟩,p+1+1+1,st _ (Ev.bind hx ?_),by omega,by omega,by simp;omega,fun f hf=>?_⟩
   ·simp only[if_neg c0,if_pos c1];refine Ev.bind ha ?_;have n0:(0:Int).toNat=0:=rfl;have h0':az r 0=r[0]'(by omega):=h0;simp only[if_pos (show 0<(r.length:Int) by omega),n0,h0'];exact Ev.now _
   ·rcases List.mem_or_eq_of_mem_set hf with h | h
    ·exact hd.2 f h
    ·rw[h];exact hd.2 (r[0]'(by omega)) (List.getElem_mem (show 0<r.length by omega))
  ·by_cases c2:x=2
   ·refine⟨[],p+1+1,st _ (Ev.bind hx ?_),by omega,by omega,by simp,fun f hf=>by simp at hf⟩;simp only[if_neg c0,if_neg c1,if_pos c2];exact Ev.now _
   ·refine⟨r,p+1+1,st _ (Ev.bind hx ?_),by omega,by omega,by omega,hd.2⟩;simp only[if_neg c0,if_neg c1,if_neg c2];exact Ev.now _
theorem o8 {a b:Nat} {l:List S92} (h:g6 a l) (hb:a≤b):g6 b l:=⟨Nat.le_trans h.1 hb,h.2⟩
theorem pH {c:Nat} {l:List S76} (h:d7 c l) (n:Nat):d7 c (l.drop n):=⟨by have:=h.1;rw[List.length_drop];omega,fun e he=>h.2 e (List.mem_of_mem_drop he)⟩
def kR (u:Nat):ByteArray:=⟨(Lib.decDigits u).toArray⟩
theorem decDigits_length (u:Nat):(Lib.decDigits u).length=Lib.nDigits u:=by rw[Lib.decDigits_eq,List.length_map,List.length_range]
theorem ra (u:Nat):(kR u).size=Lib.nDigits u:=by rw[← decDigits_length];rfl
theorem iU:∀(k u:Nat),u<10 ^ (k+1)→Lib.nDigits u≤k+1
 | 0,u,h=>by rw[Lib.nDigits_small (by simpa using h)];exact Nat.le_refl _
 | k+1,u,h=>by
  by_cases h1:u<10
  ·rw[Lib.nDigits_small h1];omega
  ·rw[Lib.nDigits_big h1];have:=iU k (u / 10) (by rw[Nat.pow_succ] at h;omega);omega
theorem gu (u:Nat) (h:u<10 ^ 19):(kR u).size≤19:=by rw[ra];exact iU 18 u h
theorem rv (a b:List UInt8):(⟨a.toArray⟩:ByteArray) ++ (⟨b.toArray⟩:ByteArray)=⟨(a ++ b).toArray⟩:=by
 apply ByteArray.ext
 rw[ByteArray.data_append];simp
theorem ig {a b:ByteArray} (h:ao a=ao b):a=b:=by
 have h1:a.data.toList=b.data.toList:=by
  have hl:a.data.toList.length=b.data.toList.length:=by
   have:=congrArg List.length h;simpa [ao] using this
  apply List.ext_getElem hl
  intro i h1 h2;have h3:(ao a)[i]? = (ao b)[i]?:=by rw[h]
  simp only[ao,List.getElem?_map,List.getElem?_eq_getElem h1,List.getElem?_eq_getElem h2,Option.map_some,Option.some.injEq] at h3;exact UInt8.toNat_inj.1 (by omega)
 exact ByteArray.ext (Array.toList_inj.1 h1)
theorem fV (l:List Int) (h:∀c∈l,0≤c∧c≤255):ao (strOfNums l)=l:=by
 unfold ao
 rw[strOfNums_data,List.map_map];conv=>rhs;rw[← List.map_id l]
 apply List.map_congr_left
 intro c hc;have:=h c hc;simp only[Function.comp,id];rw[UInt8.toNat_ofNat'];omega
theorem kB (u:Nat) (h:u<10) (c:Int) (hc:c=48+(u:Int)):strOfNums [c] = (⟨[UInt8.ofNat (48+u)].toArray⟩:ByteArray):=by
 subst hc;apply ig
 rw[fV _ (by intro c hc;rw[List.mem_singleton] at hc;omega)];have:ao (⟨[UInt8.ofNat (48+u)].toArray⟩:ByteArray) = [((UInt8.ofNat (48+u)).toNat:Int)]:=rfl;rw[this];have h2:(UInt8.ofNat (48+u)).toNat=48+u:=by
  rw[UInt8.toNat_ofNat'];exact Nat.mod_eq_of_lt (by omega)
 rw[h2];rfl
theorem m7 (u:Nat):u≤9223372036854775807→Ev (fun k=>b9.f k (u:Int)) (kR u):=by
 induction u using Nat.strongRecOn with
 | _ u ih=>
  intro hu;refine Ev.step (fun k=>b9.f.eq_2 _ _) ?_;simp only[if_neg (show ¬((u:Int)<(-9223372036854775807)) by omega),if_neg (show ¬((u:Int)<0) by omega)];by_cases h:u<10
  ·simp only[if_pos (show (u:Int)<10 by omega),cd (x:=48+(u:Int)) (by omega) (by omega)];rw[kB u h _ (by omega)];have e:kR u=(⟨[UInt8.ofNat (48+u)].toArray⟩:ByteArray):=by unfold kR;rw[Lib.decDigits,dif_pos h]
   rw[e];exact Ev.now _
  ·have e1:Int.tdiv (u:Int) 10=((u / 10:Nat):Int):=by rw[Int.tdiv_eq_ediv_of_nonneg (by omega)];omega
   have e2:Int.tmod (u:Int) 10=((u % 10:Nat):Int):=by rw[Int.tmod_eq_emod_of_nonneg (by omega)];omega
   simp only[if_neg (show ¬((u:Int)<10) by omega),e1,e2,cd (x:=((u / 10:Nat):Int)) (by omega) (by omega),cd (x:=48+((u % 10:Nat):Int)) (by omega) (by omega)];refine Ev.bind (ih (u / 10) (by omega) (by omega)) ?_;have hz:=gu (u / 10) (by omega);have es:=kB (u % 10) (by omega) ((48+((u % 10:Nat):Int)) % 256) (by omega);have z1:(⟨[UInt8.ofNat (48+u % 10)].toArray⟩:ByteArray).size=1:=rfl;simp only[Option.bind_some,es,z1,if_pos (show (kR (u / 10)).size+1≤9223372036854775807 by omega)];have e:kR u=kR (u / 10) ++ (⟨[UInt8.ofNat (48+u % 10)].toArray⟩:ByteArray):=by
    unfold kR
    rw[rv];conv=>lhs;rw[Lib.decDigits,dif_neg h]
   rw[e];exact Ev.now _
theorem fX (l:List S46) (j:Nat) (h:j<l.length):ah l (j:Int)=l[j]:=by
 unfold ah;simp[List.getD_eq_getElem?_getD,List.getElem?_eq_getElem h]
def lL (c:Int):Prop:=48≤c∧c≤57
instance (c:Int):Decidable (lL c):=by unfold lL;infer_instance
def kP (c:Int):Prop:=97≤c∧c≤122
instance (c:Int):Decidable (kP c):=by unfold kP;infer_instance
def upP (c:Int):Prop:=65≤c∧c≤90
instance (c:Int):Decidable (upP c):=by unfold upP;infer_instance
def dV (c:Int):Prop:=upP c∨kP c∨lL c
instance (c:Int):Decidable (dV c):=by unfold dV;infer_instance
def bO:Nat→Option Nat→List Int→List (Nat × Nat)
 | _,none,[]=>[]
 | p,some st,[]=>[(st,p)]
 | p,none,c :: cs=>if dV c then bO (p+1) (some p) cs else bO (p+1) none cs
 | p,some st,c :: cs=>if dV c then bO (p+1) (some st) cs else(st,p) :: bO (p+1) none cs
def gg (s:ByteArray) (q:Nat × Nat):S90:=⟨s.extract q.1 q.2,(q.1:Int),(q.2:Int)⟩
def eL (s:ByteArray):List S90:=(bO 0 none (ao s)).map (gg s)
def dn (s:ByteArray):ByteArray:=strOfNums ((ao s).map dp)
def eV (w:ByteArray):ByteArray:=w.extract 0 (min w.size 12)
def ie (w:ByteArray):Bool:=decide (w.size>3∧bt w ((w.size:Int) - 1)=115∧bt w ((w.size:Int) - 2)≠115)
def noS (w:ByteArray):ByteArray:=if ie w=true then w.extract 0 (w.size - 1) else w
open Classical in
noncomputable def eP (w:ByteArray):ByteArray:=if w∈cG then(⟨#[]⟩:ByteArray) else w
noncomputable def dR (s:ByteArray):ByteArray:=eP (noS (eV (dn s)))
noncomputable def ef (s:ByteArray):List ByteArray:=(eL s).map (fun w=>dR w.f0)
def ey (n:ByteArray):List S92→ByteArray × Int × Int
 | []=>(⟨#[]⟩,0,0)
 | f :: F=>if f.f0=n then(f.f0,f.f1,f.f2) else ey n F
def ee (F:List S92) (n:ByteArray):Int:=(ey n F).2.1
def j7 (p:ByteArray × ByteArray) (id x:Int):S76:=⟨p.1,p.2,[⟨id,[x]⟩]⟩
def nc (id x:Int) (e:S76):S76:=⟨e.f0,e.f1,fw e.f2 id x⟩
open Classical in
noncomputable def em (p:ByteArray × ByteArray) (id x:Int):List S76→List S76
 | []=>[j7 p id x]
 | e :: l=>if ltP (cE e) p then e :: em p id x l else if cE e=p then nc id x e :: l else j7 p id x :: e :: l
noncomputable def iF (id:Int) (name:ByteArray):List ByteArray→Int→List S76→List S76
 | [],_,L=>L
 | t :: ts,x,L=>iF id name ts (x+1) (if t.size=0 then L else em (name,t) id x L)
noncomputable def pY (F:List S92) (id:Int):List S86→List S76→List S76
 | [],L=>L
 | c :: cs,L=>pY F id cs (if ee F c.f0=1 then iF id c.f0 (ef c.f1) 0 L else L)
noncomputable def eo (F:List S92):List S46→List S76→List S76
 | [],L=>L
 | r :: rs,L=>eo F rs (pY F r.f0 r.f1.f1 L)
theorem dG {c d:Nat} {l:List S76} (h:d7 c l) (hd:c≤d):d7 d l:=
 ⟨by have:=h.1;omega,fun e he=>⟨(h.2 e he).1,by have:=(h.2 e he).2.1;omega,fun q hq=>by have:=(h.2 e he).2.2 q hq;omega⟩⟩
theorem fH {α : Type} {g:Nat→Option α} {r : α} (h:∀k,g k=some r):Ev g r:=⟨0,fun k _=>h k⟩
theorem dj {α : Type} (l:List α) (j:Nat) (h:j<l.length):l.drop j=l[j] :: l.drop (j+1):=List.drop_eq_getElem_cons h
theorem ku (l:List S90) (j:Nat) (h:j<l.length):eR l (j:Int)=l[j]:=by
 unfold eR;simp[List.getD_eq_getElem?_getD,List.getElem?_eq_getElem h]
theorem ft (s:ByteArray):∀c∈ao s,0≤c∧c≤255:=by
 intro c hc;obtain⟨b,_,rfl⟩:=List.mem_map.1 hc;have:=b.toNat_lt;omega
theorem pq (c:Int) (h:0≤c∧c≤255):0≤dp c∧dp c≤255:=by
 unfold dp;split <;> omega
theorem eb (s:ByteArray):ao (dn s)=(ao s).map dp:=by
 unfold dn
 apply fV
 intro c hc;obtain⟨b,hb,rfl⟩:=List.mem_map.1 hc;exact pq b (ft s b hb)
theorem mu (s:ByteArray):(dn s).size=s.size:=by
 rw[← bM,eb,List.length_map,bM]
theorem ga (s:ByteArray) (j:Nat) (h:j<(ao s).length):bt s (j:Int)=(ao s)[j]:=by
 rw[← mh,j5 _ _ h]
theorem rQ (c:Int):dp c=if upP c then c+32 else c:=by
 unfold dp
 by_cases h:65≤c∧c≤90
 ·rw[if_pos h,if_pos (show upP c from h)]
 ·rw[if_neg h,if_neg (show ¬upP c from h)]
theorem gN (c:Int) (h0:0≤c) (h1:c≤255):cP.f c=some (if upP c then c+32 else c):=by
 unfold cP.f
 by_cases h:upP c
 ·have h':65≤c∧c≤90:=h;rw[if_pos h'.1,if_pos h'.2,if_pos h];congr 1;omega
 ·have h':¬(65≤c∧c≤90):=h;rw[if_neg h];by_cases h2:c≥65
  ·rw[if_pos h2,if_neg (by omega)]
  ·rw[if_neg h2]
theorem oq (s:ByteArray) (hn:s.size<70368744177664):∀(d i:Nat) (acc:List Int),i+d=s.size→acc.length≤i →
  Ev (fun k=>dh.l0 k s acc (i:Int)) (strOfNums (acc ++ ((ao s).drop i).map dp)):=by
 have hb:=bM s;have hr:=ft s;intro d;induction d with
 | zero=>
  intro i acc hi hacc;refine Ev.step (fun k=>dh.l0.eq_2 _ _ _ _) ?_;simp only[if_neg (show ¬((i:Int)<(s.size:Int)) by omega)];rw[List.drop_of_length_le (by omega),List.map_nil,List.append_nil];exact Ev.now _
 | succ d ih=>
  intro i acc hi hacc;have hc:=hr (ao s)[i] (List.getElem_mem _);refine Ev.step (fun k=>dh.l0.eq_2 _ _ _ _) ?_;simp only[if_pos (show ((i:Int)<(s.size:Int)) by omega),if_pos (show 0≤(i:Int) by omega),ga s i (by omega),gN _ hc.1 hc.2,Option.bind_some,if_pos (show acc.length<140737488355328 by omega),cn i (by omega),← rQ];have:=ih (i+1) (acc ++ [dp (ao s)[i]]) (by omega) (by simp;omega);rw[dj (ao s) i (by omega),List.map_cons];rw[List.append_assoc,List.singleton_append] at this;exact this
theorem oJ (s:ByteArray) (hn:s.size<70368744177664):Ev (fun k=>dh.f k s) (dn s):=by
 have:=oq s hn s.size 0 [] (by omega) (by simp);rw[List.nil_append,List.drop_zero] at this;exact this
theorem cZ {g:Nat→Option Bool} {p:Prop} [Decidable p] (h:¬p) (k:Ev g false):Ev g (decide p):=by
 rw[decide_eq_false h];exact k
theorem cV {g:Nat→Option Bool} {p q:Prop} [Decidable p] [Decidable q] (h:p↔q) (k:Ev g (decide p)):Ev g (decide q):=by
 have:decide p=decide q:=decide_eq_decide.2 h;rw[← this];exact k
theorem qM {g:Nat→Option Bool} {p:Prop} [Decidable p] (h:p) (k:Ev g true):Ev g (decide p):=by
 rw[decide_eq_true h];exact k
theorem ej (l:List ByteArray) (j:Nat) (h:j<l.length):bC ByteArray.empty l (j:Int)=l[j]:=ek _ l j h
open Classical in
theorem l6 (s:ByteArray) (l:List ByteArray) (hl:l.length<100):∀(d i:Nat),i+d=l.length→Ev (fun k=>bS.l0 k s l (i:Int)) (decide (s∈l.drop i)):=by
 intro d;induction d with
 | zero=>
  intro i hi;refine Ev.step (fun k=>bS.l0.eq_2 _ _ _ _) ?_;simp only[if_neg (show ¬((i:Int)<(l.length:Int)) by omega)];refine cZ (fun h=>?_) (Ev.now _);rw[List.drop_eq_nil_of_le (by omega)] at h;simp at h
 | succ d ih=>
  intro i hi;refine Ev.step (fun k=>bS.l0.eq_2 _ _ _ _) ?_;have e:=List.drop_eq_getElem_cons (l:=l) (i:=i) (by omega);simp only[if_pos (show ((i:Int)<(l.length:Int)) by omega),if_pos (show 0≤(i:Int) by omega),ej l i (by omega),cn i (by omega),toList_inj];by_cases h:l[i] = s
  ·simp only[if_pos h];exact qM (by rw[e,h];exact List.mem_cons_self ..) (Ev.now _)
  ·simp only[if_neg h];refine cV ?_ (ih (i+1) (by omega));rw[e,List.mem_cons];exact⟨.inr,fun h2=>h2.resolve_left (fun h3=>h h3.symm)⟩
open Classical in
theorem hJ (s:ByteArray):Ev (fun k=>bS.f k s) (decide (s∈cG)):=by
 simp only[bS.f];exact l6 s cG (by decide) 6 0 rfl
open Classical in
theorem oy (x:ByteArray) (hx:x.size≤100) (b:Bool) (hb:b=true→1≤x.size):Ev (fun k=>bR.j1 k x (x.size:Int) b) (eP (if b=true then x.extract 0 (x.size - 1) else x)):=by
 refine Ev.step (fun k=>bR.j1.eq_2 _ _ _ _) ?_;cases b with
 | false=>
  simp only[if_neg (show ¬(false=true) by decide)];refine Ev.bind (hJ x) ?_;unfold eP
  by_cases h:x∈cG
  ·simp only[if_pos h,decide_eq_true h,if_true];exact Ev.now _
  ·simp only[if_neg h,decide_eq_false h,if_neg (show ¬(false=true) by decide)];exact Ev.now _
 | true=>
  have h1:=hb rfl;simp only[if_true,cd (x:=(x.size:Int) - 1) (by omega) (by omega),if_pos (show 0≤(x.size:Int) - 1 by omega),if_pos (show (x.size:Int) - 1≤(x.size:Int) by omega),show ((x.size:Int) - 1).toNat=x.size - 1 by omega];refine Ev.bind (hJ _) ?_;unfold eP
  by_cases h:x.extract 0 (x.size - 1)∈cG
  ·simp only[if_pos h,decide_eq_true h,if_true];exact Ev.now _
  ·simp only[if_neg h,decide_eq_false h,if_neg (show ¬(false=true) by decide)];exact Ev.now _
theorem jn (x:ByteArray) (hx:x.size≤100):Ev (fun k=>bR.j0 k x) (eP (noS x)):=by
 refine Ev.step (fun k=>bR.j0.eq_2 _ _) ?_;have key:∀b:Bool,b=ie x→Ev (fun k=>bR.j1 k x (x.size:Int) b) (eP (noS x)):=by
  intro b hb;have:=oy x hx b (fun h=>by
   rw[hb] at h;have:=(of_decide_eq_true h).1;omega)
  rw[hb] at this ⊢;exact this
 by_cases h3:(x.size:Int)>3
 ·simp only[if_pos h3,cd (x:=(x.size:Int) - 1) (by omega) (by omega),cd (x:=(x.size:Int) - 2) (by omega) (by omega),if_pos (show 0≤(x.size:Int) - 1 by omega),if_pos (show (x.size:Int) - 1<(x.size:Int) by omega),if_pos (show 0≤(x.size:Int) - 2 by omega),if_pos (show (x.size:Int) - 2<(x.size:Int) by omega)];by_cases h4:bt x ((x.size:Int) - 1)=115
  ·simp only[if_pos h4];refine key _ ?_;unfold ie
   by_cases h5:bt x ((x.size:Int) - 2)=115
   ·rw[decide_eq_false (fun h=>h.2.2 h5)];simp[h5]
   ·rw[decide_eq_true ⟨by omega,h4,h5⟩];simp[h5]
  ·simp only[if_neg h4];refine key _ ?_;unfold ie
   rw[decide_eq_false (fun h=>h4 h.2.1)]
 ·simp only[if_neg h3];refine key _ ?_;unfold ie
  rw[decide_eq_false (fun h=>by have:=h.1;omega)]
theorem pO (w:ByteArray) (h:12<w.size):eV w=w.extract 0 12:=by unfold eV;rw[Nat.min_eq_right (by omega)]
theorem oc (w:ByteArray):w.extract 0 w.size=w:=by
 apply ByteArray.ext
 rw[ByteArray.data_extract];exact Array.extract_size
theorem kn (w:ByteArray) (h:w.size≤12):eV w=w:=by unfold eV;rw[Nat.min_eq_left h];exact oc w
theorem extract_size (w:ByteArray) (n:Nat) (h:n≤w.size):(w.extract 0 n).size=n:=by rw[ByteArray.size_extract];omega
theorem nQ (s:ByteArray) (hs:s.size<70368744177664):Ev (fun k=>bR.f k s) (dR s):=by
 simp only[bR.f];have hz:=mu s;refine Ev.bind (oJ s hs) ?_;unfold dR
 by_cases h:((dn s).size:Int)>12
 ·simp only[if_pos h,if_pos (show (0:Int)≤12 by omega),if_pos (show (12:Int)≤((dn s).size:Int) by omega)];rw[pO _ (by omega)];exact jn _ (by rw[extract_size _ _ (by omega)];omega)
 ·simp only[if_neg h];rw[kn _ (by omega)];exact jn _ (by omega)
theorem mN (l:List S90) (hn:l.length≤1048578) (hs:∀w∈l,w.f0.size<70368744177664):∀(d i:Nat) (acc:List ByteArray),i+d=l.length→acc.length≤i →
  Ev (fun k=>cI.l0 k acc l (i:Int)) (acc ++ (l.drop i).map (fun w=>dR w.f0)):=by
 intro d;induction d with
 | zero=>
  intro i acc hi ha;refine Ev.step (fun k=>cI.l0.eq_2 _ _ _ _) ?_;simp only[if_neg (show ¬((i:Int)<(l.length:Int)) by omega)];rw[List.drop_eq_nil_of_le (by omega),List.map_nil,List.append_nil];exact Ev.now _
 | succ d ih=>
  intro i acc hi ha;refine Ev.step (fun k=>cI.l0.eq_2 _ _ _ _) ?_;simp only[if_pos (show ((i:Int)<(l.length:Int)) by omega),if_pos (show 0≤(i:Int) by omega),ku l i (by omega),cn i (by omega)];refine Ev.bind (nQ _ (hs _ (List.getElem_mem (by omega)))) ?_;simp only[if_pos (show acc.length<8796093022208 by omega)];have:=ih (i+1) (acc ++ [dR l[i].f0]) (by omega) (by simp;omega);rw[dj l i (by omega),List.map_cons];rw[List.append_assoc] at this;exact this
theorem kZ (s:ByteArray) (a b:Nat):(s.extract a b).size≤s.size:=by rw[ByteArray.size_extract];omega
theorem iM (s:ByteArray):∀w∈eL s,w.f0.size≤s.size:=by
 intro w hw;obtain⟨q,_,rfl⟩:=List.mem_map.1 hw;exact kZ s _ _
theorem ib (c:Int) (h0:0≤c) (h1:c≤255):dQ.f c=some (decide (dV c)):=by
 simp only[dQ.f,gN c h0 h1,Option.bind_some];by_cases h:upP c
 ·have h':65≤c∧c≤90:=h;simp only[if_pos h,if_pos (show c+32≥97 by omega),if_pos (show c+32≤122 by omega)];congr 1;symm;exact decide_eq_true (.inl h)
 ·have h':¬(65≤c∧c≤90):=h;simp only[if_neg h];by_cases h2:c≥97
  ·simp only[if_pos h2];by_cases h3:c≤122
   ·simp only[if_pos h3];congr 1;symm;exact decide_eq_true (.inr (.inl ⟨h2,h3⟩))
   ·simp only[if_neg h3,if_pos (show c≥48 by omega)];congr 1;exact decide_eq_decide.2 ⟨fun h4=>.inr (.inr ⟨by omega,h4⟩),fun h4=>by rcases h4 with h4 | h4 | h4;exact absurd h4 h;exact absurd h4.2 h3;exact h4.2⟩
  ·simp only[if_neg h2];by_cases h3:c≥48
   ·simp only[if_pos h3];congr 1;exact decide_eq_decide.2 ⟨fun h4=>.inr (.inr ⟨by omega,h4⟩),fun h4=>by rcases h4 with h4 | h4 | h4;exact absurd h4 h;exact absurd h4.1 h2;exact h4.2⟩
   ·simp only[if_neg h3];congr 1;symm;exact decide_eq_false (fun h4=>by rcases h4 with h4 | h4 | h4;exact absurd h4 h;exact absurd h4.1 h2;exact absurd h4.1 h3)
theorem oF (s:ByteArray) (hn:s.size<1099511627776):∀(d:Nat),
  (∀(i:Nat) (acc:List S90),i+d=s.size→acc.length≤i→Ev (fun k=>bm.l0 k s acc (i:Int)) (acc ++ (bO i none ((ao s).drop i)).map (gg s))) ∧
  (∀(i j:Nat) (acc:List S90),i+d=s.size→j<i→acc.length≤j→Ev (fun k=>bm.l1 k s acc (j:Int) (i:Int)) (acc ++ (bO i (some j) ((ao s).drop i)).map (gg s))):=by
 have hb:=bM s;intro d;induction d with
 | zero=>
  have h0:∀(i:Nat) (acc:List S90),s.size≤i→Ev (fun k=>bm.l0 k s acc (i:Int)) acc:=by
   intro i acc hi;refine Ev.step (fun k=>bm.l0.eq_2 _ _ _ _) ?_;simp only[if_neg (show ¬((i:Int)<(s.size:Int)) by omega)];exact Ev.now _
  constructor
  ·intro i acc hi hacc;rw[List.drop_of_length_le (by omega)];simpa [bO] using h0 i acc (by omega)
  ·intro i j acc hi hj hacc;rw[List.drop_of_length_le (by omega)];refine Ev.step (fun k=>bm.l1.eq_2 _ _ _ _ _) ?_;simp only[if_neg (show ¬((i:Int)<(s.size:Int)) by omega),if_neg (show ¬(i:Int)=(j:Int) by omega),if_pos (show 0≤(j:Int) by omega),if_pos (show (j:Int)≤(i:Int) by omega),if_pos (show (i:Int)≤(s.size:Int) by omega),if_pos (show acc.length<4398046511104 by omega),dI];exact h0 i _ (by omega)
 | succ d ih=>
  have hr:∀c∈ao s,0≤c∧c≤255:=ft s;have hstep:∀(i:Nat) (acc:List S90),i+(d+1)=s.size→acc.length≤i→Ev (fun k=>bm.l0 k s acc (i:Int)) (acc ++ (bO i none ((ao s).drop i)).map (gg s)):=by
   intro i acc hi hacc;have hc:=hr (ao s)[i] (List.getElem_mem _);refine Ev.step (fun k=>bm.l0.eq_2 _ _ _ _) ?_;simp only[if_pos (show ((i:Int)<(s.size:Int)) by omega)];refine Ev.step (fun k=>bm.l1.eq_2 _ _ _ _ _) ?_;simp only[if_pos (show ((i:Int)<(s.size:Int)) by omega),if_pos (show 0≤(i:Int) by omega),ga s i (by omega),ib _ hc.1 hc.2,Option.bind_some,decide_eq_true_eq,cn i (by omega),if_true];rw[dj (ao s) i (by omega)];by_cases hw:dV (ao s)[i]
   ·simp only[if_pos hw,bO];exact ih.2 (i+1) i acc (by omega) (by omega) (by omega)
   ·simp only[if_neg hw,bO];exact ih.1 (i+1) acc (by omega) (by omega)
  refine⟨hstep,?_⟩;intro i j acc hi hj hacc;have hc:=hr (ao s)[i] (List.getElem_mem _);refine Ev.step (fun k=>bm.l1.eq_2 _ _ _ _ _) ?_;simp only[if_pos (show ((i:Int)<(s.size:Int)) by omega),if_pos (show 0≤(i:Int) by omega),ga s i (by omega),ib _ hc.1 hc.2,Option.bind_some,decide_eq_true_eq,cn i (by omega)];have hd:=dj (ao s) i (by omega);by_cases hw:dV (ao s)[i]
  ·rw[hd];simp only[if_pos hw,bO];exact ih.2 (i+1) j acc (by omega) (by omega) (by omega)
  ·simp only[if_neg hw,if_neg (show ¬(i:Int)=(j:Int) by omega),if_pos (show 0≤(j:Int) by omega),if_pos (show (j:Int)≤(i:Int) by omega),if_pos (show (i:Int)≤(s.size:Int) by omega),if_pos (show acc.length<4398046511104 by omega),dI];have:=hstep i (acc ++ [gg s (j,i)]) hi (by simp;omega);rw[hd] at this ⊢;simp only[bO,if_neg hw,List.append_assoc] at this ⊢;exact this
theorem mD (s:ByteArray) (hn:s.size<1099511627776):Ev (fun k=>bm.f k s) (eL s):=by
 have:=(oF s hn s.size).1 0 [] (by omega) (by simp);rw[List.nil_append,List.drop_zero] at this;exact this
theorem lp:∀(l:List Int) (p:Nat) (o:Option Nat),(bO p o l).length≤l.length+(if o.isSome then 1 else 0):=by
 intro l;induction l with
 | nil=>intro p o;cases o <;> simp[bO]
 | cons c cs ih=>
  intro p o;cases o with
  | none=>
   by_cases h:dV c
   ·simp only[bO,if_pos h];have:=ih (p+1) (some p);simp at this ⊢;omega
   ·simp only[bO,if_neg h];have:=ih (p+1) none;simp at this ⊢;omega
  | some st=>
   by_cases h:dV c
   ·simp only[bO,if_pos h];have:=ih (p+1) (some st);simp at this ⊢;omega
   ·simp only[bO,if_neg h];have:=ih (p+1) none;simp at this ⊢;omega
theorem fb (s:ByteArray):(eL s).length≤s.size:=by
 unfold eL
 rw[List.length_map];have:=lp (ao s) 0 none;rw[bM] at this;simpa using this
theorem iI (s:ByteArray) (hs:s.size≤1048578):Ev (fun k=>cI.f k s) (ef s):=by
 simp only[cI.f];have hl:=fb s;refine Ev.bind (mD s (by omega)) ?_;exact mN (eL s) (by omega) (fun w hw=>by have:=iM s w hw;omega) (eL s).length 0 [] (by omega) (by simp)
theorem iE (s:ByteArray):(ef s).length=(eL s).length:=List.length_map ..
theorem gA {n:ByteArray} : ∀ {F:List S92},(∀x∈F,x.f0≠n)→ey n F=(⟨#[]⟩,0,0)
 | [],_=>rfl
 | f :: F,h=>by
  rw[ey,if_neg (h f (by simp))];exact gA (fun x hx=>h x (List.mem_cons_of_mem _ hx))
theorem gC {n:ByteArray} : ∀ {F:List S92} {j:Nat} (hj:j<F.length),F[j].f0=n→(∀m (hm:m<j),F[m].f0≠n)→ey n F=(F[j].f0,F[j].f1,F[j].f2)
 | [],_,hj,_,_=>by simp at hj
 | f :: F,0,_,h,_=>by
  rw[ey];have h':f.f0=n:=h;rw[if_pos h'];rfl
 | f :: F,j+1,hj,h,hb=>by
  have h0:f.f0≠n:=hb 0 (by omega);rw[ey,if_neg h0];exact gC (F:=F) (j:=j) (by simpa using hj) (by simpa using h) (fun m hm=>by have:=hb (m+1) (by omega);simpa using this)
theorem gJ (F:List S92) (hF:F.length≤1048576) (n:ByteArray):Ev (fun k=>dW.f k F n 1) (ee F n == 1):=by
 simp only[dW.f];obtain⟨r,hr,hq⟩:=eJ F n (by omega);refine Ev.bind hr ?_;rcases hq with ⟨rfl,h⟩ | ⟨j,hj,rfl,h1,h2⟩
 ·simp only[if_neg (show ¬((-1:Int)≥0) by omega),ee,gA h];exact Ev.now _
 ·simp only[if_pos (show ((j:Int)≥0) by omega),if_pos (show (0:Int)≤(j:Int) by omega),if_pos (show ((j:Int)<(F.length:Int)) by omega),eX F j hj,ee,gC hj h1 h2];exact Ev.now _
theorem r7 (ps:List S50) (id x:Int):fw ps id x ≠ []:=by
 unfold fw
 cases hl:ps.getLast? with
 | none=>simp
 | some q=>
  simp only;split
  ·intro h;have:=congrArg List.length h;rw[List.length_set] at this;have h2:ps = []:=List.eq_nil_of_length_eq_zero this;rw[h2] at hl;simp at hl
  ·simp
theorem ml {c:Nat} {p:ByteArray × ByteArray} {id x:Int} : ∀ {l:List S76},(∀e∈l,e.f2 ≠ [] ∧ LenP c e.f2)→(em p id x l).length≤l.length+1∧∀e∈em p id x l,e.f2 ≠ [] ∧ LenP (c+1) e.f2
 | [],_=>by
  rw[em];exact⟨by simp,fun e he=>by rw[List.mem_singleton] at he;rw[he];exact⟨by simp[j7],by simp[j7,LenP]⟩⟩
 | y :: l,h=>by
  have hw:∀e∈l,e.f2 ≠ [] ∧ LenP (c+1) e.f2:=fun e he=>by
   have:=h e (List.mem_cons_of_mem _ he);exact⟨this.1,by have:=this.2.1;omega,fun q hq=>by have:=this.2.2 q hq;omega⟩
  have hy:=h y (by simp);have hy2:y.f2 ≠ [] ∧ LenP (c+1) y.f2:=⟨hy.1,by have:=hy.2.1;omega,fun q hq=>by have:=hy.2.2 q hq;omega⟩;rw[em];split
  ·have ih:=ml (c:=c) (p:=p) (id:=id) (x:=x) (l:=l) (fun e he=>h e (List.mem_cons_of_mem _ he));refine⟨by simp;exact ih.1,fun e he=>?_⟩;rcases List.mem_cons.1 he with he | he
   ·rw[he];exact hy2
   ·exact ih.2 e he
  ·split
   ·refine⟨by simp,fun e he=>?_⟩;rcases List.mem_cons.1 he with he | he
    ·rw[he];exact⟨r7 _ _ _,LenP.step hy.2 id x⟩
    ·exact hw e he
   ·refine⟨by simp,fun e he=>?_⟩;rcases List.mem_cons.1 he with he | he
    ·rw[he];exact⟨by simp[j7],by simp[j7,LenP]⟩
    ·rcases List.mem_cons.1 he with he | he
     ·rw[he];exact hy2
     ·exact hw e he
theorem pG {c:Nat} {l:List S76} (h:d7 c l) (p:ByteArray × ByteArray) (id x:Int):d7 (c+1) (em p id x l):=by
 have:=ml (c:=c) (p:=p) (id:=id) (x:=x) h.2;exact⟨by have:=h.1;omega,this.2⟩
theorem fW:∀(x y:List UInt8),Op.bytesLess x y=decide (x<y)
 | [],[]=>by simp[Op.bytesLess]
 | _ :: _,[]=>by simp[Op.bytesLess]
 | [],_ :: _=>by simp[Op.bytesLess]
 | a :: x,b :: y=>by
  rw[Op.bytesLess,fW x y];simp only[List.cons_lt_cons_iff];by_cases h1:a<b <;> by_cases h2:a=b <;> by_cases h3:x<y <;> simp[h1,h2,h3]
theorem fE (l:List S76) (j:Nat) (h:j<l.length):aj l (j:Int)=l[j]:=by
 unfold aj;simp[List.getD_eq_getElem?_getD,List.getElem?_eq_getElem h]
theorem sY (l:List S76) (p:ByteArray × ByteArray) (id x:Int) (hn:l.length≤1099511627776):∀(d i:Nat),i+d=l.length →
  ∃(j:Nat) (b:Bool),Ev (fun k=>bQ.l0 k l p.1 p.2 (i:Int)) ((j:Int),b)∧i≤j∧j≤l.length∧(b=true→∃h:j<l.length,em p id x (l.drop i)=(l.drop i).set (j - i) (nc id x l[j])) ∧
   (b=false→em p id x (l.drop i)=(l.drop i).take (j - i) ++ [j7 p id x] ++ l.drop j):=by
 intro d;induction d with
 | zero=>
  intro i hi;refine⟨i,false,Ev.step (fun k=>bQ.l0.eq_2 _ _ _ _ _) ?_,Nat.le_refl _,by omega,fun h=>(by cases h),fun _=>?_⟩
  ·simp only[if_neg (show ¬((i:Int)<(l.length:Int)) by omega)];exact Ev.now _
  ·rw[List.drop_eq_nil_of_le (by omega),em];simp
 | succ d ih=>
  intro i hi;have hil:i<l.length:=by omega
  have hlt:ltP (cE l[i]) p↔(l[i].f0.toList<p.1.toList∨l[i].f0.toList=p.1.toList∧l[i].f1.toList<p.2.toList):=Iff.rfl;have next:ltP (cE l[i]) p→∃(j:Nat) (b:Bool),Ev (fun k=>bQ.l0 k l p.1 p.2 ((i+1:Nat):Int)) ((j:Int),b)∧i≤j∧j≤l.length∧(b=true→∃h:j<l.length,em p id x (l.drop i)=(l.drop i).set (j - i) (nc id x l[j])) ∧
   (b=false→em p id x (l.drop i)=(l.drop i).take (j - i) ++ [j7 p id x] ++ l.drop j):=by
   intro h;obtain⟨j,b,h1,h2,h3,h4,h5⟩:=ih (i+1) (by omega);have e1:em p id x (l.drop i)=l[i] :: em p id x (l.drop (i+1)):=by rw[dj l i hil,em,if_pos h]
   have e2:j - i=(j - (i+1))+1:=by omega
   refine⟨j,b,h1,by omega,h3,fun hb=>?_,fun hb=>?_⟩
   ·obtain⟨hj,h4⟩:=h4 hb;exact⟨hj,by rw[e1,h4,e2,dj l i hil,List.set_cons_succ]⟩
   ·rw[e1,h5 hb,e2,dj l i hil,List.take_succ_cons];rfl
  have stop:∀b:Bool,¬ltP (cE l[i]) p→(b=true↔cE l[i] = p)→∃(j:Nat) (b':Bool),Ev (fun _:Nat=>some ((i:Int),b)) ((j:Int),b')∧i≤j∧j≤l.length∧(b'=true→∃h:j<l.length,em p id x (l.drop i)=(l.drop i).set (j - i) (nc id x l[j])) ∧
   (b'=false→em p id x (l.drop i)=(l.drop i).take (j - i) ++ [j7 p id x] ++ l.drop j):=by
   intro b h hb;refine⟨i,b,Ev.now _,Nat.le_refl _,by omega,fun hb'=>⟨hil,?_⟩,fun hb'=>?_⟩
   ·rw[Nat.sub_self,dj l i hil,em,if_neg h,if_pos (hb.1 hb'),List.set_cons_zero]
   ·have hk:cE l[i] ≠ p:=fun hk=>by rw[hb.2 hk] at hb';cases hb'
    rw[Nat.sub_self,dj l i hil,em,if_neg h,if_neg hk,List.take_zero];rfl
  have lift:∀ {g:Nat→Option (Int × Bool)},(∃(j:Nat) (b:Bool),Ev g ((j:Int),b)∧i≤j∧j≤l.length∧(b=true→∃h:j<l.length,em p id x (l.drop i)=(l.drop i).set (j - i) (nc id x l[j])) ∧
   (b=false→em p id x (l.drop i)=(l.drop i).take (j - i) ++ [j7 p id x] ++ l.drop j))→(∀k,bQ.l0 (k+1) l p.1 p.2 (i:Int)=g k)→∃(j:Nat) (b:Bool),Ev (fun k=>bQ.l0 k l p.1 p.2 (i:Int)) ((j:Int),b)∧i≤j∧j≤l.length∧(b=true→∃h:j<l.length,em p id x (l.drop i)=(l.drop i).set (j - i) (nc id x l[j])) ∧
   (b=false→em p id x (l.drop i)=(l.drop i).take (j - i) ++ [j7 p id x] ++ l.drop j):=by
   intro g ⟨j,b,h1,h2⟩ he;exact⟨j,b,Ev.step he h1,h2⟩
  have hgo:∀k,bQ.l0 (k+1) l p.1 p.2 (i:Int)=if Op.bytesLess l[i].f0.toList p.1.toList=true then bQ.l0 k l p.1 p.2 ((i+1:Nat):Int) else if l[i].f0.toList=p.1.toList then if Op.bytesLess l[i].f1.toList p.2.toList=true then bQ.l0 k l p.1 p.2 ((i+1:Nat):Int) else some ((i:Int),l[i].f1.toList == p.2.toList) else some ((i:Int),false):=by
   intro k;rw[bQ.l0.eq_2];simp only[if_pos (show ((i:Int)<(l.length:Int)) by omega),if_pos (show 0≤(i:Int) by omega),fE l i hil,cn i (by omega)]
  by_cases c1:l[i].f0.toList<p.1.toList
  ·refine lift (next (hlt.2 (.inl c1))) (fun k=>?_);rw[hgo k,if_pos (by rw[fW];exact decide_eq_true c1)]
  ·by_cases c2:l[i].f0.toList=p.1.toList
   ·by_cases c3:l[i].f1.toList<p.2.toList
    ·refine lift (next (hlt.2 (.inr ⟨c2,c3⟩))) (fun k=>?_);rw[hgo k,if_neg (by rw[fW];simpa using c1),if_pos c2,if_pos (by rw[fW];exact decide_eq_true c3)]
    ·refine lift (stop (l[i].f1.toList == p.2.toList) (fun h=>?_) ?_) (fun k=>?_)
     ·rcases hlt.1 h with h | h
      ·exact c1 h
      ·exact c3 h.2
     ·rw[beq_iff_eq];constructor
      ·intro h;exact Prod.ext (toList_inj.1 c2) (toList_inj.1 h)
      ·intro h;rw[← h];rfl
     ·rw[hgo k,if_neg (by rw[fW];simpa using c1),if_pos c2,if_neg (by rw[fW];simpa using c3)]
   ·refine lift (stop false (fun h=>?_) ⟨fun h=>(by cases h),fun h=>absurd (by rw[← h];rfl) c2⟩) (fun k=>?_)
    ·rcases hlt.1 h with h | h
     ·exact c1 h
     ·exact c2 h.1
    ·rw[hgo k,if_neg (by rw[fW];simpa using c1),if_neg c2]
theorem lM (l:List S76) (p:ByteArray × ByteArray) (id x:Int) (hg:d7 999999 l):Ev (fun k=>cz.f k l p.1 p.2 id x) (em p id x l):=by
 have hlen:=hg.1;obtain⟨j,b,h1,_,h2,h3,h4⟩:=sY l p id x (by omega) l.length 0 (by omega);simp only[List.drop_zero,Nat.sub_zero] at h3 h4;have h1':Ev (fun k=>bQ.f k l p.1 p.2) ((j:Int),b):=by simpa [bQ.f] using h1
 simp only[cz.f];refine Ev.bind h1' ?_;cases b with
 | true=>
  obtain⟨hj,h3⟩:=h3 rfl;have he:=hg.2 l[j] (List.getElem_mem hj);have hw:wide l[j].f2=true:=by
   unfold wide
   rw[Bool.and_eq_true,decide_eq_true_eq,List.all_eq_true];exact⟨by have:=he.2.1;omega,fun q hq=>by have:=he.2.2 q hq;exact decide_eq_true (by omega)⟩
  simp only[if_true,dI,List.getElem?_eq_getElem hj];rw[h3];rw[if_pos ⟨by omega,he.1,hw⟩];exact Ev.now _
 | false=>
  simp only[if_neg (show ¬(false=true) by decide),dI];rw[h4 rfl,if_pos ⟨by omega,by omega,by omega⟩];exact Ev.now _
theorem eu (id:Int) (name:ByteArray):∀(ts:List ByteArray) (x:Int) (L:List S76) (c:Nat),d7 c L→c+ts.length≤1000000 →
  Ev (fun k=>ca.ts k id name ts x L) (iF id name ts x L)∧d7 (c+ts.length) (iF id name ts x L)
 | [],x,L,c,h,hc=>⟨fH (fun k=>rfl),by simpa [iF] using h⟩
 | t :: ts,x,L,c,h,hc=>by
  rw[List.length_cons] at hc;rw[iF];by_cases ht:t.size=0
  ·rw[if_pos ht];have ih:=eu id name ts (x+1) L (c+1) (dG h (by omega)) (by omega);refine⟨?_,by have:=ih.2;rw[List.length_cons];rw[show c+1+ts.length=c+(ts.length+1) by omega] at this;exact this⟩;simp only[ca.ts,if_pos ht];exact ih.1
  ·rw[if_neg ht];have ih:=eu id name ts (x+1) (em (name,t) id x L) (c+1) (pG h _ _ _) (by omega);refine⟨?_,by have:=ih.2;rw[List.length_cons];rw[show c+1+ts.length=c+(ts.length+1) by omega] at this;exact this⟩;simp only[ca.ts,if_neg ht];exact Ev.bind (lM L (name,t) id x (dG h (by omega))) ih.1
set_option maxRecDepth 20000 in
theorem oe (F:List S92) (hF:F.length≤1048576) (id:Int):∀(cs:List S86) (L:List S76) (n:Nat),d7 n L→(∀x∈cs,x.f0.size≤1000000∧x.f1.size≤1000)→n+cs.length*1000≤1000000 →
  Ev (fun k=>ca.cs k F id cs L) (pY F id cs L)∧d7 (n+cs.length*1000) (pY F id cs L)
 | [],L,n,hg,_,_=>⟨fH (fun k=>rfl),dG hg (by omega)⟩
 | c :: cs,L,n,hg,hs,hc=>by
  rw[List.length_cons] at hc ⊢;have hsc:=hs c (by simp);have hst:=fun x hx=>hs x (List.mem_cons_of_mem _ hx)
  simp only[ca.cs,pY];have hk:=gJ F hF c.f0;by_cases h1:ee F c.f0=1
  ·rw[if_pos h1];have hlen:(ef c.f1).length≤1000:=by rw[iE];have:=fb c.f1;omega
   obtain⟨hw1,hw2⟩:=eu id c.f0 (ef c.f1) 0 L n hg (by omega);obtain⟨e1,e2⟩:=oe F hF id cs _ (n+1000) (dG hw2 (by omega)) hst (by omega);refine⟨Ev.bind hk ?_,dG e2 (by omega)⟩;simp only[h1,beq_self_eq_true,if_true];refine Ev.bind (iI c.f1 (by omega)) ?_;exact Ev.bind hw1 e1
  ·rw[if_neg h1];obtain⟨e1,e2⟩:=oe F hF id cs L n hg hst (by omega);refine⟨Ev.bind hk ?_,dG e2 (by omega)⟩;rw[beq_eq_false_iff_ne.2 h1];simp only[if_neg (show ¬(false=true) by decide)];exact e1
set_option maxRecDepth 20000 in
theorem pg (F:List S92) (hF:F.length≤1048576):∀(rs:List S46) (L:List S76) (n:Nat),d7 n L→(∀r∈rs,r.f1.f1.length≤5∧∀x∈r.f1.f1,x.f0.size≤1000000∧x.f1.size≤1000)→n+rs.length*5000≤1000000 →
  Ev (fun k=>bn.rs k F rs L) (eo F rs L)∧d7 (n+rs.length*5000) (eo F rs L)
 | [],L,n,hg,_,_=>⟨fH (fun k=>rfl),dG hg (by omega)⟩
 | r :: rs,L,n,hg,hs,hc=>by
  rw[List.length_cons] at hc ⊢;have hsr:=hs r (by simp);obtain⟨e1,e2⟩:=oe F hF r.f0 r.f1.f1 L n hg hsr.2 (by omega);obtain⟨d1,d2⟩:=pg F hF rs _ (n+5000) (dG e2 (by omega)) (fun x hx=>hs x (List.mem_cons_of_mem _ hx)) (by omega);simp only[bn.rs,eo];exact⟨Ev.bind e1 d1,dG d2 (by omega)⟩
theorem n3 (F:List S92) (hF:F.length≤1048576) (rs:List S46) (hs:∀r∈rs,r.f1.f1.length≤5∧∀x∈r.f1.f1,x.f0.size≤1000000∧x.f1.size≤1000) (hc:rs.length≤9) :
  Ev (fun k=>bn.f k F rs) (eo F rs [])∧d7 45000 (eo F rs []):=by
 obtain⟨h1,h2⟩:=pg F hF rs [] 0 ⟨Nat.le_refl _,fun e he=>by cases he⟩ hs (by omega);exact⟨by simp only[bn.f];exact h1,dG h2 (by omega)⟩
theorem pN (F:List S92) (hF:F.length≤1000) (R:List S46) (hl:R.length≤9) (ho:eS 5 R) (n:Int):∀(d i:Nat),i+d=R.length→Ev (fun k=>a8.l0 k R (i:Int) F (R.take i) n) (F,R,eo F R [],n):=by
 intro d;induction d with
 | zero=>
  intro i hi;refine Ev.step (fun k=>a8.l0.eq_2 _ _ _ _ _ _) ?_;simp only[if_neg (show ¬((i:Int)<(R.length:Int)) by omega)];rw[List.take_of_length_le (by omega)];obtain⟨h1,_⟩:=n3 F (by omega) R (fun r hr=>⟨(ho r hr).2.1,fun x hx=>by have:=(ho r hr).2.2 x hx;omega⟩) hl;exact Ev.bind h1 (Ev.now _)
 | succ d ih=>
  intro i hi;have hil:i<R.length:=by omega
  have h0:=(ho R[i] (List.getElem_mem hil)).2.1;refine Ev.step (fun k=>a8.l0.eq_2 _ _ _ _ _ _) ?_;have ht:(R.take i).length=i:=by rw[List.length_take];omega
  simp only[if_pos (show ((i:Int)<(R.length:Int)) by omega),if_pos (show 0≤(i:Int) by omega),fX R i hil,Option.bind_some,List.length_nil,Nat.zero_add,List.nil_append,ht,if_pos (show R[i].f1.f1.length<4398046511104 by omega),if_pos (show i<2932031007402 by omega),cn i (by omega)];have:=ih (i+1) (by omega);rw[List.take_succ_eq_append_getElem hil] at this;exact this
theorem l5 (F:List S92) (hF:F.length≤1000) (R:List S46) (hl:R.length≤9) (ho:eS 5 R) (n:Int):Ev (fun k=>a8.f k F R n) (F,R,eo F R [],n):=by
 simp only[a8.f,Option.bind_some,List.length_nil,Nat.zero_add,List.nil_append,if_pos (show F.length<4398046511104 by omega)];exact pN F hF R hl ho n R.length 0 (by omega)
theorem fU {c:Nat} {l:List S46} (h:eS c l) {r:S46} (hr:r.f1.f0.size≤400∧r.f1.f1.length≤c∧dT r.f1.f1):eS c (l ++ [r]):=by
 intro x hx;rcases List.mem_append.1 hx with hx | hx
 ·exact h x hx
 ·rw[List.mem_singleton.1 hx];exact hr
theorem oX (s:List Int) (F:List S92) (hF:F.length≤1000) (p:Int):∀(d:Nat) (R:List S46) (id:Int) (i:Nat),i+d=8→R.length=i→eS 5 R →
  ∃R' n,Ev (fun k=>aI.l1 k F R id (i:Int) s p) (F,R',eo F R' [],n,p)∧R'.length≤8∧eS 5 R':=by
 intro d;induction d with
 | zero=>
  intro R id i hi hl ho;refine⟨R,id,Ev.step (fun k=>aI.l1.eq_2 _ _ _ _ _ _ _) ?_,by omega,ho⟩;simp only[if_neg (show ¬((i:Int)<8) by omega)];exact Ev.bind (l5 F hF R (by omega) ho id) (Ev.now _)
 | succ d ih=>
  intro R id i hi hl ho;obtain⟨R',n,h1,h2,h3⟩:=ih (R ++ [⟨id,⟨(⟨#[122]⟩:ByteArray) ++ kR i,[]⟩⟩]) (wrap64 (id+1)) (i+1) (by omega) (by simp;omega) (fU ho ⟨by
   have:=gu i (by omega);show ((⟨#[122]⟩:ByteArray) ++ kR i).size≤400
   rw[ByteArray.size_append];have e:(⟨#[122]⟩:ByteArray).size=1:=rfl;omega,Nat.zero_le _,fun c hc=>by cases hc⟩)
  refine⟨R',n,Ev.step (fun k=>aI.l1.eq_2 _ _ _ _ _ _ _) ?_,h2,h3⟩;simp only[if_pos (show ((i:Int)<8) by omega)];refine Ev.bind (m7 i (by omega)) ?_;have:=gu i (by omega);simp only[if_pos (show 1+(kR i).size≤9223372036854775807 by omega),Option.bind_some,List.length_singleton,if_pos (show R.length+1<2932031007402 by omega),cn i (by omega)];exact h1
theorem ot (c:Nat) (l:List S46) (key:ByteArray) (hl:l.length≤100) (ho:eS c l):∀(d i:Nat) (acc:List S46),i+d=l.length→acc.length≤i→eS c acc →
  ∃r,Ev (fun k=>br.l0 k l key acc (i:Int)) r∧r.length≤l.length∧eS c r:=by
 intro d;induction d with
 | zero=>
  intro i acc hi ha hc;refine⟨acc,Ev.step (fun k=>br.l0.eq_2 _ _ _ _ _) ?_,by omega,hc⟩;simp only[if_neg (show ¬((i:Int)<(l.length:Int)) by omega)];exact Ev.now _
 | succ d ih=>
  intro i acc hi ha hc;have hil:i<l.length:=by omega
  by_cases h:l[i].f1.f0.toList=key.toList
  ·obtain⟨r,h1,h2,h3⟩:=ih (i+1) acc (by omega) (by omega) hc;refine⟨r,Ev.step (fun k=>br.l0.eq_2 _ _ _ _ _) ?_,h2,h3⟩;simp only[if_pos (show ((i:Int)<(l.length:Int)) by omega),if_pos (show 0≤(i:Int) by omega),fX l i hil,if_pos h,cn i (by omega)];exact h1
  ·obtain⟨r,h1,h2,h3⟩:=ih (i+1) (acc ++ [⟨l[i].f0,⟨l[i].f1.f0,l[i].f1.f1⟩⟩]) (by omega) (by simp;omega) (fU hc (ho l[i] (List.getElem_mem hil)));refine⟨r,Ev.step (fun k=>br.l0.eq_2 _ _ _ _ _) ?_,h2,h3⟩;simp only[if_pos (show ((i:Int)<(l.length:Int)) by omega),if_pos (show 0≤(i:Int) by omega),fX l i hil,if_neg h,if_pos (show acc.length<2932031007402 by omega),cn i (by omega)];exact h1
theorem ox (c:Nat) (l:List S46) (key:ByteArray) (hl:l.length≤100) (ho:eS c l):∃r,Ev (fun k=>br.f k l key) r∧r.length≤l.length∧eS c r:=by
 obtain⟨r,h1,h2⟩:=ot c l key hl ho l.length 0 [] (by omega) (by simp) (fun r hr=>by cases hr);exact⟨r,by simp only[br.f];exact h1,h2⟩
theorem oR (s:List Int) (hs:CodeOk s) (F:List S92) (hF:F.length≤1000):∀(m:Nat) (R:List S46) (id p:Int),R.length+m≤5→eS 5 R→0≤p→p+300*m≤500000 →
  ∃R' n q,Ev (fun k=>aI.l0 k F R id (m:Int) s p) (F,R',eo F R' [],n,q)∧p≤q∧q≤p+300*m+1∧R'.length≤8∧eS 5 R':=by
 intro m;induction m with
 | zero=>
  intro R id p hR ho h0 h1;obtain⟨x,hx,x0,x1⟩:=dN s hs p 30 h0 (by omega) (by omega) (by omega);by_cases hz:x=0
  ·obtain⟨R',n,e1,e2,e3⟩:=oX s F hF (p+1) (8 - R.length) R id R.length (by omega) rfl ho;refine⟨R',n,p+1,Ev.step (fun k=>aI.l0.eq_2 _ _ _ _ _ _ _) ?_,by omega,by omega,e2,e3⟩;simp only[if_neg (show ¬(((0:Nat):Int)>0) by omega)];refine Ev.bind hx ?_;simp only[if_pos hz];exact e1
  ·refine⟨R,id,p+1,Ev.step (fun k=>aI.l0.eq_2 _ _ _ _ _ _ _) ?_,by omega,by omega,by omega,ho⟩;simp only[if_neg (show ¬(((0:Nat):Int)>0) by omega)];refine Ev.bind hx ?_;simp only[if_neg hz];exact Ev.bind (l5 F hF R (by omega) ho id) (Ev.now _)
 | succ m ih=>
  intro R id p hR ho h0 h1;obtain⟨key,cs,q,hd,d1,d2,d3,d4,d5⟩:=nC s hs F hF p h0 (by omega);obtain⟨R1,hw,w1,w2⟩:=ox 5 R key (by omega) ho;obtain⟨x,hx,x0,x1⟩:=dN s hs q 2 (by omega) (by omega) (by omega) (by omega);obtain⟨R',n,q',e1,e2,e3,e4,e5⟩:=ih (R1 ++ [⟨id,⟨key,cs⟩⟩]) (wrap64 (wrap64 (id+1)+x)) (q+1) (by simp;omega) (fU w2 ⟨by show key.size≤400;omega,by show cs.length≤5;omega,d5⟩) (by omega) (by omega);refine⟨R',n,q',Ev.step (fun k=>aI.l0.eq_2 _ _ _ _ _ _ _) ?_,by omega,by omega,e4,e5⟩;simp only[if_pos (show (((m+1:Nat):Int)>0) by omega)];refine Ev.bind hd ?_;refine Ev.bind hw ?_;simp only[Option.bind_some,List.length_singleton,if_pos (show R1.length+1<2932031007402 by omega)];refine Ev.bind hx ?_;rw[pE m (by omega)];exact e1
theorem pe (s:List Int) (hs:CodeOk s) (p:Int) (hp:0≤p) (hp1:p≤400000) :
  ∃F R n q,Ev (fun k=>aI.f k s p) (F,R,eo F R [],n,q)∧p≤q∧q≤p+2000∧g6 4 F∧R.length≤8∧eS 5 R:=by
 obtain⟨F,hF,f1,_⟩:=jv s hs p hp (by omega);obtain⟨x,hx,_,_⟩:=dN s hs (p+1) 2 (by omega) (by omega) (by omega) (by omega);obtain⟨y,hy,y0,y1⟩:=dN s hs (p+1+1) 6 (by omega) (by omega) (by omega) (by omega);obtain⟨m,rfl⟩:∃m:Nat,y=(m:Int):=⟨y.toNat,by omega⟩;obtain⟨R,n,q,e1,e2,e3,e4,e5⟩:=oR s hs F (by have:=f1.1;omega) m [] x (p+1+1+1) (by simp;omega) (fun r hr=>by cases hr) (by omega) (by omega);refine⟨F,R,n,q,?_,by omega,by omega,f1,e4,e5⟩;simp only[aI.f];refine Ev.bind hF ?_;refine Ev.bind hx ?_;exact Ev.bind hy e1
theorem lI (s:List Int) (hs:CodeOk s) (p:Int) (hp:0≤p) (hp1:p≤300000) :
  ∃F R E n q,Ev (fun k=>bB.f k s p) (F,R,E,n,q)∧p≤q∧q≤p+3000∧qb F R E:=by
 obtain⟨F,R,n,q,h1,h2,h3,h4,h5,h6⟩:=pe s hs p hp (by omega);have hg:=(n3 F (by have:=h4.1;omega) R (fun r hr=>⟨(h6 r hr).2.1,fun x hx=>by have:=(h6 r hr).2.2 x hx;omega⟩) (by omega)).2;have h4':=o8 h4 (show 4≤5 by omega);have hd:qb F R (eo F R []):=⟨h4',by omega,h6,hg⟩;obtain⟨x,hx,x0,x1⟩:=dN s hs q 16 (by omega) (by omega) (by omega) (by omega);simp only[bB.f];by_cases c0:x=0
 ·obtain⟨y,hy,_⟩:=sk s hs (q+1) [0,-1,999999999] (by omega) (by omega) (by decide) (by decide);refine⟨F,R,eo F R [],y,q+1+1,Ev.bind h1 (Ev.bind hx ?_),by omega,by omega,hd⟩;simp only[if_pos c0];exact Ev.bind hy (Ev.now _)
 by_cases c1:x=1
 ·by_cases c2:((eo F R []).length:Int)>0
  ·refine⟨F,R,(eo F R []).drop 1,n,q+1,Ev.bind h1 (Ev.bind hx ?_),by omega,by omega,h4',by omega,h6,pH hg 1⟩;simp only[if_neg c0,if_pos c1,if_pos c2,if_pos (show 1≤((eo F R []).length:Int) by omega)];exact Ev.now _
  ·refine⟨F,R,eo F R [],n,q+1,Ev.bind h1 (Ev.bind hx ?_),by omega,by omega,hd⟩;simp only[if_neg c0,if_pos c1,if_neg c2];exact Ev.now _
 by_cases c3:x=2
 ·obtain⟨key,cs,q',hy,d1,d2,d3,d4,d5⟩:=nI s hs F (by have:=h4.1;omega) (q+1) (by omega) (by omega);refine⟨F,R ++ [⟨n,⟨key,cs⟩⟩],eo F R [],n,q',Ev.bind h1 (Ev.bind hx ?_),by omega,by omega,h4',by simp;omega,fU h6 ⟨by show key.size≤400;omega,d4,d5⟩,hg⟩;simp only[if_neg c0,if_neg c1,if_pos c3];refine Ev.bind hy ?_;simp only[if_pos (show R.length<2932031007402 by omega)];exact Ev.now _
 by_cases c4:x=3
 ·obtain⟨F',q',hy,d1,d2,d3⟩:=kO s hs (q+1) (by omega) (by omega);refine⟨F',R,eo F R [],n,q',Ev.bind h1 (Ev.bind hx ?_),by omega,by omega,d3,by omega,h6,hg⟩;simp only[if_neg c0,if_neg c1,if_neg c3,if_pos c4];exact Ev.bind hy (Ev.now _)
 ·refine⟨F,R,eo F R [],n,q+1,Ev.bind h1 (Ev.bind hx ?_),by omega,by omega,hd⟩;simp only[if_neg c0,if_neg c1,if_neg c3,if_neg c4];exact Ev.now _
theorem qf (s:List Int) (hs:CodeOk s) (p:Int) (hp:0≤p) (hp1:p≤1000000):∃nm,Ev (fun k=>dY.f k s p) (nm,p+1):=by
 obtain⟨nm,hn,_⟩:=gR s hs p (([(⟨#[116,105,116,108,101]⟩:ByteArray),(⟨#[98,111,100,121]⟩:ByteArray),(⟨#[112,114,105,99,101]⟩:ByteArray),(⟨#[99,111,108,111,114]⟩:ByteArray),(⟨#[110,111,110,101]⟩:ByteArray)] : List ByteArray)) hp hp1 (by decide) (by decide);refine⟨nm,?_⟩;simp only[dY.f];exact Ev.bind hn (Ev.now _)
theorem sf {l:List Int} (h:∀x∈l,(Lit.int .u8 x).wf=true):∀c∈l,0≤c∧c≤255:=by
 intro c hc;have:=h c hc;simp[Lit.wf,IntKind.min,IntKind.max,IntKind.bits,IntKind.signed] at this
 omega
theorem jy (l:List Int) (h:∀x∈l,(Lit.int .u8 x).wf=true):∃F R E n f p,Ev (fun k=>cA.f k l) (F,R,E,n,f,p)∧fo F R E∧p.size≤1000:=by
 obtain⟨s,h1,hs⟩:=rB l (sf h);obtain⟨F,R,E,n,q,h2,q0,q1,hd⟩:=lI s hs 0 (by omega) (by omega);obtain⟨f,h3⟩:=qf s hs q (by omega) (by omega);obtain⟨p,h4,h5⟩:=gR s hs (q+1) (([(⟨#[]⟩:ByteArray),(⟨#[]⟩:ByteArray),(⟨#[97]⟩:ByteArray),(⟨#[116,114]⟩:ByteArray),(⟨#[114,101,100]⟩:ByteArray)] : List ByteArray)) (by omega) (by omega) (by decide) (by decide);have hp:p.size≤1000:=by
  simp only[List.mem_cons,List.not_mem_nil,or_false] at h5;rcases h5 with rfl | rfl | rfl | rfl | rfl <;> decide
 refine⟨F,R,E,n,f,p,?_,nR hd,hp⟩;simp only[cA.f,h1,Option.bind_some];exact Ev.bind h2 (Ev.bind h3 (Ev.bind h4 (Ev.now _)))
def f9 (f:S92):Prop:=(f.f1=1∧1≤f.f2∧f.f2≤9)∨(2≤f.f1∧f.f1≤3∧f.f2=0)
def dS (l:List Int) (j:Nat):Prop:=(∀(i:Nat) (h:i<l.length),j≤i→kP l[i] ∨ (0<i∧lL l[i]))∧1≤l.length∧l.length≤8
def dF (l:List S92) (j:Nat):Prop:=(∀(i:Nat) (h:i<l.length),j≤i→dS (ao l[i].f0) 0∧f9 l[i] ∧ ∀m (hm:m<i),l[m].f0≠l[i].f0)∧1≤l.length∧l.length≤4
open Classical in
noncomputable def fu (l:List S92):Bool:=decide (dF l 0)
theorem bv {g:Nat→Option Bool} {p:Prop} {ip:Decidable p} (h:¬p) (k:Ev g false):Ev g (@decide p ip):=by
 rw[decide_eq_false h];exact k
theorem iz {α : Type} {g:Nat→Option α} {a b : α} (h:Ev g a) (h':Ev g b):a=b:=by
 obtain⟨K,h⟩:=h;obtain⟨K',h'⟩:=h';exact Option.some.inj ((h (max K K') (by omega)).symm.trans (h' (max K K') (by omega)))
open Classical in
noncomputable def eW (l:List Int):Bool:=decide (dS l 0)
def qv (a b:ByteArray):Prop:=Op.bytesLess a.toList b.toList=true
def sQ (c:Int):Prop:=32≤c∧c≤126
open Classical in
noncomputable def eD (s:ByteArray) (m:Int):Bool:=decide ((∀c∈ao s,sQ c)∧(s.size:Int)≤m)
def gh (key:ByteArray) (l:List S86) (j:Nat):Prop:=(∀(i:Nat) (h:i<l.length),j≤i→eW (ao l[i].f0)=true∧eD l[i].f1 60=true∧∀h0:0<i,qv (l[i - 1]'(by omega)).f0 l[i].f0)∧eW (ao key)=true∧l.length≤4
open Classical in
noncomputable def kt (key:ByteArray) (l:List S86):Bool:=decide (gh key l 0)
def gv (l:List ByteArray):Prop:=∀x∈l,eW (ao x)=true
def eC (c:UInt8):Nat→List UInt8→List UInt8→List (List UInt8)
 | _,acc,[]=>[acc]
 | 0,acc,x :: xs=>[acc ++ x :: xs]
 | n+1,acc,x :: xs=>if x=c then acc :: eC c n [] xs else eC c (n+1) (acc ++ [x]) xs
def mkT (l:List UInt8):ByteArray:=⟨l.toArray⟩
def en (c:UInt8) (s:ByteArray):List ByteArray:=(eC c (s.data.toList.count c) [] s.data.toList).map mkT
def mw (s:ByteArray):Prop:=gv (en 44 s)∧(en 44 s).length≤4
def jd (s:ByteArray):Int × Bool:=match Lib.atoiAll s.data.toList with
 | .ok n=>if -999999999≤n∧n≤999999999∧Lib.itoa n=s.data.toList then(n,true) else(0,false)
 | _=>(0,false)
def kH (kind:Int) (s:ByteArray):Prop:=kind=1∨(kind=2∧(jd s).2=true)∨(kind=3∧mw s)
def kc (F:List S92) (key:ByteArray) (l:List S86):Prop:=fu F=true∧kt key l=true∧∀c∈l,kH (ee F c.f0) c.f1
open Classical in
noncomputable def g5 (F:List S92) (key:ByteArray) (l:List S86):Bool:=decide (kc F key l)
theorem db {g:Nat→Option Bool} {p q:Prop} {ip:Decidable p} {iq:Decidable q} (h:p↔q) (k:Ev g (@decide p ip)):Ev g (@decide q iq):=by
 have e : @decide p ip = @decide q iq:=decide_eq_decide.2 h;rw[← e];exact k
theorem jN {key:ByteArray} {l:List S86} {j:Nat} (hj:l.length≤j):gh key l j↔eW (ao key)=true∧l.length≤4:=⟨fun h=>h.2,fun h=>⟨fun i hi hji=>by omega,h⟩⟩
theorem iQ {key:ByteArray} {l:List S86} {j:Nat} (hj:j<l.length):gh key l j↔(eW (ao l[j].f0)=true∧eD l[j].f1 60=true∧∀h0:0<j,qv (l[j - 1]'(by omega)).f0 l[j].f0)∧gh key l (j+1):=by
 constructor
 ·rintro ⟨h,h2⟩;exact⟨h j hj (Nat.le_refl _),fun i hi hji=>h i hi (by omega),h2⟩
 ·rintro ⟨h,h1,h2⟩;refine⟨fun i hi hji=>?_,h2⟩;rcases Nat.lt_or_ge j i with hlt | hge
  ·exact h1 i hi hlt
  ·obtain rfl:i=j:=by omega
   exact h
theorem jM {l:List Int} {j:Nat} (hj:l.length≤j):dS l j↔1≤l.length∧l.length≤8:=⟨fun h=>h.2,fun h=>⟨fun i hi hji=>by omega,h⟩⟩
theorem iJ {l:List Int} {j:Nat} (hj:j<l.length):dS l j↔(kP l[j] ∨ (0<j∧lL l[j]))∧dS l (j+1):=by
 constructor
 ·rintro ⟨h,h2⟩;exact⟨h j hj (Nat.le_refl _),fun i hi hji=>h i hi (by omega),h2⟩
 ·rintro ⟨h,h1,h2⟩;refine⟨fun i hi hji=>?_,h2⟩;rcases Nat.lt_or_ge j i with hlt | hge
  ·exact h1 i hi hlt
  ·obtain rfl:i=j:=by omega
   exact h
theorem iK (a:Int):dU.f a=some (decide (lL a)):=by
 unfold dU.f lL
 by_cases h:a≥48
 ·rw[if_pos h];congr 1;exact decide_eq_decide.2 (by omega)
 ·rw[if_neg h];congr 1;symm;exact decide_eq_false (by omega)
theorem iO (a:Int):dk.f a=some (decide (kP a)):=by
 unfold dk.f kP
 by_cases h:a≥97
 ·rw[if_pos h];congr 1;exact decide_eq_decide.2 (by omega)
 ·rw[if_neg h];congr 1;symm;exact decide_eq_false (by omega)
theorem dD (a b c:Int):be.f a b c=some (decide (b≤a∧a≤c)):=by
 unfold be.f
 by_cases h:a≥b
 ·rw[if_pos h];congr 1;exact decide_eq_decide.2 ⟨fun h2=>⟨h,h2⟩,fun h2=>h2.2⟩
 ·rw[if_neg h];congr 1;symm;exact decide_eq_false (fun h2=>h h2.1)
open Classical in
theorem mA (s:ByteArray) (hn:s.size<4611686018427387904):∀(d i:Nat),i+d=s.size→Ev (fun k=>aH.l0 k s (s.size:Int) (i:Int)) (decide (dS (ao s) i)):=by
 have hb:=bM s;intro d;induction d with
 | zero=>
  intro i hi;refine Ev.step (fun k=>aH.l0.eq_2 _ _ _ _) ?_;simp only[if_neg (show ¬((i:Int)<(s.size:Int)) by omega),dD,Option.bind_some];refine cV (jM (by omega)).symm ?_;refine fH fun _=>?_
  congr 1;exact decide_eq_decide.2 (by omega)
 | succ d ih=>
  intro i hi;have hs:=iJ (l:=ao s) (j:=i) (by omega);refine Ev.step (fun k=>aH.l0.eq_2 _ _ _ _) ?_;simp only[if_pos (show ((i:Int)<(s.size:Int)) by omega),if_pos (show 0≤(i:Int) by omega),cn i (by omega),ga s i (by omega),iO,iK,Option.bind_some,decide_eq_true_eq];by_cases h1:kP (ao s)[i]
  ·simp only[if_pos h1];exact cV (hs.trans ⟨fun h=>h.2,fun h=>⟨.inl h1,h⟩⟩).symm (ih (i+1) (by omega))
  ·simp only[if_neg h1];by_cases h0:(i:Int)=0
   ·simp only[if_pos h0];have:decide (dS (ao s) i)=false:=decide_eq_false (fun h=>by rcases (hs.1 h).1 with h2 | h2;exact h1 h2;omega);rw[this];exact Ev.now _
   ·simp only[if_neg h0];by_cases h2:lL (ao s)[i]
    ·simp only[if_pos h2];exact cV (hs.trans ⟨fun h=>h.2,fun h=>⟨.inr ⟨by omega,h2⟩,h⟩⟩).symm (ih (i+1) (by omega))
    ·simp only[if_neg h2];have:decide (dS (ao s) i)=false:=decide_eq_false (fun h=>by rcases (hs.1 h).1 with h3 | h3;exact h1 h3;exact h2 h3.2);rw[this];exact Ev.now _
theorem fg (s:ByteArray) (hn:s.size<4611686018427387904):Ev (fun k=>aH.f k s) (eW (ao s)):=mA s hn s.size 0 (by omega)
theorem qw (s:ByteArray) (j:Nat) (h:j<(ao s).length):wrap64 (bt s (j:Int))=(ao s)[j]:=by
 rw[ga s j h];have:=ft s _ (List.getElem_mem h);exact cd (by omega) (by omega)
open Classical in
theorem mT (s:ByteArray) (m:Int) (hs:s.size<4611686018427387904):∀(d i:Nat),i+d=s.size→Ev (fun k=>cS.l0 k s m (s.size:Int) (i:Int)) (decide ((∀c∈(ao s).drop i,sQ c)∧(s.size:Int)≤m)):=by
 have hlen:=bM s;intro d;induction d with
 | zero=>
  intro i hi;refine Ev.step (fun k=>cS.l0.eq_2 _ _ _ _ _) ?_;simp only[if_neg (show ¬((i:Int)<(s.size:Int)) by omega)];refine cV ?_ (Ev.now _);rw[List.drop_eq_nil_of_le (by omega)];exact⟨fun h=>⟨fun c hc=>by simp at hc,h⟩,fun h=>h.2⟩
 | succ d ih=>
  intro i hi;refine Ev.step (fun k=>cS.l0.eq_2 _ _ _ _ _) ?_;simp only[if_pos (show ((i:Int)<(s.size:Int)) by omega),if_pos (show 0≤(i:Int) by omega),qw s i (by omega),dD,Option.bind_some,decide_eq_true_eq,cn i (by omega)];have e:=List.drop_eq_getElem_cons (l:=ao s) (i:=i) (by omega);by_cases hw:32≤(ao s)[i] ∧ (ao s)[i] ≤ 126
  ·simp only[if_pos hw];refine cV ?_ (ih (i+1) (by omega));rw[e];constructor
   ·rintro ⟨h1,h2⟩;exact⟨fun c hc=>by rcases List.mem_cons.1 hc with h | h;exact h ▸ hw;exact h1 c h,h2⟩
   ·rintro ⟨h1,h2⟩;exact⟨fun c hc=>h1 c (List.mem_cons_of_mem _ hc),h2⟩
  ·simp only[if_neg hw];refine cZ (fun h=>hw (h.1 _ ?_)) (Ev.now _);rw[e];exact List.mem_cons_self ..
theorem mU (s:ByteArray) (m:Int) (hs:s.size<4611686018427387904):Ev (fun k=>cS.f k s m) (eD s m):=by
 simp only[cS.f,eD];exact mT s m hs s.size 0 (by omega)
theorem my (s:ByteArray) (hs:s.size<4611686018427387904):Ev (fun k=>ce.f k s) (eD s 60):=by
 simp only[ce.f];exact Ev.bind (mU s 60 hs) (Ev.now _)
open Classical in
theorem jf (key:ByteArray) (l:List S86) (hk:key.size≤1048576) (hn:l.length≤1048576) (hs:∀x∈l,x.f0.size≤1048576∧x.f1.size≤1048576):∀(d i:Nat),i+d=l.length →
  Ev (fun k=>bD.l0 k l (l.length:Int) (i:Int) key l) (decide (gh key l i)):=by
 intro d;induction d with
 | zero=>
  intro i hi;refine Ev.step (fun k=>bD.l0.eq_2 _ _ _ _ _ _) ?_;simp only[if_neg (show ¬((i:Int)<(l.length:Int)) by omega)];refine cV (jN (by omega)).symm ?_;refine Ev.bind (fg key (by omega)) ?_;cases hnm:eW (ao key) with
  | false=>simp only[if_neg (show ¬(false=true) by decide)];exact cZ (fun h=>by cases h.1) (Ev.now _)
  | true=>
   simp only[if_true];exact cV ⟨fun h=>⟨(by first | trivial | rfl),by omega⟩,fun h=>by have:=h.2;omega⟩ (Ev.now _)
 | succ d ih=>
  intro i hi;have hst:=iQ (key:=key) (l:=l) (j:=i) (by omega);have hsz:=hs l[i] (List.getElem_mem _);have hnext:=ih (i+1) (by omega);refine Ev.step (fun k=>bD.l0.eq_2 _ _ _ _ _ _) ?_;simp only[if_pos (show ((i:Int)<(l.length:Int)) by omega),if_pos (show 0≤(i:Int) by omega),fJ l i (by omega),cn i (by omega)];refine Ev.bind (fg l[i].f0 (by omega)) ?_;cases hnm:eW (ao l[i].f0) with
  | false=>simp only[if_neg (show ¬(false=true) by decide)];exact cZ (fun h=>by have:=(hst.1 h).1.1;rw[hnm] at this;cases this) (Ev.now _)
  | true=>
   simp only[if_true];refine Ev.bind (my l[i].f1 (by omega)) ?_;cases htx:eD l[i].f1 60 with
   | false=>simp only[if_neg (show ¬(false=true) by decide)];exact cZ (fun h=>by have:=(hst.1 h).1.2.1;rw[htx] at this;cases this) (Ev.now _)
   | true=>
    simp only[if_true];by_cases h0:(i:Int)>0
    ·have he:wrap64 ((i:Int) - 1)=((i - 1:Nat):Int):=by rw[cd (by omega) (by omega)];omega
     simp only[if_pos h0,he,if_pos (show 0≤((i - 1:Nat):Int) by omega),if_pos (show ((i - 1:Nat):Int)<(l.length:Int) by omega),fJ l (i - 1) (by omega)];by_cases hl:qv (l[i - 1]'(by omega)).f0 l[i].f0
     ·have hl2:Op.bytesLess (l[i - 1]'(by omega)).f0.toList l[i].f0.toList=true:=hl;simp only[hl2,if_true];exact cV (hst.trans ⟨fun h=>h.2,fun h=>⟨⟨hnm,htx,fun _=>hl⟩,h⟩⟩).symm hnext
     ·have hl2:Op.bytesLess (l[i - 1]'(by omega)).f0.toList l[i].f0.toList=false:=Bool.eq_false_iff.2 hl;simp only[hl2,if_neg (show ¬(false=true) by decide)];exact cZ (fun h=>hl ((hst.1 h).1.2.2 (by omega))) (Ev.now _)
    ·simp only[if_neg h0];exact cV (hst.trans ⟨fun h=>h.2,fun h=>⟨⟨hnm,htx,fun h1=>by omega⟩,h⟩⟩).symm hnext
theorem i6 (key:ByteArray) (l:List S86) (hk:key.size≤1048576) (hn:l.length≤1048576) (hs:∀x∈l,x.f0.size≤1048576∧x.f1.size≤1048576):Ev (fun k=>bD.f k key l) (kt key l):=jf key l hk hn hs l.length 0 (by omega)
def pV (F:List S92) (l:List S86):Prop:=∀c∈l,kH (ee F c.f0) c.f1
theorem eI {g:Nat→Option Bool} {p:Prop} {ip:Decidable p} (h:p) (k:Ev g true):Ev g (@decide p ip):=by
 rw[decide_eq_true h];exact k
theorem k5 (n:ByteArray) (F:List S92) (hn:F.length<4611686018427387904):∀(d i:Nat),i+d=F.length→Ev (fun k=>bs.l0 k n F (F.length:Int) (i:Int)) (ey n (F.drop i)):=by
 intro d;induction d with
 | zero=>
  intro i hi;refine Ev.step (fun k=>bs.l0.eq_2 _ _ _ _ _) ?_;simp only[if_neg (show ¬((i:Int)<(F.length:Int)) by omega)];rw[List.drop_eq_nil_of_le (by omega)];exact Ev.now _
 | succ d ih=>
  intro i hi;have hil:i<F.length:=by omega
  refine Ev.step (fun k=>bs.l0.eq_2 _ _ _ _ _) ?_;rw[dj F i hil];simp only[if_pos (show ((i:Int)<(F.length:Int)) by omega),if_pos (show 0≤(i:Int) by omega),eX F i hil,toList_inj,cn i (by omega),ey];by_cases h:F[i].f0=n
  ·simp only[if_pos h];exact Ev.now _
  ·simp only[if_neg h];exact ih (i+1) (by omega)
theorem gK (n:ByteArray) (F:List S92) (hn:F.length<4611686018427387904):Ev (fun k=>bs.f k F n) (ey n F):=by
 have:=k5 n F hn F.length 0 (by omega);simpa [bs.f] using this
theorem eY {x:ByteArray} {l:List ByteArray} : gv (x :: l)↔eW (ao x)=true∧gv l:=by
 unfold gv
 constructor
 ·intro h;exact⟨h x (by simp),fun y hy=>h y (List.mem_cons_of_mem _ hy)⟩
 ·rintro ⟨h1,h2⟩ y hy;rcases List.mem_cons.1 hy with rfl | hy
  ·exact h1
  ·exact h2 y hy
open Classical in
theorem l4 (L:List ByteArray) (hL:L.length≤1048577) (hx:∀x∈L,x.size≤1048576):∀(d i:Nat),i+d=L.length→Ev (fun k=>co.l0 k L L (L.length:Int) (i:Int)) (decide (gv (L.drop i)∧L.length≤4)):=by
 intro d;induction d with
 | zero=>
  intro i hi;refine Ev.step (fun k=>co.l0.eq_2 _ _ _ _ _) ?_;simp only[if_neg (show ¬((i:Int)<(L.length:Int)) by omega)];rw[List.drop_eq_nil_of_le (by omega)];refine db ?_ (Ev.now _);exact⟨fun h=>⟨fun x hx=>by simp at hx,by omega⟩,fun h=>by have:=h.2;omega⟩
 | succ d ih=>
  intro i hi;have hil:i<L.length:=by omega
  have hxi:=hx L[i] (List.getElem_mem _);refine Ev.step (fun k=>co.l0.eq_2 _ _ _ _ _) ?_;simp only[if_pos (show ((i:Int)<(L.length:Int)) by omega),if_pos (show 0≤(i:Int) by omega),ek _ L i hil,cn i (by omega)];refine Ev.bind (fg L[i] (by omega)) ?_;rw[dj L i hil];cases hnm:eW (ao L[i]) with
  | false=>simp only[if_neg (show ¬(false=true) by decide)];exact bv (fun h=>by have:=(eY.1 h.1).1;rw[hnm] at this;cases this) (Ev.now _)
  | true=>
   simp only[if_true];exact db ⟨fun h=>⟨eY.2 ⟨hnm,h.1⟩,h.2⟩,fun h=>⟨(eY.1 h.1).2,h.2⟩⟩ (ih (i+1) (by omega))
theorem oS (s:ByteArray):mkT s.data.toList=s:=by cases s;rfl
theorem iw (c:UInt8) (acc l:List UInt8):eC c 0 acc l = [acc ++ l]:=by cases l <;> simp[eC]
theorem jG (c:UInt8):∀(x:List UInt8) (n:Nat) (acc r:List UInt8),c ∉ x→eC c n acc (x ++ r)=eC c n (acc ++ x) r
 | [],n,acc,r,_=>by simp
 | a :: x,0,acc,r,_=>by rw[iw,iw];simp
 | a :: x,n+1,acc,r,h=>by
  have h1:a≠c:=fun e=>h (by simp[e])
  rw[List.cons_append,eC,if_neg h1,jG c x (n+1) _ r (fun e=>h (List.mem_cons_of_mem _ e))];simp
theorem jC (c:UInt8) (r:List UInt8):∀(x:List UInt8),c ∉ x→Lib.indexByte (x ++ c :: r) c=(x.length:Int)
 | [],_=>by simp[Lib.indexByte]
 | a :: x,h=>by
  have ha:a≠c:=fun e=>h (by simp[e])
  have:=jC c r x (fun e=>h (List.mem_cons_of_mem _ e));simp[Lib.indexByte,this,ha]
theorem iG (c:UInt8):∀(l:List UInt8),c ∉ l→Lib.indexByte l c = -1
 | [],_=>rfl
 | x :: l,h=>by
  have hx:x≠c:=fun e=>h (by simp[e])
  have:=iG c l (fun e=>h (List.mem_cons_of_mem _ e));simp[Lib.indexByte,this,hx]
theorem nu (c:UInt8):∀(k:Nat) (l:List UInt8),Lib.splitK [c] 0 k l=eC c k [] l
 | 0,l=>by rw[iw];rfl
 | k+1,l=>by
  unfold Lib.splitK
  rw[Lib.index_one];by_cases h:c∈l
  ·obtain⟨x,r,rfl,hx⟩:=List.eq_append_cons_of_mem h;rw[jC c r x hx,if_neg (by simp),nu c k,jG c x (k+1) [] _ hx,eC,if_pos rfl];simp
  ·rw[iG c l h,if_pos (by decide)];have:=jG c l (k+1) [] [] h;rw[List.append_nil,List.nil_append] at this;rw[this];simp[eC]
theorem sM (c:UInt8) (s:ByteArray) (hs:s.size<4294967281):strings_Split.f s ⟨#[c]⟩=some (en c s):=by
 unfold strings_Split.f
 rw[if_pos ⟨hs,Nat.le_refl _⟩];have e:(⟨#[c]⟩:ByteArray).data.toList = [c]:=rfl;have h1:=Lib.splitB_data ⟨#[c]⟩ 0 (Lib.countB s ⟨#[c]⟩) s;rw[e,nu] at h1;have h2:Lib.countB s ⟨#[c]⟩=s.data.toList.count c:=by
  show Lib.count s.data.toList [c] = _
  exact Lib.count_one c _
 rw[h2] at h1 ⊢;unfold en
 rw[← h1,List.map_map];congr 1
 conv=>lhs;rw[← List.map_id (Lib.splitB _ _ _ _)]
 exact List.map_congr_left (fun x _=>(oS x).symm)
theorem hU (c:UInt8):∀(l:List UInt8) (n:Nat) (acc:List UInt8),(eC c n acc l).length≤l.length+1∧(eC c n acc l).length≤n+1∧1≤(eC c n acc l).length
 | [],n,acc=>by simp[eC]
 | x :: xs,0,acc=>by simp[eC]
 | x :: xs,n+1,acc=>by
  have h1:=hU c xs n [];have h2:=hU c xs (n+1) (acc ++ [x]);unfold eC
  split
  ·simp only[List.length_cons];omega
  ·simp only[List.length_cons];omega
theorem fD (s:ByteArray):s.data.toList.length=s.size:=rfl
theorem iH (c:UInt8) (s:ByteArray):(en c s).length≤s.size+1∧1≤(en c s).length:=by
 unfold en
 have:=hU c s.data.toList (s.data.toList.count c) [];rw[List.length_map];rw[fD] at this;omega
theorem jV (c:UInt8):∀(l:List UInt8) (n:Nat) (acc:List UInt8),∀p∈eC c n acc l,p.length≤acc.length+l.length
 | [],n,acc=>by simp[eC]
 | x :: xs,0,acc=>by simp[eC]
 | x :: xs,n+1,acc=>by
  intro p hp;unfold eC at hp
  split at hp
  ·rcases List.mem_cons.1 hp with rfl | hp
   ·omega
   ·have:=jV c xs n [] p hp;simp only[List.length_nil,List.length_cons] at this ⊢;omega
  ·have:=jV c xs (n+1) (acc ++ [x]) p hp;simp only[List.length_append,List.length_cons,List.length_nil] at this ⊢;omega
theorem sI (l:List UInt8):(mkT l).size=l.length:=by simp[mkT,ByteArray.size]
theorem ks {c:UInt8} {s p:ByteArray} (h:p∈en c s):p.size≤s.size:=by
 obtain⟨x,hx,rfl⟩:=List.mem_map.1 h;have:=jV c _ _ _ x hx;rw[fD] at this;rw[sI];simpa using this
open Classical in
theorem mq (s:ByteArray) (hs:s.size≤1048576):Ev (fun k=>co.f k s) (decide (mw s)):=by
 have hlen:=iH 44 s;simp only[co.f,sM 44 s (show s.size<4294967281 by omega),Option.bind_some];have h:=l4 (en 44 s) (by omega) (fun x hx=>by have:=ks hx;omega) (en 44 s).length 0 (by omega);rw[List.drop_zero] at h;exact db Iff.rfl h
theorem rC (s:ByteArray) (hs:s.size≤140737488355328):ch.f s=some (jd s):=by
 unfold ch.f
 rw[if_pos hs];rfl
open Classical in
theorem mY (F:List S92) (hF:F.length≤1048576) (l:List S86) (hn:l.length≤1048576) (hs:∀x∈l,x.f0.size≤1048576∧x.f1.size≤1048576):∀(d i:Nat),i+d=l.length →
  Ev (fun k=>bi.l0 k F l (l.length:Int) (i:Int)) (decide (pV F (l.drop i))):=by
 intro d;induction d with
 | zero=>
  intro i hi;refine Ev.step (fun k=>bi.l0.eq_2 _ _ _ _ _) ?_;simp only[if_neg (show ¬((i:Int)<(l.length:Int)) by omega)];rw[List.drop_eq_nil_of_le (by omega)];exact eI (fun c hc=>by simp at hc) (Ev.now _)
 | succ d ih=>
  intro i hi;have hil:i<l.length:=by omega
  have hsz:=hs l[i] (List.getElem_mem _);have hnx:=ih (i+1) (by omega);have yes:kH (ee F l[i].f0) l[i].f1→Ev (fun k=>bi.l0 k F l (l.length:Int) ((i+1:Nat):Int)) (decide (pV F (l[i] :: l.drop (i+1)))):=by
   intro h;refine db ⟨fun h2 c hc=>?_,fun h2 c hc=>h2 c (List.mem_cons_of_mem _ hc)⟩ hnx;rcases List.mem_cons.1 hc with rfl | hc
   ·exact h
   ·exact h2 c hc
  have no:¬kH (ee F l[i].f0) l[i].f1→Ev (fun _:Nat=>some false) (decide (pV F (l[i] :: l.drop (i+1)))):=fun h=>bv (fun h2=>h (h2 _ (List.mem_cons_self ..))) (Ev.now _)
  refine Ev.step (fun k=>bi.l0.eq_2 _ _ _ _ _) ?_;rw[dj l i hil];simp only[if_pos (show ((i:Int)<(l.length:Int)) by omega),if_pos (show 0≤(i:Int) by omega),fJ l i hil,cn i (by omega)];refine Ev.bind (gK l[i].f0 F (by omega)) ?_;have hkd:(ey l[i].f0 F).2.1=ee F l[i].f0:=rfl;rw[hkd];by_cases h1:ee F l[i].f0=1
  ·simp only[if_pos h1];exact yes (Or.inl h1)
  ·simp only[if_neg h1];by_cases h2:ee F l[i].f0=2
   ·simp only[if_pos h2,rC l[i].f1 (by omega),Option.bind_some];cases hnum:(jd l[i].f1).2 with
    | true=>simp only[if_true];exact yes (Or.inr (Or.inl ⟨h2,hnum⟩))
    | false=>
     simp only[if_neg (show ¬(false=true) by decide)];refine no (fun h=>?_);rcases h with h | ⟨_,h⟩ | ⟨h,_⟩
     ·exact h1 h
     ·rw[hnum] at h;cases h
     ·omega
   ·simp only[if_neg h2];by_cases h3:ee F l[i].f0=3
    ·simp only[if_pos h3];refine Ev.bind (mq l[i].f1 hsz.2) ?_;by_cases ht:mw l[i].f1
     ·rw[decide_eq_true ht];simp only[if_true];exact yes (Or.inr (Or.inr ⟨h3,ht⟩))
     ·rw[decide_eq_false ht];simp only[if_neg (show ¬(false=true) by decide)];refine no (fun h=>?_);rcases h with h | ⟨h,_⟩ | ⟨_,h⟩
      ·exact h1 h
      ·exact h2 h
      ·exact ht h
    ·simp only[if_neg h3];refine no (fun h=>?_);rcases h with h | ⟨h,_⟩ | ⟨h,_⟩
     ·exact h1 h
     ·exact h2 h
     ·exact h3 h
theorem gT {l:List S92} {j:Nat} (hj:l.length≤j):dF l j↔1≤l.length∧l.length≤4:=⟨fun h=>h.2,fun h=>⟨fun i hi hji=>by omega,h⟩⟩
theorem gL {l:List S92} {j:Nat} (hj:j<l.length):dF l j↔(dS (ao l[j].f0) 0∧f9 l[j] ∧ ∀m (hm:m<j),l[m].f0≠l[j].f0)∧dF l (j+1):=by
 constructor
 ·rintro ⟨h,h2⟩;exact⟨h j hj (Nat.le_refl _),fun i hi hji=>h i hi (by omega),h2⟩
 ·rintro ⟨h,h1,h2⟩;refine⟨fun i hi hji=>?_,h2⟩;rcases Nat.lt_or_ge j i with hlt | hge
  ·exact h1 i hi hlt
  ·obtain rfl:i=j:=by omega
   exact h
open Classical in
theorem gl {l:List Int} : eW l=true↔dS l 0:=by unfold eW;exact decide_eq_true_iff
theorem mP {α : Type} {l:List α} {j:Nat} {n : α} (h:j<l.length):n∈l.drop j↔n=l[j] ∨ n∈l.drop (j+1):=by
 rw[List.drop_eq_getElem_cons h,List.mem_cons]
open Classical in
theorem fv (l:List ByteArray) (n:ByteArray) (hn:l.length<4611686018427387904):∀(d i:Nat),i+d=l.length→∃r:Int,Ev (fun k=>aQ.l0 k l n (l.length:Int) (i:Int)) r∧decide (r≥0)=decide (n∈l.drop i):=by
 intro d;induction d with
 | zero=>
  intro i hi;refine⟨-1,Ev.step (fun k=>aQ.l0.eq_2 _ _ _ _ _) ?_,?_⟩
  ·simp only[if_neg (show ¬((i:Int)<(l.length:Int)) by omega)];exact Ev.now _
  ·rw[List.drop_of_length_le (by omega)];simp
 | succ d ih=>
  intro i hi;have hs:=mP (l:=l) (n:=n) (show i<l.length by omega);by_cases h:n=l[i]
  ·refine⟨(i:Int),Ev.step (fun k=>aQ.l0.eq_2 _ _ _ _ _) ?_,?_⟩
   ·simp only[if_pos (show ((i:Int)<(l.length:Int)) by omega),if_pos (show 0≤(i:Int) by omega),ej l i (by omega),toList_inj,if_pos h];exact Ev.now _
   ·rw[decide_eq_true (hs.2 (.inl h))];simp
  ·obtain⟨r,h1,h2⟩:=ih (i+1) (by omega);refine⟨r,Ev.step (fun k=>aQ.l0.eq_2 _ _ _ _ _) ?_,?_⟩
   ·simp only[if_pos (show ((i:Int)<(l.length:Int)) by omega),if_pos (show 0≤(i:Int) by omega),ej l i (by omega),toList_inj,if_neg h,cn i (by omega)];exact h1
   ·rw[h2];exact decide_eq_decide.2 (hs.trans ⟨fun h1=>h1.resolve_left h,.inr⟩).symm
open Classical in
theorem dd (l:List ByteArray) (n:ByteArray) (hn:l.length<4611686018427387904):Ev (fun k=>ax.f k l n) (decide (n∈l)):=by
 obtain⟨r,h1,h2⟩:=fv l n hn l.length 0 (by omega);simp only[ax.f];refine Ev.bind (a:=r) h1 ?_;rw[h2];exact Ev.now _
open Classical in
theorem kg (l:List S92) (hn:l.length≤1048577) (hs:∀x∈l,x.f0.size≤1048576):∀(d i:Nat),i+d=l.length →
  Ev (fun k=>aU.l0 k l ((l.take i).map (fun x=>x.f0)) l (l.length:Int) (i:Int)) (decide (dF l i)):=by
 intro d;induction d with
 | zero=>
  intro i hi;refine Ev.step (fun k=>aU.l0.eq_2 _ _ _ _ _ _) ?_;simp only[if_neg (show ¬((i:Int)<(l.length:Int)) by omega),dD,Option.bind_some];refine cV (gT (by omega)).symm ?_;refine fH fun _=>?_
  congr 1;exact decide_eq_decide.2 (by omega)
 | succ d ih=>
  intro i hi;have hst:=gL (l:=l) (j:=i) (by omega);have hsz:=hs l[i] (List.getElem_mem _);have hlen:((l.take i).map (fun x=>x.f0)).length=i:=by rw[List.length_map,List.length_take];omega
  have hmem:l[i].f0∈(l.take i).map (fun x=>x.f0)↔∃m,∃hm:m<i,l[m].f0=l[i].f0:=by
   rw[List.mem_map];constructor
   ·rintro ⟨x,hx,he⟩;obtain⟨m,hm,rfl⟩:=List.mem_iff_getElem.1 hx;rw[List.length_take] at hm;exact⟨m,by omega,by rw[← he,List.getElem_take]⟩
   ·rintro ⟨m,hm,he⟩;exact⟨l[m],List.mem_iff_getElem.2 ⟨m,by rw[List.length_take];omega,by rw[List.getElem_take]⟩,he⟩
  have hnx:(l.take (i+1)).map (fun x=>x.f0)=(l.take i).map (fun x=>x.f0) ++ [l[i].f0]:=by
   rw[List.take_add_one,List.getElem?_eq_getElem (by omega),List.map_append];rfl
  refine Ev.step (fun k=>aU.l0.eq_2 _ _ _ _ _ _) ?_;simp only[if_pos (show ((i:Int)<(l.length:Int)) by omega),if_pos (show 0≤(i:Int) by omega),eX l i (by omega),dD,Option.bind_some];have hj1:∀(t:Bool),((t=true∧1≤l[i].f1∧l[i].f1≤3)↔f9 l[i])→Ev (fun k=>aU.j1 k l ((l.take i).map (fun x=>x.f0)) t l (l.length:Int) (i:Int) l[i].f0 l[i].f1 l[i].f2) (decide (dF l i)):=by
   intro t ht;refine Ev.step (fun k=>aU.j1.eq_2 _ _ _ _ _ _ _ _ _ _) ?_;refine Ev.bind (fg l[i].f0 (by omega)) ?_;cases hnm:eW (ao l[i].f0) with
   | false=>
    simp only[if_neg (show ¬(false=true) by decide)];refine cZ (fun h=>?_) (Ev.now _);have:=gl.2 (hst.1 h).1.1;rw[hnm] at this;cases this
   | true=>
    simp only[if_true];refine Ev.bind (dd _ _ (by rw[hlen];omega)) ?_;simp only[decide_eq_true_eq,dD,Option.bind_some];by_cases hc:l[i].f0∈(l.take i).map (fun x=>x.f0)
    ·simp only[if_pos hc];obtain⟨m,hm,he⟩:=hmem.1 hc;exact cZ (fun h=>(hst.1 h).1.2.2 m hm he) (Ev.now _)
    ·simp only[if_neg hc];by_cases hp:f9 l[i]
     ·obtain⟨h1,h2⟩:=ht.2 hp;simp only[if_pos h2,h1,if_true,hlen,if_pos (show i<8796093022208 by omega),cn i (by omega)];have hnext:=ih (i+1) (by omega);rw[hnx] at hnext;exact cV (hst.trans ⟨fun h=>h.2,fun h=>⟨⟨gl.1 hnm,hp,fun m hm he=>hc (hmem.2 ⟨m,hm,he⟩)⟩,h⟩⟩).symm hnext
     ·have hf:Ev (fun _=>some false) (decide (dF l i)):=cZ (fun h=>hp (hst.1 h).1.2.1) (Ev.now _);by_cases h2:1≤l[i].f1∧l[i].f1≤3
      ·have h1:t=false:=by
        cases t
        ·rfl
        ·exact absurd (ht.1 ⟨rfl,h2⟩) hp
       simp only[if_pos h2,h1,if_neg (show ¬(false=true) by decide)];exact hf
      ·simp only[if_neg h2];exact hf
  by_cases h1:l[i].f1=1
  ·simp only[if_pos h1];refine hj1 _ ?_;unfold f9
   rw[decide_eq_true_eq];constructor
   ·intro h;exact .inl ⟨h1,h.1⟩
   ·intro h;rcases h with h | h
    ·exact⟨h.2,by omega,by omega⟩
    ·omega
  ·simp only[if_neg h1];refine hj1 _ ?_;unfold f9
   rw[beq_iff_eq];constructor
   ·intro h;exact .inr ⟨by omega,h.2.2,h.1⟩
   ·intro h;rcases h with h | h
    ·exact absurd h.1 h1
    ·exact⟨h.2.2,by omega,h.2.1⟩
theorem gq (l:List S92) (hn:l.length≤1048577) (hs:∀x∈l,x.f0.size≤1048576):Ev (fun k=>aU.f k l) (fu l):=kg l hn hs l.length 0 (by omega)
open Classical in
theorem m4 (F:List S92) (hF:F.length≤1048576) (hFs:∀x∈F,x.f0.size≤1048576) (key:ByteArray) (l:List S86) (hk:key.size≤1048576) (hn:l.length≤1048576) (hs:∀x∈l,x.f0.size≤1048576∧x.f1.size≤1048576):Ev (fun k=>bi.f k F key l) (g5 F key l):=by
 simp only[bi.f,g5];have stop:¬kc F key l→Ev (fun k=>bi.j0 k F true key l) (decide (kc F key l)):=by
  intro h;refine Ev.step (fun k=>bi.j0.eq_2 _ _ _ _ _) ?_;simp only[if_true];exact bv h (Ev.now _)
 refine Ev.bind (gq F (by omega) hFs) ?_;cases hf:fu F with
 | false=>simp only[if_neg (show ¬(false=true) by decide)];exact stop (fun h=>by have:=h.1;rw[hf] at this;cases this)
 | true=>
  simp only[if_true];refine Ev.bind (i6 key l hk hn hs) ?_;cases hm:kt key l with
  | false=>exact stop (fun h=>by have:=h.2.1;rw[hm] at this;cases this)
  | true=>
   simp only[Bool.not_true];refine Ev.step (fun k=>bi.j0.eq_2 _ _ _ _ _) ?_;simp only[if_neg (show ¬(false=true) by decide)];have h:=mY F hF l hn hs l.length 0 (by omega);rw[List.drop_zero] at h;refine db ?_ h;unfold kc
   exact⟨fun h=>⟨hf,hm,h⟩,fun h=>h.2.2⟩
theorem oo (s:ByteArray) (hn:s.size<70368744177664):fm.f s=some (dn s):=by
 unfold fm.f
 rw[if_pos (by omega)];rfl
open Classical in
theorem n9 (x:ByteArray) (hx:x.size≤100) (b:Bool) (hb:b=true→1≤x.size):Ev (fun k=>b7.j0 k x (x.size:Int) b) (eP (if b=true then x.extract 0 (x.size - 1) else x)):=by
 refine Ev.step (fun k=>b7.j0.eq_2 _ _ _ _) ?_;cases b with
 | false=>
  simp only[if_neg (show ¬(false=true) by decide)];refine Ev.bind (dd cG x (by decide)) ?_;unfold eP
  by_cases h:x∈cG
  ·simp only[if_pos h,decide_eq_true h,if_true];exact Ev.now _
  ·simp only[if_neg h,decide_eq_false h,if_neg (show ¬(false=true) by decide)];exact Ev.now _
 | true=>
  have h1:=hb rfl;simp only[if_true,cd (x:=(x.size:Int) - 1) (by omega) (by omega),if_pos (show 0≤(x.size:Int) - 1 by omega),if_pos (show (x.size:Int) - 1≤(x.size:Int) by omega),show ((x.size:Int) - 1).toNat=x.size - 1 by omega];refine Ev.bind (dd cG _ (by decide)) ?_;unfold eP
  by_cases h:x.extract 0 (x.size - 1)∈cG
  ·simp only[if_pos h,decide_eq_true h,if_true];exact Ev.now _
  ·simp only[if_neg h,decide_eq_false h,if_neg (show ¬(false=true) by decide)];exact Ev.now _
theorem mz (w:ByteArray):(eV w).size=min w.size 12:=extract_size w _ (Nat.min_le_left _ _)
theorem jp (s:ByteArray) (hs:s.size<70368744177664):Ev (fun k=>b7.f k s) (dR s):=by
 simp only[b7.f];have hz:=mu s;simp only[oo s hs,Option.bind_some];have hmn:mn ((dn s).size:Int) 12=((min (dn s).size 12:Nat):Int):=by unfold mn;split <;> omega
 simp only[hmn,if_pos (show (0:Int)≤((min (dn s).size 12:Nat):Int) by omega),if_pos (show ((min (dn s).size 12:Nat):Int)≤((dn s).size:Int) by omega),Int.toNat_natCast];have hc:(dn s).extract 0 (min (dn s).size 12)=eV (dn s):=rfl;have hx:(eV (dn s)).size≤100:=by rw[mz];omega
 simp only[hc];unfold dR
 generalize eV (dn s)=x at hx;have key:∀b:Bool,b=ie x→Ev (fun k=>b7.j0 k x (x.size:Int) b) (eP (noS x)):=by
  intro b hb;have:=n9 x hx b (fun h=>by
   rw[hb] at h;have:=(of_decide_eq_true h).1;omega)
  rw[hb] at this ⊢;exact this
 by_cases h3:(x.size:Int)>3
 ·simp only[if_pos h3,cd (x:=(x.size:Int) - 1) (by omega) (by omega),cd (x:=(x.size:Int) - 2) (by omega) (by omega),if_pos (show 0≤(x.size:Int) - 1 by omega),if_pos (show (x.size:Int) - 1<(x.size:Int) by omega),if_pos (show 0≤(x.size:Int) - 2 by omega),if_pos (show (x.size:Int) - 2<(x.size:Int) by omega)];by_cases h4:bt x ((x.size:Int) - 1)=115
  ·simp only[if_pos h4];refine key _ ?_;unfold ie
   by_cases h5:bt x ((x.size:Int) - 2)=115
   ·rw[decide_eq_false (fun h=>h.2.2 h5)];simp[h5]
   ·rw[decide_eq_true ⟨by omega,h4,h5⟩];simp[h5]
  ·simp only[if_neg h4];refine key _ ?_;unfold ie
   rw[decide_eq_false (fun h=>h4 h.2.1)]
 ·simp only[if_neg h3];refine key _ ?_;unfold ie
  rw[decide_eq_false (fun h=>by have:=h.1;omega)]
theorem mW (l:List S90) (hn:l.length≤1048578) (hs:∀w∈l,w.f0.size<70368744177664):∀(d i:Nat) (acc:List ByteArray),i+d=l.length→acc.length≤i →
  Ev (fun k=>cJ.l0 k acc l (l.length:Int) (i:Int)) (acc ++ (l.drop i).map (fun w=>dR w.f0)):=by
 intro d;induction d with
 | zero=>
  intro i acc hi ha;refine Ev.step (fun k=>cJ.l0.eq_2 _ _ _ _ _) ?_;simp only[if_neg (show ¬((i:Int)<(l.length:Int)) by omega)];rw[List.drop_eq_nil_of_le (by omega),List.map_nil,List.append_nil];exact Ev.now _
 | succ d ih=>
  intro i acc hi ha;refine Ev.step (fun k=>cJ.l0.eq_2 _ _ _ _ _) ?_;simp only[if_pos (show ((i:Int)<(l.length:Int)) by omega),if_pos (show 0≤(i:Int) by omega),ku l i (by omega),cn i (by omega)];refine Ev.bind (jp _ (hs _ (List.getElem_mem (by omega)))) ?_;simp only[if_pos (show acc.length<8796093022208 by omega)];have:=ih (i+1) (acc ++ [dR l[i].f0]) (by omega) (by simp;omega);rw[dj l i (by omega),List.map_cons];rw[List.append_assoc] at this;exact this
theorem mZ (a:Int):dl.f a=some (decide (upP a)):=by
 unfold dl.f upP
 by_cases h:a≥65
 ·rw[if_pos h];congr 1;exact decide_eq_decide.2 (by omega)
 ·rw[if_neg h];congr 1;symm;exact decide_eq_false (by omega)
theorem gt (c:Int):cM.f c=some (decide (dV c)):=by
 simp only[cM.f,mZ,iO,iK,Option.bind_some,decide_eq_true_eq];by_cases h1:upP c
 ·rw[if_pos h1,decide_eq_true (show dV c from .inl h1)]
 ·rw[if_neg h1];by_cases h2:kP c
  ·rw[if_pos h2,decide_eq_true (show dV c from .inr (.inl h2))]
  ·rw[if_neg h2];congr 1;exact decide_eq_decide.2 ⟨fun h=>.inr (.inr h),fun h=>(h.resolve_left h1).resolve_left h2⟩
theorem nV (s:ByteArray) (hn:s.size<1099511627776):∀(d:Nat),
  (∀(i:Nat) (acc:List S90),i+d=s.size→acc.length≤i→Ev (fun k=>bp.l0 k s acc (i:Int)) (acc ++ (bO i none ((ao s).drop i)).map (gg s))) ∧
  (∀(i j:Nat) (acc:List S90),i+d=s.size→j<i→acc.length≤i→Ev (fun k=>bp.l1 k s acc (i:Int) (j:Int)) (acc ++ (bO i (some j) ((ao s).drop i)).map (gg s))):=by
 have hb:=bM s;intro d;induction d with
 | zero=>
  have h0:∀(i:Nat) (acc:List S90),s.size≤i→Ev (fun k=>bp.l0 k s acc (i:Int)) acc:=by
   intro i acc hi;refine Ev.step (fun k=>bp.l0.eq_2 _ _ _ _) ?_;simp only[if_neg (show ¬((i:Int)<(s.size:Int)) by omega)];exact Ev.now _
  constructor
  ·intro i acc hi hacc;rw[List.drop_of_length_le (by omega)];simpa [bO] using h0 i acc (by omega)
  ·intro i j acc hi hj hacc;rw[List.drop_of_length_le (by omega)];refine Ev.step (fun k=>bp.l1.eq_2 _ _ _ _ _) ?_;simp only[if_neg (show ¬((i:Int)<(s.size:Int)) by omega),if_pos (show (i:Int)>(j:Int) by omega),if_pos (show 0≤(j:Int) by omega),if_pos (show (j:Int)≤(i:Int) by omega),if_pos (show (i:Int)≤(s.size:Int) by omega),if_pos (show acc.length<4398046511104 by omega),cn i (by omega),dI];exact h0 (i+1) _ (by omega)
 | succ d ih=>
  have h1:∀(i j:Nat) (acc:List S90),i+(d+1)=s.size→j≤i→acc.length≤i→Ev (fun k=>bp.l1 k s acc (i:Int) (j:Int)) (acc ++ (bO i (if j<i then some j else none) ((ao s).drop i)).map (gg s)):=by
   intro i j acc hi hj hacc;refine Ev.step (fun k=>bp.l1.eq_2 _ _ _ _ _) ?_;simp only[if_pos (show ((i:Int)<(s.size:Int)) by omega),if_pos (show 0≤(i:Int) by omega),ga s i (by omega),gt,Option.bind_some,decide_eq_true_eq,cn i (by omega)];rw[dj (ao s) i (by omega)];by_cases hw:dV (ao s)[i]
   ·simp only[if_pos hw];have:=ih.2 (i+1) j acc (by omega) (by omega) (by omega);by_cases hji:j<i
    ·simpa only[if_pos hji,bO,if_pos hw] using this
    ·obtain rfl:j=i:=by omega
     simpa only[if_neg hji,bO,if_pos hw] using this
   ·simp only[if_neg hw];by_cases hji:j<i
    ·simp only[if_pos hji,if_pos (show (i:Int)>(j:Int) by omega),if_pos (show 0≤(j:Int) by omega),if_pos (show (j:Int)≤(i:Int) by omega),if_pos (show (i:Int)≤(s.size:Int) by omega),if_pos (show acc.length<4398046511104 by omega),dI,bO,if_neg hw];have:=ih.1 (i+1) (acc ++ [gg s (j,i)]) (by omega) (by simp;omega);rw[List.append_assoc] at this;exact this
    ·simp only[if_neg hji,if_neg (show ¬(i:Int)>(j:Int) by omega),bO,if_neg hw];exact ih.1 (i+1) acc (by omega) (by omega)
  constructor
  ·intro i acc hi hacc;refine Ev.step (fun k=>bp.l0.eq_2 _ _ _ _) ?_;simp only[if_pos (show ((i:Int)<(s.size:Int)) by omega)];have:=h1 i i acc hi (Nat.le_refl _) hacc;simpa only[if_neg (Nat.lt_irrefl i)] using this
  ·intro i j acc hi hj hacc;have:=h1 i j acc hi (by omega) hacc;simpa only[if_pos hj] using this
theorem mQ (s:ByteArray) (hn:s.size<1099511627776):Ev (fun k=>bp.f k s) (eL s):=by
 have:=(nV s hn s.size).1 0 [] (by omega) (by simp);rw[List.nil_append,List.drop_zero] at this;exact this
theorem mR (s:ByteArray) (hs:s.size≤1048578):Ev (fun k=>cJ.f k s) (ef s):=by
 simp only[cJ.f];have hl:=fb s;refine Ev.bind (mQ s (by omega)) ?_;exact mW (eL s) (by omega) (fun w hw=>by have:=iM s w hw;omega) (eL s).length 0 [] (by omega) (by simp)
open Classical in
noncomputable def iC (p:ByteArray × ByteArray) (id x:Int) (l:List S76):List S76:=
 if ∃e∈l,cE e=p then l.map (fun e=>if cE e=p then nc id x e else e) else l ++ [j7 p id x]
theorem nh {p:ByteArray × ByteArray} {id x:Int} {l:List S76} (h:∀e∈l,cE e≠p):l.map (fun e=>if cE e=p then nc id x e else e)=l:=by
 have:l.map (fun e=>if cE e=p then nc id x e else e)=l.map (fun e=>e):=List.map_congr_left (fun e he=>if_neg (h e he));rw[this,List.map_id']
def f5 (l:List S76):Prop:=l.Pairwise (fun a b=>ltP (cE a) (cE b))
theorem nv (p:ByteArray × ByteArray) (id x:Int):∀ {l:List S76},f5 l→(em p id x l).Perm (iC p id x l)
 | [],_=>by
  rw[em,iC,if_neg (by simp)];exact List.Perm.refl _
 | e :: l,h=>by
  obtain⟨h1,h2⟩:=List.pairwise_cons.1 h;have ih:=nv p id x h2;rw[em];split
  ·rename_i hlt
   have hne:cE e≠p:=fun he=>eN _ (by rw[← he] at hlt;exact hlt)
   have e2:iC p id x (e :: l)=e :: iC p id x l:=by
    unfold iC
    by_cases hc:∃y∈l,cE y=p
    ·rw[if_pos hc,if_pos (by obtain⟨y,hy,hk⟩:=hc;exact⟨y,List.mem_cons_of_mem _ hy,hk⟩),List.map_cons,if_neg hne]
    ·rw[if_neg hc,if_neg (fun ⟨y,hy,hk⟩=>by
      rcases List.mem_cons.1 hy with hy | hy
      ·exact hne (by rw[← hy];exact hk)
      ·exact hc ⟨y,hy,hk⟩)]
     rfl
   rw[e2];exact ih.cons _
  ·rename_i hlt
   split
   ·rename_i heq
    have hno:∀y∈l,cE y≠p:=fun y hy hk=>eN _ (by have:=h1 y hy;rw[heq,hk] at this;exact this)
    have e2:iC p id x (e :: l)=nc id x e :: l:=by
     unfold iC
     rw[if_pos ⟨e,by simp,heq⟩,List.map_cons,if_pos heq,nh hno]
    rw[e2]
   ·rename_i hne
    have hgt:ltP p (cE e):=by
     rcases gm (cE e) p with h | h | h
     ·exact absurd h hlt
     ·exact absurd h hne
     ·exact h
    have hno:∀y∈e :: l,cE y≠p:=fun y hy hk=>by
     rcases List.mem_cons.1 hy with hy | hy
     ·exact hne (by rw[← hy];exact hk)
     ·exact eN _ (by have:=fF hgt (h1 y hy);rw[hk] at this;exact this)
    have e2:iC p id x (e :: l)=(e :: l) ++ [j7 p id x]:=by
     unfold iC
     rw[if_neg (fun ⟨y,hy,hk⟩=>hno y hy hk)]
    rw[e2];exact(List.perm_append_singleton _ _).symm
theorem lN {p:ByteArray × ByteArray} {id x:Int} : ∀ {l:List S76} {y:S76},y∈em p id x l→cE y=p∨∃e∈l,cE y=cE e
 | [],y,h=>by
  rw[em,List.mem_singleton] at h;exact .inl (by rw[h];rfl)
 | e :: l,y,h=>by
  rw[em] at h;split at h
  ·rcases List.mem_cons.1 h with h | h
   ·exact .inr ⟨e,by simp,by rw[h]⟩
   ·rcases lN h with h | ⟨z,hz,h⟩
    ·exact .inl h
    ·exact .inr ⟨z,List.mem_cons_of_mem _ hz,h⟩
  ·split at h
   ·rcases List.mem_cons.1 h with h | h
    ·exact .inr ⟨e,by simp,by rw[h];rfl⟩
    ·exact .inr ⟨y,List.mem_cons_of_mem _ h,rfl⟩
   ·rcases List.mem_cons.1 h with h | h
    ·exact .inl (by rw[h];rfl)
    ·exact .inr ⟨y,h,rfl⟩
theorem ko (p:ByteArray × ByteArray) (id x:Int):∀ {l:List S76},f5 l→f5 (em p id x l)
 | [],_=>by rw[em];exact List.pairwise_singleton _ _
 | e :: l,h=>by
  obtain⟨h1,h2⟩:=List.pairwise_cons.1 h;rw[em];split
  ·rename_i hlt
   refine List.pairwise_cons.2 ⟨fun y hy=>?_,ko p id x h2⟩;rcases lN hy with hy | ⟨z,hz,hy⟩
   ·rw[hy];exact hlt
   ·rw[hy];exact h1 z hz
  ·rename_i hlt
   split
   ·exact List.pairwise_cons.2 ⟨h1,h2⟩
   ·rename_i hne
    have hgt:ltP p (cE e):=by
     rcases gm (cE e) p with h | h | h
     ·exact absurd h hlt
     ·exact absurd h hne
     ·exact h
    refine List.pairwise_cons.2 ⟨fun y hy=>?_,h⟩;rcases List.mem_cons.1 hy with hy | hy
    ·rw[hy];exact hgt
    ·exact fF hgt (h1 y hy)
theorem rA {p:ByteArray × ByteArray} {id x:Int} {l m:List S76} (h:l.Perm m):(iC p id x l).Perm (iC p id x m):=by
 unfold iC
 by_cases hc:∃e∈l,cE e=p
 ·rw[if_pos hc,if_pos (by obtain⟨e,he,hk⟩:=hc;exact⟨e,h.mem_iff.1 he,hk⟩)];exact h.map _
 ·rw[if_neg hc,if_neg (fun ⟨e,he,hk⟩=>hc ⟨e,h.mem_iff.2 he,hk⟩)];exact h.append_right _
theorem mr {p:ByteArray × ByteArray} {id x:Int} : ∀ {G:List ((ByteArray × ByteArray) × List S50)} {y:ByteArray × ByteArray},y∈(PFnIndexTerms.stepG G p id x).map (·.1)→y=p∨y∈G.map (·.1)
 | [],y,h=>by
  rw[PFnIndexTerms.stepG] at h;exact .inl (by simpa using h)
 | g :: G,y,h=>by
  rw[PFnIndexTerms.stepG] at h;split at h
  ·rename_i heq
   rw[List.map_cons] at h;rcases List.mem_cons.1 h with h | h
   ·exact .inl h
   ·exact .inr (by rw[List.map_cons];exact List.mem_cons_of_mem _ h)
  ·rw[List.map_cons] at h;rcases List.mem_cons.1 h with h | h
   ·exact .inr (by rw[List.map_cons,h];exact List.mem_cons_self ..)
   ·rcases mr h with h | h
    ·exact .inl h
    ·exact .inr (by rw[List.map_cons];exact List.mem_cons_of_mem _ h)
theorem ic {p:ByteArray × ByteArray} {id x:Int} : ∀ {G:List ((ByteArray × ByteArray) × List S50)},(G.map (·.1)).Nodup→((PFnIndexTerms.stepG G p id x).map (·.1)).Nodup
 | [],_=>by rw[PFnIndexTerms.stepG];simp
 | g :: G,hn=>by
  rw[List.map_cons,List.nodup_cons] at hn;rw[PFnIndexTerms.stepG];split
  ·rename_i heq
   rw[List.map_cons,List.nodup_cons];exact⟨by show p ∉ _;rw[← heq];exact hn.1,hn.2⟩
  ·rename_i hne
   rw[List.map_cons,List.nodup_cons];refine⟨fun h=>?_,ic hn.2⟩;rcases mr h with h | h
   ·exact hne h
   ·exact hn.1 h
theorem lW {p:ByteArray × ByteArray} {id x:Int} : ∀ {G:List ((ByteArray × ByteArray) × List S50)},(G.map (·.1)).Nodup→(PFnIndexTerms.stepG G p id x).map toE=iC p id x (G.map toE)
 | [],_=>by
  rw[PFnIndexTerms.stepG,iC,if_neg (by simp)];rfl
 | g :: G,hn=>by
  rw[List.map_cons,List.nodup_cons] at hn;have ih:=lW (p:=p) (id:=id) (x:=x) hn.2;have hkey:∀y:(ByteArray × ByteArray) × List S50,cE (toE y)=y.1:=fun y=>rfl
  rw[PFnIndexTerms.stepG];split
  ·rename_i heq
   have hno:∀y∈G.map toE,cE y≠p:=fun y hy hk=>by
    obtain⟨z,hz,rfl⟩:=List.mem_map.1 hy;rw[hkey] at hk;exact hn.1 (List.mem_map.2 ⟨z,hz,by rw[hk,heq]⟩)
   unfold iC
   rw[List.map_cons,List.map_cons,if_pos ⟨toE g,by simp,by rw[hkey];exact heq⟩,List.map_cons,if_pos (by rw[hkey];exact heq),nh hno];subst heq;rfl
  ·rename_i hne
   rw[List.map_cons,ih,List.map_cons];unfold iC
   by_cases hc:∃y∈G.map toE,cE y=p
   ·rw[if_pos hc,if_pos (by obtain⟨y,hy,hk⟩:=hc;exact⟨y,List.mem_cons_of_mem _ hy,hk⟩),List.map_cons,if_neg (by rw[hkey];exact hne)]
   ·rw[if_neg hc,if_neg (fun ⟨y,hy,hk⟩=>by
     rcases List.mem_cons.1 hy with hy | hy
     ·rw[hy,hkey] at hk;exact hne hk
     ·exact hc ⟨y,hy,hk⟩)]
    rfl
theorem lO (G:List ((ByteArray × ByteArray) × List S50)):(G.map toE).map cE=G.map (·.1):=by
 rw[List.map_map];rfl
theorem rm {G:List ((ByteArray × ByteArray) × List S50)} (hn:(G.map (·.1)).Nodup) (p:ByteArray × ByteArray) (id x:Int):dP ((PFnIndexTerms.stepG G p id x).map toE)=em p id x (dP (G.map toE)):=by
 have hs:f5 (dP (G.map toE)):=fa _ (by rw[lO];exact hn);refine ke ?_ (fa _ (by rw[lO];exact ic hn)) (ko p id x hs);refine(fP _).trans ?_;rw[lW hn];exact(rA (fP _).symm).trans (nv p id x hs).symm
theorem iX (id:Int) (name:ByteArray):∀(ts:List ByteArray) (x:Int) (G:List ((ByteArray × ByteArray) × List S50)),(G.map (·.1)).Nodup →
  iF id name ts x (dP (G.map toE))=dP ((gf id name ts x G).map toE)∧((gf id name ts x G).map (·.1)).Nodup
 | [],_,G,hn=>⟨rfl,hn⟩
 | t :: ts,x,G,hn=>by
  rw[iF,gf];by_cases ht:t.size=0
  ·rw[if_pos ht,if_pos ht];exact iX id name ts (x+1) G hn
  ·rw[if_neg ht,if_neg ht,← rm hn];exact iX id name ts (x+1) _ (ic hn)
theorem rR (w:ByteArray):(noS w).size≤w.size:=by
 unfold noS
 split
 ·rw[extract_size w _ (by omega)];omega
 ·exact Nat.le_refl _
theorem pi (w:ByteArray):(eP w).size≤w.size:=by
 unfold eP
 split
 ·exact Nat.zero_le _
 ·exact Nat.le_refl _
theorem jl (s:ByteArray):(dR s).size≤12:=by
 have h1:=pi (noS (eV (dn s)));have h2:=rR (eV (dn s));have h3:=mz (dn s);unfold dR;omega
theorem oz (s:ByteArray):((ef s).all fun t=>decide (t.size≤1000000))=true:=by
 rw[List.all_eq_true];intro t ht;obtain⟨w,_,rfl⟩:=List.mem_map.1 ht;have:=jl w.f0;exact decide_eq_true (by omega)
set_option maxRecDepth 20000 in
theorem il (F:List S92) (hF:F.length≤1048576) (id:Int):∀(cs:List S86) (G:List ((ByteArray × ByteArray) × List S50)) (n:Nat),(G.map (·.1)).Nodup→d7 n (dP (G.map toE))→(∀x∈cs,x.f0.size≤1000000∧x.f1.size≤1000)→n+cs.length*1000≤1000000 →
  ∃(G':List ((ByteArray × ByteArray) × List S50)) (n':Nat),Ev (fun k=>entriesW.cs k F id cs (G,n)) (G',n')∧Ev (fun k=>ca.cs k F id cs (dP (G.map toE))) (dP (G'.map toE))∧(G'.map (·.1)).Nodup∧d7 n' (dP (G'.map toE))∧n'≤n+cs.length*1000
 | [],G,n,hn,hg,_,_=>⟨G,n,fH (fun k=>rfl),fH (fun k=>rfl),hn,hg,by omega⟩
 | c :: cs,G,n,hn,hg,hs,hc=>by
  rw[List.length_cons] at hc;have hsc:=hs c (by simp);have hst:=fun x hx=>hs x (List.mem_cons_of_mem _ hx)
  simp only[entriesW.cs,ca.cs];have hf:=gK c.f0 F (by omega);have hk:=gJ F hF c.f0;by_cases h1:ee F c.f0=1
  ·have hlen:(ef c.f1).length≤1000:=by rw[iE];have:=fb c.f1;omega
   obtain⟨hw1,hw2⟩:=eu id c.f0 (ef c.f1) 0 (dP (G.map toE)) n hg (by omega);obtain⟨hf1,hf2⟩:=iX id c.f0 (ef c.f1) 0 G hn;rw[hf1] at hw1 hw2;obtain⟨G',n',e1,e2,e3,e4,e5⟩:=il F hF id cs (gf id c.f0 (ef c.f1) 0 G) (n+(ef c.f1).length) hf2 hw2 hst (by omega);refine⟨G',n',?_,?_,e3,e4,by rw[List.length_cons];omega⟩
   ·refine Ev.bind hf ?_;have h1':(ey c.f0 F).2.1=1:=h1;simp only[if_pos h1'];refine Ev.bind (mR c.f1 (by omega)) ?_;have hcond:n+(ef c.f1).length≤1000000∧c.f0.size≤1000000∧((ef c.f1).all fun t=>decide (t.size≤1000000))=true:=⟨by omega,by omega,oz _⟩;simp only[if_pos hcond];exact e1
   ·refine Ev.bind hk ?_;simp only[h1,beq_self_eq_true,if_true];refine Ev.bind (iI c.f1 (by omega)) ?_;exact Ev.bind hw1 e2
  ·obtain⟨G',n',e1,e2,e3,e4,e5⟩:=il F hF id cs G n hn hg hst (by omega);refine⟨G',n',?_,?_,e3,e4,by rw[List.length_cons];omega⟩
   ·refine Ev.bind hf ?_;have h1':¬(ey c.f0 F).2.1=1:=h1;simp only[if_neg h1'];exact e1
   ·refine Ev.bind hk ?_;rw[beq_eq_false_iff_ne.2 h1];simp only[if_neg (show ¬(false=true) by decide)];exact e2
set_option maxRecDepth 20000 in
theorem ng (F:List S92) (hF:F.length≤1048576):∀(rs:List S46) (G:List ((ByteArray × ByteArray) × List S50)) (n:Nat),(G.map (·.1)).Nodup→d7 n (dP (G.map toE))→(∀r∈rs,r.f1.f1.length≤4∧∀x∈r.f1.f1,x.f0.size≤1000000∧x.f1.size≤1000)→n+rs.length*4000≤1000000 →
  ∃(G':List ((ByteArray × ByteArray) × List S50)) (n':Nat),Ev (fun k=>entriesW.rs k F rs (G,n)) (G',n')∧Ev (fun k=>bn.rs k F rs (dP (G.map toE))) (dP (G'.map toE))∧d7 n' (dP (G'.map toE))∧n'≤n+rs.length*4000
 | [],G,n,hn,hg,_,_=>⟨G,n,fH (fun k=>rfl),fH (fun k=>rfl),hg,by omega⟩
 | r :: rs,G,n,hn,hg,hs,hc=>by
  rw[List.length_cons] at hc;have hsr:=hs r (by simp);obtain⟨G1,n1,e1,e2,e3,e4,e5⟩:=il F hF r.f0 r.f1.f1 G n hn hg hsr.2 (by omega);obtain⟨G2,n2,d1,d2,d4,d5⟩:=ng F hF rs G1 n1 e3 e4 (fun x hx=>hs x (List.mem_cons_of_mem _ hx)) (by omega);refine⟨G2,n2,?_,?_,d4,by rw[List.length_cons];omega⟩
  ·simp only[entriesW.rs];exact Ev.bind e1 d1
  ·simp only[bn.rs];exact Ev.bind e2 d2
theorem mi (F:List S92) (hF:F.length≤1048576) (rs:List S46) (hs:∀r∈rs,r.f1.f1.length≤4∧∀x∈r.f1.f1,x.f0.size≤1000000∧x.f1.size≤1000) (hc:rs.length≤8) :
  ∃L:List S76,Ev (fun k=>dO.f k F rs) L∧Ev (fun k=>bn.f k F rs) L∧d7 32000 L:=by
 have hg:d7 0 (dP (([] : List ((ByteArray × ByteArray) × List S50)).map toE)):=⟨Nat.le_refl _,fun e he=>by cases he⟩;obtain⟨G,n,e1,e2,e3,e4⟩:=ng F hF rs [] 0 List.nodup_nil hg hs (by omega);refine⟨dP (G.map toE),?_,?_,dG e3 (by omega)⟩
 ·simp only[dO.f,entriesW.f];exact Ev.bind e1 (Ev.now _)
 ·simp only[bn.f];exact e2
def iR (F:List S92) (R:List S46) (E:List S76) (n:Int):Prop:=
 fu F=true∧R.length≤8∧(0≤n∧n≤999999999)∧Ev (fun k=>bn.f k F R) E
def pz (F:List S92) (R:List S46) (n:Int) (i:Nat) (h:i<R.length):Prop:=
 g5 F R[i].f1.f0 R[i].f1.f1=true∧eh R[i].f1.f0 0 R=(i:Int)∧(0≤R[i].f0∧R[i].f0≤wrap64 (n - 1))∧∀h0:0<i,(R[i - 1]'(by omega)).f0<R[i].f0
open Classical in
theorem ly {key:ByteArray} {l:List S86} (h:kt key l=true):(∀c∈l,eW (ao c.f0)=true∧eD c.f1 60=true)∧eW (ao key)=true∧l.length≤4:=by
 unfold kt at h
 have h1:=decide_eq_true_iff.1 h;refine⟨fun c hc=>?_,h1.2⟩;obtain⟨i,hi,rfl⟩:=List.mem_iff_getElem.1 hc;have h2:=h1.1 i hi (Nat.zero_le _);exact⟨h2.1,h2.2.1⟩
open Classical in
theorem pQ {s:ByteArray} {m:Int} (h:eD s m=true):(s.size:Int)≤m:=by
 unfold eD at h
 exact(decide_eq_true_iff.1 h).2
def dy (F:List S92) (R:List S46) (n:Int) (i:Nat):Prop:=∀(j:Nat) (h:j<R.length),i≤j→pz F R n j h
open Classical in
theorem ik {F:List S92} {R:List S46} {n:Int} (h:dy F R n 0):∀r∈R,r.f1.f1.length≤4∧∀x∈r.f1.f1,x.f0.size≤1000000∧x.f1.size≤1000:=by
 intro r hr;obtain⟨i,hi,rfl⟩:=List.mem_iff_getElem.1 hr;have h1:=(h i hi (Nat.zero_le _)).1;have hp:kc F R[i].f1.f0 R[i].f1.f1:=by unfold g5 at h1;exact of_decide_eq_true h1
 have hf:=ly hp.2.1;refine⟨hf.2.2,fun x hx=>?_⟩;have h2:=hf.1 x hx;have h3:=pQ h2.2;have h4:=(gl.1 h2.1).2.2;rw[bM] at h4;exact⟨by omega,by omega⟩
theorem ec {F:List S92} {R:List S46} {n:Int} {i:Nat} (h:i<R.length):dy F R n i↔pz F R n i h∧dy F R n (i+1):=by
 constructor
 ·intro h2;exact⟨h2 i h (Nat.le_refl _),fun j hj hij=>h2 j hj (by omega)⟩
 ·rintro ⟨h1,h2⟩ j hj hij;rcases Nat.lt_or_ge i j with hlt | hge
  ·exact h2 j hj hlt
  ·obtain rfl:i=j:=by omega
   exact h1
theorem cD {α : Type} {a b:List α} {j:Nat} (ha:j<a.length) (hb:j<b.length):a.drop j=b.drop j↔a[j] = b[j] ∧ a.drop (j+1)=b.drop (j+1):=by
 rw[List.drop_eq_getElem_cons ha,List.drop_eq_getElem_cons hb,List.cons.injEq]
theorem l7 {p q:S76} : p=q↔p.f0=q.f0∧p.f1=q.f1∧p.f2=q.f2:=by
 constructor
 ·intro h;rw[h];exact⟨rfl,rfl,rfl⟩
 ·obtain⟨a,b,e⟩:=p;obtain⟨c,d,f⟩:=q;rintro ⟨h1,h2,h3⟩;have h1':a=c:=h1;have h2':b=d:=h2;have h3':e=f:=h3;rw[h1',h2',h3']
open Classical in
theorem re (a b:List Int) (ha:a.length≤1099511627776):Ev (fun k=>aZ.f k a b) (decide (a=b)):=by
 simp only[aZ.f];by_cases hl:a.length=b.length
 ·simp only[if_pos (show (a.length:Int)=(b.length:Int) by omega)];have main:∀(d i:Nat),i+d=a.length→Ev (fun k=>aZ.l0 k a b (a.length:Int) (i:Int)) (decide (a.drop i=b.drop i)):=by
   intro d;induction d with
   | zero=>
    intro i hi;refine Ev.step (fun k=>aZ.l0.eq_2 _ _ _ _ _) ?_;simp only[if_neg (show ¬((i:Int)<(a.length:Int)) by omega)];rw[List.drop_eq_nil_of_le (by omega),List.drop_eq_nil_of_le (by omega)];exact eI rfl (Ev.now _)
   | succ d ih=>
    intro i hi;have hia:i<a.length:=by omega
    have hib:i<b.length:=by omega
    refine Ev.step (fun k=>aZ.l0.eq_2 _ _ _ _ _) ?_;simp only[if_pos (show ((i:Int)<(a.length:Int)) by omega),if_pos (show (0:Int)≤(i:Int) by omega),if_pos (show ((i:Int)<(b.length:Int)) by omega),j5 a i hia,j5 b i hib,cn i (by omega)];by_cases h:a[i] = b[i]
    ·simp only[if_pos h];exact db ⟨fun h2=>(cD hia hib).2 ⟨h,h2⟩,fun h2=>((cD hia hib).1 h2).2⟩ (ih (i+1) (by omega))
    ·simp only[if_neg h];exact bv (fun h2=>h ((cD hia hib).1 h2).1) (Ev.now _)
  have:=main a.length 0 (by omega);simpa using this
 ·simp only[if_neg (show ¬(a.length:Int)=(b.length:Int) by omega)];exact bv (fun h=>hl (by rw[h])) (Ev.now _)
theorem oC {p q:S50} : p=q↔p.f0=q.f0∧p.f1=q.f1:=by
 constructor
 ·intro h;rw[h];exact⟨rfl,rfl⟩
 ·obtain⟨a,b⟩:=p;obtain⟨c,d⟩:=q;rintro ⟨h1,h2⟩;have h1':a=c:=h1;have h2':b=d:=h2;rw[h1',h2']
open Classical in
theorem jW (p q:S50) (hp:p.f1.length≤1099511627776):Ev (fun k=>dA.f k p.f0 p.f1 q.f0 q.f1) (decide (p=q)):=by
 simp only[dA.f];by_cases h0:p.f0=q.f0
 ·simp only[if_pos h0];refine Ev.bind (re p.f1 q.f1 hp) ?_;exact db ⟨fun h=>oC.2 ⟨h0,h⟩,fun h=>(oC.1 h).2⟩ (Ev.now (decide (p.f1=q.f1)))
 ·simp only[if_neg h0];exact bv (fun h=>h0 (by rw[h])) (Ev.now _)
theorem lB (l:List S50) (j:Nat) (h:j<l.length):aT l (j:Int)=l[j]:=by
 unfold aT;simp[List.getD_eq_getElem?_getD,List.getElem?_eq_getElem h]
open Classical in
theorem oA (a b:List S50) (ha:a.length≤1099511627776) (hs:∀p∈a,p.f1.length≤1099511627776):Ev (fun k=>di.f k a b) (decide (a=b)):=by
 simp only[di.f];by_cases hl:a.length=b.length
 ·simp only[if_pos (show (a.length:Int)=(b.length:Int) by omega)];have main:∀(d i:Nat),i+d=a.length→Ev (fun k=>di.l0 k b a (a.length:Int) (i:Int)) (decide (a.drop i=b.drop i)):=by
   intro d;induction d with
   | zero=>
    intro i hi;refine Ev.step (fun k=>di.l0.eq_2 _ _ _ _ _) ?_;simp only[if_neg (show ¬((i:Int)<(a.length:Int)) by omega)];rw[List.drop_eq_nil_of_le (by omega),List.drop_eq_nil_of_le (by omega)];exact eI rfl (Ev.now _)
   | succ d ih=>
    intro i hi;have hia:i<a.length:=by omega
    have hib:i<b.length:=by omega
    refine Ev.step (fun k=>di.l0.eq_2 _ _ _ _ _) ?_;simp only[if_pos (show ((i:Int)<(a.length:Int)) by omega),if_pos (show (0:Int)≤(i:Int) by omega),if_pos (show ((i:Int)<(b.length:Int)) by omega),lB a i hia,lB b i hib,cn i (by omega)];refine Ev.bind (jW a[i] b[i] (hs _ (List.getElem_mem hia))) ?_;by_cases h:a[i] = b[i]
    ·rw[decide_eq_true h];simp only[if_true];exact db ⟨fun h2=>(cD hia hib).2 ⟨h,h2⟩,fun h2=>((cD hia hib).1 h2).2⟩ (ih (i+1) (by omega))
    ·rw[decide_eq_false h];simp only[if_neg (show ¬(false=true) by decide)];exact bv (fun h2=>h ((cD hia hib).1 h2).1) (Ev.now _)
  have:=main a.length 0 (by omega);simpa using this
 ·simp only[if_neg (show ¬(a.length:Int)=(b.length:Int) by omega)];exact bv (fun h=>hl (by rw[h])) (Ev.now _)
open Classical in
theorem jz (p q:S76) (hp:p.f2.length≤1099511627776) (hs:∀x∈p.f2,x.f1.length≤1099511627776):Ev (fun k=>dr.f k p.f0 p.f1 p.f2 q.f0 q.f1 q.f2) (decide (p=q)):=by
 simp only[dr.f,toList_inj];by_cases h0:p.f0=q.f0
 ·simp only[if_pos h0];by_cases h1:p.f1=q.f1
  ·simp only[if_pos h1];refine Ev.bind (oA p.f2 q.f2 hp hs) ?_;exact db ⟨fun h=>l7.2 ⟨h0,h1,h⟩,fun h=>(l7.1 h).2.2⟩ (Ev.now (decide (p.f2=q.f2)))
  ·simp only[if_neg h1];exact bv (fun h=>h1 (by rw[h])) (Ev.now _)
 ·simp only[if_neg h0];exact bv (fun h=>h0 (by rw[h])) (Ev.now _)
open Classical in
theorem mL (a b:List S76) (ha:a.length≤1099511627776) (hs:∀e∈a,e.f2.length≤1099511627776∧∀p∈e.f2,p.f1.length≤1099511627776):Ev (fun k=>cT.f k a b) (decide (a=b)):=by
 simp only[cT.f];by_cases hl:a.length=b.length
 ·simp only[if_pos (show (a.length:Int)=(b.length:Int) by omega)];have main:∀(d i:Nat),i+d=a.length→Ev (fun k=>cT.l0 k b a (a.length:Int) (i:Int)) (decide (a.drop i=b.drop i)):=by
   intro d;induction d with
   | zero=>
    intro i hi;refine Ev.step (fun k=>cT.l0.eq_2 _ _ _ _ _) ?_;simp only[if_neg (show ¬((i:Int)<(a.length:Int)) by omega)];rw[List.drop_eq_nil_of_le (by omega),List.drop_eq_nil_of_le (by omega)];exact eI rfl (Ev.now _)
   | succ d ih=>
    intro i hi;have hia:i<a.length:=by omega
    have hib:i<b.length:=by omega
    have hx:=hs _ (List.getElem_mem hia);refine Ev.step (fun k=>cT.l0.eq_2 _ _ _ _ _) ?_;simp only[if_pos (show ((i:Int)<(a.length:Int)) by omega),if_pos (show (0:Int)≤(i:Int) by omega),if_pos (show ((i:Int)<(b.length:Int)) by omega),fE a i hia,fE b i hib,cn i (by omega)];refine Ev.bind (jz a[i] b[i] hx.1 hx.2) ?_;by_cases h:a[i] = b[i]
    ·rw[decide_eq_true h];simp only[if_true];exact db ⟨fun h2=>(cD hia hib).2 ⟨h,h2⟩,fun h2=>((cD hia hib).1 h2).2⟩ (ih (i+1) (by omega))
    ·rw[decide_eq_false h];simp only[if_neg (show ¬(false=true) by decide)];exact bv (fun h2=>h ((cD hia hib).1 h2).1) (Ev.now _)
  have:=main a.length 0 (by omega);simpa using this
 ·simp only[if_neg (show ¬(a.length:Int)=(b.length:Int) by omega)];exact bv (fun h=>hl (by rw[h])) (Ev.now _)
open Classical in
theorem kM {F:List S92} {R:List S46} {E:List S76} (hz:fo F R E) (n:Int) (hf:fu F=true) (h8:R.length≤8) (hn:0≤n∧n≤999999999):∀(d i:Nat),i+d=R.length→(∀(j:Nat) (h:j<R.length),j<i→pz F R n j h)→Ev (fun k=>aq.l0 k R (R.length:Int) (i:Int) F R E n) (decide (dy F R n i∧iR F R E n)):=by
 have hr:=hz.r;intro d;induction d with
 | zero=>
  intro i hi hprev;have hall:dy F R n 0:=fun j hj _=>hprev j hj (by omega)
  have hend:dy F R n i:=fun j hj hij=>by omega
  refine Ev.step (fun k=>aq.l0.eq_2 _ _ _ _ _ _ _ _) ?_;simp only[if_neg (show ¬((i:Int)<(R.length:Int)) by omega)];obtain⟨L,h1,h2,h3⟩:=mi F hz.f R (ik hall) h8;refine Ev.bind h1 ?_;refine Ev.bind (mL E L (by have:=hz.e;omega) (fun e he=>⟨by have:=(hz.es e he).1;omega,fun p hp=>by have:=(hz.es e he).2 p hp;omega⟩)) ?_;exact db ⟨fun h=>⟨hend,hf,h8,hn,by rw[h];exact h2⟩,fun h=>iz h.2.2.2.2 h2⟩ (Ev.now (decide (E=L)))
 | succ d ih=>
  intro i hi hprev;have hil:i<R.length:=by omega
  have hs:=hz.rs _ (List.getElem_mem hil);have next:pz F R n i hil→Ev (fun k=>aq.l0 k R (R.length:Int) ((i+1:Nat):Int) F R E n) (decide (dy F R n i∧iR F R E n)):=fun hp=>
   db ⟨fun h=>⟨(ec hil).2 ⟨hp,h.1⟩,h.2⟩,fun h=>⟨((ec hil).1 h.1).2,h.2⟩⟩ (ih (i+1) (by omega) (fun j hj hji=>by
    rcases Nat.lt_or_ge j i with hlt | hge
    ·exact hprev j hj hlt
    ·obtain rfl:j=i:=by omega
     exact hp))
  have stop:¬pz F R n i hil→Ev (fun _:Nat=>some false) (decide (dy F R n i∧iR F R E n)):=fun hp=>bv (fun h=>hp ((ec hil).1 h.1).1) (Ev.now _)
  have doc:(0≤R[i].f0∧R[i].f0≤wrap64 (n - 1))→(∀h0:0<i,(R[i - 1]'(by omega)).f0<R[i].f0)→Ev (fun k=>(bi.f k F R[i].f1.f0 R[i].f1.f1).bind fun t=>if t=true then(de.f F R E n R[i].f1.f0).bind fun t2=>if t2=(i:Int) then aq.l0 k R (R.length:Int) ((i+1:Nat):Int) F R E n else some false else some false) (decide (dy F R n i∧iR F R E n)):=by
   intro hin ho;refine Ev.bind (m4 F hz.f hz.fs R[i].f1.f0 R[i].f1.f1 hs.1 hs.2.1 hs.2.2) ?_;cases hd:g5 F R[i].f1.f0 R[i].f1.f1 with
   | false=>simp only[if_neg (show ¬(false=true) by decide)];exact stop (fun h=>by have:=h.1;rw[hd] at this;cases this)
   | true=>
    simp only[if_true,de.f,Option.bind_some];by_cases hk:eh R[i].f1.f0 0 R=(i:Int)
    ·simp only[if_pos hk];exact next ⟨hd,hk,hin,ho⟩
    ·simp only[if_neg hk];exact stop (fun h=>hk h.2.1)
  refine Ev.step (fun k=>aq.l0.eq_2 _ _ _ _ _ _ _ _) ?_;simp only[if_pos (show ((i:Int)<(R.length:Int)) by omega),if_pos (show (0:Int)≤(i:Int) by omega),fX R i hil,cn i (by omega),dD,Option.bind_some];by_cases hin:0≤R[i].f0∧R[i].f0≤wrap64 (n - 1)
  ·simp only[decide_eq_true hin,if_true];by_cases h0:0<i
   ·obtain⟨m,rfl⟩:∃m,i=m+1:=⟨i - 1,by omega⟩;simp only[if_pos (show ((m+1:Nat):Int)>0 by omega),pE m (by omega),if_pos (show (0:Int)≤(m:Int) by omega),if_pos (show ((m:Int)<(R.length:Int)) by omega),fX R m (by omega)];by_cases ho:R[m].f0≥R[m+1].f0
    ·simp only[if_pos ho];exact stop (fun h=>by have h2:R[m].f0<R[m+1].f0:=h.2.2.2 h0;omega)
    ·simp only[if_neg ho];exact doc hin (fun _=>by show R[m].f0<R[m+1].f0;omega)
   ·simp only[if_neg (show ¬((i:Int)>0) by omega)];exact doc hin (fun h=>absurd h h0)
  ·simp only[decide_eq_false hin,if_neg (show ¬(false=true) by decide)];exact stop (fun h=>hin h.2.2.1)
open Classical in
noncomputable def eQ (F:List S92) (R:List S46) (E:List S76) (n:Int):Bool:=decide (dy F R n 0∧iR F R E n)
open Classical in
theorem gP {F:List S92} {R:List S46} {E:List S76} (hz:fo F R E) (n:Int):Ev (fun k=>aq.f k F R E n) (eQ F R E n):=by
 have hr:=hz.r;simp only[aq.f,eQ];have stop:¬iR F R E n→Ev (fun k=>aq.j0 k true F R E n) (decide (dy F R n 0∧iR F R E n)):=by
  intro h;refine Ev.step (fun k=>aq.j0.eq_2 _ _ _ _ _ _) ?_;simp only[if_true];exact bv (fun h2=>h h2.2) (Ev.now _)
 refine Ev.bind (gq F (by have:=hz.f;omega) hz.fs) ?_;cases hf:fu F with
 | false=>simp only[if_neg (show ¬(false=true) by decide)];exact stop (fun h=>by have:=h.1;rw[hf] at this;cases this)
 | true=>
  simp only[if_true];by_cases h8:R.length≤8
  ·simp only[if_neg (show ¬((R.length:Int)>8) by omega),dD,Option.bind_some];by_cases hn:0≤n∧n≤999999999
   ·simp only[decide_eq_true hn,Bool.not_true];refine Ev.step (fun k=>aq.j0.eq_2 _ _ _ _ _ _) ?_;simp only[if_neg (show ¬(false=true) by decide)];exact kM hz n hf h8 hn R.length 0 (by omega) (fun j hj h=>by omega)
   ·simp only[decide_eq_false hn,Bool.not_false];exact stop (fun h=>hn h.2.2.1)
  ·simp only[if_pos (show ((R.length:Int)>8) by omega)];exact stop (fun h=>h8 h.2.1)
theorem ji (f t:ByteArray) (E:List S76) (n i0:Int) (ps:List S50) (r:List S50) (hp:∀p∈ps,p.f1.length≤1048576) (hn:ps.length≤1048576):∀(d i:Nat) (acc:List S50),i+d=ps.length→acc.length+d≤4398046511103 →
  Ev (fun k=>am.l0 k f t (acc ++ ps.drop i) E n (wrap64 (i0+1))) r→Ev (fun k=>am.l1 k f t acc E n i0 ps (ps.length:Int) (i:Int)) r:=by
 intro d;induction d with
 | zero=>
  intro i acc hi ha h;refine Ev.step (fun k=>am.l1.eq_2 _ _ _ _ _ _ _ _ _ _) ?_;simp only[if_neg (show ¬((i:Int)<(ps.length:Int)) by omega)];rwa [List.drop_of_length_le (by omega),List.append_nil] at h
 | succ d ih=>
  intro i acc hi ha h;have hl:i<ps.length:=by omega
  have h1:=hp ps[i] (List.getElem_mem hl);refine Ev.step (fun k=>am.l1.eq_2 _ _ _ _ _ _ _ _ _ _) ?_;rw[List.drop_eq_getElem_cons hl] at h;simp only[if_pos (show ((i:Int)<(ps.length:Int)) by omega),if_pos (show 0≤(i:Int) by omega),lB ps i hl,Option.bind_some,List.length_nil,Nat.zero_add,List.nil_append,if_pos (show ps[i].f1.length<17592186044416 by omega),if_pos (show acc.length<4398046511104 by omega),cn i (by omega)];refine ih (i+1) (acc ++ [⟨ps[i].f0,ps[i].f1⟩]) (by omega) (by simp;omega) ?_;rw[List.append_assoc];exact h
def gM (f t:ByteArray):List S76→List S50
 | []=>[]
 | e :: l=>if e.f0.toList=f.toList then(if e.f1.toList=t.toList then e.f2 ++ gM f t l else gM f t l) else gM f t l
theorem i8 (E:List S76) (f t:ByteArray) (hE:E.length≤1048576) (he:∀x∈E,x.f2.length≤1048576∧∀p∈x.f2,p.f1.length≤1048576):∀(d i:Nat) (acc:List S50),i+d=E.length→acc.length≤i*1048576→Ev (fun k=>am.l0 k f t acc E (E.length:Int) (i:Int)) (acc ++ gM f t (E.drop i)):=by
 intro d;induction d with
 | zero=>
  intro i acc hi ha;refine Ev.step (fun k=>am.l0.eq_2 _ _ _ _ _ _ _) ?_;simp only[if_neg (show ¬((i:Int)<(E.length:Int)) by omega)];rw[List.drop_of_length_le (by omega),gM,List.append_nil];exact Ev.now _
 | succ d ih=>
  intro i acc hi ha;have hl:i<E.length:=by omega
  have h0:=he E[i] (List.getElem_mem hl);refine Ev.step (fun k=>am.l0.eq_2 _ _ _ _ _ _ _) ?_;rw[List.drop_eq_getElem_cons hl,gM];simp only[if_pos (show ((i:Int)<(E.length:Int)) by omega),if_pos (show 0≤(i:Int) by omega),fE E i hl];have skip:Ev (fun k=>am.j1 k f t acc E (E.length:Int) (i:Int) true E[i].f0 E[i].f1 E[i].f2) (acc ++ gM f t (E.drop (i+1))):=by
   refine Ev.step (fun k=>am.j1.eq_2 _ _ _ _ _ _ _ _ _ _ _) ?_;simp only[if_true,cn i (by omega)];exact ih (i+1) acc (by omega) (Nat.le_trans ha (Nat.mul_le_mul_right _ (Nat.le_succ i)))
  by_cases h1:E[i].f0.toList=f.toList
  ·simp only[if_pos h1];by_cases h2:E[i].f1.toList=t.toList
   ·simp only[if_pos h2];have e:(E[i].f1.toList != t.toList)=false:=by rw[h2];exact bne_self_eq_false _
    simp only[e];refine Ev.step (fun k=>am.j1.eq_2 _ _ _ _ _ _ _ _ _ _ _) ?_;simp only[if_neg (show ¬(false=true) by decide)];refine ji f t E (E.length:Int) (i:Int) E[i].f2 _ h0.2 h0.1 E[i].f2.length 0 acc (by omega) (by omega) ?_;rw[cn i (by omega),List.drop_zero,← List.append_assoc];exact ih (i+1) (acc ++ E[i].f2) (by omega) (by rw[List.length_append,Nat.succ_mul];exact Nat.add_le_add ha h0.1)
   ·simp only[if_neg h2];have e:(E[i].f1.toList != t.toList)=true:=bne_iff_ne.2 h2;simp only[e];exact skip
  ·simp only[if_neg h1];exact skip
noncomputable def jr (F:List S92) (R:List S46) (E:List S76) (n:Int) (f t:ByteArray):List S50:=if eQ F R E n=true then gM f t E else[]
theorem iS {F:List S92} {R:List S46} {E:List S76} (hz:fo F R E) (n:Int) (f t:ByteArray):Ev (fun k=>am.f k F R E n f t) (jr F R E n f t):=by
 have he:=hz.e;simp only[am.f,Option.bind_some];refine Ev.bind (gP hz n) ?_;unfold jr
 by_cases hb:eQ F R E n=true
 ·simp only[if_pos hb];exact i8 E f t he hz.es E.length 0 [] (by omega) (by simp)
 ·simp only[if_neg hb];exact Ev.now _
def oneP (s:ByteArray):Prop:=(∀c∈ao s,dV c)∧s.size≠0
open Classical in
noncomputable def gH (s:ByteArray):Bool:=decide (oneP s∧dR s=s)
structure sG (F:List S92) (R:List S46) (E:List S76) (n:Int) (f:ByteArray) (A:List ByteArray):Prop where
 len:A.length≤1048576
 up:∀(i:Nat) (h:i+1<A.length),A[i].toList<A[i+1].toList
 ok:∀a∈A,gH a=true∧a.size≤12
 ne:∀a∈A,jr F R E n f a ≠ []
theorem rK (a b:ByteArray) (h:a=b):(a.toList == b.toList)=true:=by rw[h];exact beq_self_eq_true _
theorem rj (a b:ByteArray) (h:a≠b):(a.toList == b.toList)=false:=by
 rw[beq_eq_false_iff_ne];exact fun h2=>h (toList_inj.1 h2)
open Classical in
theorem mv (s:ByteArray) (hs:s.size<70368744177664):∀(d i:Nat),i+d=s.size→Ev (fun k=>cm.l0 k s (s.size:Int) (i:Int)) (decide ((∀c∈(ao s).drop i,dV c)∧s.size≠0)):=by
 have hlen:=bM s;intro d;induction d with
 | zero=>
  intro i hi;refine Ev.step (fun k=>cm.l0.eq_2 _ _ _ _) ?_;simp only[if_neg (show ¬((i:Int)<(s.size:Int)) by omega)];rw[List.drop_eq_nil_of_le (by omega)];have e:(s.toList != ([] : List UInt8))=decide ((∀c∈([] : List Int),dV c)∧s.size≠0):=by
   rw[g8];by_cases h:s.size=0
   ·have:s.data.toList = []:=by
     apply List.length_eq_zero_iff.1
     have:s.data.toList.length=s.size:=rfl;omega
    rw[this,decide_eq_false (fun h2=>h2.2 h)];rfl
   ·have:s.data.toList ≠ []:=by
     intro h2;have h3:s.data.toList.length=s.size:=rfl;rw[h2] at h3;exact h h3.symm
    rw[decide_eq_true ⟨fun c hc=>by simp at hc,h⟩];exact bne_iff_ne.2 this
  rw[e];exact Ev.now _
 | succ d ih=>
  intro i hi;refine Ev.step (fun k=>cm.l0.eq_2 _ _ _ _) ?_;simp only[if_pos (show ((i:Int)<(s.size:Int)) by omega),if_pos (show 0≤(i:Int) by omega),ga s i (by omega),gt,Option.bind_some,decide_eq_true_eq,cn i (by omega)];have e:=List.drop_eq_getElem_cons (l:=ao s) (i:=i) (by omega);by_cases hw:dV (ao s)[i]
  ·simp only[if_pos hw];refine cV ?_ (ih (i+1) (by omega));rw[e];constructor
   ·rintro ⟨h1,h2⟩;exact⟨fun c hc=>by rcases List.mem_cons.1 hc with h | h;exact h ▸ hw;exact h1 c h,h2⟩
   ·rintro ⟨h1,h2⟩;exact⟨fun c hc=>h1 c (List.mem_cons_of_mem _ hc),h2⟩
  ·simp only[if_neg hw];refine cZ (fun h=>hw (h.1 _ ?_)) (Ev.now _);rw[e];exact List.mem_cons_self ..
open Classical in
theorem lH (s:ByteArray) (hs:s.size<70368744177664):Ev (fun k=>cm.f k s) (decide (oneP s)):=by
 simp only[cm.f];refine cV ?_ (mv s hs s.size 0 (by omega));unfold oneP
 rw[List.drop_zero]
open Classical in
theorem ll (s:ByteArray) (hs:s.size<70368744177664):Ev (fun k=>da.f k s) (gH s):=by
 simp only[da.f,gH];refine Ev.bind (lH s hs) ?_;by_cases h:oneP s
 ·simp only[decide_eq_true h,if_true];refine Ev.bind (jp s hs) ?_;by_cases h2:dR s=s
  ·rw[rK _ _ h2,decide_eq_true ⟨h,h2⟩];exact Ev.now _
  ·rw[rj _ _ h2,decide_eq_false (fun h3=>h2 h3.2)];exact Ev.now _
 ·simp only[decide_eq_false h,if_neg (show ¬(false=true) by decide)];exact cZ (fun h3=>h h3.1) (Ev.now _)
theorem gQ {F:List S92} {R:List S46} {E:List S76} (hz:fo F R E) (n:Int) (f p:ByteArray) (L A:List ByteArray) (hA:sG F R E n f A) (i m:Nat) (hi:i<A.length)
  (h:Ev (fun k=>ab.l0 k f p L A (m:Int) ((i+1:Nat):Int) F R E n) true):Ev (fun k=>ab.j2 k f p L A (m:Int) (i:Int) F R E n) true:=by
 have hl:=hA.len;obtain⟨h1,h2⟩:=hA.ok A[i] (List.getElem_mem hi);have h3:=hA.ne A[i] (List.getElem_mem hi);have h4:¬((jr F R E n f A[i]).length:Int)=0:=fun h5=>h3 (List.length_eq_zero_iff.1 (by omega))
 refine Ev.step (fun k=>ab.j2.eq_2 _ _ _ _ _ _ _ _ _ _ _) ?_;have rest:Ev (fun k=>(da.f k A[i]).bind fun t=>if t=true then(am.f k F R E n f A[i]).bind fun t=>if(t.length:Int)=0 then some false else ab.l0 k f p L A (m:Int) ((i+1:Nat):Int) F R E n else some false) true:=by
  refine Ev.bind (ll A[i] (by omega)) ?_;simp only[h1,if_true];refine Ev.bind (iS hz n f A[i]) ?_;simp only[if_neg h4];exact h
 rcases Nat.eq_zero_or_pos i with h0 | h0
 ·subst h0;simp only[if_neg (show ¬(((0:Nat):Int)>0) by omega),if_pos (show 0≤((0:Nat):Int) by omega),if_pos (show (((0:Nat):Int)<(A.length:Int)) by omega),ej A 0 hi,cn 0 (by omega)];exact rest
 ·obtain⟨j,rfl⟩:∃j,i=j+1:=⟨i - 1,by omega⟩;have hup:Op.bytesLess A[j].toList A[j+1].toList=true:=by rw[fW];exact decide_eq_true (hA.up j hi)
  simp only[if_pos (show (((j+1:Nat):Int)>0) by omega),pE j (by omega),if_pos (show 0≤(j:Int) by omega),if_pos (show ((j:Int)<(A.length:Int)) by omega),if_pos (show 0≤((j+1:Nat):Int) by omega),if_pos (show (((j+1:Nat):Int)<(A.length:Int)) by omega),ej A j (by omega),ej A (j+1) hi,hup,if_true,cn (j+1) (by omega)];exact rest
def dJ (s p:ByteArray):Bool:=if(s.size:Int)≥(p.size:Int) then((s.extract 0 ((p.size:Int):Int).toNat).toList == p.toList) else false
theorem kU {F:List S92} {R:List S46} {E:List S76} (hz:fo F R E) (n:Int) (f p:ByteArray) (hp:p.size≤1000) (L A:List ByteArray) (hA:sG F R E n f A) (hL:L.length≤1048576):∀(d i m:Nat),i+d=A.length→m≤L.length→L.drop m=(A.drop i).filter (fun a=>dJ a p) →
  Ev (fun k=>ab.l0 k f p L A (m:Int) (i:Int) F R E n) true:=by
 have hl:=hA.len;intro d;induction d with
 | zero=>
  intro i m hi hm hd;refine Ev.step (fun k=>ab.l0.eq_2 _ _ _ _ _ _ _ _ _ _ _) ?_;simp only[if_neg (show ¬((i:Int)<(A.length:Int)) by omega)];rw[List.drop_of_length_le (show A.length≤i by omega),List.filter_nil,List.drop_eq_nil_iff] at hd;have e:((m:Int) == (L.length:Int))=true:=by rw[beq_iff_eq];omega
  rw[e];exact Ev.now _
 | succ d ih=>
  intro i m hi hm hd;have hil:i<A.length:=by omega
  have hs:=(hA.ok A[i] (List.getElem_mem hil)).2;rw[List.drop_eq_getElem_cons hil,List.filter_cons] at hd;have j1:Ev (fun k=>ab.j1 k f p L A (m:Int) (i:Int) (dJ A[i] p) F R E n) true:=by
   refine Ev.step (fun k=>ab.j1.eq_2 _ _ _ _ _ _ _ _ _ _ _ _) ?_;by_cases hb:dJ A[i] p=true
   ·rw[if_pos hb] at hd;have hml:m<L.length:=by
     rcases Nat.lt_or_ge m L.length with h | h
     ·exact h
     ·rw[List.drop_of_length_le h] at hd;cases hd
    rw[List.drop_eq_getElem_cons hml] at hd;obtain⟨e1,e2⟩:=List.cons.inj hd;simp only[hb,if_true,if_neg (show ¬((m:Int)≥(L.length:Int)) by omega),if_pos (show 0≤(m:Int) by omega),if_pos (show ((m:Int)<(L.length:Int)) by omega),if_pos (show 0≤(i:Int) by omega),if_pos (show ((i:Int)<(A.length:Int)) by omega),ej L m hml,ej A i hil,e1,cn m (by omega)];exact gQ hz n f p L A hA i (m+1) hil (ih (i+1) (m+1) (by omega) (by omega) e2)
   ·rw[if_neg hb] at hd;simp only[if_neg hb];exact gQ hz n f p L A hA i m hil (ih (i+1) m (by omega) hm hd)
  refine Ev.step (fun k=>ab.l0.eq_2 _ _ _ _ _ _ _ _ _ _ _) ?_;simp only[if_pos (show ((i:Int)<(A.length:Int)) by omega),if_pos (show 0≤(i:Int) by omega),ej A i hil];by_cases hc:(A[i].size:Int)≥(p.size:Int)
  ·simp only[if_pos hc,if_pos (show (0:Int)≤(p.size:Int) by omega),if_pos (show (p.size:Int)≤(A[i].size:Int) by omega)];have e:dJ A[i] p=((A[i].extract 0 ((p.size:Int):Int).toNat).toList == p.toList):=by unfold dJ;rw[if_pos hc]
   rw[e] at j1;exact j1
  ·simp only[if_neg hc];have e:dJ A[i] p=false:=by unfold dJ;rw[if_neg hc]
   rw[e] at j1;exact j1
theorem jc (s:ByteArray):dJ s (⟨#[]⟩:ByteArray)=true:=by
 unfold dJ
 have e:(⟨#[]⟩:ByteArray).size=0:=rfl;rw[if_pos (by rw[e];omega),e,beq_iff_eq];have h:(s.extract 0 ((((0:Nat):Int)):Int).toNat)=(⟨#[]⟩:ByteArray):=by
  apply ByteArray.ext
  rw[ByteArray.data_extract];exact Array.ext' (by simp)
 rw[h]
def eA (f p:ByteArray):List S76→List ByteArray
 | []=>[]
 | e :: l=>if e.f0.toList=f.toList then(if dJ e.f1 p=true then e.f1 :: eA f p l else eA f p l) else eA f p l
theorem jH (f p:ByteArray):∀l:List S76,eA f p l=(eA f (⟨#[]⟩:ByteArray) l).filter (fun a=>dJ a p)
 | []=>rfl
 | e :: l=>by
  rw[eA,eA,jH f p l,if_pos (jc e.f1)];split
  ·rw[List.filter_cons]
  ·rfl
noncomputable def ff (F:List S92) (R:List S46) (E:List S76) (n:Int) (f p:ByteArray):List ByteArray:=if eQ F R E n=true then eA f p E else[]
theorem lv (F:List S92) (R:List S46) (E:List S76) (n:Int) (f p:ByteArray):ff F R E n f p=(ff F R E n f (⟨#[]⟩:ByteArray)).filter (fun a=>dJ a p):=by
 unfold ff
 split
 ·exact jH f p E
 ·rfl
set_option maxRecDepth 20000 in
theorem lJ (F:List S92) (hF:F.length≤1048576):∀(rs:List S46) (G:List ((ByteArray × ByteArray) × List S50)) (n:Nat),(G.map (·.1)).Nodup→d7 n (dP (G.map toE))→(∀r∈rs,r.f1.f1.length≤4∧∀x∈r.f1.f1,x.f0.size≤1000000∧x.f1.size≤1000)→n+rs.length*4000≤1000000 →
  ∃(G':List ((ByteArray × ByteArray) × List S50)) (n':Nat),Ev (fun k=>entriesW.rs k F rs (G,n)) (G',n')∧Ev (fun k=>bn.rs k F rs (dP (G.map toE))) (dP (G'.map toE))∧(d7 n' (dP (G'.map toE))∧(G'.map (·.1)).Nodup)∧n'≤n+rs.length*4000
 | [],G,n,hn,hg,_,_=>⟨G,n,fH (fun k=>rfl),fH (fun k=>rfl),⟨hg,hn⟩,by omega⟩
 | r :: rs,G,n,hn,hg,hs,hc=>by
  rw[List.length_cons] at hc;have hsr:=hs r (by simp);obtain⟨G1,n1,e1,e2,e3,e4,e5⟩:=il F hF r.f0 r.f1.f1 G n hn hg hsr.2 (by omega);obtain⟨G2,n2,d1,d2,d4,d5⟩:=lJ F hF rs G1 n1 e3 e4 (fun x hx=>hs x (List.mem_cons_of_mem _ hx)) (by omega);refine⟨G2,n2,?_,?_,d4,by rw[List.length_cons];omega⟩
  ·simp only[entriesW.rs];exact Ev.bind e1 d1
  ·simp only[bn.rs];exact Ev.bind e2 d2
theorem lE (F:List S92) (hF:F.length≤1048576) (rs:List S46) (hs:∀r∈rs,r.f1.f1.length≤4∧∀x∈r.f1.f1,x.f0.size≤1000000∧x.f1.size≤1000) (hc:rs.length≤8) :
  ∃L:List S76,Ev (fun k=>dO.f k F rs) L∧Ev (fun k=>bn.f k F rs) L∧f5 L:=by
 have hg:d7 0 (dP (([] : List ((ByteArray × ByteArray) × List S50)).map toE)):=⟨Nat.le_refl _,fun e he=>by cases he⟩;obtain⟨G,n,e1,e2,⟨e3,e5⟩,e4⟩:=lJ F hF rs [] 0 List.nodup_nil hg hs (by omega);refine⟨dP (G.map toE),?_,?_,fa _ (by rw[lO];exact e5)⟩
 ·simp only[dO.f,entriesW.f];exact Ev.bind e1 (Ev.now _)
 ·simp only[bn.f];exact e2
open Classical in
theorem ky {F:List S92} {R:List S46} {E:List S76} {n:Int} (hF:F.length≤1048576) (h:eQ F R E n=true):f5 E:=by
 unfold eQ at h
 obtain⟨h1,_,h2,_,h3⟩:=of_decide_eq_true h;obtain⟨L,_,e2,hs⟩:=lE F hF R (ik h1) h2;exact(iz h3 e2) ▸ hs
theorem mg (f t:ByteArray):∀l:List S76,(∀e∈l,cE e≠(f,t))→gM f t l = []
 | [],_=>rfl
 | e :: l,h=>by
  rw[gM,mg f t l (fun x hx=>h x (List.mem_cons_of_mem _ hx))];split
  ·rename_i h1
   rw[if_neg (show ¬e.f1.toList=t.toList from fun h2=>h e (by simp) (Prod.ext (toList_inj.1 h1) (toList_inj.1 h2)))]
  ·rfl
theorem nt (f t:ByteArray):∀l:List S76,f5 l→∀e∈l,cE e=(f,t)→gM f t l=e.f2
 | [],_,e,h,_=>by simp at h
 | x :: l,hs,e,h,hk=>by
  obtain⟨h1,h2⟩:=List.pairwise_cons.1 hs;rw[gM];rcases List.mem_cons.1 h with rfl | h
  ·have h3:e.f0=f:=congrArg Prod.fst hk;have h4:e.f1=t:=congrArg Prod.snd hk;rw[if_pos (by rw[h3]),if_pos (by rw[h4]),mg f t l (fun y hy he=>eN (cE e) (by have:=h1 y hy;rwa [he,← hk] at this)),List.append_nil]
  ·have h3:=h1 e h;rw[hk] at h3;have h4:¬(x.f0.toList=f.toList∧x.f1.toList=t.toList):=fun h5=>eN (f,t) (by
    have h6:cE x=(f,t):=Prod.ext (toList_inj.1 h5.1) (toList_inj.1 h5.2);rwa [h6] at h3)
   have ih:=nt f t l h2 e h hk;split
   ·rename_i h5
    rw[if_neg (fun h6=>h4 ⟨h5,h6⟩)];exact ih
   ·exact ih
theorem iy (f:ByteArray):∀(l:List S76) (a:ByteArray),a∈eA f (⟨#[]⟩:ByteArray) l→∃e∈l,cE e=(f,a)
 | [],a,h=>by simp[eA] at h
 | e :: l,a,h=>by
  rw[eA,if_pos (jc e.f1)] at h;have ih:=iy f l a;split at h
  ·rename_i h1
   rcases List.mem_cons.1 h with rfl | h
   ·exact⟨e,by simp,Prod.ext (toList_inj.1 h1) rfl⟩
   ·obtain⟨x,hx,hk⟩:=ih h;exact⟨x,List.mem_cons_of_mem _ hx,hk⟩
  ·obtain⟨x,hx,hk⟩:=ih h;exact⟨x,List.mem_cons_of_mem _ hx,hk⟩
theorem jw (f:ByteArray):∀l:List S76,f5 l→(eA f (⟨#[]⟩:ByteArray) l).Pairwise (fun a b=>a.toList<b.toList)
 | [],_=>List.Pairwise.nil
 | e :: l,h=>by
  obtain⟨h1,h2⟩:=List.pairwise_cons.1 h;have ih:=jw f l h2;rw[eA,if_pos (jc e.f1)];split
  ·rename_i h3
   refine List.pairwise_cons.2 ⟨fun a ha=>?_,ih⟩;obtain⟨x,hx,hk⟩:=iy f l a ha;have h4:=h1 x hx;rw[hk] at h4;rcases h4 with h4 | h4
   ·exact absurd (show f.toList<f.toList by have h5:(cE e).1.toList=f.toList:=h3;rw[h5] at h4;exact h4) (List.lt_irrefl _)
   ·exact h4.2
  ·exact ih
theorem jx (f p:ByteArray):∀l:List S76,(eA f p l).length≤l.length
 | []=>by simp[eA]
 | e :: l=>by
  have:=jx f p l;rw[eA,List.length_cons];split
  ·split
   ·rw[List.length_cons];omega
   ·omega
  ·omega
theorem kF {F:List S92} {R:List S46} {E:List S76} (hz:fo F R E) (n:Int) (f p:ByteArray):(ff F R E n f p).length≤1048576:=by
 have he:=hz.e;have:=jx f p E;unfold ff
 split
 ·omega
 ·simp
open Classical in
theorem l8 {F:List S92} {R:List S46} {E:List S76} {n:Int} (hF:F.length≤1048576) (h:eQ F R E n=true):E=eo F R [] ∧ d7 45000 E:=by
 unfold eQ at h
 obtain⟨h1,_,h2,_,h3⟩:=of_decide_eq_true h;obtain⟨e1,e2⟩:=n3 F hF R (fun r hr=>by have:=ik h1 r hr;exact⟨by omega,this.2⟩) (by omega);have:=iz h3 e1;exact⟨this,this ▸ e2⟩
theorem nj (K:ByteArray × ByteArray→Prop) (id:Int) (name:ByteArray):∀(ts:List ByteArray) (x:Int) (L:List S76),(∀e∈L,K (cE e))→(∀t∈ts,t.size≠0→K (name,t))→∀e∈iF id name ts x L,K (cE e)
 | [],_,_,h,_=>h
 | t :: ts,x,L,h,hk=>by
  rw[iF];refine nj K id name ts (x+1) _ (fun e he=>?_) (fun t ht=>hk t (List.mem_cons_of_mem _ ht));by_cases h0:t.size=0
  ·rw[if_pos h0] at he;exact h e he
  ·rw[if_neg h0] at he;rcases lN he with h1 | ⟨z,hz,h1⟩
   ·rw[h1];exact hk t (by simp) h0
   ·rw[h1];exact h z hz
theorem o6 (K:ByteArray × ByteArray→Prop) (F:List S92) (id:Int):∀(cs:List S86) (L:List S76),(∀e∈L,K (cE e))→(∀c∈cs,∀t∈ef c.f1,t.size≠0→K (c.f0,t))→∀e∈pY F id cs L,K (cE e)
 | [],_,h,_=>h
 | c :: cs,L,h,hk=>by
  rw[pY];refine o6 K F id cs _ (fun e he=>?_) (fun c hc=>hk c (List.mem_cons_of_mem _ hc));split at he
  ·exact nj K id c.f0 (ef c.f1) 0 L h (hk c (by simp)) e he
  ·exact h e he
theorem nz (K:ByteArray × ByteArray→Prop) (F:List S92):∀(rs:List S46) (L:List S76),(∀e∈L,K (cE e))→(∀r∈rs,∀c∈r.f1.f1,∀t∈ef c.f1,t.size≠0→K (c.f0,t))→∀e∈eo F rs L,K (cE e)
 | [],_,h,_=>h
 | r :: rs,L,h,hk=>by
  rw[eo];exact nz K F rs _ (o6 K F r.f0 r.f1.f1 L h (hk r (by simp))) (fun r hr=>hk r (List.mem_cons_of_mem _ hr))
theorem pX (c:Int):dp (dp c)=dp c:=by
 unfold dp
 by_cases h:65≤c∧c≤90
 ·rw[if_pos h,if_neg (by omega)]
 ·rw[if_neg h,if_neg h]
theorem pT (s:ByteArray):dn (dn s)=dn s:=by
 apply ig
 rw[eb,eb,List.map_map];exact List.map_congr_left (fun c _=>pX c)
theorem d9 (s:ByteArray) (a b:Nat):ao (s.extract a b)=((ao s).drop a).take (b - a):=by
 unfold ao
 rw[ByteArray.data_extract,Array.toList_extract];simp[List.extract,List.map_take,List.map_drop]
theorem mJ (s:ByteArray) (a b:Nat):(dn s).extract a b=dn (s.extract a b):=by
 apply ig
 rw[d9,eb,eb,d9,List.map_take,List.map_drop]
theorem pU (c:Int):dV (dp c)↔dV c:=by
 unfold dp dV upP kP lL
 split <;> omega
theorem sa (s:ByteArray) (j:Nat) (h:j<(ao s).length) (i:Int) (hi:i=(j:Int)):bt s i=(ao s)[j]:=by subst hi;exact ga s j h
theorem rH (v:ByteArray):ie (noS v)=false:=by
 unfold noS
 by_cases h:ie v=true
 ·rw[if_pos h];have h1:=of_decide_eq_true h;have hl:=bM v;have hz:=extract_size v (v.size - 1) (by omega);have hl2:=bM (v.extract 0 (v.size - 1));refine decide_eq_false (fun h2=>h1.2.2 ?_);have e1:=sa v (v.size - 2) (by omega) ((v.size:Int) - 2) (by omega);have e2:=sa (v.extract 0 (v.size - 1)) (v.size - 2) (by omega) (((v.extract 0 (v.size - 1)).size:Int) - 1) (by omega);rw[e1,← h2.2.1,e2];simp only[d9,List.drop_zero,List.getElem_take]
 ·rw[if_neg h];simpa using h
theorem jF {s:ByteArray} {a b:Nat} {c:Int} (h:c∈ao (s.extract a b)):c∈ao s:=by
 rw[d9] at h;exact List.mem_of_mem_drop (List.mem_of_mem_take h)
open Classical in
theorem rg (s:ByteArray) (hs:∀c∈ao s,dV c) (h0:(dR s).size≠0):gH (dR s)=true:=by
 have hw:dR s=noS (eV (dn s))∧noS (eV (dn s)) ∉ cG:=by
  unfold dR eP at h0 ⊢
  by_cases h:noS (eV (dn s))∈cG
  ·rw[if_pos h] at h0;exact absurd rfl h0
  ·rw[if_neg h];exact⟨rfl,h⟩
 obtain⟨e,hn⟩:=hw;have hex:∃m,noS (eV (dn s))=(dn s).extract 0 m:=by
  unfold noS
  split
  ·refine⟨min ((eV (dn s)).size - 1) (min (dn s).size 12),?_⟩;apply ByteArray.ext
   unfold eV
   simp only[ByteArray.data_extract,Array.extract_extract,Nat.zero_add]
  ·exact⟨_,rfl⟩
 obtain⟨m,hm⟩:=hex;have hb:∀c∈ao (dR s),dV c:=by
  intro c hc;rw[e,hm] at hc;have:=jF hc;rw[eb] at this;obtain⟨d,hd,rfl⟩:=List.mem_map.1 this;exact(pU d).2 (hs d hd)
 have hfold:dn (dR s)=dR s:=by rw[e,hm,← mJ,pT]
 have hcut:eV (dR s)=dR s:=kn _ (jl s);have hnoS:noS (dR s)=dR s:=by
  have:=rH (eV (dn s));rw[← e] at this;unfold noS
  rw[if_neg (by rw[this];decide)]
 have hst:dR (dR s)=dR s:=by
  show eP (noS (eV (dn (dR s))))=dR s
  rw[hfold,hcut,hnoS];unfold eP
  rw[if_neg (by rw[e];exact hn)]
 exact decide_eq_true ⟨⟨hb,h0⟩,hst⟩
theorem ma:∀(l:List Int) (p x y:Nat),((x,y)∈bO p none l→p≤x)∧∀st,(x,y)∈bO p (some st) l→x=st∨p≤x
 | [],p,x,y=>⟨fun h=>by simp[bO] at h,fun st h=>by simp[bO] at h;exact .inl h.1⟩
 | c :: cs,p,x,y=>by
  have ih:=ma cs (p+1) x y;constructor
  ·intro h;by_cases hw:dV c
   ·simp only[bO,if_pos hw] at h;rcases ih.2 p h with h1 | h1 <;> omega
   ·simp only[bO,if_neg hw] at h;have:=ih.1 h;omega
  ·intro st h;by_cases hw:dV c
   ·simp only[bO,if_pos hw] at h;rcases ih.2 st h with h1 | h1
    ·exact .inl h1
    ·exact .inr (by omega)
   ·simp only[bO,if_neg hw,List.mem_cons] at h;rcases h with h | h
    ·exact .inl (congrArg Prod.fst h)
    ·exact .inr (by have:=ih.1 h;omega)
theorem gw:∀(l:List Int) (p:Nat) (o:Option Nat) (x y:Nat),(x,y)∈bO p o l→∀(q:Nat) (h:q<l.length),x≤p+q→p+q<y→dV l[q]
 | [],p,o,x,y,_,q,h,_,_=>by simp at h
 | c :: cs,p,o,x,y,hm,q,h,h1,h2=>by
  by_cases hw:dV c
  ·cases q with
   | zero=>exact hw
   | succ q=>
    have h':q<cs.length:=by simpa using h
    cases o with
    | none=>
     simp only[bO,if_pos hw] at hm;exact gw cs (p+1) _ x y hm q h' (by omega) (by omega)
    | some st=>
     simp only[bO,if_pos hw] at hm;exact gw cs (p+1) _ x y hm q h' (by omega) (by omega)
  ·have tail:(x,y)∈bO (p+1) none cs→dV (c :: cs)[q]:=by
    intro hm';have hge:=(ma cs (p+1) x y).1 hm';cases q with
    | zero=>omega
    | succ q=>
     have h':q<cs.length:=by simpa using h
     exact gw cs (p+1) none x y hm' q h' (by omega) (by omega)
   cases o with
   | none=>
    simp only[bO,if_neg hw] at hm;exact tail hm
   | some st=>
    simp only[bO,if_neg hw,List.mem_cons] at hm;rcases hm with hm | hm
    ·have e2:y=p:=congrArg Prod.snd hm;omega
    ·exact tail hm
theorem p8 (s:ByteArray) (w:S90) (hw:w∈eL s):∀c∈ao w.f0,dV c:=by
 obtain⟨q,hq,rfl⟩:=List.mem_map.1 hw;intro c hc;have hf:(gg s q).f0=s.extract q.1 q.2:=rfl;rw[hf,d9] at hc;obtain⟨j,hj,rfl⟩:=List.mem_iff_getElem.1 hc;have h1:j<q.2 - q.1:=by rw[List.length_take] at hj;omega
 have h2:q.1+j<(ao s).length:=by rw[List.length_take,List.length_drop] at hj;omega
 rw[List.getElem_take,List.getElem_drop];exact gw (ao s) 0 none q.1 q.2 hq (q.1+j) h2 (by omega) (by omega)
theorem tb (s t:ByteArray) (ht:t∈ef s) (h0:t.size≠0):gH t=true∧t.size≤12:=by
 obtain⟨w,hw,rfl⟩:=List.mem_map.1 ht;exact⟨rg w.f0 (p8 s w hw) h0,jl w.f0⟩
theorem pm {F:List S92} {R:List S46} {E:List S76} {n:Int} (hF:F.length≤1048576) (h:eQ F R E n=true):∀e∈E,gH e.f1=true∧e.f1.size≤12:=by
 rw[(l8 hF h).1];exact nz (fun q=>gH q.2=true∧q.2.size≤12) F R [] (fun e he=>by cases he) (fun r _ c _ t ht h0=>tb c.f1 t ht h0)
theorem oB {F:List S92} {R:List S46} {E:List S76} (hz:fo F R E) (n:Int) (f:ByteArray):sG F R E n f (ff F R E n f (⟨#[]⟩:ByteArray)):=by
 refine⟨kF hz n f _,?_,?_,?_⟩;all_goals unfold ff
 all_goals by_cases hb:eQ F R E n=true
 ·intro i h;simp only[if_pos hb] at h ⊢;exact List.pairwise_iff_getElem.1 (jw f E (ky hz.f hb)) i (i+1) (by omega) h (by omega)
 ·intro i h;simp only[if_neg hb] at h;exact absurd h (by simp)
 ·intro a ha;rw[if_pos hb] at ha;obtain⟨e,he,hk⟩:=iy f E a ha;have h1:e.f1=a:=congrArg Prod.snd hk;rw[← h1];exact pm hz.f hb e he
 ·intro a ha;rw[if_neg hb] at ha;cases ha
 ·intro a ha;rw[if_pos hb] at ha;obtain⟨e,he,hk⟩:=iy f E a ha;unfold jr
  rw[if_pos hb,nt f a E (ky hz.f hb) e he hk];exact((l8 hz.f hb).2.2 e he).1
 ·intro a ha;rw[if_neg hb] at ha;cases ha
theorem oZ (s p:ByteArray):cU.f s p=some (dJ s p):=by
 unfold cU.f stringslite_HasPrefix.f dJ
 split
 ·rw[if_pos (by omega)];rfl
 ·rfl
theorem je (E:List S76) (f p:ByteArray) (hE:E.length≤1099511627776):∀(d i:Nat) (acc:List ByteArray),i+d=E.length→acc.length≤i→Ev (fun k=>ba.l0 k f p acc E (E.length:Int) (i:Int)) (acc ++ eA f p (E.drop i)):=by
 intro d;induction d with
 | zero=>
  intro i acc hi ha;refine Ev.step (fun k=>ba.l0.eq_2 _ _ _ _ _ _ _) ?_;simp only[if_neg (show ¬((i:Int)<(E.length:Int)) by omega)];rw[List.drop_of_length_le (by omega),eA,List.append_nil];exact Ev.now _
 | succ d ih=>
  intro i acc hi ha;have hl:i<E.length:=by omega
  refine Ev.step (fun k=>ba.l0.eq_2 _ _ _ _ _ _ _) ?_;rw[List.drop_eq_getElem_cons hl,eA];simp only[if_pos (show ((i:Int)<(E.length:Int)) by omega),if_pos (show 0≤(i:Int) by omega),fE E i hl,oZ,Option.bind_some,cn i (by omega)];by_cases h1:E[i].f0.toList=f.toList
  ·simp only[if_pos h1];by_cases h2:dJ E[i].f1 p=true
   ·simp only[if_pos h2,if_pos (show acc.length<8796093022208 by omega)];have:=ih (i+1) (acc ++ [E[i].f1]) (by omega) (by simp;omega);rwa [List.append_assoc] at this
   ·simp only[if_neg h2];exact ih (i+1) acc (by omega) (by omega)
  ·simp only[if_neg h1];exact ih (i+1) acc (by omega) (by omega)
theorem fO {F:List S92} {R:List S46} {E:List S76} (hz:fo F R E) (n:Int) (f p:ByteArray):Ev (fun k=>ba.f k F R E n f p) (ff F R E n f p):=by
 have he:=hz.e;simp only[ba.f,Option.bind_some];refine Ev.bind (gP hz n) ?_;unfold ff
 by_cases hb:eQ F R E n=true
 ·simp only[if_pos hb];exact je E f p (by omega) E.length 0 [] (by omega) (by simp)
 ·simp only[if_neg hb];exact Ev.now _
theorem dX (a b c:Int):ck.f a b c=some (decide (b≤a∧a≤c)):=by
 unfold ck.f
 by_cases h:a≥b
 ·rw[if_pos h];congr 1;exact decide_eq_decide.2 ⟨fun h2=>⟨h,h2⟩,fun h2=>h2.2⟩
 ·rw[if_neg h];congr 1;symm;exact decide_eq_false (fun h2=>h h2.1)
open Classical in
theorem lw (s:ByteArray) (hn:s.size<4611686018427387904):∀(d i:Nat),i+d=s.size→Ev (fun k=>a6.l0 k s (i:Int)) (decide (dS (ao s) i)):=by
 have hb:=bM s;intro d;induction d with
 | zero=>
  intro i hi;refine Ev.step (fun k=>a6.l0.eq_2 _ _ _) ?_;simp only[if_neg (show ¬((i:Int)<(s.size:Int)) by omega),dX,Option.bind_some];refine cV (jM (by omega)).symm ?_;refine fH fun _=>?_
  congr 1;exact decide_eq_decide.2 (by omega)
 | succ d ih=>
  intro i hi;have hs:=iJ (l:=ao s) (j:=i) (by omega);refine Ev.step (fun k=>a6.l0.eq_2 _ _ _) ?_;simp only[if_pos (show ((i:Int)<(s.size:Int)) by omega),if_pos (show 0≤(i:Int) by omega),cn i (by omega),ga s i (by omega)];by_cases h1:kP (ao s)[i]
  ·simp only[if_pos (show (ao s)[i] ≥ 97 from h1.1),if_pos h1.2];exact cV (hs.trans ⟨fun h=>h.2,fun h=>⟨.inl h1,h⟩⟩).symm (ih (i+1) (by omega))
  ·have key:Ev (fun k=>if(i:Int)=0 then some false else if(ao s)[i] < 48 then some false else if(ao s)[i] > 57 then some false else a6.l0 k s ((i+1:Nat):Int)) (decide (dS (ao s) i)):=by
    by_cases h0:(i:Int)=0
    ·simp only[if_pos h0];have:decide (dS (ao s) i)=false:=decide_eq_false (fun h=>by rcases (hs.1 h).1 with h2 | h2;exact h1 h2;omega);rw[this];exact Ev.now _
    ·simp only[if_neg h0];by_cases h2:lL (ao s)[i]
     ·simp only[if_neg (show ¬(ao s)[i] < 48 by have:=h2.1;omega),if_neg (show ¬(ao s)[i] > 57 by have:=h2.2;omega)];exact cV (hs.trans ⟨fun h=>h.2,fun h=>⟨.inr ⟨by omega,h2⟩,h⟩⟩).symm (ih (i+1) (by omega))
     ·have:decide (dS (ao s) i)=false:=decide_eq_false (fun h=>by rcases (hs.1 h).1 with h3 | h3;exact h1 h3;exact h2 h3.2);rw[this];by_cases h3:(ao s)[i] < 48
      ·simp only[if_pos h3];exact Ev.now _
      ·simp only[if_neg h3,if_pos (show (ao s)[i] > 57 by unfold lL at h2;omega)];exact Ev.now _
   by_cases h3:(ao s)[i] ≥ 97
   ·simp only[if_pos h3,if_neg (show ¬(ao s)[i] ≤ 122 by unfold kP at h1;omega)];exact key
   ·simp only[if_neg h3];exact key
theorem e7 (s:ByteArray) (hn:s.size<4611686018427387904):Ev (fun k=>a6.f k s) (eW (ao s)):=lw s hn s.size 0 (by omega)
open Classical in
theorem lD (s:ByteArray) (hs:s.size<4611686018427387904):∀(d i:Nat),i+d=s.size→Ev (fun k=>bw.l0 k s (i:Int)) (decide ((∀c∈(ao s).drop i,sQ c)∧(s.size:Int)≤60)):=by
 have hlen:=bM s;intro d;induction d with
 | zero=>
  intro i hi;refine Ev.step (fun k=>bw.l0.eq_2 _ _ _) ?_;simp only[if_neg (show ¬((i:Int)<(s.size:Int)) by omega)];refine cV ?_ (Ev.now _);rw[List.drop_eq_nil_of_le (by omega)];exact⟨fun h=>⟨fun c hc=>by simp at hc,h⟩,fun h=>h.2⟩
 | succ d ih=>
  intro i hi;refine Ev.step (fun k=>bw.l0.eq_2 _ _ _) ?_;simp only[if_pos (show ((i:Int)<(s.size:Int)) by omega),if_pos (show 0≤(i:Int) by omega),qw s i (by omega),dX,Option.bind_some,decide_eq_true_eq,cn i (by omega)];have e:=List.drop_eq_getElem_cons (l:=ao s) (i:=i) (by omega);by_cases hw:32≤(ao s)[i] ∧ (ao s)[i] ≤ 126
  ·simp only[if_pos hw];refine cV ?_ (ih (i+1) (by omega));rw[e];constructor
   ·rintro ⟨h1,h2⟩;exact⟨fun c hc=>by rcases List.mem_cons.1 hc with h | h;exact h ▸ hw;exact h1 c h,h2⟩
   ·rintro ⟨h1,h2⟩;exact⟨fun c hc=>h1 c (List.mem_cons_of_mem _ hc),h2⟩
  ·simp only[if_neg hw];refine cZ (fun h=>hw (h.1 _ ?_)) (Ev.now _);rw[e];exact List.mem_cons_self ..
theorem ia (s:ByteArray) (hs:s.size<4611686018427387904):Ev (fun k=>bw.f k s) (eD s 60):=by
 simp only[bw.f,eD];exact lD s hs s.size 0 (by omega)
open Classical in
theorem lz (key:ByteArray) (l:List S86) (hk:key.size≤1048576) (hn:l.length≤1048576) (hs:∀x∈l,x.f0.size≤1048576∧x.f1.size≤1048576):∀(d i:Nat),i+d=l.length →
  Ev (fun k=>bc.l0 k (i:Int) key l) (decide (gh key l i)):=by
 intro d;induction d with
 | zero=>
  intro i hi;refine Ev.step (fun k=>bc.l0.eq_2 _ _ _ _) ?_;simp only[if_neg (show ¬((i:Int)<(l.length:Int)) by omega)];refine cV (jN (by omega)).symm ?_;refine Ev.bind (e7 key (by omega)) ?_;cases hnm:eW (ao key) with
  | false=>simp only[if_neg (show ¬(false=true) by decide)];exact cZ (fun h=>by cases h.1) (Ev.now _)
  | true=>
   simp only[if_true];exact cV ⟨fun h=>⟨(by first | trivial | rfl),by omega⟩,fun h=>by have:=h.2;omega⟩ (Ev.now _)
 | succ d ih=>
  intro i hi;have hst:=iQ (key:=key) (l:=l) (j:=i) (by omega);have hsz:=hs l[i] (List.getElem_mem _);have hnext:=ih (i+1) (by omega);refine Ev.step (fun k=>bc.l0.eq_2 _ _ _ _) ?_;simp only[if_pos (show ((i:Int)<(l.length:Int)) by omega),if_pos (show 0≤(i:Int) by omega),fJ l i (by omega),cn i (by omega)];refine Ev.bind (e7 l[i].f0 (by omega)) ?_;cases hnm:eW (ao l[i].f0) with
  | false=>simp only[if_neg (show ¬(false=true) by decide)];exact cZ (fun h=>by have:=(hst.1 h).1.1;rw[hnm] at this;cases this) (Ev.now _)
  | true=>
   simp only[if_true];refine Ev.bind (ia l[i].f1 (by omega)) ?_;cases htx:eD l[i].f1 60 with
   | false=>simp only[if_neg (show ¬(false=true) by decide)];exact cZ (fun h=>by have:=(hst.1 h).1.2.1;rw[htx] at this;cases this) (Ev.now _)
   | true=>
    simp only[if_true];by_cases h0:(i:Int)>0
    ·have he:wrap64 ((i:Int) - 1)=((i - 1:Nat):Int):=by rw[cd (by omega) (by omega)];omega
     simp only[if_pos h0,he,if_pos (show 0≤((i - 1:Nat):Int) by omega),if_pos (show ((i - 1:Nat):Int)<(l.length:Int) by omega),fJ l (i - 1) (by omega)];by_cases hl:qv (l[i - 1]'(by omega)).f0 l[i].f0
     ·have hl2:Op.bytesLess (l[i - 1]'(by omega)).f0.toList l[i].f0.toList=true:=hl;simp only[hl2,if_true];exact cV (hst.trans ⟨fun h=>h.2,fun h=>⟨⟨hnm,htx,fun _=>hl⟩,h⟩⟩).symm hnext
     ·have hl2:Op.bytesLess (l[i - 1]'(by omega)).f0.toList l[i].f0.toList=false:=Bool.eq_false_iff.2 hl;simp only[hl2,if_neg (show ¬(false=true) by decide)];exact cZ (fun h=>hl ((hst.1 h).1.2.2 (by omega))) (Ev.now _)
    ·simp only[if_neg h0];exact cV (hst.trans ⟨fun h=>h.2,fun h=>⟨⟨hnm,htx,fun h1=>by omega⟩,h⟩⟩).symm hnext
theorem me (key:ByteArray) (l:List S86) (hk:key.size≤1048576) (hn:l.length≤1048576) (hs:∀x∈l,x.f0.size≤1048576∧x.f1.size≤1048576):Ev (fun k=>bc.f k key l) (kt key l):=lz key l hk hn hs l.length 0 (by omega)
def isD (c:UInt8):Prop:=48≤c.toNat∧c.toNat≤57
instance (c:UInt8):Decidable (isD c):=by unfold isD;infer_instance
def lC (l:List UInt8):Prop:=l ≠ [] ∧ (∀c∈l,isD c)∧(1<l.length→l.head? ≠ some 48)
theorem rI {l:List UInt8} {i:Nat} (h:i<l.length) (hd:¬isD l[i]):¬lC l:=fun hc=>hd (hc.2.1 _ (List.getElem_mem h))
def eF (acc:Nat) (l:List UInt8):Nat:=l.foldl (fun a c=>a*10+(c.toNat - 48)) acc
theorem g7 (a:List UInt8) (acc:Nat) (b:List UInt8):eF acc (a ++ b)=eF (eF acc a) b:=by unfold eF;rw[List.foldl_append]
theorem ez (acc:Nat) (c:UInt8) (r:List UInt8):eF acc (c :: r)=eF (acc*10+(c.toNat - 48)) r:=by unfold eF;rw[List.foldl_cons]
theorem fI (acc:Nat):eF acc [] = acc:=rfl
theorem rF {l:List UInt8} {i:Nat} (h:i<l.length):eF 0 (l.take (i+1))=eF 0 (l.take i)*10+(l[i].toNat - 48):=by
 rw[List.take_add_one,List.getElem?_eq_getElem h];show eF 0 (l.take i ++ [l[i]])=_
 rw[g7,ez,fI]
theorem ql (s:ByteArray) (i:Nat) (h:i<s.data.toList.length):bt s (i:Int)=((s.data.toList[i]).toNat:Int):=by
 rw[ga s i (by rw[bM];exact h)];unfold ao
 rw[List.getElem_map]
open Classical in
noncomputable def eU (s:ByteArray):Int:=if lC s.data.toList∧s.size≤9 then(eF 0 s.data.toList:Int) else -1
theorem nN:∀(l:List UInt8) (acc:Nat),(∀c∈l,isD c)→eF acc l<(acc+1)*10 ^ l.length
 | [],acc,_=>by rw[fI];simp
 | c :: l,acc,h=>by
  have hc:=h c (by simp);unfold isD at hc
  have h1:=nN l (acc*10+(c.toNat - 48)) (fun x hx=>h x (List.mem_cons_of_mem _ hx));rw[ez,List.length_cons,Nat.pow_succ,Nat.mul_comm (10 ^ l.length) 10,← Nat.mul_assoc];refine Nat.lt_of_lt_of_le h1 (Nat.mul_le_mul_right _ (by omega))
theorem ol (s:ByteArray) (hs:s.size≤1099511627776):∀(d i:Nat),i+d=s.size→i≤9→(∀c∈s.data.toList.take i,isD c) →
  Ev (fun k=>bG.l0 k s ((eF 0 (s.data.toList.take i):Nat):Int) (i:Int)) (eU s):=by
 have hlen:=fD s;intro d;induction d with
 | zero=>
  intro i hi h9 hd;refine Ev.step (fun k=>bG.l0.eq_2 _ _ _ _) ?_;have et:s.data.toList.take i=s.data.toList:=List.take_of_length_le (by omega);rw[et] at hd ⊢;simp only[if_neg (show ¬((i:Int)<(s.size:Int)) by omega)];by_cases h0:s.size=0
  ·have e0:eU s = -1:=by unfold eU;rw[if_neg (fun hc=>hc.1.1 (List.length_eq_zero_iff.1 (by omega)))]
   rw[e0];simp only[if_pos (show (s.size:Int)=0 by omega)];exact Ev.now _
  ·simp only[if_neg (show ¬(s.size:Int)=0 by omega)];have hne:s.data.toList ≠ []:=fun e=>h0 (by rw[← hlen,e];rfl)
   by_cases h1:(s.size:Int)>1
   ·have hb:=ql s 0 (by omega);have hb0:bt s 0=((s.data.toList[0]'(by omega)).toNat:Int):=hb;simp only[if_pos h1,if_pos (show 0<(s.size:Int) by omega),hb0];have hh:s.data.toList.head? = some (s.data.toList[0]'(by omega)):=by
     rw[List.head?_eq_getElem?,List.getElem?_eq_getElem]
    by_cases h48:((s.data.toList[0]'(by omega)).toNat:Int)=48
    ·have e48:s.data.toList[0]'(by omega)=48:=UInt8.toNat_inj.1 (show _=48 by omega);have e0:eU s = -1:=by unfold eU;rw[if_neg (fun hc=>hc.1.2.2 (by omega) (by rw[hh,e48]))]
     rw[e0];simp only[if_pos h48];exact Ev.now _
    ·have e0:eU s=((eF 0 s.data.toList:Nat):Int):=by unfold eU;rw[if_pos ⟨⟨hne,hd,fun _ he=>by rw[hh] at he;exact h48 (by rw[Option.some.inj he];rfl)⟩,by omega⟩]
     rw[e0];simp only[if_neg h48];exact Ev.now _
   ·have e0:eU s=((eF 0 s.data.toList:Nat):Int):=by unfold eU;rw[if_pos ⟨⟨hne,hd,fun h=>by omega⟩,by omega⟩]
    rw[e0];simp only[if_neg h1];exact Ev.now _
 | succ d ih=>
  intro i hi h9 hd;have hil:i<s.data.toList.length:=by omega
  have hb:=ql s i hil;refine Ev.step (fun k=>bG.l0.eq_2 _ _ _ _) ?_;simp only[if_pos (show ((i:Int)<(s.size:Int)) by omega),if_pos (show 0≤(i:Int) by omega),hb];have hno:∀(h:¬isD s.data.toList[i]),eU s = -1:=fun h=>by unfold eU;rw[if_neg (fun hc=>rI hil h hc.1)]
  by_cases h1:((s.data.toList[i]).toNat:Int)<48
  ·simp only[if_pos h1];rw[hno (by unfold isD;omega)];exact Ev.now _
  ·by_cases h2:((s.data.toList[i]).toNat:Int)>57
   ·simp only[if_neg h1,if_pos h2];rw[hno (by unfold isD;omega)];exact Ev.now _
   ·by_cases h3:(i:Int)≥9
    ·simp only[if_neg h1,if_neg h2,if_pos h3];have:eU s = -1:=by unfold eU;rw[if_neg (fun hc=>by have:=hc.2;omega)]
     rw[this];exact Ev.now _
    ·have hlt:=nN (s.data.toList.take i) 0 hd;have hl1:(s.data.toList.take i).length=i:=by rw[List.length_take];omega
     rw[hl1] at hlt;have hp:10 ^ i≤10 ^ 9:=Nat.pow_le_pow_right (by decide) (by omega);have e9:(10:Nat) ^ 9=1000000000:=by decide
     have hstep:=rF hil;have ew:wrap64 (wrap64 (((eF 0 (s.data.toList.take i):Nat):Int)*10)+((((s.data.toList[i]).toNat:Int) - 48) % 256))=((eF 0 (s.data.toList.take (i+1)):Nat):Int):=by
      rw[hstep,cd (x:=((eF 0 (s.data.toList.take i):Nat):Int)*10) (by omega) (by omega),cd (by omega) (by omega)];omega
     simp only[if_neg h1,if_neg h2,if_neg h3,ew,cn i (by omega)];refine ih (i+1) (by omega) (by omega) (fun c hc=>?_);rw[List.take_add_one,List.getElem?_eq_getElem hil] at hc;rcases List.mem_append.1 hc with h | h
     ·exact hd c h
     ·have:c=s.data.toList[i]:=by simpa using h
      rw[this];unfold isD;omega
theorem f4 (s:ByteArray) (hs:s.size≤1099511627776):Ev (fun k=>bG.f k s) (eU s):=by
 have:=ol s hs s.size 0 (by omega) (by omega) (fun c hc=>by simp at hc);simpa [bG.f,fI] using this
theorem nO {n:Int} (h:0≤n):Lib.itoa n=Lib.decDigits n.toNat:=by unfold Lib.itoa;rw[if_neg (by omega)]
theorem ix (v:Nat) (h:v<10):(UInt8.ofNat (48+v)).toNat=48+v:=by rw[UInt8.toNat_ofNat'];exact Nat.mod_eq_of_lt (by omega)
theorem k6 (u:Nat):∀c∈Lib.decDigits u,isD c:=by
 induction u using Nat.strongRecOn with
 | _ u ih=>
  intro c hc;unfold isD
  by_cases h:u<10
  ·rw[Lib.decDigits,dif_pos h,List.mem_singleton] at hc;rw[hc,ix u h];omega
  ·rw[Lib.decDigits,dif_neg h] at hc;rcases List.mem_append.1 hc with h1 | h1
   ·exact ih (u / 10) (by omega) c h1
   ·rw[List.mem_singleton] at h1;rw[h1,ix (u % 10) (by omega)];omega
theorem rE (u:Nat) (t:List UInt8):Lib.decDigits u≠45 :: t:=by
 intro h;have:=k6 u 45 (by rw[h];simp);exact absurd this (by decide)
theorem jU (u:Nat):Lib.decDigits u ≠ []:=by
 intro h;have h1:=Lib.decDigits_length u;have h2:=Lib.nDigits_pos u;rw[h] at h1;simp at h1;omega
theorem sF (u:Nat):1≤u→∀c r,Lib.decDigits u=c :: r→49≤c.toNat:=by
 induction u using Nat.strongRecOn with
 | _ u ih=>
  intro hu c r he;by_cases h:u<10
  ·rw[Lib.decDigits,dif_pos h] at he;have:=(List.cons.inj he).1;rw[← this,ix u h];omega
  ·rw[Lib.decDigits,dif_neg h] at he;obtain⟨c',r',e'⟩:∃c' r',Lib.decDigits (u / 10)=c' :: r':=by
    cases hd:Lib.decDigits (u / 10) with
    | nil=>exact absurd hd (jU _)
    | cons c' r'=>exact⟨c',r',rfl⟩
   have:=ih (u / 10) (by omega) (by omega) c' r' e';rw[e',List.cons_append] at he;rw[← (List.cons.inj he).1];exact this
theorem qS (u:Nat):lC (Lib.decDigits u):=by
 refine⟨jU u,k6 u,fun hl=>?_⟩;intro he;have hu:1≤u:=by
  rcases Nat.lt_or_ge u 1 with h | h
  ·obtain rfl:u=0:=by omega
   rw[Lib.decDigits,dif_pos (by omega)] at hl;simp at hl
  ·exact h
 cases hd:Lib.decDigits u with
 | nil=>exact jU u hd
 | cons c r=>
  have:=sF u hu c r hd;rw[hd] at he;simp at he
  rw[he] at this;exact absurd this (by decide)
theorem oG:∀(l:List UInt8) (acc:Nat),acc≤eF acc l
 | [],_=>Nat.le_refl _
 | c :: l,acc=>by
  have:=oG l (acc*10+(c.toNat - 48));rw[ez];omega
theorem ln:∀(n:Nat) (l:List UInt8),l.length=n→lC l→Lib.decDigits (eF 0 l)=l
 | 0,l,hn,h=>absurd (List.length_eq_zero_iff.1 hn) h.1
 | n+1,l,hn,h=>by
  obtain⟨a,c,rfl⟩:∃a c,l=a ++ [c]:=⟨l.dropLast,l.getLast h.1,(List.dropLast_concat_getLast h.1).symm⟩;have hc:=h.2.1 c (by simp);unfold isD at hc
  have hcc:UInt8.ofNat (48+(c.toNat - 48))=c:=UInt8.toNat_inj.1 (by rw[ix _ (by omega)];omega);have ev:eF 0 (a ++ [c])=eF 0 a*10+(c.toNat - 48):=by rw[g7,ez,fI]
  by_cases ha:a = []
  ·subst ha;rw[ev,fI,Nat.zero_mul,Nat.zero_add,Lib.decDigits,dif_pos (by omega),hcc];rfl
  ·obtain⟨x,r,rfl⟩:∃x r,a=x :: r:=by
    cases a with
    | nil=>exact absurd rfl ha
    | cons x r=>exact⟨x,r,rfl⟩
   have hx:=h.2.1 x (by simp);unfold isD at hx
   have hx48:x≠48:=fun e=>h.2.2 (by simp) (by simp[e])
   have hx49:49≤x.toNat:=by
    rcases Nat.lt_or_ge x.toNat 49 with h1 | h1
    ·exact absurd (UInt8.toNat_inj.1 (show x.toNat=(48:UInt8).toNat by show _=48;omega)) hx48
    ·exact h1
   have hge:=oG r (0*10+(x.toNat - 48));have hv:1≤eF 0 (x :: r):=by rw[ez];omega
   have hcan:lC (x :: r):=⟨by simp,fun y hy=>h.2.1 y (List.mem_append_left _ hy),fun _=>by simpa using hx48⟩;have ih:=ln n (x :: r) (by simp at hn ⊢;omega) hcan;rw[ev,Lib.decDigits,dif_neg (by omega),show (eF 0 (x :: r)*10+(c.toNat - 48)) / 10=eF 0 (x :: r) by omega,show (eF 0 (x :: r)*10+(c.toNat - 48)) % 10=c.toNat - 48 by omega,ih,hcc]
theorem nY (u:Nat):eF 0 (Lib.decDigits u)=u:=by
 induction u using Nat.strongRecOn with
 | _ u ih=>
  by_cases h:u<10
  ·rw[Lib.decDigits,dif_pos h,ez,fI,ix u h];omega
  ·rw[Lib.decDigits,dif_neg h,g7,ih (u / 10) (by omega),ez,fI,ix (u % 10) (by omega)];omega
theorem lg {s:ByteArray} {u:Nat} : eU s=(u:Int)↔u≤999999999∧Lib.decDigits u=s.data.toList:=by
 constructor
 ·intro h;unfold eU at h
  split at h
  ·rename_i hc
   have hu:eF 0 s.data.toList=u:=by omega
   have hl:=nN s.data.toList 0 hc.1.2.1;have hp:10 ^ s.data.toList.length≤10 ^ 9:=Nat.pow_le_pow_right (by decide) hc.2;have e9:(10:Nat) ^ 9=1000000000:=by decide
   refine⟨by omega,?_⟩;rw[← hu];exact ln _ _ rfl hc.1
  ·omega
 ·rintro ⟨h1,h2⟩;have hs:s.size≤9:=by
   have h3:=iU 8 u (by omega);rw[← Lib.decDigits_length,h2] at h3;exact h3
  have hcan:=qS u;rw[h2] at hcan;unfold eU
  rw[if_pos ⟨hcan,hs⟩,← h2,nY]
theorem lY (s:ByteArray):eU s = -1∨∃u:Nat,u≤999999999∧eU s=(u:Int)∧Lib.decDigits u=s.data.toList:=by
 by_cases h:∃u:Nat,eU s=(u:Int)
 ·obtain⟨u,hu⟩:=h;have:=lg.1 hu;exact Or.inr ⟨u,this.1,hu,this.2⟩
 ·refine Or.inl ?_;unfold eU
  split
  ·rename_i hc
   exact absurd ⟨_,show eU s=((eF 0 s.data.toList:Nat):Int) by unfold eU;rw[if_pos hc]⟩ h
  ·rfl
theorem oI (s:ByteArray):0<eU s↔∃u:Nat,1≤u∧u≤999999999∧Lib.decDigits u=s.data.toList:=by
 constructor
 ·intro h;rcases lY s with h1 | ⟨u,h1,h2,h3⟩
  ·omega
  ·exact⟨u,by omega,h1,h3⟩
 ·rintro ⟨u,h0,h1,h2⟩;have:=lg.2 (show u≤999999999∧Lib.decDigits u=s.data.toList from ⟨h1,h2⟩);omega
theorem oh {n:Int} (h:n<0):Lib.itoa n=45 :: Lib.decDigits n.natAbs:=by unfold Lib.itoa;rw[if_pos h]
theorem nl:∀(l:List UInt8) (acc:Nat),(∀c∈l,isD c)→eF acc l<1844674407370955162→Lib.parseUint10 acc l = .ok (eF acc l)
 | [],_,_,_=>rfl
 | c :: r,acc,h,hv=>by
  have hc:=h c (by simp);unfold isD at hc
  rw[ez] at hv;have hg:=oG r (acc*10+(c.toNat - 48));rw[Lib.parseUint10,if_pos hc,if_neg (by omega),if_neg (by omega),nl r _ (fun x hx=>h x (List.mem_cons_of_mem _ hx)) hv,ez]
theorem qx (u:Nat) (h:u≤999999999999):Lib.parseMag (Lib.decDigits u) = .ok u:=by
 unfold Lib.parseMag
 rw[if_neg (jU u),nl _ 0 (k6 u) (by rw[nY];omega),nY]
theorem sp (u:Nat) (h:u≤999999999999):Lib.atoiAll (Lib.decDigits u) = .ok (u:Int):=by
 obtain⟨c,r,e⟩:∃c r,Lib.decDigits u=c :: r:=by
  cases hd:Lib.decDigits u with
  | nil=>exact absurd hd (jU _)
  | cons c r=>exact⟨c,r,rfl⟩
 have hc:=k6 u c (by rw[e];simp);unfold isD at hc
 have hm:=qx u h;rw[e] at hm ⊢;rw[Lib.atoiAll_plain c r (by omega) (by omega),hm];simp only[Lib.signless,if_neg (show ¬ 9223372036854775808≤u by omega)]
theorem sO (u:Nat) (h:u≤999999999999):Lib.atoiAll (45 :: Lib.decDigits u) = .ok (-(u:Int)):=by
 rw[Lib.atoiAll_minus,qx u h];simp only[Lib.signed,if_neg (show ¬ 9223372036854775808<u by omega)]
theorem rn (n:Int) (h0 : -999999999999≤n) (h1:n≤999999999999):Lib.atoiAll (Lib.itoa n) = .ok n:=by
 unfold Lib.itoa
 by_cases h:n<0
 ·rw[if_pos h,sO _ (by omega)];congr 1;omega
 ·rw[if_neg h,sp _ (by omega)];congr 1;omega
theorem pr {s:ByteArray} {n:Int} : jd s=(n,true) ↔ -999999999≤n∧n≤999999999∧Lib.itoa n=s.data.toList:=by
 constructor
 ·intro h;unfold jd at h
  split at h
  ·split at h
   ·rename_i hc;rw[← (Prod.mk.inj h).1];exact hc
   ·cases (Prod.mk.inj h).2
  ·cases (Prod.mk.inj h).2
 ·rintro ⟨h0,h1,h2⟩;unfold jd
  rw[← h2,rn n (by omega) (by omega)];simp only[if_pos (show -999999999≤n∧n≤999999999∧True from ⟨h0,h1,trivial⟩)]
theorem kJ (s:ByteArray):(jd s).2=true↔∃n:Int,-999999999≤n∧n≤999999999∧Lib.itoa n=s.data.toList:=by
 constructor
 ·intro h;exact⟨(jd s).1,pr.1 (by rw[← h])⟩
 ·rintro ⟨n,h⟩;rw[pr.2 h]
theorem qa (s r:ByteArray) (h:s.data.toList=45 :: r.data.toList):(jd s).2=true↔0<eU r:=by
 rw[kJ,oI];constructor
 ·rintro ⟨n,h0,h1,h2⟩;rw[h] at h2;by_cases hn:n<0
  ·rw[oh hn] at h2;exact⟨n.natAbs,by omega,by omega,(List.cons.inj h2).2⟩
  ·rw[nO (by omega)] at h2;exact absurd h2 (rE _ _)
 ·rintro ⟨u,h0,h1,h2⟩;refine⟨-(u:Int),by omega,by omega,?_⟩;rw[oh (by omega),h,← h2];congr 2;omega
theorem pc (s:ByteArray):0≤eU s↔∃u:Nat,u≤999999999∧Lib.decDigits u=s.data.toList:=by
 constructor
 ·intro h;rcases lY s with h1 | ⟨u,h1,h2,h3⟩
  ·omega
  ·exact⟨u,h1,h3⟩
 ·rintro ⟨u,h1,h2⟩;have:=lg.2 (show u≤999999999∧Lib.decDigits u=s.data.toList from ⟨h1,h2⟩);omega
theorem pP (s:ByteArray) (h:∀t,s.data.toList=45 :: t→t = []):(jd s).2=true↔0≤eU s:=by
 rw[kJ,pc];constructor
 ·rintro ⟨n,h0,h1,h2⟩;by_cases hn:n<0
  ·rw[oh hn] at h2;exact absurd (h _ h2.symm) (jU _)
  ·rw[nO (by omega)] at h2;exact⟨n.toNat,by omega,h2⟩
 ·rintro ⟨u,h1,h2⟩;exact⟨(u:Int),by omega,by omega,by rw[nO (by omega)];exact h2⟩
theorem kd (s:ByteArray) (hs:s.size≤1048576):∃v,Ev (fun k=>bq.f k s) (v,(jd s).2):=by
 have hlen:=fD s;simp only[bq.f];have pos:(∀t,s.data.toList=45 :: t→t = [])→∃v,Ev (fun k=>bq.j0 k s false) (v,(jd s).2):=by
  intro h;refine⟨eU s,Ev.step (fun k=>bq.j0.eq_2 _ _ _) ?_⟩;simp only[if_neg (show ¬(false=true) by decide)];refine Ev.bind (f4 s (by omega)) ?_;have e:decide (eU s≥0)=(jd s).2:=by
   rw[Bool.eq_iff_iff,decide_eq_true_eq];exact(pP s h).symm
  rw[e];exact Ev.now _
 by_cases h1:(s.size:Int)>1
 ·have hb:bt s 0=((s.data.toList[0]'(by omega)).toNat:Int):=ql s 0 (by omega);simp only[if_pos h1,if_pos (show 0<(s.size:Int) by omega),hb];obtain⟨x,r,hx⟩:∃x r,s.data.toList=x :: r:=by
   cases hd:s.data.toList with
   | nil=>rw[hd] at hlen;simp at hlen;omega
   | cons x r=>exact⟨x,r,rfl⟩
  have h0:s.data.toList[0]'(by omega)=x:=by simp[hx]
  rw[h0];by_cases h45:(x.toNat:Int)=45
  ·have e45:((x.toNat:Int) == 45)=true:=by simpa using h45
   have ex:x=45:=UInt8.toNat_inj.1 (show _=45 by omega);subst ex;have hr:(s.extract 1 s.size).data.toList=r:=by
    rw[Lib.extract_data,hx,List.drop_succ_cons,List.drop_zero];apply List.take_of_length_le
    rw[hx,List.length_cons] at hlen;omega
   have hz:(s.extract 1 s.size).size≤1048576:=by rw[ByteArray.size_extract];omega
   rw[e45];refine⟨wrap64 (-eU (s.extract 1 s.size)),Ev.step (fun k=>bq.j0.eq_2 _ _ _) ?_⟩;simp only[if_true,if_pos (show 1≤(s.size:Int) by omega)];refine Ev.bind (f4 _ (by omega)) ?_;have e:decide (eU (s.extract 1 s.size)>0)=(jd s).2:=by
    rw[Bool.eq_iff_iff,decide_eq_true_eq];exact(qa s (s.extract 1 s.size) (by rw[hr,hx])).symm
   rw[e];exact Ev.now _
  ·have e45:((x.toNat:Int) == 45)=false:=by simpa using h45
   rw[e45];exact pos (fun t ht=>absurd (show (x.toNat:Int)=45 by rw[hx] at ht;rw[(List.cons.inj ht).1];rfl) h45)
 ·simp only[if_neg h1];exact pos (fun t ht=>by
   rw[ht,List.length_cons] at hlen;exact List.length_eq_zero_iff.1 (by omega))
def cutT (c:UInt8) (n:Nat) (s:ByteArray):List ByteArray:=(eC c n [] s.data.toList).map mkT
theorem ka (c:UInt8):∀(l:List UInt8) (n:Nat) (acc:List UInt8),l.count c≤n→eC c n acc l=eC c (l.count c) acc l
 | [],n,acc,_=>by simp[eC]
 | x :: xs,n,acc,h=>by
  by_cases hx:x=c
  ·subst hx;rw[List.count_cons_self] at h ⊢;obtain⟨m,rfl⟩:∃m,n=m+1:=⟨n - 1,by omega⟩;rw[eC,eC,if_pos rfl,if_pos rfl,ka x xs m [] (by omega)]
  ·have e:(x :: xs).count c=xs.count c:=List.count_cons_of_ne (by simpa using hx);rw[e] at h ⊢;have h1:=ka c xs n (acc ++ [x]) h;have e0:∀k,eC c k acc (x :: xs)=eC c k (acc ++ [x]) xs:=by
    intro k;have:=jG c [x] k acc xs (by simpa using fun h=>hx h.symm);exact this
   rw[e0,e0,h1]
theorem rS (c:UInt8) (s:ByteArray):cutT c (s.size+1) s=en c s:=by
 unfold cutT en
 have h:s.data.toList.count c≤s.data.toList.length:=List.count_le_length;rw[fD] at h;rw[ka c _ (s.size+1) [] (by omega)]
def gV (s:ByteArray):List ByteArray→List ByteArray
 | []=>[s]
 | x :: xs=>if Op.bytesLess x.toList s.toList=true then x :: gV s xs else if x=s then x :: xs else s :: x :: xs
def k8 (acc:List ByteArray) (l:List ByteArray):List ByteArray:=l.foldl (fun a s=>gV s a) acc
theorem nK (acc:List ByteArray) (s:ByteArray) (l:List ByteArray):k8 acc (s :: l)=k8 (gV s acc) l:=rfl
theorem kK (s:ByteArray):∀l:List ByteArray,(gV s l).length≤l.length+1
 | []=>by simp[gV]
 | x :: xs=>by
  have:=kK s xs;unfold gV
  split
  ·simp only[List.length_cons];omega
  ·split <;> simp
theorem mG (s:ByteArray) (l:List ByteArray) (hn:l.length≤1099511627776):∀(d i:Nat),i+d=l.length→Ev (fun k=>bH.l0 k l s (i:Int)) (l.take i ++ gV s (l.drop i)):=by
 intro d;induction d with
 | zero=>
  intro i hi;refine Ev.step (fun k=>bH.l0.eq_2 _ _ _ _) ?_;have e1:l.take i=l:=List.take_of_length_le (by omega);have e2:l.drop i = []:=List.drop_eq_nil_of_le (by omega);simp only[if_neg (show ¬((i:Int)<(l.length:Int)) by omega),Option.bind_some,if_pos (show 0≤(i:Int) by omega),if_pos (show (i:Int)≤(l.length:Int) by omega),dI,e1,e2,gV,List.nil_append,List.length_nil,Nat.zero_add,if_pos (show l.length<8796093022208 by omega),List.length_cons,List.length_append,Nat.add_zero,if_pos (show l.length+1<8796093022208 by omega),List.append_nil];exact Ev.now _
 | succ d ih=>
  intro i hi;have hil:i<l.length:=by omega
  have ed:l.drop i=l[i] :: l.drop (i+1):=dj l i hil;refine Ev.step (fun k=>bH.l0.eq_2 _ _ _ _) ?_;simp only[if_pos (show ((i:Int)<(l.length:Int)) by omega),if_pos (show 0≤(i:Int) by omega),ek _ l i hil,toList_inj,cn i (by omega)];by_cases h1:Op.bytesLess l[i].toList s.toList=true
  ·simp only[if_pos h1];have e:l.take i ++ gV s (l.drop i)=l.take (i+1) ++ gV s (l.drop (i+1)):=by
    rw[ed,gV,if_pos h1,List.take_add_one,List.getElem?_eq_getElem hil,List.append_assoc];rfl
   rw[e];exact ih (i+1) (by omega)
  ·simp only[if_neg h1];by_cases h2:l[i] = s
   ·simp only[if_pos h2];have e:l.take i ++ gV s (l.drop i)=l:=by rw[ed,gV,if_neg h1,if_pos h2,← ed,List.take_append_drop]
    rw[e];exact Ev.now _
   ·have lt:(l.take i).length=i:=by rw[List.length_take];omega
    have ld:(l.drop i).length=l.length - i:=List.length_drop;simp only[if_neg h2,Option.bind_some,if_pos (show (i:Int)≤(l.length:Int) by omega),dI,List.nil_append,List.length_nil,Nat.zero_add,lt,if_pos (show i<8796093022208 by omega),List.length_cons,List.length_append,Nat.add_zero,if_pos (show i+1<8796093022208 by omega),ld,if_pos (show i+1+(l.length - i)<8796093022208 by omega)];have e:l.take i ++ gV s (l.drop i)=l.take i ++ [s] ++ l.drop i:=by rw[ed,gV,if_neg h1,if_neg h2,List.append_assoc];rfl
    rw[e];exact Ev.now _
theorem mS (s:ByteArray) (l:List ByteArray) (hn:l.length≤1099511627776):Ev (fun k=>bH.f k l s) (gV s l):=by
 have:=mG s l hn l.length 0 (by omega);simpa [bH.f] using this
open Classical in
theorem lR (L:List ByteArray) (hL:L.length≤1048577) (hx:∀x∈L,x.size≤1048576):∀(d i:Nat) (acc:List ByteArray),i+d=L.length→acc.length≤i →
  Ev (fun k=>bN.l0 k acc L (i:Int)) (if gv (L.drop i) then(k8 acc (L.drop i),decide (L.length≤4)) else([],false)):=by
 intro d;induction d with
 | zero=>
  intro i acc hi ha;refine Ev.step (fun k=>bN.l0.eq_2 _ _ _ _) ?_;simp only[if_neg (show ¬((i:Int)<(L.length:Int)) by omega)];rw[List.drop_eq_nil_of_le (by omega),if_pos (show gv [] from fun x hx=>by simp at hx)];have e:decide ((L.length:Int)≤4)=decide (L.length≤4):=decide_eq_decide.2 ⟨fun h=>by omega,fun h=>by omega⟩;rw[e];exact Ev.now _
 | succ d ih=>
  intro i acc hi ha;have hil:i<L.length:=by omega
  have hxi:=hx L[i] (List.getElem_mem _);have hl2:=kK L[i] acc;refine Ev.step (fun k=>bN.l0.eq_2 _ _ _ _) ?_;simp only[if_pos (show ((i:Int)<(L.length:Int)) by omega),if_pos (show 0≤(i:Int) by omega),ek _ L i hil,cn i (by omega)];refine Ev.bind (e7 L[i] (by omega)) ?_;rw[dj L i hil];cases hnm:eW (ao L[i]) with
  | false=>
   simp only[if_neg (show ¬(false=true) by decide)];rw[if_neg (fun h=>by have:=(eY.1 h).1;rw[hnm] at this;cases this)];exact Ev.now _
  | true=>
   simp only[if_true];refine Ev.bind (mS L[i] acc (by omega)) ?_;have h:=ih (i+1) (gV L[i] acc) (by omega) (by omega);rw[nK];by_cases hp:gv (L.drop (i+1))
   ·rw[if_pos hp] at h;rw[if_pos (eY.2 ⟨hnm,hp⟩)];exact h
   ·rw[if_neg hp] at h;rw[if_neg (fun h2=>hp (eY.1 h2).2)];exact h
open Classical in
noncomputable def jL (s:ByteArray):List ByteArray × Bool:=if gv (en 44 s) then(k8 [] (en 44 s),decide ((en 44 s).length≤4)) else([],false)
theorem kx (s:ByteArray) (a b:Nat):s.extract a b=mkT ((s.data.toList.drop a).take (b - a)):=by
 rw[← oS (s.extract a b),Lib.extract_data]
theorem nr (l:List UInt8) {f i:Nat} (hf:f≤i):(l.drop f).take (i - f) ++ l.drop i=l.drop f:=by
 have:=List.take_append_drop (i - f) (l.drop f);rw[List.drop_drop,show f+(i - f)=i by omega] at this;exact this
theorem rc {l:List UInt8} {f i:Nat} (hf:f≤i) (hi:i<l.length):(l.drop f).take (i+1 - f)=(l.drop f).take (i - f) ++ [l[i]]:=by
 have e:i+1 - f=(i - f)+1:=by omega
 rw[e,List.take_add_one,List.getElem?_drop,show f+(i - f)=i by omega,List.getElem?_eq_getElem hi];rfl
theorem rt (a b:UInt8):((a.toNat:Int)=(b.toNat:Int))↔a=b:=⟨fun h=>UInt8.toNat_inj.1 (by omega),fun h=>by rw[h]⟩
theorem sg (c:UInt8) (s:ByteArray) (hs:s.size≤1099511627776) (most:Nat):∀(d i f n:Nat) (out:List ByteArray),i+d=s.size→f≤i→out.length+n=most→out.length≤i →
  Ev (fun k=>bx.l0 k s (c.toNat:Int) (most:Int) out (f:Int) (i:Int)) (out ++ (eC c n ((s.data.toList.drop f).take (i - f)) (s.data.toList.drop i)).map mkT):=by
 have hlen:=fD s;have fin:∀(i f:Nat) (out:List ByteArray),f≤i→i≤s.size→out.length≤i→∀k,bx.j1 (k+1) s (c.toNat:Int) (most:Int) out (f:Int) (i:Int) false=some (out ++ [mkT (s.data.toList.drop f)]):=by
  intro i f out hf hi ho k;have e:=kx s f s.size;rw[List.take_of_length_le (by rw[List.length_drop];omega)] at e;rw[bx.j1.eq_2];simp only[if_neg (show ¬(false=true) by decide),if_pos (show 0≤(f:Int) by omega),if_pos (show (f:Int)≤(s.size:Int) by omega),if_pos (show out.length<8796093022208 by omega),dI,e]
 have finE:∀(i f:Nat) (out:List ByteArray),f≤i→i≤s.size→out.length≤i→Ev (fun k=>bx.j1 k s (c.toNat:Int) (most:Int) out (f:Int) (i:Int) false) (out ++ [mkT (s.data.toList.drop f)]):=by
  intro i f out hf hi ho;refine⟨1,fun k hk=>?_⟩;obtain⟨k,rfl⟩:∃m,k=m+1:=⟨k - 1,by omega⟩;exact fin i f out hf hi ho k
 intro d;induction d with
 | zero=>
  intro i f n out hi hf hn ho;refine Ev.step (fun k=>bx.l0.eq_2 _ _ _ _ _ _ _) ?_;simp only[if_neg (show ¬((i:Int)<(s.size:Int)) by omega)];have e:=nr s.data.toList hf;have e0:s.data.toList.drop i = []:=List.drop_eq_nil_of_le (by omega);rw[e0,List.append_nil] at e;have hc:eC c n ((s.data.toList.drop f).take (i - f)) (s.data.toList.drop i) = [s.data.toList.drop f]:=by
   rw[e0,e];cases n <;> rfl
  rw[hc];exact finE i f out hf (by omega) ho
 | succ d ih=>
  intro i f n out hi hf hn ho;refine Ev.step (fun k=>bx.l0.eq_2 _ _ _ _ _ _ _) ?_;simp only[if_pos (show ((i:Int)<(s.size:Int)) by omega)];cases n with
  | zero=>
   rw[decide_eq_false (show ¬(out.length:Int)<(most:Int) by omega),iw,nr _ hf];exact finE i f out hf (by omega) ho
  | succ n=>
   rw[decide_eq_true (show (out.length:Int)<(most:Int) by omega)];refine Ev.step (fun k=>bx.j1.eq_2 _ _ _ _ _ _ _ _) ?_;have hil:i<s.data.toList.length:=by omega
   have ed:s.data.toList.drop i=s.data.toList[i] :: s.data.toList.drop (i+1):=List.drop_eq_getElem_cons hil;rw[ed];simp only[if_true,if_pos (show 0≤(i:Int) by omega),if_pos (show ((i:Int)<(s.size:Int)) by omega),ql s i hil,rt,cn i (by omega)];by_cases hb:s.data.toList[i] = c
   ·have e:=kx s f i;rw[eC,if_pos hb];simp only[if_pos hb,if_pos (show 0≤(f:Int) by omega),if_pos (show (f:Int)≤(i:Int) by omega),if_pos (show (i:Int)≤(s.size:Int) by omega),if_pos (show out.length<8796093022208 by omega),dI,e];have h:=ih (i+1) (i+1) n (out ++ [mkT ((s.data.toList.drop f).take (i - f))]) (by omega) (Nat.le_refl _) (by simp;omega) (by simp;omega);rw[Nat.sub_self,List.take_zero,List.append_assoc] at h;exact h
   ·rw[eC,if_neg hb];simp only[if_neg hb];have h:=ih (i+1) f (n+1) out (by omega) (by omega) hn (by omega);rw[rc hf hil] at h;exact h
theorem mH (c:UInt8) (n:Nat) (s:ByteArray) (hs:s.size≤1099511627776):Ev (fun k=>bx.f k s (c.toNat:Int) (n:Int)) (cutT c n s):=by
 simp only[bx.f,cutT];have:=sg c s hs n s.size 0 0 n [] (by omega) (Nat.le_refl _) (by simp) (by simp);simpa using this
theorem lZ (s:ByteArray) (hs:s.size≤1048576):Ev (fun k=>bN.f k s) (jL s):=by
 have hlen:=iH 44 s;simp only[bN.f,cn s.size (by omega)];have h1:=mH 44 (s.size+1) s (by omega);rw[rS] at h1;refine Ev.bind h1 ?_;have h:=lR (en 44 s) (by omega) (fun x hx=>by have:=ks hx;omega) (en 44 s).length 0 [] (by omega) (by simp);rw[List.drop_zero] at h;exact h
theorem qi (s:ByteArray):(jL s).2=true↔mw s:=by
 unfold jL mw
 split
 ·rename_i h
  simp only[decide_eq_true_eq];exact⟨fun h2=>⟨h,h2⟩,fun h2=>h2.2⟩
 ·rename_i h
  exact⟨(fun h2=>by cases h2),fun h2=>absurd h2.1 h⟩
open Classical in
theorem mc (a:ByteArray) (b c:Int) (s:ByteArray) (hs:s.size≤1048576):Ev (fun k=>el.f k a b c s) (decide (eD s 60=true∧kH b s)):=by
 obtain⟨v,hv⟩:=kd s hs;have ht:=qi s;simp only[el.f];refine Ev.bind hv ?_;refine Ev.bind (lZ s hs) ?_;refine Ev.bind (ia s (by omega)) ?_;unfold kH
 cases hp:eD s 60 with
 | false=>simp only[if_neg (show ¬(false=true) by decide)];exact bv (fun h=>by cases h.1) (Ev.now _)
 | true=>
  simp only[if_true];have third:Ev (fun _:Nat=>some ((jL s).2)) (decide (mw s)):=by
   have e:(jL s).2=decide (mw s):=by rw[Bool.eq_iff_iff,decide_eq_true_eq];exact ht
   rw[e];exact Ev.now _
  by_cases h1:b=1
  ·simp only[if_pos h1];exact eI ⟨(by first | trivial | rfl),Or.inl h1⟩ (Ev.now _)
  ·simp only[if_neg h1];by_cases h2:b=2
   ·simp only[if_pos h2];cases hn:(jd s).2 with
    | true=>simp only[if_true];exact eI ⟨(by first | trivial | rfl),Or.inr (Or.inl ⟨h2,(by first | trivial | rfl)⟩)⟩ (Ev.now _)
    | false=>
     simp only[if_neg (show ¬(false=true) by decide),if_neg (show ¬b=3 by omega)];refine bv (fun h=>?_) (Ev.now _);rcases h.2 with h | ⟨_,h⟩ | ⟨h,_⟩
     ·exact h1 h
     ·first | exact absurd h (by simp) | cases h
     ·omega
   ·simp only[if_neg h2];by_cases h3:b=3
    ·simp only[if_pos h3];refine db ?_ third;exact⟨fun h=>⟨(by first | trivial | rfl),Or.inr (Or.inr ⟨h3,h⟩)⟩,fun h=>by
      rcases h.2 with h | ⟨h,_⟩ | ⟨_,h⟩
      ·exact absurd h h1
      ·exact absurd h h2
      ·exact h⟩
    ·simp only[if_neg h3];refine bv (fun h=>?_) (Ev.now _);rcases h.2 with h | ⟨h,_⟩ | ⟨h,_⟩
     ·exact h1 h
     ·exact h2 h
     ·exact h3 h
open Classical in
theorem km (l:List S92) (hn:l.length≤1048577) (hs:∀x∈l,x.f0.size≤1048576):∀(d i:Nat),i+d=l.length→Ev (fun k=>aJ.l0 k l (i:Int)) (decide (dF l i)):=by
 intro d;induction d with
 | zero=>
  intro i hi;refine Ev.step (fun k=>aJ.l0.eq_2 _ _ _) ?_;simp only[if_neg (show ¬((i:Int)<(l.length:Int)) by omega),dX,Option.bind_some];refine cV (gT (by omega)).symm ?_;refine fH fun _=>?_
  congr 1;exact decide_eq_decide.2 (by omega)
 | succ d ih=>
  intro i hi;have hst:=gL (l:=l) (j:=i) (by omega);have hsz:=hs l[i] (List.getElem_mem _);refine Ev.step (fun k=>aJ.l0.eq_2 _ _ _) ?_;simp only[if_pos (show ((i:Int)<(l.length:Int)) by omega),if_pos (show 0≤(i:Int) by omega),eX l i (by omega),dX,Option.bind_some];have hj2:∀(t o:Bool),((t || o)=true↔f9 l[i])→Ev (fun k=>aJ.j2 k l (i:Int) t o l[i].f0 l[i].f1 l[i].f2) (decide (dF l i)):=by
   intro t o hto;refine Ev.step (fun k=>aJ.j2.eq_2 _ _ _ _ _ _ _ _) ?_;refine Ev.bind (e7 l[i].f0 (by omega)) ?_;cases hnm:eW (ao l[i].f0) with
   | false=>
    simp only[if_neg (show ¬(false=true) by decide)];refine cZ (fun h=>?_) (Ev.now _);have:=gl.2 (hst.1 h).1.1;rw[hnm] at this;cases this
   | true=>
    simp only[if_true];obtain⟨r,hr,hq⟩:=eJ l l[i].f0 (by omega);refine Ev.bind hr ?_;by_cases he:r=(i:Int)
    ·have hfirst:∀m (hm:m<i),l[m].f0≠l[i].f0:=by
      rcases hq with hq | ⟨j,hj,h1,h2,h3⟩
      ·omega
      ·obtain rfl:j=i:=by omega
       exact h3
     simp only[if_pos he,cn i (by omega)];have hnext:=ih (i+1) (by omega);by_cases hp:f9 l[i]
     ·have hb:=hto.2 hp;have hgoal:Ev (fun k=>aJ.l0 k l ((i+1:Nat):Int)) (decide (dF l i)):=cV (hst.trans ⟨fun h=>h.2,fun h=>⟨⟨gl.1 hnm,hp,hfirst⟩,h⟩⟩).symm hnext;cases t with
      | true=>simp only[if_true];exact hgoal
      | false=>
       have ho:o=true:=by simpa using hb
       simp only[if_neg (show ¬(false=true) by decide),ho,if_true];exact hgoal
     ·have hb:(t || o)=false:=by rw[Bool.eq_false_iff];exact fun h=>hp (hto.1 h)
      have ht:t=false:=by cases t;rfl;simp at hb
      have ho:o=false:=by cases o;rfl;simp at hb
      simp only[ht,ho,if_neg (show ¬(false=true) by decide)];exact cZ (fun h=>hp (hst.1 h).1.2.1) (Ev.now _)
    ·simp only[if_neg he];refine cZ (fun h=>?_) (Ev.now _);have h4:=(hst.1 h).1.2.2;rcases hq with ⟨h1,h2⟩ | ⟨j,hj,h1,h2,h3⟩
     ·exact h2 l[i] (List.getElem_mem _) rfl
     ·rcases Nat.lt_trichotomy j i with h5 | h5 | h5
      ·exact h4 j h5 h2
      ·exact he (by omega)
      ·exact h3 i h5 rfl
  have hj1:∀(t:Bool),(t=true↔(l[i].f1=1∧1≤l[i].f2∧l[i].f2≤9))→Ev (fun k=>aJ.j1 k l (i:Int) t l[i].f0 l[i].f1 l[i].f2) (decide (dF l i)):=by
   intro t ht;refine Ev.step (fun k=>aJ.j1.eq_2 _ _ _ _ _ _ _) ?_;simp only[dX,Option.bind_some,decide_eq_true_eq];by_cases h2:2≤l[i].f1∧l[i].f1≤3
   ·simp only[if_pos h2];refine hj2 t _ ?_;unfold f9
    rw[Bool.or_eq_true,ht,beq_iff_eq];constructor
    ·rintro (h | h)
     ·exact .inl h
     ·exact .inr ⟨h2.1,h2.2,h⟩
    ·rintro (h | h)
     ·exact .inl h
     ·exact .inr h.2.2
   ·simp only[if_neg h2];refine hj2 t false ?_;unfold f9
    rw[Bool.or_false,ht];exact⟨.inl,fun h=>h.resolve_right (fun h3=>h2 ⟨h3.1,h3.2.1⟩)⟩
  by_cases h1:l[i].f1=1
  ·simp only[if_pos h1];refine hj1 _ ?_;rw[decide_eq_true_eq];exact⟨fun h=>⟨h1,h⟩,fun h=>h.2⟩
  ·simp only[if_neg h1];exact hj1 false ⟨(fun h=>by cases h),fun h=>absurd h.1 h1⟩
theorem gj (l:List S92) (hn:l.length≤1048577) (hs:∀x∈l,x.f0.size≤1048576):Ev (fun k=>aJ.f k l) (fu l):=km l hn hs l.length 0 (by omega)
open Classical in
theorem m0 (F:List S92) (hF:F.length≤1048576) (hFs:∀x∈F,x.f0.size≤1048576) (key:ByteArray) (l:List S86) (hk:key.size≤1048576) (hn:l.length≤1048576) (hs:∀x∈l,x.f0.size≤1048576∧x.f1.size≤1048576):∀(d i:Nat),i+d=l.length →
  Ev (fun k=>bo.l0 k F (i:Int) key l) (decide ((∀c∈l.drop i,eD c.f1 60=true∧kH (ee F c.f0) c.f1)∧fu F=true∧kt key l=true)):=by
 intro d;induction d with
 | zero=>
  intro i hi;refine Ev.step (fun k=>bo.l0.eq_2 _ _ _ _ _) ?_;simp only[if_neg (show ¬((i:Int)<(l.length:Int)) by omega)];rw[List.drop_eq_nil_of_le (by omega)];refine Ev.bind (gj F (by omega) hFs) ?_;cases hf:fu F with
  | false=>simp only[if_neg (show ¬(false=true) by decide)];exact bv (fun h=>by cases h.2.1) (Ev.now _)
  | true=>
   simp only[if_true];refine Ev.bind (me key l hk hn hs) ?_;cases hm:kt key l with
   | false=>exact bv (fun h=>by cases h.2.2) (Ev.now _)
   | true=>exact eI ⟨fun c hc=>by simp at hc,(by first | trivial | rfl),(by first | trivial | rfl)⟩ (Ev.now _)
 | succ d ih=>
  intro i hi;have hil:i<l.length:=by omega
  have hsz:=hs l[i] (List.getElem_mem _);obtain⟨r,hr,hq⟩:=eJ F l[i].f0 (by omega);refine Ev.step (fun k=>bo.l0.eq_2 _ _ _ _ _) ?_;rw[dj l i hil];simp only[if_pos (show ((i:Int)<(l.length:Int)) by omega),if_pos (show 0≤(i:Int) by omega),fJ l i hil,cn i (by omega)];refine Ev.bind hr ?_;rcases hq with ⟨rfl,hno⟩ | ⟨j,hj,rfl,hj2,hjb⟩
  ·simp only[if_pos (show (-1:Int)<0 by decide)];refine bv (fun h=>?_) (Ev.now _);have h1:=(h.1 l[i] (List.mem_cons_self ..)).2;unfold ee at h1
   rw[gA hno] at h1;rcases h1 with h1 | ⟨h1,_⟩ | ⟨h1,_⟩ <;> exact absurd h1 (by decide)
  ·have hk2:ee F l[i].f0=F[j].f1:=by unfold ee;rw[gC hj hj2 hjb]
   simp only[if_neg (show ¬(j:Int)<0 by omega),if_pos (show 0≤(j:Int) by omega),if_pos (show (j:Int)<(F.length:Int) by omega),eX F j hj];refine Ev.bind (mc _ _ _ l[i].f1 hsz.2) ?_;by_cases hc:eD l[i].f1 60=true∧kH F[j].f1 l[i].f1
   ·rw[decide_eq_true hc];simp only[if_true];refine db ⟨fun h=>⟨fun c hcm=>?_,h.2⟩,fun h=>⟨fun c hcm=>h.1 c (List.mem_cons_of_mem _ hcm),h.2⟩⟩ (ih (i+1) (by omega));rcases List.mem_cons.1 hcm with rfl | hcm
    ·rw[hk2];exact hc
    ·exact h.1 c hcm
   ·rw[decide_eq_false hc];simp only[if_neg (show ¬(false=true) by decide)];refine bv (fun h=>hc ?_) (Ev.now _);have:=h.1 l[i] (List.mem_cons_self ..);rw[hk2] at this;exact this
open Classical in
theorem mF (F:List S92) (hF:F.length≤1048576) (hFs:∀x∈F,x.f0.size≤1048576) (key:ByteArray) (l:List S86) (hk:key.size≤1048576) (hn:l.length≤1048576) (hs:∀x∈l,x.f0.size≤1048576∧x.f1.size≤1048576):Ev (fun k=>bo.f k F key l) (g5 F key l):=by
 simp only[bo.f,g5];have h:=m0 F hF hFs key l hk hn hs l.length 0 (by omega);rw[List.drop_zero] at h;refine db ?_ h;unfold kc
 exact⟨fun h=>⟨h.2.1,h.2.2,fun c hc=>(h.1 c hc).2⟩,fun h=>⟨fun c hc=>⟨((ly h.2.1).1 c hc).2,h.2.2 c hc⟩,h.1,h.2.1⟩⟩
theorem su (R:List S46) (hR:R.length≤1099511627776) (key:ByteArray):Ev (fun k=>cw.f k R key) (eh key 0 R):=by
 have main:∀(d i:Nat),i+d=R.length→Ev (fun k=>cw.l0 k R key (i:Int)) (eh key i (R.drop i)):=by
  intro d;induction d with
  | zero=>
   intro i hi;refine Ev.step (fun k=>cw.l0.eq_2 _ _ _ _) ?_;simp only[if_neg (show ¬((i:Int)<(R.length:Int)) by omega)];rw[List.drop_eq_nil_of_le (by omega),eh];exact Ev.now _
  | succ d ih=>
   intro i hi;have hil:i<R.length:=by omega
   refine Ev.step (fun k=>cw.l0.eq_2 _ _ _ _) ?_;rw[dj R i hil,eh];simp only[if_pos (show ((i:Int)<(R.length:Int)) by omega),if_pos (show (0:Int)≤(i:Int) by omega),fX R i hil,cn i (by omega),beq_iff_eq];by_cases h:R[i].f1.f0.toList=key.toList
   ·simp only[if_pos h];exact Ev.now _
   ·simp only[if_neg h];exact ih (i+1) (by omega)
 have:=main R.length 0 (by omega);simpa [cw.f] using this
open Classical in
theorem q3 (a b:List Int) (ha:a.length≤1099511627776):Ev (fun k=>cB.f k a b) (decide (a=b)):=by
 simp only[cB.f];by_cases hl:a.length=b.length
 ·simp only[if_pos (show (a.length:Int)=(b.length:Int) by omega)];have main:∀(d i:Nat),i+d=a.length→Ev (fun k=>cB.l0 k a b (i:Int)) (decide (a.drop i=b.drop i)):=by
   intro d;induction d with
   | zero=>
    intro i hi;refine Ev.step (fun k=>cB.l0.eq_2 _ _ _ _) ?_;simp only[if_neg (show ¬((i:Int)<(a.length:Int)) by omega)];rw[List.drop_eq_nil_of_le (by omega),List.drop_eq_nil_of_le (by omega)];exact eI rfl (Ev.now _)
   | succ d ih=>
    intro i hi;have hia:i<a.length:=by omega
    have hib:i<b.length:=by omega
    refine Ev.step (fun k=>cB.l0.eq_2 _ _ _ _) ?_;simp only[if_pos (show ((i:Int)<(a.length:Int)) by omega),if_pos (show (0:Int)≤(i:Int) by omega),if_pos (show ((i:Int)<(b.length:Int)) by omega),j5 a i hia,j5 b i hib,cn i (by omega)];by_cases h:a[i] = b[i]
    ·simp only[if_pos h];exact db ⟨fun h2=>(cD hia hib).2 ⟨h,h2⟩,fun h2=>((cD hia hib).1 h2).2⟩ (ih (i+1) (by omega))
    ·simp only[if_neg h];exact bv (fun h2=>h ((cD hia hib).1 h2).1) (Ev.now _)
  have:=main a.length 0 (by omega);simpa using this
 ·simp only[if_neg (show ¬(a.length:Int)=(b.length:Int) by omega)];exact bv (fun h=>hl (by rw[h])) (Ev.now _)
open Classical in
theorem jB:∀(a b:List S50),a.length=b.length→(∀p∈a,p.f1.length≤1099511627776)→Ev (fun k=>bd.ps k a b) (decide (a=b))
 | [],[],_,_=>eI rfl (fH (fun k=>by rw[bd.ps];intro _ _ _ _ h;cases h))
 | p :: a,q :: b,hl,hs=>by
  have ih:=jB a b (by simpa using hl) (fun x hx=>hs x (List.mem_cons_of_mem _ hx));have hi:=q3 p.f1 q.f1 (hs p (by simp));simp only[bd.ps];by_cases h0:p.f0=q.f0
  ·simp only[if_pos h0];refine Ev.bind hi ?_;by_cases h1:p.f1=q.f1
   ·rw[decide_eq_true h1];simp only[if_true];exact db ⟨fun h=>by rw[h,oC.2 ⟨h0,h1⟩],fun h=>(List.cons.inj h).2⟩ ih
   ·rw[decide_eq_false h1];simp only[if_neg (show ¬(false=true) by decide)];exact bv (fun h=>h1 (by rw[(List.cons.inj h).1])) (Ev.now _)
  ·simp only[if_neg h0];exact bv (fun h=>h0 (by rw[(List.cons.inj h).1])) (Ev.now _)
 | [],_ :: _,h,_=>by simp at h
 | _ :: _,[],h,_=>by simp at h
open Classical in
theorem jE:∀(a b:List S76),a.length=b.length→(∀e∈a,∀p∈e.f2,p.f1.length≤1099511627776)→Ev (fun k=>bd.es k a b) (decide (a=b))
 | [],[],_,_=>eI rfl (fH (fun k=>by rw[bd.es];intro _ _ _ _ h;cases h))
 | p :: a,q :: b,hl,hs=>by
  have ih:=jE a b (by simpa using hl) (fun x hx=>hs x (List.mem_cons_of_mem _ hx));simp only[bd.es,toList_inj];by_cases h0:p.f0=q.f0
  ·simp only[if_pos h0];by_cases h1:p.f1=q.f1
   ·simp only[if_pos h1];by_cases h2:p.f2.length=q.f2.length
    ·simp only[if_pos h2];refine Ev.bind (jB p.f2 q.f2 h2 (hs p (by simp))) ?_;by_cases h3:p.f2=q.f2
     ·rw[decide_eq_true h3];simp only[if_true];exact db ⟨fun h=>by rw[h,l7.2 ⟨h0,h1,h3⟩],fun h=>(List.cons.inj h).2⟩ ih
     ·rw[decide_eq_false h3];simp only[if_neg (show ¬(false=true) by decide)];exact bv (fun h=>h3 (by rw[(List.cons.inj h).1])) (Ev.now _)
    ·simp only[if_neg h2];exact bv (fun h=>h2 (by rw[(List.cons.inj h).1])) (Ev.now _)
   ·simp only[if_neg h1];exact bv (fun h=>h1 (by rw[(List.cons.inj h).1])) (Ev.now _)
  ·simp only[if_neg h0];exact bv (fun h=>h0 (by rw[(List.cons.inj h).1])) (Ev.now _)
 | [],_ :: _,h,_=>by simp at h
 | _ :: _,[],h,_=>by simp at h
open Classical in
theorem mo (a b:List S76) (hs:∀e∈a,∀p∈e.f2,p.f1.length≤1099511627776):Ev (fun k=>bd.f k a b) (decide (a=b)):=by
 simp only[bd.f];by_cases hl:a.length=b.length
 ·simp only[if_pos hl];exact jE a b hl hs
 ·simp only[if_neg hl];exact bv (fun h=>hl (by rw[h])) (Ev.now _)
open Classical in
theorem kX {F:List S92} {R:List S46} {E:List S76} (hz:fo F R E) (n:Int):∀(d i:Nat),i+d=R.length→(∀(j:Nat) (h:j<R.length),j<i→pz F R n j h)→Ev (fun k=>ay.l0 k (i:Int) F R E n) (decide (dy F R n i∧iR F R E n)):=by
 have hr:=hz.r;intro d;induction d with
 | zero=>
  intro i hi hprev;have hall:dy F R n 0:=fun j hj _=>hprev j hj (by omega)
  have hend:dy F R n i:=fun j hj hij=>by omega
  refine Ev.step (fun k=>ay.l0.eq_2 _ _ _ _ _ _) ?_;simp only[if_neg (show ¬((i:Int)<(R.length:Int)) by omega)];refine Ev.bind (gj F (by have:=hz.f;omega) hz.fs) ?_;cases hf:fu F with
  | false=>simp only[if_neg (show ¬(false=true) by decide)];exact bv (fun h=>by have:=h.2.1;rw[hf] at this;cases this) (Ev.now _)
  | true=>
   simp only[if_true];by_cases h8:R.length≤8
   ·simp only[if_pos (show ((R.length:Int)≤8) by omega),dX,Option.bind_some];by_cases hn:0≤n∧n≤999999999
    ·simp only[decide_eq_true hn,if_true];obtain⟨L,h1,h2,h3⟩:=mi F hz.f R (ik hall) h8;refine Ev.bind h2 ?_;refine Ev.bind (mo L E (fun e he p hp=>by have:=((h3.2 e he).2).2 p hp;omega)) ?_;refine db ⟨fun h=>⟨hend,hf,h8,hn,by rw[← h];exact h2⟩,fun h=>iz h2 h.2.2.2.2⟩ (Ev.now (decide (L=E)))
    ·simp only[decide_eq_false hn,if_neg (show ¬(false=true) by decide)];exact bv (fun h=>hn h.2.2.2.1) (Ev.now _)
   ·simp only[if_neg (show ¬((R.length:Int)≤8) by omega)];exact bv (fun h=>h8 h.2.2.1) (Ev.now _)
 | succ d ih=>
  intro i hi hprev;have hil:i<R.length:=by omega
  have hs:=hz.rs _ (List.getElem_mem hil);have next:pz F R n i hil→Ev (fun k=>ay.l0 k ((i+1:Nat):Int) F R E n) (decide (dy F R n i∧iR F R E n)):=fun hp=>
   db ⟨fun h=>⟨(ec hil).2 ⟨hp,h.1⟩,h.2⟩,fun h=>⟨((ec hil).1 h.1).2,h.2⟩⟩ (ih (i+1) (by omega) (fun j hj hji=>by
    rcases Nat.lt_or_ge j i with hlt | hge
    ·exact hprev j hj hlt
    ·obtain rfl:j=i:=by omega
     exact hp))
  have stop:¬pz F R n i hil→Ev (fun _:Nat=>some false) (decide (dy F R n i∧iR F R E n)):=fun hp=>bv (fun h=>hp ((ec hil).1 h.1).1) (Ev.now _)
  refine Ev.step (fun k=>ay.l0.eq_2 _ _ _ _ _ _) ?_;simp only[if_pos (show ((i:Int)<(R.length:Int)) by omega),if_pos (show (0:Int)≤(i:Int) by omega),fX R i hil,cn i (by omega)];refine Ev.bind (mF F hz.f hz.fs R[i].f1.f0 R[i].f1.f1 hs.1 hs.2.1 hs.2.2) ?_;cases hd:g5 F R[i].f1.f0 R[i].f1.f1 with
  | false=>simp only[if_neg (show ¬(false=true) by decide)];exact stop (fun h=>by have:=h.1;rw[hd] at this;cases this)
  | true=>
   simp only[if_true];refine Ev.bind (su R (by omega) R[i].f1.f0) ?_;by_cases hk:eh R[i].f1.f0 0 R=(i:Int)
   ·simp only[if_pos hk,dX,Option.bind_some];by_cases hin:0≤R[i].f0∧R[i].f0≤wrap64 (n - 1)
    ·simp only[decide_eq_true hin,if_true];by_cases h0:0<i
     ·obtain⟨m,rfl⟩:∃m,i=m+1:=⟨i - 1,by omega⟩;simp only[if_pos (show ((m+1:Nat):Int)>0 by omega),pE m (by omega),if_pos (show (0:Int)≤(m:Int) by omega),if_pos (show ((m:Int)<(R.length:Int)) by omega),fX R m (by omega)];by_cases ho:R[m].f0≥R[m+1].f0
      ·simp only[if_pos ho];exact stop (fun h=>by have h2:R[m].f0<R[m+1].f0:=h.2.2.2 h0;omega)
      ·simp only[if_neg ho];exact next ⟨hd,hk,hin,fun _=>by show R[m].f0<R[m+1].f0;omega⟩
     ·simp only[if_neg (show ¬((i:Int)>0) by omega)];exact next ⟨hd,hk,hin,fun h=>absurd h h0⟩
    ·simp only[decide_eq_false hin,if_neg (show ¬(false=true) by decide)];exact stop (fun h=>hin h.2.2.1)
   ·simp only[if_neg hk];exact stop (fun h=>hk h.2.1)
theorem kY {F:List S92} {R:List S46} {E:List S76} (hz:fo F R E) (n:Int):Ev (fun k=>ay.f k F R E n) (eQ F R E n):=by
 have:=kX hz n R.length 0 (by omega) (fun j hj h=>by omega);simpa [ay.f,eQ] using this
theorem o5 (s p:ByteArray):dz.f s p=some (dJ s p):=by
 unfold dz.f dJ
 split
 ·rw[if_pos (by omega)]
 ·rfl
theorem i7 (F:List S92) (R:List S46) (E:List S76) (n:Int) (f p:ByteArray) (hE:E.length≤1099511627776):∀(d i:Nat) (acc:List ByteArray),i+d=E.length→acc.length≤i→Ev (fun k=>bl.l0 k f p acc (i:Int) F R E n) (acc ++ eA f p (E.drop i)):=by
 intro d;induction d with
 | zero=>
  intro i acc hi ha;refine Ev.step (fun k=>bl.l0.eq_2 _ _ _ _ _ _ _ _ _) ?_;simp only[if_neg (show ¬((i:Int)<(E.length:Int)) by omega)];rw[List.drop_of_length_le (by omega),eA,List.append_nil];exact Ev.now _
 | succ d ih=>
  intro i acc hi ha;have hl:i<E.length:=by omega
  refine Ev.step (fun k=>bl.l0.eq_2 _ _ _ _ _ _ _ _ _) ?_;rw[List.drop_eq_getElem_cons hl,eA];simp only[if_pos (show ((i:Int)<(E.length:Int)) by omega),if_pos (show 0≤(i:Int) by omega),fE E i hl,o5,Option.bind_some,cn i (by omega)];by_cases h1:E[i].f0.toList=f.toList
  ·simp only[if_pos h1];by_cases h2:dJ E[i].f1 p=true
   ·simp only[if_pos h2,if_pos (show acc.length<8796093022208 by omega)];have:=ih (i+1) (acc ++ [E[i].f1]) (by omega) (by simp;omega);rwa [List.append_assoc] at this
   ·simp only[if_neg h2];exact ih (i+1) acc (by omega) (by omega)
  ·simp only[if_neg h1];exact ih (i+1) acc (by omega) (by omega)
theorem ja {F:List S92} {R:List S46} {E:List S76} (hz:fo F R E) (n:Int) (f p:ByteArray):Ev (fun k=>bl.f k F R E n f p) (ff F R E n f p):=by
 have he:=hz.e;simp only[bl.f,Option.bind_some];refine Ev.bind (kY hz n) ?_;unfold ff
 by_cases hb:eQ F R E n=true
 ·simp only[if_pos hb];exact i7 F R E n f p (by omega) E.length 0 [] (by omega) (by simp)
 ·simp only[if_neg hb];exact Ev.now _
open Classical in
theorem pS (a b:List ByteArray) (hn:a.length<4611686018427387904) (hl:a.length=b.length):∀(d i:Nat),i+d=a.length→Ev (fun k=>bY.l0 k a b (i:Int)) (decide (a.drop i=b.drop i)):=by
 intro d;induction d with
 | zero=>
  intro i hi;refine Ev.step (fun k=>bY.l0.eq_2 _ _ _ _) ?_;simp only[if_neg (show ¬((i:Int)<(a.length:Int)) by omega)];exact qM (by rw[List.drop_eq_nil_of_le (by omega),List.drop_eq_nil_of_le (by omega)]) (Ev.now _)
 | succ d ih=>
  intro i hi;refine Ev.step (fun k=>bY.l0.eq_2 _ _ _ _) ?_;simp only[if_pos (show ((i:Int)<(a.length:Int)) by omega),if_pos (show ((i:Int)<(b.length:Int)) by omega),if_pos (show 0≤(i:Int) by omega),ej a i (by omega),ej b i (by omega),cn i (by omega),toList_inj];by_cases h:a[i]'(by omega)=b[i]'(by omega)
  ·simp only[if_pos h];refine cV ?_ (ih (i+1) (by omega));rw[cD (a:=a) (b:=b) (j:=i) (by omega) (by omega)];exact⟨fun h2=>⟨h,h2⟩,fun h2=>h2.2⟩
  ·simp only[if_neg h];refine cZ (fun h2=>?_) (Ev.now _);rw[cD (a:=a) (b:=b) (j:=i) (by omega) (by omega)] at h2;exact h h2.1
open Classical in
theorem pJ (a b:List ByteArray) (hn:a.length<4611686018427387904):Ev (fun k=>bY.f k a b) (decide (a=b)):=by
 simp only[bY.f];by_cases hl:a.length=b.length
 ·simp only[if_pos (show (a.length:Int)=(b.length:Int) by omega)];exact pS a b hn hl a.length 0 (by omega)
 ·simp only[if_neg (show ¬(a.length:Int)=(b.length:Int) by omega)];exact cZ (fun h=>hl (by rw[h])) (Ev.now _)
theorem n5 (a:List ByteArray) (hn:a.length<4611686018427387904):Ev (fun k=>bY.f k a a) true:=by
 have:=pJ a a hn;rwa [decide_eq_true rfl] at this
theorem FnIndexTerms:ab.PureX:=by
 intro l hw;refine Ev.rounds (g:=fun k=>ab.f k l) ?_;simp only[ab.f];by_cases hg:(l.length:Int)>1048576
 ·simp only[if_pos hg];exact Ev.now _
 simp only[if_neg hg];obtain⟨F,R,E,n,f,p,h1,hz,hp⟩:=jy l hw.2;have hL:=kF hz n f p;refine Ev.bind h1 ?_;refine Ev.bind (fO hz n f p) ?_;refine Ev.bind (ja hz n f p) ?_;refine Ev.bind (n5 _ (by omega)) ?_;simp only[if_true];refine Ev.bind (fO hz n f (⟨#[]⟩:ByteArray)) ?_;exact kU hz n f p hp _ _ (oB hz n f) hL _ 0 0 (Nat.zero_add _) (Nat.zero_le _) (by rw[List.drop_zero,List.drop_zero];exact lv F R E n f p)
end Go.Proofs.YtnjjdojonflckaaGreatDoor.Pure
