/- Contracts of Go functions, each told as a plain Lean function. -/
import Derived.Test.YtnjjdojonflckaaGreatDoorKPFnIndexPostsx7
namespace Go.Proofs.YtnjjdojonflckaaGreatDoor.PFnIndexPosts
open Go.RowKit Go.Proofs.YtnjjdojonflckaaGreatDoorW.PrintWords Go.Proofs.YtnjjdojonflckaaGreatDoorW.PrintLast Go.Proofs.YtnjjdojonflckaaGreatDoorW.PrintMore
attribute [local go_sem] be bc bQ bS cu cw bD bC bT bR
set_option linter.unusedVariables false
set_option linter.unusedSimpArgs false
set_option maxHeartbeats 8000000
set_option maxRecDepth 100000
section
open Go Go.RowKit Go.Proofs.YtnjjdojonflckaaGreatDoor.Ent
section
open Go Go.RowKit Go.Proofs.YtnjjdojonflckaaGreatDoorW.PrintWords
abbrev kI:Kd Int:=Kd.int .i64
theorem qy {w:World} {base:Nat} {ok:Nat→Prop} {v:Value} {ps:List S50} (h:Kd.S k50 50 w base ok v ps) (n:Nat) (p:S50) (hp:ps[n]? = some p) (hn:n+1=ps.length) :
  ∃g cap u,∃oki:Nat→Prop,v = .slice (some ⟨g,0,none⟩) ps.length cap∧g<w.heap.size∧base≤g∧ok g∧(∃cells,w.heap[g]? = some (.cells cells 50 (0,0))) ∧
   w.cell? ⟨g,n*2,none⟩=some (.int .i64 p.f0)∧w.cell? ⟨g,n*2+1,none⟩=some u∧w.frozen? ⟨g,n*2+1,none⟩=false ∧
   kI.R 3 w base oki u p.f1∧(∀k,oki k→ok k∧k<w.heap.size∧k≠g) ∧
   ∀(w1:World) (u1:Value) (x:Int) (okp:Nat→Prop),w.grownBy w1 u.ownBlock→kI.R 3 w1 base okp u1 (p.f1 ++ [x])→(∀k,okp k→oki k∨w.heap.size≤k) →
    Kd.S k50 50 (w1.setCell ⟨g,n*2+1,none⟩ u1) base (fun k=>ok k∨w.heap.size≤k) v (ps.set n ⟨p.f0,p.f1 ++ [x]⟩)∧w1.grownBy (w1.setCell ⟨g,n*2+1,none⟩ u1) (some g):=by
 obtain⟨g,cap,rfl,hbase,hlt,hcells⟩:=Kd.S_form h au;have hokg:ok g:=(Kd.S_R h).1 g (by simp[Value.ownBlock]);have hA:Kd.S k50 50 w base (fun k=>(ok k∨w.heap.size≤k)∧¬(w.heap.size≤k)) (.slice (some ⟨g,0,none⟩) ps.length cap) ps:=
  Kd.S_mono (Kd.S_bound h) (fun k hk=>⟨.inl hk.1,nx⟩)
 obtain⟨oki,c,hcl,hM,hcc,hfr,hoki,hH⟩:=Kd.S_elem hA z50 (n:Int) au au;have hget:ps.getD ((n:Int)).toNat z50=p:=by simp[List.getD_eq_getElem?_getD,hp]
 rw[hget] at hM;obtain⟨u,rfl,hu⟩:=rx hM;have e2:k50.sz=2:=rfl;have hc0:=hcc 0 _ rfl;have hc1:=hcc 1 _ rfl;have hf1:=hfr 1;simp only[e2,Int.toNat_natCast,Nat.add_zero] at hc0 hc1 hf1;refine⟨g,cap,u,oki,rfl,hlt,hbase,hokg,hcells,hc0,hc1,hf1,hu,fun k hk=>⟨(hoki k hk).1.1.elim id (fun h2=>absurd h2 (hoki k hk).1.2),by have:=(hoki k hk).1.2;omega,(hoki k hk).2⟩,fun w1 u1 x okp hg hR hok=>?_⟩;have hH1:=Kd.H_grown hH hg (fun k hk=>hu.1 k hk);have hM1:=jJ w1 base okp (⟨p.f0,p.f1 ++ [x]⟩:S50) hR;have hz:=Kd.S_seg (okg:=fun k=>w.heap.size≤k) hH1 au au (seg:=[u1]) (j:=1) (by show 1+1≤2;omega) (x':=(⟨p.f0,p.f1 ++ [x]⟩:S50)) (okp:=okp) hM1 hok (fun k hk=>⟨.inr hk,fun he=>by subst he;omega⟩);simp only[e2,Int.toNat_natCast] at hz;exact hz
end
section
open Go Go.RowKit Go.Proofs.YtnjjdojonflckaaGreatDoorW.PrintWords
abbrev Pst:=S50
def ey (ps:List Pst) (id x:Int):List Pst:=
 match ps.getLast? with
 | none=>[⟨id,[x]⟩]
 | some q=>if q.f0=id then ps.set (ps.length - 1) ⟨q.f0,q.f1 ++ [x]⟩ else ps ++ [⟨id,[x]⟩]
def stepG:List (Pl × List Pst)→Pl→Int→Int→List (Pl × List Pst)
 | [],p,id,x=>[(p,ey [] id x)]
 | g :: G,p,id,x=>if g.1=p then(p,ey g.2 id x) :: G else g :: stepG G p id x
theorem nf:∀(G:List (Pl × List Pst)) (p:Pl) (id x:Int),(∀g∈G,g.1≠p)→stepG G p id x=G ++ [(p,ey [] id x)]
 | [],_,_,_,_=>rfl
 | g :: G,p,id,x,h=>by
  rw[stepG,if_neg (h g bb),nf G p id x (fun y hy=>h y (List.mem_cons_of_mem _ hy))];rfl
theorem ny:∀(G:List (Pl × List Pst)) (p:Pl) (id x:Int) (j:Nat) (g:Pl × List Pst),(G.map (·.1)).Nodup→G[j]? = some g→g.1=p→stepG G p id x=G.set j (p,ey g.2 id x)
 | [],_,_,_,j,g,_,h,_=>by simp at h
 | y :: G,p,id,x,0,g,_,h,hp=>by
  obtain rfl:y=g:=by simpa using h
  rw[stepG,if_pos hp];rfl
 | y :: G,p,id,x,j+1,g,hn,h,hp=>by
  have h':G[j]? = some g:=by simpa using h
  rw[List.map_cons,List.nodup_cons] at hn;have hne:y.1≠p:=fun e=>hn.1 (by rw[e,← hp];exact List.mem_map.2 ⟨g,List.mem_of_getElem? h',rfl⟩)
  rw[stepG,if_neg hne,ny G p id x j g hn.2 h' hp];rfl
theorem rf (G:List (Pl × List Pst)) (p:Pl) (id x:Int) (j:Nat) (ps:List Pst) (hn:(G.map (·.1)).Nodup) (h:(j=G.length∧ps = [] ∧ ∀g∈G,g.1≠p)∨∃g,G[j]? = some g∧g.1=p∧g.2=ps):pE G j (p,ey ps id x)=stepG G p id x:=by
 rcases h with ⟨rfl,rfl,h⟩ | ⟨g,hg,hp,rfl⟩
 ·unfold pE
  rw[if_neg au,nf G p id x h]
 ·unfold pE
  rw[if_pos (List.getElem?_eq_some_iff.1 hg).1,ny G p id x j g hn hg hp]
def LenG (c:Nat) (G:List (Pl × List Pst)):Prop:=G.length≤c∧∀g∈G,g.2.length≤c∧∀q∈g.2,q.f1.length≤c
def LenP (c:Nat) (ps:List Pst):Prop:=ps.length≤c∧∀q∈ps,q.f1.length≤c
theorem LenP.step {c:Nat} {ps:List Pst} (h:LenP c ps) (id x:Int):LenP (c+1) (ey ps id x):=by
 have hm:LenP (c+1) ps:=⟨by have:=h.1;omega,fun q hq=>by have:=h.2 q hq;omega⟩;unfold ey
 cases hl:ps.getLast? with
 | none=>exact⟨bb,fun q hq=>by rw[List.mem_singleton.1 hq];simp⟩
 | some q=>
  have hq:q∈ps:=List.mem_of_getLast? hl;have h2:=h.2 q hq;simp only;split
  ·refine⟨by rw[List.length_set];exact hm.1,fun y hy=>?_⟩;rcases List.mem_or_eq_of_mem_set hy with hy | hy
   ·exact hm.2 y hy
   ·rw[hy];simp;omega
  ·refine⟨by have:=h.1;simp;omega,fun y hy=>?_⟩;rcases List.mem_append.1 hy with hy | hy
   ·exact hm.2 y hy
   ·rw[List.mem_singleton.1 hy];simp
theorem LenG.at {c:Nat} {G:List (Pl × List Pst)} (h:LenG c G) {p:Pl} {j:Nat} {ps:List Pst} (hj:(j=G.length∧ps = [] ∧ ∀g∈G,g.1≠p)∨∃g,G[j]? = some g∧g.1=p∧g.2=ps):LenP c ps:=by
 rcases hj with ⟨_,rfl,_⟩ | ⟨g,hg,_,rfl⟩
 ·exact⟨Nat.zero_le _,bb⟩
 ·exact h.2 g (List.mem_of_getElem? hg)
theorem LenG.step {c:Nat} : ∀ {G:List (Pl × List Pst)} (_h:∀g∈G,LenP c g.2) (p:Pl) (id x:Int),(stepG G p id x).length≤G.length+1∧∀g∈stepG G p id x,LenP (c+1) g.2
 | [],_,p,id,x=>⟨by simp[stepG],fun g hg=>by
   rw[stepG,List.mem_singleton] at hg;rw[hg];exact LenP.step (c:=c) (ps:=[]) ⟨Nat.zero_le _,bb⟩ id x⟩
 | y :: G,h,p,id,x=>by
  have hw:∀g∈G,LenP (c+1) g.2:=fun g hg=>by have:=h g (List.mem_cons_of_mem _ hg);exact⟨by have:=this.1;omega,fun q hq=>by have:=this.2 q hq;omega⟩
  have hy:=h y bb;rw[stepG];split
  ·refine⟨bb,fun g hg=>?_⟩;rcases List.mem_cons.1 hg with hg | hg
   ·rw[hg];exact LenP.step hy id x
   ·exact hw g hg
  ·have ih:=LenG.step (c:=c) (G:=G) (fun g hg=>h g (List.mem_cons_of_mem _ hg)) p id x;refine⟨by simp;exact ih.1,fun g hg=>?_⟩;rcases List.mem_cons.1 hg with hg | hg
   ·rw[hg];exact⟨by have:=hy.1;omega,fun q hq=>by have:=hy.2 q hq;omega⟩
   ·exact ih.2 g hg
theorem LenG.next {c:Nat} {G:List (Pl × List Pst)} (h:LenG c G) (p:Pl) (id x:Int):LenG (c+1) (stepG G p id x):=by
 have:=LenG.step (c:=c) (G:=G) h.2 p id x;exact⟨by have:=this.1;have:=h.1;omega,this.2⟩
def gf (id:Int) (name:ByteArray):List ByteArray→Int→List (Pl × List Pst)→List (Pl × List Pst)
 | [],_,G=>G
 | t :: ts,x,G=>gf id name ts (x+1) (if t.size=0 then G else stepG G (name,t) id x)
end
section
open Go Go.RowKit Go.Proofs.YtnjjdojonflckaaGreatDoorW.PrintWords Go.Proofs.YtnjjdojonflckaaGreatDoorW.PrintLast Go.Proofs.YtnjjdojonflckaaGreatDoorW.PrintMore Go.Proofs.YtnjjdojonflckaaGreatDoor.Ent
abbrev kPs:Kd (List S50):=sliceS 50 k50
def kE:Kd S76:=Kd.iso (Kd.pair Kd.string (Kd.pair Kd.string kPs)) (fun x:S76=>(x.f0,x.f1,x.f2))
theorem pl {w:World} {base:Nat} {ok:Nat→Prop} {x:S76} {cs:List Value} (h:kE.M w base ok x cs):∃v2,cs = [.string x.f0,.string x.f1,v2] ∧ Kd.S k50 50 w base ok v2 x.f2:=by
 obtain⟨_,_,rfl,rfl,⟨_,_,rfl,rfl,⟨v2,rfl,g⟩⟩⟩:=h;exact⟨v2,rfl,g⟩
theorem pX (w:World) (base:Nat) (ok:Nat→Prop) (x:S76) {v2:Value} (g2:Kd.S k50 50 w base ok v2 x.f2):kE.M w base ok x [.string x.f0,.string x.f1,v2]:=⟨[.string x.f0],[.string x.f1,v2],rfl,rfl,⟨[.string x.f1],[v2],rfl,rfl,⟨v2,rfl,g2⟩⟩⟩
theorem kE_k76 {w:World} {base:Nat} {ok:Nat→Prop} {x:S76} {cs:List Value} (h:kE.M w base ok x cs):k76.M w base ok x cs:=by
 obtain⟨v2,rfl,g⟩:=pl h;exact qJ w base ok x (Kd.S_R g)
theorem qD {w:World} {base:Nat} {ok:Nat→Prop} {v:Value} {xs:List S76} (h:Kd.S kE 76 w base ok v xs):Kd.S k76 76 w base ok v xs:=by
 obtain⟨f,h⟩:=h;exact⟨f,Kd.R_imp (d:=Kd.tag f kE) (d':=Kd.tag f k76) rfl (fun _ _ _ _ _ hM=>kE_k76 hM) h⟩
theorem rE (a1 a2:ByteArray) (a3 a4:Int) (w1:World) (b:Nat) (hb:b≤w1.heap.size):kE.M (((w1.alloc (.cells #[.int .i64 a4] 3)).alloc (.cells #[.int .i64 a3,.slice (some ⟨w1.heap.size,0,none⟩) 1 1] 50)).alloc (.cells #[.string a1,.string a2,.slice (some ⟨w1.heap.size+1,0,none⟩) 1 1] 76)).drew b (fun k=>k=w1.heap.size∨k=w1.heap.size+1) ⟨a1,a2,[⟨a3,[a4]⟩]⟩ [.string a1,.string a2,.slice (some ⟨w1.heap.size+1,0,none⟩) 1 1]:=by
 have hk:∀(o o' o'':Obj),((((w1.alloc o).alloc o').alloc o'').drew).heap.size=w1.heap.size+3:=fun o o' o''=>by simp
 refine pX _ _ _ _ (v2:=.slice (some ⟨w1.heap.size+1,0,none⟩) 1 1) ?_;refine Kd.S_drew (Kd.S_alloc ?_ _);have hI:(Kd.int .i64).R 3 (w1.alloc (.cells #[.int .i64 a4] 3)) b (fun k=>k=w1.heap.size) (.slice (some ⟨w1.heap.size,0,none⟩) 1 1) [a4]:=by
  have h:=lq (enc:=Value.int .i64) w1 b 3 [a4] hb bb;exact Kd.R_of_own h (fun k hk=>by simpa [Value.ownBlock] using hk.symm)
 have hrep:=Kd.reps_tag (d:=k50) (w:=w1.alloc (.cells #[.int .i64 a4] 3)) (base:=b) (ok:=fun k=>k=w1.heap.size) (xs:=[⟨a3,[a4]⟩]) (inner:=[.int .i64 a3,.slice (some ⟨w1.heap.size,0,none⟩) 1 1]) (fun j k=>j=0∧k=w1.heap.size) (fun i j k h1 h2=>h1.1.trans h2.1.symm) (fun j k h=>h.2) rfl (fun j x hx=>by
  cases j with
  | zero=>
   obtain rfl:(⟨a3,[a4]⟩:S50)=x:=by simpa using hx
   exact jJ _ _ _ _ (Kd.R_mono hI (fun k hk=>⟨rfl,hk⟩))
  | succ j=>simp at hx)
 obtain⟨f,hf⟩:=hrep;have hown:=World.ownsRow_lit (base:=b) (e:=50) (size:=2) (w1.alloc (.cells #[.int .i64 a4] 3)) #[.int .i64 a3,.slice (some ⟨w1.heap.size,0,none⟩) 1 1] 1 (by simp;omega) (by simp[maxLen]) bb;have hsz:(w1.alloc (.cells #[.int .i64 a4] 3)).heap.size=w1.heap.size+1:=by simp
 rw[hsz] at hown;refine⟨f,fun k hk=>?_,_,hown,?_⟩
 ·have:w1.heap.size+1=k:=by simpa [Value.ownBlock] using hk
  omega
 ·refine hf.imp_ (fun p c hp=>(Kd.tag f k50).M_mono (fun k hk=>?_) ((Kd.tag f k50).M_move (w1:=(w1.alloc (.cells #[.int .i64 a4] 3)).alloc (.cells #[.int .i64 a3,.slice (some ⟨w1.heap.size,0,none⟩) 1 1] 50)) (fun k hk=>?_) hp))
  ·refine⟨.inl hk,fun he=>?_⟩;have:k=w1.heap.size+1:=by simpa [Value.ownBlock] using he
   omega
  ·exact Below.heap_alloc _ _ k (by rw[hsz];omega)
def wide (ps:List S50):Bool:=decide (ps.length<1000000) && ps.all (fun p=>decide (p.f1.length<1000000))
def cz.f (k:Nat) (l:List S76) (a1 a2:ByteArray) (a3 a4:Int):Option (List S76):=
 (bg.f k l a1 a2).bind fun r=>if r.2=true then
   (match l[r.1.toNat]? with
    | none=>none
    | some e=>if 0≤r.1∧e.f2 ≠ [] ∧ wide e.f2=true then some (l.set r.1.toNat ⟨e.f0,e.f1,ey e.f2 a3 a4⟩) else none)
  else if 0≤r.1∧r.1≤l.length∧l.length<1000000 then some (l.take r.1.toNat ++ [⟨a1,a2,[⟨a3,[a4]⟩]⟩] ++ l.drop r.1.toNat) else none
def Cl (B:Nat) (w:World) (v:Value) (rows:List (List Value)):Prop:=(Kd.raw 3).R 76 w B (fun _=>True) v rows∧∃b,v.ownBlock=some b∧b<w.heap.size
theorem Cl.below {B:Nat} {w w1:World} {v:Value} {rows:List (List Value)} (h:Cl B w v rows) (hb:Below w.heap.size w w1):Cl B w1 v rows:=by
 obtain⟨h1,b,h2,h3⟩:=h;exact⟨Kd.R_below h1 hb,b,h2,Nat.lt_of_lt_of_le h3 hb.size⟩
theorem kk {w w2 w3:World} (h:Below w.heap.size w w2) (k:Below w2.heap.size w2 w3):Below w.heap.size w w3:=h.trans (k.mono h.size)
theorem one3 (a b:ByteArray) (A:Option Addr) (n c:Nat):∀u ∈ [Value.string a,.string b,.slice A n c],u.oneCell'=true:=by
 intro u hu;simp only[List.mem_cons,List.not_mem_nil,or_false] at hu;rcases hu with rfl | rfl | rfl <;> rfl
theorem jW {w:World} {base:Nat} {ok:Nat→Prop} {c:List Value} (h:(Kd.raw 3).M w base ok c c):Reps ((Kd.raw 3).M w base ok) 3 [c] c:=by
 refine⟨by have:=h.2.1;simpa using this,fun j p hj=>?_⟩;cases j with
 | zero=>
  obtain rfl:c=p:=by simpa using hj
  have hl:c.length=3:=h.2.1;rw[Nat.zero_mul,List.drop_zero,List.take_of_length_le au];exact h
 | succ j=>simp at hj
section
variable {ops:Array Oper} {o:Oper} {a:Act} {Q:Exit→Act→World→Prop} {Kc:Act→World→Prop} {w0 W:World} {B:Nat}
theorem lw (hw:Region.wanted o (yielded ops a.tmps)=true) {N:Tmp} (hd:o.dst=some N) {rows:List (List Value)} {inner:List Value}
  (hrun:(execOp a.eval o).run Tryz.prog W = .ok (.value (.slice (some ⟨W.heap.size,0,none⟩) rows.length rows.length)) (W.alloc (.cells inner.toArray 76)))
  (hrep:Reps ((Kd.raw 3).M W B (fun _=>True)) 3 rows inner) (HB:Below B w0 W) (hbase:B≤W.heap.size) (hm:rows.length≤9223372036854775807)
  (h:∀v1 w1,Cl B w1 v1 rows→Below B w0 w1→Below W.heap.size W w1→(∀v r,Cl B W v r→v.ownBlock≠v1.ownBlock)→Kc (a.put o.dst v1) w1):if Region.wanted o (yielded ops a.tmps)=true then Oper.wp Tryz.prog o a W Kc Q else Kc (a.put o.dst undef) W:=by
 refine Kd.R_lit_step (Kd.raw 3) (w0:=w0) B 76 hw hd (ok:=fun _=>True) (okp:=fun _=>True) hrun hrep (fun _ hk=>hk) trivial HB hbase hm ?_;rintro v1 w1 ho hb hg ⟨b,hv,hge⟩;refine h v1 w1 ⟨ho,b,hv,Kd.R_lt ho b hv⟩ hb ⟨hg.os,hg.tape,hg.output,hg.size,fun k hk=>hg.block k hk bb⟩ ?_;rintro v r ⟨_,b',hv',hlt⟩ he;rw[hv,hv'] at he;injection he with he
 omega
theorem lH (hw:Region.wanted o (yielded ops a.tmps)=true) (s x:Operand) (ho:o.op = .call { callee:=.builtin .append,args:=#[s,x],argTypes:=#[25,25] }) {v:Value} {xs ys:List (List Value)} {A:Option Addr} {m c:Nat} (hs:a.eval s=v) (hx:a.eval x = .slice A m c)
  (HO:Cl B W v xs) (HR:(Kd.raw 3).C W A m ys) (HB:Below B w0 W) (hbase:B≤W.heap.size) (hl:xs.length+m≤3000000)
  (h:∀v1 w1,Cl B w1 v1 (xs ++ ys)→Below B w0 w1→(∀u r,Cl B W u r→u.ownBlock≠v.ownBlock→Cl B w1 u r∧u.ownBlock≠v1.ownBlock)→Kc (a.put o.dst v1) w1):if Region.wanted o (yielded ops a.tmps)=true then Oper.wp Tryz.prog o a W Kc Q else Kc (a.put o.dst undef) W:=by
 obtain⟨HO,b0,hv0,hlt0⟩:=HO;refine Kd.R_append_rows_step (Kd.raw 3) (Rr:=(Kd.raw 3).K W) (w0:=w0) B hw s x 25 76 (.agg #[(.string ⟨#[]⟩),(.string ⟨#[]⟩),(.slice none 0 0)]) 56 ho Tryz.underlying25 km rfl am au v xs ys A m c (fun _=>True) (fun _=>False) hs hx HO HR (fun _ _ h=>h) (fun _ h=>h.elim) (fun _ _=>trivial) HB hbase au ?_;intro v1 w1 ho hb hg hat;have hv1:∃b,v1.ownBlock=some b:=by
  rcases hat with hat | ⟨b,hb,_⟩
  ·exact⟨b0,hat.trans hv0⟩
  ·exact⟨b,hb⟩
 obtain⟨b1,hv1⟩:=hv1;refine h v1 w1 ⟨ho,b1,hv1,Kd.R_lt ho b1 hv1⟩ hb ?_;rintro u r ⟨hu,b,hub,hlt⟩ hne;refine⟨⟨Kd.R_grown1 hu rfl hg (Ne.symm hne),b,hub,Nat.lt_of_lt_of_le hlt hg.size⟩,fun he=>?_⟩;rcases hat with hat | ⟨b2,hb2,hge⟩
 ·exact hne (he.trans hat)
 ·rw[hub,hb2] at he;injection he with he
  omega
end
theorem rZ {i N1:Nat} {u v:Value} {l:List S76} {e:S76} {c:List Value} {rows:List (List Value)} {f:Nat→Nat} {B:Nat} {w w1 w2 w':World} {ok:Nat→Prop}
  (hM:∀(j:Nat) (x:S76) (c:List Value),l[j]? = some x→rows[j]? = some c→kE.M w B (fun k=>(ok k∧some k≠u.ownBlock)∧f k=j) x c) (hrl:rows.length=l.length) (hi:i≤l.length)
  (hP:kE.M w2 B (fun k=>k=N1∨k=N1+1) e c) (hR:Cl w2.heap.size w' v ([] ++ rows.take i ++ [c] ++ rows.drop i)) (h12:Below w.heap.size w w2) (h1:Below w.heap.size w w1) (hw1:Below w1.heap.size w1 w2) (hX:Below w2.heap.size w2 w') (hB:B≤w.heap.size) (hN:w1.heap.size≤N1∧N1+1<w2.heap.size) :
  Kd.S kE 76 w' B (fun k_=>ok k_∨w.heap.size≤k_) v (l.take i ++ [e] ++ l.drop i):=by
 obtain⟨hR,b,hb,hlt⟩:=hR;have hb2:w2.heap.size≤b:=Kd.R_base hR b hb;have hs1:=h1.size;have hs2:=hw1.size;have hs3:=h12.size;have hne:∀k,k<w2.heap.size→some k≠v.ownBlock:=fun k hk he=>by
  rw[hb] at he;injection he with he
  omega
 have hbl:Below w.heap.size w w':=kk h12 hX;have hOld:∀(j:Nat) (x:S76) (c:List Value),l[j]? = some x→rows[j]? = some c→kE.M w' B (fun k=>((ok k∧some k≠u.ownBlock)∧f k=j)∧k<w.heap.size) x c:=fun j x c hx hc=>
  kE.M_mono (fun k hk=>⟨hk.1,hk.2.2.1⟩) (kE.M_move (w1:=w') (fun k hk=>hbl.block k hk.2.2.1) (kE.M_bound (hM j x c hx hc)))
 have tg:(rows.take i).length=i:=by rw[List.length_take];omega
 have th:(l.take i).length=i:=by rw[List.length_take];omega
 have ti:(rows.drop i).length=l.length - i:=by rw[List.length_drop];omega
 refine S_join (okr:=fun _=>True) (fun j k=>if j<i then((ok k∧some k≠u.ownBlock)∧f k=j)∧k<w.heap.size else if j=i then(k=N1∨k=N1+1) else((ok k∧some k≠u.ownBlock)∧f k=j - 1)∧k<w.heap.size) (Kd.R_lower hR au) ?_ (fun k hk=>?_) (fun j x c' hx hc=>?_) (fun j j' k hk hk'=>?_) (fun j k hk=>?_)
 ·simp only[List.length_append,List.length_nil,List.length_cons,tg,th,ti,List.length_drop];omega
 ·rw[hb] at hk;injection hk with hk
  right;omega
 ·rw[List.append_assoc] at hx;rw[List.nil_append,List.append_assoc] at hc;rcases Nat.lt_trichotomy j i with h | h | h
  ·rw[List.getElem?_append_left au,List.getElem?_take,if_pos h] at hx;rw[List.getElem?_append_left au,List.getElem?_take,if_pos h] at hc;simp only[if_pos h];exact hOld j x c' hx hc
  ·subst h;rw[List.getElem?_append_right au,th,Nat.sub_self] at hx;rw[List.getElem?_append_right au,tg,Nat.sub_self] at hc;obtain rfl:e=x:=by simpa using hx
   obtain rfl:c=c':=by simpa using hc
   simp only[Nat.lt_irrefl,if_false,if_true];exact kE.M_mono (fun k hk=>hk.1) (kE.M_move (w1:=w') (fun k hk=>hX.block k hk.2.2.1) (kE.M_bound hP))
  ·rw[List.getElem?_append_right au,th] at hx;rw[List.getElem?_append_right au,tg] at hc;obtain⟨m,hm⟩:∃m,j - i=m+1:=⟨j - i - 1,au⟩;rw[hm,List.singleton_append,List.getElem?_cons_succ,List.getElem?_drop] at hx hc;have he:i+m=j - 1:=by omega
   rw[he] at hx hc;simp only[if_neg (show ¬j<i by omega),if_neg (show ¬j=i by omega)];exact hOld (j - 1) x c' hx hc
 ·split at hk <;> split at hk'
  ·exact hk.1.2.symm.trans hk'.1.2
  ·split at hk'
   ·have:=hk.2;omega
   ·have:=hk.1.2.symm.trans hk'.1.2;omega
  ·split at hk
   ·have:=hk'.2;omega
   ·have:=hk.1.2.symm.trans hk'.1.2;omega
  ·split at hk <;> split at hk'
   ·omega
   ·have:=hk'.2;omega
   ·have:=hk.2;omega
   ·have:=hk.1.2.symm.trans hk'.1.2;omega
 ·split at hk
  ·exact⟨.inl hk.1.1.1,hne k (by have:=hk.2;omega)⟩
  ·split at hk
   ·exact⟨.inr au,hne k au⟩
   ·exact⟨.inl hk.1.1.1,hne k (by have:=hk.2;omega)⟩
def cz.T4:Bool × List (List Nat × List Nat):=(true,[([],[]),([],[]),([],[]),([1,2],[1,2]),([0,3],[0,3]),([],[]),([5],[5]),([4,6,4],[4,6]),([],[]),([],[]),([8,9],[8,9]),([7,10,7],[7,10]),([11,11,0,1,2,3,4,5,6,7,8,9,10,11],[11])])
def cz.B4:List Nat:=[0,0,0,6,15,0,32,127,0,0,768,2047,4095]
theorem cz.tab4:dL .any (fC Tryz.f142 4)=cz.T4:=by kernel_rfl
theorem cz.bits4:di cz.T4.2 cz.B4=true:=by kernel_rfl
theorem sL (i:Nat) (u:Value) (l:List S76) (a1 a2:ByteArray) (a3 a4:Int) (k:Nat) (w0 w:World) (ok:Nat→Prop) (hB:Below w0.heap.size w0 w) (hS:Kd.S kE 76 w w0.heap.size ok u l) (hA:bg.f k l a1 a2=some ((i:Int),false)) (hi:i≤l.length) (hl:l.length<1000000) (r:List S76) (hr:l.take i ++ [⟨a1,a2,[⟨a3,[a4]⟩]⟩] ++ l.drop i=r) :
  Calls Tryz.prog 142 #[u,.string a1,.string a2,.int .i64 a3,.int .i64 a4] w fun e w'=>∃v:Value,e = .returned v∧Kd.S kE 76 w' w0.heap.size (fun k_=>ok k_∨w.heap.size≤k_) v r∧Below w0.heap.size w0 w'∧Kept w w' ok:=by
 obtain⟨A,c,rfl,hlc,hC⟩:=Kd.S_reads (qD hS);obtain⟨rows,f,hrl,hraw,hown,hM⟩:=sT hS;have hrc:=(Kd.R_reads' hraw).2.2;have hcut1:=nW (P:=Tryz.prog) 25 76 .i64 Tryz.underlying25 (info_parts km).choose_spec.1 A l.length c (i:Int) au au hlc;have hcut2:=g7 (P:=Tryz.prog) 25 76 .i64 Tryz.underlying25 (info_parts km).choose_spec.1 3 (info_parts km).choose_spec.2.2.1 A l.length c (i:Int) au au;simp only[Int.toNat_natCast] at hcut1 hcut2;obtain⟨A2,hA2⟩:∃A2,A2=(if c=i then A else A.map (·.add (i*3))):=⟨_,rfl⟩;rw[← hA2] at hcut2;have hn1:(rows.take i).length=i:=by rw[List.length_take];omega
 have hn2:(rows.drop i).length=l.length - i:=by rw[List.length_drop];omega
 have hc1:=Kd.C_take hrc (m:=i) au;have hc2:(Kd.raw 3).C w A2 (rows.drop i).length (rows.drop i):=by rw[hA2];exact Kd.C_drop hrc (m:=i) (c:=c) au au
 rw[hn1] at hc1;rw[hn2] at hc2;have tj:=am_ hc1;have tq:=am_ hc2;have HN1:=am_ hn1;have HN2:=am_ hn2;have HRR:=am_ hr;clear hr;have HM:=am_ hM;have HOWN:=am_ hown;have HRL:=am_ hrl;have HB0:=am_ hB;have HA:=am_ hA;have HI:=am_ hi;have HL:=am_ hl;clear hS hB hA hM hown hrl hrc hraw hA2 hi hl hn1 hn2 hc1 hc2;go_enter Tryz.func142,Tryz.ntmps142
 go_wp2_with (first | (go_at_call 95;refine(bg.calls k _ _ _ _ _ _ _ _ hC hlc HA.out).mono ?_;rintro e w1 ⟨rfl,hd⟩;have HB1:=am_ hd.below;clear hd))
 clear hC hlc;refine dn (n:=13) (S:=fun w'=>w'.cell? ⟨w1.heap.size+1+1,0,none⟩=some (.string a1)∧w'.cell? ⟨w1.heap.size+1+1,1,none⟩=some (.string a2)∧w'.cell? ⟨w1.heap.size+1+1,2,none⟩=some (.slice (some ⟨w1.heap.size+1,0,none⟩) 1 1)) (ds:=[]) (bm_ 13 0) bW rfl rfl ⟨by go_simp,by go_simp,by go_simp⟩ (fun hHeld=>?_);refine bN cz.tab4 cz.bits4 (fun HT_ HW_=>?_);generalize hW:(((w1.alloc _).alloc _).alloc _).drew=w2 at hHeld ⊢;have HZ:=am_ (show w2.heap.size=w1.heap.size+3 from by rw[← hW];simp);have HBW:=am_ (show Below w1.heap.size w1 w2 from by rw[← hW];exact eP (aE (aE (aE (Below.refl _ _) _) _) _));have HW1:=am_ (kk HB1.out HBW.out);have HP:=am_ (show kE.M w2 w0.heap.size (fun k=>k=w1.heap.size∨k=w1.heap.size+1) ⟨a1,a2,[⟨a3,[a4]⟩]⟩ [.string a1,.string a2,.slice (some ⟨w1.heap.size+1,0,none⟩) 1 1] from by rw[← hW];exact rE a1 a2 a3 a4 w1 w0.heap.size (Nat.le_trans HB0.out.size HB1.out.size));clear hW;have HX:=am_ (Below.refl w2.heap.size w2);have HS:=am_ hHeld;refine pv_ 1 34 ?_;refine pv_ 2 35 ?_;refine pv_ 3 36 ?_;refine tv_ 5 38 ?_;refine pv_ 8 41 ?_;refine pv_ 9 42 ?_;refine pv_ 10 43 ?_;refine mh (σ:=Value × Value × Value) 3 (bm_ 13 1919) (fun s_=>[(33,s_.1),(37,s_.2.1),(39,s_.2.2)]) (fun s_ w'=>Cl w2.heap.size w' s_.2.1 ([] ++ rows.take i)∧Cl w2.heap.size w' s_.2.2 [[.string a1,.string a2,.slice (some ⟨w1.heap.size+1,0,none⟩) 1 1]] ∧ s_.2.2.ownBlock≠s_.2.1.ownBlock∧Below w2.heap.size w2 w'∧(w'.cell? ⟨w1.heap.size+1+1,0,none⟩=some (.string a1)∧w'.cell? ⟨w1.heap.size+1+1,1,none⟩=some (.string a2)∧w'.cell? ⟨w1.heap.size+1+1,2,none⟩=some (.slice (some ⟨w1.heap.size+1,0,none⟩) 1 1))) ?_ ?_;rotate_left
 ·intro hCont;clear hHeld;refine ms (i:=0) (j:=6) (Ni:=some 33) (Nj:=some 39) (bm_ 13 1839) (bm_ 13 1902) rfl rfl rfl rfl (fO HT_.out bW) am am (fun K hK=>?_) (fun K hK=>?_)
  ·skip
   refine lw (w0:=w2) (B:=w2.heap.size) cB (N:=33) ?hd (rows:=[]) (inner:=[]) ?hr ?hp HX.out HX.out.size bb ?_;(case hd=>rfl);(case hr=>exact bM);(case hp=>exact Reps.none _ _);intro ti tv ho hb hst hap;have R33:=am_ ho;clear HX;have HX:=am_ hb;clear ho hb hst hap;refine hK.out _ _ ⟨ah HX.out HS.out.1,ah HX.out HS.out.2.1,ah HX.out HS.out.2.2⟩ (fun hHeld=>?_);clear hK K;refine nm_ ?_;clear hHeld;refine ms (i:=4) (j:=6) (Ni:=some 37) (Nj:=some 39) (bm_ 13 1855) (bm_ 13 1903) rfl rfl rfl rfl (fO HT_.out bW) am am (fun K hK=>?_) (fun K hK=>?_)
   ·skip
    refine lH (w0:=w2) (B:=w2.heap.size) cB (.tmp 33) (.tmp 36) rfl rfl rfl R33.out (Kd.C_below tj.out (kk HW1.out HX.out)) HX.out HX.out.size (by have:=HI.out;have:=HL.out;simp;omega) ?_;intro tg tm ho hb hap;have R37:=am_ ho;clear HX;have HX:=am_ hb;clear ho hb hap;refine hK.out _ _ ⟨ah HX.out HS.out.1,ah HX.out HS.out.2.1,ah HX.out HS.out.2.2⟩ (fun hHeld=>?_);clear hK K;refine nm_ ?_;clear hHeld;refine ov_ 6 39 (fun K hK=>?_);refine lw (w0:=w2) (B:=w2.heap.size) cB (N:=39) ?hd (rows:=[[.string a1,.string a2,.slice (some ⟨w1.heap.size+1,0,none⟩) 1 1]]) (inner:=[.string a1,.string a2,.slice (some ⟨w1.heap.size+1,0,none⟩) 1 1]) ?hr ?hp HX.out HX.out.size bb ?_;(case hd=>rfl);(case hr=>exact bM);(case hp=>exact jW ⟨rfl,rfl,one3 _ _ _ _ _⟩);intro th tn ho hb hst hap;have D39_R37:=am_ (hap _ _ R37.out);have R37_:=am_ (R37.out.below hst);clear R37;have R37:=R37_;clear R37_;have R39:=am_ ho;clear HX;have HX:=am_ hb;clear ho hb hst hap;refine hK.out _ _ ⟨ah HX.out HS.out.1,ah HX.out HS.out.2.1,ah HX.out HS.out.2.2⟩ (fun hHeld=>?_);clear hK K;refine nm_ ?_;exact ef gV (hCont (ti,tg,th) _ ⟨R37.out,R39.out,(Ne.symm D39_R37.out),HX.out,⟨ah HX.out HS.out.1,ah HX.out HS.out.2.1,ah HX.out HS.out.2.2⟩⟩)
   ·skip
    refine lw (w0:=w2) (B:=w2.heap.size) cB (N:=39) ?hd (rows:=[[.string a1,.string a2,.slice (some ⟨w1.heap.size+1,0,none⟩) 1 1]]) (inner:=[.string a1,.string a2,.slice (some ⟨w1.heap.size+1,0,none⟩) 1 1]) ?hr ?hp HX.out HX.out.size bb ?_;(case hd=>rfl);(case hr=>exact bM);(case hp=>exact jW ⟨rfl,rfl,one3 _ _ _ _ _⟩);intro th tn ho hb hst hap;have D39_R33:=am_ (hap _ _ R33.out);have R33_:=am_ (R33.out.below hst);clear R33;have R33:=R33_;clear R33_;have R39:=am_ ho;clear HX;have HX:=am_ hb;clear ho hb hst hap;refine hK.out _ _ ⟨ah HX.out HS.out.1,ah HX.out HS.out.2.1,ah HX.out HS.out.2.2⟩ (fun hHeld=>?_);clear hK K;refine nm_ ?_;clear hHeld;refine ov_ 4 37 (fun K hK=>?_);refine lH (w0:=w2) (B:=w2.heap.size) cB (.tmp 33) (.tmp 36) rfl rfl rfl R33.out (Kd.C_below tj.out (kk HW1.out HX.out)) HX.out HX.out.size (by have:=HI.out;have:=HL.out;simp;omega) ?_;intro tg tm ho hb hap;have R39_:=am_ (hap _ _ R39.out (Ne.symm D39_R33.out));clear R39;have R39:=am_ R39_.out.1;have D37_R39:=am_ R39_.out.2;clear R39_;have R37:=am_ ho;clear HX;have HX:=am_ hb;clear ho hb hap;refine hK.out _ _ ⟨ah HX.out HS.out.1,ah HX.out HS.out.2.1,ah HX.out HS.out.2.2⟩ (fun hHeld=>?_);clear hK K;refine nm_ ?_;exact ef gV (hCont (ti,tg,th) _ ⟨R37.out,R39.out,D37_R39.out,HX.out,⟨ah HX.out HS.out.1,ah HX.out HS.out.2.1,ah HX.out HS.out.2.2⟩⟩)
  ·skip
   refine lw (w0:=w2) (B:=w2.heap.size) cB (N:=39) ?hd (rows:=[[.string a1,.string a2,.slice (some ⟨w1.heap.size+1,0,none⟩) 1 1]]) (inner:=[.string a1,.string a2,.slice (some ⟨w1.heap.size+1,0,none⟩) 1 1]) ?hr ?hp HX.out HX.out.size bb ?_;(case hd=>rfl);(case hr=>exact bM);(case hp=>exact jW ⟨rfl,rfl,one3 _ _ _ _ _⟩);intro th tn ho hb hst hap;have R39:=am_ ho;clear HX;have HX:=am_ hb;clear ho hb hst hap;refine hK.out _ _ ⟨ah HX.out HS.out.1,ah HX.out HS.out.2.1,ah HX.out HS.out.2.2⟩ (fun hHeld=>?_);clear hK K;refine nm_ ?_;clear hHeld;refine ov_ 0 33 (fun K hK=>?_);refine lw (w0:=w2) (B:=w2.heap.size) cB (N:=33) ?hd (rows:=[]) (inner:=[]) ?hr ?hp HX.out HX.out.size bb ?_;(case hd=>rfl);(case hr=>exact bM);(case hp=>exact Reps.none _ _);intro ti tv ho hb hst hap;have D33_R39:=am_ (hap _ _ R39.out);have R39_:=am_ (R39.out.below hst);clear R39;have R39:=R39_;clear R39_;have R33:=am_ ho;clear HX;have HX:=am_ hb;clear ho hb hst hap;refine hK.out _ _ ⟨ah HX.out HS.out.1,ah HX.out HS.out.2.1,ah HX.out HS.out.2.2⟩ (fun hHeld=>?_);clear hK K;refine nm_ ?_;clear hHeld;refine ov_ 4 37 (fun K hK=>?_);refine lH (w0:=w2) (B:=w2.heap.size) cB (.tmp 33) (.tmp 36) rfl rfl rfl R33.out (Kd.C_below tj.out (kk HW1.out HX.out)) HX.out HX.out.size (by have:=HI.out;have:=HL.out;simp;omega) ?_;intro tg tm ho hb hap;have R39_:=am_ (hap _ _ R39.out D33_R39.out);clear R39;have R39:=am_ R39_.out.1;have D37_R39:=am_ R39_.out.2;clear R39_;have R37:=am_ ho;clear HX;have HX:=am_ hb;clear ho hb hap;refine hK.out _ _ ⟨ah HX.out HS.out.1,ah HX.out HS.out.2.1,ah HX.out HS.out.2.2⟩ (fun hHeld=>?_);clear hK K;refine nm_ ?_;exact ef gV (hCont (ti,tg,th) _ ⟨R37.out,R39.out,D37_R39.out,HX.out,⟨ah HX.out HS.out.1,ah HX.out HS.out.2.1,ah HX.out HS.out.2.2⟩⟩)
 clear hHeld HX;rintro ⟨ti,tg,th⟩ w3 ⟨hr37,hr39,hne,hx,hHeld⟩;have R37:=am_ hr37;have R39:=am_ hr39;have HX:=am_ hx;have HNE:=am_ hne;obtain⟨tw,tx,tl,_,hc39⟩:=Kd.R_reads hr39.1;simp only at tl;subst tl;have tk:=am_ hc39;clear hr37 hr39 hx hne hc39;simp only[jU,Act.put,List.setIfInBounds_toArray,List.set_cons_zero,List.set_cons_succ];refine ov_ 7 40 (fun K hK=>?_);refine lH (w0:=w2) (B:=w2.heap.size) cB (.tmp 37) (.tmp 39) rfl rfl rfl R37.out tk.out HX.out HX.out.size u146_ ?_;intro tz tA ho hb hap;have R40:=am_ ho;clear HX;have HX:=am_ hb;clear ho hb hap;refine hK.out _ _ ⟨ah HX.out HS.out.1,ah HX.out HS.out.2.1,ah HX.out HS.out.2.2⟩ (fun hHeld=>?_);clear hK K;refine nm_ ?_;clear hHeld;refine ov_ 11 44 (fun K hK=>?_);refine lH (w0:=w2) (B:=w2.heap.size) cB (.tmp 40) (.tmp 43) rfl rfl rfl R40.out (Kd.C_below tq.out (kk HW1.out HX.out)) HX.out HX.out.size u146_ ?_;intro tu tB ho hb hap;have R44:=am_ ho;clear HX;have HX:=am_ hb;clear ho hb hap;refine hK.out _ _ ⟨ah HX.out HS.out.1,ah HX.out HS.out.2.1,ah HX.out HS.out.2.2⟩ (fun hHeld=>?_);clear hK K;refine nm_ ?_;refine pv_ 12 10 ?_;refine dn_ HT_ ?_;try go_wp2
 go_ret
 exact⟨tu,rfl,HRR.out ▸ rZ HM.out HRL.out HI.out HP.out R44.out HW1.out HB1.out HBW.out HX.out HB0.out.size ⟨Nat.le_refl _,by have:=HZ.out;omega⟩,HB0.out.trans ((HW1.out.mono HB0.out.size).trans (HX.out.mono (Nat.le_trans HB0.out.size HW1.out.size))),Kept.of_below (HW1.out.trans (HX.out.mono HW1.out.size)) _⟩
end
section
open Go Go.RowKit Go.Proofs.YtnjjdojonflckaaGreatDoorW.PrintWords Go.Proofs.YtnjjdojonflckaaGreatDoorW.PrintLast Go.Proofs.YtnjjdojonflckaaGreatDoorW.PrintMore Go.Proofs.YtnjjdojonflckaaGreatDoor.Ent
theorem lL (a3 a4:Int) (w1:World) (b:Nat) (hb:b≤w1.heap.size):k50.M (w1.alloc (.cells #[.int .i64 a4] 3)) b (fun k=>k=w1.heap.size) ⟨a3,[a4]⟩ [.int .i64 a3,.slice (some ⟨w1.heap.size,0,none⟩) 1 1]:=by
 refine jJ _ _ _ _ ?_;have h:=lq (enc:=Value.int .i64) w1 b 3 [a4] hb bb;exact Kd.R_of_own h (fun k hk=>by simpa [Value.ownBlock] using hk.symm)
theorem there {w:World} {base:Nat} {ok:Nat→Prop} {u:Value} {l:List S76} {i m:Nat} {e:S76} {p:S50} (hS:Kd.S kE 76 w base ok u l) (he:l[i]? = some e) (hp:e.f2[m]? = some p) (hm:e.f2.length=m+1) :
  ∃g cap g2 cap2 u2,∃oki2 oki:Nat→Prop,u = .slice (some ⟨g,0,none⟩) l.length cap ∧
   w.cell? ⟨g,i*3+2,none⟩=some (.slice (some ⟨g2,0,none⟩) (m+1) cap2)∧w.frozen? ⟨g,i*3+2,none⟩=false ∧
   w.cell? ⟨g2,m*2,none⟩=some (.int .i64 p.f0)∧w.cell? ⟨g2,m*2+1,none⟩=some u2∧w.frozen? ⟨g2,m*2+1,none⟩=false ∧
   kI.R 3 w base oki2 u2 p.f1∧(∀k,oki2 k→ok k∧k<w.heap.size∧k≠g2)∧g2<w.heap.size∧ok g2∧g2≠g∧ok g∧g<w.heap.size∧base≤g2∧base≤g ∧
   (∀(w1:World) (u1:Value) (x:Int) (okp:Nat→Prop),w.grownBy w1 u2.ownBlock→kI.R 3 w1 base okp u1 (p.f1 ++ [x])→(∀k,okp k→oki2 k∨w.heap.size≤k) →
    Kd.S kE 76 (w1.setCell ⟨g2,m*2+1,none⟩ u1) base (fun k=>ok k∨w.heap.size≤k) u (l.set i ⟨e.f0,e.f1,e.f2.set m ⟨p.f0,p.f1 ++ [x]⟩⟩)∧w1.grownBy (w1.setCell ⟨g2,m*2+1,none⟩ u1) (some g2)) ∧
   Kd.S k50 50 w base oki (.slice (some ⟨g2,0,none⟩) (m+1) cap2) e.f2∧(∀k,oki k→ok k∧k<w.heap.size∧k≠g) ∧
   (∀(w1:World) (v3:Value) (ps':List S50) (okp:Nat→Prop),w.grownBy w1 (some g2)→Kd.S k50 50 w1 base okp v3 ps'→(∀k,okp k→oki k∨w.heap.size≤k) →
    Kd.S kE 76 (w1.setCell ⟨g,i*3+2,none⟩ v3) base (fun k=>ok k∨w.heap.size≤k) u (l.set i ⟨e.f0,e.f1,ps'⟩)∧w1.grownBy (w1.setCell ⟨g,i*3+2,none⟩ v3) (some g)):=by
 have hil:i<l.length:=(List.getElem?_eq_some_iff.1 he).1;obtain⟨g,cap,rfl,hbase,hlt,hcells⟩:=Kd.S_form hS au;have hokg:ok g:=(Kd.S_R hS).1 g (by simp[Value.ownBlock]);have hA:Kd.S kE 76 w base (fun k=>(ok k∨w.heap.size≤k)∧¬(w.heap.size≤k)) (.slice (some ⟨g,0,none⟩) l.length cap) l:=
  Kd.S_mono (Kd.S_bound hS) (fun k hk=>⟨.inl hk.1,nx⟩)
 obtain⟨oki,c,hcl,hM,hcc,hfr,hoki,hH⟩:=Kd.S_elem hA z76 (i:Int) au au;have hget:l.getD ((i:Int)).toNat z76=e:=by simp[List.getD_eq_getElem?_getD,he]
 rw[hget] at hM;obtain⟨v2,rfl,hP⟩:=pl hM;have e3:kE.sz=3:=rfl;have hc2:=hcc 2 _ rfl;have hf2:=hfr 2;simp only[e3,Int.toNat_natCast] at hc2 hf2;obtain⟨g2,cap2,u2,oki2,rfl,hlt2,hb2,hok2,hcells2,hd0,hd1,hdf,hR,hoki2,hback⟩:=qy hP m p hp hm.symm;have hok':∀k,oki k→ok k∧k<w.heap.size∧k≠g:=fun k hk=>by
  have h:=hoki k hk;exact⟨h.1.1.elim id (fun h2=>absurd h2 h.1.2),by have:=h.1.2;omega,h.2⟩
 have hH0:Kd.H kE 76 w base (fun k=>ok k∨w.heap.size≤k) (.slice (some ⟨g,0,none⟩) l.length cap) l (i:Int) (fun k=>oki k∨(ok k∨w.heap.size≤k)∧w.heap.size≤k) _:=Kd.H_widen (Kd.H_mono hH (fun k hk=>hk.1));rw[hm] at hc2;refine⟨g,cap,g2,cap2,u2,oki2,oki,rfl,hc2,hf2,hd0,hd1,hdf,hR,fun k hk=>?_,hlt2,(hok' g2 hok2).1,(hok' g2 hok2).2.2,hokg,hlt,hb2,hbase,?_,by rw[← hm];exact hP,hok',?_⟩
 ·have:=hoki2 k hk;exact⟨(hok' k this.1).1,this.2.1,this.2.2⟩
 ·intro w1 u1 x okp hg hr hokp;obtain⟨h1,h2⟩:=hback w1 u1 x okp hg hr hokp;refine⟨?_,h2⟩;have hH1:=Kd.H_grown (Kd.H_grown hH0 hg (fun k hk=>.inl (hoki2 k (hR.1 k hk)).1)) h2 (fun k hk=>by injection hk with hk;subst hk;exact .inl hok2);have hM2:kE.M (w1.setCell ⟨g2,m*2+1,none⟩ u1) base (fun k=>oki k∨w.heap.size≤k) ⟨e.f0,e.f1,e.f2.set m ⟨p.f0,p.f1 ++ [x]⟩⟩ [.string e.f0,.string e.f1,.slice (some ⟨g2,0,none⟩) e.f2.length cap2]:=pX _ _ _ _ h1;have:=Kd.H_back hH1 hM2 (fun k hk=>hk.elim .inl (fun h=>.inr ⟨.inr h,h⟩));simpa using this
 ·intro w1 v3 ps' okp hg hP' hokp;have hH1:=Kd.H_grown hH0 hg (fun k hk=>by injection hk with hk;subst hk;exact .inl hok2);have hM2:kE.M w1 base okp ⟨e.f0,e.f1,ps'⟩ [.string e.f0,.string e.f1,v3]:=pX _ _ _ _ hP';have hz:=Kd.S_seg0 (okp:=okp) hH1 au au (seg:=[v3]) (j:=2) (by show 2+1≤3;omega) (x':=⟨e.f0,e.f1,ps'⟩) hM2 (fun k hk=>(hokp k hk).elim .inl (fun h=>.inr ⟨.inr h,h⟩));simp only[e3,Int.toNat_natCast] at hz;exact hz
theorem rp (i m:Nat) (u:Value) (l:List S76) (a1 a2:ByteArray) (a3 a4:Int) (k:Nat) (w0 w:World) (ok:Nat→Prop) (e:S76) (p:S50) (hB:Below w0.heap.size w0 w) (hS:Kd.S kE 76 w w0.heap.size ok u l) (hA:bg.f k l a1 a2=some ((i:Int),true)) (he:l[i]? = some e) (hp:e.f2[m]? = some p) (hm:e.f2.length=m+1) (hd:p.f0=a3) (hl:e.f2.length<1000000) (hl2:p.f1.length<1000000) (r:List S76) (hr:l.set i ⟨e.f0,e.f1,e.f2.set m ⟨p.f0,p.f1 ++ [a4]⟩⟩=r) :
  Calls Tryz.prog 142 #[u,.string a1,.string a2,.int .i64 a3,.int .i64 a4] w fun e w'=>∃v:Value,e = .returned v∧Kd.S kE 76 w' w0.heap.size (fun k_=>ok k_∨w.heap.size≤k_) v r∧Below w0.heap.size w0 w'∧Kept w w' ok:=by
 have hil:i<l.length:=(List.getElem?_eq_some_iff.1 he).1;obtain⟨A,c,hu,hlc,hC⟩:=Kd.S_reads (qD hS);have hmax:=hC.2.1;obtain⟨g0,cap0,hu0,ti,tj,tk⟩:=Kd.S_form hS au;rw[hu] at hu0;injection hu0 with hA0 tg th
 clear ti tj tk tg th;subst hA0;subst hu;have HS:=am_ hS;have HB0:=am_ hB;have HA:=am_ hA;have HE:=am_ he;have HP:=am_ hp;have HMM:=am_ hm;have HD:=am_ hd;have HRR:=am_ hr;have HL:=am_ hl;have HL2:=am_ hl2;have hmb:m≤1000000:=by omega
 have hq1:decide ((i:Int)<(l.length:Int))=true:=decide_eq_true au;have hq2:(0≤(i:Int))=True:=eq_true au;have hq3:((i:Int)<(l.length:Int))=True:=eq_true au;have hq4:(0≤(m:Int))=True:=eq_true au;have hq5:((m:Int)<((m+1:Nat):Int))=True:=eq_true au;clear hS hB hA he hp hm hd hr hl hl2;have HIL:=am_ hil;clear hil hmax;go_enter Tryz.func142,Tryz.ntmps142
 go_wp2_with (first | (go_at_call 95;refine(bg.calls k _ _ _ _ _ _ _ _ hC hlc HA.out).mono ?_;rintro e1 w1 ⟨rfl,hd⟩;have HB1:=am_ hd.below;clear hd;obtain⟨g,cap,g2,cap2,u2,oki2,oki,hu,hc2,hf2,hd0,hd1,hdf,hR,hoki2,hlt2,hok2,hne2,hok,hltg,hbg2,hbg,hsame,hpost,hoki,hnext⟩:=there (Kd.S_below HS.out HB1.out) HE.out HP.out HMM.out;injection hu with hu1 tg th;injection hu1 with hu1;injection hu1 with hu1 tl tm;clear tg th tl tm;subst hu1;rw[HD.out] at hd0;have HR:=am_ hR;have HOK2:=am_ hoki2;have HSAME:=am_ hsame;have HX1:=am_ (And.intro hok2 (And.intro hne2 (And.intro hok (And.intro hltg (And.intro hlt2 (And.intro hbg2 hbg))))));clear hbg2 hbg hR hoki2 hsame hpost hoki hnext hok2 hne2 hok hltg hlt2)|((with_reducible refine a7 (b:=.append) (xs:=#[.tmp 66,.tmp 68]) rfl ?_);at_builtin;refine Kd.R_append kI (w0:=w0) w0.heap.size rfl (.tmp 66) (.tmp 68) 39 3 (.int .i64 0) 8 rfl Tryz.underlying39 oS rfl am au u2 p.f1 a4 [.int .i64 a4] (fun k=>oki2 k∨w1.heap.size≤k) (fun _=>False) rfl rfl rfl (fun _ hk=>hk.elim) (fun k hk=>.inr hk) (Kd.R_mono HR.out (fun _ hk=>.inl hk)) (HB0.out.trans (HB1.out.mono HB0.out.size)) (Nat.le_trans HB0.out.size HB1.out.size) (by have:=HL2.out;omega) ?_;intro u3 w3 ho hb hg hat;have hne:some g2≠u2.ownBlock:=(fun he=>(HOK2.out g2 (HR.out.1 g2 he.symm)).2.2 rfl);have hh:=hg.block g2 HX1.out.2.2.2.2.1 hne;replace hd1:=Go.Proofs.YtnjjdojonflckaaGreatDoorW.PrintWords.cell_grown hg hd1 hne;replace hdf:w3.frozen? ⟨g2,m*2+1,none⟩=false:=(by simpa [World.frozen?,hh] using hdf);obtain⟨A3,c3,rfl⟩:=Kd.R_slice ho;have tn:=am_ ho;have HB3:=am_ hb;have HG:=am_ hg;clear ho hb hg hat hne hh hd0 hc2 hf2))
 go_ret
 have hz:=HSAME.out w3 _ a4 _ HG.out tn.out (fun _ hk=>hk);simp only[List.length_append,List.length_singleton] at hz;refine⟨.slice (some ⟨g0,0,none⟩) l.length c,rfl,?_,fg HB3.out (some g2) (HB3.out.size) hz.2 (fun k hk=>by injection hk with hk;rw[← hk];exact HX1.out.2.2.2.2.2.1),?_⟩
 ·exact u142_
 ·exact Kept.of_grown hz.2 (Kept.of_grown HG.out (Kept.of_below HB1.out ok) (fun k hk=>.inl (HOK2.out k (HR.out.1 k hk)).1)) (fun k hk=>by injection hk with hk;rw[← hk];exact .inl HX1.out.1)
theorem qL (i m:Nat) (u:Value) (l:List S76) (a1 a2:ByteArray) (a3 a4:Int) (k:Nat) (w0 w:World) (ok:Nat→Prop) (e:S76) (p:S50) (hB:Below w0.heap.size w0 w) (hS:Kd.S kE 76 w w0.heap.size ok u l) (hA:bg.f k l a1 a2=some ((i:Int),true)) (he:l[i]? = some e) (hp:e.f2[m]? = some p) (hm:e.f2.length=m+1) (hd:p.f0≠a3) (hl:e.f2.length<1000000) (r:List S76) (hr:l.set i ⟨e.f0,e.f1,e.f2 ++ [⟨a3,[a4]⟩]⟩=r) :
  Calls Tryz.prog 142 #[u,.string a1,.string a2,.int .i64 a3,.int .i64 a4] w fun e w'=>∃v:Value,e = .returned v∧Kd.S kE 76 w' w0.heap.size (fun k_=>ok k_∨w.heap.size≤k_) v r∧Below w0.heap.size w0 w'∧Kept w w' ok:=by
 have hil:i<l.length:=(List.getElem?_eq_some_iff.1 he).1;obtain⟨A,c,hu,hlc,hC⟩:=Kd.S_reads (qD hS);have hmax:=hC.2.1;obtain⟨g0,cap0,hu0,ti,tj,tk⟩:=Kd.S_form hS au;rw[hu] at hu0;injection hu0 with hA0 tg th
 clear ti tj tk tg th;subst hA0;subst hu;have HS:=am_ hS;have HB0:=am_ hB;have HA:=am_ hA;have HE:=am_ he;have HP:=am_ hp;have HMM:=am_ hm;have HRR:=am_ hr;have HL:=am_ hl;have hdb:(p.f0 == a3)=false:=by simpa using hd
 have hmb:m≤1000000:=by omega
 have hq1:decide ((i:Int)<(l.length:Int))=true:=decide_eq_true au;have hq2:(0≤(i:Int))=True:=eq_true au;have hq3:((i:Int)<(l.length:Int))=True:=eq_true au;have hq4:(0≤(m:Int))=True:=eq_true au;have hq5:((m:Int)<((m+1:Nat):Int))=True:=eq_true au;clear hS hB hA he hp hm hd hr hl hil hmax;go_enter Tryz.func142,Tryz.ntmps142
 go_wp2_with (first | (go_at_call 95;refine(bg.calls k _ _ _ _ _ _ _ _ hC hlc HA.out).mono ?_;rintro e1 w1 ⟨rfl,hd⟩;have HB1:=am_ hd.below;clear hd;obtain⟨g,cap,g2,cap2,u2,oki2,oki,hu,hc2,hf2,hd0,hd1,hdf,hR,hoki2,hlt2,hok2,hne2,hok,hltg,hbg2,hbg,hsame,hpost,hoki,hnext⟩:=there (Kd.S_below HS.out HB1.out) HE.out HP.out HMM.out;injection hu with hu1 tg th;injection hu1 with hu1;injection hu1 with hu1 tl tm;clear tg th tl tm;subst hu1;have HPO:=am_ hpost;have HOKI:=am_ hoki;have HNEXT:=am_ hnext;have HX1:=am_ (And.intro hok2 (And.intro hne2 (And.intro hok (And.intro hltg (And.intro hlt2 (And.intro hbg2 hbg))))));clear hbg2 hbg hR hoki2 hsame hpost hoki hnext hok2 hne2 hok hltg hlt2 hd1 hdf)|((with_reducible refine a7 (b:=.append) (xs:=#[.tmp 74,.tmp 79]) rfl ?_);at_builtin;refine Kd.S_append k50 (w0:=w0) w0.heap.size rfl (.tmp 74) (.tmp 79) 34 50 (.agg #[(.int .i64 0),(.slice none 0 0)]) 32 rfl Tryz.underlying34 lO rfl am au (.slice (some ⟨g2,0,none⟩) (m+1) cap2) e.f2 (⟨a3,[a4]⟩:S50) [.int .i64 a3,.slice (some ⟨w1.heap.size,0,none⟩) 1 1] (fun k=>oki k∨w1.heap.size≤k) (fun k=>k=w1.heap.size) rfl sI ?aP ?aK ?aF ?aO ?aB ?aS ?aL ?_;(case aP=>exact lL a3 a4 w1 w0.heap.size (Nat.le_trans HB0.out.size HB1.out.size));(case aK=>exact(fun k hk=>⟨.inr au,by have:=HX1.out.2.2.2.2.1;simp[Value.ownBlock];omega⟩));(case aF=>exact(fun k hk=>.inr (by simp at hk;omega)));(case aO=>exact Kd.S_alloc (Kd.S_mono (Kd.S_bound HPO.out) (fun k hk=>⟨.inl hk.1,nx⟩)) _);(case aB=>exact aE (HB0.out.trans (HB1.out.mono HB0.out.size)) _);(case aS=>exact Nat.le_trans (Nat.le_trans HB0.out.size HB1.out.size) bb);(case aL=>have:=HL.out;omega);intro v3 w3 ho hb hg hat;have hg':w1.grownBy w3 (some g2):=World.grownBy.trans (World.grownBy_alloc w1 _ _) hg;have hne:some g0≠some g2:=(fun he=>HX1.out.2.1 (by injection he with he;exact he.symm));have hh:=hg'.block g0 HX1.out.2.2.2.1 hne;replace hc2:=Go.Proofs.YtnjjdojonflckaaGreatDoorW.PrintWords.cell_grown hg' hc2 hne;replace hf2:w3.frozen? ⟨g0,i*3+2,none⟩=false:=(by simpa [World.frozen?,hh] using hf2);obtain⟨A3,c3,rfl⟩:=Kd.S_slice ho;have tn:=am_ ho;have HB3:=am_ hb;have HG:=am_ hg';clear ho hb hg hg' hat hne hh hd0))
 go_ret
 have hz:=HNEXT.out w3 _ _ _ HG.out tn.out (fun _ hk=>hk);simp only[List.length_append,List.length_singleton] at hz;refine⟨.slice (some ⟨g0,0,none⟩) l.length c,rfl,?_,fg HB3.out (some g0) (HB3.out.size) hz.2 (fun k hk=>by injection hk with hk;rw[← hk];exact HX1.out.2.2.2.2.2.2),?_⟩
 ·exact u142_
 ·exact Kept.of_grown hz.2 (Kept.of_grown HG.out (Kept.of_below HB1.out ok) (fun k hk=>by injection hk with hk;rw[← hk];exact .inl HX1.out.1)) (fun k hk=>by injection hk with hk;rw[← hk];exact .inl HX1.out.2.2.1)
end
section
open Go Go.RowKit Go.Proofs.YtnjjdojonflckaaGreatDoorW.PrintWords Go.Proofs.YtnjjdojonflckaaGreatDoorW.PrintLast Go.Proofs.YtnjjdojonflckaaGreatDoorW.PrintMore Go.Proofs.YtnjjdojonflckaaGreatDoor.Ent
theorem oW {ps:List S50} {m:Nat} {p:S50} (hp:ps[m]? = some p) (hm:ps.length=m+1) (id x:Int):ey ps id x=if p.f0=id then ps.set m ⟨p.f0,p.f1 ++ [x]⟩ else ps ++ [⟨id,[x]⟩]:=by
 have hl:ps.getLast? = some p:=by rw[List.getLast?_eq_getElem?,hm];exact hp
 unfold ey
 rw[hl,hm];rfl
theorem cz.calls (k:Nat) (u:Value) (l:List S76) (a1 a2:ByteArray) (a3 a4:Int) (r:List S76) (w0 w:World) (ok:Nat→Prop) (hB:Below w0.heap.size w0 w) (hS:Kd.S kE 76 w w0.heap.size ok u l) (h:cz.f k l a1 a2 a3 a4=some r) :
  Calls Tryz.prog 142 #[u,.string a1,.string a2,.int .i64 a3,.int .i64 a4] w fun e w'=>∃v:Value,e = .returned v∧Kd.S kE 76 w' w0.heap.size (fun k_=>ok k_∨w.heap.size≤k_) v r∧Below w0.heap.size w0 w'∧Kept w w' ok:=by
 unfold cz.f at h
 obtain⟨⟨r1,r2⟩,hA,h⟩:=Option.bind_eq_some_iff.1 h;cases r2 with
 | false=>
  simp only[Bool.false_eq_true,if_false] at h;by_cases hc:0≤r1∧r1≤(l.length:Int)∧l.length<1000000
  ·rw[if_pos hc] at h;obtain⟨i,rfl⟩:=Int.eq_ofNat_of_zero_le hc.1;exact sL i u l a1 a2 a3 a4 k w0 w ok hB hS hA au hc.2.2 r (Option.some.inj h)
  ·rw[if_neg hc] at h;cases h
 | true=>
  simp only[if_true] at h;cases he:l[r1.toNat]? with
  | none=>rw[he] at h;cases h
  | some e=>
   rw[he] at h;simp only at h;by_cases hc:0≤r1∧e.f2 ≠ [] ∧ wide e.f2=true
   ·rw[if_pos hc] at h;obtain⟨i,rfl⟩:=Int.eq_ofNat_of_zero_le hc.1;rw[Int.toNat_natCast] at he h;have hpos:0<e.f2.length:=List.length_pos_iff.2 hc.2.1;obtain⟨m,hm⟩:∃m,e.f2.length=m+1:=⟨e.f2.length - 1,au⟩;have hp:e.f2[m]? = some (e.f2[m]'au):=List.getElem?_eq_getElem _;have hw:=hc.2.2;unfold wide at hw
    rw[Bool.and_eq_true,decide_eq_true_eq,List.all_eq_true] at hw;rw[oW hp hm] at h;by_cases hd:(e.f2[m]'au).f0=a3
    ·rw[if_pos hd] at h;exact rp i m u l a1 a2 a3 a4 k w0 w ok e _ hB hS hA he hp hm hd hw.1 (by simpa using hw.2 _ (List.getElem_mem _)) r (Option.some.inj h)
    ·rw[if_neg hd] at h;exact qL i m u l a1 a2 a3 a4 k w0 w ok e _ hB hS hA he hp hm hd hw.1 r (Option.some.inj h)
   ·rw[if_neg hc] at h;cases h
def b6.ts (k:Nat) (id:Int) (name:ByteArray):List ByteArray→Int→List S76→Option (List S76)
 | [],_,L=>some L
 | t :: ts,x,L=>if t.size=0 then b6.ts k id name ts (x+1) L else(cz.f k L name t id x).bind fun L'=>b6.ts k id name ts (x+1) L'
def b6.cs (k:Nat) (fs:List S92) (id:Int):List S86→List S76→Option (List S76)
 | [],L=>some L
 | c :: cs,L=>(d6.f k fs c.f0 1).bind fun b=>if b=true then(cI.f k c.f1).bind fun ts=>(b6.ts k id c.f0 ts 0 L).bind fun L'=>b6.cs k fs id cs L' else b6.cs k fs id cs L
def bn.rs (k:Nat) (fs:List S92):List S46→List S76→Option (List S76)
 | [],L=>some L
 | r :: rs,L=>(b6.cs k fs r.f0 r.f1.f1 L).bind fun L'=>bn.rs k fs rs L'
theorem rY {w:World} {A:Option Addr} {xs:List ByteArray} (h:Kd.C Kd.string w A xs.length xs) (j:Nat) (hj:j<xs.length):∃ad,A=some ad∧w.cell? (ad.add j)=some (.string xs[j]):=by
 obtain⟨ad,c,e,hcl,hK,hc⟩:=Kd.C_get h ByteArray.empty (j:Int) au au;have hk:c = [.string (xs.getD ((j:Int)).toNat ByteArray.empty)]:=hK;subst hk;have:=hc 0 _ rfl;have e1:Kd.string.sz=1:=rfl;rw[e1,Nat.mul_one,Nat.add_zero,Int.toNat_natCast] at this;refine⟨ad,e,?_⟩;rw[this,List.getD_eq_getElem?_getD,List.getElem?_eq_getElem hj];rfl
theorem sZ {ops:Array Oper} {rest:List Oper} {o:Oper} {a:Act} {Q:Exit→Act→World→Prop} {w0 W:World} {B:Nat} (hgd:o.guard=none) {N:Tmp} (hd:o.dst=some N)
  (hrun:(execOp a.eval o).run Tryz.prog W = .ok (.value (.slice (some ⟨W.heap.size,0,none⟩) 0 0)) (W.alloc (.cells #[] 76)))
  (HB:Below B w0 W) (hbase:B≤W.heap.size) (h:∀v1 w1,Kd.S kE 76 w1 B (fun _=>True) v1 [] → Below B w0 w1→wpList Tryz.prog ops Q rest (a.put o.dst v1) w1):wpList Tryz.prog ops Q (o :: rest) a W:=
 Kd.S_lit kE (w0:=w0) B 76 hgd hd (xs:=[]) (inner:=[]) (ok:=fun _=>True) (okp:=fun _=>True) hrun (Reps.none _ _) (fun _ hk=>hk) trivial HB hbase bb (fun v1 w1 hs hb _ _=>h v1 w1 hs hb)
theorem rJ {b:Bool} (s:ByteArray) (h:(!s.toList.isEmpty)=b):decide (s.size=0) = !b:=by
 subst h;have e:s.toList.length=s.size:=by rw[ByteArray.toList_eq];exact Array.length_toList
 by_cases h:s.size=0
 ·have:s.toList = []:=List.eq_nil_of_length_eq_zero au;simp[h,this]
 ·have:s.toList ≠ []:=fun h2=>h (by rw[← e,h2];rfl)
  simp[h,this]
theorem ph (k:Nat) (A0:Option Addr) (c0:Nat) (fs:List S92) (u:Value) (L:List S76) (id:Int) (key:ByteArray) (A2:Option Addr) (c2:Nat) (cs:List S86) (r:List S76) (w0 w:World) (ok:Nat→Prop) (hB:Below w0.heap.size w0 w) (hS:Kd.S kE 76 w w0.heap.size ok u L)
  (hF:∀W,Below w0.heap.size w0 W→Kept w W ok→Kd.C k92 W A0 fs.length fs) (hF0:fs.length≤c0) (hC:∀W,Below w0.heap.size w0 W→Kept w W ok→Kd.C k86 W A2 cs.length cs) (hC0:cs.length≤c2) (h:b6.cs k fs id cs L=some r) :
  Calls Tryz.prog 101 #[.slice A0 fs.length c0,u,.agg #[.int .i64 id,.string key,.slice A2 cs.length c2]] w fun e w'=>∃v:Value,e = .returned v∧Kd.S kE 76 w' w0.heap.size (fun k_=>ok k_∨w.heap.size≤k_) v r∧Below w0.heap.size w0 w'∧Kept w w' ok:=by
 have hlen:=(hC w hB (Kept.refl _ _)).2.1;have HF:=am_ hF;have HC:=am_ hC;have HF0:=am_ hF0;have H:=am_ h;have HB:=am_ hB;have HK:=am_ (Kept.refl w ok);have HS:=am_ hS;clear hF hC hF0 h hB hS;have hu46_:=Tryz.underlying46;go_enter Tryz.func101,Tryz.ntmps101
 go_wp2_with (first | ((with_reducible refine gt_ 5 ?_);refine bx_ 5 #[.int .i64 id,.string key,.slice A2 cs.length c2] 46 ?_;intro gb hg w2 hbox hb;have BK:=am_ hbox;have HGB:=am_ hg;replace HS:=am_ (Kd.S_below (Kd.S_bound HS.out) hb);replace HB:=am_ (eR HB.out HB.out.size hb);replace HK:=am_ (Kept.below HK.out hb);have HW2:=am_ hb.size;have HLT:=am_ (dI hbox);clear hb hbox hg))
 go_loopw [1,7] (fun v1 v7 wr=>∃(i:Nat) (L':List S76),v7 = .int .i64 (i:Int)∧i≤cs.length∧aa (b6.cs k fs id (cs.drop i) L'=some r)∧aa (Kd.S kE 76 wr w0.heap.size (fun k_=>(ok k_∨w.heap.size≤k_)∧k_≠gb) v1 L')∧aa (wr.heap[gb]? = some (.cells #[.int .i64 id,.string key,.slice A2 cs.length c2] 46 (0,0)))∧aa (Below w0.heap.size w0 wr)∧aa (Kept w wr ok)) (fun _ v _=>match v with | .int _ i=>cs.length - i.toNat | _=>0)
 case atStart=>exact⟨0,L,rfl,Nat.zero_le _,H,⟨Kd.S_mono HS.out (fun k_ hk=>⟨.inl hk.1,by have:=hk.2.2.1;have:=HGB.out;omega⟩)⟩,BK,HB,HK⟩
 case round=>
  clear HS BK HB HK H;obtain⟨i,L',rfl,hi,H,HS,BK,HB,HK⟩:=hrel;rcases Nat.lt_or_ge i cs.length with hlt | hge
  ·obtain⟨ad,e,tg,th⟩:=dZ (HC.out wr HB.out HK.out) (i:Int) au au;subst e;simp only[Int.toNat_natCast] at tg th;have hrd:ap cs (i:Int)=cs[i]:=by unfold ap;simp[List.getD_eq_getElem?_getD,List.getElem?_eq_getElem hlt]
   rw[hrd] at tg th;have h:=H.out;rw[List.drop_eq_getElem_cons hlt,b6.cs] at h;generalize cs[i] = c at tg th h hrd;have HRD:=am_ hrd;clear hrd;obtain⟨b,hb,h⟩:=Option.bind_eq_some_iff.1 h;have HKI:=am_ hb;have hz0:wr.cell? ⟨gb,0,none⟩=some (.int .i64 id):=(aV BK.out 0).trans rfl;have hz2:wr.cell? ⟨gb,2,none⟩=some (.slice (some ad) cs.length c2):=(aV BK.out 2).trans rfl;have p1:((i:Int)<(cs.length:Int))=True:=eq_true au;have p0:(0≤(i:Int))=True:=eq_true au;cases b with
   | false=>
    simp only[Bool.false_eq_true,if_false] at h;have H2:=am_ h;clear h H;go_wp2_with (first | (go_at_call 140;refine(d6.calls k _ _ _ _ _ _ _ (HF.out wr HB.out HK.out) HF0.out HKI.out).mono ?_;rintro e w3 ⟨rfl,hd⟩;have hbe:=hd.below;replace HS:=am_ (Kd.S_below HS.out hbe);replace BK:=am_ (bE BK.out hbe);replace HB:=am_ (eR HB.out HB.out.size hbe);replace HK:=am_ (Kept.below HK.out hbe);clear hd hbe tg th hz0 hz2))
    go_roundw
    case rel=>exact⟨i+1,L',fF,au,H2,HS,BK,HB,HK⟩
    case measure=>simp;omega
   | true=>
    simp only[if_true] at h;obtain⟨ts,hts,h⟩:=Option.bind_eq_some_iff.1 h;obtain⟨L2,hL2,h⟩:=Option.bind_eq_some_iff.1 h;have HTS:=am_ hts;have HL2:=am_ hL2;have H2:=am_ h;clear h H hts hL2;go_wp2_with (first | (go_at_call 140;refine(d6.calls k _ _ _ _ _ _ _ (HF.out wr HB.out HK.out) HF0.out HKI.out).mono ?_;rintro e w3 ⟨rfl,hd⟩;have hbe:=hd.below;replace HS:=am_ (Kd.S_below HS.out hbe);replace BK:=am_ (bE BK.out hbe);replace HB:=am_ (eR HB.out HB.out.size hbe);replace HK:=am_ (Kept.below HK.out hbe);replace tg:=ah hbe tg;replace th:=ah hbe th;replace hz0:=ah hbe hz0;replace hz2:=ah hbe hz2;clear hd hbe)|(go_at_call 141;refine(cI.calls k _ _ _ HTS.out).mono ?_;rintro e w4 ⟨vt,rfl,ht,hbe⟩;obtain⟨A8,c8,rfl⟩:=Kd.R_slice ht;have ti:=am_ (Kd.S_elder' HS.out (Kd.R_base ht) hbe);have HT:=am_ (Kd.R_lower (Kd.R_tight rfl ht) HB.out.size);replace BK:=am_ (bE BK.out hbe);replace HB:=am_ (eR HB.out HB.out.size hbe);replace HK:=am_ (Kept.below HK.out hbe);replace tg:=ah hbe tg;replace th:=ah hbe th;replace hz0:=ah hbe hz0;replace hz2:=ah hbe hz2;clear hbe ht HS))
    clear tg th hz0 hz2;have hlt8:=(Kd.R_reads' HT.out).2.2.2.1;go_loopw [1,9] (fun v1 v9 wq=>∃(j:Nat) (L3:List S76),v9 = .int .i64 (j:Int)∧j≤ts.length∧aa (b6.ts k id c.f0 (ts.drop j) (j:Int) L3=some L2)∧aa (Kd.S kE 76 wq w0.heap.size (fun k_=>((ok k_∨w.heap.size≤k_)∧k_≠gb)∧some k_≠(Value.slice A8 ts.length c8).ownBlock) v1 L3)∧aa (Kd.R Kd.string 9 wq w0.heap.size (fun k_=>some k_=(Value.slice A8 ts.length c8).ownBlock) (.slice A8 ts.length c8) ts)∧aa (wq.heap[gb]? = some (.cells #[.int .i64 id,.string key,.slice (some ad) cs.length c2] 46 (0,0)))∧aa (Below w0.heap.size w0 wq)∧aa (Kept w wq ok)) (fun _ v _=>match v with | .int _ i=>ts.length - i.toNat | _=>0)
    case atStart=>exact⟨0,L',rfl,Nat.zero_le _,HL2,ti,HT,BK,HB,HK⟩
    case round=>
     clear ti HT BK HB HK HL2;obtain⟨j,L3,rfl,hj,HL2,HS,HT,BK,HB,HK⟩:=hrel;rcases Nat.lt_or_ge j ts.length with hjlt | hjge
     ·have h:=HL2.out;rw[List.drop_eq_getElem_cons hjlt,b6.ts] at h;have htc:=(Kd.R_reads' HT.out).2.2;obtain⟨tj,e8,hy⟩:=rY htc j hjlt;subst e8;obtain⟨ad',e',tg,th⟩:=dZ (HC.out wr HB.out HK.out) (i:Int) au au;cases e';rw[HRD.out] at tg th;simp only[Int.toNat_natCast] at tg th;have hz0:wr.cell? ⟨gb,0,none⟩=some (.int .i64 id):=(aV BK.out 0).trans rfl;have hz2:wr.cell? ⟨gb,2,none⟩=some (.slice (some ad) cs.length c2):=(aV BK.out 2).trans rfl;have q1:((j:Int)<(ts.length:Int))=True:=eq_true au;have q0:(0≤(j:Int))=True:=eq_true au;generalize ts[j] = tt at h hy;generalize hte:(!tt.toList.isEmpty)=bt;have hsz:=rJ tt hte;cases bt with
      | false=>
       rw[if_pos (by simpa using hsz)] at h;have HN:=am_ h;clear h hsz htc;go_wp2;go_roundw
       case rel=>exact⟨j+1,L3,fF,au,by simpa using HN,HS,HT,BK,HB,HK⟩
       case measure=>simp;omega
      | true=>
       rw[if_neg (by simpa using hsz)] at h;obtain⟨L4,hL4,h⟩:=Option.bind_eq_some_iff.1 h;have HN:=am_ h;have HL4:=am_ hL4;clear h hsz htc hL4;go_wp2;refine wp_region_still_tail 15 bW bW ?_;simp only[List.take_succ_cons,List.take_zero,List.drop_succ_cons,List.drop_zero];change wpStill _ _ (World.drew _) _ _ _
       repeat still_step
       refine wpStill_nil ?_;change wpList _ _ _ _ _ (World.drew _)
       have HS':=am_ (Kd.S_drew HS.out);have HT':=am_ (Kd.R_drew HT.out);have BK':=am_ (bf BK.out);have HB':=am_ (az HB.out);have HK':=am_ (Kept.drew HK.out);clear tg th hz0 hz2 hy HS HT BK HB HK;generalize wr.drew=w5 at HS' HT' BK' HB' HK' ⊢;go_wp2_with (first | (go_at_call 142;refine(cz.calls k _ _ _ _ _ _ _ w0 _ _ HB'.out HS'.out HL4.out).mono ?_;rintro e w6 ⟨v6,rfl,hs,hb6,hk6⟩;have HS:=am_ (Kd.S_mono hs (ok':=fun k_=>((ok k_∨w.heap.size≤k_)∧k_≠gb)∧some k_≠(Value.slice (some tj) ts.length c8).ownBlock) (fun k_ hk=>hk.elim (fun h2=>h2) (fun h2=>⟨⟨.inr (Nat.le_trans HK'.out.1 h2),fun he=>by have:=dI BK'.out;omega⟩,fun he=>by have:=Kd.R_lt HT'.out k_ he.symm;omega⟩)));have HT:=am_ (Kd.R_kept HT'.out hk6 (fun k_ hk h2=>h2.2 hk));have BK:=am_ (fE BK'.out hk6 (fun h2=>h2.1.2 rfl));have HK:=am_ (Kept.then_ HK'.out hk6 (fun k_ h2=>h2.1.1));have HB:=am_ hb6;clear hs hk6 hb6 HS' HT' BK' HB' HK'))
       go_roundw
       case rel=>exact⟨j+1,L4,fF,au,by simpa using HN,HS,HT,BK,HB,HK⟩
       case measure=>simp;omega
     ·obtain rfl:j=ts.length:=by omega
      have h:=HL2.out;rw[List.drop_eq_nil_of_le (Nat.le_refl _),b6.ts] at h;obtain rfl:=Option.some.inj h;have q1:(((ts.length:Nat):Int)<(ts.length:Int))=False:=eq_false au;clear h;go_wp2;go_roundw
      case rel=>exact⟨i+1,_,fF,au,H2,⟨Kd.S_mono HS.out (fun k_ hk=>hk.1)⟩,BK,HB,HK⟩
      case measure=>simp;omega
  ·obtain rfl:i=cs.length:=by omega
   have h:=H.out;rw[List.drop_eq_nil_of_le (Nat.le_refl _),b6.cs] at h;obtain rfl:=Option.some.inj h;have hz2:wr.cell? ⟨gb,2,none⟩=some (.slice A2 cs.length c2):=(aV BK.out 2).trans rfl;have p1:(((cs.length:Nat):Int)<(cs.length:Int))=False:=eq_false au;clear h;go_wp2;go_ret
   exact⟨_,rfl,Kd.S_mono HS.out (fun k_ hk=>hk.1),HB.out,HK.out⟩
def bn.f (k:Nat) (fs:List S92) (rows:List S46):Option (List S76):=bn.rs k fs rows []
theorem bn.calls_ (k:Nat) (A0:Option Addr) (c0:Nat) (l0:List S92) (A1:Option Addr) (c1:Nat) (l1:List S46) (r:List S76) (w:World) (hr0:Kd.C k92 w A0 l0.length l0) (hc0:l0.length≤c0) (hr1:Kd.C k46 w A1 l1.length l1) (hc1:l1.length≤c1) (h:bn.f k l0 l1=some r) :
  Calls Tryz.prog 55 #[.slice A0 l0.length c0,.slice A1 l1.length c1] w fun e w'=>∃v:Value,e = .returned v∧Kd.S kE 76 w' w.heap.size (fun _=>True) v r∧Below w.heap.size w w':=by
 have hlen:=hr1.2.1;have HF:=am_ hr0;have HF0:=am_ hc0;have HR:=am_ hr1;have H:=am_ h;have HB:=am_ (Below.refl w.heap.size w);have hu46_:=Tryz.underlying46;clear hr0 hc0 hr1 h;go_enter Tryz.func55,Tryz.ntmps55
 go_wp2_with (first | ((with_reducible refine aH (N:=7) rfl ?_);refine sZ (w0:=w) (B:=w.heap.size) rfl (N:=7) ?hd ?hr HB.out HB.out.size ?_;(case hd=>rfl);(case hr=>exact bM);intro v7 w2 hs hb;have HS:=am_ hs;replace HB:=am_ hb;clear hs hb))
 go_loopw [5,6] (fun v5 v6 wr=>∃(i:Nat) (L:List S76),v6 = .int .i64 (i:Int)∧i≤l1.length∧aa (bn.rs k l0 (l1.drop i) L=some r)∧aa (Kd.S kE 76 wr w.heap.size (fun _=>True) v5 L)∧aa (Below w.heap.size w wr)) (fun _ v _=>match v with | .int _ i=>l1.length - i.toNat | _=>0)
 case atStart=>exact⟨0,[],rfl,Nat.zero_le _,H,HS,HB⟩
 case round=>
  clear HS HB H;obtain⟨i,L,rfl,hi,H,HS,HB⟩:=hrel;rcases Nat.lt_or_ge i l1.length with hlt | hge
  ·obtain⟨ad,A2,c2,e,tg,th,ti,hcl,hcc⟩:=fa HR.out (i:Int) au au;subst e;simp only[Int.toNat_natCast] at tg th ti;replace tg:=ah HB.out tg;replace th:=ah HB.out th;replace ti:=ah HB.out ti;have hrd:ab l1 (i:Int)=l1[i]:=by unfold ab;simp[List.getD_eq_getElem?_getD,List.getElem?_eq_getElem hlt]
   rw[hrd] at tg th ti hcl hcc;have h:=H.out;rw[List.drop_eq_getElem_cons hlt,bn.rs] at h;generalize l1[i] = c at tg th ti hcl hcc h;clear hrd;obtain⟨L2,hL2,h⟩:=Option.bind_eq_some_iff.1 h;have HL2:=am_ hL2;have H2:=am_ h;have HCC:=am_ hcc;have HCL:=am_ hcl;have p1:((i:Int)<(l1.length:Int))=True:=eq_true au;have p0:(0≤(i:Int))=True:=eq_true au;clear h H hL2 hcc hcl;go_wp2_with (first | (go_at_call 101;refine(ph k _ _ _ _ _ _ _ _ _ _ _ w _ (fun k_=>w.heap.size≤k_) HB.out (Kd.S_mono (Kd.S_bound HS.out) (fun _ hk=>hk.2.1)) (fun W hb _=>Kd.C_below HF.out hb) HF0.out (fun W hb _=>Kd.C_below HCC.out hb) HCL.out HL2.out).mono ?_;rintro e w6 ⟨v6,rfl,hs,hb6,hk6⟩;have tj:=am_ (Kd.S_mono hs (ok':=fun _=>True) (fun _ _=>trivial));have HB2:=am_ hb6;clear hs hb6 hk6 HS HB tg th ti))
   go_roundw
   case rel=>exact⟨i+1,L2,fF,au,H2,tj,HB2⟩
   case measure=>simp;omega
  ·obtain rfl:i=l1.length:=by omega
   have h:=H.out;rw[List.drop_eq_nil_of_le (Nat.le_refl _),bn.rs] at h;obtain rfl:=Option.some.inj h;have p1:(((l1.length:Nat):Int)<(l1.length:Int))=False:=eq_false au;clear h;go_wp2;go_ret
   exact⟨_,rfl,HS.out,HB.out⟩
end
theorem bn.calls (k:Nat) (A0:Option Addr) (c0:Nat) (l0:List (S92)) (A1:Option Addr) (c1:Nat) (l1:List (S46)) (r:List (S76)) (w:World) (hr0:Kd.C k92 w A0 l0.length l0) (hc0:l0.length≤c0) (hr1:Kd.C k46 w A1 l1.length l1) (hc1:l1.length≤c1) (h:bn.f k l0 l1=some r) :
  Calls Tryz.prog 55 #[.slice A0 l0.length c0,.slice A1 l1.length c1] w fun e w'=>∃v0_:Value,e = .returned (v0_)∧Kd.R k76 76 w' w.heap.size (fun _=>True) v0_ r∧Below w.heap.size w w':=
 (bn.calls_ k A0 c0 l0 A1 c1 l1 r w hr0 hc0 hr1 hc1 h).mono fun _ _ ⟨v,he,hs,hb⟩=>⟨v,he,Kd.S_R (qD hs),hb⟩
end
section
open Go Go.RowKit Go.Proofs.YtnjjdojonflckaaGreatDoor.Ent
section
open Go Go.RowKit Go.Sort Go.Proofs.YtnjjdojonflckaaGreatDoorW.PrintWords Go.Proofs.YtnjjdojonflckaaGreatDoorW.PrintLast Go.Proofs.YtnjjdojonflckaaGreatDoorW.PrintMore Go.Proofs.YtnjjdojonflckaaGreatDoor.Ent
abbrev Sl:=Option Addr × Nat × Nat
def eV (x:S76 × Sl):List Value:=[.string x.1.f0,.string x.1.f1,.slice x.2.1 x.2.2.1 x.2.2.2]
def pw (x y:S76):Int:=ordS (x.f0,x.f1) (y.f0,y.f1)
instance:Inhabited (S76 × Sl):=⟨(z76,none,0,0)⟩
theorem eI (x y:List UInt8):Op.bytesLess x y=true↔x<y:=by rw[Go.Proofs.bytesLess_eq];simp
theorem pe (x y:ByteArray):ji x y<0↔x.toList<y.toList:=by
 unfold ji
 by_cases h:x.toList<y.toList
 ·rw[if_pos ((eI _ _).2 h)];simp[h]
 ·rw[if_neg (fun h2=>h ((eI _ _).1 h2))];simp only[h,iff_false];split <;> simp
theorem nu (x y:ByteArray):ji x y=0↔x.toList=y.toList:=by
 unfold ji
 by_cases h:x.toList<y.toList
 ·rw[if_pos ((eI _ _).2 h)];constructor
  ·intro h2;omega
  ·intro h2;rw[h2] at h;exact absurd h (List.lt_irrefl _)
 ·rw[if_neg (fun h2=>h ((eI _ _).1 h2))];have hb:Op.bytesLess x.toList y.toList=false:=by
   cases hc:Op.bytesLess x.toList y.toList
   ·rfl
   ·exact absurd ((eI _ _).1 hc) h
  rw[hb,Bool.false_or];by_cases h2:x.toList=y.toList
  ·simp[h2]
  ·simp[h2]
def ltP (p q:ByteArray × ByteArray):Prop:=p.1.toList<q.1.toList∨p.1.toList=q.1.toList∧p.2.toList<q.2.toList
theorem gu (p q:ByteArray × ByteArray):ordS p q<0↔ltP p q:=by
 unfold ordS ltP
 by_cases h:ji p.1 q.1=0
 ·rw[if_pos h,pe];have h2:=(nu _ _).1 h;rw[h2];constructor
  ·intro h3;exact .inr ⟨rfl,h3⟩
  ·rintro (h3 | ⟨_,h3⟩)
   ·exact absurd h3 (List.lt_irrefl _)
   ·exact h3
 ·rw[if_neg h,pe];constructor
  ·intro h3;exact .inl h3
  ·rintro (h3 | ⟨h3,_⟩)
   ·exact h3
   ·exact absurd ((nu _ _).2 h3) h
theorem dA (p:ByteArray × ByteArray):¬ltP p p:=by
 rintro (h | ⟨_,h⟩) <;> exact absurd h (List.lt_irrefl _)
theorem fm {p q r:ByteArray × ByteArray} (h:ltP p q) (k:ltP q r):ltP p r:=by
 rcases h with h | ⟨h,h2⟩ <;> rcases k with k | ⟨k,k2⟩
 ·exact .inl (List.lt_trans h k)
 ·exact .inl (k ▸ h)
 ·exact .inl (h ▸ k)
 ·exact .inr ⟨h.trans k,List.lt_trans h2 k2⟩
theorem fq (p q:ByteArray × ByteArray):ltP p q∨p=q∨ltP q p:=by
 have ext:∀ {a b:ByteArray},a.toList=b.toList→a=b:=fun {a b} h=>by
  rw[ByteArray.toList_eq,ByteArray.toList_eq] at h;cases a;cases b;simpa using h
 have tri:∀a b:List UInt8,a<b∨a=b∨b<a:=fun a b=>by
  by_cases h1:a<b
  ·exact .inl h1
  ·by_cases h2:b<a
   ·exact .inr (.inr h2)
   ·exact .inr (.inl (List.le_antisymm h2 h1))
 rcases tri p.1.toList q.1.toList with h | h | h
 ·exact .inl (.inl h)
 ·rcases tri p.2.toList q.2.toList with k | k | k
  ·exact .inl (.inr ⟨h,k⟩)
  ·exact .inr (.inl (Prod.ext (ext h) (ext k)))
  ·exact .inr (.inr (.inr ⟨h.symm,k⟩))
 ·exact .inr (.inr (.inl h))
theorem swoE:SWO (ltOf fun (x y:S76 × Sl)=>pw x.1 y.1) where
 irrefl x:=by
  unfold ltOf pw
  rw[decide_eq_false_iff_not,gu];exact dA _
 trans x y z h1 h2:=by
  unfold ltOf pw at *
  rw[decide_eq_true_eq,gu] at *;exact fm h1 h2
 ntrans x y z h1 h2:=by
  unfold ltOf pw at *
  rw[decide_eq_false_iff_not,gu] at *;intro h3;rcases fq (x.1.f0,x.1.f1) (y.1.f0,y.1.f1) with h | h | h
  ·exact h1 h
  ·rw[h] at h3;exact h2 h3
  ·exact h2 (fm h h3)
theorem n9 (blk off size:Nat) (w:World):CmpLays Tryz.prog 116 #[] eV 3 (fun (x y:S76 × Sl)=>pw x.1 y.1) blk off size w:=
 fun _ _ _ _ x y=>qm x.1.f0 x.1.f1 y.1.f0 y.1.f1 _ _ _ _ _ _ _
theorem oT {R:S76→List Value→Prop} (hR:∀x c,R x c→∃s:Sl,c=eV (x,s)):∀(xs:List S76) (inner:List Value),Reps R 3 xs inner→∃ds:List (S76 × Sl),ds.map (·.1)=xs∧inner=ds.flatMap eV∧∀p∈ds,R p.1 (eV p)
 | [],inner,h=>⟨[],rfl,by have:=h.1;simpa using this,bb⟩
 | x :: xs,inner,h=>by
  have h0:=h.2 0 x rfl;rw[Nat.zero_mul,List.drop_zero] at h0;obtain⟨s,hs⟩:=hR x _ h0;have hl:=h.1;rw[List.length_cons] at hl;obtain⟨ds,h1,h2,h3⟩:=oT hR xs (inner.drop 3) ⟨by rw[List.length_drop];omega,fun j p hj=>by
   have:=h.2 (j+1) p (by simpa using hj);rw[List.drop_drop];have e:3+j*3=(j+1)*3:=by omega
   rw[e];exact this⟩
  refine⟨(x,s) :: ds,by rw[List.map_cons,h1],?_,fun p hp=>?_⟩
  ·rw[List.flatMap_cons,← h2,← hs,List.take_append_drop]
  ·rcases List.mem_cons.1 hp with hp | hp
   ·rw[hp,← hs];exact h0
   ·exact h3 p hp
theorem lZ {R:S76→List Value→Prop} : ∀(ds:List (S76 × Sl)),(∀p∈ds,R p.1 (eV p))→Reps R 3 (ds.map (·.1)) (ds.flatMap eV)
 | [],_=>⟨rfl,bb⟩
 | p :: ds,h=>by
  have ih:=lZ ds (fun q hq=>h q (List.mem_cons_of_mem _ hq));refine⟨by have:=ih.1;rw[List.flatMap_cons,List.length_append,this,List.map_cons,List.length_cons];show 3+_=_;omega,fun j q hj=>?_⟩;cases j with
  | zero=>
   obtain rfl:p.1=q:=by simpa using hj
   exact h p bb
  | succ j=>
   have:=ih.2 j q (by simpa using hj);rw[List.flatMap_cons];have e:(j+1)*3=(eV p).length+j*3:=by show _=3+_;omega
   rw[e,← List.drop_drop,List.drop_left];exact this
theorem jd (d:Array (S76 × Sl)):(flatK eV 3 d).toList=d.toList.flatMap eV:=by
 have h:∀(l:List (S76 × Sl)) (t:Nat),t<l.length*3→(l.flatMap eV)[t]? = some (eV (l[t / 3]!))[t % 3]!:=by
  intro l;induction l with
  | nil=>intro t ht;simp at ht
  | cons p l ih=>
   intro t ht;rw[List.flatMap_cons];by_cases h3:t<3
   ·rw[List.getElem?_append_left (by exact h3)];have e0:t / 3=0:=by omega
    have e1:t % 3=t:=by omega
    rw[e0,e1];have hl:(eV p).length=3:=rfl;rw[List.getElem?_eq_getElem au];simp[hl,h3]
   ·rw[List.getElem?_append_right (by show 3≤t;omega)];have hl:(eV p).length=3:=rfl;rw[hl];have:=ih (t - 3) (by rw[List.length_cons] at ht;omega);rw[this];have e0:t / 3=(t - 3) / 3+1:=by omega
    have e1:t % 3=(t - 3) % 3:=by omega
    rw[e0,e1];simp
 have hfl:∀l:List (S76 × Sl),(l.flatMap eV).length=l.length*3:=by
  intro l;induction l with
  | nil=>rfl
  | cons p l ih=>rw[List.flatMap_cons,List.length_append,ih,List.length_cons];show 3+_=_;omega
 apply List.ext_getElem?
 intro t;rcases Nat.lt_or_ge t (d.size*3) with ht | ht
 ·have h2:=h d.toList t (by simpa using ht);rw[h2];have hs:t<(flatK eV 3 d).size:=by simpa using ht
  rw[Array.getElem?_toList,Array.getElem?_eq_getElem hs];have h3:=get_flatK eV 3 d t ht;rw[getElem!_pos (flatK eV 3 d) t hs] at h3;rw[h3];have h4:d.toList[t / 3]! = d[t / 3]!:=by
   rw[getElem!_pos d (t / 3) au,getElem!_pos d.toList (t / 3) (by rw[Array.length_toList];omega),Array.getElem_toList]
  rw[h4]
 ·rw[List.getElem?_eq_none (by simpa using ht),List.getElem?_eq_none (by rw[hfl];simpa using ht)]
def b9 (x:S76):ByteArray × ByteArray:=(x.f0,x.f1)
set_option maxHeartbeats 1000000 in
theorem rQ (v:Value) (xs:List S76) (B:Nat) (w0 w:World) (hB:Below B w0 w) (hR:Kd.R k76 76 w B (fun _=>True) v xs) (hv:∃g,v.ownBlock=some g) (hlen:xs.length<1000000000) :
  Calls Tryz.prog 115 #[v,.func (.func 116) #[] #[]] w fun e w'=>e = .returned (.tuple #[])∧∃ys:List S76,ys.Perm xs∧ys.Pairwise (fun a b=>¬ltP (b9 b) (b9 a))∧Kd.R k76 76 w' B (fun _=>True) v ys∧Below B w0 w':=by
 obtain⟨h0,inner,ho,hr⟩:=hR;obtain⟨g,hg⟩:=hv;rcases ho.2 with ⟨rfl,_⟩ | ⟨g',cap,cur,rfl,hb,hh,hle,hmax,hsz,htake⟩
 ·simp[Value.ownBlock] at hg
 have hgg:g'=g:=by simpa [Value.ownBlock] using hg
 subst hgg;have e3:k76.sz=3:=rfl;rw[e3] at hr htake hsz;obtain⟨ds,hds1,hds2,hds3⟩:=oT (fun x c hM=>by
  obtain⟨v2,rfl,hP⟩:=rA hM;obtain⟨A,n,rfl⟩:=Kd.R_slice hP;exact⟨(A,x.f2.length,n),rfl⟩) xs inner hr
 have hlt:g'<w.heap.size:=dI hh;have hdl:ds.length=xs.length:=by rw[← hds1,List.length_map]
 have hil:inner.length=xs.length*3:=hr.1;have hget:∀t,t<inner.length→cur[t]? = inner[t]?:=fun t ht=>by
  rw[← htake,List.getElem?_take,if_pos au,Array.getElem?_toList]
 have hflat:(flatK eV 3 ds.toArray).toList=inner:=by rw[jd,hds2]
 have hH:HoldsK eV 3 w g' 0 ds.toArray:=by
  intro j hj;have hj':j<inner.length:=by rw[← hflat];simpa using hj
  constructor
  ·rw[Nat.zero_add,aV hh,hget j hj',← hflat,Array.getElem?_toList,Array.getElem?_eq_getElem hj,getElem!_pos (flatK eV 3 ds.toArray) j hj];rfl
  ·exact cy hh _
 have hsize:ds.toArray.size=xs.length:=by simpa using hdl
 have hcon:=Tryz.slices_SortFunc_Entry eV (fun _=>rfl) (fun x u hu=>by
  simp only[eV,List.mem_cons,List.not_mem_nil,or_false] at hu;rcases hu with rfl | rfl | rfl <;> rfl) (fun (x y:S76 × Sl)=>pw x.1 y.1) swoE 116 #[] g' 0 cap ds.toArray w (enters_of Tryz.func116 bW rfl) (n9 g' 0 _ w) hH hlt au
 rw[hsize] at hcon;refine hcon.mono ?_;rintro e w' ⟨rfl,d',n,os,hp,hs,rfl⟩;obtain⟨hp1,_,hp3⟩:=hp;have hd'l:d'.size=xs.length:=by rw[hp1,hsize]
 have hperm:d'.toList.Perm ds:=by
  have e1:d'.extract 0 xs.length=d':=by rw[← hd'l];simp
  have e2:ds.toArray.extract 0 xs.length=ds.toArray:=by rw[← hsize];simp
  rw[e1,e2] at hp3;simpa using hp3
 have hheap:=sl (enc:=id) (w:=w) hh n os 0 (flatK eV 3 d');have hother:∀k,k<w.heap.size→k≠g'→(sortWorldK eV 3 w g' 0 n d' os).heap[k]? = w.heap[k]?:=fun k hk hne=>l7 hk (Ne.symm hne) n os 0 _
 have hsz':w.heap.size≤(sortWorldK eV 3 w g' 0 n d' os).heap.size:=size_sortWorldK_c eV 3 w g' 0 n d' os;have hxl:(d'.toList.map (·.1)).length=xs.length:=by rw[List.length_map,Array.length_toList,hd'l]
 have hfl':(d'.toList.flatMap eV).length=xs.length*3:=by rw[← jd,Array.length_toList,size_flatK,hd'l]
 refine⟨rfl,d'.toList.map (·.1),?_,?_,⟨fun _ _=>trivial,d'.toList.flatMap eV,?_,?_⟩,⟨hB.os,hB.tape,hB.output,Nat.le_trans hB.size hsz',fun k hk=>?_⟩⟩
 ·have:=hperm.map (·.1);rwa [hds1] at this
 ·rw[List.pairwise_map];rw[List.pairwise_iff_getElem];intro i j hi hj hij;have hi':i<d'.size:=by simpa using hi
  have hj':j<d'.size:=by simpa using hj
  have h1:=hs i j (Nat.zero_le _) hij au;unfold ltOf pw at h1
  rw[decide_eq_false_iff_not,gu,getElem!_pos d' i hi',getElem!_pos d' j hj'] at h1;simpa [b9] using h1
 ·rw[hxl];refine⟨by rw[hfl',e3],.inr ⟨g',cap,_,rfl,hb,hheap,hle,hmax,by rw[mW,e3];exact hsz,?_⟩⟩;apply List.ext_getElem?
  intro t;rw[List.getElem?_take,e3];split
  ·rename_i ht
   have ht2:t<(flatK eV 3 d').size:=by rw[size_flatK,hd'l];exact ht
   have ht3:t<cur.size:=by rw[hsz];exact Nat.lt_of_lt_of_le ht (Nat.mul_le_mul_right _ hle)
   rw[Array.getElem?_toList,oz _ _ ht2 ht3,← jd,Array.getElem?_toList,Array.getElem?_eq_getElem ht2];rfl
  ·rename_i ht
   rw[List.getElem?_eq_none (by rw[hfl'];omega)]
 ·rw[e3];refine lZ d'.toList (fun p hp=>?_);have hM:=hds3 p (hperm.mem_iff.1 hp);refine k76.M_mono (fun k hk=>hk.1) (k76.M_move (w1:=sortWorldK eV 3 w g' 0 n d' os) (fun k hk=>hother k hk.2.2.1 (fun he=>hk.1.2 (by rw[he];simp[Value.ownBlock]))) (k76.M_bound hM))
 ·rw[hother k (Nat.lt_of_lt_of_le hk (Nat.le_of_lt (Nat.lt_of_le_of_lt hb hlt))) au];exact hB.block k hk
end
section
open Go Go.RowKit Go.MapKept Go.Proofs.YtnjjdojonflckaaGreatDoorW.PrintWords Go.Proofs.YtnjjdojonflckaaGreatDoorW.PrintLast Go.Proofs.YtnjjdojonflckaaGreatDoorW.PrintMore Go.Proofs.YtnjjdojonflckaaGreatDoor.Ent
open Go.ChangeMaps (setBlock heap_setBlock_same heap_setBlock_other)
theorem ke:lu Tryz.prog 145 147 34 where
 K:=Go.Maps.Keyed.of_law (deep_law_gate bW (of_decide_eq_true bW) (of_decide_eq_true bW) bW bW)
 ht:=Tryz.underlying145
 key:=fun p hp=>ru Tryz.underlying147 Tryz.underlying9 Tryz.underlying9 rfl rfl bW bW bW bW bW bW ⟨_,rfl⟩ p hp
 zero:=fun w=>by kernel_rfl
section
variable {P:Program} {ops:Array Oper} {rest:List Oper} {o o2:Oper} {a:Act} {Q:Exit→Act→World→Prop}
theorem fY {W:World} (hg1:o.guard=none) {N:Tmp} (hd:o.dst=some N) (hg2:o2.guard=none) (hd2:o2.dst=none) {zs cs:Array Value} {t:TypeId}
  (hrun1:(execOp a.eval o).run P W = .ok (.value (.pointer (some ⟨W.heap.size,0,none⟩))) (W.alloc (.cells zs t (0,0))))
  (hrun2:(execOp (a.put o.dst (.pointer (some ⟨W.heap.size,0,none⟩))).eval o2).run P (W.alloc (.cells zs t (0,0))) = .ok .skip (W.alloc (.cells cs t (0,0))))
  (h:∀g,g=W.heap.size→∀w1,w1.heap[g]? = some (.cells cs t (0,0))→Below W.heap.size W w1→wpList P ops Q rest (a.put o.dst (.pointer (some ⟨g,0,none⟩))) w1):wpList P ops Q (o :: o2 :: rest) a W:=by
 refine Kd.event_run hg1 hrun1 ?_;refine wpList_plain hg2 fun K hK=>?_
 unfold Oper.wp
 rw[hrun2];show K ((a.put o.dst _).put o2.dst undef) _
 rw[hd2];exact hK _ _ (h _ rfl _ (oa W _) (aE (Below.refl _ _) _))
theorem qW {W:World} (hg1:o.guard=none) {N:Tmp} (hd:o.dst=some N) (base:Nat)
  (hrun:(execOp a.eval o).run P W = .ok (.value (.map (some W.heap.size))) (W.alloc (.map #[] 0)))
  (h:∀m,m=W.heap.size→∀w1,MapIs k50 50 w1 base m [] → Below W.heap.size W w1→wpList P ops Q rest (a.put o.dst (.map (some m))) w1):wpList P ops Q (o :: rest) a W:=
 Kd.event_run hg1 hrun (h _ rfl _ (MapIs.made W base) (aE (Below.refl _ _) _))
end
theorem MapRest.sub {α : Type} {d:Kd α} {e:Nat} {w:World} {base m N j:Nat} {G:List (Pl × List α)} {okj ok1:Nat→Prop} (h:MapRest d e w base m G j okj N) (hs:∀k,ok1 k→okj k):MapRest d e w base m G j ok1 N:=by
 obtain⟨es,clock,f,hc,hm,hok,hS⟩:=h;exact⟨es,clock,f,hc,hm,fun k hk=>hok k (hs k hk),hS⟩
def Wr (w:World) (m k:Nat):Prop:=k=m∨∃q cells,(q=50∨q=3)∧w.heap[k]? = some (.cells cells q (0,0))
theorem Wr.not {w:World} {m k t:Nat} {cells:Array Value} {es:Array MapEntry} {clock:Nat} (hm:w.heap[m]? = some (.map es clock)) (hb:w.heap[k]? = some (.cells cells t (0,0))) (h1:t≠50) (h2:t≠3):¬Wr w m k:=by
 rintro (rfl | ⟨q,c,hq,hc⟩)
 ·rw[hm] at hb;cases hb
 ·rw[hb] at hc;injection hc with hc
  injection hc with _ hc
  rcases hq with rfl | rfl
  ·exact h1 hc
  ·exact h2 hc
theorem MapIs.block {α : Type} {d:Kd α} {e:Nat} {w:World} {base m:Nat} {G:List (Pl × List α)} (h:MapIs d e w base m G):∃es clock,w.heap[m]? = some (.map es clock):=by
 obtain⟨es,clock,_,hc,_⟩:=h;exact⟨es,clock,hc.heap⟩
theorem mK {w:World} {m:Nat} {S:Nat→Prop} {o:Obj} {w0:World} (h:Kept w0 w S) (hm:S m∨w0.heap.size≤m) (hlt:m<w.heap.size):Kept w0 (setBlock w m o) S:=
 h.then_ (S2:=fun k=>k=m) ⟨by simp[setBlock],fun i hi hn=>mt w o hn⟩ (fun k hk=>by rw[hk];exact hm)
theorem lP {B:Nat} {w0 w:World} {m:Nat} {o:Obj} (h:Below B w0 w) (hm:B≤m):Below B w0 (setBlock w m o):=
 ⟨h.os,h.tape,h.output,by have:=h.size;simpa [setBlock] using this,fun k hk=>(mt w o au).trans (h.block k hk)⟩
abbrev Gs:=List (Pl × List S50)
def entriesW.cs (k:Nat) (fs:List S92) (id:Int):List S86→Gs × Nat→Option (Gs × Nat)
 | [],s=>some s
 | c :: cs,s=>(bs.f k fs c.f0).bind fun fd=>if fd.2.1=1 then
   (ck.f k c.f1).bind fun ts=>if s.2+ts.length≤1000000∧c.f0.size≤1000000∧(ts.all fun t=>decide (t.size≤1000000))=true then entriesW.cs k fs id cs (gf id c.f0 ts 0 s.1,s.2+ts.length) else none
  else entriesW.cs k fs id cs s
def entriesW.rs (k:Nat) (fs:List S92):List S46→Gs × Nat→Option (Gs × Nat)
 | [],s=>some s
 | r :: rs,s=>(entriesW.cs k fs r.f0 r.f1.f1 s).bind fun s'=>entriesW.rs k fs rs s'
def toE (g:Pl × List S50):S76:=⟨g.1.1,g.1.2,g.2⟩
theorem pQ {b:Bool} (s:ByteArray) (h:s.toList.isEmpty=b):decide (s.size=0)=b:=by
 subst h;have e:s.toList.length=s.size:=by rw[ByteArray.toList_eq];exact Array.length_toList
 by_cases h:s.size=0
 ·have:s.toList = []:=List.eq_nil_of_length_eq_zero au;simp[h,this]
 ·have:s.toList ≠ []:=fun h2=>h (by rw[← e,h2];rfl)
  simp[h,this]
def pL (e:S76):List S76→List S76
 | []=>[e]
 | x :: l=>if pw e x<0 then e :: x :: l else x :: pL e l
def dQ (l:List S76):List S76:=l.foldr pL []
def entriesW.f (k:Nat) (fs:List S92) (rows:List S46):Option (List S76):=(entriesW.rs k fs rows ([],0)).bind fun s=>some (dQ (s.1.map toE))
theorem fld92_1 (x0:ByteArray) (x1 x2:Int) (w:World):(Instr.field 92 (Value.agg #[.string x0,.int .i64 x1,.int .i64 x2]) 1).run Tryz.prog w = .ok (.int .i64 x1) w:=by kernel_rfl
attribute [local go_sem] fld92_1
theorem jo {w w1:World} {row:Option Nat} {g o t:Nat} {cells:Array Value} {v:Value} (hg:w.grownBy w1 row) (hty:∀k,row=some k→∃q cells,(q=50∨q=3)∧w.heap[k]? = some (.cells cells q (0,0))) (hb:w.heap[g]? = some (.cells cells t (0,0))) (hc:w.cell? ⟨g,o,none⟩=some v) (h1:t≠50:=by decide) (h2:t≠3:=by decide):w1.cell? ⟨g,o,none⟩=some v:=
 Go.Proofs.YtnjjdojonflckaaGreatDoorW.PrintWords.cell_grown hg hc (fun he=>by
  obtain⟨q,c,hq,hh⟩:=hty g he.symm;rw[hb] at hh;injection hh with hh
  injection hh with _ hh
  rcases hq with rfl | rfl
  ·exact h1 hh
  ·exact h2 hh)
theorem si {ops:Array Oper} {rest:List Oper} {o:Oper} {a:Act} {Q:Exit→Act→World→Prop} {w0 W:World} {B:Nat} (hgd:o.guard=none) {N:Tmp} (hd:o.dst=some N)
  (hrun:(execOp a.eval o).run Tryz.prog W = .ok (.value (.slice (some ⟨W.heap.size,0,none⟩) 0 0)) (W.alloc (.cells #[] 76)))
  (HB:Below B w0 W) (hbase:B≤W.heap.size) (h:∀v1 w1,Kd.R k76 76 w1 B (fun _=>True) v1 [] → Below B w0 w1→Below W.heap.size W w1→(∃b,v1.ownBlock=some b)→wpList Tryz.prog ops Q rest (a.put o.dst v1) w1):wpList Tryz.prog ops Q (o :: rest) a W:=
 Kd.R_lit k76 (w0:=w0) B 76 hgd hd (xs:=[]) (inner:=[]) (ok:=fun _=>True) (okp:=fun _=>True) hrun (Reps.none _ _) (fun _ hk=>hk) trivial HB hbase bb (fun v1 w1 hs hb hg hv=>h v1 w1 hs hb ⟨hg.os,hg.tape,hg.output,hg.size,fun k hk=>hg.block k hk bb⟩ (by obtain⟨b,hb,_⟩:=hv;exact⟨b,hb⟩))
theorem R_iter {wr w4:World} {B m rr:Nat} {G:Gs} {is:List Nat} {v:Value} {xs:List S76} (h:Kd.R k76 76 wr B (fun _=>True) v xs) (hrg:Ranging k50 50 wr B m rr G is) (hg:wr.grownBy w4 (some rr)):Kd.R k76 76 w4 B (fun _=>True) v xs:=by
 obtain⟨es,clock,f,c0,seen,hc,hS,hr,_⟩:=hrg;refine Kd.R_mono (Kd.R_grown (Kd.R_bound h) hg (fun k hk he=>?_)) (fun _ _=>trivial);obtain⟨_,_,_,q,hq,cells,hcl⟩:=hk;injection he with he
 rw[he,hr] at hcl;cases hcl
theorem Ranging.nodup {wr:World} {B m rr:Nat} {G:Gs} {is:List Nat} (hrg:Ranging k50 50 wr B m rr G is):(G.map (·.1)).Nodup:=by
 obtain⟨es,clock,f,c0,seen,hc,_⟩:=hrg;exact hc.nodup
theorem py {w:World} {k:Nat} (h:∃q,q∈50 :: k50.E∧∃cells,w.heap[k]? = some (.cells cells q (0,0))) (h':∃cells,w.heap[k]? = some (.cells cells 76 (0,0))):False:=by
 obtain⟨q,hq,cells,hc⟩:=h;obtain⟨cells',hc'⟩:=h';rw[hc] at hc';injection hc' with hc'
 injection hc' with _ hc'
 rw[hc'] at hq;exact absurd hq am
theorem jV (e:S76):∀l,(pL e l).Perm (e :: l)
 | []=>List.Perm.refl _
 | x :: l=>by
  unfold pL
  split
  ·exact List.Perm.refl _
  ·exact((jV e l).cons x).trans (List.Perm.swap e x l)
theorem fT:∀l,(dQ l).Perm l
 | []=>List.Perm.refl _
 | x :: l=>(jV x (dQ l)).trans ((fT l).cons x)
theorem kK (e:S76):∀l:List S76,l.Pairwise (fun a b=>ltP (b9 a) (b9 b))→(∀x∈l,b9 x≠b9 e)→(pL e l).Pairwise (fun a b=>ltP (b9 a) (b9 b))
 | [],_,_=>by unfold pL;simp
 | x :: l,h,hne=>by
  rw[List.pairwise_cons] at h;unfold pL
  split
  ·rename_i hlt
   have hlt':ltP (b9 e) (b9 x):=(gu _ _).1 hlt;rw[List.pairwise_cons,List.pairwise_cons];exact⟨fun y hy=>(List.mem_cons.1 hy).elim (fun h2=>by rw[h2];exact hlt') (fun h2=>fm hlt' (h.1 y h2)),h⟩
  ·rename_i hlt
   have hge:ltP (b9 x) (b9 e):=by
    rcases fq (b9 x) (b9 e) with h2 | h2 | h2
    ·exact h2
    ·exact absurd h2 (hne x bb)
    ·exact absurd ((gu _ _).2 h2) hlt
   rw[List.pairwise_cons];refine⟨fun y hy=>?_,kK e l h.2 (fun y hy=>hne y (List.mem_cons_of_mem _ hy))⟩;rcases List.mem_cons.1 ((jV e l).mem_iff.1 hy) with h2 | h2
   ·rw[h2];exact hge
   ·exact h.1 y h2
theorem eX:∀l:List S76,(l.map b9).Nodup→(dQ l).Pairwise (fun a b=>ltP (b9 a) (b9 b))
 | [],_=>List.Pairwise.nil
 | x :: l,h=>by
  rw[List.map_cons,List.nodup_cons] at h;refine kK x (dQ l) (eX l h.2) (fun y hy he=>h.1 ?_);exact List.mem_map.2 ⟨y,(fT l).mem_iff.1 hy,he⟩
theorem j8:∀ {l m:List S76},l.Perm m→l.Pairwise (fun a b=>ltP (b9 a) (b9 b))→m.Pairwise (fun a b=>ltP (b9 a) (b9 b))→l=m
 | [],m,h,_,_=>(List.nil_perm.1 h).symm
 | x :: l,[],h,_,_=>absurd h.symm bb
 | x :: l,y :: m,h,h1,h2=>by
  rw[List.pairwise_cons] at h1 h2;have hxy:x=y:=by
   rcases List.mem_cons.1 (h.mem_iff.1 (List.mem_cons_self ..)) with e | e
   ·exact e
   ·rcases List.mem_cons.1 (h.mem_iff.2 (List.mem_cons_self (a:=y) (l:=m))) with e2 | e2
    ·exact e2.symm
    ·exact absurd (fm (h1.1 y e2) (h2.1 x e)) (dA _)
  subst hxy;rw[j8 (List.Perm.cons_inv h) h1.2 h2.2]
theorem rm {G:Gs} {ys:List S76} (h:ys.Perm (G.map toE)) (hs:ys.Pairwise (fun a b=>¬ltP (b9 b) (b9 a))) (hn:(G.map (·.1)).Nodup):ys=dQ (G.map toE):=by
 have hk:((G.map toE).map b9).Nodup:=by
  have e:(G.map toE).map b9=G.map (·.1):=by rw[List.map_map];rfl
  rw[e];exact hn
 have hk2:(ys.map b9).Nodup:=(h.map b9).nodup_iff.2 hk;refine j8 (h.trans (fT _).symm) ?_ (eX _ hk);have h3:ys.Pairwise (fun a b=>b9 a≠b9 b):=List.pairwise_map.1 hk2;exact(hs.and h3).imp (fun {a b} hab=>by
  rcases fq (b9 a) (b9 b) with h4 | h4 | h4
  ·exact h4
  ·exact absurd h4 hab.2
  ·exact absurd h4 hab.1)
theorem jl {w0 wr w3:World} {B m jj:Nat} {G:Gs} {okj ok1:Nat→Prop} {xs xs':List S50} {v1:Value} {p:Pl} {id x:Int} (hmap:MapIs k50 50 wr B m G) (hrest:MapRest k50 50 wr B m G jj okj wr.heap.size) (hk:Kept wr w3 okj) (hS:Kd.S k50 50 w3 B ok1 v1 xs') (hok:∀k,ok1 k→okj k∨wr.heap.size≤k)
  (hty:∀k,okj k→∃q cells,(q=50∨q=3)∧wr.heap[k]? = some (.cells cells q (0,0))) (hp:ly p) (hj:(jj=G.length∧xs = [] ∧ ∀g∈G,g.1≠p)∨∃g,G[jj]? = some g∧g.1=p∧g.2=xs) (he:xs'=ey xs id x) (hB:Below B w0 w3) (hm:B≤m) :
  ∃es clock,(Instr.mapUpdate 145 (.map (some m)) (.agg #[.string p.1,.string p.2]) v1).run Tryz.prog w3 = .ok () (setBlock w3 m (.map es clock))∧MapIs k50 50 (setBlock w3 m (.map es clock)) B m (stepG G p id x)∧Kept wr (setBlock w3 m (.map es clock)) (Wr wr m)∧Below B w0 (setBlock w3 m (.map es clock)):=by
 have hrest3:=hrest.step (w1:=w3) (fun k hk1 hn=>hk.2 k hk1 hn);obtain⟨es,clock,hrun,hmap3⟩:=Go.Proofs.YtnjjdojonflckaaGreatDoor.Ent.put ke hrest3 hS hok hp (hj.imp (fun h=>⟨h.1,h.2.2⟩) (fun ⟨g,h1,h2,_⟩=>⟨g,h1,h2⟩));rw[he,rf G p id x jj xs hmap.keys_nodup hj] at hmap3;exact⟨es,clock,hrun,hmap3,mK (hk.mono (fun k h=>.inr (hty k h))) (.inl (.inl rfl)) (Nat.lt_of_lt_of_le hmap.lt hk.1),lP hB hm⟩
theorem entriesW.calls (k:Nat) (A0:Option Addr) (c0:Nat) (l0:List (S92)) (A1:Option Addr) (c1:Nat) (l1:List (S46)) (r:List (S76)) (w:World) (hG:StopsIn w) (hr0:Kd.C k92 w A0 l0.length l0) (hc0:l0.length≤c0) (hr1:Kd.C k46 w A1 l1.length l1) (hc1:l1.length≤c1) (h:entriesW.f k l0 l1=some r) :
  Calls Tryz.prog 68 #[.slice A0 l0.length c0,.slice A1 l1.length c1] w fun e w'=>∃v0_:Value,e = .returned (v0_)∧Kd.R k76 76 w' w.heap.size (fun _=>True) v0_ r∧Below w.heap.size w w':=by
 obtain⟨⟨GG,nn⟩,hrs,hsort⟩:=Option.bind_eq_some_iff.1 h;have hsort:=Option.some.inj hsort;have hlen:=hr1.2.1;have HG:=am_ hG;have HF:=am_ hr0;have HF0:=am_ hc0;have HR:=am_ hr1;have H:=am_ hrs;have HSORT:=am_ hsort;have HB:=am_ (Below.refl w.heap.size w);have hu46_:=Tryz.underlying46;have hu86_:=Tryz.underlying86;clear hG hr0 hc0 hr1 h hrs hsort;go_enter Tryz.func68,Tryz.ntmps68
 go_wp2_with (first | ((with_reducible refine aH (N:=17) rfl ?_);refine qW ?hg (N:=17) ?hd w.heap.size ?hr ?_;(case hd=>rfl);(case hg=>rfl);(case hr=>exact bM);intro m hm w1 hmap hb;have HM:=am_ hmap;have HMW:=am_ (Nat.le_of_eq hm.symm);replace HB:=am_ (aw HB.out hb);clear hm hmap hb))
 go_loopw [20] (fun tA wr=>∃(i:Nat) (s:Gs × Nat),tA = .int .i64 (i:Int)∧i≤l1.length∧aa (entriesW.rs k l0 (l1.drop i) s=some (GG,nn))∧aa (LenG s.2 s.1∧s.2≤1000000)∧aa (MapIs k50 50 wr w.heap.size m s.1)∧aa (Below w.heap.size w wr)) (fun v _=>match v with | .int _ i=>l1.length - i.toNat | _=>0)
 case atStart=>exact⟨0,([],0),rfl,Nat.zero_le _,H,⟨⟨Nat.zero_le _,bb⟩,Nat.zero_le _⟩,HM,HB⟩
 case round=>
  clear H HM HB;obtain⟨i,s,rfl,hi,H,HL,HM,HB⟩:=hrel;rcases Nat.lt_or_ge i l1.length with hlt | hge
  ·obtain⟨ad,A2,c2,e,tj,tk,tl,hcl,hcc⟩:=fa HR.out (i:Int) au au;subst e;simp only[Int.toNat_natCast] at tj tk tl;replace tj:=ah HB.out tj;replace tk:=ah HB.out tk;replace tl:=ah HB.out tl;have hrd:ab l1 (i:Int)=l1[i]:=by unfold ab;simp[List.getD_eq_getElem?_getD,List.getElem?_eq_getElem hlt]
   rw[hrd] at tj tk tl hcl hcc;have h:=H.out;rw[List.drop_eq_getElem_cons hlt,entriesW.rs] at h;generalize l1[i] = row at tj tk tl hcl hcc h;clear hrd;obtain⟨s2,hs2,h⟩:=Option.bind_eq_some_iff.1 h;have tg:=am_ hs2;have H2:=am_ h;have HCC:=am_ hcc;have hclen:=hcc.2.1;have p1:((i:Int)<(l1.length:Int))=True:=eq_true au;have p0:(0≤(i:Int))=True:=eq_true au;clear h H hs2 hcc hcl;go_wp2_with (first | ((with_reducible refine aH (N:=7) rfl ?_);refine fY rfl (N:=7) rfl rfl rfl (zs:=#[.int .i64 0,.string (⟨#[]⟩:ByteArray),.slice none 0 0]) (cs:=#[.int .i64 row.f0,.string row.f1.f0,.slice A2 row.f1.f1.length c2]) (t:=46) ?hr ?hs ?_;(case hr=>exact bM);(case hs=>exact bM);intro gr hg w2 hbox hb;have BKr:=am_ hbox;replace HM:=am_ (HM.out.below hb);replace HB:=am_ (aw HB.out hb);have hz2:w2.cell? ⟨gr,2,none⟩=some (.slice A2 row.f1.f1.length c2):=(aV BKr.out 2).trans rfl;clear hg hbox hb tj tk tl))
   have hclen':row.f1.f1.length≤9223372036854775807:=hclen;go_loopw [28] (fun tB wr=>∃(j:Nat) (s3:Gs × Nat),tB = .int .i64 (j:Int)∧j≤row.f1.f1.length∧aa (entriesW.cs k l0 row.f0 (row.f1.f1.drop j) s3=some s2)∧aa (LenG s3.2 s3.1∧s3.2≤1000000)∧aa (MapIs k50 50 wr w.heap.size m s3.1)∧aa (wr.heap[gr]? = some (.cells #[.int .i64 row.f0,.string row.f1.f0,.slice A2 row.f1.f1.length c2] 46 (0,0)))∧aa (Below w.heap.size w wr)) (fun v _=>match v with | .int _ i=>row.f1.f1.length - i.toNat | _=>0)
   case atStart=>exact⟨0,s,rfl,Nat.zero_le _,tg,HL,HM,BKr,HB⟩
   case round=>
    clear tg HL HM BKr HB hz2;obtain⟨j,s3,rfl,hj,tg,HL,HM,BKr,HB⟩:=hrel;rcases Nat.lt_or_ge j row.f1.f1.length with hjlt | hjge
    ·obtain⟨adc,e,th,ti⟩:=dZ HCC.out (j:Int) au au;subst e;simp only[Int.toNat_natCast] at th ti;replace th:=ah HB.out th;replace ti:=ah HB.out ti;have hrd:ap row.f1.f1 (j:Int)=row.f1.f1[j]:=by unfold ap;simp[List.getD_eq_getElem?_getD,List.getElem?_eq_getElem hjlt]
     rw[hrd] at th ti;have h:=tg.out;rw[List.drop_eq_getElem_cons hjlt,entriesW.cs] at h;generalize row.f1.f1[j] = c at th ti h;clear hrd;obtain⟨⟨d1,d2,d3⟩,hfd,h⟩:=Option.bind_eq_some_iff.1 h;have HFD:=am_ hfd;have q1:((j:Int)<(row.f1.f1.length:Int))=True:=eq_true au;have q0:(0≤(j:Int))=True:=eq_true au;simp only at h;by_cases hd2:d2=1
     ·rw[if_pos hd2] at h;obtain⟨ts,hts,h⟩:=Option.bind_eq_some_iff.1 h;by_cases hck:s3.2+ts.length≤1000000∧c.f0.size≤1000000∧(ts.all fun t=>decide (t.size≤1000000))=true
      ·rw[if_pos hck] at h;have HTS:=am_ hts;have HCK:=am_ hck;have H3:=am_ h;have hdb:(d2 != 1)=false:=by rw[hd2];rfl
       clear h tg hts hfd hck hd2;go_wp2_with (first | ((with_reducible refine aH (N:=9) rfl ?_);refine fY rfl (N:=9) rfl rfl rfl (zs:=#[.string (⟨#[]⟩:ByteArray),.string (⟨#[]⟩:ByteArray)]) (cs:=#[.string c.f0,.string c.f1]) (t:=86) ?hr ?hs ?_;(case hr=>exact bM);(case hs=>exact bM);intro gc hg w3 hbox hb;have BKc:=am_ hbox;replace HM:=am_ (HM.out.below hb);replace BKr:=am_ (bE BKr.out hb);replace HB:=am_ (aw HB.out hb);have hz0:w3.cell? ⟨gc,0,none⟩=some (.string c.f0):=(aV BKc.out 0).trans rfl;have hz1:w3.cell? ⟨gc,1,none⟩=some (.string c.f1):=(aV BKc.out 1).trans rfl;clear hg hbox hb th ti)|(go_at_call 110;refine(bs.calls k _ _ _ _ _ _ _ _ (Kd.C_below HF.out HB.out) HF0.out HFD.out).mono ?_;rintro e w4 ⟨rfl,hb⟩;replace HM:=am_ (HM.out.below hb);replace BKr:=am_ (bE BKr.out hb);replace BKc:=am_ (bE BKc.out hb);replace HB:=am_ (aw HB.out hb);replace hz0:=ah hb hz0;replace hz1:=ah hb hz1;clear hb)|(go_at_call 20;refine(ck.calls k _ _ _ (StopsIn.below HG.out HB.out) HTS.out).mono ?_;rintro e w5 ⟨vt,rfl,ht,hb⟩;obtain⟨A8,c8,rfl⟩:=Kd.R_slice ht;have HT:=am_ (Kd.R_lower (Kd.R_tight rfl ht) HB.out.size);replace HM:=am_ (HM.out.below hb);replace BKr:=am_ (bE BKr.out hb);replace BKc:=am_ (bE BKc.out hb);replace HB:=am_ (aw HB.out hb);clear hb ht hz0 hz1))
       have hlt8:=(Kd.R_reads' HT.out).2.2.2.1;go_loopw [42] (fun tC wr=>∃(n:Nat) (G:Gs),tC = .int .i64 (n:Int)∧n≤ts.length∧aa (gf row.f0 c.f0 (ts.drop n) (n:Int) G=gf row.f0 c.f0 ts 0 s3.1)∧aa (LenG (s3.2+n) G)∧aa (MapIs k50 50 wr w.heap.size m G)∧aa (Kd.R Kd.string 9 wr w.heap.size (fun k_=>some k_=(Value.slice A8 ts.length c8).ownBlock) (.slice A8 ts.length c8) ts)∧aa (wr.heap[gr]? = some (.cells #[.int .i64 row.f0,.string row.f1.f0,.slice (some adc) row.f1.f1.length c2] 46 (0,0)))∧aa (wr.heap[gc]? = some (.cells #[.string c.f0,.string c.f1] 86 (0,0)))∧aa (Below w.heap.size w wr)) (fun v _=>match v with | .int _ i=>ts.length - i.toNat | _=>0)
       case atStart=>exact⟨0,s3.1,rfl,Nat.zero_le _,⟨rfl⟩,⟨HL.out.1⟩,HM,HT,BKr,BKc,HB⟩
       case round=>
        clear HM HT BKr BKc HB;obtain⟨n,G,rfl,hn,HGS,HLG,HM,HT,BKr,BKc,HB⟩:=hrel;rcases Nat.lt_or_ge n ts.length with hnlt | hnge
        ·have h:=HGS.out;rw[List.drop_eq_getElem_cons hnlt,gf] at h;have htc:=(Kd.R_reads' HT.out).2.2;obtain⟨tD,e8,hy⟩:=rY htc n hnlt;subst e8;have htm:ts[n] ∈ ts:=List.getElem_mem _;have hsm:ts[n].size≤1000000:=by have:=List.all_eq_true.1 HCK.out.2.2 _ htm;simpa using this
         have r1:((n:Int)<(ts.length:Int))=True:=eq_true au;have r0:(0≤(n:Int))=True:=eq_true au;generalize ts[n] = tt at h hy hsm htm;generalize hte:tt.toList.isEmpty=bt;have hsz:=pQ tt hte;cases bt with
         | true=>
          rw[if_pos (by simpa using hsz)] at h;have HN:=am_ h;clear h hsz htc htm hsm;go_wp2;go_roundw
          case rel=>exact⟨n+1,G,fF,au,by simpa using HN,⟨⟨by have:=HLG.out.1;omega,fun g hg=>⟨by have:=(HLG.out.2 g hg).1;omega,fun q hq=>by have:=(HLG.out.2 g hg).2 q hq;omega⟩⟩⟩,HM,HT,BKr,BKc,HB⟩
          case measure=>simp;omega
         | false=>
          rw[if_neg (by simpa using hsz)] at h;have HN:=am_ h;have hp:ly (c.f0,tt):=⟨Nat.le_trans HCK.out.2.1 am,Nat.le_trans hsm am⟩;obtain⟨jj,v,xs,okj0,hlook0,hS0,hrest0,hjj⟩:=Go.Proofs.YtnjjdojonflckaaGreatDoor.Ent.look ke HM.out hp;obtain⟨Av,cv,rfl⟩:=Kd.S_slice hS0;have hlook:(Instr.lookup 145 (.map (some m)) (.agg #[.string c.f0,.string tt]) false).run Tryz.prog wr = .ok (.slice Av xs.length cv) wr:=hlook0;have hxl:xs.length≤s3.2+n∧∀q∈xs,q.f1.length≤s3.2+n:=HLG.out.at hjj;have hck1:=HCK.out.1;have hS:=Kd.S_bound hS0;have hrest:=MapRest.sub hrest0 (ok1:=fun k=>okj0 k∧w.heap.size≤k∧k<wr.heap.size∧∃q,q∈50 :: k50.E∧∃cells,wr.heap[k]? = some (.cells cells q (0,0))) (fun k hk=>hk.1);obtain⟨okj,hokj⟩:∃okj:Nat→Prop,okj=(fun k=>okj0 k∧w.heap.size≤k∧k<wr.heap.size∧∃q,q∈50 :: k50.E∧∃cells,wr.heap[k]? = some (.cells cells q (0,0))):=⟨_,rfl⟩;rw[← hokj] at hS hrest;have hty:∀k,okj k→∃q cells,(q=50∨q=3)∧wr.heap[k]? = some (.cells cells q (0,0)):=fun k hk=>by
           rw[hokj] at hk;obtain⟨_,_,_,q,hq,cells,hc⟩:=hk;refine⟨q,cells,?_,hc⟩;rcases List.mem_cons.1 hq with hq | hq
           ·exact .inl hq
           ·exact .inr (by have:k50.E = [3]:=rfl;rw[this] at hq;simpa using hq)
          clear hokj;have hxl2:xs.length≤2000000:=by omega
          have HXL:=am_ hxl;have HSX:=am_ hS;have HREST:=am_ hrest;have HTY:=am_ hty;have HJJ:=am_ hjj;have HPS:=am_ hp;have hz0:wr.cell? ⟨gc,0,none⟩=some (.string c.f0):=(aV BKc.out 0).trans rfl;have hzr:wr.cell? ⟨gr,0,none⟩=some (.int .i64 row.f0):=(aV BKr.out 0).trans rfl;clear h hsz htc htm hsm hlook0 hS0 hrest0 hS hrest hty hjj hp hxl hck1;have HLQ:=am_ (show s3.2+n≤2000000 by have:=HL.out.2;have:=HCK.out.1;omega);obtain⟨X,hX⟩:∃X:List S50,X=xs:=⟨_,rfl⟩;have HJX:aa ((jj=G.length∧X = [] ∧ ∀g∈G,g.1≠(c.f0,tt))∨∃g,G[jj]? = some g∧g.1=(c.f0,tt)∧g.2=X):=⟨by rw[hX];exact HJJ.out⟩;clear HJJ;rcases Nat.eq_zero_or_pos xs.length with h0 | hpos
          ·obtain rfl:xs = []:=List.eq_nil_of_length_eq_zero h0;have HX:=am_ hX;clear hX h0;have HST:=am_ (show ([] : List S50) ++ [⟨row.f0,[(n:Int)]⟩] = ey X row.f0 (n:Int) from by rw[HX.out];rfl);go_wp2;go_quiet (fail)
           have HM5:=am_ (HM.out.below (al (Below.refl _ _) nq));have HREST5:=am_ (show MapRest k50 50 (wr.drewN nq) w.heap.size m G jj okj (wr.drewN nq).heap.size from HREST.out.step (fun _ _ _=>rfl));have YS:=am_ (Kd.S_drewN HSX.out nq);have HTY5:=am_ (show ∀k,okj k→∃q cells,(q=50∨q=3)∧(wr.drewN nq).heap[k]? = some (.cells cells q (0,0)) from HTY.out);have BKr5:=am_ (dO BKr.out nq);have BKc5:=am_ (dO BKc.out nq);have HT5:=am_ (Kd.R_drewN HT.out nq);have HB5:=am_ (al HB.out nq);have HBM:=am_ (Nat.le_trans HMW.out (Nat.le_refl m));clear HM HREST HSX HTY BKr BKc HT HB hlook hz0 hzr;generalize wr.drewN nq=w5 at HM5 HREST5 YS HTY5 BKr5 BKc5 HT5 HB5 ⊢;have hzr5:w5.cell? ⟨gr,0,none⟩=some (.int .i64 row.f0):=(aV BKr5.out 0).trans rfl;have hz05:w5.cell? ⟨gc,0,none⟩=some (.string c.f0):=(aV BKc5.out 0).trans rfl;go_wp2_with (first | ((with_reducible refine a7 (b:=.append) (xs:=#[.tmp 82,.tmp 88]) rfl ?_);at_builtin;refine Kd.S_append k50 (w0:=w) w.heap.size rfl (.tmp 82) (.tmp 88) 34 50 (.agg #[(.int .i64 0),(.slice none 0 0)]) 32 rfl Tryz.underlying34 lO rfl am au (.slice Av 0 cv) ([] : List S50) (⟨row.f0,[(n:Int)]⟩:S50) [.int .i64 row.f0,.slice (some ⟨w5.heap.size,0,none⟩) 1 1] (fun k=>okj k∨w5.heap.size≤k) (fun k=>k=w5.heap.size) rfl sI ?aP ?aK ?aF ?aO ?aB ?aS ?aL ?_;(case aP=>exact lL row.f0 (n:Int) w5 w.heap.size HB5.out.size);(case aK=>exact(fun k hk=>⟨.inr au,fun he=>by have:=Kd.S_lt YS.out k he.symm;omega⟩));(case aF=>exact(fun k hk=>.inr (by simp at hk;omega)));(case aO=>exact Kd.S_alloc (Kd.S_mono (Kd.S_bound YS.out) (fun k hk=>⟨.inl hk.1,nx⟩)) _);(case aB=>exact aE HB5.out _);(case aS=>exact Nat.le_trans HB5.out.size bb);(case aL=>exact u154_);intro v3 w3 ho hb hg hat;have hg':w5.grownBy w3 (Value.slice Av 0 cv).ownBlock:=World.grownBy.trans (World.grownBy_alloc w5 _ _) hg;obtain⟨A3,c3,rfl⟩:=Kd.S_slice ho;obtain⟨es,clock,hput,hmap6,hk6,hb6⟩:=jl (w0:=w) HM5.out HREST5.out (Kept.of_grown hg' (Kept.refl w5 okj) (fun k hk=>.inl ((Kd.S_R YS.out).1 k hk))) ho (fun k hk=>hk) HTY5.out HPS.out HJX.out HST.out hb HBM.out;have HM6:=am_ hmap6;have HKB:=am_ hk6;have HB6:=am_ hb6;have hz06:w3.cell? ⟨gc,0,none⟩=some (.string c.f0):=jo hg' (fun k hk=>HTY5.out k ((Kd.S_R YS.out).1 k hk)) BKc5.out hz05;simp only[List.length_append,List.length_nil,List.length_cons,Nat.zero_add] at hput;clear ho hb hg hg' hat hmap6 hk6 hb6 hzr5 hz05))
           obtain⟨es0,cl0,hmb⟩:=MapIs.block HM5.out;have HT6:=am_ (Kd.R_kept HT5.out HKB.out (fun k_ hk=>by
            obtain⟨cells,hc⟩:=Kd.R_typed HT5.out k_ hk.symm;exact Wr.not hmb hc am am))
           have BKr6:=am_ (fE BKr5.out HKB.out (Wr.not hmb BKr5.out am am));have BKc6:=am_ (fE BKc5.out HKB.out (Wr.not hmb BKc5.out am am));clear hmb;go_roundw
           case rel=>exact⟨n+1,stepG G (c.f0,tt) row.f0 (n:Int),fF,au,by simpa using HN,⟨sF⟩,HM6,HT6,BKr6,BKc6,HB6⟩
           case measure=>simp;omega
          ·obtain⟨m2,hm2⟩:∃m2,X.length=m2+1:=⟨X.length - 1,by rw[hX];omega⟩;have hpp:X[m2]? = some (X[m2]'au):=List.getElem?_eq_getElem _;rw[← hX] at HSX hlook HXL;clear hX hpos hxl2;generalize X[m2]'au=p at hpp;have HST0:=am_ (oW hpp hm2 row.f0 (n:Int));have HPL:=am_ (HXL.out.2 p (List.mem_of_getElem? hpp));obtain⟨g,cap,u2,oki2,hv,hgl,hgb,hgo,hgc,hd0,hd1,hdf,hri,hok2,hsame⟩:=qy HSX.out m2 p hpp hm2.symm;injection hv with hA tu tv
           clear tu tv hgc;subst hA;rw[hm2] at HSX hlook hsame;have HRI:=am_ hri;have HOK2:=am_ hok2;have HSAME:=am_ hsame;have HGL:=am_ hgl;have HGB:=am_ hgb;have HGO:=am_ hgo;have HXM:=am_ hm2;have hmb:m2≤2000000:=by have h1_:=HXL.out.1;have h2_:=HLQ.out;omega
           have t4:(0≤(m2:Int))=True:=eq_true au;have t5:((m2:Int)<((m2+1:Nat):Int))=True:=eq_true au;clear hpp hm2 hri hok2 hsame hgl hgb hgo;by_cases hd:p.f0=row.f0
           ·have hdb2:(p.f0 == row.f0)=true:=by simpa using hd
            have HST:=am_ (show X.set m2 ⟨p.f0,p.f1 ++ [(n:Int)]⟩=ey X row.f0 (n:Int) from by rw[HST0.out,if_pos hd]);clear hd HST0;go_wp2;go_quiet (fail)
            have HM5:=am_ (HM.out.below (al (Below.refl _ _) nq));have HREST5:=am_ (show MapRest k50 50 (wr.drewN nq) w.heap.size m G jj okj (wr.drewN nq).heap.size from HREST.out.step (fun _ _ _=>rfl));have YS:=am_ (Kd.S_drewN HSX.out nq);have HTY5:=am_ (show ∀k,okj k→∃q cells,(q=50∨q=3)∧(wr.drewN nq).heap[k]? = some (.cells cells q (0,0)) from HTY.out);have BKr5:=am_ (dO BKr.out nq);have BKc5:=am_ (dO BKc.out nq);have HT5:=am_ (Kd.R_drewN HT.out nq);have HB5:=am_ (al HB.out nq);have HBM:=am_ (Nat.le_trans HMW.out (Nat.le_refl m));have HRI5:=am_ (Kd.R_drewN HRI.out nq);have HSAME5:=am_ (show ∀(w1:World) (u1:Value) (x:Int) (okp:Nat→Prop),(wr.drewN nq).grownBy w1 u2.ownBlock→kI.R 3 w1 w.heap.size okp u1 (p.f1 ++ [x])→(∀k,okp k→oki2 k∨(wr.drewN nq).heap.size≤k)→Kd.S k50 50 (w1.setCell ⟨g,m2*2+1,none⟩ u1) w.heap.size (fun k=>okj k∨(wr.drewN nq).heap.size≤k) (.slice (some ⟨g,0,none⟩) (m2+1) cv) (X.set m2 ⟨p.f0,p.f1 ++ [x]⟩)∧w1.grownBy (w1.setCell ⟨g,m2*2+1,none⟩ u1) (some g) from fun w1 u1 x okp hg=>HSAME.out w1 u1 x okp ⟨hg.os,hg.tape,hg.output,hg.size,hg.block⟩);have HGL5:=am_ (show g<(wr.drewN nq).heap.size from HGL.out);replace hd1:(wr.drewN nq).cell? ⟨g,m2*2+1,none⟩=some u2:=hd1;replace hdf:(wr.drewN nq).frozen? ⟨g,m2*2+1,none⟩=false:=hdf;clear HRI HSAME HGL hd0 HM HREST HSX HTY BKr BKc HT HB hlook hz0 hzr;generalize wr.drewN nq=w5 at HM5 HREST5 YS HTY5 BKr5 BKc5 HT5 HB5 HRI5 HSAME5 HGL5 hd1 hdf ⊢;have hzr5:w5.cell? ⟨gr,0,none⟩=some (.int .i64 row.f0):=(aV BKr5.out 0).trans rfl;have hz05:w5.cell? ⟨gc,0,none⟩=some (.string c.f0):=(aV BKc5.out 0).trans rfl;have hgc1:g≠gc:=fun he=>by
             obtain⟨q,cells,hq,hh⟩:=HTY5.out g HGO.out;rw[he,BKc5.out] at hh;injection hh with hh
             injection hh with _ hh
             rcases hq with rfl | rfl
             ·exact absurd hh am
             ·exact absurd hh am
            have hgc2:gc≠g:=Ne.symm hgc1;go_wp2_with (first | ((with_reducible refine a7 (b:=.append) (xs:=#[.tmp 76,.tmp 78]) rfl ?_);at_builtin;refine Kd.R_append kI (w0:=w) w.heap.size rfl (.tmp 76) (.tmp 78) 39 3 (.int .i64 0) 8 rfl Tryz.underlying39 oS rfl am au u2 p.f1 (n:Int) [.int .i64 (n:Int)] (fun k=>oki2 k∨w5.heap.size≤k) (fun _=>False) ?hs ?hx rfl (fun _ hk=>hk.elim) (fun k hk=>.inr hk) (Kd.R_mono HRI5.out (fun _ hk=>.inl hk)) HB5.out HB5.out.size (by have h1_:=HPL.out;have h2_:=HLQ.out;omega) ?_;(case hs=>first | rfl | (go_simp;done)|(go_simp;rfl)|(simp;done));(case hx=>first | rfl | (go_simp;done)|(go_simp;rfl)|(simp;done));intro u3 w3 ho hb hg hat;have hne:some g≠u2.ownBlock:=(fun he=>(HOK2.out g (HRI5.out.1 g he.symm)).2.2 rfl);have hh:=hg.block g HGL5.out hne;replace hd1:=Go.Proofs.YtnjjdojonflckaaGreatDoorW.PrintWords.cell_grown hg hd1 hne;have hdf3:w3.frozen? ⟨g,m2*2+1,none⟩=false:=(by simpa [World.frozen?,hh] using hdf);obtain⟨A3,c3,rfl⟩:=Kd.R_slice ho;have hsm:=HSAME5.out w3 _ (n:Int) _ hg ho (fun _ hk=>hk);have hk3:=Kept.of_grown hsm.2 (Kept.of_grown hg (Kept.refl w5 okj) (fun k hk=>.inl (HOK2.out k (HRI5.out.1 k hk)).1)) (fun k hk=>by injection hk with hk;rw[← hk];exact .inl HGO.out);have hb3:=fg hb (some g) hb.size hsm.2 (fun k hk=>by injection hk with hk;rw[← hk];exact HGB.out);obtain⟨es,clock,hput,hmap6,hk6,hb6⟩:=jl (w0:=w) HM5.out HREST5.out hk3 hsm.1 (fun k hk=>hk) HTY5.out HPS.out HJX.out HST.out hb3 HBM.out;have HM6:=am_ hmap6;have HKB:=am_ hk6;have HB6:=am_ hb6;have hz06:w3.cell? ⟨gc,0,none⟩=some (.string c.f0):=jo hg (fun k hk=>HTY5.out k (HOK2.out k (HRI5.out.1 k hk)).1) BKc5.out hz05;simp only[List.length_append,List.length_nil,List.length_cons,Nat.zero_add] at hput HM6 HKB HB6;clear ho hb hg hat hmap6 hk6 hb6 hzr5 hz05 hne hh hsm hk3 hb3 hdf))
            obtain⟨es0,cl0,hmb⟩:=MapIs.block HM5.out;have HT6:=am_ (Kd.R_kept HT5.out HKB.out (fun k_ hk=>by
             obtain⟨cells,hc⟩:=Kd.R_typed HT5.out k_ hk.symm;exact Wr.not hmb hc am am))
            have BKr6:=am_ (fE BKr5.out HKB.out (Wr.not hmb BKr5.out am am));have BKc6:=am_ (fE BKc5.out HKB.out (Wr.not hmb BKc5.out am am));clear hmb;go_roundw
            case rel=>exact⟨n+1,stepG G (c.f0,tt) row.f0 (n:Int),fF,au,by simpa using HN,⟨sF⟩,HM6,HT6,BKr6,BKc6,HB6⟩
            case measure=>simp;omega
           ·have hdb2:(p.f0 == row.f0)=false:=by simpa using hd
            have HST:=am_ (show X ++ [⟨row.f0,[(n:Int)]⟩] = ey X row.f0 (n:Int) from by rw[HST0.out,if_neg hd]);clear hd HST0 hd1 hdf HRI HSAME;go_wp2;go_quiet (fail)
            have HM5:=am_ (HM.out.below (al (Below.refl _ _) nq));have HREST5:=am_ (show MapRest k50 50 (wr.drewN nq) w.heap.size m G jj okj (wr.drewN nq).heap.size from HREST.out.step (fun _ _ _=>rfl));have YS:=am_ (Kd.S_drewN HSX.out nq);have HTY5:=am_ (show ∀k,okj k→∃q cells,(q=50∨q=3)∧(wr.drewN nq).heap[k]? = some (.cells cells q (0,0)) from HTY.out);have BKr5:=am_ (dO BKr.out nq);have BKc5:=am_ (dO BKc.out nq);have HT5:=am_ (Kd.R_drewN HT.out nq);have HB5:=am_ (al HB.out nq);have HBM:=am_ (Nat.le_trans HMW.out (Nat.le_refl m));clear hd0 HM HREST HSX HTY BKr BKc HT HB hlook hz0 hzr;generalize wr.drewN nq=w5 at HM5 HREST5 YS HTY5 BKr5 BKc5 HT5 HB5 ⊢;have hzr5:w5.cell? ⟨gr,0,none⟩=some (.int .i64 row.f0):=(aV BKr5.out 0).trans rfl;have hz05:w5.cell? ⟨gc,0,none⟩=some (.string c.f0):=(aV BKc5.out 0).trans rfl;go_wp2_with (first | ((with_reducible refine a7 (b:=.append) (xs:=#[.tmp 82,.tmp 88]) rfl ?_);at_builtin;refine Kd.S_append k50 (w0:=w) w.heap.size rfl (.tmp 82) (.tmp 88) 34 50 (.agg #[(.int .i64 0),(.slice none 0 0)]) 32 rfl Tryz.underlying34 lO rfl am au (.slice (some ⟨g,0,none⟩) (m2+1) cv) X (⟨row.f0,[(n:Int)]⟩:S50) [.int .i64 row.f0,.slice (some ⟨w5.heap.size,0,none⟩) 1 1] (fun k=>okj k∨w5.heap.size≤k) (fun k=>k=w5.heap.size) rfl sI ?aP ?aK ?aF ?aO ?aB ?aS ?aL ?_;(case aP=>exact lL row.f0 (n:Int) w5 w.heap.size HB5.out.size);(case aK=>exact(fun k hk=>⟨.inr au,fun he=>by have:=Kd.S_lt YS.out k he.symm;omega⟩));(case aF=>exact(fun k hk=>.inr (by simp at hk;omega)));(case aO=>exact Kd.S_alloc (Kd.S_mono (Kd.S_bound YS.out) (fun k hk=>⟨.inl hk.1,nx⟩)) _);(case aB=>exact aE HB5.out _);(case aS=>exact Nat.le_trans HB5.out.size bb);(case aL=>exact u154_);intro v3 w3 ho hb hg hat;have hg':w5.grownBy w3 (Value.slice (some ⟨g,0,none⟩) (m2+1) cv).ownBlock:=World.grownBy.trans (World.grownBy_alloc w5 _ _) hg;obtain⟨A3,c3,rfl⟩:=Kd.S_slice ho;obtain⟨es,clock,hput,hmap6,hk6,hb6⟩:=jl (w0:=w) HM5.out HREST5.out (Kept.of_grown hg' (Kept.refl w5 okj) (fun k hk=>.inl ((Kd.S_R YS.out).1 k hk))) ho (fun k hk=>hk) HTY5.out HPS.out HJX.out HST.out hb HBM.out;have HM6:=am_ hmap6;have HKB:=am_ hk6;have HB6:=am_ hb6;have hz06:w3.cell? ⟨gc,0,none⟩=some (.string c.f0):=jo hg' (fun k hk=>HTY5.out k ((Kd.S_R YS.out).1 k hk)) BKc5.out hz05;simp only[List.length_append,List.length_nil,List.length_cons,Nat.zero_add] at hput;clear ho hb hg hg' hat hmap6 hk6 hb6 hzr5 hz05))
            obtain⟨es0,cl0,hmb⟩:=MapIs.block HM5.out;have HT6:=am_ (Kd.R_kept HT5.out HKB.out (fun k_ hk=>by
             obtain⟨cells,hc⟩:=Kd.R_typed HT5.out k_ hk.symm;exact Wr.not hmb hc am am))
            have BKr6:=am_ (fE BKr5.out HKB.out (Wr.not hmb BKr5.out am am));have BKc6:=am_ (fE BKc5.out HKB.out (Wr.not hmb BKc5.out am am));clear hmb;go_roundw
            case rel=>exact⟨n+1,stepG G (c.f0,tt) row.f0 (n:Int),fF,au,by simpa using HN,⟨sF⟩,HM6,HT6,BKr6,BKc6,HB6⟩
            case measure=>simp;omega
        ·obtain rfl:n=ts.length:=by omega
         have h:=HGS.out;rw[List.drop_eq_nil_of_le (Nat.le_refl _),gf] at h;have r1:(((ts.length:Nat):Int)<(ts.length:Int))=False:=eq_false au;have HGE:=am_ h;clear h;go_wp2;go_roundw
         case rel=>exact⟨j+1,_,fF,au,H3,⟨⟨by rw[← HGE.out];exact HLG.out,HCK.out.1⟩⟩,⟨by rw[← HGE.out];exact HM.out⟩,BKr,HB⟩
         case measure=>simp;omega
      ·rw[if_neg hck] at h;cases h
     ·rw[if_neg hd2] at h;have H3:=am_ h;have hdb:(d2 != 1)=true:=bne_iff_ne.2 hd2;clear h tg hfd hd2;go_wp2_with (first | ((with_reducible refine aH (N:=9) rfl ?_);refine fY rfl (N:=9) rfl rfl rfl (zs:=#[.string (⟨#[]⟩:ByteArray),.string (⟨#[]⟩:ByteArray)]) (cs:=#[.string c.f0,.string c.f1]) (t:=86) ?hr ?hs ?_;(case hr=>exact bM);(case hs=>exact bM);intro gc hg w3 hbox hb;replace HM:=am_ (HM.out.below hb);replace BKr:=am_ (bE BKr.out hb);replace HB:=am_ (aw HB.out hb);have hz0:w3.cell? ⟨gc,0,none⟩=some (.string c.f0):=(aV hbox 0).trans rfl;clear hg hbox hb th ti)|(go_at_call 110;refine(bs.calls k _ _ _ _ _ _ _ _ (Kd.C_below HF.out HB.out) HF0.out HFD.out).mono ?_;rintro e w4 ⟨rfl,hb⟩;replace HM:=am_ (HM.out.below hb);replace BKr:=am_ (bE BKr.out hb);replace HB:=am_ (aw HB.out hb);clear hb hz0))
      go_roundw
      case rel=>exact⟨j+1,s3,fF,au,H3,HL,HM,BKr,HB⟩
      case measure=>simp;omega
    ·obtain rfl:j=row.f1.f1.length:=by omega
     have h:=tg.out;rw[List.drop_eq_nil_of_le (Nat.le_refl _),entriesW.cs] at h;obtain rfl:=Option.some.inj h;have q1:(((row.f1.f1.length:Nat):Int)<(row.f1.f1.length:Int))=False:=eq_false au;clear h;go_wp2;go_roundw
     case rel=>exact⟨i+1,_,fF,au,H2,HL,HM,HB⟩
     case measure=>simp;omega
  ·obtain rfl:i=l1.length:=by omega
   have h:=H.out;rw[List.drop_eq_nil_of_le (Nat.le_refl _),entriesW.rs] at h;have hse:s=(GG,nn):=Option.some.inj h;have HSO:=am_ (show dQ (s.1.map toE)=r by rw[hse];exact HSORT.out);clear hse;have p1:(((l1.length:Nat):Int)<(l1.length:Int))=False:=eq_false au;clear h;have hsl:s.1.length≤1000000:=Nat.le_trans HL.out.1.1 HL.out.2;go_wp2_with (first | ((with_reducible refine aH (N:=99) rfl ?_);refine si (w0:=w) (B:=w.heap.size) rfl (N:=99) ?hd ?hr HB.out HB.out.size ?_;(case hd=>rfl);(case hr=>exact bM);intro tE w2 hs2 hb2 hb3 hv2;have HO:=am_ hs2;have HV:=am_ hv2;have hmm2:=HM.out.below hb3;obtain⟨clock,hrange,hranging⟩:=Ranging.start ke hmm2;obtain⟨rr,hrr⟩:∃rr,rr=w2.heap.size:=⟨_,rfl⟩;obtain⟨w3,tq⟩:∃w3,w3=w2.alloc (.mapIter (some m) clock #[] clock):=⟨_,rfl⟩;rw[← hrr,← tq] at hrange hranging;have hbw:Below w2.heap.size w2 w3:=(by rw[tq];exact aE (Below.refl _ _) _);have HRG:=am_ hranging;replace HO:=am_ (Kd.R_below HO.out hbw);replace HB:=am_ (aw hb2 hbw);have HRB:=am_ (show w.heap.size≤rr from by rw[hrr];exact hb2.size);have HRM:=am_ (show rr≠m from by rw[hrr];exact Nat.ne_of_gt hmm2.lt);clear hs2 hb2 hb3 hv2 hmm2 hranging hrr tq hbw HM))
   clear hrange;go_loopg [14] (s.1.length) (fun q tw wr=>∃is:List Nat,s.1.length=q+is.length∧aa (Kd.R k76 76 wr w.heap.size (fun _=>True) tw ((mH s.1 is).map toE))∧aa (∃b,tw.ownBlock=some b)∧aa (Ranging k50 50 wr w.heap.size m rr s.1 is)∧aa (Below w.heap.size w wr))
   case atStart=>exact⟨[],rfl,HO,HV,HRG,HB⟩
   case round=>
    clear HO HV HRG HB;obtain⟨is,hq,HO,HV,HRG,HB⟩:=hrel;have hil:((mH s.1 is).map toE).length=is.length:=by unfold mH;simp
    rcases Ranging.next (P:=Tryz.prog) HRG.out HRM.out 0 with ⟨hperm,hnext⟩ | ⟨i,g,v,w4,hgi,hni,hnext0,hrg4,hentry0,hgrow,hsz4,hR4,hle⟩
    ·have HP:=am_ hperm;have hil2:is.length≤1000000:=by omega
     have HIL:=am_ (show ((mH s.1 is).map toE).length<1000000000 by omega);have HKN:=am_ (Ranging.nodup HRG.out);clear hperm hil;go_wp2_with (first | (go_at_call 115;refine(rQ _ _ w.heap.size w _ HB.out HO.out HV.out HIL.out).mono ?_;rintro e w5 ⟨rfl,ys,hys,hpw,hr5,hb5⟩;have HY:=am_ (And.intro hys hpw);have tz:=am_ hr5;replace HB:=am_ hb5;clear hys hpw hr5 hb5))
     go_ret
     refine⟨_,rfl,?_,HB.out⟩;have he:ys=r:=by
      rw[← HSO.out];exact rm (HY.out.1.trans (HP.out.map toE)) HY.out.2 HKN.out
     rw[← he];exact tz.out
    ·cases gk with
     | zero=>exact absurd hle (by rw[List.length_append,List.length_singleton];omega)
     | succ k1=>
      obtain⟨Av,cv,rfl⟩:=Kd.R_slice hR4;have hnext:(Instr.next (.pointer (some ⟨rr,0,none⟩)) false 0).run Tryz.prog wr = .ok (.tuple #[.bool true,.agg #[.string g.1.1,.string g.1.2],.slice Av g.2.length cv]) w4:=hnext0;have hentry:(Instr.entry (.pointer (some ⟨rr,0,none⟩))).run Tryz.prog w4 = .ok (.tuple #[.agg #[.string g.1.1,.string g.1.2],.slice Av g.2.length cv]) w4:=hentry0;have HG4:=am_ hrg4;have tn:=am_ hR4;have tm:=am_ (R_iter HO.out HRG.out hgrow);have HB4:=am_ (fg HB.out (some rr) HB.out.size hgrow (fun b hb=>by injection hb with hb;rw[← hb];exact HRB.out));have HGI:=am_ hgi;have HLE:=am_ hle;clear hnext0 hentry0 hgrow hsz4 hrg4 hR4 hgi hni hle HO HRG HB;go_wp2_with (first | ((with_reducible refine aH (N:=15) rfl ?_);refine fY rfl (N:=15) rfl rfl rfl (zs:=#[.string (⟨#[]⟩:ByteArray),.string (⟨#[]⟩:ByteArray)]) (cs:=#[.string g.1.1,.string g.1.2]) (t:=147) ?hr ?hs ?_;(case hr=>exact bM);(case hs=>exact bM);intro gp hg w5 hbox hb;replace HG4:=am_ (HG4.out.below hb);replace tn:=am_ (Kd.R_below tn.out hb);replace tm:=am_ (Kd.R_below tm.out hb);replace HB4:=am_ (aw HB4.out hb);have hz0:w5.cell? ⟨gp,0,none⟩=some (.string g.1.1):=(aV hbox 0).trans rfl;have hz1:w5.cell? ⟨gp,1,none⟩=some (.string g.1.2):=(aV hbox 1).trans rfl;clear hg hbox hb)|((with_reducible refine a7 (b:=.append) (xs:=#[.tmp 107,.tmp 114]) rfl ?_);at_builtin;refine Kd.R_append k76 (w0:=w) w.heap.size rfl (.tmp 107) (.tmp 114) 25 76 (.agg #[(.string ⟨#[]⟩),(.string ⟨#[]⟩),(.slice none 0 0)]) 56 rfl Tryz.underlying25 km rfl am au u14 ((mH s.1 is).map toE) (toE g) [.string g.1.1,.string g.1.2,.slice Av g.2.length cv] (fun _=>True) (fun k=>(True∧w.heap.size≤k∧k<w5.heap.size∧∃q,q∈50 :: k50.E∧∃cells,w5.heap[k]? = some (.cells cells q (0,0)))) ?hs ?hx ?aP ?aK (fun _ _=>trivial) tm.out HB4.out HB4.out.size ?aL ?_;(case hs=>first | rfl | (go_simp;done)|(go_simp;rfl));(case hx=>first | rfl | (go_simp;done)|(go_simp;rfl));(case aP=>exact qJ _ _ _ (toE g) (Kd.R_bound tn.out));(case aK=>exact(fun k hk=>⟨trivial,fun he=>py hk.2.2.2 (Kd.R_typed tm.out k he.symm)⟩));(case aL=>rw[hil];omega);intro v8 w8 ho hb hg hat;have tx:=am_ ho;have HG8:=am_ (HG4.out.step (E:=76) am hg (fun b hb=>Kd.R_typed tm.out b hb));have HV8:=am_ (show ∃b,v8.ownBlock=some b from hat.elim (fun h=>by obtain⟨b,hb⟩:=HV.out;exact⟨b,h.trans hb⟩) (fun ⟨b,hb,_⟩=>⟨b,hb⟩));have HB8:=am_ hb;clear ho hb hg hat hz0 hz1))
      go_roundg k1
      case measure=>omega
      case rel=>exact⟨is ++ [i],by rw[List.length_append,List.length_singleton];omega,⟨by rw[rg _ _ HGI.out,List.map_append];exact tx.out⟩,HV8,HG8,HB8⟩
end
def dS.f (k:Nat) (l0:List S92) (l1:List S46):Option (List S76):=entriesW.f k l0 l1
theorem dS.calls (k:Nat) (A0:Option Addr) (c0:Nat) (l0:List (S92)) (A1:Option Addr) (c1:Nat) (l1:List (S46)) (r:List (S76)) (w:World) (hG:StopsIn w) (hr0:Kd.C k92 w A0 l0.length l0) (hc0:l0.length≤c0) (hr1:Kd.C k46 w A1 l1.length l1) (hc1:l1.length≤c1) (h:dS.f k l0 l1=some r) :
  Calls Tryz.prog 68 #[.slice A0 l0.length c0,.slice A1 l1.length c1] w fun e w'=>∃v0_:Value,e = .returned (v0_)∧Kd.R k76 76 w' w.heap.size (fun _=>True) v0_ r∧Below w.heap.size w w':=entriesW.calls k A0 c0 l0 A1 c1 l1 r w hG hr0 hc0 hr1 hc1 h
end
mutual
def aq.j0:Nat→Bool→List (S92)→List (S46)→List (S76)→Int→Option (Bool)
 | 0,_,_,_,_,_=>none
 | k+1,tk,th,tg,ti,tj=>if tk=true then(some false) else(aq.l0 k tg (tg.length:Int) 0 th tg ti tj)
def aq.l0:Nat→List (S46)→Int→Int→List (S92)→List (S46)→List (S76)→Int→Option (Bool)
 | 0,_,_,_,_,_,_,_=>none
 | k+1,tl,tz,tk,tg,th,ti,tj=>if tk<tz then(if 0≤tk then(if tk<(tl.length:Int) then((bd.f ((ab tl tk).f0) 0 (wrap64 (tj - 1))).bind fun tq=>(if tq=true then(if tk>0 then(if 0≤(wrap64 (tk - 1)) then(if(wrap64 (tk - 1))<(th.length:Int) then(if((ab th (wrap64 (tk - 1))).f0)≥((ab tl tk).f0) then(some false) else((bj.f k tg ((ab tl tk).f1.f0) ((ab tl tk).f1.f1)).bind fun tu=>(if tu=true then((de.f tg th ti tj ((ab tl tk).f1.f0)).bind fun tv=>(if tv=tk then(aq.l0 k tl tz (wrap64 (tk+1)) tg th ti tj) else(some false))) else(some false)))) else(none)) else(none)) else((bj.f k tg ((ab tl tk).f1.f0) ((ab tl tk).f1.f1)).bind fun tw=>(if tw=true then((de.f tg th ti tj ((ab tl tk).f1.f0)).bind fun tx=>(if tx=tk then(aq.l0 k tl tz (wrap64 (tk+1)) tg th ti tj) else(some false))) else(some false)))) else(some false))) else(none)) else(none)) else((dS.f k tg th).bind fun tm=>((cW.f k ti tm).bind fun tn=>(some tn)))
end
def aq.f (k:Nat) (l0_0:List (S92)) (l0_1:List (S46)) (l0_2:List (S76)) (a0_3:Int):Option (Bool):=(aU.f k l0_0).bind fun tg=>(if tg=true then(if(l0_1.length:Int)>8 then(aq.j0 k true l0_0 l0_1 l0_2 a0_3) else((bd.f a0_3 0 999999999).bind fun th=>(aq.j0 k (!th) l0_0 l0_1 l0_2 a0_3))) else(aq.j0 k true l0_0 l0_1 l0_2 a0_3))
def aq.T6:Bool × List (List Nat × List Nat):=(true,[([],[]),([0],[0]),([],[]),([2],[2]),([3],[3]),([1,4],[1,4]),([5],[5]),([6,5],[6]),([7],[7]),([8,7],[7,8]),([9,7,7],[7,9]),([10],[10]),([11,10],[10,11]),([10],[10]),([13,10],[10,13]),([12,14,10],[10,12,14]),([15,10],[10,15]),([16,10],[10,16]),([10],[10]),([18,10],[10,18]),([17,19,10],[10,17,19]),([10,20,7],[7,10,20]),([7,21],[7,21]),([22,10],[22]),([23],[23]),([24,23],[23,24]),([23],[23]),([26,23],[23,26]),([25,27,23,23],[23,25,27]),([28,23],[23,28]),([23,29],[23,29]),([30,28],[30]),([31],[31]),([31],[31]),([33,31],[31,33]),([34,31],[31,34]),([32,35,31,31],[31,32,35]),([31],[31]),([36,37,31],[31,36,37]),([31,38],[31,38])])
def aq.B6:List Nat:=[0,1,0,4,12,31,63,127,255,511,1023,2047,4095,2047,10239,32767,65535,131071,2047,264191,1048575,2097151,4194303,8388607,16777215,33554431,16777215,83886079,268435455,536870911,1073741823,2147483647,4294967295,4294967295,12884901887,30064771071,68719476735,4294967295,274877906943,549755813887]
theorem aq.tab6:dL .any (fC Tryz.f25 6)=aq.T6:=by kernel_rfl
theorem aq.bits6:di aq.T6.2 aq.B6=true:=by kernel_rfl
def aq.T9:Bool × List (List Nat × List Nat):=(true,[([],[]),([0],[0]),([],[]),([2],[2]),([],[]),([4],[4]),([3,5],[3,5]),([1,6,6],[1,6]),([7,7,0,1,2,3,4,5,6,7],[7])])
def aq.B9:List Nat:=[0,1,0,4,0,16,60,127,255]
theorem aq.tab9:dL .any (fC Tryz.f25 9)=aq.T9:=by kernel_rfl
theorem aq.bits9:di aq.T9.2 aq.B9=true:=by kernel_rfl
theorem aq.calls (k:Nat) (A0_0:Option Addr) (c0_0:Nat) (l0_0:List (S92)) (A0_1:Option Addr) (c0_1:Nat) (l0_1:List (S46)) (A0_2:Option Addr) (c0_2:Nat) (l0_2:List (S76)) (a0_3:Int) (r:Bool) (w:World) (hG:StopsIn w) (hr0_0:Kd.C k92 w A0_0 l0_0.length l0_0) (hc0_0:l0_0.length≤c0_0) (hr0_1:Kd.C k46 w A0_1 l0_1.length l0_1) (hc0_1:l0_1.length≤c0_1) (hr0_2:Kd.C k76 w A0_2 l0_2.length l0_2) (hc0_2:l0_2.length≤c0_2) (h:aq.f k l0_0 l0_1 l0_2 a0_3=some r) :
  Calls Tryz.prog 25 #[.agg #[.slice A0_0 l0_0.length c0_0,.slice A0_1 l0_1.length c0_1,.slice A0_2 l0_2.length c0_2,.int .i64 a0_3]] w fun e w'=>e = .returned (.bool r)∧Below w.heap.size w w':=by
 have hu27:=Tryz.underlying27;have hu46:=Tryz.underlying46;have hu44:=Tryz.underlying44;have HG_:=am_ hG;clear hG;have tx:=am_ hr0_0;have tw:=am_ hc0_0;clear hr0_0 hc0_0;have tF:=am_ hr0_1;have tT:=am_ hc0_1;clear hr0_1 hc0_1;have tW:=am_ hr0_2;have tU:=am_ hc0_2;clear hr0_2 hc0_2;have HB:=am_ (Below.refl w.heap.size w);have H:=h;clear h;unfold aq.f at H
 have vE:=am_ H;clear H;go_enter Tryz.func25,Tryz.ntmps25
 go_upto_region 1 with (first | ((with_reducible refine aH (N:=1) rfl ?_);(try (refine bF cB ?_;dsimp only));refine bV ?hg (N:=1) ?hd (cs:=#[.slice A0_0 l0_0.length c0_0,.slice A0_1 l0_1.length c0_1,.slice A0_2 l0_2.length c0_2,.int .i64 a0_3]) (t:=27) ?hr ?_;(case hd=>rfl);(case hg=>rfl);(case hr=>exact bM);intro tk hg w3 hbox hb;have tg:=am_ (hbox);have wg:=gw_ HB hg;replace HB:=bs_ HB hb;clear hb hbox hg))
 (try simp only[Act.put,List.setIfInBounds_toArray,List.set_cons_zero,List.set_cons_succ])
 go_cut [20] (fun wL wc=>∃(kq:Nat) (Z7:Bool),wL = .bool Z7∧aa (aq.j0 kq Z7 l0_0 l0_1 l0_2 a0_3=some r)∧aa (kq≤k)∧aa (wc.heap[tk]? = some (.cells #[(.slice A0_0 l0_0.length c0_0),(.slice A0_1 l0_1.length c0_1),(.slice A0_2 l0_2.length c0_2),.int .i64 a0_3] 27 (0,0)))∧aa (Below w.heap.size w wc))
 case first=>
  have H:=vE.out;clear vE;obtain⟨wb,A4,H⟩:=bi_ H;cases wb
  ·replace H:=hf_ H;have H':=am_ H;clear H;obtain⟨uK,uL,uM,uN,vo,vp,vq,vr⟩:=dv tg.out;go_wp2_with (first | ((with_reducible refine gt_ 7 ?_);refine gB_ 7 Tryz.func63 (aU.calls k _ _ l0_0 false _ (kc_ tx HB) tw.out A4.out) ?_;intro wV hb;replace tg:=bb_ tg hb;replace HB:=bs_ HB hb;(try clear hb)))
   go_meet
   case rel=>exact⟨_,(true),u3_,H',⟨iL⟩,⟨pb_ tg⟩,⟨bw_ HB⟩⟩
  ·replace H:=ht_ H;by_cases c6:(l0_1.length:Int)>8
   ·rw[if_pos c6] at H;have tX:decide (8<(l0_1.length:Int))=true:=decide_eq_true c6;have vG:decide (8<l0_1.length)=true:=decide_eq_true au;clear c6;(first | rw[tX] | (simp only[aC,aG];rw[tX]) | skip)
    have H':=am_ H;clear H;obtain⟨vJ,vK,vM,vN,vT,vU,vV,vW⟩:=dv tg.out;go_wp2_with (first | ((with_reducible refine gt_ 7 ?_);refine gB_ 7 Tryz.func63 (aU.calls k _ _ l0_0 true _ (kc_ tx HB) tw.out A4.out) ?_;intro w8 hb;replace tg:=bb_ tg hb;replace HB:=bs_ HB hb;(try clear hb);obtain⟨vO,vP,vQ,vS,vX,vY,vZ,wa⟩:=dv tg.out))
    go_meet
    case rel=>exact⟨_,(true),u3_,H',⟨iL⟩,⟨pb_ tg⟩,⟨bw_ HB⟩⟩
   ·rw[if_neg c6] at H;have tX:decide (8<(l0_1.length:Int))=false:=decide_eq_false c6;have vG:decide (8<l0_1.length)=false:=decide_eq_false au;clear c6;(first | rw[tX] | (simp only[aC,aG];rw[tX]) | skip)
    obtain⟨uv,ww,H⟩:=bi_ H;have H':=am_ H;clear H;obtain⟨uC,uD,uE,uF,uX,uY,uZ,u6⟩:=dv tg.out;go_wp2_with (first | ((with_reducible refine gt_ 7 ?_);refine gB_ 7 Tryz.func63 (aU.calls k _ _ l0_0 true _ (kc_ tx HB) tw.out A4.out) ?_;intro wU hb;replace tg:=bb_ tg hb;replace HB:=bs_ HB hb;(try clear hb);obtain⟨uG,uH,uI,uJ,vk,vl,vm,vn⟩:=dv tg.out)|(go_at_call 64;(with_reducible refine(bd.calls a0_3 0 999999999 uv _ ww.out).mono ?_);rintro e w' ⟨rfl,⟨nd,rfl⟩⟩))
    go_meet
    case rel=>exact⟨_,(!uv),u3_,H',⟨iL⟩,⟨pb_ tg⟩,⟨bw_ HB⟩⟩
 case rest=>
  clear vE;obtain⟨kq,Z7,rfl,HA,uB,tg,HB⟩:=hcut;cases kq with
  | zero=>exact absurd HA.out (by simp[aq.j0])
  | succ wv=>
   have H:=HA.out;clear HA;simp only[aq.j0] at H;cases Z7
   ·replace H:=hf_ H;have H':=am_ H;clear H;obtain⟨tZ,t6,t7,t8,ua,ub,uc,ud⟩:=dv tg.out;go_wp2;go_loopg [24] wv (fun kq wM w'=>∃(th:Int),wM = .int .i64 th∧aa (aq.l0 kq l0_1 (l0_1.length:Int) th l0_0 l0_1 l0_2 a0_3=some r)∧aa (kq≤wv)∧aa (w'.heap[tk]? = some (.cells #[(.slice A0_0 l0_0.length c0_0),(.slice A0_1 l0_1.length c0_1),(.slice A0_2 l0_2.length c0_2),.int .i64 a0_3] 27 (0,0)))∧aa (Below w.heap.size w w'))
    case atStart=>exact⟨(0),u3_,H',⟨Nat.le_refl _⟩,⟨pb_ tg⟩,⟨bw_ HB⟩⟩
    case round=>
     clear H';try clear tZ t6 t7 t8 ua ub uc ud
     obtain⟨th,rfl,HA,HK2,tg,HB⟩:=hrel;cases gk with
     | zero=>exact absurd HA.out (by simp[aq.l0])
     | succ k2=>
      have H:=HA.out;clear HA;simp only[aq.l0] at H;by_cases ul:th<(l0_1.length:Int)
      ·rw[if_pos ul] at H;have uq:=decide_eq_true ul;clear ul;obtain⟨wh,H⟩:=gd_ H;obtain⟨wi,H⟩:=gd_ H;obtain⟨we,uz,H⟩:=bi_ H;have HC_:=am_ H;clear H;obtain⟨tu,tn,tq,vH,tQ,tR,tS,tO,tM⟩:=fa tF.out th od_ od_;cases vH;replace tQ:=cb_ HB tQ;replace tR:=cb_ HB tR;replace tS:=cb_ HB tS;have tL:=am_ tM;have tK:=am_ tO;clear tM tO;obtain⟨wH,wJ⟩:=pt_ th l0_1.length;have H:=HC_.out;clear HC_;cases we
       ·replace H:=hf_ H;obtain rfl:=si_ H;try go_wp2_with (first | ((with_reducible refine aH (N:=4) rfl ?_);(try (refine bF cB ?_;dsimp only));refine bV ?hg (N:=4) ?hd (cs:=#[.int .i64 0,.string (⟨#[]⟩:ByteArray),.slice none 0 0]) (t:=46) ?hr ?_;(case hd=>rfl);(case hg=>rfl);(case hr=>exact bM);intro tj hg wS hbox hb;have ti:=am_ (hbox);have ug:=gw_ HB hg;replace HB:=bs_ HB hb;have tl:=nl_ tg hg;have tm:=ng_ tg hg;replace tg:=bb_ tg hb;clear hb hbox hg;have wn:=tm.out;have wu:=tl.out;obtain⟨uU,uV,uW,vA,vB,vD⟩:=dz ti.out))
        generalize hW_:(((wS.setCell ⟨tj,0,none⟩ (.int .i64 ((ab l0_1 th).f0))).setCell ⟨tj,1,none⟩ (.string ((ab l0_1 th).f1.f0))).setCell ⟨tj,2,none⟩ (.slice tn ((ab l0_1 th).f1.f1).length tq))=wT;replace tg:=gk_ hW_ #[.slice A0_0 l0_0.length c0_0,.slice (some tu) l0_1.length c0_1,.slice A0_2 l0_2.length c0_2,.int .i64 a0_3] tg;replace ti:=gk_ hW_ #[.int .i64 ((ab l0_1 th).f0),.string ((ab l0_1 th).f1.f0),.slice tn ((ab l0_1 th).f1.f1).length tq] ti;replace HB:=gb_ hW_ HB;clear hW_;replace tg:=am_ (bf tg.out);replace ti:=am_ (bf ti.out);replace HB:=am_ (az HB.out);refine dn (n:=40) (S:=fun w'=>w'.cell? ⟨tj,0,none⟩=some (.int .i64 ((ab l0_1 th).f0))∧w'.cell? ⟨tj,1,none⟩=some (.string ((ab l0_1 th).f1.f0))∧w'.cell? ⟨tj,2,none⟩=some (.slice tn ((ab l0_1 th).f1.f1).length tq)∧w'.cell? ⟨tk,0,none⟩=some (.slice A0_0 l0_0.length c0_0)∧w'.cell? ⟨tk,1,none⟩=some (.slice (some tu) l0_1.length c0_1)∧w'.cell? ⟨tk,2,none⟩=some (.slice A0_2 l0_2.length c0_2)∧w'.cell? ⟨tk,3,none⟩=some (.int .i64 a0_3)) (ds:=[]) (bm_ 40 0) bW rfl rfl ⟨bc_ ti 0,bc_ ti 1,bc_ ti 2,bc_ tg 0,bc_ tg 1,bc_ tg 2,bc_ tg 3⟩ (fun hHeld=>?_);refine bN aq.tab6 aq.bits6 (fun HT_ HW_=>?_);generalize wT.drew=xc at tg ti HB hHeld ⊢;refine pv_ 0 29 ?_;refine pv_ 2 31 ?_;refine tv_ 1 30 ?_;refine tv_ 3 32 ?_;refine pv_ 4 33 ?_;refine ov_ 5 34 (fun K hK=>?_);refine oD_ Tryz.func64 (bd.calls ((ab l0_1 th).f0) 0 (wrap64 (a0_3 - 1)) false _ uz.out) ?_;intro nd;refine hK.out _ _ ⟨bc_ ti 0,bc_ ti 1,bc_ ti 2,bc_ tg 0,bc_ tg 1,bc_ tg 2,bc_ tg 3⟩ (fun hHeld=>?_);clear hK K;refine nm_ ?_;refine pv_ 6 35 ?_;refine pv_ 7 36 ?_;refine sv_ 8 37 ?_;refine sv_ 9 38 ?_;refine sv_ 10 39 ?_;refine sv_ 11 40 ?_;refine sv_ 12 41 ?_;refine sv_ 13 42 ?_;refine sv_ 14 43 ?_;refine sv_ 15 44 ?_;refine sv_ 16 45 ?_;refine sv_ 17 46 ?_;refine sv_ 18 47 ?_;refine sv_ 19 48 ?_;refine sv_ 20 49 ?_;refine sv_ 21 50 ?_;refine pv_ 22 51 ?_;refine pv_ 23 52 ?_;refine sv_ 24 53 ?_;refine sv_ 25 54 ?_;refine sv_ 26 55 ?_;refine sv_ 27 56 ?_;refine sv_ 28 57 ?_;refine sv_ 29 58 ?_;refine pv_ 30 59 ?_;refine pv_ 31 60 ?_;refine sv_ 32 61 ?_;refine sv_ 33 62 ?_;refine sv_ 34 63 ?_;refine sv_ 35 64 ?_;refine sv_ 36 65 ?_;refine sv_ 37 66 ?_;refine sv_ 38 67 ?_;refine pv_ 39 68 ?_;refine dn_ HT_ ?_;try go_wp2
        go_ret
        exact⟨u1_,bw_ HB⟩
       ·replace H:=ht_ H;have HC_:=am_ H;clear H;have H:=HC_.out;clear HC_;by_cases um:th>0
        ·rw[if_pos um] at H;have tG:decide (0<th)=true:=decide_eq_true um;clear um;obtain⟨tv,YX⟩:∃j_:Int,(wrap64 (th - 1))=j_:=⟨_,rfl⟩;replace H:(if 0≤(tv) then(if(tv)<(l0_1.length:Int) then(if((ab l0_1 (tv)).f0)≥((ab l0_1 th).f0) then(some false) else((bj.f k2 l0_0 ((ab l0_1 th).f1.f0) ((ab l0_1 th).f1.f1)).bind fun ue=>(if ue=true then((de.f l0_0 l0_1 l0_2 a0_3 ((ab l0_1 th).f1.f0)).bind fun uf=>(if uf=th then(aq.l0 k2 l0_1 (l0_1.length:Int) (wrap64 (th+1)) l0_0 l0_1 l0_2 a0_3) else(some false))) else(some false)))) else(none)) else(none))=some r:=by first | (rw[YX] at H;exact H)|(simp only[YX] at H ⊢;exact H)
         (try rw[YX] at uz)
         have hji24w:(IntKind.i64.wrap (th - 1))=tv:=(aC _).trans YX;obtain⟨wj,H⟩:=gd_ H;obtain⟨wk,H⟩:=gd_ H;have HC_:=am_ H;clear H;(first | rw[tG] | (simp only[aC,aG];rw[tG]) | skip)
         try go_wp2_with (first | ((with_reducible refine aH (N:=4) rfl ?_);(try (refine bF cB ?_;dsimp only));refine bV ?hg (N:=4) ?hd (cs:=#[.int .i64 0,.string (⟨#[]⟩:ByteArray),.slice none 0 0]) (t:=46) ?hr ?_;(case hd=>rfl);(case hg=>rfl);(case hr=>exact bM);intro tj hg wO hbox hb;have ti:=am_ (hbox);have ug:=gw_ HB hg;replace HB:=bs_ HB hb;have tl:=nl_ tg hg;have tm:=ng_ tg hg;replace tg:=bb_ tg hb;clear hb hbox hg;have wl:=tm.out;have wo:=tl.out;obtain⟨uO,uP,uQ,vu,vv,vw⟩:=dz ti.out))
         generalize hW_:(((wO.setCell ⟨tj,0,none⟩ (.int .i64 ((ab l0_1 th).f0))).setCell ⟨tj,1,none⟩ (.string ((ab l0_1 th).f1.f0))).setCell ⟨tj,2,none⟩ (.slice tn ((ab l0_1 th).f1.f1).length tq))=wP;replace tg:=gk_ hW_ #[.slice A0_0 l0_0.length c0_0,.slice (some tu) l0_1.length c0_1,.slice A0_2 l0_2.length c0_2,.int .i64 a0_3] tg;replace ti:=gk_ hW_ #[.int .i64 ((ab l0_1 th).f0),.string ((ab l0_1 th).f1.f0),.slice tn ((ab l0_1 th).f1.f1).length tq] ti;replace HB:=gb_ hW_ HB;clear hW_;replace tg:=am_ (bf tg.out);replace ti:=am_ (bf ti.out);replace HB:=am_ (az HB.out);obtain⟨uo,uh,ui,vI,tC,tD,tE,tP,tN⟩:=fa tF.out (tv) od_ od_;have tB:=tE;have tA:=tD;have tz:=tC;obtain rfl:tu=uo:=(by injection vI);replace tC:=cb_ HB tC;replace tD:=cb_ HB tD;replace tE:=cb_ HB tE;have tY:=am_ tN;have uA:=am_ tP;clear tN tP;obtain⟨wI,wK⟩:=pt_ (tv) l0_1.length;refine dn (n:=40) (S:=fun w'=>w'.cell? ⟨tj,0,none⟩=some (.int .i64 ((ab l0_1 th).f0))∧w'.cell? ⟨tj,1,none⟩=some (.string ((ab l0_1 th).f1.f0))∧w'.cell? ⟨tj,2,none⟩=some (.slice tn ((ab l0_1 th).f1.f1).length tq)∧w'.cell? ⟨tk,0,none⟩=some (.slice A0_0 l0_0.length c0_0)∧w'.cell? ⟨tk,1,none⟩=some (.slice (some tu) l0_1.length c0_1)∧w'.cell? ⟨tk,2,none⟩=some (.slice A0_2 l0_2.length c0_2)∧w'.cell? ⟨tk,3,none⟩=some (.int .i64 a0_3)∧w'.cell? (tu.add (((tv)).toNat*3))=some (.int .i64 ((ab l0_1 (tv)).f0))∧w'.cell? ⟨(tu.add (((tv)).toNat*3)).block,(tu.add (((tv)).toNat*3)).off+1,none⟩=some (.string ((ab l0_1 (tv)).f1.f0))∧w'.cell? ⟨(tu.add (((tv)).toNat*3)).block,(tu.add (((tv)).toNat*3)).off+2,none⟩=some (.slice uh ((ab l0_1 (tv)).f1.f1).length ui)) (ds:=[]) (bm_ 40 0) bW rfl rfl ⟨bc_ ti 0,bc_ ti 1,bc_ ti 2,bc_ tg 0,bc_ tg 1,bc_ tg 2,bc_ tg 3,(cc_ HB tz),(cc_ HB tA),(cc_ HB tB)⟩ (fun hHeld=>?_);refine bN aq.tab6 aq.bits6 (fun HT_ HW_=>?_);generalize wP.drew=wW at tg ti HB tY tC tD tE hHeld ⊢;refine pv_ 0 29 ?_;refine pv_ 2 31 ?_;refine tv_ 1 30 ?_;refine tv_ 3 32 ?_;refine pv_ 4 33 ?_;refine ov_ 5 34 (fun K hK=>?_);refine oD_ Tryz.func64 (bd.calls ((ab l0_1 th).f0) 0 (wrap64 (a0_3 - 1)) true _ uz.out) ?_;intro nd;refine hK.out _ _ ⟨bc_ ti 0,bc_ ti 1,bc_ ti 2,bc_ tg 0,bc_ tg 1,bc_ tg 2,bc_ tg 3,(cc_ HB tz),(cc_ HB tA),(cc_ HB tB)⟩ (fun hHeld=>?_);clear hK K;refine nm_ ?_;refine pv_ 6 35 ?_;refine pv_ 7 36 ?_;refine pv_ 8 37 ?_;refine pv_ 9 38 ?_;refine pv_ 10 39 ?_;refine pv_ 11 40 ?_;refine pv_ 13 42 ?_;refine pv_ 14 43 ?_;refine pv_ 18 47 ?_;refine tv_ 12 41 ?_;refine pv_ 15 44 ?_;refine pv_ 16 45 ?_;refine tv_ 17 46 ?_;refine tv_ 19 48 ?_;refine pv_ 20 49 ?_;refine pv_ 21 50 ?_;refine pv_ 22 51 ?_;refine pv_ 23 52 ?_;have H:=HC_.out;clear HC_;by_cases un:((ab l0_1 (tv)).f0)≥((ab l0_1 th).f0)
         ·rw[if_pos un] at H;have tH:decide (((ab l0_1 th).f0)≤((ab l0_1 (tv)).f0))=true:=decide_eq_true un;clear un;obtain rfl:=si_ H;(first | rw[tH] | (simp only[aC,aG];rw[tH]) | skip)
          refine sv_ 24 53 ?_;refine sv_ 25 54 ?_;refine sv_ 26 55 ?_;refine sv_ 27 56 ?_;refine sv_ 28 57 ?_;refine sv_ 29 58 ?_;refine pv_ 30 59 ?_;refine pv_ 31 60 ?_;refine sv_ 32 61 ?_;refine sv_ 33 62 ?_;refine sv_ 34 63 ?_;refine sv_ 35 64 ?_;refine sv_ 36 65 ?_;refine sv_ 37 66 ?_;refine sv_ 38 67 ?_;refine pv_ 39 68 ?_;refine dn_ HT_ ?_;try go_wp2
          go_ret
          exact⟨u78_,bw_ HB⟩
         ·rw[if_neg un] at H;have tH:decide (((ab l0_1 th).f0)≤((ab l0_1 (tv)).f0))=false:=decide_eq_false un;clear un;obtain⟨ue,wy,H⟩:=bi_ H;have HC_:=am_ H;clear H;(first | rw[tH] | (simp only[aC,aG];rw[tH]) | skip)
          refine pv_ 24 53 ?_;refine pv_ 26 55 ?_;refine tv_ 25 54 ?_;refine tv_ 27 56 ?_;refine ov_ 28 57 (fun K hK=>?_);refine go_ Tryz.func65 (bj.calls k2 _ _ l0_0 ((ab l0_1 th).f1.f0) _ _ ((ab l0_1 th).f1.f1) ue _ ?side1 (kc_ tx HB) tw.out (kc_ tL HB) tK.out wy.out) ?_;(case side1=>exact jZ)
          rintro e wY ⟨rfl,hb⟩;refine⟨_,rfl,?_⟩;replace tg:=bb_ tg hb;replace ti:=bb_ ti hb;replace HB:=bs_ HB hb;(try clear hb)
          refine hK.out _ _ ⟨bc_ ti 0,bc_ ti 1,bc_ ti 2,bc_ tg 0,bc_ tg 1,bc_ tg 2,bc_ tg 3,(cc_ HB tz),(cc_ HB tA),(cc_ HB tB)⟩ (fun hHeld=>?_);clear hK K;refine nm_ ?_;refine pv_ 29 58 ?_;refine pv_ 30 59 ?_;refine pv_ 31 60 ?_;have H:=HC_.out;clear HC_;cases ue
          ·replace H:=hf_ H;obtain rfl:=si_ H;refine sv_ 32 61 ?_;refine sv_ 33 62 ?_;refine sv_ 34 63 ?_;refine sv_ 35 64 ?_;refine sv_ 36 65 ?_;refine sv_ 37 66 ?_;refine sv_ 38 67 ?_;refine pv_ 39 68 ?_;refine dn_ HT_ ?_;try go_wp2
           go_ret
           exact⟨u78_,bw_ HB⟩
          ·replace H:=ht_ H;obtain⟨uf,wz,H⟩:=bi_ H;have HC_:=am_ H;clear H;refine pv_ 33 62 ?_;refine pv_ 34 63 ?_;refine pv_ 37 66 ?_;refine tv_ 32 61 ?_;refine tv_ 35 64 ?_;refine ov_ 36 65 (fun K hK=>?_);refine oB_ Tryz.func66 (de.calls _ _ l0_0 _ _ l0_1 _ _ l0_2 a0_3 ((ab l0_1 th).f1.f0) uf _ (kc_ tx HB) tw.out (kc_ tF HB) tT.out (kc_ tW HB) tU.out wz.out) ?_;intro wX hb;replace tg:=bb_ tg hb;replace ti:=bb_ ti hb;replace HB:=bs_ HB hb;(try clear hb)
           refine hK.out _ _ ⟨bc_ ti 0,bc_ ti 1,bc_ ti 2,bc_ tg 0,bc_ tg 1,bc_ tg 2,bc_ tg 3,(cc_ HB tz),(cc_ HB tA),(cc_ HB tB)⟩ (fun hHeld=>?_);clear hK K;refine nm_ ?_;refine pv_ 38 67 ?_;refine pv_ 39 68 ?_;refine dn_ HT_ ?_;have H:=HC_.out;clear HC_;by_cases uj:uf=th
           ·rw[if_pos uj] at H;have tI:=cP uj;have ur:=cN uj;clear uj;have H':=am_ H;clear H;(first | rw[tI] | (simp only[aC,aG];rw[tI]) | skip)
            try go_wp2
            go_roundg k2
            case measure=>have:=uB.out;have:=HK2.out;omega
            case rel=>exact⟨(wrap64 (th+1)),u3_,H',⟨by have:=uB.out;have:=HK2.out;omega⟩,⟨pb_ tg⟩,⟨bw_ HB⟩⟩
           ·rw[if_neg uj] at H;have tI:=cE uj;have ur:=cG uj;obtain rfl:=si_ H;(first | rw[tI] | (simp only[aC,aG];rw[tI]) | skip)
            try go_wp2
            go_ret
            exact⟨u78_,bw_ HB⟩
        ·rw[if_neg um] at H;have tG:decide (0<th)=false:=decide_eq_false um;clear um;obtain⟨ux,wA,H⟩:=bi_ H;have HC_:=am_ H;clear H;(first | rw[tG] | (simp only[aC,aG];rw[tG]) | skip)
         try go_wp2_with (first | ((with_reducible refine aH (N:=4) rfl ?_);(try (refine bF cB ?_;dsimp only));refine bV ?hg (N:=4) ?hd (cs:=#[.int .i64 0,.string (⟨#[]⟩:ByteArray),.slice none 0 0]) (t:=46) ?hr ?_;(case hd=>rfl);(case hg=>rfl);(case hr=>exact bM);intro tj hg wQ hbox hb;have ti:=am_ (hbox);have ug:=gw_ HB hg;replace HB:=bs_ HB hb;have tl:=nl_ tg hg;have tm:=ng_ tg hg;replace tg:=bb_ tg hb;clear hb hbox hg;have wm:=tm.out;have wt:=tl.out;obtain⟨uR,uS,uT,vx,vy,vz⟩:=dz ti.out))
         generalize hW_:(((wQ.setCell ⟨tj,0,none⟩ (.int .i64 ((ab l0_1 th).f0))).setCell ⟨tj,1,none⟩ (.string ((ab l0_1 th).f1.f0))).setCell ⟨tj,2,none⟩ (.slice tn ((ab l0_1 th).f1.f1).length tq))=wR;replace tg:=gk_ hW_ #[.slice A0_0 l0_0.length c0_0,.slice (some tu) l0_1.length c0_1,.slice A0_2 l0_2.length c0_2,.int .i64 a0_3] tg;replace ti:=gk_ hW_ #[.int .i64 ((ab l0_1 th).f0),.string ((ab l0_1 th).f1.f0),.slice tn ((ab l0_1 th).f1.f1).length tq] ti;replace HB:=gb_ hW_ HB;clear hW_;replace tg:=am_ (bf tg.out);replace ti:=am_ (bf ti.out);replace HB:=am_ (az HB.out);refine dn (n:=40) (S:=fun w'=>w'.cell? ⟨tj,0,none⟩=some (.int .i64 ((ab l0_1 th).f0))∧w'.cell? ⟨tj,1,none⟩=some (.string ((ab l0_1 th).f1.f0))∧w'.cell? ⟨tj,2,none⟩=some (.slice tn ((ab l0_1 th).f1.f1).length tq)∧w'.cell? ⟨tk,0,none⟩=some (.slice A0_0 l0_0.length c0_0)∧w'.cell? ⟨tk,1,none⟩=some (.slice (some tu) l0_1.length c0_1)∧w'.cell? ⟨tk,2,none⟩=some (.slice A0_2 l0_2.length c0_2)∧w'.cell? ⟨tk,3,none⟩=some (.int .i64 a0_3)) (ds:=[]) (bm_ 40 0) bW rfl rfl ⟨bc_ ti 0,bc_ ti 1,bc_ ti 2,bc_ tg 0,bc_ tg 1,bc_ tg 2,bc_ tg 3⟩ (fun hHeld=>?_);refine bN aq.tab6 aq.bits6 (fun HT_ HW_=>?_);generalize wR.drew=xa at tg ti HB hHeld ⊢;refine pv_ 0 29 ?_;refine pv_ 2 31 ?_;refine tv_ 1 30 ?_;refine tv_ 3 32 ?_;refine pv_ 4 33 ?_;refine ov_ 5 34 (fun K hK=>?_);refine oD_ Tryz.func64 (bd.calls ((ab l0_1 th).f0) 0 (wrap64 (a0_3 - 1)) true _ uz.out) ?_;intro nd;refine hK.out _ _ ⟨bc_ ti 0,bc_ ti 1,bc_ ti 2,bc_ tg 0,bc_ tg 1,bc_ tg 2,bc_ tg 3⟩ (fun hHeld=>?_);clear hK K;refine nm_ ?_;refine pv_ 6 35 ?_;refine pv_ 7 36 ?_;refine pv_ 8 37 ?_;refine pv_ 9 38 ?_;refine pv_ 10 39 ?_;refine sv_ 11 40 ?_;refine sv_ 12 41 ?_;refine sv_ 13 42 ?_;refine sv_ 14 43 ?_;refine sv_ 15 44 ?_;refine sv_ 16 45 ?_;refine sv_ 17 46 ?_;refine sv_ 18 47 ?_;refine sv_ 19 48 ?_;refine sv_ 20 49 ?_;refine pv_ 21 50 ?_;refine pv_ 22 51 ?_;refine pv_ 23 52 ?_;refine pv_ 24 53 ?_;refine pv_ 26 55 ?_;refine tv_ 25 54 ?_;refine tv_ 27 56 ?_;refine ov_ 28 57 (fun K hK=>?_);refine go_ Tryz.func65 (bj.calls k2 _ _ l0_0 ((ab l0_1 th).f1.f0) _ _ ((ab l0_1 th).f1.f1) ux _ ?side1 (kc_ tx HB) tw.out (kc_ tL HB) tK.out wA.out) ?_;(case side1=>exact jZ)
         rintro e xb ⟨rfl,hb⟩;refine⟨_,rfl,?_⟩;replace tg:=bb_ tg hb;replace ti:=bb_ ti hb;replace HB:=bs_ HB hb;(try clear hb)
         refine hK.out _ _ ⟨bc_ ti 0,bc_ ti 1,bc_ ti 2,bc_ tg 0,bc_ tg 1,bc_ tg 2,bc_ tg 3⟩ (fun hHeld=>?_);clear hK K;refine nm_ ?_;refine pv_ 29 58 ?_;refine pv_ 30 59 ?_;refine pv_ 31 60 ?_;have H:=HC_.out;clear HC_;cases ux
         ·replace H:=hf_ H;obtain rfl:=si_ H;refine sv_ 32 61 ?_;refine sv_ 33 62 ?_;refine sv_ 34 63 ?_;refine sv_ 35 64 ?_;refine sv_ 36 65 ?_;refine sv_ 37 66 ?_;refine sv_ 38 67 ?_;refine pv_ 39 68 ?_;refine dn_ HT_ ?_;try go_wp2
          go_ret
          exact⟨u1_,bw_ HB⟩
         ·replace H:=ht_ H;obtain⟨uy,wC,H⟩:=bi_ H;have HC_:=am_ H;clear H;refine pv_ 33 62 ?_;refine pv_ 34 63 ?_;refine pv_ 37 66 ?_;refine tv_ 32 61 ?_;refine tv_ 35 64 ?_;refine ov_ 36 65 (fun K hK=>?_);refine oB_ Tryz.func66 (de.calls _ _ l0_0 _ _ l0_1 _ _ l0_2 a0_3 ((ab l0_1 th).f1.f0) uy _ (kc_ tx HB) tw.out (kc_ tF HB) tT.out (kc_ tW HB) tU.out wC.out) ?_;intro wZ hb;replace tg:=bb_ tg hb;replace ti:=bb_ ti hb;replace HB:=bs_ HB hb;(try clear hb)
          refine hK.out _ _ ⟨bc_ ti 0,bc_ ti 1,bc_ ti 2,bc_ tg 0,bc_ tg 1,bc_ tg 2,bc_ tg 3⟩ (fun hHeld=>?_);clear hK K;refine nm_ ?_;refine pv_ 38 67 ?_;refine pv_ 39 68 ?_;refine dn_ HT_ ?_;have H:=HC_.out;clear HC_;by_cases uk:uy=th
          ·rw[if_pos uk] at H;have tJ:=cP uk;have ut:=cN uk;clear uk;have H':=am_ H;clear H;(first | rw[tJ] | (simp only[aC,aG];rw[tJ]) | skip)
           try go_wp2
           go_roundg k2
           case measure=>have:=uB.out;have:=HK2.out;omega
           case rel=>exact⟨(wrap64 (th+1)),u3_,H',⟨by have:=uB.out;have:=HK2.out;omega⟩,⟨pb_ tg⟩,⟨bw_ HB⟩⟩
          ·rw[if_neg uk] at H;have tJ:=cE uk;have ut:=cG uk;obtain rfl:=si_ H;(first | rw[tJ] | (simp only[aC,aG];rw[tJ]) | skip)
           try go_wp2
           go_ret
           exact⟨u1_,bw_ HB⟩
      ·rw[if_neg ul] at H;have uq:=decide_eq_false ul;clear ul;obtain⟨uw,wD,H⟩:=bi_ H;obtain⟨wd,wE,H⟩:=bi_ H;obtain rfl:=si_ H;try go_wp2
       replace tg:=am_ (bf tg.out);replace HB:=am_ (az HB.out);refine dn (n:=9) (S:=fun w'=>w'.cell? ⟨tk,0,none⟩=some (.slice A0_0 l0_0.length c0_0)∧w'.cell? ⟨tk,1,none⟩=some (.slice A0_1 l0_1.length c0_1)∧w'.cell? ⟨tk,2,none⟩=some (.slice A0_2 l0_2.length c0_2)∧w'.cell? ⟨tk,3,none⟩=some (.int .i64 a0_3)) (ds:=[]) (bm_ 9 0) bW rfl rfl ⟨bc_ tg 0,bc_ tg 1,bc_ tg 2,bc_ tg 3⟩ (fun hHeld=>?_);refine bN aq.tab9 aq.bits9 (fun HT_ HW_=>?_);generalize wr.drew=xd at tg HB hHeld ⊢;refine pv_ 0 70 ?_;refine pv_ 2 72 ?_;refine pv_ 4 74 ?_;refine tv_ 1 71 ?_;refine tv_ 3 73 ?_;refine tv_ 5 75 ?_;refine ov_ 6 76 (fun K hK=>?_);refine go_ Tryz.func68 (dS.calls k2 _ _ l0_0 _ _ l0_1 uw _ ?side1 (kc_ tx HB) tw.out (kc_ tF HB) tT.out wD.out) ?_;(case side1=>exact jZ)
       rintro e xe ⟨wN,rfl,ho0,hb⟩;refine⟨_,rfl,?_⟩;have tV:=am_ (Kd.R_lower ho0 (av (bw_ HB)));replace tg:=bb_ tg hb;replace HB:=bs_ HB hb;(try clear hb)
       (try clear ho0)
       obtain⟨wF,wG,uu⟩:=Kd.R_slice tV.out;(first | subst uu | (injection uu with f1_ f2_ f3_;have f4_:=f1_.symm;have f5_:=f3_.symm;clear f1_ f2_ f3_;subst f4_;subst f5_))
       refine hK.out _ _ ⟨bc_ tg 0,bc_ tg 1,bc_ tg 2,bc_ tg 3⟩ (fun hHeld=>?_);clear hK K;refine nm_ ?_;refine ov_ 7 77 (fun K hK=>?_);refine go_ Tryz.func67 (cW.calls k2 _ _ l0_2 _ _ uw wd _ (kc_ tW HB) tU.out (kR_ tV) ?side4 wE.out) ?_;(case side4=>exact(Kd.R_reads' tV.out).2.1)
       rintro e xf ⟨rfl,hb⟩;refine⟨_,rfl,?_⟩;replace tg:=bb_ tg hb;replace HB:=bs_ HB hb;(try clear hb)
       refine hK.out _ _ ⟨bc_ tg 0,bc_ tg 1,bc_ tg 2,bc_ tg 3⟩ (fun hHeld=>?_);clear hK K;refine nm_ ?_;refine pv_ 8 2 ?_;refine dn_ HT_ ?_;try go_wp2
       go_ret
       exact⟨u1_,bw_ HB⟩
   ·replace H:=ht_ H;obtain rfl:=si_ H;go_wp2;go_ret
    exact⟨u1_,bw_ HB⟩
mutual
def an.l0:Nat→ByteArray→ByteArray→List (S50)→List (S76)→Int→Int→Option ((List (S50)))
 | 0,_,_,_,_,_,_=>none
 | k+1,x1,x2,x7,th,ti,tg=>if tg<ti then(if 0≤tg then(if tg<(th.length:Int) then(if((aj th tg).f0).toList=x1.toList then(an.j1 k x1 x2 x7 th ti tg (((aj th tg).f1).toList != x2.toList) ((aj th tg).f0) ((aj th tg).f1) ((aj th tg).f2)) else(an.j1 k x1 x2 x7 th ti tg true ((aj th tg).f0) ((aj th tg).f1) ((aj th tg).f2))) else(none)) else(none)) else(some x7)
def an.j1:Nat→ByteArray→ByteArray→List (S50)→List (S76)→Int→Int→Bool→ByteArray→ByteArray→List (S50)→Option ((List (S50)))
 | 0,_,_,_,_,_,_,_,_,_,_=>none
 | k+1,x1,x2,x7,tj,tk,tl,tm,th,ti,tg=>if tm=true then(an.l0 k x1 x2 x7 tj tk (wrap64 (tl+1))) else(an.l1 k x1 x2 x7 tj tk tl tg (tg.length:Int) 0)
def an.l1:Nat→ByteArray→ByteArray→List (S50)→List (S76)→Int→Int→List (S50)→Int→Int→Option ((List (S50)))
 | 0,_,_,_,_,_,_,_,_,_=>none
 | k+1,x1,x2,x7,tj,tk,tl,th,tm,tg=>if tg<tm then(if 0≤tg then(if tg<(th.length:Int) then((some (([] : List Int):List Int)).bind fun ti=>(if ti.length+((ao th tg).f1).length<17592186044416 then(if x7.length<4398046511104 then(an.l1 k x1 x2 (x7 ++ [(⟨(ao th tg).f0,(ti ++ ((ao th tg).f1))⟩:S50)]) tj tk tl th tm (wrap64 (tg+1))) else(none)) else(none))) else(none)) else(none)) else(an.l0 k x1 x2 x7 tj tk (wrap64 (tl+1)))
end
def an.f (k:Nat) (l0_0:List (S92)) (l0_1:List (S46)) (l0_2:List (S76)) (a0_3:Int) (a1:ByteArray) (a2:ByteArray):Option ((List (S50))):=(some (([] : List (S50)):List (S50))).bind fun tg=>((aq.f k l0_0 l0_1 l0_2 a0_3).bind fun th=>(if th=true then(an.l0 k a1 a2 tg l0_2 (l0_2.length:Int) 0) else(some tg)))
def an.T11:Bool × List (List Nat × List Nat):=(true,[([],[]),([],[]),([1],[1]),([],[]),([],[]),([4],[4]),([3,5],[3,5]),([2,6],[2,6]),([7],[7]),([0,8,6],[0,8]),([9,9,0,1,2,3,4,5,6,7,8,9],[0,9])])
def an.B11:List Nat:=[0,0,2,0,0,16,56,126,254,511,1023]
theorem an.tab11:dL .any (fC Tryz.f14 11)=an.T11:=by kernel_rfl
theorem an.bits11:di an.T11.2 an.B11=true:=by kernel_rfl
theorem an.calls (k:Nat) (A0_0:Option Addr) (c0_0:Nat) (l0_0:List (S92)) (A0_1:Option Addr) (c0_1:Nat) (l0_1:List (S46)) (A0_2:Option Addr) (c0_2:Nat) (l0_2:List (S76)) (a0_3:Int) (a1:ByteArray) (a2:ByteArray) (r:List (S50)) (w:World) (hG:StopsIn w) (hr0_0:Kd.C k92 w A0_0 l0_0.length l0_0) (hc0_0:l0_0.length≤c0_0) (hr0_1:Kd.C k46 w A0_1 l0_1.length l0_1) (hc0_1:l0_1.length≤c0_1) (hr0_2:Kd.C k76 w A0_2 l0_2.length l0_2) (hc0_2:l0_2.length≤c0_2) (h:an.f k l0_0 l0_1 l0_2 a0_3 a1 a2=some r) :
  Calls Tryz.prog 14 #[.agg #[.slice A0_0 l0_0.length c0_0,.slice A0_1 l0_1.length c0_1,.slice A0_2 l0_2.length c0_2,.int .i64 a0_3],.string a1,.string a2] w fun e w'=>∃v0_:Value,e = .returned (v0_)∧Kd.S k50 50 w' w.heap.size (fun _=>True) v0_ r∧Below w.heap.size w w':=by
 have hu27:=Tryz.underlying27;have hu76:=Tryz.underlying76;have hu50:=Tryz.underlying50;have HG_:=am_ hG;clear hG;have uF:=am_ hr0_0;have uC:=am_ hc0_0;clear hr0_0 hc0_0;have uG:=am_ hr0_1;have uD:=am_ hc0_1;clear hr0_1 hc0_1;have un:=am_ hr0_2;have uE:=am_ hc0_2;clear hr0_2 hc0_2;have HB:=am_ (Below.refl w.heap.size w);have H:=h;clear h;unfold an.f at H
 obtain⟨uT,tM⟩:∃y_:List (S50),y_=(([] : List (S50))):=⟨_,rfl⟩;replace H:((aq.f k l0_0 l0_1 l0_2 a0_3).bind fun uS=>(if uS=true then(an.l0 k a1 a2 uT l0_2 (l0_2.length:Int) 0) else(some uT)))=some r:=by first | (rw[tM];with_reducible exact H)|(have H2_:=(Option.bind_some _ _).symm.trans H;rw[tM];with_reducible exact H2_)|(have H2_:=(Option.bind_some _ _).symm.trans H;with_reducible exact H2_) | with_reducible exact H | (rw[tM];exact H) | exact H
 have tY:=am_ tM;clear tM;obtain⟨uS,A4,H⟩:=bi_ H;cases uS
 ·replace H:=hf_ H;obtain rfl:=si_ H;go_enter Tryz.func14,Tryz.ntmps14
  go_wp2_with (first | ((with_reducible refine gt_ 3 ?_);refine bx_ 3 #[.slice A0_0 l0_0.length c0_0,.slice A0_1 l0_1.length c0_1,.slice A0_2 l0_2.length c0_2,.int .i64 a0_3] 27 ?_;intro tx hg wN hbox hb;have tg:=am_ (hbox);have uX:=gw_ HB hg;replace HB:=bs_ HB hb;clear hb hbox hg)|((with_reducible refine aH (N:=12) rfl ?_);refine Kd.S_lit k50 _ 50 ?hg (N:=12) ?hd (xs:=([] : List (S50))) (inner:=[]) (ok:=fun _=>True) (okp:=fun _=>True) ?hr ?hp (fun _ hk=>hk) trivial (Below.refl _ _) (Nat.le_refl _) bb ?_;(case hd=>rfl);(case hg=>rfl);(case hr=>exact bM);(case hp=>exact eY);intro wa wO ho45 hb hg_ hnew_;clear hg_ hnew_;(first | rw[← tY.out] at ho45 | (simp only[Int.reduceToNat] at ho45;rw[← tY.out] at ho45));have tw:=am_ (Kd.S_lower ho45 (av (bw_ HB)));replace tg:=bb_ tg hb;replace HB:=bs_ HB hb;clear hb ho45;obtain⟨vG,vH,vI,vJ,vU,vV,vW,vX⟩:=dv tg.out)|((with_reducible refine gt_ 14 ?_);refine gB_ 14 Tryz.func25 (aq.calls k _ _ l0_0 _ _ l0_1 _ _ l0_2 a0_3 false _ ?side1 (kc_ uF HB) uC.out (kc_ uG HB) uD.out (kc_ un HB) uE.out A4.out) ?_;(case side1=>exact jZ);intro wP hb;replace tw:=am_ (Kd.S_below (aS_ tw.out) hb);replace HB:=bs_ HB hb;(try clear hb)))
  go_ret
  exact⟨_,u1_,aS_ tw.out,bw_ HB⟩
 ·replace H:=ht_ H;have H':=am_ H;clear H;go_enter Tryz.func14,Tryz.ntmps14
  go_wp2_with (first | ((with_reducible refine gt_ 3 ?_);refine bx_ 3 #[.slice A0_0 l0_0.length c0_0,.slice A0_1 l0_1.length c0_1,.slice A0_2 l0_2.length c0_2,.int .i64 a0_3] 27 ?_;intro tx hg w6 hbox hb;have tg:=am_ (hbox);have uX:=gw_ HB hg;replace HB:=bs_ HB hb;clear hb hbox hg)|((with_reducible refine aH (N:=12) rfl ?_);refine Kd.S_lit k50 _ 50 ?hg (N:=12) ?hd (xs:=([] : List (S50))) (inner:=[]) (ok:=fun _=>True) (okp:=fun _=>True) ?hr ?hp (fun _ hk=>hk) trivial (Below.refl _ _) (Nat.le_refl _) bb ?_;(case hd=>rfl);(case hg=>rfl);(case hr=>exact bM);(case hp=>exact eY);intro wa w7 ho8 hb hg_ hnew_;clear hg_ hnew_;(first | rw[← tY.out] at ho8 | (simp only[Int.reduceToNat] at ho8;rw[← tY.out] at ho8));have tw:=am_ (Kd.S_lower ho8 (av (bw_ HB)));replace tg:=bb_ tg hb;replace HB:=bs_ HB hb;clear hb ho8;obtain⟨tO,tP,tQ,tR,tS,tT,tU,tV⟩:=dv tg.out)|((with_reducible refine gt_ 14 ?_);refine gB_ 14 Tryz.func25 (aq.calls k _ _ l0_0 _ _ l0_1 _ _ l0_2 a0_3 true _ ?side1 (kc_ uF HB) uC.out (kc_ uG HB) uD.out (kc_ un HB) uE.out A4.out) ?_;(case side1=>exact jZ);intro wH hb;replace tw:=am_ (Kd.S_below (aS_ tw.out) hb);replace tg:=bb_ tg hb;replace HB:=bs_ HB hb;(try clear hb);obtain⟨tz,tA,tB,tC,tD,tE,tF,tG⟩:=dv tg.out))
  go_loopg [7,20] k (fun kq v7 wA w'=>∃(tW:List (S50)) (Z7:Int),wA = .int .i64 Z7∧aa (an.l0 kq a1 a2 tW l0_2 (l0_2.length:Int) Z7=some r)∧aa (kq≤k)∧aa (Kd.S k50 50 w' w.heap.size (fun _=>True) v7 tW)∧aa (w'.heap[tx]? = some (.cells #[(.slice A0_0 l0_0.length c0_0),(.slice A0_1 l0_1.length c0_1),(.slice A0_2 l0_2.length c0_2),.int .i64 a0_3] 27 (0,0)))∧aa (Below w.heap.size w w'))
  case atStart=>exact⟨(uT),(0),u3_,H',⟨Nat.le_refl _⟩,⟨aS_ tw.out⟩,⟨pb_ tg⟩,⟨bw_ HB⟩⟩
  case round=>
   clear H';try clear tz tA tB tC tD tE tF tG
   try clear tO tP tQ tR tS tT tU tV
   obtain⟨tW,Z7,rfl,HA,HK1,ZX,tg,HB⟩:=hrel;cases gk with
   | zero=>exact absurd HA.out (by simp[an.l0])
   | succ k1=>
    have H:=HA.out;clear HA;simp only[an.l0] at H;by_cases uI:Z7<(l0_2.length:Int)
    ·rw[if_pos uI] at H;have uq:=decide_eq_true uI;clear uI;obtain⟨uJ,H⟩:=gd_ H;obtain⟨uK,H⟩:=gd_ H;have uN:=am_ H;clear H;obtain⟨tK,YW,Ze,vY,tq,tu,tv,ue,uc⟩:=fe un.out Z7 od_ od_;cases vY;replace tq:=cb_ HB tq;replace tu:=cb_ HB tu;replace tv:=cb_ HB tv;have ut:=am_ uc;have vu:=am_ ue;clear uc ue;obtain⟨vq,vr⟩:=pt_ Z7 l0_2.length;go_upto_region 7 with (first | ((with_reducible refine gt_ 9 ?_);refine bx_ 9 #[.string (⟨#[]⟩:ByteArray),.string (⟨#[]⟩:ByteArray),.slice none 0 0] 76 ?_;intro Zc hg wI hbox hb;replace ZX:=am_ (Kd.S_below (aS_ ZX.out) hb);have ZS:=am_ (hbox);have we:=gw_ HB hg;replace HB:=bs_ HB hb;have tm:=nl_ tg hg;have tn:=ng_ tg hg;replace tg:=bb_ tg hb;clear hb hbox hg;have wj:=tn.out;have wt:=tm.out;obtain⟨tZ,t6,t7,t8,ua,ub⟩:=dz ZS.out))
     (try simp only[Act.put,List.setIfInBounds_toArray,List.set_cons_zero,List.set_cons_succ])
     go_cut [33] (fun wE wc=>∃(kq:Nat) (tH:Bool),wE = .bool tH∧aa (an.j1 kq a1 a2 tW l0_2 (l0_2.length:Int) Z7 tH ((aj l0_2 Z7).f0) ((aj l0_2 Z7).f1) ((aj l0_2 Z7).f2)=some r)∧aa (kq≤k1)∧aa (Kd.S k50 50 wc w.heap.size (fun _=>True) u7 tW)∧aa (wc.heap[tx]? = some (.cells #[(.slice A0_0 l0_0.length c0_0),(.slice A0_1 l0_1.length c0_1),(.slice (some tK) l0_2.length c0_2),.int .i64 a0_3] 27 (0,0)))∧aa (wc.heap[Zc]? = some (.cells #[.string ((aj l0_2 Z7).f0),.string ((aj l0_2 Z7).f1),(.slice YW ((aj l0_2 Z7).f2).length Ze)] 76 (0,0)))∧aa (Below w.heap.size w wc))
     case first=>
      have H:=uN.out;clear uN;by_cases uO:((aj l0_2 Z7).f0).toList=a1.toList
      ·rw[if_pos uO] at H;have tL:=cP uO;have vm:=cN uO;clear uO;(first | rw[tL] | (simp only[aC,aG];rw[tL]) | skip)
       have H':=am_ H;clear H;have wk:=tn.out;have wu:=tm.out;obtain⟨vw,vx,vy,vK,vM,vN⟩:=dz ZS.out;go_wp2;go_meet
       case rel=>exact⟨_,((((aj l0_2 Z7).f1).toList != a2.toList)),u3_,H',⟨mR⟩,⟨u160_⟩,⟨pb_ tg⟩,⟨pb_ ZS⟩,⟨bw_ HB⟩⟩
      ·rw[if_neg uO] at H;have tL:=cE uO;have vm:=cG uO;(first | rw[tL] | (simp only[aC,aG];rw[tL]) | skip)
       have H':=am_ H;clear H;have wl:=tn.out;have wv:=tm.out;obtain⟨vz,vA,vB,vO,vP,vQ⟩:=dz ZS.out;go_wp2;go_meet
       case rel=>exact⟨_,(true),u3_,H',⟨mR⟩,⟨u160_⟩,⟨pb_ tg⟩,⟨pb_ ZS⟩,⟨bw_ HB⟩⟩
     case rest=>
      clear uN;try clear uI
      try clear uq
      try clear uJ
      try clear uK
      try clear tz tA tB tC tD tE tF tG
      try clear tZ t6 t7 t8 ua ub
      try clear tO tP tQ tR tS tT tU tV
      try clear tq
      try clear tu
      try clear tv
      try clear vq
      try clear vr
      obtain⟨kq,tH,rfl,HA,ui,ZX,tg,ZS,HB⟩:=hcut;cases kq with
      | zero=>exact absurd HA.out (by simp[an.j1])
      | succ uP=>
       have H:=HA.out;clear HA;simp only[an.j1] at H;cases tH
       ·replace H:=hf_ H;have H':=am_ H;clear H;have wm:=tn.out;have ww:=tm.out;obtain⟨uv,uw,ux,uy,uz,uA⟩:=dz ZS.out;go_wp2;go_loopg [7,37] uP (fun kq v7 wF w'=>∃(tI:List (S50)) (th:Int),wF = .int .i64 th∧aa (an.l1 kq a1 a2 tI l0_2 (l0_2.length:Int) Z7 ((aj l0_2 Z7).f2) (((aj l0_2 Z7).f2).length:Int) th=some r)∧aa (kq≤uP)∧aa (Kd.S k50 50 w' w.heap.size (fun _=>True) v7 tI)∧aa (w'.heap[tx]? = some (.cells #[(.slice A0_0 l0_0.length c0_0),(.slice A0_1 l0_1.length c0_1),(.slice (some tK) l0_2.length c0_2),.int .i64 a0_3] 27 (0,0)))∧aa (w'.heap[Zc]? = some (.cells #[.string ((aj l0_2 Z7).f0),.string ((aj l0_2 Z7).f1),(.slice YW ((aj l0_2 Z7).f2).length Ze)] 76 (0,0)))∧aa (Below w.heap.size w w'))
        case atStart=>exact⟨(tW),(0),u3_,H',⟨Nat.le_refl _⟩,⟨aS_ ZX.out⟩,⟨pb_ tg⟩,⟨pb_ ZS⟩,⟨bw_ HB⟩⟩
        case round=>
         clear H';try clear uI
         try clear uq
         try clear uJ
         try clear uK
         try clear tz tA tB tC tD tE tF tG
         try clear tZ t6 t7 t8 ua ub
         try clear uv uw ux uy uz uA
         try clear tO tP tQ tR tS tT tU tV
         try clear tq
         try clear tu
         try clear tv
         try clear vq
         try clear vr
         obtain⟨tI,th,rfl,HA,HK3,ZX,tg,ZS,HB⟩:=hrel;cases gk with
         | zero=>exact absurd HA.out (by simp[an.l1])
         | succ k3=>
          have H:=HA.out;clear HA;simp only[an.l1] at H;by_cases uU:th<(((aj l0_2 Z7).f2).length:Int)
          ·rw[if_pos uU] at H;have vn:=decide_eq_true uU;clear uU;obtain⟨wh,H⟩:=gd_ H;obtain⟨wi,H⟩:=gd_ H;obtain⟨uB,tN⟩:∃y_:List Int,y_=(([] : List Int)):=⟨_,rfl⟩;replace H:(if uB.length+((ao ((aj l0_2 Z7).f2) th).f1).length<17592186044416 then(if tI.length<4398046511104 then(an.l1 k3 a1 a2 (tI ++ [(⟨(ao ((aj l0_2 Z7).f2) th).f0,(uB ++ ((ao ((aj l0_2 Z7).f2) th).f1))⟩:S50)]) l0_2 (l0_2.length:Int) Z7 ((aj l0_2 Z7).f2) (((aj l0_2 Z7).f2).length:Int) (wrap64 (th+1))) else(none)) else(none))=some r:=by first | (rw[tN];with_reducible exact H)|(have H2_:=(Option.bind_some _ _).symm.trans H;rw[tN];with_reducible exact H2_)|(have H2_:=(Option.bind_some _ _).symm.trans H;with_reducible exact H2_) | with_reducible exact H | (rw[tN];exact H) | exact H
           have uH:=am_ tN;clear tN;obtain⟨uZ,H⟩:=gl_ H;generalize uL:((uB ++ ((ao ((aj l0_2 Z7).f2) th).f1)):List Int)=ur at H;have vk:=am_ uL.symm;clear uL;obtain⟨u6,H⟩:=gl_ H;generalize uM:((tI ++ [(⟨(ao ((aj l0_2 Z7).f2) th).f0,ur⟩:S50)]):List (S50))=wd at H;have vl:=am_ uM.symm;clear uM;have H':=am_ H;clear H;have uQ:0≤(th:Int):=od_;have uR:th<(((aj l0_2 Z7).f2).length:Int):=od_;obtain⟨uo,tk,tl,vZ,ug,uh,uf,ud⟩:=ft ut.out th uQ uR;cases vZ;replace ug:=cb_ HB ug;replace uh:=cb_ HB uh;have uu:=am_ ud;have vv:=am_ uf;clear ud uf;obtain⟨uQ,uR⟩:=tt_ uQ uR;try go_wp2_with (first | ((with_reducible refine gt_ 11 ?_);refine bx_ 11 #[.int .i64 0,.slice none 0 0] 50 ?_;intro tj hg uV hbox hb;replace ZX:=am_ (Kd.S_below (Kd.S_elderB (aS_ ZX.out) tj (Nat.le_of_eq hg.symm)) hb);have ti:=am_ (hbox);have wg:=gw_ HB hg;replace HB:=bs_ HB hb;have uj:=nl_ tg hg;have ul:=ng_ tg hg;replace tg:=bb_ tg hb;have uk:=nl_ ZS hg;have um:=ng_ ZS hg;replace ZS:=bb_ ZS hb;clear hb hbox hg;have wn:=ul.out;have wy:=uj.out;have wo:=um.out;have wz:=uk.out;obtain⟨vD,vE,vS,vT⟩:=bZ ti.out))
           have n0_:aa (Kd.S k50 50 ((uV.setCell ⟨tj,0,none⟩ (.int .i64 ((ao ((aj l0_2 Z7).f2) th).f0))).setCell ⟨tj,1,none⟩ (.slice tk ((ao ((aj l0_2 Z7).f2) th).f1).length tl)) w.heap.size (fun k_=>k_≠tj) u7 tI):=⟨by(with_reducible repeat (first | apply Kd.S_alloc | apply Kd.S_drewN | apply Kd.S_drew));exact Kd.S_mono (Kd.S_far (p:=⟨tj,1,none⟩) (Kd.S_far (p:=⟨tj,0,none⟩) (Kd.S_mono ZX.out (fun k_ hk=>(⟨hk,hk.2⟩:_∧k_≠tj))) (fun _ hk=>hk.2) (.int .i64 ((ao ((aj l0_2 Z7).f2) th).f0))) (fun _ hk=>hk.2) (.slice tk ((ao ((aj l0_2 Z7).f2) th).f1).length tl)) (fun _ hk=>hk.1.2)⟩;have n1_:aa (((uV.setCell ⟨tj,0,none⟩ (.int .i64 ((ao ((aj l0_2 Z7).f2) th).f0))).setCell ⟨tj,1,none⟩ (.slice tk ((ao ((aj l0_2 Z7).f2) th).f1).length tl)).heap[tx]? = some (.cells #[.slice A0_0 l0_0.length c0_0,.slice A0_1 l0_1.length c0_1,.slice (some tK) l0_2.length c0_2,.int .i64 a0_3] 27 (0,0))):=⟨pb_ tg⟩;have n2_:aa (((uV.setCell ⟨tj,0,none⟩ (.int .i64 ((ao ((aj l0_2 Z7).f2) th).f0))).setCell ⟨tj,1,none⟩ (.slice tk ((ao ((aj l0_2 Z7).f2) th).f1).length tl)).heap[Zc]? = some (.cells #[.string ((aj l0_2 Z7).f0),.string ((aj l0_2 Z7).f1),.slice (some uo) ((aj l0_2 Z7).f2).length Ze] 76 (0,0))):=⟨pb_ ZS⟩;have n3_:aa (((uV.setCell ⟨tj,0,none⟩ (.int .i64 ((ao ((aj l0_2 Z7).f2) th).f0))).setCell ⟨tj,1,none⟩ (.slice tk ((ao ((aj l0_2 Z7).f2) th).f1).length tl)).heap[tj]? = some (.cells #[.int .i64 ((ao ((aj l0_2 Z7).f2) th).f0),.slice tk ((ao ((aj l0_2 Z7).f2) th).f1).length tl] 50 (0,0))):=⟨pb_ ti⟩;have n4_:aa (Below w.heap.size w ((uV.setCell ⟨tj,0,none⟩ (.int .i64 ((ao ((aj l0_2 Z7).f2) th).f0))).setCell ⟨tj,1,none⟩ (.slice tk ((ao ((aj l0_2 Z7).f2) th).f1).length tl))):=⟨bw_ HB⟩;(try clear ZX)
           (try clear tg)
           (try clear ZS)
           (try clear ti)
           (try clear HB)
           generalize ((uV.setCell ⟨tj,0,none⟩ (.int .i64 ((ao ((aj l0_2 Z7).f2) th).f0))).setCell ⟨tj,1,none⟩ (.slice tk ((ao ((aj l0_2 Z7).f2) th).f1).length tl))=wG at n0_ n1_ n2_ n3_ n4_ ⊢;have ZX:=n0_;have tg:=n1_;have ZS:=n2_;have ti:=n3_;have HB:=n4_;clear n0_ n1_ n2_ n3_ n4_;replace ZX:=am_ (Kd.S_drew ZX.out);replace tg:=am_ (bf tg.out);replace ZS:=am_ (bf ZS.out);replace ti:=am_ (bf ti.out);replace HB:=am_ (az HB.out);refine dn (n:=11) (S:=fun w'=>w'.cell? ⟨tj,0,none⟩=some (.int .i64 ((ao ((aj l0_2 Z7).f2) th).f0))∧w'.cell? ⟨tj,1,none⟩=some (.slice tk ((ao ((aj l0_2 Z7).f2) th).f1).length tl)) (ds:=[]) (bm_ 11 0) bW rfl rfl ⟨bc_ ti 0,bc_ ti 1⟩ (fun hHeld=>?_);refine bN an.tab11 an.bits11 (fun HT_ HW_=>?_);generalize wG.drew=wJ at ZX tg ZS ti HB hHeld ⊢;refine pv_ 0 41 ?_;refine pv_ 1 42 ?_;refine pv_ 4 45 ?_;refine tv_ 2 43 ?_;refine tv_ 5 46 ?_;refine ov_ 3 44 (fun K hK=>?_);refine Kd.R_lit_step (Kd.int .i64) _ 3 ?hg (N:=44) ?hd (xs:=([] : List Int)) (inner:=[]) (ok:=fun _=>True) (okp:=fun _=>True) ?hr ?hp (fun _ hk=>hk) trivial (Below.refl _ _) (Nat.le_refl _) bb ?_;(case hd=>rfl);(case hg=>rfl);(case hr=>exact bM);(case hp=>exact eY);intro wb wK ho39 hb hg_ hnew_;clear hg_ hnew_;(first | rw[← uH.out] at ho39 | (simp only[Int.reduceToNat] at ho39;rw[← uH.out] at ho39))
           replace ZX:=am_ (Kd.S_elder' (aS_ ZX.out) (Kd.R_base ho39) hb);have tJ:=am_ (Kd.R_lower ho39 (av (bw_ HB)));replace tg:=bb_ tg hb;replace ZS:=bb_ ZS hb;replace ti:=bb_ ti hb;replace HB:=bs_ HB hb;clear hb ho39;refine hK.out _ _ ⟨bc_ ti 0,bc_ ti 1⟩ (fun hHeld=>?_);clear hK K;refine nm_ ?_;refine ov_ 6 47 (fun K hK=>?_);refine Kd.R_append_rows_step (Kd.int .i64) (w0:=w) w.heap.size cB (.tmp 44) (.tmp 46) 39 3 (.int .i64 0) 8 rfl Tryz.underlying39 oS rfl am au wb uB ((ao ((aj l0_2 Z7).f2) th).f1) _ _ _ (fun _=>True) (fun _=>False) rfl rfl ?aO ?aR (fun _ _ h=>h) (fun _ h=>h.elim) ?aF ?aB ?aS ?aL ?_;(case aR=>exact(kc_ uu HB))
           (case aB=>exact fc)
           (case aF=>exact ie)
           (case aO=>exact(aR_ tJ.out))
           (case aS=>exact fi)
           (case aL=>have:=uZ.out;omega)
           intro wC wL ho hb hg hat;rw[← vk.out] at ho;replace ZX:=am_ (Kd.S_after (ok:=(fun k_=>k_≠tj)) (aS_ ZX.out) hg hat);replace tg:=am_ (bA (g:=tx) (o:=.cells #[.slice A0_0 l0_0.length c0_0,.slice A0_1 l0_1.length c0_1,.slice (some tK) l0_2.length c0_2,.int .i64 a0_3] 27 (0,0)) (pb_ tg) hg (Kd.R_ne tJ.out tg.out am));replace ZS:=am_ (bA (g:=Zc) (o:=.cells #[.string ((aj l0_2 Z7).f0),.string ((aj l0_2 Z7).f1),.slice (some uo) ((aj l0_2 Z7).f2).length Ze] 76 (0,0)) (pb_ ZS) hg (Kd.R_ne tJ.out ZS.out am));replace ti:=am_ (bA (g:=tj) (o:=.cells #[.int .i64 ((ao ((aj l0_2 Z7).f2) th).f0),.slice tk ((ao ((aj l0_2 Z7).f2) th).f1).length tl] 50 (0,0)) (pb_ ti) hg (Kd.R_ne tJ.out ti.out am));replace HB:=am_ (hb);have tX:=am_ (ho);clear tJ ho hb hg hat;obtain⟨uW,vo,vp⟩:=Kd.R_slice tX.out;(first | subst vp | (injection vp with f1_ f2_ f3_;have f4_:=f1_.symm;have f5_:=f3_.symm;clear f1_ f2_ f3_;subst f4_;subst f5_))
           refine hK.out _ _ ⟨bc_ ti 0,bc_ ti 1⟩ (fun hHeld=>?_);clear hK K;refine nm_ ?_;refine pv_ 7 48 ?_;refine ov_ 8 49 (fun K hK=>?_);refine ib (w1:=?_) (v:=?_) cB rfl ?_ ?_;rotate_left 2
           ·go_simp;constructor
            ·rfl
            ·rfl
           refine hK.out _ _ ⟨(aV (ct ti.out _) 0).trans rfl,(aV (ct ti.out _) 1).trans rfl⟩ (fun hHeld=>?_);clear hK K;refine nm_ ?_;refine ov_ 9 50 (fun K hK=>?_);refine Kd.S_append_step k50 (w0:=w) w.heap.size cB (.tmp 41) (.tmp 49) 34 50 (.agg #[(.int .i64 0),(.slice none 0 0)]) 32 rfl Tryz.underlying34 lO rfl am au u7 tI (⟨(ao ((aj l0_2 Z7).f2) th).f0,ur⟩:S50) [.int .i64 ((ao ((aj l0_2 Z7).f2) th).f0),.slice uW ur.length vo] (fun k_=>k_≠tj) (fun k_=>some k_=(.slice uW ur.length vo:Value).ownBlock) rfl rfl ?aP (fun k_ hk_=>((Kd.R_mono (ok':=fun k_=>((fun k_=>k_≠tj)) k_∧some k_≠(u7:Value).ownBlock) (Kd.R_types (Kd.R_apart' (tX.out) (Kd.S_typed ZX.out) am) ti.out am) (fun k_ hk=>⟨hk.2,hk.1.2⟩))).1 k_ hk_.symm) ?aF ?aO ?aB ?aS ?aL ?_;(case aP=>exact jJ _ _ _ (⟨(ao ((aj l0_2 Z7).f2) th).f0,ur⟩:S50) (Kd.R_mono (Kd.R_tight rfl (Kd.R_mono (ok':=fun k_=>((fun k_=>k_≠tj)) k_∧some k_≠(u7:Value).ownBlock) (Kd.R_types (Kd.R_apart' (tX.out) (Kd.S_typed ZX.out) am) ti.out am) (fun k_ hk=>⟨hk.2,hk.1.2⟩))) (fun _ h_=>h_)))
           (case aB=>exact fc)
           (case aF=>exact(fun k_ hk=>Kd.freshB (g:=tj) (o:=.cells #[.int .i64 ((ao ((aj l0_2 Z7).f2) th).f0),.slice tk ((ao ((aj l0_2 Z7).f2) th).f1).length tl] 50 (0,0)) (pb_ ti) k_ hk))
           (case aO=>exact u137_)
           (case aS=>exact fi)
           (case aL=>have:=u6.out;omega)
           intro wD wM ho hb hg hat;rw[← vl.out] at ho;replace tg:=am_ (bA (g:=tx) (o:=.cells #[.slice A0_0 l0_0.length c0_0,.slice A0_1 l0_1.length c0_1,.slice (some tK) l0_2.length c0_2,.int .i64 a0_3] 27 (0,0)) (pb_ tg) hg (Kd.S_ne ZX.out tg.out am));replace ZS:=am_ (bA (g:=Zc) (o:=.cells #[.string ((aj l0_2 Z7).f0),.string ((aj l0_2 Z7).f1),.slice (some uo) ((aj l0_2 Z7).f2).length Ze] 76 (0,0)) (pb_ ZS) hg (Kd.S_ne ZX.out ZS.out am));replace ti:=am_ (bA (g:=tj) (o:=.cells #[.int .i64 ((ao ((aj l0_2 Z7).f2) th).f0),.slice tk ((ao ((aj l0_2 Z7).f2) th).f1).length tl] 50 (0,0)) (pb_ ti) hg (Kd.S_away ZX.out (fun _ hk=>hk.1)));replace HB:=am_ (hb);have uY:=am_ (ho);clear ZX tX ho hb hg hat;refine hK.out _ _ ⟨bc_ ti 0,bc_ ti 1⟩ (fun hHeld=>?_);clear hK K;refine nm_ ?_;refine pv_ 10 7 ?_;refine dn_ HT_ ?_;try go_wp2
           go_roundg k3
           case measure=>have:=HK1.out;have:=ui.out;have:=HK3.out;omega
           case rel=>exact⟨(wd),(wrap64 (th+1)),u3_,H',⟨by have:=HK1.out;have:=ui.out;have:=HK3.out;omega⟩,⟨by(with_reducible repeat (first | apply Kd.S_alloc | apply Kd.S_drewN | apply Kd.S_drew));exact Kd.S_mono uY.out (fun _ hk=>trivial)⟩,⟨pb_ tg⟩,⟨pb_ ZS⟩,⟨bw_ HB⟩⟩
          ·rw[if_neg uU] at H;have vn:=decide_eq_false uU;clear uU;have H':=am_ H;clear H;go_wp2;go_roundg k3
           case measure=>have:=HK1.out;have:=ui.out;have:=HK3.out;omega
           case rel=>exact⟨(tI),(wrap64 (Z7+1)),u3_,H',⟨by have:=HK1.out;have:=ui.out;have:=HK3.out;omega⟩,⟨aS_ ZX.out⟩,⟨pb_ tg⟩,⟨bw_ HB⟩⟩
       ·replace H:=ht_ H;have H':=am_ H;clear H;go_wp2;go_roundg uP
        case measure=>have:=HK1.out;have:=ui.out;omega
        case rel=>exact⟨(tW),(wrap64 (Z7+1)),u3_,H',⟨by have:=HK1.out;have:=ui.out;omega⟩,⟨aS_ ZX.out⟩,⟨pb_ tg⟩,⟨bw_ HB⟩⟩
    ·rw[if_neg uI] at H;have uq:=decide_eq_false uI;clear uI;obtain rfl:=si_ H;go_wp2;go_ret
     exact⟨_,u1_,aS_ ZX.out,bw_ HB⟩
def IsS114 (w0 W:World) (g:Nat) (f0:List Int) (f1:Int):Prop:=∃A0 c0,W.heap[g]? = some (.cells #[.slice A0 f0.length c0,.int .i64 f1] 114 (0,0))∧w0.heap.size≤g∧Kd.C (Kd.int .u8) w0 A0 f0.length f0
theorem IsS114.grown {w0 W:World} {g:Nat} {f0:List Int} {f1:Int} {W1:World} {row:Option Nat} (h:IsS114 w0 W g f0 f1) (hw:W.grownBy W1 row) (hne:some g≠row):IsS114 w0 W1 g f0 f1:=by
 obtain⟨A0,c0,hb,hg,hr0⟩:=h;exact⟨A0,c0,bA hb hw hne,hg,hr0⟩
theorem IsS114.own_neN {w0 W:World} {g:Nat} {f0:List Int} {f1:Int} {α : Type} {d:Kd α} {e:Nat} {base:Nat} {ok:Nat→Prop} {v:Value} {xs:List α} (h:IsS114 w0 W g f0 f1) (ho:Kd.N d e W base ok v xs) (ht:e≠114):some g≠v.ownBlock:=by
 obtain⟨A0,c0,hb,hg,hr0⟩:=h;exact Kd.N_ne ho hb ht
theorem IsS114.fresh {w0 W:World} {g:Nat} {f0:List Int} {f1:Int} (h:IsS114 w0 W g f0 f1):∀k,W.heap.size≤k→k≠g:=by
 obtain⟨A0,c0,hb,hg,hr0⟩:=h;exact Kd.freshB hb
theorem IsS114.kept {w0 W:World} {g:Nat} {f0:List Int} {f1:Int} {W1:World} {S:Nat→Prop} (h:IsS114 w0 W g f0 f1) (hk:Kept W W1 S) (hne:¬S g):IsS114 w0 W1 g f0 f1:=by
 obtain⟨A0,c0,hb,hg,hr0⟩:=h;exact⟨A0,c0,fE hb hk hne,hg,hr0⟩
theorem IsS114.below {w0 W:World} {g:Nat} {f0:List Int} {f1:Int} {W1:World} (h:IsS114 w0 W g f0 f1) (hw:Below W.heap.size W W1):IsS114 w0 W1 g f0 f1:=h.grown (gW hw none) bb
theorem IsS114.alloc {w0 W:World} {g:Nat} {f0:List Int} {f1:Int} (h:IsS114 w0 W g f0 f1) (o:Obj):IsS114 w0 (W.alloc o) g f0 f1:=h.below (aE (Below.refl _ _) o)
theorem IsS114.drewN {w0 W:World} {g:Nat} {f0:List Int} {f1:Int} (h:IsS114 w0 W g f0 f1) (m:Nat):IsS114 w0 (W.drewN m) g f0 f1:=h
theorem IsS114.drew {w0 W:World} {g:Nat} {f0:List Int} {f1:Int} (h:IsS114 w0 W g f0 f1):IsS114 w0 W.drew g f0 f1:=h
theorem IsS114.at_ {w0 W:World} {g:Nat} {f0:List Int} {f1:Int} {w':World} {m:Nat} (hq:W.drewN m=w') (h:IsS114 w0 W g f0 f1):IsS114 w0 w' g f0 f1:=by subst hq;exact IsS114.drewN h m
theorem IsS114.apart {w0 W:World} {g:Nat} {f0:List Int} {f1:Int} {α : Type} {d:Kd α} {e:Nat} {base:Nat} {ok:Nat→Prop} {v:Value} {xs:List α} (h:IsS114 w0 W g f0 f1) (ho:d.R e W base ok v xs) (ht:∀q,q∈e :: d.E→q≠114):d.R e W base (fun k=>ok k∧k≠g) v xs:=by
 obtain⟨A0,c0,hb,hg,hr0⟩:=h;exact Kd.R_types ho hb ht
theorem IsS114.own_ne {w0 W:World} {g:Nat} {f0:List Int} {f1:Int} {α : Type} {d:Kd α} {e:Nat} {base:Nat} {ok:Nat→Prop} {v:Value} {xs:List α} (h:IsS114 w0 W g f0 f1) (ho:d.R e W base ok v xs) (ht:e≠114):some g≠v.ownBlock:=by
 obtain⟨A0,c0,hb,hg,hr0⟩:=h;exact Kd.R_ne ho hb ht
theorem IsS114.apartQ {w0 W:World} {g:Nat} {f0:List Int} {f1:Int} {α : Type} {d:Kd α} {e:Nat} {base:Nat} {ok:Nat→Prop} {v:Value} {xs:List α} (h:IsS114 w0 W g f0 f1) (ho:d.Q e W base ok v xs) (ht:∀q,q∈e :: d.E→q≠114):d.Q e W base (fun k=>ok k∧k≠g) v xs:=by
 obtain⟨A0,c0,hb,hg,hr0⟩:=h;exact Kd.Q_types ho hb ht
theorem IsS114.own_neQ {w0 W:World} {g:Nat} {f0:List Int} {f1:Int} {α : Type} {d:Kd α} {e:Nat} {base:Nat} {ok:Nat→Prop} {v:Value} {xs:List α} (h:IsS114 w0 W g f0 f1) (ho:d.Q e W base ok v xs) (ht:e≠114):some g≠v.ownBlock:=by
 obtain⟨A0,c0,hb,hg,hr0⟩:=h;exact Kd.Q_ne ho hb ht
theorem IsS114.apartS {w0 W:World} {g:Nat} {f0:List Int} {f1:Int} {α : Type} {d:Kd α} {e:Nat} {base:Nat} {ok:Nat→Prop} {v:Value} {xs:List α} (h:IsS114 w0 W g f0 f1) (ho:d.S e W base ok v xs) (ht:∀q,q∈e :: d.E→q≠114):d.S e W base (fun k=>ok k∧k≠g) v xs:=by
 obtain⟨A0,c0,hb,hg,hr0⟩:=h;exact Kd.S_types ho hb ht
theorem IsS114.own_neS {w0 W:World} {g:Nat} {f0:List Int} {f1:Int} {α : Type} {d:Kd α} {e:Nat} {base:Nat} {ok:Nat→Prop} {v:Value} {xs:List α} (h:IsS114 w0 W g f0 f1) (ho:d.S e W base ok v xs) (ht:e≠114):some g≠v.ownBlock:=by
 obtain⟨A0,c0,hb,hg,hr0⟩:=h;exact Kd.S_ne ho hb ht
theorem IsS114.lt {w0 W:World} {g:Nat} {f0:List Int} {f1:Int} (h:IsS114 w0 W g f0 f1):g<W.heap.size:=by
 obtain⟨A0,c0,hb,hg,hr0⟩:=h;exact dI hb
theorem IsS114.ge {w0 W:World} {g:Nat} {f0:List Int} {f1:Int} (h:IsS114 w0 W g f0 f1):w0.heap.size≤g:=by
 obtain⟨A0,c0,hb,hg,hr0⟩:=h;exact hg
theorem IsS114.ne_blk {w0 W:World} {g:Nat} {f0:List Int} {f1:Int} {a:Nat} {cs:Array Value} {t:TypeId} {fr:Nat × Nat} (h:IsS114 w0 W g f0 f1) (hb2:W.heap[a]? = some (.cells cs t fr)) (ht:t≠114):g≠a:=by
 obtain⟨A0,c0,hb,hg,hr0⟩:=h;rintro rfl;rw[hb] at hb2;injection hb2 with hb2
 injection hb2 with _ ht2
 exact ht ht2.symm
theorem IsS114.far {w0 W:World} {g:Nat} {f0:List Int} {f1:Int} {p:Addr} (h:IsS114 w0 W g f0 f1) (hne:g≠p.block) (u:Value):IsS114 w0 (W.setCell p u) g f0 f1:=by
 obtain⟨A0,c0,hb,hg,hr0⟩:=h;exact⟨A0,c0,lg hb hne u,hg,hr0⟩
theorem gE {W:World} {g:Nat} {A0:Option Addr} {c0:Nat} {f0:List Int} {f1:Int} (h:W.heap[g]? = some (.cells #[.slice A0 f0.length c0,.int .i64 f1] 114 (0,0))):W.cell? ⟨g,0,none⟩=some (.slice A0 f0.length c0):=(aV h 0).trans rfl
theorem gA {W:World} {g:Nat} {A0:Option Addr} {c0:Nat} {f0:List Int} {f1:Int} (h:W.heap[g]? = some (.cells #[.slice A0 f0.length c0,.int .i64 f1] 114 (0,0))):W.cell? ⟨g,1,none⟩=some (.int .i64 f1):=(aV h 1).trans rfl
theorem IsS114.set_1 {w0 W:World} {g:Nat} {f0:List Int} {f1:Int} (h:IsS114 w0 W g f0 f1) (x:Int):IsS114 w0 (W.setCell ⟨g,1,none⟩ (.int .i64 x)) g f0 x:=by
 obtain⟨A0,c0,hb,hg,hr0⟩:=h;exact⟨A0,c0,by simpa using oL hb 1 (.int .i64 x),hg,hr0⟩
theorem IsS114.new (w0 W:World) (A0:Option Addr) (c0:Nat) (f0:List Int) (f1:Int) (hB:Below w0.heap.size w0 W) (hr0:Kd.C (Kd.int .u8) w0 A0 f0.length f0):IsS114 w0 (W.alloc (.cells #[.slice A0 f0.length c0,.int .i64 f1] 114)) W.heap.size f0 f1:=⟨A0,c0,by simpa using heap_alloc_new W _,hB.size,hr0⟩
def en.f (l0:List Int):Option (List Int × Int):=if(l0.length:Int)>2000 then(if 2000≤(l0.length:Int) then(some (l0.take 2000,0)) else(none)) else(some (l0,0))
theorem en.calls (A0:Option Addr) (c0:Nat) (l0:List Int) (r1:List Int) (r2:Int) (w0 w:World) (hB:Below w0.heap.size w0 w) (hr0:Kd.C (Kd.int .u8) w0 A0 l0.length l0) (hc0:l0.length≤c0) (h:en.f l0=some (r1,r2)) :
  Calls Tryz.prog 39 #[.slice A0 l0.length c0] w fun e w'=>∃g_:Nat,e = .returned (.pointer (some ⟨g_,0,none⟩))∧IsS114 w0 w' g_ r1 r2∧Below w0.heap.size w0 w'∧Below w.heap.size w w':=by
 have hu114:=Tryz.underlying114;have ZI:=am_ hr0;have tz:=am_ hc0;clear hr0 hc0;have HBW:=am_ (Below.refl w.heap.size w);have HW0:=am_ hB.size;have HB:=am_ hB;clear hB;have H:=h;clear h;unfold en.f at H
 by_cases c2:(l0.length:Int)>2000
 ·rw[if_pos c2] at H;have tv:decide (2000<(l0.length:Int))=true:=decide_eq_true c2;have tw:decide (2000<l0.length)=true:=decide_eq_true au;clear c2;obtain⟨tA,tB,H⟩:=ge_ H;simp only[Option.some.injEq,Prod.mk.injEq] at H;obtain⟨rfl,rfl⟩:=H;obtain⟨i04,tu,_,hsz4,_⟩:=info_parts info5;obtain⟨hcut4,hA4,hC4⟩:=mM (P:=Tryz.prog) (Value.int .u8) 0 22 5 .i64 Tryz.underlying22 tu hsz4 A0 c0 l0 2000 au (od_) tz.out;have tq:=am_ (Kd.C_of_reads (h1:=fun _=>rfl) (hA4 _ (Kd.reads_of_C ZI.out)));have tx:=am_ hC4;clear hA4 hC4 tu hsz4;go_enter Tryz.func39,Tryz.ntmps39
  go_wp2_with (first | ((with_reducible refine gt_ 10 ?_);refine bx_ 10 #[.slice A0 (l0.take 2000).length c0,.int .i64 0] 114 ?_;intro tg hg w5 hbox hb;replace HB:=bs_ HB hb;have ti:=am_ (hbox);have tm:=Ge.mk ((by rw[hg];exact(av u79_):w.heap.size≤tg));have tk:=Ge.mk ((Nat.le_trans HW0.out (by rw[hg];exact(av u79_):w.heap.size≤tg):w0.heap.size≤tg));replace HBW:=am_ (aw HBW.out hb);clear hb hbox hg))
  go_ret
  exact⟨_,rfl,(show IsS114 w0 _ tg (l0.take 2000) 0 from ⟨_,_,pb_ ti,tk.out,tq.out⟩),bw_ HB,by repeat (first | (with_reducible first | exact HBW.out | apply aE | apply al | apply az | refine aN ?_ tm.out) | exact HBW.out)⟩
 ·rw[if_neg c2] at H;have tv:decide (2000<(l0.length:Int))=false:=decide_eq_false c2;have tw:decide (2000<l0.length)=false:=decide_eq_false au;clear c2;simp only[Option.some.injEq,Prod.mk.injEq] at H;obtain⟨rfl,rfl⟩:=H;go_enter Tryz.func39,Tryz.ntmps39
  go_wp2_with (first | ((with_reducible refine gt_ 10 ?_);refine bx_ 10 #[.slice A0 l0.length c0,.int .i64 0] 114 ?_;intro th hg w6 hbox hb;replace HB:=bs_ HB hb;have tj:=am_ (hbox);have tn:=Ge.mk ((by rw[hg];exact(av u79_):w.heap.size≤th));have tl:=Ge.mk ((Nat.le_trans HW0.out (by rw[hg];exact(av u79_):w.heap.size≤th):w0.heap.size≤th));replace HBW:=am_ (aw HBW.out hb);clear hb hbox hg))
  go_ret
  exact⟨_,rfl,(show IsS114 w0 _ th l0 0 from ⟨_,_,pb_ tj,tl.out,ZI.out⟩),bw_ HB,by repeat (first | (with_reducible first | exact HBW.out | apply aE | apply al | apply az | refine aN ?_ tn.out) | exact HBW.out)⟩
def ac.j0:Nat→Int→Bool→List Int→Int→Option (Int × Int)
 | 0,_,_,_,_=>none
 | k+1,x1,ti,tg,th=>if ti=true then(some (0,th)) else(if(wrap64 (th - 1))<(tg.length:Int) then(if 0≤(wrap64 (th - 1)) then(if x1=0 then(none) else(some (Int.tmod (wrap64 (rd tg (wrap64 (th - 1)))) x1,th))) else(none)) else(if(tg.length:Int)=0 then(none) else(if 0≤(Int.tmod (wrap64 (th - 1)) (tg.length:Int)) then(if(Int.tmod (wrap64 (th - 1)) (tg.length:Int))<(tg.length:Int) then(if 0≤(Int.tmod (wrap64 ((wrap64 ((wrap64 (th - 1))*7))+3)) (tg.length:Int)) then(if(Int.tmod (wrap64 ((wrap64 ((wrap64 (th - 1))*7))+3)) (tg.length:Int))<(tg.length:Int) then(if x1=0 then(none) else(some (Int.tmod (Go.bits .xor .i64 (wrap64 ((wrap64 ((wrap64 ((wrap64 ((wrap64 (rd tg (Int.tmod (wrap64 (th - 1)) (tg.length:Int))))*131))+(wrap64 ((wrap64 (rd tg (Int.tmod (wrap64 ((wrap64 ((wrap64 (th - 1))*7))+3)) (tg.length:Int))))*1117))))+(wrap64 ((wrap64 (th - 1))*29))))+(wrap64 ((wrap64 (Int.tdiv (wrap64 (th - 1)) (tg.length:Int)))*53)))) (wrap64 (Int.tdiv (wrap64 ((wrap64 ((wrap64 ((wrap64 ((wrap64 (rd tg (Int.tmod (wrap64 (th - 1)) (tg.length:Int))))*131))+(wrap64 ((wrap64 (rd tg (Int.tmod (wrap64 ((wrap64 ((wrap64 (th - 1))*7))+3)) (tg.length:Int))))*1117))))+(wrap64 ((wrap64 (th - 1))*29))))+(wrap64 ((wrap64 (Int.tdiv (wrap64 (th - 1)) (tg.length:Int)))*53)))) 64))) x1,th))) else(none)) else(none)) else(none)) else(none))))
def ac.f (k:Nat) (s0_0:List Int) (s0_1:Int) (a1:Int):Option (Int × Int):=if a1<1 then(ac.j0 k a1 true s0_0 (wrap64 (s0_1+1))) else(ac.j0 k a1 ((s0_0.length:Int) == 0) s0_0 (wrap64 (s0_1+1)))
theorem ac.calls (k:Nat) (g:Nat) (s0_0:List Int) (s0_1:Int) (a1:Int) (r1:Int) (r2:Int) (w0 w:World) (hI:IsS114 w0 w g s0_0 s0_1) (hB:Below w0.heap.size w0 w) (h:ac.f k s0_0 s0_1 a1=some (r1,r2)) :
  Calls Tryz.prog 85 #[.pointer (some ⟨g,0,none⟩),.int .i64 a1] w fun e w'=>e = .returned (.int .i64 r1)∧IsS114 w0 w' g s0_0 r2∧Below w0.heap.size w0 w'∧KeepBut w w' g none:=by
 have HI0:=am_ hI;have HK:=am_ (KeepBut.refl w g none);have HL:=am_ hB.size;clear hI;have HW0:=am_ hB.size;have HB:=am_ hB;clear hB;have H:=h;clear h;unfold ac.f at H
 have tJ:=am_ H;clear H;obtain⟨ASz4_0,cSz4_0,HGz4,hgz4,HSz4_0⟩:=HI0.out;have tv:=gE HGz4;have tw:=gA HGz4;have tx:=cy HGz4 1;clear HGz4 hgz4;go_enter Tryz.func85,Tryz.ntmps85
 go_upto_region 2 with (fail)
 repeat (go_quiet (fail);go_upto_region 2 with (fail))
 go_cut [24] (fun uj wc=>∃(kq:Nat) (tk:Bool),uj = .bool tk∧aa (ac.j0 kq a1 tk s0_0 (wrap64 (s0_1+1))=some (r1,r2))∧aa (kq≤k)∧aa (IsS114 w0 wc g s0_0 (wrap64 (s0_1+1)))∧aa (KeepBut w wc g none)∧aa (Below w0.heap.size w0 wc))
 case first=>
  have H:=tJ.out;clear tJ;by_cases c5:a1<1
  ·rw[if_pos c5] at H;have tm:=decide_eq_true c5;clear c5;(first | rw[tm] | (simp only[aC,aG];rw[tm]) | skip)
   have H':=am_ H;clear H;go_wp2;repeat (go_quiet (fail);try go_wp2)
   go_meet
   case rel=>exact⟨_,(true),u3_,H',⟨iL⟩,⟨u2_⟩,⟨u0_⟩,⟨u4_⟩⟩
  ·rw[if_neg c5] at H;have tm:=decide_eq_false c5;clear c5;(first | rw[tm] | (simp only[aC,aG];rw[tm]) | skip)
   have H':=am_ H;clear H;obtain⟨ASz6_0,cSz6_0,HGz6,hgz6,HSz6_0⟩:=HI0.out;have tO:=gE HGz6;have tP:=gA HGz6;have tQ:=cy HGz6 1;clear HGz6 hgz6;go_wp2;repeat (go_quiet (fail);try go_wp2)
   go_meet
   case rel=>exact⟨_,(((s0_0.length:Int) == 0)),u3_,H',⟨iL⟩,⟨u2_⟩,⟨u0_⟩,⟨u4_⟩⟩
 case rest=>
  clear tJ;try clear tv tw tx
  obtain⟨kq,tk,rfl,HA,YL,HI0,HK,HB⟩:=hcut;cases kq with
  | zero=>exact absurd HA.out (by simp[ac.j0])
  | succ uk=>
   have H:=HA.out;clear HA;simp only[ac.j0] at H;cases tk
   ·replace H:=hf_ H;by_cases c8:(wrap64 ((wrap64 (s0_1+1)) - 1))<(s0_0.length:Int)
    ·rw[if_pos c8] at H;have tB:=decide_eq_true c8;clear c8;obtain⟨tC,tu⟩:∃j_:Int,(wrap64 ((wrap64 (s0_1+1)) - 1))=j_:=⟨_,rfl⟩;replace H:(if 0≤(tC) then(if a1=0 then(none) else(some (Int.tmod (wrap64 (rd s0_0 (tC))) a1,(wrap64 (s0_1+1))))) else(none))=some (r1,r2):=by first | (rw[tu] at H;exact H)|(simp only[tu] at H ⊢;exact H)
     (try rw[tu] at tB)
     have hji9w:(IntKind.i64.wrap ((wrap64 (s0_1+1)) - 1))=tC:=(aC _).trans tu;obtain⟨tS,H⟩:=gd_ H;obtain⟨tT,H⟩:=gm_ H;have tU:=cE tT;have tV:=cG tT;simp only[Option.some.injEq,Prod.mk.injEq] at H;obtain⟨rfl,rfl⟩:=H;obtain⟨ASz12_0,cSz12_0,HGz12,hgz12,HSz12_0⟩:=HI0.out;have tD:=gE HGz12;have tE:=gA HGz12;have tH:=cy HGz12 1;clear HGz12 hgz12;obtain⟨tR,tL,th⟩:=Kd.at_int HSz12_0 (tC) od_ od_;cases tL;replace th:=ah HB.out th;obtain⟨ud,ug⟩:=pt_ (tC) s0_0.length;go_wp2;repeat (go_quiet (fail);try go_wp2)
     go_ret
     exact⟨by first | rfl | (simp[bI,bK] <;> rfl)|(simp only[← tu];first | rfl | (simp[bI,bK] <;> rfl))|(simp[*,bI,bK] <;> rfl)|(simp;exact dD _),u2_,u4_,u0_⟩
    ·rw[if_neg c8] at H;have tB:=decide_eq_false c8;clear c8;obtain⟨tK,H⟩:=gm_ H;have tW:=cE tK;have tX:=cG tK;have tY:¬(s0_0 = []):=fun h_=>tK (by rw[h_];rfl)
     obtain⟨tg,tn⟩:∃j_:Int,(Int.tmod (wrap64 ((wrap64 (s0_1+1)) - 1)) (s0_0.length:Int))=j_:=⟨_,rfl⟩;replace H:(if 0≤(tg) then(if(tg)<(s0_0.length:Int) then(if 0≤(Int.tmod (wrap64 ((wrap64 ((wrap64 ((wrap64 (s0_1+1)) - 1))*7))+3)) (s0_0.length:Int)) then(if(Int.tmod (wrap64 ((wrap64 ((wrap64 ((wrap64 (s0_1+1)) - 1))*7))+3)) (s0_0.length:Int))<(s0_0.length:Int) then(if a1=0 then(none) else(some (Int.tmod (Go.bits .xor .i64 (wrap64 ((wrap64 ((wrap64 ((wrap64 ((wrap64 (rd s0_0 (tg)))*131))+(wrap64 ((wrap64 (rd s0_0 (Int.tmod (wrap64 ((wrap64 ((wrap64 ((wrap64 (s0_1+1)) - 1))*7))+3)) (s0_0.length:Int))))*1117))))+(wrap64 ((wrap64 ((wrap64 (s0_1+1)) - 1))*29))))+(wrap64 ((wrap64 (Int.tdiv (wrap64 ((wrap64 (s0_1+1)) - 1)) (s0_0.length:Int)))*53)))) (wrap64 (Int.tdiv (wrap64 ((wrap64 ((wrap64 ((wrap64 ((wrap64 (rd s0_0 (tg)))*131))+(wrap64 ((wrap64 (rd s0_0 (Int.tmod (wrap64 ((wrap64 ((wrap64 ((wrap64 (s0_1+1)) - 1))*7))+3)) (s0_0.length:Int))))*1117))))+(wrap64 ((wrap64 ((wrap64 (s0_1+1)) - 1))*29))))+(wrap64 ((wrap64 (Int.tdiv (wrap64 ((wrap64 (s0_1+1)) - 1)) (s0_0.length:Int)))*53)))) 64))) a1,(wrap64 (s0_1+1))))) else(none)) else(none)) else(none)) else(none))=some (r1,r2):=by first | (rw[tn] at H;exact H)|(simp only[tn] at H ⊢;exact H)
     obtain⟨tZ,H⟩:=gd_ H;obtain⟨t6,H⟩:=gd_ H;obtain⟨tl,tq⟩:∃j_:Int,(Int.tmod (wrap64 ((wrap64 ((wrap64 ((wrap64 (s0_1+1)) - 1))*7))+3)) (s0_0.length:Int))=j_:=⟨_,rfl⟩;replace H:(if 0≤(tl) then(if(tl)<(s0_0.length:Int) then(if a1=0 then(none) else(some (Int.tmod (Go.bits .xor .i64 (wrap64 ((wrap64 ((wrap64 ((wrap64 ((wrap64 (rd s0_0 (tg)))*131))+(wrap64 ((wrap64 (rd s0_0 (tl)))*1117))))+(wrap64 ((wrap64 ((wrap64 (s0_1+1)) - 1))*29))))+(wrap64 ((wrap64 (Int.tdiv (wrap64 ((wrap64 (s0_1+1)) - 1)) (s0_0.length:Int)))*53)))) (wrap64 (Int.tdiv (wrap64 ((wrap64 ((wrap64 ((wrap64 ((wrap64 (rd s0_0 (tg)))*131))+(wrap64 ((wrap64 (rd s0_0 (tl)))*1117))))+(wrap64 ((wrap64 ((wrap64 (s0_1+1)) - 1))*29))))+(wrap64 ((wrap64 (Int.tdiv (wrap64 ((wrap64 (s0_1+1)) - 1)) (s0_0.length:Int)))*53)))) 64))) a1,(wrap64 (s0_1+1))))) else(none)) else(none))=some (r1,r2):=by first | (rw[tq] at H;exact H)|(simp only[tq] at H ⊢;exact H)
     obtain⟨t7,H⟩:=gd_ H;obtain⟨t8,H⟩:=gd_ H;obtain⟨ua,H⟩:=gm_ H;have ub:=cE ua;have uc:=cG ua;simp only[Option.some.injEq,Prod.mk.injEq] at H;obtain⟨rfl,rfl⟩:=H;obtain⟨ASz21_0,cSz21_0,HGz21,hgz21,HSz21_0⟩:=HI0.out;have tF:=gE HGz21;have tG:=gA HGz21;have tI:=cy HGz21 1;clear HGz21 hgz21;obtain⟨tz,tM,ti⟩:=Kd.at_int HSz21_0 (tg) od_ od_;cases tM;replace ti:=ah HB.out ti;obtain⟨ue,uh⟩:=pt_ (tg) s0_0.length;obtain⟨tA,tN,tj⟩:=Kd.at_int HSz21_0 (tl) od_ od_;obtain rfl:tz=tA:=(by injection tN);replace tj:=ah HB.out tj;obtain⟨uf,ui⟩:=pt_ (tl) s0_0.length;go_wp2;repeat (go_quiet (fail);try go_wp2)
     go_ret
     exact⟨by first | rfl | (simp[bI,bK] <;> rfl)|(simp only[← tn,← tq];first | rfl | (simp[bI,bK] <;> rfl))|(simp[*,bI,bK] <;> rfl)|(simp;exact dD _),u2_,u4_,u0_⟩
   ·replace H:=ht_ H;simp only[Option.some.injEq,Prod.mk.injEq] at H;obtain⟨rfl,rfl⟩:=H;go_wp2;repeat (go_quiet (fail);try go_wp2)
    go_ret
    exact⟨u1_,u2_,u4_,u0_⟩
def dw.f  : Option ((List (S92))):=some (([(⟨(⟨#[116,105,116,108,101]⟩:ByteArray),1,3⟩:S92),(⟨(⟨#[98,111,100,121]⟩:ByteArray),1,1⟩:S92),(⟨(⟨#[112,114,105,99,101]⟩:ByteArray),2,0⟩:S92),(⟨(⟨#[99,111,108,111,114]⟩:ByteArray),3,0⟩:S92)] : List (S92)))
theorem dw.calls  (r:List (S92)) (w:World) (h:dw.f  = some r) :
  Calls Tryz.prog 155 #[] w fun e w'=>∃v0_:Value,e = .returned (v0_)∧Kd.R k92 92 w' w.heap.size (fun _=>True) v0_ r∧Below w.heap.size w w':=by
 have hu92:=Tryz.underlying92;have HB:=am_ (Below.refl w.heap.size w);have H:=h;clear h;unfold dw.f at H
 generalize th:((([(⟨(⟨#[116,105,116,108,101]⟩:ByteArray),1,3⟩:S92),(⟨(⟨#[98,111,100,121]⟩:ByteArray),1,1⟩:S92),(⟨(⟨#[112,114,105,99,101]⟩:ByteArray),2,0⟩:S92),(⟨(⟨#[99,111,108,111,114]⟩:ByteArray),3,0⟩:S92)] : List (S92))):List (S92))=tk at H;have tg:=am_ th.symm;clear th;obtain rfl:=si_ H;go_enter Tryz.func155,Tryz.ntmps155
 go_wp2_with (first | ((with_reducible refine aH (N:=5) rfl ?_);refine Kd.R_lit k92 _ 92 ?hg (N:=5) ?hd (xs:=([(⟨(⟨#[116,105,116,108,101]⟩:ByteArray),1,3⟩:S92),(⟨(⟨#[98,111,100,121]⟩:ByteArray),1,1⟩:S92),(⟨(⟨#[112,114,105,99,101]⟩:ByteArray),2,0⟩:S92),(⟨(⟨#[99,111,108,111,114]⟩:ByteArray),3,0⟩:S92)] : List (S92))) (inner:=[.string (⟨#[116,105,116,108,101]⟩:ByteArray),.int .i64 1,.int .i64 3,.string (⟨#[98,111,100,121]⟩:ByteArray),.int .i64 1,.int .i64 1,.string (⟨#[112,114,105,99,101]⟩:ByteArray),.int .i64 2,.int .i64 0,.string (⟨#[99,111,108,111,114]⟩:ByteArray),.int .i64 3,.int .i64 0]) (ok:=fun _=>True) (okp:=fun _=>True) ?hr ?hp (fun _ hk=>hk) trivial (Below.refl _ _) (Nat.le_refl _) bb ?_;(case hd=>rfl);(case hg=>rfl);(case hr=>exact bM);(case hp=>exact(Reps.c3 (show Kd.M k92 _ _ _ (⟨(⟨#[116,105,116,108,101]⟩:ByteArray),1,3⟩:S92) [.string (⟨#[116,105,116,108,101]⟩:ByteArray),.int .i64 1,.int .i64 3] from (iC _ _ _ (⟨(⟨#[116,105,116,108,101]⟩:ByteArray),1,3⟩:S92) )) (Reps.c3 (show Kd.M k92 _ _ _ (⟨(⟨#[98,111,100,121]⟩:ByteArray),1,1⟩:S92) [.string (⟨#[98,111,100,121]⟩:ByteArray),.int .i64 1,.int .i64 1] from (iC _ _ _ (⟨(⟨#[98,111,100,121]⟩:ByteArray),1,1⟩:S92) )) (Reps.c3 (show Kd.M k92 _ _ _ (⟨(⟨#[112,114,105,99,101]⟩:ByteArray),2,0⟩:S92) [.string (⟨#[112,114,105,99,101]⟩:ByteArray),.int .i64 2,.int .i64 0] from (iC _ _ _ (⟨(⟨#[112,114,105,99,101]⟩:ByteArray),2,0⟩:S92) )) (Reps.c3 (show Kd.M k92 _ _ _ (⟨(⟨#[99,111,108,111,114]⟩:ByteArray),3,0⟩:S92) [.string (⟨#[99,111,108,111,114]⟩:ByteArray),.int .i64 3,.int .i64 0] from (iC _ _ _ (⟨(⟨#[99,111,108,111,114]⟩:ByteArray),3,0⟩:S92) )) (Reps.none _ _))))));intro tj w1 ho2 hb hg_ hnew_;clear hg_ hnew_;(first | rw[← tg.out] at ho2 | (simp only[Int.reduceToNat] at ho2;rw[← tg.out] at ho2));have ti:=am_ (Kd.R_lower ho2 (av (bw_ HB)));replace HB:=bs_ HB hb;clear hb ho2))
 go_ret
 exact⟨_,u1_,aR_ ti.out,bw_ HB⟩
def bY.f (k:Nat) (s0_0:List Int) (s0_1:Int):Option ((List (S92)) × Int):=(dw.f).bind fun th=>((ac.f k s0_0 s0_1 4).bind fun tg=>(if tg.1=0 then(if 1≤(th.length:Int) then(some ((th.take (1:Int).toNat),tg.2)) else(none)) else(if tg.1=1 then(if 1≤(th.length:Int) then(some ((th.drop (1:Int).toNat),tg.2)) else(none)) else(some (th,tg.2)))))
theorem bY.calls (k:Nat) (g:Nat) (s0_0:List Int) (s0_1:Int) (r1:List (S92)) (r2:Int) (w0 w:World) (hI:IsS114 w0 w g s0_0 s0_1) (hB:Below w0.heap.size w0 w) (h:bY.f k s0_0 s0_1=some (r1,r2)) :
  Calls Tryz.prog 126 #[.pointer (some ⟨g,0,none⟩)] w fun e w'=>∃v0_:Value,e = .returned (v0_)∧Kd.Q k92 92 w' w.heap.size (fun _=>True) v0_ r1∧IsS114 w0 w' g s0_0 r2∧Below w0.heap.size w0 w'∧KeepBut w w' g none:=by
 have HI0:=am_ hI;have HK:=am_ (KeepBut.refl w g none);have HL:=am_ hB.size;clear hI;have HW0:=am_ hB.size;have HB:=am_ hB;clear hB;have H:=h;clear h;unfold bY.f at H
 obtain⟨th,A2,H⟩:=bi_ H;obtain⟨⟨tj,tx⟩,A3,H⟩:=bi_ H;dsimp only at H;by_cases c4:tj=0
 ·rw[if_pos c4] at H;have tF:=cP c4;have tG:=cN c4;clear c4;obtain⟨tP,tQ,H⟩:=ge_ H;generalize tu:((th.take (1:Int).toNat):List (S92))=tJ at H;have tm:=am_ tu.symm;clear tu;simp only[Option.some.injEq,Prod.mk.injEq] at H;obtain⟨rfl,rfl⟩:=H;go_enter Tryz.func126,Tryz.ntmps126
  go_wp2_with (first | ((with_reducible refine gt_ 4 ?_);refine gf_ 4 Tryz.func155 (dw.calls  th _ A2.out) ?_;rintro e w6 ⟨tE,rfl,ho0,hb⟩;refine⟨_,rfl,?_⟩;have tg:=am_ (Kd.R_lower ho0 (ak (w:=w) (g:=g) (row:=none) u0_));replace HK:=am_ (KeepBut.trans u0_ (KeepBut.of_below hb g none) (.inl rfl));replace HB:=am_ (aw u4_ hb);replace HI0:=am_ (IsS114.below u2_ hb);(try clear hb);(try clear ho0))|((with_reducible refine gt_ 6 ?_);refine gf_ 6 Tryz.func85 (ac.calls k g s0_0 s0_1 4 tj tx w0 _ ?side1 ?side2 A3.out) ?_;(case side1=>exact eW);(case side2=>exact fb);rintro e w7 ⟨rfl,hi,hb,hk⟩;refine⟨_,rfl,?_⟩;replace tg:=am_ (Kd.R_mono (Kd.R_keep (IsS114.apart (show IsS114 w0 _ g s0_0 s0_1 from u2_) (aR_ tg.out) am) hk (fun _ h=>h.2)) (fun _ h=>h.1));replace HK:=am_ (KeepBut.trans u0_ hk (.inl rfl));replace HB:=am_ (hb);replace HI0:=am_ (hi);(try clear hb);(try clear hk);(try clear hi);obtain⟨Zx,Zy,tR⟩:=Kd.R_slice tg.out;subst tR;have q9:(1:Int)≤((th.length:Int):Int):=od_;obtain⟨i09,tD,_,hsz9,_⟩:=info_parts g6;have hcut9:=nW (P:=Tryz.prog) 23 92 .i64 Tryz.underlying23 tD Zx th.length Zy 1 au q9 (Kd.R_reads' tg.out).2.1;have hr9:=Kd.R_take (m:=(1:Int).toNat) tg.out au;have tO:tJ.length=(1:Int).toNat:=(by rw[tm.out,List.length_take];omega);rw[← tm.out] at hr9;rw[← tO] at hr9 hcut9;clear tO tD hsz9 tg;have tz:=am_ hr9;clear hr9;replace q9:=eq_true q9))
  go_ret
  exact⟨_,by first | rfl | (simp[bI,bK] <;> rfl)|(simp[*,bI,bK] <;> rfl),Kd.Q_of_R (aR_ tz.out),u2_,u4_,u0_⟩
 ·rw[if_neg c4] at H;have tF:=cE c4;have tG:=cG c4;by_cases c10:tj=1
  ·rw[if_pos c10] at H;have tB:=cP c10;have tC:=cN c10;clear c10;obtain⟨tL,tM,H⟩:=ge_ H;generalize tv:((th.drop (1:Int).toNat):List (S92))=tl at H;have tn:=am_ tv.symm;clear tv;simp only[Option.some.injEq,Prod.mk.injEq] at H;obtain⟨rfl,rfl⟩:=H;go_enter Tryz.func126,Tryz.ntmps126
   go_wp2_with (first | ((with_reducible refine gt_ 4 ?_);refine gf_ 4 Tryz.func155 (dw.calls  th _ A2.out) ?_;rintro e tT ⟨tE,rfl,ho0,hb⟩;refine⟨_,rfl,?_⟩;have tg:=am_ (Kd.R_lower ho0 (ak (w:=w) (g:=g) (row:=none) u0_));replace HK:=am_ (KeepBut.trans u0_ (KeepBut.of_below hb g none) (.inl rfl));replace HB:=am_ (aw u4_ hb);replace HI0:=am_ (IsS114.below u2_ hb);(try clear hb);(try clear ho0))|((with_reducible refine gt_ 6 ?_);refine gf_ 6 Tryz.func85 (ac.calls k g s0_0 s0_1 4 tj tx w0 _ ?side1 ?side2 A3.out) ?_;(case side1=>exact eW);(case side2=>exact fb);rintro e tS ⟨rfl,hi,hb,hk⟩;refine⟨_,rfl,?_⟩;replace tg:=am_ (Kd.R_mono (Kd.R_keep (IsS114.apart (show IsS114 w0 _ g s0_0 s0_1 from u2_) (aR_ tg.out) am) hk (fun _ h=>h.2)) (fun _ h=>h.1));replace HK:=am_ (KeepBut.trans u0_ hk (.inl rfl));replace HB:=am_ (hb);replace HI0:=am_ (hi);(try clear hb);(try clear hk);(try clear hi);obtain⟨ti,tk,tH⟩:=Kd.R_slice tg.out;subst tH;have tI:(1:Int)≤((th.length:Int):Int):=od_;obtain⟨i015,tq,_,hsz15,_⟩:=info_parts g6;have hcut15:=g7 (P:=Tryz.prog) 23 92 .i64 Tryz.underlying23 tq 3 hsz15 ti th.length tk 1 au tI;have hr15:=Kd.Q_drop (k:=(1:Int).toNat) (Kd.Q_of_R tg.out) au;obtain⟨tK,hA15⟩:∃A1,A1=(if tk=(1:Int).toNat then ti else(ti:Option Addr).map (·.add ((1:Int).toNat*3))):=⟨_,rfl⟩;obtain⟨tN,hc15⟩:∃c1,c1=tk - (1:Int).toNat:=⟨_,rfl⟩;have tw:tl.length=th.length - (1:Int).toNat:=(by rw[tn.out,List.length_drop]);rw[← tn.out] at hr15;rw[← tw,← hA15,← hc15] at hcut15;replace hr15:Kd.Q k92 92 tS w.heap.size (fun _=>True) (.slice tK tl.length tN) tl:=(by rw[hA15,hc15,tw];exact hr15);have HE15:aa ((Value.slice tK tl.length tN).ownBlock=(.slice ti th.length tk:Value).ownBlock):=⟨by rw[hA15];split <;> (cases (ti:Option Addr) <;> rfl)⟩;clear tw tq hsz15 tg hA15 hc15;have tA:=am_ hr15;clear hr15;replace tI:=eq_true tI))
   go_ret
   exact⟨_,u1_,by(with_reducible repeat (first | apply Kd.Q_alloc | apply Kd.Q_drewN | apply Kd.Q_drew));exact tA.out,u2_,u4_,u0_⟩
  ·rw[if_neg c10] at H;have tB:=cE c10;have tC:=cG c10;simp only[Option.some.injEq,Prod.mk.injEq] at H;obtain⟨rfl,rfl⟩:=H;go_enter Tryz.func126,Tryz.ntmps126
   go_wp2_with (first | ((with_reducible refine gt_ 4 ?_);refine gf_ 4 Tryz.func155 (dw.calls  th _ A2.out) ?_;rintro e tU ⟨tE,rfl,ho0,hb⟩;refine⟨_,rfl,?_⟩;have tg:=am_ (Kd.R_lower ho0 (ak (w:=w) (g:=g) (row:=none) u0_));replace HK:=am_ (KeepBut.trans u0_ (KeepBut.of_below hb g none) (.inl rfl));replace HB:=am_ (aw u4_ hb);replace HI0:=am_ (IsS114.below u2_ hb);(try clear hb);(try clear ho0))|((with_reducible refine gt_ 6 ?_);refine gf_ 6 Tryz.func85 (ac.calls k g s0_0 s0_1 4 tj tx w0 _ ?side1 ?side2 A3.out) ?_;(case side1=>exact eW);(case side2=>exact fb);rintro e tV ⟨rfl,hi,hb,hk⟩;refine⟨_,rfl,?_⟩;replace tg:=am_ (Kd.R_mono (Kd.R_keep (IsS114.apart (show IsS114 w0 _ g s0_0 s0_1 from u2_) (aR_ tg.out) am) hk (fun _ h=>h.2)) (fun _ h=>h.1));replace HK:=am_ (KeepBut.trans u0_ hk (.inl rfl));replace HB:=am_ (hb);replace HI0:=am_ (hi);(try clear hb);(try clear hk);(try clear hi)))
   go_ret
   exact⟨_,by first | rfl | (simp[bI,bK] <;> rfl)|(simp[*,bI,bK] <;> rfl),Kd.Q_of_R (aR_ tg.out),u2_,u4_,u0_⟩
def aX.f (k:Nat) (s0_0:List Int) (s0_1:Int) (l1:List ByteArray):Option (ByteArray × Int):=(ac.f k s0_0 s0_1 (l1.length:Int)).bind fun tg=>(if 0≤tg.1 then(if tg.1<(l1.length:Int) then(some (cZ ByteArray.empty l1 tg.1,tg.2)) else(none)) else(none))
theorem aX.calls (k:Nat) (g:Nat) (s0_0:List Int) (s0_1:Int) (A1:Option Addr) (c1:Nat) (l1:List ByteArray) (r1:ByteArray) (r2:Int) (w0 w:World) (hI:IsS114 w0 w g s0_0 s0_1) (hB:Below w0.heap.size w0 w) (hr1:Kd.C Kd.string w A1 l1.length l1) (hc1:l1.length≤c1) (hf1:∀ad,A1=some ad→0<l1.length→ad.block≠g) (h:aX.f k s0_0 s0_1 l1=some (r1,r2)) :
  Calls Tryz.prog 42 #[.pointer (some ⟨g,0,none⟩),.slice A1 l1.length c1] w fun e w'=>e = .returned (.string r1)∧IsS114 w0 w' g s0_0 r2∧Below w0.heap.size w0 w'∧KeepBut w w' g none:=by
 have Zh:=am_ hr1;have tu:=am_ hc1;clear hr1 hc1;have HI0:=am_ hI;have HK:=am_ (KeepBut.refl w g none);have HL:=am_ hB.size;clear hI;have HW0:=am_ hB.size;have HB:=am_ hB;clear hB;have H:=h;clear h;unfold aX.f at H
 obtain⟨⟨tj,tm⟩,A3,H⟩:=bi_ H;dsimp only at H;obtain⟨tn,H⟩:=gd_ H;obtain⟨tq,H⟩:=gd_ H;simp only[Option.some.injEq,Prod.mk.injEq] at H;obtain⟨rfl,rfl⟩:=H;go_enter Tryz.func42,Tryz.ntmps42
 go_wp2_with (first | ((with_reducible refine gt_ 9 ?_);refine gf_ 9 Tryz.func85 (ac.calls k g s0_0 s0_1 (l1.length:Int) tj tm w0 _ ?side1 ?side2 A3.out) ?_;(case side1=>exact eW);(case side2=>exact fb);rintro e w6 ⟨rfl,hi,hb,hk⟩;refine⟨_,rfl,?_⟩;replace HK:=am_ (KeepBut.trans u0_ hk (.inl rfl));replace HB:=am_ (hb);replace HI0:=am_ (hi);(try clear hb);(try clear hk);(try clear hi);obtain⟨th,ti⟩:=pq_ tj l1.length;obtain⟨tk,tl,tg⟩:=Kd.at_string Zh.out tj th ti;cases tl;replace tg:=iB HK.out tg (by first | (rw[bU];exact hf1 _ rfl au) | exact hf1 _ rfl au | exact hf1 tk rfl au);obtain⟨th,ti⟩:=tt_ th ti))
 go_ret
 exact⟨u1_,u2_,u4_,u0_⟩
def dR.f (k:Nat) (s0_0:List Int) (s0_1:Int):Option (ByteArray × Int):=(aX.f k s0_0 s0_1 (([(⟨#[114,101,100]⟩:ByteArray),(⟨#[82,101,100]⟩:ByteArray),(⟨#[97,112,112,108,101]⟩:ByteArray),(⟨#[97,112,112,108,101,115]⟩:ByteArray),(⟨#[112,105,101]⟩:ByteArray),(⟨#[116,104,101]⟩:ByteArray),(⟨#[111,102]⟩:ByteArray),(⟨#[103,108,97,115,115]⟩:ByteArray),(⟨#[98,117,115]⟩:ByteArray),(⟨#[116,114,101,101]⟩:ByteArray),(⟨#[116,114,101,101,115]⟩:ByteArray),(⟨#[55]⟩:ByteArray),(⟨#[118,101,114,121,108,111,110,103,119,111,114,100,105,110,100,101,101,100]⟩:ByteArray),(⟨#[97]⟩:ByteArray)] : List ByteArray))).bind fun tg=>(some (tg.1,tg.2))
theorem dR.calls (k:Nat) (g:Nat) (s0_0:List Int) (s0_1:Int) (r1:ByteArray) (r2:Int) (w0 w:World) (hI:IsS114 w0 w g s0_0 s0_1) (hB:Below w0.heap.size w0 w) (h:dR.f k s0_0 s0_1=some (r1,r2)) :
  Calls Tryz.prog 48 #[.pointer (some ⟨g,0,none⟩)] w fun e w'=>e = .returned (.string r1)∧IsS114 w0 w' g s0_0 r2∧Below w0.heap.size w0 w'∧KeepBut w w' g none:=by
 have HI0:=am_ hI;have HK:=am_ (KeepBut.refl w g none);have HL:=am_ hB.size;clear hI;have HW0:=am_ hB.size;have HB:=am_ hB;clear hB;have H:=h;clear h;unfold dR.f at H
 generalize ti:((([(⟨#[114,101,100]⟩:ByteArray),(⟨#[82,101,100]⟩:ByteArray),(⟨#[97,112,112,108,101]⟩:ByteArray),(⟨#[97,112,112,108,101,115]⟩:ByteArray),(⟨#[112,105,101]⟩:ByteArray),(⟨#[116,104,101]⟩:ByteArray),(⟨#[111,102]⟩:ByteArray),(⟨#[103,108,97,115,115]⟩:ByteArray),(⟨#[98,117,115]⟩:ByteArray),(⟨#[116,114,101,101]⟩:ByteArray),(⟨#[116,114,101,101,115]⟩:ByteArray),(⟨#[55]⟩:ByteArray),(⟨#[118,101,114,121,108,111,110,103,119,111,114,100,105,110,100,101,101,100]⟩:ByteArray),(⟨#[97]⟩:ByteArray)] : List ByteArray)):List ByteArray)=tl at H;have th:=am_ ti.symm;clear ti;obtain⟨⟨tj,tk⟩,A2,H⟩:=bi_ H;dsimp only at H;simp only[Option.some.injEq,Prod.mk.injEq] at H;obtain⟨rfl,rfl⟩:=H;go_enter Tryz.func48,Tryz.ntmps48
 go_wp2_with (first | ((with_reducible refine aH (N:=4) rfl ?_);refine Kd.R_lit Kd.string _ 9 ?hg (N:=4) ?hd (xs:=([(⟨#[114,101,100]⟩:ByteArray),(⟨#[82,101,100]⟩:ByteArray),(⟨#[97,112,112,108,101]⟩:ByteArray),(⟨#[97,112,112,108,101,115]⟩:ByteArray),(⟨#[112,105,101]⟩:ByteArray),(⟨#[116,104,101]⟩:ByteArray),(⟨#[111,102]⟩:ByteArray),(⟨#[103,108,97,115,115]⟩:ByteArray),(⟨#[98,117,115]⟩:ByteArray),(⟨#[116,114,101,101]⟩:ByteArray),(⟨#[116,114,101,101,115]⟩:ByteArray),(⟨#[55]⟩:ByteArray),(⟨#[118,101,114,121,108,111,110,103,119,111,114,100,105,110,100,101,101,100]⟩:ByteArray),(⟨#[97]⟩:ByteArray)] : List ByteArray)) (inner:=[.string (⟨#[114,101,100]⟩:ByteArray),.string (⟨#[82,101,100]⟩:ByteArray),.string (⟨#[97,112,112,108,101]⟩:ByteArray),.string (⟨#[97,112,112,108,101,115]⟩:ByteArray),.string (⟨#[112,105,101]⟩:ByteArray),.string (⟨#[116,104,101]⟩:ByteArray),.string (⟨#[111,102]⟩:ByteArray),.string (⟨#[103,108,97,115,115]⟩:ByteArray),.string (⟨#[98,117,115]⟩:ByteArray),.string (⟨#[116,114,101,101]⟩:ByteArray),.string (⟨#[116,114,101,101,115]⟩:ByteArray),.string (⟨#[55]⟩:ByteArray),.string (⟨#[118,101,114,121,108,111,110,103,119,111,114,100,105,110,100,101,101,100]⟩:ByteArray),.string (⟨#[97]⟩:ByteArray)]) (ok:=fun _=>True) (okp:=fun _=>True) ?hr ?hp (fun _ hk=>hk) trivial (Below.refl _ _) (Nat.le_refl _) bb ?_;(case hd=>rfl);(case hg=>rfl);(case hr=>exact bM);(case hp=>exact(Reps.one (show Kd.M Kd.string _ _ _ (⟨#[114,101,100]⟩:ByteArray) [.string (⟨#[114,101,100]⟩:ByteArray)] from rfl) (Reps.one (show Kd.M Kd.string _ _ _ (⟨#[82,101,100]⟩:ByteArray) [.string (⟨#[82,101,100]⟩:ByteArray)] from rfl) (Reps.one (show Kd.M Kd.string _ _ _ (⟨#[97,112,112,108,101]⟩:ByteArray) [.string (⟨#[97,112,112,108,101]⟩:ByteArray)] from rfl) (Reps.one (show Kd.M Kd.string _ _ _ (⟨#[97,112,112,108,101,115]⟩:ByteArray) [.string (⟨#[97,112,112,108,101,115]⟩:ByteArray)] from rfl) (Reps.one (show Kd.M Kd.string _ _ _ (⟨#[112,105,101]⟩:ByteArray) [.string (⟨#[112,105,101]⟩:ByteArray)] from rfl) (Reps.one (show Kd.M Kd.string _ _ _ (⟨#[116,104,101]⟩:ByteArray) [.string (⟨#[116,104,101]⟩:ByteArray)] from rfl) (Reps.one (show Kd.M Kd.string _ _ _ (⟨#[111,102]⟩:ByteArray) [.string (⟨#[111,102]⟩:ByteArray)] from rfl) (Reps.one (show Kd.M Kd.string _ _ _ (⟨#[103,108,97,115,115]⟩:ByteArray) [.string (⟨#[103,108,97,115,115]⟩:ByteArray)] from rfl) (Reps.one (show Kd.M Kd.string _ _ _ (⟨#[98,117,115]⟩:ByteArray) [.string (⟨#[98,117,115]⟩:ByteArray)] from rfl) (Reps.one (show Kd.M Kd.string _ _ _ (⟨#[116,114,101,101]⟩:ByteArray) [.string (⟨#[116,114,101,101]⟩:ByteArray)] from rfl) (Reps.one (show Kd.M Kd.string _ _ _ (⟨#[116,114,101,101,115]⟩:ByteArray) [.string (⟨#[116,114,101,101,115]⟩:ByteArray)] from rfl) (Reps.one (show Kd.M Kd.string _ _ _ (⟨#[55]⟩:ByteArray) [.string (⟨#[55]⟩:ByteArray)] from rfl) (Reps.one (show Kd.M Kd.string _ _ _ (⟨#[118,101,114,121,108,111,110,103,119,111,114,100,105,110,100,101,101,100]⟩:ByteArray) [.string (⟨#[118,101,114,121,108,111,110,103,119,111,114,100,105,110,100,101,101,100]⟩:ByteArray)] from rfl) (Reps.one (show Kd.M Kd.string _ _ _ (⟨#[97]⟩:ByteArray) [.string (⟨#[97]⟩:ByteArray)] from rfl) (Reps.none _ _))))))))))))))));intro tn w3 ho4 hb hg_ hnew_;clear hg_ hnew_;(first | rw[← th.out] at ho4 | (simp only[Int.reduceToNat] at ho4;rw[← th.out] at ho4));have tg:=am_ (Kd.R_lower ho4 (ak (w:=w) (g:=g) (row:=none) u0_));replace HK:=am_ (KeepBut.trans u0_ (KeepBut.of_below hb g none) (.inl rfl));replace HB:=am_ (aw u4_ hb);replace HI0:=am_ (IsS114.below u2_ hb);clear hb ho4;obtain⟨tq,tu,tm⟩:=Kd.R_slice tg.out;subst tm)|((with_reducible refine gt_ 5 ?_);refine gf_ 5 Tryz.func42 (aX.calls k g s0_0 s0_1 _ _ tl tj tk w0 _ ?side1 ?side2 (kR_ tg) ?side4 ?side5 A2.out) ?_;(case side1=>exact eW);(case side2=>exact fb);(case side4=>exact(Kd.R_reads' tg.out).2.1);(case side5=>exact dG (IsS114.own_ne HI0.out tg.out am));rintro e w6 ⟨rfl,hi,hb,hk⟩;refine⟨_,rfl,?_⟩;replace HK:=am_ (KeepBut.trans u0_ hk (.inl rfl));replace HB:=am_ (hb);replace HI0:=am_ (hi);(try clear hb);(try clear hk);(try clear hi)))
 go_ret
 exact⟨u1_,u2_,u4_,u0_⟩
def bH.l0:Nat→ByteArray→Int→List Int→Int→Option (ByteArray × Int)
 | 0,_,_,_,_=>none
 | k+1,x3,x4,ti,tj=>if x4>0 then((dR.f k ti tj).bind fun tg=>(if x3.size+tg.1.size≤9223372036854775807 then((aX.f k ti tg.2 (([(⟨#[32]⟩:ByteArray),(⟨#[44,32]⟩:ByteArray),(⟨#[45]⟩:ByteArray),(⟨#[32]⟩:ByteArray),(⟨#[46]⟩:ByteArray)] : List ByteArray))).bind fun th=>(if(x3 ++ tg.1).size+th.1.size≤9223372036854775807 then(bH.l0 k ((x3 ++ tg.1) ++ th.1) (wrap64 (x4 - 1)) ti th.2) else(none))) else(none))) else(some (x3,tj))
def bH.f (k:Nat) (s0_0:List Int) (s0_1:Int):Option (ByteArray × Int):=(ac.f k s0_0 s0_1 6).bind fun tg=>(bH.l0 k (⟨#[]⟩:ByteArray) tg.1 s0_0 tg.2)
theorem bH.calls (k:Nat) (g:Nat) (s0_0:List Int) (s0_1:Int) (r1:ByteArray) (r2:Int) (w0 w:World) (hI:IsS114 w0 w g s0_0 s0_1) (hB:Below w0.heap.size w0 w) (h:bH.f k s0_0 s0_1=some (r1,r2)) :
  Calls Tryz.prog 156 #[.pointer (some ⟨g,0,none⟩)] w fun e w'=>e = .returned (.string r1)∧IsS114 w0 w' g s0_0 r2∧Below w0.heap.size w0 w'∧KeepBut w w' g none:=by
 have HI0:=am_ hI;have HK:=am_ (KeepBut.refl w g none);have HL:=am_ hB.size;clear hI;have HW0:=am_ hB.size;have HB:=am_ hB;clear hB;have H:=h;clear h;unfold bH.f at H
 obtain⟨⟨tv,tw⟩,A2,H⟩:=bi_ H;dsimp only at H;have H':=am_ H;clear H;go_enter Tryz.func156,Tryz.ntmps156
 go_wp2_with (first | ((with_reducible refine gt_ 6 ?_);refine gf_ 6 Tryz.func85 (ac.calls k g s0_0 s0_1 6 tv tw w0 _ ?side1 ?side2 A2.out) ?_;(case side1=>exact eW);(case side2=>exact fb);rintro e w3 ⟨rfl,hi,hb,hk⟩;refine⟨_,rfl,?_⟩;replace HK:=am_ (KeepBut.trans u0_ hk (.inl rfl));replace HB:=am_ (hb);replace HI0:=am_ (hi);(try clear hb);(try clear hk);(try clear hi)))
 go_loopg [3,4] k (fun kq v3 v4 w'=>∃(tj:ByteArray) (th:Int) (tg:Int),v3 = .string tj∧v4 = .int .i64 th∧aa (bH.l0 kq tj th s0_0 tg=some (r1,r2))∧aa (kq≤k)∧aa (IsS114 w0 w' g s0_0 tg)∧aa (KeepBut w w' g none)∧aa (Below w0.heap.size w0 w'))
 case atStart=>exact⟨((⟨#[]⟩:ByteArray)),(tv),(tw),u3_,u3_,H',⟨Nat.le_refl _⟩,⟨u2_⟩,⟨u0_⟩,⟨u4_⟩⟩
 case round=>
  clear H';obtain⟨tj,th,tg,rfl,rfl,HA,HK1,HI0,HK,HB⟩:=hrel;cases gk with
  | zero=>exact absurd HA.out (by simp[bH.l0])
  | succ k1=>
   have H:=HA.out;clear HA;simp only[bH.l0] at H;by_cases c4:th>0
   ·rw[if_pos c4] at H;have tA:decide (0<th)=true:=decide_eq_true c4;clear c4;obtain⟨⟨tm,tx⟩,A5,H⟩:=bi_ H;dsimp only at H;obtain⟨c6,H⟩:=gn_ H;have tE:=eq_true c6;have tF:=decide_eq_true c6;try have tG:(9223372036854775807<tj.size+tm.size)=False:=eq_false (Nat.not_lt.2 c6)
    generalize tq:((([(⟨#[32]⟩:ByteArray),(⟨#[44,32]⟩:ByteArray),(⟨#[45]⟩:ByteArray),(⟨#[32]⟩:ByteArray),(⟨#[46]⟩:ByteArray)] : List ByteArray)):List ByteArray)=tC at H;have tn:=am_ tq.symm;clear tq;obtain⟨⟨tu,tz⟩,A7,H⟩:=bi_ H;dsimp only at H;obtain⟨c8,H⟩:=gn_ H;have tH:=eq_true c8;have tI:=decide_eq_true c8;try have tJ:(9223372036854775807<(tj ++ tm).size+tu.size)=False:=eq_false (Nat.not_lt.2 c8)
    try have tk:=c8;try simp only[ByteArray.size_append,sp,List.size_toArray,List.length_cons,List.length_nil,Nat.zero_add,Nat.reduceAdd] at tk;try have tK:=eq_true tk;try have tL:=decide_eq_true tk;try have tM:=eq_false (Nat.not_lt.2 tk)
    try have tl:=tk;try simp at tl;try have tN:=eq_true tl;try have tO:=decide_eq_true tl;try have c8bA:=eq_false (Nat.not_lt.2 tl)
    have H':=am_ H;clear H;go_wp2_with (first | ((with_reducible refine gt_ 13 ?_);refine gf_ 13 Tryz.func48 (dR.calls k1 g s0_0 tg tm tx w0 _ ?side1 ?side2 A5.out) ?_;(case side1=>exact eW);(case side2=>exact fb);rintro e w9 ⟨rfl,hi,hb,hk⟩;refine⟨_,rfl,?_⟩;replace HK:=am_ (KeepBut.trans u0_ hk (.inl rfl));replace HB:=am_ (hb);replace HI0:=am_ (hi);(try clear hb);(try clear hk);(try clear hi))|((with_reducible refine aH (N:=16) rfl ?_);refine Kd.R_lit Kd.string _ 9 ?hg (N:=16) ?hd (xs:=([(⟨#[32]⟩:ByteArray),(⟨#[44,32]⟩:ByteArray),(⟨#[45]⟩:ByteArray),(⟨#[32]⟩:ByteArray),(⟨#[46]⟩:ByteArray)] : List ByteArray)) (inner:=[.string (⟨#[32]⟩:ByteArray),.string (⟨#[44,32]⟩:ByteArray),.string (⟨#[45]⟩:ByteArray),.string (⟨#[32]⟩:ByteArray),.string (⟨#[46]⟩:ByteArray)]) (ok:=fun _=>True) (okp:=fun _=>True) ?hr ?hp (fun _ hk=>hk) trivial (Below.refl _ _) (Nat.le_refl _) bb ?_;(case hd=>rfl);(case hg=>rfl);(case hr=>exact bM);(case hp=>exact(Reps.one (show Kd.M Kd.string _ _ _ (⟨#[32]⟩:ByteArray) [.string (⟨#[32]⟩:ByteArray)] from rfl) (Reps.one (show Kd.M Kd.string _ _ _ (⟨#[44,32]⟩:ByteArray) [.string (⟨#[44,32]⟩:ByteArray)] from rfl) (Reps.one (show Kd.M Kd.string _ _ _ (⟨#[45]⟩:ByteArray) [.string (⟨#[45]⟩:ByteArray)] from rfl) (Reps.one (show Kd.M Kd.string _ _ _ (⟨#[32]⟩:ByteArray) [.string (⟨#[32]⟩:ByteArray)] from rfl) (Reps.one (show Kd.M Kd.string _ _ _ (⟨#[46]⟩:ByteArray) [.string (⟨#[46]⟩:ByteArray)] from rfl) (Reps.none _ _)))))));intro tQ tR ho11 hb hg_ hnew_;clear hg_ hnew_;(first | rw[← tn.out] at ho11 | (simp only[Int.reduceToNat] at ho11;rw[← tn.out] at ho11));have ti:=am_ (Kd.R_lower ho11 (ak (w:=w) (g:=g) (row:=none) u0_));replace HK:=am_ (KeepBut.trans u0_ (KeepBut.of_below hb g none) (.inl rfl));replace HB:=am_ (aw u4_ hb);replace HI0:=am_ (IsS114.below u2_ hb);clear hb ho11;obtain⟨tD,tP,tB⟩:=Kd.R_slice ti.out;subst tB)|((with_reducible refine gt_ 17 ?_);refine gf_ 17 Tryz.func42 (aX.calls k1 g s0_0 tx _ _ tC tu tz w0 _ ?side1 ?side2 (kR_ ti) ?side4 ?side5 A7.out) ?_;(case side1=>exact eW);(case side2=>exact fb);(case side4=>exact(Kd.R_reads' ti.out).2.1);(case side5=>exact dG (IsS114.own_ne HI0.out ti.out am));rintro e tS ⟨rfl,hi,hb,hk⟩;refine⟨_,rfl,?_⟩;replace HK:=am_ (KeepBut.trans u0_ hk (.inl rfl));replace HB:=am_ (hb);replace HI0:=am_ (hi);(try clear hb);(try clear hk);(try clear hi)))
    go_roundg k1
    case measure=>have:=HK1.out;omega
    case rel=>exact⟨((tj ++ tm) ++ tu),(wrap64 (th - 1)),(tz),u3_,u3_,H',⟨dV⟩,⟨u2_⟩,⟨u0_⟩,⟨u4_⟩⟩
   ·rw[if_neg c4] at H;have tA:decide (0<th)=false:=decide_eq_false c4;clear c4;simp only[Option.some.injEq,Prod.mk.injEq] at H;obtain⟨rfl,rfl⟩:=H;go_wp2;go_ret
    exact⟨u1_,u2_,u4_,u0_⟩
end Go.Proofs.YtnjjdojonflckaaGreatDoor.PFnIndexPosts
