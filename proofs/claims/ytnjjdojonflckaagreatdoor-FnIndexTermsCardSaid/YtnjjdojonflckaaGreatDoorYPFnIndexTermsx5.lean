/- Contracts of Go functions, each told as a plain Lean function. -/
import Derived.Test.YtnjjdojonflckaaGreatDoorYPFnIndexTermsx0
namespace Go.Proofs.YtnjjdojonflckaaGreatDoor.PFnIndexTerms
open Go.RowKit Go.Proofs.YtnjjdojonflckaaGreatDoorW.PrintWords Go.Proofs.YtnjjdojonflckaaGreatDoorW.PrintLast Go.Proofs.YtnjjdojonflckaaGreatDoorW.PrintMore
attribute [local go_sem] bg bh bV bU cy cx bJ bI bX bW
set_option linter.unusedVariables false
set_option linter.unusedSimpArgs false
set_option maxHeartbeats 8000000
set_option maxRecDepth 100000
def IsS114 (w0 W:World) (g:Nat) (f0:List Int) (f1:Int):Prop:=∃A0 c0,W.heap[g]? = some (.cells #[.slice A0 f0.length c0,.int .i64 f1] 114 (0,0))∧w0.heap.size≤g∧Kd.C (Kd.int .u8) w0 A0 f0.length f0
theorem IsS114.grown {w0 W:World} {g:Nat} {f0:List Int} {f1:Int} {W1:World} {row:Option Nat} (h:IsS114 w0 W g f0 f1) (hw:W.grownBy W1 row) (hne:some g≠row):IsS114 w0 W1 g f0 f1:=by
 obtain⟨A0,c0,hb,hg,hr0⟩:=h;exact⟨A0,c0,bP hb hw hne,hg,hr0⟩
theorem IsS114.own_neN {w0 W:World} {g:Nat} {f0:List Int} {f1:Int} {α : Type} {d:Kd α} {e:Nat} {base:Nat} {ok:Nat→Prop} {v:Value} {xs:List α} (h:IsS114 w0 W g f0 f1) (ho:Kd.N d e W base ok v xs) (ht:e≠114):some g≠v.ownBlock:=by
 obtain⟨A0,c0,hb,hg,hr0⟩:=h;exact Kd.N_ne ho hb ht
theorem IsS114.fresh {w0 W:World} {g:Nat} {f0:List Int} {f1:Int} (h:IsS114 w0 W g f0 f1):∀k,W.heap.size≤k→k≠g:=by
 obtain⟨A0,c0,hb,hg,hr0⟩:=h;exact Kd.freshB hb
theorem IsS114.kept {w0 W:World} {g:Nat} {f0:List Int} {f1:Int} {W1:World} {S:Nat→Prop} (h:IsS114 w0 W g f0 f1) (hk:Kept W W1 S) (hne:¬S g):IsS114 w0 W1 g f0 f1:=by
 obtain⟨A0,c0,hb,hg,hr0⟩:=h;exact⟨A0,c0,fx hb hk hne,hg,hr0⟩
theorem IsS114.below {w0 W:World} {g:Nat} {f0:List Int} {f1:Int} {W1:World} (h:IsS114 w0 W g f0 f1) (hw:Below W.heap.size W W1):IsS114 w0 W1 g f0 f1:=h.grown (gZ hw none) bb
theorem IsS114.alloc {w0 W:World} {g:Nat} {f0:List Int} {f1:Int} (h:IsS114 w0 W g f0 f1) (o:Obj):IsS114 w0 (W.alloc o) g f0 f1:=h.below (aE (Below.refl _ _) o)
theorem IsS114.drewN {w0 W:World} {g:Nat} {f0:List Int} {f1:Int} (h:IsS114 w0 W g f0 f1) (m:Nat):IsS114 w0 (W.drewN m) g f0 f1:=h
theorem IsS114.drew {w0 W:World} {g:Nat} {f0:List Int} {f1:Int} (h:IsS114 w0 W g f0 f1):IsS114 w0 W.drew g f0 f1:=h
theorem IsS114.at_ {w0 W:World} {g:Nat} {f0:List Int} {f1:Int} {w':World} {m:Nat} (hq:W.drewN m=w') (h:IsS114 w0 W g f0 f1):IsS114 w0 w' g f0 f1:=by subst hq;exact IsS114.drewN h m
theorem IsS114.apart {w0 W:World} {g:Nat} {f0:List Int} {f1:Int} {α : Type} {d:Kd α} {e:Nat} {base:Nat} {ok:Nat→Prop} {v:Value} {xs:List α} (h:IsS114 w0 W g f0 f1) (ho:d.R e W base ok v xs) (ht:∀q,q∈e :: d.E→q≠114):d.R e W base (fun k=>ok k∧k≠g) v xs:=by
 obtain⟨A0,c0,hb,hg,hr0⟩:=h;exact Kd.R_types ho hb ht
theorem IsS114.own_ne {w0 W:World} {g:Nat} {f0:List Int} {f1:Int} {α : Type} {d:Kd α} {e:Nat} {base:Nat} {ok:Nat→Prop} {v:Value} {xs:List α} (h:IsS114 w0 W g f0 f1) (ho:d.R e W base ok v xs) (ht:e≠114):some g≠v.ownBlock:=by
 obtain⟨A0,c0,hb,hg,hr0⟩:=h;exact Kd.R_ne ho hb ht
theorem IsS114.apartQ {w0 W:World} {g:Nat} {f0:List Int} {f1:Int} {α : Type} {d:Kd α} {e:Nat} {base:Nat} {ok:Nat→Prop} {v:Value} {xs:List α} (h:IsS114 w0 W g f0 f1) (ho:d.Q e W base ok v xs) (ht:∀q,q∈e :: d.E→q≠114):d.Q e W base (fun k=>ok k∧k≠g) v xs:=by
 obtain⟨A0,c0,hb,hg,hr0⟩:=h;exact Kd.Q_types ho hb ht
theorem IsS114.own_neQ {w0 W:World} {g:Nat} {f0:List Int} {f1:Int} {α : Type} {d:Kd α} {e:Nat} {base:Nat} {ok:Nat→Prop} {v:Value} {xs:List α} (h:IsS114 w0 W g f0 f1) (ho:d.Q e W base ok v xs) (ht:e≠114):some g≠v.ownBlock:=by
 obtain⟨A0,c0,hb,hg,hr0⟩:=h;exact Kd.Q_ne ho hb ht
theorem IsS114.apartS {w0 W:World} {g:Nat} {f0:List Int} {f1:Int} {α : Type} {d:Kd α} {e:Nat} {base:Nat} {ok:Nat→Prop} {v:Value} {xs:List α} (h:IsS114 w0 W g f0 f1) (ho:d.S e W base ok v xs) (ht:∀q,q∈e :: d.E→q≠114):d.S e W base (fun k=>ok k∧k≠g) v xs:=by
 obtain⟨A0,c0,hb,hg,hr0⟩:=h;exact Kd.S_types ho hb ht
theorem IsS114.own_neS {w0 W:World} {g:Nat} {f0:List Int} {f1:Int} {α : Type} {d:Kd α} {e:Nat} {base:Nat} {ok:Nat→Prop} {v:Value} {xs:List α} (h:IsS114 w0 W g f0 f1) (ho:d.S e W base ok v xs) (ht:e≠114):some g≠v.ownBlock:=by
 obtain⟨A0,c0,hb,hg,hr0⟩:=h;exact Kd.S_ne ho hb ht
theorem IsS114.lt {w0 W:World} {g:Nat} {f0:List Int} {f1:Int} (h:IsS114 w0 W g f0 f1):g<W.heap.size:=by
 obtain⟨A0,c0,hb,hg,hr0⟩:=h;exact dE hb
theorem IsS114.ge {w0 W:World} {g:Nat} {f0:List Int} {f1:Int} (h:IsS114 w0 W g f0 f1):w0.heap.size≤g:=by
 obtain⟨A0,c0,hb,hg,hr0⟩:=h;exact hg
theorem IsS114.ne_blk {w0 W:World} {g:Nat} {f0:List Int} {f1:Int} {a:Nat} {cs:Array Value} {t:TypeId} {fr:Nat × Nat} (h:IsS114 w0 W g f0 f1) (hb2:W.heap[a]? = some (.cells cs t fr)) (ht:t≠114):g≠a:=by
 obtain⟨A0,c0,hb,hg,hr0⟩:=h;rintro rfl;rw[hb] at hb2;injection hb2 with hb2
 injection hb2 with _ ht2
 exact ht ht2.symm
theorem IsS114.far {w0 W:World} {g:Nat} {f0:List Int} {f1:Int} {p:Addr} (h:IsS114 w0 W g f0 f1) (hne:g≠p.block) (u:Value):IsS114 w0 (W.setCell p u) g f0 f1:=by
 obtain⟨A0,c0,hb,hg,hr0⟩:=h;exact⟨A0,c0,k9 hb hne u,hg,hr0⟩
theorem gE {W:World} {g:Nat} {A0:Option Addr} {c0:Nat} {f0:List Int} {f1:Int} (h:W.heap[g]? = some (.cells #[.slice A0 f0.length c0,.int .i64 f1] 114 (0,0))):W.cell? ⟨g,0,none⟩=some (.slice A0 f0.length c0):=(a7 h 0).trans rfl
theorem gI {W:World} {g:Nat} {A0:Option Addr} {c0:Nat} {f0:List Int} {f1:Int} (h:W.heap[g]? = some (.cells #[.slice A0 f0.length c0,.int .i64 f1] 114 (0,0))):W.cell? ⟨g,1,none⟩=some (.int .i64 f1):=(a7 h 1).trans rfl
theorem IsS114.set_1 {w0 W:World} {g:Nat} {f0:List Int} {f1:Int} (h:IsS114 w0 W g f0 f1) (x:Int):IsS114 w0 (W.setCell ⟨g,1,none⟩ (.int .i64 x)) g f0 x:=by
 obtain⟨A0,c0,hb,hg,hr0⟩:=h;exact⟨A0,c0,by simpa using od hb 1 (.int .i64 x),hg,hr0⟩
theorem IsS114.new (w0 W:World) (A0:Option Addr) (c0:Nat) (f0:List Int) (f1:Int) (hB:Below w0.heap.size w0 W) (hr0:Kd.C (Kd.int .u8) w0 A0 f0.length f0):IsS114 w0 (W.alloc (.cells #[.slice A0 f0.length c0,.int .i64 f1] 114)) W.heap.size f0 f1:=⟨A0,c0,by simpa using heap_alloc_new W _,hB.size,hr0⟩
def ei.f (l0:List Int):Option (List Int × Int):=if(l0.length:Int)>2000 then(if 2000≤(l0.length:Int) then(some (l0.take 2000,0)) else(none)) else(some (l0,0))
theorem ei.calls (A0:Option Addr) (c0:Nat) (l0:List Int) (r1:List Int) (r2:Int) (w0 w:World) (hB:Below w0.heap.size w0 w) (hr0:Kd.C (Kd.int .u8) w0 A0 l0.length l0) (hc0:l0.length≤c0) (h:ei.f l0=some (r1,r2)) :
  Calls Tryz.prog 39 #[.slice A0 l0.length c0] w fun e w'=>∃g_:Nat,e = .returned (.pointer (some ⟨g_,0,none⟩))∧IsS114 w0 w' g_ r1 r2∧Below w0.heap.size w0 w'∧Below w.heap.size w w':=by
 have hu114:=Tryz.underlying114;have ZD:=am_ hr0;have tC:=am_ hc0;clear hr0 hc0;have HBW:=am_ (Below.refl w.heap.size w);have HW0:=am_ hB.size;have HB:=am_ hB;clear hB;have H:=h;clear h;unfold ei.f at H
 by_cases c2:(l0.length:Int)>2000
 ·rw[if_pos c2] at H;have tz:decide (2000<(l0.length:Int))=true:=decide_eq_true c2;have tA:decide (2000<l0.length)=true:=decide_eq_true aw;clear c2;obtain⟨tD,tE,H⟩:=ge_ H;simp only[Option.some.injEq,Prod.mk.injEq] at H;obtain⟨rfl,rfl⟩:=H;obtain⟨i04,tx,_,hsz4,_⟩:=info_parts info5;obtain⟨hcut4,hA4,hC4⟩:=m9 (P:=Tryz.prog) (Value.int .u8) 0 22 5 .i64 Tryz.underlying22 tx hsz4 A0 c0 l0 2000 aw (od_) tC.out;have tw:=am_ (Kd.C_of_reads (h1:=fun _=>rfl) (hA4 _ (Kd.reads_of_C ZD.out)));have tB:=am_ hC4;clear hA4 hC4 tx hsz4;go_enter Tryz.func39,Tryz.ntmps39
  go_wp2_with (first | ((with_reducible refine gt_ 10 ?_);refine bx_ 10 #[.slice A0 (l0.take 2000).length c0,.int .i64 0] 114 ?_;intro tk hg w5 hbox hb;replace HB:=bs_ HB hb;have tm:=am_ (hbox);have tu:=Ge.mk ((by rw[hg];exact(ar u76_):w.heap.size≤tk));have tq:=Ge.mk ((Nat.le_trans HW0.out (by rw[hg];exact(ar u76_):w.heap.size≤tk):w0.heap.size≤tk));replace HBW:=am_ (av HBW.out hb);clear hb hbox hg))
  go_ret
  exact⟨_,rfl,(show IsS114 w0 _ tk (l0.take 2000) 0 from ⟨_,_,pb_ tm,tq.out,tw.out⟩),bw_ HB,by repeat (first | (with_reducible first | exact HBW.out | apply aE | apply al | apply au | refine aN ?_ tu.out) | exact HBW.out)⟩
 ·rw[if_neg c2] at H;have tz:decide (2000<(l0.length:Int))=false:=decide_eq_false c2;have tA:decide (2000<l0.length)=false:=decide_eq_false aw;clear c2;simp only[Option.some.injEq,Prod.mk.injEq] at H;obtain⟨rfl,rfl⟩:=H;go_enter Tryz.func39,Tryz.ntmps39
  go_wp2_with (first | ((with_reducible refine gt_ 10 ?_);refine bx_ 10 #[.slice A0 l0.length c0,.int .i64 0] 114 ?_;intro tl hg w6 hbox hb;replace HB:=bs_ HB hb;have tn:=am_ (hbox);have tv:=Ge.mk ((by rw[hg];exact(ar u76_):w.heap.size≤tl));have tr:=Ge.mk ((Nat.le_trans HW0.out (by rw[hg];exact(ar u76_):w.heap.size≤tl):w0.heap.size≤tl));replace HBW:=am_ (av HBW.out hb);clear hb hbox hg))
  go_ret
  exact⟨_,rfl,(show IsS114 w0 _ tl l0 0 from ⟨_,_,pb_ tn,tr.out,ZD.out⟩),bw_ HB,by repeat (first | (with_reducible first | exact HBW.out | apply aE | apply al | apply au | refine aN ?_ tv.out) | exact HBW.out)⟩
def ac.j0:Nat→Int→Bool→List Int→Int→Option (Int × Int)
 | 0,_,_,_,_=>none
 | k+1,x1,tm,tk,tl=>if tm=true then(some (0,tl)) else(if(wrap64 (tl - 1))<(tk.length:Int) then(if 0≤(wrap64 (tl - 1)) then(if x1=0 then(none) else(some (Int.tmod (wrap64 (rd tk (wrap64 (tl - 1)))) x1,tl))) else(none)) else(if(tk.length:Int)=0 then(none) else(if 0≤(Int.tmod (wrap64 (tl - 1)) (tk.length:Int)) then(if(Int.tmod (wrap64 (tl - 1)) (tk.length:Int))<(tk.length:Int) then(if 0≤(Int.tmod (wrap64 ((wrap64 ((wrap64 (tl - 1))*7))+3)) (tk.length:Int)) then(if(Int.tmod (wrap64 ((wrap64 ((wrap64 (tl - 1))*7))+3)) (tk.length:Int))<(tk.length:Int) then(if x1=0 then(none) else(some (Int.tmod (Go.bits .xor .i64 (wrap64 ((wrap64 ((wrap64 ((wrap64 ((wrap64 (rd tk (Int.tmod (wrap64 (tl - 1)) (tk.length:Int))))*131))+(wrap64 ((wrap64 (rd tk (Int.tmod (wrap64 ((wrap64 ((wrap64 (tl - 1))*7))+3)) (tk.length:Int))))*1117))))+(wrap64 ((wrap64 (tl - 1))*29))))+(wrap64 ((wrap64 (Int.tdiv (wrap64 (tl - 1)) (tk.length:Int)))*53)))) (wrap64 (Int.tdiv (wrap64 ((wrap64 ((wrap64 ((wrap64 ((wrap64 (rd tk (Int.tmod (wrap64 (tl - 1)) (tk.length:Int))))*131))+(wrap64 ((wrap64 (rd tk (Int.tmod (wrap64 ((wrap64 ((wrap64 (tl - 1))*7))+3)) (tk.length:Int))))*1117))))+(wrap64 ((wrap64 (tl - 1))*29))))+(wrap64 ((wrap64 (Int.tdiv (wrap64 (tl - 1)) (tk.length:Int)))*53)))) 64))) x1,tl))) else(none)) else(none)) else(none)) else(none))))
def ac.f (k:Nat) (s0_0:List Int) (s0_1:Int) (a1:Int):Option (Int × Int):=if a1<1 then(ac.j0 k a1 true s0_0 (wrap64 (s0_1+1))) else(ac.j0 k a1 ((s0_0.length:Int) == 0) s0_0 (wrap64 (s0_1+1)))
theorem ac.calls (k:Nat) (g:Nat) (s0_0:List Int) (s0_1:Int) (a1:Int) (r1:Int) (r2:Int) (w0 w:World) (hI:IsS114 w0 w g s0_0 s0_1) (hB:Below w0.heap.size w0 w) (h:ac.f k s0_0 s0_1 a1=some (r1,r2)) :
  Calls Tryz.prog 85 #[.pointer (some ⟨g,0,none⟩),.int .i64 a1] w fun e w'=>e = .returned (.int .i64 r1)∧IsS114 w0 w' g s0_0 r2∧Below w0.heap.size w0 w'∧KeepBut w w' g none:=by
 have HI0:=am_ hI;have HK:=am_ (KeepBut.refl w g none);have HL:=am_ hB.size;clear hI;have HW0:=am_ hB.size;have HB:=am_ hB;clear hB;have H:=h;clear h;unfold ac.f at H
 have tM:=am_ H;clear H;obtain⟨ASz4_0,cSz4_0,HGz4,hgz4,HSz4_0⟩:=HI0.out;have tz:=gE HGz4;have tA:=gI HGz4;have tB:=cu HGz4 1;clear HGz4 hgz4;go_enter Tryz.func85,Tryz.ntmps85
 go_upto_region 2 with (fail)
 repeat (go_quiet (fail);go_upto_region 2 with (fail))
 go_cut [24] (fun um wc=>∃(kq:Nat) (tq:Bool),um = .bool tq∧aa (ac.j0 kq a1 tq s0_0 (wrap64 (s0_1+1))=some (r1,r2))∧aa (kq≤k)∧aa (IsS114 w0 wc g s0_0 (wrap64 (s0_1+1)))∧aa (KeepBut w wc g none)∧aa (Below w0.heap.size w0 wc))
 case first=>
  have H:=tM.out;clear tM;by_cases c5:a1<1
  ·rw[if_pos c5] at H;have tu:=decide_eq_true c5;clear c5;(first | rw[tu] | (simp only[aC,aG];rw[tu]) | skip)
   have H':=am_ H;clear H;go_wp2;repeat (go_quiet (fail);try go_wp2)
   go_meet
   case rel=>exact⟨_,(true),u4_,H',⟨jD⟩,⟨u2_⟩,⟨u0_⟩,⟨u3_⟩⟩
  ·rw[if_neg c5] at H;have tu:=decide_eq_false c5;clear c5;(first | rw[tu] | (simp only[aC,aG];rw[tu]) | skip)
   have H':=am_ H;clear H;obtain⟨ASz6_0,cSz6_0,HGz6,hgz6,HSz6_0⟩:=HI0.out;have tR:=gE HGz6;have tS:=gI HGz6;have tT:=cu HGz6 1;clear HGz6 hgz6;go_wp2;repeat (go_quiet (fail);try go_wp2)
   go_meet
   case rel=>exact⟨_,(((s0_0.length:Int) == 0)),u4_,H',⟨jD⟩,⟨u2_⟩,⟨u0_⟩,⟨u3_⟩⟩
 case rest=>
  clear tM;try clear tz tA tB
  obtain⟨kq,tq,rfl,HA,YG,HI0,HK,HB⟩:=hcut;cases kq with
  | zero=>exact absurd HA.out (by simp[ac.j0])
  | succ un=>
   have H:=HA.out;clear HA;simp only[ac.j0] at H;cases tq
   ·replace H:=hf_ H;by_cases c8:(wrap64 ((wrap64 (s0_1+1)) - 1))<(s0_0.length:Int)
    ·rw[if_pos c8] at H;have tE:=decide_eq_true c8;clear c8;obtain⟨tF,tx⟩:∃j_:Int,(wrap64 ((wrap64 (s0_1+1)) - 1))=j_:=⟨_,rfl⟩;replace H:(if 0≤(tF) then(if a1=0 then(none) else(some (Int.tmod (wrap64 (rd s0_0 (tF))) a1,(wrap64 (s0_1+1))))) else(none))=some (r1,r2):=by first | (rw[tx] at H;exact H)|(simp only[tx] at H ⊢;exact H)
     (try rw[tx] at tE)
     have hji9w:(IntKind.i64.wrap ((wrap64 (s0_1+1)) - 1))=tF:=(aC _).trans tx;obtain⟨tV,H⟩:=gd_ H;obtain⟨tW,H⟩:=gm_ H;have tX:=cO tW;have tY:=cQ tW;simp only[Option.some.injEq,Prod.mk.injEq] at H;obtain⟨rfl,rfl⟩:=H;obtain⟨ASz12_0,cSz12_0,HGz12,hgz12,HSz12_0⟩:=HI0.out;have tG:=gE HGz12;have tH:=gI HGz12;have tK:=cu HGz12 1;clear HGz12 hgz12;obtain⟨tU,tO,tl⟩:=Kd.at_int HSz12_0 (tF) od_ od_;cases tO;replace tl:=ai HB.out tl;obtain⟨ug,uj⟩:=pt_ (tF) s0_0.length;go_wp2;repeat (go_quiet (fail);try go_wp2)
     go_ret
     exact⟨by first | rfl | (simp[bA,bz] <;> rfl)|(simp only[← tx];first | rfl | (simp[bA,bz] <;> rfl))|(simp[*,bA,bz] <;> rfl)|(simp;exact du _),u2_,u3_,u0_⟩
    ·rw[if_neg c8] at H;have tE:=decide_eq_false c8;clear c8;obtain⟨tN,H⟩:=gm_ H;have tZ:=cO tN;have t6:=cQ tN;have t7:¬(s0_0 = []):=fun h_=>tN (by rw[h_];rfl)
     obtain⟨tk,tv⟩:∃j_:Int,(Int.tmod (wrap64 ((wrap64 (s0_1+1)) - 1)) (s0_0.length:Int))=j_:=⟨_,rfl⟩;replace H:(if 0≤(tk) then(if(tk)<(s0_0.length:Int) then(if 0≤(Int.tmod (wrap64 ((wrap64 ((wrap64 ((wrap64 (s0_1+1)) - 1))*7))+3)) (s0_0.length:Int)) then(if(Int.tmod (wrap64 ((wrap64 ((wrap64 ((wrap64 (s0_1+1)) - 1))*7))+3)) (s0_0.length:Int))<(s0_0.length:Int) then(if a1=0 then(none) else(some (Int.tmod (Go.bits .xor .i64 (wrap64 ((wrap64 ((wrap64 ((wrap64 ((wrap64 (rd s0_0 (tk)))*131))+(wrap64 ((wrap64 (rd s0_0 (Int.tmod (wrap64 ((wrap64 ((wrap64 ((wrap64 (s0_1+1)) - 1))*7))+3)) (s0_0.length:Int))))*1117))))+(wrap64 ((wrap64 ((wrap64 (s0_1+1)) - 1))*29))))+(wrap64 ((wrap64 (Int.tdiv (wrap64 ((wrap64 (s0_1+1)) - 1)) (s0_0.length:Int)))*53)))) (wrap64 (Int.tdiv (wrap64 ((wrap64 ((wrap64 ((wrap64 ((wrap64 (rd s0_0 (tk)))*131))+(wrap64 ((wrap64 (rd s0_0 (Int.tmod (wrap64 ((wrap64 ((wrap64 ((wrap64 (s0_1+1)) - 1))*7))+3)) (s0_0.length:Int))))*1117))))+(wrap64 ((wrap64 ((wrap64 (s0_1+1)) - 1))*29))))+(wrap64 ((wrap64 (Int.tdiv (wrap64 ((wrap64 (s0_1+1)) - 1)) (s0_0.length:Int)))*53)))) 64))) a1,(wrap64 (s0_1+1))))) else(none)) else(none)) else(none)) else(none))=some (r1,r2):=by first | (rw[tv] at H;exact H)|(simp only[tv] at H ⊢;exact H)
     obtain⟨t8,H⟩:=gd_ H;obtain⟨ua,H⟩:=gd_ H;obtain⟨tr,tw⟩:∃j_:Int,(Int.tmod (wrap64 ((wrap64 ((wrap64 ((wrap64 (s0_1+1)) - 1))*7))+3)) (s0_0.length:Int))=j_:=⟨_,rfl⟩;replace H:(if 0≤(tr) then(if(tr)<(s0_0.length:Int) then(if a1=0 then(none) else(some (Int.tmod (Go.bits .xor .i64 (wrap64 ((wrap64 ((wrap64 ((wrap64 ((wrap64 (rd s0_0 (tk)))*131))+(wrap64 ((wrap64 (rd s0_0 (tr)))*1117))))+(wrap64 ((wrap64 ((wrap64 (s0_1+1)) - 1))*29))))+(wrap64 ((wrap64 (Int.tdiv (wrap64 ((wrap64 (s0_1+1)) - 1)) (s0_0.length:Int)))*53)))) (wrap64 (Int.tdiv (wrap64 ((wrap64 ((wrap64 ((wrap64 ((wrap64 (rd s0_0 (tk)))*131))+(wrap64 ((wrap64 (rd s0_0 (tr)))*1117))))+(wrap64 ((wrap64 ((wrap64 (s0_1+1)) - 1))*29))))+(wrap64 ((wrap64 (Int.tdiv (wrap64 ((wrap64 (s0_1+1)) - 1)) (s0_0.length:Int)))*53)))) 64))) a1,(wrap64 (s0_1+1))))) else(none)) else(none))=some (r1,r2):=by first | (rw[tw] at H;exact H)|(simp only[tw] at H ⊢;exact H)
     obtain⟨ub,H⟩:=gd_ H;obtain⟨uc,H⟩:=gd_ H;obtain⟨ud,H⟩:=gm_ H;have ue:=cO ud;have uf:=cQ ud;simp only[Option.some.injEq,Prod.mk.injEq] at H;obtain⟨rfl,rfl⟩:=H;obtain⟨ASz21_0,cSz21_0,HGz21,hgz21,HSz21_0⟩:=HI0.out;have tI:=gE HGz21;have tJ:=gI HGz21;have tL:=cu HGz21 1;clear HGz21 hgz21;obtain⟨tC,tP,tm⟩:=Kd.at_int HSz21_0 (tk) od_ od_;cases tP;replace tm:=ai HB.out tm;obtain⟨uh,uk⟩:=pt_ (tk) s0_0.length;obtain⟨tD,tQ,tn⟩:=Kd.at_int HSz21_0 (tr) od_ od_;obtain rfl:tC=tD:=(by injection tQ);replace tn:=ai HB.out tn;obtain⟨ui,ul⟩:=pt_ (tr) s0_0.length;go_wp2;repeat (go_quiet (fail);try go_wp2)
     go_ret
     exact⟨by first | rfl | (simp[bA,bz] <;> rfl)|(simp only[← tv,← tw];first | rfl | (simp[bA,bz] <;> rfl))|(simp[*,bA,bz] <;> rfl)|(simp;exact du _),u2_,u3_,u0_⟩
   ·replace H:=ht_ H;simp only[Option.some.injEq,Prod.mk.injEq] at H;obtain⟨rfl,rfl⟩:=H;go_wp2;repeat (go_quiet (fail);try go_wp2)
    go_ret
    exact⟨u1_,u2_,u3_,u0_⟩
def dq.f  : Option ((List (S92))):=some (([(⟨(⟨#[116,105,116,108,101]⟩:ByteArray),1,3⟩:S92),(⟨(⟨#[98,111,100,121]⟩:ByteArray),1,1⟩:S92),(⟨(⟨#[112,114,105,99,101]⟩:ByteArray),2,0⟩:S92),(⟨(⟨#[99,111,108,111,114]⟩:ByteArray),3,0⟩:S92)] : List (S92)))
theorem dq.calls  (r:List (S92)) (w:World) (h:dq.f  = some r) :
  Calls Tryz.prog 155 #[] w fun e w'=>∃v0_:Value,e = .returned (v0_)∧Kd.R k92 92 w' w.heap.size (fun _=>True) v0_ r∧Below w.heap.size w w':=by
 have hu92:=Tryz.underlying92;have HB:=am_ (Below.refl w.heap.size w);have H:=h;clear h;unfold dq.f at H
 generalize tl:((([(⟨(⟨#[116,105,116,108,101]⟩:ByteArray),1,3⟩:S92),(⟨(⟨#[98,111,100,121]⟩:ByteArray),1,1⟩:S92),(⟨(⟨#[112,114,105,99,101]⟩:ByteArray),2,0⟩:S92),(⟨(⟨#[99,111,108,111,114]⟩:ByteArray),3,0⟩:S92)] : List (S92))):List (S92))=tq at H;have tk:=am_ tl.symm;clear tl;obtain rfl:=si_ H;go_enter Tryz.func155,Tryz.ntmps155
 go_wp2_with (first | ((with_reducible refine aA (N:=5) rfl ?_);refine Kd.R_lit k92 _ 92 ?hg (N:=5) ?hd (xs:=([(⟨(⟨#[116,105,116,108,101]⟩:ByteArray),1,3⟩:S92),(⟨(⟨#[98,111,100,121]⟩:ByteArray),1,1⟩:S92),(⟨(⟨#[112,114,105,99,101]⟩:ByteArray),2,0⟩:S92),(⟨(⟨#[99,111,108,111,114]⟩:ByteArray),3,0⟩:S92)] : List (S92))) (inner:=[.string (⟨#[116,105,116,108,101]⟩:ByteArray),.int .i64 1,.int .i64 3,.string (⟨#[98,111,100,121]⟩:ByteArray),.int .i64 1,.int .i64 1,.string (⟨#[112,114,105,99,101]⟩:ByteArray),.int .i64 2,.int .i64 0,.string (⟨#[99,111,108,111,114]⟩:ByteArray),.int .i64 3,.int .i64 0]) (ok:=fun _=>True) (okp:=fun _=>True) ?hr ?hp (fun _ hk=>hk) trivial (Below.refl _ _) (Nat.le_refl _) bb ?_;(case hd=>rfl);(case hg=>rfl);(case hr=>exact bL);(case hp=>exact(Reps.c3 (show Kd.M k92 _ _ _ (⟨(⟨#[116,105,116,108,101]⟩:ByteArray),1,3⟩:S92) [.string (⟨#[116,105,116,108,101]⟩:ByteArray),.int .i64 1,.int .i64 3] from (ii _ _ _ (⟨(⟨#[116,105,116,108,101]⟩:ByteArray),1,3⟩:S92) )) (Reps.c3 (show Kd.M k92 _ _ _ (⟨(⟨#[98,111,100,121]⟩:ByteArray),1,1⟩:S92) [.string (⟨#[98,111,100,121]⟩:ByteArray),.int .i64 1,.int .i64 1] from (ii _ _ _ (⟨(⟨#[98,111,100,121]⟩:ByteArray),1,1⟩:S92) )) (Reps.c3 (show Kd.M k92 _ _ _ (⟨(⟨#[112,114,105,99,101]⟩:ByteArray),2,0⟩:S92) [.string (⟨#[112,114,105,99,101]⟩:ByteArray),.int .i64 2,.int .i64 0] from (ii _ _ _ (⟨(⟨#[112,114,105,99,101]⟩:ByteArray),2,0⟩:S92) )) (Reps.c3 (show Kd.M k92 _ _ _ (⟨(⟨#[99,111,108,111,114]⟩:ByteArray),3,0⟩:S92) [.string (⟨#[99,111,108,111,114]⟩:ByteArray),.int .i64 3,.int .i64 0] from (ii _ _ _ (⟨(⟨#[99,111,108,111,114]⟩:ByteArray),3,0⟩:S92) )) (Reps.none _ _))))));intro tn w1 ho2 hb hg_ hnew_;clear hg_ hnew_;(first | rw[← tk.out] at ho2 | (simp only[Int.reduceToNat] at ho2;rw[← tk.out] at ho2));have tm:=am_ (Kd.R_lower ho2 (ar (bw_ HB)));replace HB:=bs_ HB hb;clear hb ho2))
 go_ret
 exact⟨_,u1_,aR_ tm.out,bw_ HB⟩
def b8.f (k:Nat) (s0_0:List Int) (s0_1:Int):Option ((List (S92)) × Int):=(dq.f).bind fun tl=>((ac.f k s0_0 s0_1 4).bind fun tk=>(if tk.1=0 then(if 1≤(tl.length:Int) then(some ((tl.take (1:Int).toNat),tk.2)) else(none)) else(if tk.1=1 then(if 1≤(tl.length:Int) then(some ((tl.drop (1:Int).toNat),tk.2)) else(none)) else(some (tl,tk.2)))))
theorem b8.calls (k:Nat) (g:Nat) (s0_0:List Int) (s0_1:Int) (r1:List (S92)) (r2:Int) (w0 w:World) (hI:IsS114 w0 w g s0_0 s0_1) (hB:Below w0.heap.size w0 w) (h:b8.f k s0_0 s0_1=some (r1,r2)) :
  Calls Tryz.prog 126 #[.pointer (some ⟨g,0,none⟩)] w fun e w'=>∃v0_:Value,e = .returned (v0_)∧Kd.Q k92 92 w' w.heap.size (fun _=>True) v0_ r1∧IsS114 w0 w' g s0_0 r2∧Below w0.heap.size w0 w'∧KeepBut w w' g none:=by
 have HI0:=am_ hI;have HK:=am_ (KeepBut.refl w g none);have HL:=am_ hB.size;clear hI;have HW0:=am_ hB.size;have HB:=am_ hB;clear hB;have H:=h;clear h;unfold b8.f at H
 obtain⟨tl,A2,H⟩:=bi_ H;obtain⟨⟨tm,tz⟩,A3,H⟩:=bi_ H;dsimp only at H;by_cases c4:tm=0
 ·rw[if_pos c4] at H;have tG:=cW c4;have tH:=cX c4;clear c4;obtain⟨tR,tS,H⟩:=ge_ H;generalize tv:((tl.take (1:Int).toNat):List (S92))=tK at H;have tq:=am_ tv.symm;clear tv;simp only[Option.some.injEq,Prod.mk.injEq] at H;obtain⟨rfl,rfl⟩:=H;go_enter Tryz.func126,Tryz.ntmps126
  go_wp2_with (first | ((with_reducible refine gt_ 4 ?_);refine gf_ 4 Tryz.func155 (dq.calls  tl _ A2.out) ?_;rintro e w6 ⟨tF,rfl,ho0,hb⟩;refine⟨_,rfl,?_⟩;have tk:=am_ (Kd.R_lower ho0 (ak (w:=w) (g:=g) (row:=none) u0_));replace HK:=am_ (KeepBut.trans u0_ (KeepBut.of_below hb g none) (.inl rfl));replace HB:=am_ (av u3_ hb);replace HI0:=am_ (IsS114.below u2_ hb);(try clear hb);(try clear ho0))|((with_reducible refine gt_ 6 ?_);refine gf_ 6 Tryz.func85 (ac.calls k g s0_0 s0_1 4 tm tz w0 _ ?side1 ?side2 A3.out) ?_;(case side1=>exact fc);(case side2=>exact e6);rintro e w7 ⟨rfl,hi,hb,hk⟩;refine⟨_,rfl,?_⟩;replace tk:=am_ (Kd.R_mono (Kd.R_keep (IsS114.apart (show IsS114 w0 _ g s0_0 s0_1 from u2_) (aR_ tk.out) ap) hk (fun _ h=>h.2)) (fun _ h=>h.1));replace HK:=am_ (KeepBut.trans u0_ hk (.inl rfl));replace HB:=am_ (hb);replace HI0:=am_ (hi);(try clear hb);(try clear hk);(try clear hi);obtain⟨tQ,tT,tU⟩:=Kd.R_slice tk.out;subst tU;have q9:(1:Int)≤((tl.length:Int):Int):=od_;obtain⟨i09,tE,_,hsz9,_⟩:=info_parts hZ;have hcut9:=n4 (P:=Tryz.prog) 23 92 .i64 Tryz.underlying23 tE tQ tl.length tT 1 aw q9 (Kd.R_reads' tk.out).2.1;have hr9:=Kd.R_take (m:=(1:Int).toNat) tk.out aw;have tP:tK.length=(1:Int).toNat:=(by rw[tq.out,List.length_take];omega);rw[← tq.out] at hr9;rw[← tP] at hr9 hcut9;clear tP tE hsz9 tk;have tA:=am_ hr9;clear hr9;replace q9:=eq_true q9))
  go_ret
  exact⟨_,by first | rfl | (simp[bA,bz] <;> rfl)|(simp[*,bA,bz] <;> rfl),Kd.Q_of_R (aR_ tA.out),u2_,u3_,u0_⟩
 ·rw[if_neg c4] at H;have tG:=cO c4;have tH:=cQ c4;by_cases c10:tm=1
  ·rw[if_pos c10] at H;have tC:=cW c10;have tD:=cX c10;clear c10;obtain⟨tM,tN,H⟩:=ge_ H;generalize tw:((tl.drop (1:Int).toNat):List (S92))=tn at H;have tr:=am_ tw.symm;clear tw;simp only[Option.some.injEq,Prod.mk.injEq] at H;obtain⟨rfl,rfl⟩:=H;go_enter Tryz.func126,Tryz.ntmps126
   go_wp2_with (first | ((with_reducible refine gt_ 4 ?_);refine gf_ 4 Tryz.func155 (dq.calls  tl _ A2.out) ?_;rintro e tW ⟨tF,rfl,ho0,hb⟩;refine⟨_,rfl,?_⟩;have tk:=am_ (Kd.R_lower ho0 (ak (w:=w) (g:=g) (row:=none) u0_));replace HK:=am_ (KeepBut.trans u0_ (KeepBut.of_below hb g none) (.inl rfl));replace HB:=am_ (av u3_ hb);replace HI0:=am_ (IsS114.below u2_ hb);(try clear hb);(try clear ho0))|((with_reducible refine gt_ 6 ?_);refine gf_ 6 Tryz.func85 (ac.calls k g s0_0 s0_1 4 tm tz w0 _ ?side1 ?side2 A3.out) ?_;(case side1=>exact fc);(case side2=>exact e6);rintro e tV ⟨rfl,hi,hb,hk⟩;refine⟨_,rfl,?_⟩;replace tk:=am_ (Kd.R_mono (Kd.R_keep (IsS114.apart (show IsS114 w0 _ g s0_0 s0_1 from u2_) (aR_ tk.out) ap) hk (fun _ h=>h.2)) (fun _ h=>h.1));replace HK:=am_ (KeepBut.trans u0_ hk (.inl rfl));replace HB:=am_ (hb);replace HI0:=am_ (hi);(try clear hb);(try clear hk);(try clear hi);obtain⟨ZE,ZG,tI⟩:=Kd.R_slice tk.out;subst tI;have tJ:(1:Int)≤((tl.length:Int):Int):=od_;obtain⟨i015,tu,_,hsz15,_⟩:=info_parts hZ;have hcut15:=g9 (P:=Tryz.prog) 23 92 .i64 Tryz.underlying23 tu 3 hsz15 ZE tl.length ZG 1 aw tJ;have hr15:=Kd.Q_drop (k:=(1:Int).toNat) (Kd.Q_of_R tk.out) aw;obtain⟨tL,hA15⟩:∃A1,A1=(if ZG=(1:Int).toNat then ZE else(ZE:Option Addr).map (·.add ((1:Int).toNat*3))):=⟨_,rfl⟩;obtain⟨tO,hc15⟩:∃c1,c1=ZG - (1:Int).toNat:=⟨_,rfl⟩;have tx:tn.length=tl.length - (1:Int).toNat:=(by rw[tr.out,List.length_drop]);rw[← tr.out] at hr15;rw[← tx,← hA15,← hc15] at hcut15;replace hr15:Kd.Q k92 92 tV w.heap.size (fun _=>True) (.slice tL tn.length tO) tn:=(by rw[hA15,hc15,tx];exact hr15);have HE15:aa ((Value.slice tL tn.length tO).ownBlock=(.slice ZE tl.length ZG:Value).ownBlock):=⟨by rw[hA15];split <;> (cases (ZE:Option Addr) <;> rfl)⟩;clear tx tu hsz15 tk hA15 hc15;have tB:=am_ hr15;clear hr15;replace tJ:=eq_true tJ))
   go_ret
   exact⟨_,u1_,by(with_reducible repeat (first | apply Kd.Q_alloc | apply Kd.Q_drewN | apply Kd.Q_drew));exact tB.out,u2_,u3_,u0_⟩
  ·rw[if_neg c10] at H;have tC:=cO c10;have tD:=cQ c10;simp only[Option.some.injEq,Prod.mk.injEq] at H;obtain⟨rfl,rfl⟩:=H;go_enter Tryz.func126,Tryz.ntmps126
   go_wp2_with (first | ((with_reducible refine gt_ 4 ?_);refine gf_ 4 Tryz.func155 (dq.calls  tl _ A2.out) ?_;rintro e tX ⟨tF,rfl,ho0,hb⟩;refine⟨_,rfl,?_⟩;have tk:=am_ (Kd.R_lower ho0 (ak (w:=w) (g:=g) (row:=none) u0_));replace HK:=am_ (KeepBut.trans u0_ (KeepBut.of_below hb g none) (.inl rfl));replace HB:=am_ (av u3_ hb);replace HI0:=am_ (IsS114.below u2_ hb);(try clear hb);(try clear ho0))|((with_reducible refine gt_ 6 ?_);refine gf_ 6 Tryz.func85 (ac.calls k g s0_0 s0_1 4 tm tz w0 _ ?side1 ?side2 A3.out) ?_;(case side1=>exact fc);(case side2=>exact e6);rintro e tY ⟨rfl,hi,hb,hk⟩;refine⟨_,rfl,?_⟩;replace tk:=am_ (Kd.R_mono (Kd.R_keep (IsS114.apart (show IsS114 w0 _ g s0_0 s0_1 from u2_) (aR_ tk.out) ap) hk (fun _ h=>h.2)) (fun _ h=>h.1));replace HK:=am_ (KeepBut.trans u0_ hk (.inl rfl));replace HB:=am_ (hb);replace HI0:=am_ (hi);(try clear hb);(try clear hk);(try clear hi)))
   go_ret
   exact⟨_,by first | rfl | (simp[bA,bz] <;> rfl)|(simp[*,bA,bz] <;> rfl),Kd.Q_of_R (aR_ tk.out),u2_,u3_,u0_⟩
def aV.f (k:Nat) (s0_0:List Int) (s0_1:Int) (l1:List ByteArray):Option (ByteArray × Int):=(ac.f k s0_0 s0_1 (l1.length:Int)).bind fun tk=>(if 0≤tk.1 then(if tk.1<(l1.length:Int) then(some (bC ByteArray.empty l1 tk.1,tk.2)) else(none)) else(none))
theorem aV.calls (k:Nat) (g:Nat) (s0_0:List Int) (s0_1:Int) (A1:Option Addr) (c1:Nat) (l1:List ByteArray) (r1:ByteArray) (r2:Int) (w0 w:World) (hI:IsS114 w0 w g s0_0 s0_1) (hB:Below w0.heap.size w0 w) (hr1:Kd.C Kd.string w A1 l1.length l1) (hc1:l1.length≤c1) (hf1:∀ad,A1=some ad→0<l1.length→ad.block≠g) (h:aV.f k s0_0 s0_1 l1=some (r1,r2)) :
  Calls Tryz.prog 42 #[.pointer (some ⟨g,0,none⟩),.slice A1 l1.length c1] w fun e w'=>e = .returned (.string r1)∧IsS114 w0 w' g s0_0 r2∧Below w0.heap.size w0 w'∧KeepBut w w' g none:=by
 have Zc:=am_ hr1;have tx:=am_ hc1;clear hr1 hc1;have HI0:=am_ hI;have HK:=am_ (KeepBut.refl w g none);have HL:=am_ hB.size;clear hI;have HW0:=am_ hB.size;have HB:=am_ hB;clear hB;have H:=h;clear h;unfold aV.f at H
 obtain⟨⟨tn,tu⟩,A3,H⟩:=bi_ H;dsimp only at H;obtain⟨tv,H⟩:=gd_ H;obtain⟨tw,H⟩:=gd_ H;simp only[Option.some.injEq,Prod.mk.injEq] at H;obtain⟨rfl,rfl⟩:=H;go_enter Tryz.func42,Tryz.ntmps42
 go_wp2_with (first | ((with_reducible refine gt_ 9 ?_);refine gf_ 9 Tryz.func85 (ac.calls k g s0_0 s0_1 (l1.length:Int) tn tu w0 _ ?side1 ?side2 A3.out) ?_;(case side1=>exact fc);(case side2=>exact e6);rintro e w6 ⟨rfl,hi,hb,hk⟩;refine⟨_,rfl,?_⟩;replace HK:=am_ (KeepBut.trans u0_ hk (.inl rfl));replace HB:=am_ (hb);replace HI0:=am_ (hi);(try clear hb);(try clear hk);(try clear hi);obtain⟨tl,tm⟩:=pq_ tn l1.length;obtain⟨tq,tr,tk⟩:=Kd.at_string Zc.out tn tl tm;cases tr;replace tk:=io HK.out tk (by first | (rw[bZ];exact hf1 _ rfl aw) | exact hf1 _ rfl aw | exact hf1 tq rfl aw);obtain⟨tl,tm⟩:=tt_ tl tm))
 go_ret
 exact⟨u1_,u2_,u3_,u0_⟩
def bk.l0:Nat→List (S92)→ByteArray→Int→Option (Int)
 | 0,_,_,_=>none
 | k+1,x0,x1,x5=>if x5<(x0.length:Int) then(if 0≤x5 then(if((az x0 x5).f0).toList=x1.toList then(some x5) else(bk.l0 k x0 x1 (wrap64 (x5+1)))) else(none)) else(some (-1))
def bk.f (k:Nat) (l0:List (S92)) (a1:ByteArray):Option (Int):=bk.l0 k l0 a1 0
theorem bk.calls (k:Nat) (A0:Option Addr) (c0:Nat) (l0:List (S92)) (a1:ByteArray) (r:Int) (w:World) (hr0:Kd.C k92 w A0 l0.length l0) (hc0:l0.length≤c0) (h:bk.f k l0 a1=some r) :
  Calls Tryz.prog 96 #[.slice A0 l0.length c0,.string a1] w fun e w'=>e = .returned (.int .i64 r)∧Drawn0 w w':=by
 have ZD:=am_ hr0;have tB:=am_ hc0;clear hr0 hc0;have H:=h;clear h;unfold bk.f at H
 have H':=am_ H;clear H;go_enter Tryz.func96,Tryz.ntmps96
 go_wp2;go_loopg [5] k (fun kq v5 w'=>∃(tk:Int),v5 = .int .i64 tk∧aa (bk.l0 kq l0 a1 tk=some r)∧aa (kq≤k)∧Drawn0 w w')
 case atStart=>exact⟨(0),u4_,H',⟨Nat.le_refl _⟩,u7_⟩
 case round=>
  clear H';obtain⟨tk,rfl,HA,HK1,⟨m1,rfl⟩⟩:=hrel;cases gk with
  | zero=>exact absurd HA.out (by simp[bk.l0])
  | succ k1=>
   have H:=HA.out;clear HA;simp only[bk.l0] at H;by_cases c3:tk<(l0.length:Int)
   ·rw[if_pos c3] at H;have tr:=decide_eq_true c3;clear c3;obtain⟨tx,H⟩:=gd_ H;have HC_:=am_ H;clear H;obtain⟨tw,tv,tm,tn,tq⟩:=jb ZD.out tk od_ od_;cases tv;obtain⟨tz,tA⟩:=pt_ tk l0.length;have H:=HC_.out;clear HC_;by_cases c5:((az l0 tk).f0).toList=a1.toList
    ·rw[if_pos c5] at H;have tl:=cW c5;have tu:=cX c5;clear c5;obtain rfl:=si_ H;(first | rw[tl] | (simp only[aC,aG];rw[tl]) | skip)
     go_wp2;go_ret
     exact⟨u9_,u7_⟩
    ·rw[if_neg c5] at H;have tl:=cO c5;have tu:=cQ c5;have H':=am_ H;clear H;(first | rw[tl] | (simp only[aC,aG];rw[tl]) | skip)
     go_wp2;go_roundg k1
     case measure=>have:=HK1.out;omega
     case rel=>exact⟨(wrap64 (tk+1)),u4_,H',⟨dH⟩,u7_⟩
   ·rw[if_neg c3] at H;have tr:=decide_eq_false c3;clear c3;obtain rfl:=si_ H;go_wp2;go_ret
    exact⟨u9_,u7_⟩
def er.f (k:Nat) (s0_0:List Int) (s0_1:Int):Option (ByteArray × Int):=(aV.f k s0_0 s0_1 (([(⟨#[114,101,100]⟩:ByteArray),(⟨#[82,101,100]⟩:ByteArray),(⟨#[97,112,112,108,101]⟩:ByteArray),(⟨#[97,112,112,108,101,115]⟩:ByteArray),(⟨#[112,105,101]⟩:ByteArray),(⟨#[116,104,101]⟩:ByteArray),(⟨#[111,102]⟩:ByteArray),(⟨#[103,108,97,115,115]⟩:ByteArray),(⟨#[98,117,115]⟩:ByteArray),(⟨#[116,114,101,101]⟩:ByteArray),(⟨#[116,114,101,101,115]⟩:ByteArray),(⟨#[55]⟩:ByteArray),(⟨#[118,101,114,121,108,111,110,103,119,111,114,100,105,110,100,101,101,100]⟩:ByteArray),(⟨#[97]⟩:ByteArray)] : List ByteArray))).bind fun tk=>(some (tk.1,tk.2))
theorem er.calls (k:Nat) (g:Nat) (s0_0:List Int) (s0_1:Int) (r1:ByteArray) (r2:Int) (w0 w:World) (hI:IsS114 w0 w g s0_0 s0_1) (hB:Below w0.heap.size w0 w) (h:er.f k s0_0 s0_1=some (r1,r2)) :
  Calls Tryz.prog 48 #[.pointer (some ⟨g,0,none⟩)] w fun e w'=>e = .returned (.string r1)∧IsS114 w0 w' g s0_0 r2∧Below w0.heap.size w0 w'∧KeepBut w w' g none:=by
 have HI0:=am_ hI;have HK:=am_ (KeepBut.refl w g none);have HL:=am_ hB.size;clear hI;have HW0:=am_ hB.size;have HB:=am_ hB;clear hB;have H:=h;clear h;unfold er.f at H
 generalize tm:((([(⟨#[114,101,100]⟩:ByteArray),(⟨#[82,101,100]⟩:ByteArray),(⟨#[97,112,112,108,101]⟩:ByteArray),(⟨#[97,112,112,108,101,115]⟩:ByteArray),(⟨#[112,105,101]⟩:ByteArray),(⟨#[116,104,101]⟩:ByteArray),(⟨#[111,102]⟩:ByteArray),(⟨#[103,108,97,115,115]⟩:ByteArray),(⟨#[98,117,115]⟩:ByteArray),(⟨#[116,114,101,101]⟩:ByteArray),(⟨#[116,114,101,101,115]⟩:ByteArray),(⟨#[55]⟩:ByteArray),(⟨#[118,101,114,121,108,111,110,103,119,111,114,100,105,110,100,101,101,100]⟩:ByteArray),(⟨#[97]⟩:ByteArray)] : List ByteArray)):List ByteArray)=tr at H;have tl:=am_ tm.symm;clear tm;obtain⟨⟨tn,tq⟩,A2,H⟩:=bi_ H;dsimp only at H;simp only[Option.some.injEq,Prod.mk.injEq] at H;obtain⟨rfl,rfl⟩:=H;go_enter Tryz.func48,Tryz.ntmps48
 go_wp2_with (first | ((with_reducible refine aA (N:=4) rfl ?_);refine Kd.R_lit Kd.string _ 9 ?hg (N:=4) ?hd (xs:=([(⟨#[114,101,100]⟩:ByteArray),(⟨#[82,101,100]⟩:ByteArray),(⟨#[97,112,112,108,101]⟩:ByteArray),(⟨#[97,112,112,108,101,115]⟩:ByteArray),(⟨#[112,105,101]⟩:ByteArray),(⟨#[116,104,101]⟩:ByteArray),(⟨#[111,102]⟩:ByteArray),(⟨#[103,108,97,115,115]⟩:ByteArray),(⟨#[98,117,115]⟩:ByteArray),(⟨#[116,114,101,101]⟩:ByteArray),(⟨#[116,114,101,101,115]⟩:ByteArray),(⟨#[55]⟩:ByteArray),(⟨#[118,101,114,121,108,111,110,103,119,111,114,100,105,110,100,101,101,100]⟩:ByteArray),(⟨#[97]⟩:ByteArray)] : List ByteArray)) (inner:=[.string (⟨#[114,101,100]⟩:ByteArray),.string (⟨#[82,101,100]⟩:ByteArray),.string (⟨#[97,112,112,108,101]⟩:ByteArray),.string (⟨#[97,112,112,108,101,115]⟩:ByteArray),.string (⟨#[112,105,101]⟩:ByteArray),.string (⟨#[116,104,101]⟩:ByteArray),.string (⟨#[111,102]⟩:ByteArray),.string (⟨#[103,108,97,115,115]⟩:ByteArray),.string (⟨#[98,117,115]⟩:ByteArray),.string (⟨#[116,114,101,101]⟩:ByteArray),.string (⟨#[116,114,101,101,115]⟩:ByteArray),.string (⟨#[55]⟩:ByteArray),.string (⟨#[118,101,114,121,108,111,110,103,119,111,114,100,105,110,100,101,101,100]⟩:ByteArray),.string (⟨#[97]⟩:ByteArray)]) (ok:=fun _=>True) (okp:=fun _=>True) ?hr ?hp (fun _ hk=>hk) trivial (Below.refl _ _) (Nat.le_refl _) bb ?_;(case hd=>rfl);(case hg=>rfl);(case hr=>exact bL);(case hp=>exact(Reps.one (show Kd.M Kd.string _ _ _ (⟨#[114,101,100]⟩:ByteArray) [.string (⟨#[114,101,100]⟩:ByteArray)] from rfl) (Reps.one (show Kd.M Kd.string _ _ _ (⟨#[82,101,100]⟩:ByteArray) [.string (⟨#[82,101,100]⟩:ByteArray)] from rfl) (Reps.one (show Kd.M Kd.string _ _ _ (⟨#[97,112,112,108,101]⟩:ByteArray) [.string (⟨#[97,112,112,108,101]⟩:ByteArray)] from rfl) (Reps.one (show Kd.M Kd.string _ _ _ (⟨#[97,112,112,108,101,115]⟩:ByteArray) [.string (⟨#[97,112,112,108,101,115]⟩:ByteArray)] from rfl) (Reps.one (show Kd.M Kd.string _ _ _ (⟨#[112,105,101]⟩:ByteArray) [.string (⟨#[112,105,101]⟩:ByteArray)] from rfl) (Reps.one (show Kd.M Kd.string _ _ _ (⟨#[116,104,101]⟩:ByteArray) [.string (⟨#[116,104,101]⟩:ByteArray)] from rfl) (Reps.one (show Kd.M Kd.string _ _ _ (⟨#[111,102]⟩:ByteArray) [.string (⟨#[111,102]⟩:ByteArray)] from rfl) (Reps.one (show Kd.M Kd.string _ _ _ (⟨#[103,108,97,115,115]⟩:ByteArray) [.string (⟨#[103,108,97,115,115]⟩:ByteArray)] from rfl) (Reps.one (show Kd.M Kd.string _ _ _ (⟨#[98,117,115]⟩:ByteArray) [.string (⟨#[98,117,115]⟩:ByteArray)] from rfl) (Reps.one (show Kd.M Kd.string _ _ _ (⟨#[116,114,101,101]⟩:ByteArray) [.string (⟨#[116,114,101,101]⟩:ByteArray)] from rfl) (Reps.one (show Kd.M Kd.string _ _ _ (⟨#[116,114,101,101,115]⟩:ByteArray) [.string (⟨#[116,114,101,101,115]⟩:ByteArray)] from rfl) (Reps.one (show Kd.M Kd.string _ _ _ (⟨#[55]⟩:ByteArray) [.string (⟨#[55]⟩:ByteArray)] from rfl) (Reps.one (show Kd.M Kd.string _ _ _ (⟨#[118,101,114,121,108,111,110,103,119,111,114,100,105,110,100,101,101,100]⟩:ByteArray) [.string (⟨#[118,101,114,121,108,111,110,103,119,111,114,100,105,110,100,101,101,100]⟩:ByteArray)] from rfl) (Reps.one (show Kd.M Kd.string _ _ _ (⟨#[97]⟩:ByteArray) [.string (⟨#[97]⟩:ByteArray)] from rfl) (Reps.none _ _))))))))))))))));intro tv w3 ho4 hb hg_ hnew_;clear hg_ hnew_;(first | rw[← tl.out] at ho4 | (simp only[Int.reduceToNat] at ho4;rw[← tl.out] at ho4));have tk:=am_ (Kd.R_lower ho4 (ak (w:=w) (g:=g) (row:=none) u0_));replace HK:=am_ (KeepBut.trans u0_ (KeepBut.of_below hb g none) (.inl rfl));replace HB:=am_ (av u3_ hb);replace HI0:=am_ (IsS114.below u2_ hb);clear hb ho4;obtain⟨tw,tx,tu⟩:=Kd.R_slice tk.out;subst tu)|((with_reducible refine gt_ 5 ?_);refine gf_ 5 Tryz.func42 (aV.calls k g s0_0 s0_1 _ _ tr tn tq w0 _ ?side1 ?side2 (kR_ tk) ?side4 ?side5 A2.out) ?_;(case side1=>exact fc);(case side2=>exact e6);(case side4=>exact(Kd.R_reads' tk.out).2.1);(case side5=>exact dv (IsS114.own_ne HI0.out tk.out ap));rintro e w6 ⟨rfl,hi,hb,hk⟩;refine⟨_,rfl,?_⟩;replace HK:=am_ (KeepBut.trans u0_ hk (.inl rfl));replace HB:=am_ (hb);replace HI0:=am_ (hi);(try clear hb);(try clear hk);(try clear hi)))
 go_ret
 exact⟨u1_,u2_,u3_,u0_⟩
def bK.l0:Nat→ByteArray→Int→List Int→Int→Option (ByteArray × Int)
 | 0,_,_,_,_=>none
 | k+1,x3,x4,tm,tn=>if x4>0 then((er.f k tm tn).bind fun tk=>(if x3.size+tk.1.size≤9223372036854775807 then((aV.f k tm tk.2 (([(⟨#[32]⟩:ByteArray),(⟨#[44,32]⟩:ByteArray),(⟨#[45]⟩:ByteArray),(⟨#[32]⟩:ByteArray),(⟨#[46]⟩:ByteArray)] : List ByteArray))).bind fun tl=>(if(x3 ++ tk.1).size+tl.1.size≤9223372036854775807 then(bK.l0 k ((x3 ++ tk.1) ++ tl.1) (wrap64 (x4 - 1)) tm tl.2) else(none))) else(none))) else(some (x3,tn))
def bK.f (k:Nat) (s0_0:List Int) (s0_1:Int):Option (ByteArray × Int):=(ac.f k s0_0 s0_1 6).bind fun tk=>(bK.l0 k (⟨#[]⟩:ByteArray) tk.1 s0_0 tk.2)
theorem bK.calls (k:Nat) (g:Nat) (s0_0:List Int) (s0_1:Int) (r1:ByteArray) (r2:Int) (w0 w:World) (hI:IsS114 w0 w g s0_0 s0_1) (hB:Below w0.heap.size w0 w) (h:bK.f k s0_0 s0_1=some (r1,r2)) :
  Calls Tryz.prog 156 #[.pointer (some ⟨g,0,none⟩)] w fun e w'=>e = .returned (.string r1)∧IsS114 w0 w' g s0_0 r2∧Below w0.heap.size w0 w'∧KeepBut w w' g none:=by
 have HI0:=am_ hI;have HK:=am_ (KeepBut.refl w g none);have HL:=am_ hB.size;clear hI;have HW0:=am_ hB.size;have HB:=am_ hB;clear hB;have H:=h;clear h;unfold bK.f at H
 obtain⟨⟨tz,tA⟩,A2,H⟩:=bi_ H;dsimp only at H;have H':=am_ H;clear H;go_enter Tryz.func156,Tryz.ntmps156
 go_wp2_with (first | ((with_reducible refine gt_ 6 ?_);refine gf_ 6 Tryz.func85 (ac.calls k g s0_0 s0_1 6 tz tA w0 _ ?side1 ?side2 A2.out) ?_;(case side1=>exact fc);(case side2=>exact e6);rintro e w3 ⟨rfl,hi,hb,hk⟩;refine⟨_,rfl,?_⟩;replace HK:=am_ (KeepBut.trans u0_ hk (.inl rfl));replace HB:=am_ (hb);replace HI0:=am_ (hi);(try clear hb);(try clear hk);(try clear hi)))
 go_loopg [3,4] k (fun kq v3 v4 w'=>∃(tn:ByteArray) (tl:Int) (tk:Int),v3 = .string tn∧v4 = .int .i64 tl∧aa (bK.l0 kq tn tl s0_0 tk=some (r1,r2))∧aa (kq≤k)∧aa (IsS114 w0 w' g s0_0 tk)∧aa (KeepBut w w' g none)∧aa (Below w0.heap.size w0 w'))
 case atStart=>exact⟨((⟨#[]⟩:ByteArray)),(tz),(tA),u4_,u4_,H',⟨Nat.le_refl _⟩,⟨u2_⟩,⟨u0_⟩,⟨u3_⟩⟩
 case round=>
  clear H';obtain⟨tn,tl,tk,rfl,rfl,HA,HK1,HI0,HK,HB⟩:=hrel;cases gk with
  | zero=>exact absurd HA.out (by simp[bK.l0])
  | succ k1=>
   have H:=HA.out;clear HA;simp only[bK.l0] at H;by_cases c4:tl>0
   ·rw[if_pos c4] at H;have tD:decide (0<tl)=true:=decide_eq_true c4;clear c4;obtain⟨⟨tu,tB⟩,A5,H⟩:=bi_ H;dsimp only at H;obtain⟨c6,H⟩:=gn_ H;have tH:=eq_true c6;have tI:=decide_eq_true c6;try have tJ:(9223372036854775807<tn.size+tu.size)=False:=eq_false (Nat.not_lt.2 c6)
    generalize tw:((([(⟨#[32]⟩:ByteArray),(⟨#[44,32]⟩:ByteArray),(⟨#[45]⟩:ByteArray),(⟨#[32]⟩:ByteArray),(⟨#[46]⟩:ByteArray)] : List ByteArray)):List ByteArray)=tF at H;have tv:=am_ tw.symm;clear tw;obtain⟨⟨tx,tC⟩,A7,H⟩:=bi_ H;dsimp only at H;obtain⟨c8,H⟩:=gn_ H;have tK:=eq_true c8;have tL:=decide_eq_true c8;try have tM:(9223372036854775807<(tn ++ tu).size+tx.size)=False:=eq_false (Nat.not_lt.2 c8)
    try have tq:=c8;try simp only[ByteArray.size_append,rU,List.size_toArray,List.length_cons,List.length_nil,Nat.zero_add,Nat.reduceAdd] at tq;try have tN:=eq_true tq;try have tO:=decide_eq_true tq;try have tP:=eq_false (Nat.not_lt.2 tq)
    try have tr:=tq;try simp at tr;try have tQ:=eq_true tr;try have tR:=decide_eq_true tr;try have c8bA:=eq_false (Nat.not_lt.2 tr)
    have H':=am_ H;clear H;go_wp2_with (first | ((with_reducible refine gt_ 13 ?_);refine gf_ 13 Tryz.func48 (er.calls k1 g s0_0 tk tu tB w0 _ ?side1 ?side2 A5.out) ?_;(case side1=>exact fc);(case side2=>exact e6);rintro e w9 ⟨rfl,hi,hb,hk⟩;refine⟨_,rfl,?_⟩;replace HK:=am_ (KeepBut.trans u0_ hk (.inl rfl));replace HB:=am_ (hb);replace HI0:=am_ (hi);(try clear hb);(try clear hk);(try clear hi))|((with_reducible refine aA (N:=16) rfl ?_);refine Kd.R_lit Kd.string _ 9 ?hg (N:=16) ?hd (xs:=([(⟨#[32]⟩:ByteArray),(⟨#[44,32]⟩:ByteArray),(⟨#[45]⟩:ByteArray),(⟨#[32]⟩:ByteArray),(⟨#[46]⟩:ByteArray)] : List ByteArray)) (inner:=[.string (⟨#[32]⟩:ByteArray),.string (⟨#[44,32]⟩:ByteArray),.string (⟨#[45]⟩:ByteArray),.string (⟨#[32]⟩:ByteArray),.string (⟨#[46]⟩:ByteArray)]) (ok:=fun _=>True) (okp:=fun _=>True) ?hr ?hp (fun _ hk=>hk) trivial (Below.refl _ _) (Nat.le_refl _) bb ?_;(case hd=>rfl);(case hg=>rfl);(case hr=>exact bL);(case hp=>exact(Reps.one (show Kd.M Kd.string _ _ _ (⟨#[32]⟩:ByteArray) [.string (⟨#[32]⟩:ByteArray)] from rfl) (Reps.one (show Kd.M Kd.string _ _ _ (⟨#[44,32]⟩:ByteArray) [.string (⟨#[44,32]⟩:ByteArray)] from rfl) (Reps.one (show Kd.M Kd.string _ _ _ (⟨#[45]⟩:ByteArray) [.string (⟨#[45]⟩:ByteArray)] from rfl) (Reps.one (show Kd.M Kd.string _ _ _ (⟨#[32]⟩:ByteArray) [.string (⟨#[32]⟩:ByteArray)] from rfl) (Reps.one (show Kd.M Kd.string _ _ _ (⟨#[46]⟩:ByteArray) [.string (⟨#[46]⟩:ByteArray)] from rfl) (Reps.none _ _)))))));intro tT tU ho11 hb hg_ hnew_;clear hg_ hnew_;(first | rw[← tv.out] at ho11 | (simp only[Int.reduceToNat] at ho11;rw[← tv.out] at ho11));have tm:=am_ (Kd.R_lower ho11 (ak (w:=w) (g:=g) (row:=none) u0_));replace HK:=am_ (KeepBut.trans u0_ (KeepBut.of_below hb g none) (.inl rfl));replace HB:=am_ (av u3_ hb);replace HI0:=am_ (IsS114.below u2_ hb);clear hb ho11;obtain⟨tG,tS,tE⟩:=Kd.R_slice tm.out;subst tE)|((with_reducible refine gt_ 17 ?_);refine gf_ 17 Tryz.func42 (aV.calls k1 g s0_0 tB _ _ tF tx tC w0 _ ?side1 ?side2 (kR_ tm) ?side4 ?side5 A7.out) ?_;(case side1=>exact fc);(case side2=>exact e6);(case side4=>exact(Kd.R_reads' tm.out).2.1);(case side5=>exact dv (IsS114.own_ne HI0.out tm.out ap));rintro e tV ⟨rfl,hi,hb,hk⟩;refine⟨_,rfl,?_⟩;replace HK:=am_ (KeepBut.trans u0_ hk (.inl rfl));replace HB:=am_ (hb);replace HI0:=am_ (hi);(try clear hb);(try clear hk);(try clear hi)))
    go_roundg k1
    case measure=>have:=HK1.out;omega
    case rel=>exact⟨((tn ++ tu) ++ tx),(wrap64 (tl - 1)),(tC),u4_,u4_,H',⟨dH⟩,⟨u2_⟩,⟨u0_⟩,⟨u3_⟩⟩
   ·rw[if_neg c4] at H;have tD:decide (0<tl)=false:=decide_eq_false c4;clear c4;simp only[Option.some.injEq,Prod.mk.injEq] at H;obtain⟨rfl,rfl⟩:=H;go_wp2;go_ret
    exact⟨u1_,u2_,u3_,u0_⟩
mutual
def aD.l0:Nat→List (S92)→List ByteArray→Int→List Int→Int→ByteArray→List (S86)→Option (ByteArray × (List (S86)) × Int)
 | 0,_,_,_,_,_,_,_=>none
 | k+1,x1,x6,x7,tm,tn,tk,tl=>if x7<(x6.length:Int) then(if 0≤x7 then((bk.f k x1 (bC ByteArray.empty x6 x7)).bind fun tr=>(if tr<0 then(aD.j1 k x1 x6 x7 tr true tm tn tk tl) else((ac.f k tm tn 4).bind fun tq=>(aD.j1 k x1 x6 x7 tr (tq.1 == 0) tm tq.2 tk tl)))) else(none)) else(some (tk,tl,tn))
def aD.j1:Nat→List (S92)→List ByteArray→Int→Int→Bool→List Int→Int→ByteArray→List (S86)→Option (ByteArray × (List (S86)) × Int)
 | 0,_,_,_,_,_,_,_,_,_=>none
 | k+1,x1,x6,x7,x8,tv,tm,tu,tl,tk=>if tv=true then(aD.l0 k x1 x6 (wrap64 (x7+1)) tm tu tl tk) else(if 0≤x7 then(if x7<(x6.length:Int) then((bK.f k tm tu).bind fun tn=>(if 0≤x8 then(if x8<(x1.length:Int) then(if((az x1 x8).f1)=2 then((aV.f k tm tn.2 (([(⟨#[48]⟩:ByteArray),(⟨#[53]⟩:ByteArray),(⟨#[55]⟩:ByteArray),(⟨#[45,51]⟩:ByteArray),(⟨#[49,50]⟩:ByteArray),(⟨#[57,57,57,57,57,57,57,57,57]⟩:ByteArray)] : List ByteArray))).bind fun tq=>(if tk.length<4398046511104 then(aD.l0 k x1 x6 (wrap64 (x7+1)) tm tq.2 tl (tk ++ [(⟨bC ByteArray.empty x6 x7,tq.1⟩:S86)])) else(none))) else(if((az x1 x8).f1)=3 then((aV.f k tm tn.2 (([(⟨#[114,101,100]⟩:ByteArray),(⟨#[98,108,117,101]⟩:ByteArray),(⟨#[114,101,100,44,98,108,117,101]⟩:ByteArray),(⟨#[98,108,117,101,44,114,101,100,44,114,101,100]⟩:ByteArray),(⟨#[103,114,101,101,110]⟩:ByteArray)] : List ByteArray))).bind fun tr=>(if tk.length<4398046511104 then(aD.l0 k x1 x6 (wrap64 (x7+1)) tm tr.2 tl (tk ++ [(⟨bC ByteArray.empty x6 x7,tr.1⟩:S86)])) else(none))) else(if tk.length<4398046511104 then(aD.l0 k x1 x6 (wrap64 (x7+1)) tm tn.2 tl (tk ++ [(⟨bC ByteArray.empty x6 x7,tn.1⟩:S86)])) else(none)))) else(none)) else(none))) else(none)) else(none))
end
def aD.f (k:Nat) (s0_0:List Int) (s0_1:Int) (l1:List (S92)):Option (ByteArray × (List (S86)) × Int):=(aV.f k s0_0 s0_1 (([(⟨#[97]⟩:ByteArray),(⟨#[98]⟩:ByteArray),(⟨#[99]⟩:ByteArray),(⟨#[100]⟩:ByteArray),(⟨#[101]⟩:ByteArray),(⟨#[107,57]⟩:ByteArray)] : List ByteArray))).bind fun tk=>(aD.l0 k l1 (([(⟨#[98,111,100,121]⟩:ByteArray),(⟨#[99,111,108,111,114]⟩:ByteArray),(⟨#[112,114,105,99,101]⟩:ByteArray),(⟨#[116,105,116,108,101]⟩:ByteArray)] : List ByteArray)) 0 s0_0 tk.2 tk.1 ([] : List (S86)))
def aD.T8:Bool × List (List Nat × List Nat):=(true,[([],[]),([],[]),([0,1],[0,1]),([2],[2]),([],[]),([4],[4]),([3,5],[3,5]),([],[]),([7,6,5,0,1,2,3,4,5,6,7],[6,7])])
def aD.B8:List Nat:=[0,0,3,7,0,16,63,0,255]
theorem aD.tab8:dC .any (fk Tryz.f127 8)=aD.T8:=by kernel_rfl
theorem aD.bits8:dc aD.T8.2 aD.B8=true:=by kernel_rfl
theorem aD.calls (k:Nat) (g:Nat) (s0_0:List Int) (s0_1:Int) (A1:Option Addr) (c1:Nat) (l1:List (S92)) (r1:ByteArray) (r2:List (S86)) (r3:Int) (w0 w:World) (hI:IsS114 w0 w g s0_0 s0_1) (hB:Below w0.heap.size w0 w) (hr1:∀W_,KeepBut w W_ g none→Kd.C k92 W_ A1 l1.length l1) (hc1:l1.length≤c1) (h:aD.f k s0_0 s0_1 l1=some (r1,r2,r3)) :
  Calls Tryz.prog 127 #[.pointer (some ⟨g,0,none⟩),.slice A1 l1.length c1] w fun e w'=>∃v1_:Value,e = .returned (.agg #[.string r1,v1_])∧Kd.R k86 86 w' w.heap.size (fun _=>True) v1_ r2∧IsS114 w0 w' g s0_0 r3∧Below w0.heap.size w0 w'∧KeepBut w w' g none:=by
 have hu44:=Tryz.underlying44;have hu86:=Tryz.underlying86;have Zc:=am_ hr1;have xK:=am_ hc1;clear hr1 hc1;have HI0:=am_ hI;have HK:=am_ (KeepBut.refl w g none);have HL:=am_ hB.size;clear hI;have HW0:=am_ hB.size;have HB:=am_ hB;clear hB;have H:=h;clear h;unfold aD.f at H
 generalize uo:((([(⟨#[97]⟩:ByteArray),(⟨#[98]⟩:ByteArray),(⟨#[99]⟩:ByteArray),(⟨#[100]⟩:ByteArray),(⟨#[101]⟩:ByteArray),(⟨#[107,57]⟩:ByteArray)] : List ByteArray)):List ByteArray)=wE at H;have uj:=am_ uo.symm;clear uo;obtain⟨⟨tH,ub⟩,A3,H⟩:=bi_ H;dsimp only at H;generalize uq:((([(⟨#[98,111,100,121]⟩:ByteArray),(⟨#[99,111,108,111,114]⟩:ByteArray),(⟨#[112,114,105,99,101]⟩:ByteArray),(⟨#[116,105,116,108,101]⟩:ByteArray)] : List ByteArray)):List ByteArray)=tu at H;have uk:=am_ uq.symm;clear uq;have H':=am_ H;clear H;go_enter Tryz.func127,Tryz.ntmps127
 go_wp2_with (first | ((with_reducible refine gt_ 4 ?_);refine bx_ 4 #[.string (⟨#[]⟩:ByteArray),.slice none 0 0] 44 ?_;intro tv hg w4 hbox hb;replace HB:=am_ (av u3_ hb);have tm:=am_ (hbox);have YJ:=Ge.mk ((by rw[hg];exact(ak (w:=w) (g:=g) (row:=none) u0_):w.heap.size≤tv));have Y7:=Ge.mk ((Nat.le_trans HW0.out (by rw[hg];exact(ak (w:=w) (g:=g) (row:=none) u0_):w.heap.size≤tv):w0.heap.size≤tv));replace HK:=am_ (KeepBut.trans u0_ (KeepBut.of_below hb g none) (.inl rfl));have Zp:=Nb.mk ((by rw[hg];exact Nat.ne_of_lt (IsS114.lt (show IsS114 w0 _ g s0_0 s0_1 from u2_)):g≠tv));have tI:=Nb.mk ((by rw[hg];exact Nat.ne_of_gt (IsS114.lt (show IsS114 w0 _ g s0_0 s0_1 from u2_)):tv≠g));replace HI0:=am_ (IsS114.below u2_ hb);clear hb hbox hg)|((with_reducible refine aA (N:=11) rfl ?_);refine Kd.R_lit Kd.string _ 9 ?hg (N:=11) ?hd (xs:=([(⟨#[97]⟩:ByteArray),(⟨#[98]⟩:ByteArray),(⟨#[99]⟩:ByteArray),(⟨#[100]⟩:ByteArray),(⟨#[101]⟩:ByteArray),(⟨#[107,57]⟩:ByteArray)] : List ByteArray)) (inner:=[.string (⟨#[97]⟩:ByteArray),.string (⟨#[98]⟩:ByteArray),.string (⟨#[99]⟩:ByteArray),.string (⟨#[100]⟩:ByteArray),.string (⟨#[101]⟩:ByteArray),.string (⟨#[107,57]⟩:ByteArray)]) (ok:=fun _=>True) (okp:=fun _=>True) ?hr ?hp (fun _ hk=>hk) trivial (Below.refl _ _) (Nat.le_refl _) bb ?_;(case hd=>rfl);(case hg=>rfl);(case hr=>exact bL);(case hp=>exact(Reps.one (show Kd.M Kd.string _ _ _ (⟨#[97]⟩:ByteArray) [.string (⟨#[97]⟩:ByteArray)] from rfl) (Reps.one (show Kd.M Kd.string _ _ _ (⟨#[98]⟩:ByteArray) [.string (⟨#[98]⟩:ByteArray)] from rfl) (Reps.one (show Kd.M Kd.string _ _ _ (⟨#[99]⟩:ByteArray) [.string (⟨#[99]⟩:ByteArray)] from rfl) (Reps.one (show Kd.M Kd.string _ _ _ (⟨#[100]⟩:ByteArray) [.string (⟨#[100]⟩:ByteArray)] from rfl) (Reps.one (show Kd.M Kd.string _ _ _ (⟨#[101]⟩:ByteArray) [.string (⟨#[101]⟩:ByteArray)] from rfl) (Reps.one (show Kd.M Kd.string _ _ _ (⟨#[107,57]⟩:ByteArray) [.string (⟨#[107,57]⟩:ByteArray)] from rfl) (Reps.none _ _))))))));intro xT w5 ho6 hb hg_ hnew_;clear hg_ hnew_;(first | rw[← uj.out] at ho6 | (simp only[Int.reduceToNat] at ho6;rw[← uj.out] at ho6));have tL:=am_ (Kd.R_lower ho6 (ak (w:=w) (g:=g) (row:=none) u47_));replace tm:=bb_ tm hb;replace HK:=am_ (KeepBut.trans u47_ (KeepBut.of_below hb g none) (.inl rfl));replace HB:=am_ (av u100_ hb);replace HI0:=am_ (IsS114.below u51_ hb);clear hb ho6;obtain⟨yc,yd,xO⟩:=Kd.R_slice tL.out;subst xO)|((with_reducible refine gt_ 12 ?_);refine gf_ 12 Tryz.func42 (aV.calls k g s0_0 s0_1 _ _ wE tH ub w0 _ ?side1 ?side2 (kR_ tL) ?side4 ?side5 A3.out) ?_;(case side1=>repeat (first | (with_reducible first | exact HI0.out | apply IsS114.alloc | apply IsS114.drewN | apply IsS114.drew | apply IsS114.set_1 | refine IsS114.far ?_ Zp.out _) | exact HI0.out));(case side2=>repeat (first | (with_reducible first | exact HB.out | apply aE | apply al | apply au | refine aN ?_ (IsS114.ge HI0.out) | refine aN ?_ Y7.out) | exact HB.out));(case side4=>exact(Kd.R_reads' tL.out).2.1);(case side5=>exact dv (IsS114.own_ne HI0.out tL.out ap));rintro e w8 ⟨rfl,hi,hb,hk⟩;refine⟨_,rfl,?_⟩;replace tm:=am_ (KeepBut.blk hk (g':=tv) (o:=.cells #[.string (⟨#[]⟩:ByteArray),.slice none 0 0] 44 (0,0)) (pb_ tm) tI.out bb);replace tL:=am_ (Kd.R_mono (Kd.R_keep (IsS114.apart (show IsS114 w0 _ g s0_0 s0_1 from u51_) (aR_ tL.out) ap) hk (fun _ h=>h.2)) (fun _ h=>h.1));replace HK:=am_ (KeepBut.trans u47_ hk (.inl rfl));replace HB:=am_ (hb);replace HI0:=am_ (hi);(try clear hb);(try clear hk);(try clear hi))|((with_reducible refine gt_ 5 ?_);refine bx_ 5 #[.string (⟨#[]⟩:ByteArray),.slice none 0 0] 44 ?_;intro tr hg w9 hbox hb;replace tL:=am_ (Kd.R_below (aR_ tL.out) hb);replace HB:=am_ (av u100_ hb);have tl:=am_ (hbox);have YE:=Ge.mk ((by rw[hg];exact(ak (w:=w) (g:=g) (row:=none) u47_):w.heap.size≤tr));have YQ:=Ge.mk ((Nat.le_trans HW0.out (by rw[hg];exact(ak (w:=w) (g:=g) (row:=none) u47_):w.heap.size≤tr):w0.heap.size≤tr));replace HK:=am_ (KeepBut.trans u47_ (KeepBut.of_below hb g none) (.inl rfl));have tF:=nl_ tm hg;have tG:=ng_ tm hg;replace tm:=bb_ tm hb;have Zv:=Nb.mk ((by rw[hg];exact Nat.ne_of_lt (IsS114.lt (show IsS114 w0 _ g s0_0 ub from u51_)):g≠tr));have tC:=Nb.mk ((by rw[hg];exact Nat.ne_of_gt (IsS114.lt (show IsS114 w0 _ g s0_0 ub from u51_)):tr≠g));replace HI0:=am_ (IsS114.below u51_ hb);clear hb hbox hg;have wN:=tG.out;have xh:=tF.out;have wO:=tC.out;have xi:=Zv.out;obtain⟨tY,tZ,t6,t7⟩:=b6 tl.out)|((with_reducible refine aA (N:=14) rfl ?_);refine Kd.R_lit Kd.string _ 9 ?hg (N:=14) ?hd (xs:=([(⟨#[98,111,100,121]⟩:ByteArray),(⟨#[99,111,108,111,114]⟩:ByteArray),(⟨#[112,114,105,99,101]⟩:ByteArray),(⟨#[116,105,116,108,101]⟩:ByteArray)] : List ByteArray)) (inner:=[.string (⟨#[98,111,100,121]⟩:ByteArray),.string (⟨#[99,111,108,111,114]⟩:ByteArray),.string (⟨#[112,114,105,99,101]⟩:ByteArray),.string (⟨#[116,105,116,108,101]⟩:ByteArray)]) (ok:=fun _=>True) (okp:=fun _=>True) ?hr ?hp (fun _ hk=>hk) trivial (Below.refl _ _) (Nat.le_refl _) bb ?_;(case hd=>rfl);(case hg=>rfl);(case hr=>exact bL);(case hp=>exact(Reps.one (show Kd.M Kd.string _ _ _ (⟨#[98,111,100,121]⟩:ByteArray) [.string (⟨#[98,111,100,121]⟩:ByteArray)] from rfl) (Reps.one (show Kd.M Kd.string _ _ _ (⟨#[99,111,108,111,114]⟩:ByteArray) [.string (⟨#[99,111,108,111,114]⟩:ByteArray)] from rfl) (Reps.one (show Kd.M Kd.string _ _ _ (⟨#[112,114,105,99,101]⟩:ByteArray) [.string (⟨#[112,114,105,99,101]⟩:ByteArray)] from rfl) (Reps.one (show Kd.M Kd.string _ _ _ (⟨#[116,105,116,108,101]⟩:ByteArray) [.string (⟨#[116,105,116,108,101]⟩:ByteArray)] from rfl) (Reps.none _ _))))));intro wD ye ho14 hb hg_ hnew_;clear hg_ hnew_;(first | rw[← uk.out] at ho14 | (simp only[Int.reduceToNat] at ho14;rw[← uk.out] at ho14));have uL:=am_ (Kd.R_lower (Kd.R_new' ho14 (Kd.R_lt (aR_ (Kd.R_mono (Kd.R_far (p:=⟨tr,1,none⟩) (Kd.R_far (p:=⟨tr,0,none⟩) (Kd.R_types tL.out tl.out ap) (fun _ hk=>hk.2) (.string tH)) (fun _ hk=>hk.2) (.slice none 0 0)) (fun _ h_=>h_.1))))) (ak (w:=w) (g:=g) (row:=none) iA));replace tm:=bb_ tm hb;replace tl:=am_ (bE (g:=tr) (o:=.cells #[.string tH,.slice none 0 0] 44 (0,0)) (pb_ tl) hb);replace HK:=am_ (KeepBut.trans iA (KeepBut.of_below hb g none) (.inl rfl));replace HB:=am_ (av oV hb);replace HI0:=am_ (IsS114.below (show IsS114 w0 ((w9.setCell ⟨tr,0,none⟩ (.string tH)).setCell ⟨tr,1,none⟩ (.slice none 0 0)) g s0_0 ub from iB) hb);clear hb ho14))
 go_loopg [7] k (fun kq v7 w'=>∃(tq:Int) (tJ:Int) (tn:List (S86)) (u146001:Value),v7 = .int .i64 tq∧aa (aD.l0 kq l1 tu tq s0_0 tJ tH tn=some (r1,r2,r3))∧aa (kq≤k)∧aa (Kd.R Kd.string 9 w' w.heap.size (fun _=>True) wD tu)∧aa (Kd.R k86 86 w' w.heap.size (fun _=>True) u146001 tn)∧aa (w'.heap[tv]? = some (.cells #[.string (⟨#[]⟩:ByteArray),(.slice none 0 0)] 44 (0,0)))∧aa (w'.heap[tr]? = some (.cells #[.string tH,u146001] 44 (0,0)))∧aa (IsS114 w0 w' g s0_0 tJ)∧aa (KeepBut w w' g none)∧aa (Below w0.heap.size w0 w'))
 case atStart=>exact⟨(0),(ub),(([] : List (S86))),(.slice none 0 0),u4_,H',⟨Nat.le_refl _⟩,⟨by(with_reducible repeat (first | apply Kd.R_alloc | apply Kd.R_drewN | apply Kd.R_drew));exact Kd.R_mono uL.out (fun _ hk=>trivial)⟩,⟨u127_⟩,⟨pb_ tm⟩,⟨pb_ tl⟩,⟨iB⟩,⟨iA⟩,⟨oV⟩⟩
 case round=>
  clear H';try clear c1
  try clear tY tZ t6 t7
  obtain⟨tq,tJ,tn,u146001,rfl,HA,HK1,Z0,Z9,tm,tl,HI0,HK,HB⟩:=hrel;cases gk with
  | zero=>exact absurd HA.out (by simp[aD.l0])
  | succ k1=>
   have H:=HA.out;clear HA;simp only[aD.l0] at H;by_cases uA:tq<(tu.length:Int)
   ·rw[if_pos uA] at H;have un:=decide_eq_true uA;clear uA;obtain⟨uT,H⟩:=gd_ H;obtain⟨tV,xC,H⟩:=bi_ H;have uz:=am_ H;clear H;obtain⟨xG,uD,wn⟩:=Kd.R_slice Z0.out;subst wn;obtain⟨tM,wk,uc⟩:=Kd.at_string (Kd.R_reads' Z0.out).2.2 tq od_ od_;cases wk;obtain⟨wA,wC⟩:=pt_ tq tu.length;go_upto_region 7 with (first | ((with_reducible refine gt_ 26 ?_);refine gD_ 26 Tryz.func96 (bk.calls k1 _ _ l1 (bC ByteArray.empty tu tq) tV _ ?side1 xK.out xC.out) ?_;(case side1=>exact Kd.C_foot_now Zc.out iA);intro nd))
    (try simp only[Act.put,List.setIfInBounds_toArray,List.set_cons_zero,List.set_cons_succ])
    go_cut [33] (fun xZ wc=>∃(kq:Nat) (tP:Bool) (tw:Int),xZ = .bool tP∧aa (aD.j1 kq l1 tu tq tV tP s0_0 tw tH tn=some (r1,r2,r3))∧aa (kq≤k1)∧aa (Kd.R Kd.string 9 wc w.heap.size (fun _=>True) (.slice (some tM) tu.length uD) tu)∧aa (Kd.R k86 86 wc w.heap.size (fun _=>True) u146001 tn)∧aa (wc.heap[tv]? = some (.cells #[.string (⟨#[]⟩:ByteArray),(.slice none 0 0)] 44 (0,0)))∧aa (wc.heap[tr]? = some (.cells #[.string tH,u146001] 44 (0,0)))∧aa (IsS114 w0 wc g s0_0 tw)∧aa (KeepBut w wc g none)∧aa (Below w0.heap.size w0 wc))
    case first=>
     have H:=uz.out;clear uz;by_cases uJ:tV<0
     ·rw[if_pos uJ] at H;have tQ:=decide_eq_true uJ;clear uJ;(first | rw[tQ] | (simp only[aC,aG];rw[tQ]) | skip)
      have H':=am_ H;clear H;go_wp2;go_meet
      case rel=>exact⟨_,(true),(tJ),u4_,H',⟨kL⟩,⟨aR_ Z0.out⟩,⟨aR_ Z9.out⟩,⟨pb_ tm⟩,⟨pb_ tl⟩,⟨iB⟩,⟨iA⟩,⟨oV⟩⟩
     ·rw[if_neg uJ] at H;have tQ:=decide_eq_false uJ;clear uJ;(first | rw[tQ] | (simp only[aC,aG];rw[tQ]) | skip)
      obtain⟨⟨uX,uY⟩,xD,H⟩:=bi_ H;dsimp only at H;have H':=am_ H;clear H;go_wp2_with (first | (go_at_call 85;(with_reducible refine(ac.calls k1 g s0_0 tJ 4 uX uY w0 _ ?side1 ?side2 xD.out).mono ?_);(case side1=>exact u94_);(case side2=>exact u93_);rintro e yf ⟨rfl,hi,hb,hk⟩;replace Z0:=am_ (Kd.R_mono (Kd.R_keep (IsS114.apart (show IsS114 w0 _ g s0_0 tJ from iB) (aR_ Z0.out) ap) hk (fun _ h=>h.2)) (fun _ h=>h.1));replace Z9:=am_ (Kd.R_mono (Kd.R_keep (IsS114.apart (show IsS114 w0 _ g s0_0 tJ from iB) (aR_ Z9.out) ap) hk (fun _ h=>h.2)) (fun _ h=>h.1));replace tm:=am_ (KeepBut.blk hk (g':=tv) (o:=.cells #[.string (⟨#[]⟩:ByteArray),.slice none 0 0] 44 (0,0)) (pb_ tm) tI.out bb);replace tl:=am_ (KeepBut.blk hk (g':=tr) (o:=.cells #[.string tH,u146001] 44 (0,0)) (pb_ tl) tC.out bb);replace HK:=am_ (KeepBut.trans iA hk (.inl rfl));replace HB:=am_ (hb);replace HI0:=am_ (hi);(try clear hb);(try clear hk);(try clear hi)))
      go_meet
      case rel=>exact⟨_,((uX == 0)),(uY),u4_,H',⟨kL⟩,⟨aR_ Z0.out⟩,⟨aR_ Z9.out⟩,⟨pb_ tm⟩,⟨pb_ tl⟩,⟨iB⟩,⟨iA⟩,⟨oV⟩⟩
    case rest=>
     clear uz;try clear c1
     try clear uA
     try clear un
     try clear uT
     try clear tY tZ t6 t7
     try clear uc
     try clear wA
     try clear wC
     obtain⟨kq,tP,tw,rfl,HA,YI,Z0,Z9,tm,tl,HI0,HK,HB⟩:=hcut;cases kq with
     | zero=>exact absurd HA.out (by simp[aD.j1])
     | succ tT=>
      have H:=HA.out;clear HA;simp only[aD.j1] at H;cases tP
      ·replace H:=hf_ H;obtain⟨wJ,H⟩:=gd_ H;obtain⟨wK,H⟩:=gd_ H;obtain⟨⟨tE,tK⟩,wH,H⟩:=bi_ H;dsimp only at H;obtain⟨wL,H⟩:=gd_ H;obtain⟨wM,H⟩:=gd_ H;have HC_:=am_ H;clear H;try go_wp2
       replace Z0:=am_ (Kd.R_drew Z0.out);replace Z9:=am_ (Kd.R_drew Z9.out);replace tm:=am_ (bf tm.out);replace tl:=am_ (bf tl.out);replace HI0:=am_ (IsS114.drew HI0.out);replace HK:=am_ (dB HK.out);replace HB:=am_ (au HB.out);obtain⟨uS,wl,t8⟩:=Kd.at_string (Kd.R_reads' Z0.out).2.2 tq od_ od_;obtain rfl:tM=uS:=(by injection wl);obtain⟨xP,xR⟩:=pt_ tq tu.length;refine cN (n:=9) (S:=fun w'=>w'.cell? (tM.add (tq).toNat)=some (.string (bC ByteArray.empty tu tq))) (ds:=[]) (bm_ 9 0) bT rfl rfl (t8) (fun hHeld=>?_);refine bu aD.tab8 aD.bits8 (fun HT_ HW_=>?_);generalize wc.drew=yg at Z0 Z9 tm tl HI0 HK HB t8 hHeld ⊢;refine pv_ 0 34 ?_;refine pv_ 1 35 ?_;refine pv_ 2 36 ?_;refine pv_ 4 38 ?_;refine take_ (i:=3) (N:=some 37) (v:=?_) (a':=?_) (bm_ 9 31) rfl rfl (ms HT_.out HW_.out bT) (fun _ _ _ h=>h) (Or.inl ⟨ct,?_⟩) hHeld ?_ ?_;rotate_left
       ·intro w' s0;go_simp;with_reducible rfl
       rotate_left
       ·simp only[Act.put,List.setIfInBounds_toArray,List.set_cons_zero,List.set_cons_succ,aC,aG];rfl
       refine lP (σ:=Nat) 1 (bm_ 9 255) (fun s_=>[(39,.string tE),(9,.pointer (some ⟨s_,0,none⟩)),(40,.agg #[.string (bC ByteArray.empty tu tq),.string tE])]) (fun s_ w'=>(w'.cell? (tM.add (tq).toNat)=some (.string (bC ByteArray.empty tu tq)))∧(Kd.R k86 86 w' w.heap.size (fun k_=>k_≠s_) u146001 tn)∧(Kd.R Kd.string 9 w' w.heap.size (fun _=>True) (.slice (some tM) tu.length uD) tu)∧(w'.heap[tv]? = some (.cells #[.string (⟨#[]⟩:ByteArray),.slice none 0 0] 44 (0,0)))∧(w'.heap[tr]? = some (.cells #[.string tH,u146001] 44 (0,0)))∧(w'.heap[s_]? = some (.cells #[.string (⟨#[]⟩:ByteArray),.string (⟨#[]⟩:ByteArray)] 86 (0,0)))∧(w.heap.size≤s_)∧(w0.heap.size≤s_)∧(g≠s_)∧(s_≠g)∧(tv≠s_)∧(s_≠tv)∧(tr≠s_)∧(s_≠tr)∧(IsS114 w0 w' g s0_0 tK)∧(KeepBut w w' g none)∧(Below w0.heap.size w0 w')) ?_ ?_;rotate_left
       ·intro hCont;refine lK (i:=5) (j:=7) (Ni:=some 39) (Nj:=some 9) (bm_ 9 63) (bm_ 9 159) rfl rfl rfl rfl (fL HT_.out bT) ap ap (fun K hK=>?_) (fun K hK=>?_)
        ·skip
         refine go_ Tryz.func156 (bK.calls tT g s0_0 tw tE tK w0 _ ?side1 ?side2 wH.out) ?_;(case side1=>exact u94_)
         (case side2=>exact u93_)
         rintro e ya ⟨rfl,hi,hb,hk⟩;have tU:=io hk (hHeld) u152_;refine⟨_,rfl,?_⟩;replace Z0:=am_ (Kd.R_mono (Kd.R_keep (IsS114.apart (show IsS114 w0 _ g s0_0 tw from iB) (aR_ Z0.out) ap) hk (fun _ h=>h.2)) (fun _ h=>h.1));replace Z9:=am_ (Kd.R_mono (Kd.R_keep (IsS114.apart (show IsS114 w0 _ g s0_0 tw from iB) (aR_ Z9.out) ap) hk (fun _ h=>h.2)) (fun _ h=>h.1));replace tm:=am_ (KeepBut.blk hk (g':=tv) (o:=.cells #[.string (⟨#[]⟩:ByteArray),.slice none 0 0] 44 (0,0)) (pb_ tm) tI.out bb);replace tl:=am_ (KeepBut.blk hk (g':=tr) (o:=.cells #[.string tH,u146001] 44 (0,0)) (pb_ tl) tC.out bb);replace HK:=am_ (KeepBut.trans iA hk (.inl rfl));replace HB:=am_ (hb);replace HI0:=am_ (hi);(try clear hb)
         (try clear hk)
         (try clear hi)
         refine hK.out _ _ (tU) (fun hHeld=>?_);clear hK K;refine nm_ ?_;refine pv_ 6 40 ?_;refine ov_ 7 9 (fun K hK=>?_);refine o9 ?hg (N:=9) ?hd (cs:=#[.string (⟨#[]⟩:ByteArray),.string (⟨#[]⟩:ByteArray)]) (t:=86) ?hr ?_;(case hd=>rfl);(case hg=>rfl);(case hr=>exact bL);intro tk hg yb hbox hb;have tU:=(hb.cell (World.block_lt_of_cell? _ _ (hHeld))).trans (hHeld);replace Z0:=am_ (Kd.R_below (aR_ Z0.out) hb);replace Z9:=am_ (Kd.R_below (Kd.R_elderB (aR_ Z9.out) tk (Nat.le_of_eq hg.symm)) hb);replace HB:=am_ (av oV hb);have ZV:=am_ (hbox);have Y0:=Ge.mk ((by rw[hg];exact(ak (w:=w) (g:=g) (row:=none) iA):w.heap.size≤tk));have Y6:=Ge.mk ((Nat.le_trans HW0.out (by rw[hg];exact(ak (w:=w) (g:=g) (row:=none) iA):w.heap.size≤tk):w0.heap.size≤tk));replace HK:=am_ (KeepBut.trans iA (KeepBut.of_below hb g none) (.inl rfl));have tx:=nl_ tm hg;have tA:=ng_ tm hg;replace tm:=bb_ tm hb;have tz:=nl_ tl hg;have tB:=ng_ tl hg;replace tl:=bb_ tl hb;have Zu:=Nb.mk ((by rw[hg];exact Nat.ne_of_lt (IsS114.lt (show IsS114 w0 _ g s0_0 tK from iB)):g≠tk));have tD:=Nb.mk ((by rw[hg];exact Nat.ne_of_gt (IsS114.lt (show IsS114 w0 _ g s0_0 tK from iB)):tk≠g));replace HI0:=am_ (IsS114.below iB hb);clear hb hbox hg;refine hK.out _ _ (tU) (fun hHeld=>?_);clear hK K;refine nm_ ?_;exact ea gS (hCont (tk) _ ⟨hHeld,u128_,(aR_ Z0.out),(pb_ tm),(pb_ tl),(pb_ ZV),Y0.out,Y6.out,Zu.out,tD.out,tx.out,tA.out,tz.out,tB.out,iD,gF,mK⟩)
        ·skip
         refine o9 ?hg (N:=9) ?hd (cs:=#[.string (⟨#[]⟩:ByteArray),.string (⟨#[]⟩:ByteArray)]) (t:=86) ?hr ?_;(case hd=>rfl);(case hg=>rfl);(case hr=>exact bL);intro tk hg ya hbox hb;have tU:=(hb.cell (World.block_lt_of_cell? _ _ (hHeld))).trans (hHeld);replace Z0:=am_ (Kd.R_below (aR_ Z0.out) hb);replace Z9:=am_ (Kd.R_below (Kd.R_elderB (aR_ Z9.out) tk (Nat.le_of_eq hg.symm)) hb);replace HB:=am_ (av oV hb);have ZV:=am_ (hbox);have Y0:=Ge.mk ((by rw[hg];exact(ak (w:=w) (g:=g) (row:=none) iA):w.heap.size≤tk));have Y6:=Ge.mk ((Nat.le_trans HW0.out (by rw[hg];exact(ak (w:=w) (g:=g) (row:=none) iA):w.heap.size≤tk):w0.heap.size≤tk));replace HK:=am_ (KeepBut.trans iA (KeepBut.of_below hb g none) (.inl rfl));have tx:=nl_ tm hg;have tA:=ng_ tm hg;replace tm:=bb_ tm hb;have tz:=nl_ tl hg;have tB:=ng_ tl hg;replace tl:=bb_ tl hb;have Zu:=Nb.mk ((by rw[hg];exact Nat.ne_of_lt (IsS114.lt (show IsS114 w0 _ g s0_0 tw from iB)):g≠tk));have tD:=Nb.mk ((by rw[hg];exact Nat.ne_of_gt (IsS114.lt (show IsS114 w0 _ g s0_0 tw from iB)):tk≠g));replace HI0:=am_ (IsS114.below iB hb);clear hb hbox hg;refine hK.out _ _ (tU) (fun hHeld=>?_);clear hK K;refine nm_ ?_;refine ov_ 5 39 (fun K hK=>?_);refine go_ Tryz.func156 (bK.calls tT g s0_0 tw tE tK w0 _ ?side1 ?side2 wH.out) ?_;(case side1=>exact u64_)
         (case side2=>exact u63_)
         rintro e yb ⟨rfl,hi,hb,hk⟩;have tU:=io hk (hHeld) u152_;refine⟨_,rfl,?_⟩;replace Z0:=am_ (Kd.R_mono (Kd.R_keep (IsS114.apart (show IsS114 w0 _ g s0_0 tw from iD) (aR_ Z0.out) ap) hk (fun _ h=>h.2)) (fun _ h=>h.1));replace Z9:=am_ (Kd.R_mono (Kd.R_keep (IsS114.apart (show IsS114 w0 _ g s0_0 tw from iD) (aR_ Z9.out) ap) hk (fun _ h=>h.2)) (fun _ h=>h.1));replace tm:=am_ (KeepBut.blk hk (g':=tv) (o:=.cells #[.string (⟨#[]⟩:ByteArray),.slice none 0 0] 44 (0,0)) (pb_ tm) tI.out bb);replace tl:=am_ (KeepBut.blk hk (g':=tr) (o:=.cells #[.string tH,u146001] 44 (0,0)) (pb_ tl) tC.out bb);replace ZV:=am_ (KeepBut.blk hk (g':=tk) (o:=.cells #[.string (⟨#[]⟩:ByteArray),.string (⟨#[]⟩:ByteArray)] 86 (0,0)) (pb_ ZV) tD.out bb);replace HK:=am_ (KeepBut.trans gF hk (.inl rfl));replace HB:=am_ (hb);replace HI0:=am_ (hi);(try clear hb)
         (try clear hk)
         (try clear hi)
         refine hK.out _ _ (tU) (fun hHeld=>?_);clear hK K;refine nm_ ?_;refine pv_ 6 40 ?_;exact ea gS (hCont (tk) _ ⟨hHeld,u128_,(aR_ Z0.out),(pb_ tm),(pb_ tl),(pb_ ZV),Y0.out,Y6.out,Zu.out,tD.out,tx.out,tA.out,tz.out,tB.out,iD,gF,mK⟩)
       rintro tk ua ⟨hS_,h0_,h1_,h2_,h3_,h4_,h5_,h6_,h7_,h8_,h9_,h10_,h11_,h12_,h13_,h14_,h15_⟩;have n0_:aa (Kd.R k86 86 ua w.heap.size (fun k_=>k_≠tk) u146001 tn):=⟨h0_⟩;have n1_:aa (Kd.R Kd.string 9 ua w.heap.size (fun _=>True) (.slice (some tM) tu.length uD) tu):=⟨h1_⟩;have n2_:aa (ua.heap[tv]? = some (.cells #[.string (⟨#[]⟩:ByteArray),.slice none 0 0] 44 (0,0))):=⟨h2_⟩;have n3_:aa (ua.heap[tr]? = some (.cells #[.string tH,u146001] 44 (0,0))):=⟨h3_⟩;have n4_:aa (ua.heap[tk]? = some (.cells #[.string (⟨#[]⟩:ByteArray),.string (⟨#[]⟩:ByteArray)] 86 (0,0))):=⟨h4_⟩;have n5_:Ge w tk:=⟨h5_⟩;have n6_:Ge w0 tk:=⟨h6_⟩;have n7_:Nb g tk:=⟨h7_⟩;have n8_:Nb tk g:=⟨h8_⟩;have n9_:Nb tv tk:=⟨h9_⟩;have n10_:Nb tk tv:=⟨h10_⟩;have n11_:Nb tr tk:=⟨h11_⟩;have n12_:Nb tk tr:=⟨h12_⟩;have n13_:aa (IsS114 w0 ua g s0_0 tK):=⟨h13_⟩;have n14_:aa (KeepBut w ua g none):=⟨h14_⟩;have n15_:aa (Below w0.heap.size w0 ua):=⟨h15_⟩;clear Z0 Z9 tm tl HI0 HK HB h0_ h1_ h2_ h3_ h4_ h5_ h6_ h7_ h8_ h9_ h10_ h11_ h12_ h13_ h14_ h15_;have Z9:=n0_;have Z0:=n1_;have tm:=n2_;have tl:=n3_;have ZV:=n4_;have Y0:=n5_;have Y6:=n6_;have Zu:=n7_;have tD:=n8_;have tx:=n9_;have tA:=n10_;have tz:=n11_;have tB:=n12_;have HI0:=n13_;have HK:=n14_;have HB:=n15_;clear n0_ n1_ n2_ n3_ n4_ n5_ n6_ n7_ n8_ n9_ n10_ n11_ n12_ n13_ n14_ n15_;have hHeld:ua.cell? (tM.add (tq).toNat)=some (.string (bC ByteArray.empty tu tq)):=hS_;refine ea (a':=?_) ?_ ?_;rotate_left
       ·exact u68_
       refine one_ (i:=8) (N:=none) (bm_ 9 511) rfl rfl (jT HT_.out bT) ap (fun K hK=>?_);have hs36:ua.cell? ⟨tk,0,none⟩=some (.string (⟨#[]⟩:ByteArray)):=bc_ ZV 0;have hfs36:=cu ZV.out 0;have hns36_0:=tx.out;have hns36_1:=tz.out;have hms36_0:=tA.out;have hms36_1:=tB.out;have hs37:ua.cell? ⟨tk,1,none⟩=some (.string (⟨#[]⟩:ByteArray)):=bc_ ZV 1;have hfs37:=cu ZV.out 1;have hns37_0:=tx.out;have hns37_1:=tz.out;have hms37_0:=tA.out;have hms37_1:=tB.out;refine pu (w1:=?_) ct rfl ?_ ?_;rotate_left
       ·go_simp;rfl
       refine hK.out _ _ (((aW (p:=⟨tk,_,none⟩) u158_ _).trans (((aW (p:=⟨tk,_,none⟩) u158_ _).trans (hHeld))))) (fun hHeld=>?_);clear hK K;refine dn_ HT_ ?_;obtain⟨wI,wm,wh,wi,wj⟩:=jb (Kd.C_foot_now Zc.out (show KeepBut w ((ua.setCell ⟨tk,0,none⟩ (.string (bC ByteArray.empty tu tq))).setCell ⟨tk,1,none⟩ (.string tE)) g none from gF)) tV od_ od_;cases wm;obtain⟨xQ,xS⟩:=pt_ tV l1.length;have H:=HC_.out;clear HC_;by_cases uB:((az l1 tV).f1)=2
       ·rw[if_pos uB] at H;have tR:=cW uB;have uU:=cX uB;clear uB;generalize ur:((([(⟨#[48]⟩:ByteArray),(⟨#[53]⟩:ByteArray),(⟨#[55]⟩:ByteArray),(⟨#[45,51]⟩:ByteArray),(⟨#[49,50]⟩:ByteArray),(⟨#[57,57,57,57,57,57,57,57,57]⟩:ByteArray)] : List ByteArray)):List ByteArray)=wF at H;have ul:=am_ ur.symm;clear ur;obtain⟨⟨tN,uH⟩,xE,H⟩:=bi_ H;dsimp only at H;obtain⟨uM,H⟩:=gl_ H;generalize us:((tn ++ [(⟨bC ByteArray.empty tu tq,tN⟩:S86)]):List (S86))=ud at H;have uP:=am_ us.symm;clear us;have H':=am_ H;clear H;(first | rw[tR] | (simp only[aC,aG];rw[tR]) | skip)
        try go_wp2_with (first | ((with_reducible refine aA (N:=49) rfl ?_);refine Kd.R_lit Kd.string _ 9 ?hg (N:=49) ?hd (xs:=([(⟨#[48]⟩:ByteArray),(⟨#[53]⟩:ByteArray),(⟨#[55]⟩:ByteArray),(⟨#[45,51]⟩:ByteArray),(⟨#[49,50]⟩:ByteArray),(⟨#[57,57,57,57,57,57,57,57,57]⟩:ByteArray)] : List ByteArray)) (inner:=[.string (⟨#[48]⟩:ByteArray),.string (⟨#[53]⟩:ByteArray),.string (⟨#[55]⟩:ByteArray),.string (⟨#[45,51]⟩:ByteArray),.string (⟨#[49,50]⟩:ByteArray),.string (⟨#[57,57,57,57,57,57,57,57,57]⟩:ByteArray)]) (ok:=fun _=>True) (okp:=fun _=>True) ?hr ?hp (fun _ hk=>hk) trivial (Below.refl _ _) (Nat.le_refl _) bb ?_;(case hd=>rfl);(case hg=>rfl);(case hr=>exact bL);(case hp=>exact(Reps.one (show Kd.M Kd.string _ _ _ (⟨#[48]⟩:ByteArray) [.string (⟨#[48]⟩:ByteArray)] from rfl) (Reps.one (show Kd.M Kd.string _ _ _ (⟨#[53]⟩:ByteArray) [.string (⟨#[53]⟩:ByteArray)] from rfl) (Reps.one (show Kd.M Kd.string _ _ _ (⟨#[55]⟩:ByteArray) [.string (⟨#[55]⟩:ByteArray)] from rfl) (Reps.one (show Kd.M Kd.string _ _ _ (⟨#[45,51]⟩:ByteArray) [.string (⟨#[45,51]⟩:ByteArray)] from rfl) (Reps.one (show Kd.M Kd.string _ _ _ (⟨#[49,50]⟩:ByteArray) [.string (⟨#[49,50]⟩:ByteArray)] from rfl) (Reps.one (show Kd.M Kd.string _ _ _ (⟨#[57,57,57,57,57,57,57,57,57]⟩:ByteArray) [.string (⟨#[57,57,57,57,57,57,57,57,57]⟩:ByteArray)] from rfl) (Reps.none _ _))))))));intro xU yh ho39 hb hg_ hnew_;clear hg_ hnew_;(first | rw[← ul.out] at ho39 | (simp only[Int.reduceToNat] at ho39;rw[← ul.out] at ho39));replace Z9:=am_ (Kd.R_below (aR_ (Kd.R_mono (Kd.R_far (p:=⟨tk,1,none⟩) (Kd.R_far (p:=⟨tk,0,none⟩) (Kd.R_mono Z9.out (fun k_ hk=>(⟨hk,hk⟩:_∧k_≠tk))) (fun _ hk=>hk.2) (.string (bC ByteArray.empty tu tq))) (fun _ hk=>hk.2) (.string tE)) (fun _ h_=>h_.1))) hb);have tW:=am_ (Kd.R_lower (Kd.R_new' ho39 (Kd.R_lt (aR_ (Kd.R_mono (Kd.R_far (p:=⟨tk,1,none⟩) (Kd.R_far (p:=⟨tk,0,none⟩) (Kd.R_types Z0.out ZV.out ap) (fun _ hk=>hk.2) (.string (bC ByteArray.empty tu tq))) (fun _ hk=>hk.2) (.string tE)) (fun _ h_=>h_.1))))) (ak (w:=w) (g:=g) (row:=none) gF));replace Z0:=am_ (Kd.R_elder' (aR_ (Kd.R_mono (Kd.R_far (p:=⟨tk,1,none⟩) (Kd.R_far (p:=⟨tk,0,none⟩) (Kd.R_types Z0.out ZV.out ap) (fun _ hk=>hk.2) (.string (bC ByteArray.empty tu tq))) (fun _ hk=>hk.2) (.string tE)) (fun _ h_=>h_.1))) (Kd.R_base ho39) hb);replace tm:=bb_ tm hb;replace tl:=bb_ tl hb;replace ZV:=am_ (bE (g:=tk) (o:=.cells #[.string (bC ByteArray.empty tu tq),.string tE] 86 (0,0)) (pb_ ZV) hb);replace HK:=am_ (KeepBut.trans gF (KeepBut.of_below hb g none) (.inl rfl));replace HB:=am_ (av mK hb);replace HI0:=am_ (IsS114.below (show IsS114 w0 ((ua.setCell ⟨tk,0,none⟩ (.string (bC ByteArray.empty tu tq))).setCell ⟨tk,1,none⟩ (.string tE)) g s0_0 tK from iD) hb);clear hb ho39;obtain⟨xH,xL,wo⟩:=Kd.R_slice tW.out;subst wo)|((with_reducible refine gt_ 50 ?_);refine gf_ 50 Tryz.func42 (aV.calls tT g s0_0 tK _ _ wF tN uH w0 _ ?side1 ?side2 (kR_ tW) ?side4 ?side5 xE.out) ?_;(case side1=>exact u64_);(case side2=>exact u63_);(case side4=>exact(Kd.R_reads' tW.out).2.1);(case side5=>exact dv (IsS114.own_ne HI0.out tW.out ap));rintro e yi ⟨rfl,hi,hb,hk⟩;refine⟨_,rfl,?_⟩;replace Z0:=am_ (Kd.R_mono (Kd.R_keep (IsS114.apart (show IsS114 w0 _ g s0_0 tK from iD) (aR_ Z0.out) ap) hk (fun _ h=>h.2)) (fun _ h=>h.1));replace Z9:=am_ (Kd.R_mono (Kd.R_keep (IsS114.apart (show IsS114 w0 _ g s0_0 tK from iD) (aR_ Z9.out) ap) hk (fun _ h=>h.2)) (fun _ h=>h.1));replace tm:=am_ (KeepBut.blk hk (g':=tv) (o:=.cells #[.string (⟨#[]⟩:ByteArray),.slice none 0 0] 44 (0,0)) (pb_ tm) tI.out bb);replace tl:=am_ (KeepBut.blk hk (g':=tr) (o:=.cells #[.string tH,u146001] 44 (0,0)) (pb_ tl) tC.out bb);replace ZV:=am_ (KeepBut.blk hk (g':=tk) (o:=.cells #[.string (bC ByteArray.empty tu tq),.string tE] 86 (0,0)) (pb_ ZV) tD.out bb);replace HK:=am_ (KeepBut.trans gF hk (.inl rfl));replace HB:=am_ (hb);replace HI0:=am_ (hi);(try clear hb);(try clear hk);(try clear hi);have wP:=tA.out;have xj:=tx.out;have wQ:=tB.out;have xk:=tz.out;have wR:=tD.out;have xl:=Zu.out;obtain⟨uZ,u6,vH,vI⟩:=b6 ZV.out;have wS:=tG.out;have xm:=tF.out;have wT:=tC.out;have xn:=Zv.out;obtain⟨u9,vk,vJ,vK⟩:=b6 tl.out)|((with_reducible refine aY (b:=.append) (xs:=#[.tmp 59,.tmp 61]) rfl ?_);at_builtin;refine Kd.R_append k86 w.heap.size rfl (.tmp 59) (.tmp 61) 42 86 (.agg #[(.string ⟨#[]⟩),(.string ⟨#[]⟩)]) 32 rfl Tryz.underlying42 l3 rfl ap aw u146001 tn (⟨bC ByteArray.empty tu tq,tN⟩:S86) [.string (bC ByteArray.empty tu tq),.string tN] (fun k_=>k_≠tk) (fun _=>False) rfl qI ?aP (fun _ hk=>hk.elim) ?aF ?aO (Below.refl _ _) ?aS ?aL ?_;(case aP=>exact ju _ _ _ (⟨bC ByteArray.empty tu tq,tN⟩:S86));(case aF=>exact(fun k_ hk=>Kd.freshB (g:=tk) (o:=.cells #[.string (bC ByteArray.empty tu tq),.string tN] 86 (0,0)) (pb_ ZV) k_ hk));(case aO=>exact(by(with_reducible repeat (first | apply Kd.R_alloc | apply Kd.R_drewN | apply Kd.R_drew));exact Kd.R_mono (Kd.R_far (p:=⟨tk,1,none⟩) (Kd.R_mono Z9.out (fun k_ hk=>(⟨hk,hk⟩:_∧k_≠tk))) (fun _ hk=>hk.2) (.string tN)) (fun _ hk=>hk.1)));(case aS=>exact(ak (w:=w) (g:=g) (row:=none) gF));(case aL=>have:=uM.out;omega);intro xV yj ho hb hg hat;rw[← uP.out] at ho;replace Z0:=am_ (Kd.R_over' (aR_ (Kd.R_mono (Kd.R_far (p:=⟨tk,1,none⟩) (Kd.R_types Z0.out ZV.out ap) (fun _ hk=>hk.2) (.string tN)) (fun _ h_=>h_.1))) (Kd.R_typed (aR_ (Kd.R_mono (Kd.R_far (p:=⟨tk,1,none⟩) (Kd.R_mono Z9.out (fun k_ hk=>(⟨hk,hk⟩:_∧k_≠tk))) (fun _ hk=>hk.2) (.string tN)) (fun _ h_=>h_.1)))) ap hg);replace tm:=am_ (bP (g:=tv) (o:=.cells #[.string (⟨#[]⟩:ByteArray),.slice none 0 0] 44 (0,0)) (pb_ tm) hg (Kd.R_ne Z9.out tm.out ap));replace tl:=am_ (bP (g:=tr) (o:=.cells #[.string tH,u146001] 44 (0,0)) (pb_ tl) hg (Kd.R_ne Z9.out tl.out ap));replace HB:=am_ (dg mK HL.out hb);replace HI0:=am_ (IsS114.grown (show IsS114 w0 _ g s0_0 uH from iD) hg (IsS114.own_ne HI0.out Z9.out ap));replace HK:=am_ (KeepBut.trans gF (KeepBut.of_grown hg g) (Kd.R_base2 Z9.out));have ug:=am_ (ho);clear Z9 ho hb hg hat;obtain⟨uw,uE,wt⟩:=Kd.R_slice ug.out;subst wt;obtain⟨vl,vm,vM,vN⟩:=b6 tl.out))
        go_roundg tT
        case measure=>have:=HK1.out;have:=YI.out;omega
        case rel=>exact⟨(wrap64 (tq+1)),(uH),(ud),(.slice uw ud.length uE),u4_,H',⟨qO⟩,⟨by(with_reducible repeat (first | apply Kd.R_alloc | apply Kd.R_drewN | apply Kd.R_drew));exact Kd.R_mono (Kd.R_far (p:=⟨tr,1,none⟩) (Kd.R_types Z0.out tl.out ap) (fun _ hk=>hk.2) (.slice uw ud.length uE)) (fun _ hk=>trivial)⟩,⟨by(with_reducible repeat (first | apply Kd.R_alloc | apply Kd.R_drewN | apply Kd.R_drew));exact Kd.R_mono (Kd.R_far (p:=⟨tr,1,none⟩) (Kd.R_types ug.out tl.out ap) (fun _ hk=>hk.2) (.slice uw ud.length uE)) (fun _ hk=>trivial)⟩,⟨pb_ tm⟩,⟨pb_ tl⟩,⟨iD⟩,⟨gF⟩,⟨mK⟩⟩
       ·rw[if_neg uB] at H;have tR:=cO uB;have uU:=cQ uB;have HC_:=am_ H;clear H;(first | rw[tR] | (simp only[aC,aG];rw[tR]) | skip)
        have H:=HC_.out;clear HC_;by_cases uC:((az l1 tV).f1)=3
        ·rw[if_pos uC] at H;have tS:=cW uC;have uV:=cX uC;clear uC;generalize ut:((([(⟨#[114,101,100]⟩:ByteArray),(⟨#[98,108,117,101]⟩:ByteArray),(⟨#[114,101,100,44,98,108,117,101]⟩:ByteArray),(⟨#[98,108,117,101,44,114,101,100,44,114,101,100]⟩:ByteArray),(⟨#[103,114,101,101,110]⟩:ByteArray)] : List ByteArray)):List ByteArray)=wG at H;have um:=am_ ut.symm;clear ut;obtain⟨⟨tO,uI⟩,xF,H⟩:=bi_ H;dsimp only at H;obtain⟨uN,H⟩:=gl_ H;generalize uu:((tn ++ [(⟨bC ByteArray.empty tu tq,tO⟩:S86)]):List (S86))=ue at H;have uQ:=am_ uu.symm;clear uu;have H':=am_ H;clear H;(first | rw[tS] | (simp only[aC,aG];rw[tS]) | skip)
         try go_wp2_with (first | ((with_reducible refine aA (N:=55) rfl ?_);refine Kd.R_lit Kd.string _ 9 ?hg (N:=55) ?hd (xs:=([(⟨#[114,101,100]⟩:ByteArray),(⟨#[98,108,117,101]⟩:ByteArray),(⟨#[114,101,100,44,98,108,117,101]⟩:ByteArray),(⟨#[98,108,117,101,44,114,101,100,44,114,101,100]⟩:ByteArray),(⟨#[103,114,101,101,110]⟩:ByteArray)] : List ByteArray)) (inner:=[.string (⟨#[114,101,100]⟩:ByteArray),.string (⟨#[98,108,117,101]⟩:ByteArray),.string (⟨#[114,101,100,44,98,108,117,101]⟩:ByteArray),.string (⟨#[98,108,117,101,44,114,101,100,44,114,101,100]⟩:ByteArray),.string (⟨#[103,114,101,101,110]⟩:ByteArray)]) (ok:=fun _=>True) (okp:=fun _=>True) ?hr ?hp (fun _ hk=>hk) trivial (Below.refl _ _) (Nat.le_refl _) bb ?_;(case hd=>rfl);(case hg=>rfl);(case hr=>exact bL);(case hp=>exact(Reps.one (show Kd.M Kd.string _ _ _ (⟨#[114,101,100]⟩:ByteArray) [.string (⟨#[114,101,100]⟩:ByteArray)] from rfl) (Reps.one (show Kd.M Kd.string _ _ _ (⟨#[98,108,117,101]⟩:ByteArray) [.string (⟨#[98,108,117,101]⟩:ByteArray)] from rfl) (Reps.one (show Kd.M Kd.string _ _ _ (⟨#[114,101,100,44,98,108,117,101]⟩:ByteArray) [.string (⟨#[114,101,100,44,98,108,117,101]⟩:ByteArray)] from rfl) (Reps.one (show Kd.M Kd.string _ _ _ (⟨#[98,108,117,101,44,114,101,100,44,114,101,100]⟩:ByteArray) [.string (⟨#[98,108,117,101,44,114,101,100,44,114,101,100]⟩:ByteArray)] from rfl) (Reps.one (show Kd.M Kd.string _ _ _ (⟨#[103,114,101,101,110]⟩:ByteArray) [.string (⟨#[103,114,101,101,110]⟩:ByteArray)] from rfl) (Reps.none _ _)))))));intro xW yk ho62 hb hg_ hnew_;clear hg_ hnew_;(first | rw[← um.out] at ho62 | (simp only[Int.reduceToNat] at ho62;rw[← um.out] at ho62));replace Z9:=am_ (Kd.R_below (aR_ (Kd.R_mono (Kd.R_far (p:=⟨tk,1,none⟩) (Kd.R_far (p:=⟨tk,0,none⟩) (Kd.R_mono Z9.out (fun k_ hk=>(⟨hk,hk⟩:_∧k_≠tk))) (fun _ hk=>hk.2) (.string (bC ByteArray.empty tu tq))) (fun _ hk=>hk.2) (.string tE)) (fun _ h_=>h_.1))) hb);have tX:=am_ (Kd.R_lower (Kd.R_new' ho62 (Kd.R_lt (aR_ (Kd.R_mono (Kd.R_far (p:=⟨tk,1,none⟩) (Kd.R_far (p:=⟨tk,0,none⟩) (Kd.R_types Z0.out ZV.out ap) (fun _ hk=>hk.2) (.string (bC ByteArray.empty tu tq))) (fun _ hk=>hk.2) (.string tE)) (fun _ h_=>h_.1))))) (ak (w:=w) (g:=g) (row:=none) gF));replace Z0:=am_ (Kd.R_elder' (aR_ (Kd.R_mono (Kd.R_far (p:=⟨tk,1,none⟩) (Kd.R_far (p:=⟨tk,0,none⟩) (Kd.R_types Z0.out ZV.out ap) (fun _ hk=>hk.2) (.string (bC ByteArray.empty tu tq))) (fun _ hk=>hk.2) (.string tE)) (fun _ h_=>h_.1))) (Kd.R_base ho62) hb);replace tm:=bb_ tm hb;replace tl:=bb_ tl hb;replace ZV:=am_ (bE (g:=tk) (o:=.cells #[.string (bC ByteArray.empty tu tq),.string tE] 86 (0,0)) (pb_ ZV) hb);replace HK:=am_ (KeepBut.trans gF (KeepBut.of_below hb g none) (.inl rfl));replace HB:=am_ (av mK hb);replace HI0:=am_ (IsS114.below (show IsS114 w0 ((ua.setCell ⟨tk,0,none⟩ (.string (bC ByteArray.empty tu tq))).setCell ⟨tk,1,none⟩ (.string tE)) g s0_0 tK from iD) hb);clear hb ho62;obtain⟨xI,xM,wu⟩:=Kd.R_slice tX.out;subst wu)|((with_reducible refine gt_ 56 ?_);refine gf_ 56 Tryz.func42 (aV.calls tT g s0_0 tK _ _ wG tO uI w0 _ ?side1 ?side2 (kR_ tX) ?side4 ?side5 xF.out) ?_;(case side1=>exact u64_);(case side2=>exact u63_);(case side4=>exact(Kd.R_reads' tX.out).2.1);(case side5=>exact dv (IsS114.own_ne HI0.out tX.out ap));rintro e yl ⟨rfl,hi,hb,hk⟩;refine⟨_,rfl,?_⟩;replace Z0:=am_ (Kd.R_mono (Kd.R_keep (IsS114.apart (show IsS114 w0 _ g s0_0 tK from iD) (aR_ Z0.out) ap) hk (fun _ h=>h.2)) (fun _ h=>h.1));replace Z9:=am_ (Kd.R_mono (Kd.R_keep (IsS114.apart (show IsS114 w0 _ g s0_0 tK from iD) (aR_ Z9.out) ap) hk (fun _ h=>h.2)) (fun _ h=>h.1));replace tm:=am_ (KeepBut.blk hk (g':=tv) (o:=.cells #[.string (⟨#[]⟩:ByteArray),.slice none 0 0] 44 (0,0)) (pb_ tm) tI.out bb);replace tl:=am_ (KeepBut.blk hk (g':=tr) (o:=.cells #[.string tH,u146001] 44 (0,0)) (pb_ tl) tC.out bb);replace ZV:=am_ (KeepBut.blk hk (g':=tk) (o:=.cells #[.string (bC ByteArray.empty tu tq),.string tE] 86 (0,0)) (pb_ ZV) tD.out bb);replace HK:=am_ (KeepBut.trans gF hk (.inl rfl));replace HB:=am_ (hb);replace HI0:=am_ (hi);(try clear hb);(try clear hk);(try clear hi);have wU:=tA.out;have xo:=tx.out;have wV:=tB.out;have xp:=tz.out;have wW:=tD.out;have xq:=Zu.out;obtain⟨vn,vo,vO,vP⟩:=b6 ZV.out;have wX:=tG.out;have xr:=tF.out;have wY:=tC.out;have xt:=Zv.out;obtain⟨vp,vq,vQ,vS⟩:=b6 tl.out)|((with_reducible refine aY (b:=.append) (xs:=#[.tmp 59,.tmp 61]) rfl ?_);at_builtin;refine Kd.R_append k86 w.heap.size rfl (.tmp 59) (.tmp 61) 42 86 (.agg #[(.string ⟨#[]⟩),(.string ⟨#[]⟩)]) 32 rfl Tryz.underlying42 l3 rfl ap aw u146001 tn (⟨bC ByteArray.empty tu tq,tO⟩:S86) [.string (bC ByteArray.empty tu tq),.string tO] (fun k_=>k_≠tk) (fun _=>False) rfl qI ?aP (fun _ hk=>hk.elim) ?aF ?aO (Below.refl _ _) ?aS ?aL ?_;(case aP=>exact ju _ _ _ (⟨bC ByteArray.empty tu tq,tO⟩:S86));(case aF=>exact(fun k_ hk=>Kd.freshB (g:=tk) (o:=.cells #[.string (bC ByteArray.empty tu tq),.string tO] 86 (0,0)) (pb_ ZV) k_ hk));(case aO=>exact(by(with_reducible repeat (first | apply Kd.R_alloc | apply Kd.R_drewN | apply Kd.R_drew));exact Kd.R_mono (Kd.R_far (p:=⟨tk,1,none⟩) (Kd.R_mono Z9.out (fun k_ hk=>(⟨hk,hk⟩:_∧k_≠tk))) (fun _ hk=>hk.2) (.string tO)) (fun _ hk=>hk.1)));(case aS=>exact(ak (w:=w) (g:=g) (row:=none) gF));(case aL=>have:=uN.out;omega);intro xX ym ho hb hg hat;rw[← uQ.out] at ho;replace Z0:=am_ (Kd.R_over' (aR_ (Kd.R_mono (Kd.R_far (p:=⟨tk,1,none⟩) (Kd.R_types Z0.out ZV.out ap) (fun _ hk=>hk.2) (.string tO)) (fun _ h_=>h_.1))) (Kd.R_typed (aR_ (Kd.R_mono (Kd.R_far (p:=⟨tk,1,none⟩) (Kd.R_mono Z9.out (fun k_ hk=>(⟨hk,hk⟩:_∧k_≠tk))) (fun _ hk=>hk.2) (.string tO)) (fun _ h_=>h_.1)))) ap hg);replace tm:=am_ (bP (g:=tv) (o:=.cells #[.string (⟨#[]⟩:ByteArray),.slice none 0 0] 44 (0,0)) (pb_ tm) hg (Kd.R_ne Z9.out tm.out ap));replace tl:=am_ (bP (g:=tr) (o:=.cells #[.string tH,u146001] 44 (0,0)) (pb_ tl) hg (Kd.R_ne Z9.out tl.out ap));replace HB:=am_ (dg mK HL.out hb);replace HI0:=am_ (IsS114.grown (show IsS114 w0 _ g s0_0 uI from iD) hg (IsS114.own_ne HI0.out Z9.out ap));replace HK:=am_ (KeepBut.trans gF (KeepBut.of_grown hg g) (Kd.R_base2 Z9.out));have uh:=am_ (ho);clear Z9 ho hb hg hat;obtain⟨ux,uF,wv⟩:=Kd.R_slice uh.out;subst wv;obtain⟨vr,vu,vT,vU⟩:=b6 tl.out))
         go_roundg tT
         case measure=>have:=HK1.out;have:=YI.out;omega
         case rel=>exact⟨(wrap64 (tq+1)),(uI),(ue),(.slice ux ue.length uF),u4_,H',⟨qO⟩,⟨by(with_reducible repeat (first | apply Kd.R_alloc | apply Kd.R_drewN | apply Kd.R_drew));exact Kd.R_mono (Kd.R_far (p:=⟨tr,1,none⟩) (Kd.R_types Z0.out tl.out ap) (fun _ hk=>hk.2) (.slice ux ue.length uF)) (fun _ hk=>trivial)⟩,⟨by(with_reducible repeat (first | apply Kd.R_alloc | apply Kd.R_drewN | apply Kd.R_drew));exact Kd.R_mono (Kd.R_far (p:=⟨tr,1,none⟩) (Kd.R_types uh.out tl.out ap) (fun _ hk=>hk.2) (.slice ux ue.length uF)) (fun _ hk=>trivial)⟩,⟨pb_ tm⟩,⟨pb_ tl⟩,⟨iD⟩,⟨gF⟩,⟨mK⟩⟩
        ·rw[if_neg uC] at H;have tS:=cO uC;have uV:=cQ uC;obtain⟨uO,H⟩:=gl_ H;generalize uv:((tn ++ [(⟨bC ByteArray.empty tu tq,tE⟩:S86)]):List (S86))=uf at H;have uR:=am_ uv.symm;clear uv;have H':=am_ H;clear H;(first | rw[tS] | (simp only[aC,aG];rw[tS]) | skip)
         have wZ:=tG.out;have xu:=tF.out;have xa:=tz.out;have xv:=tB.out;have xb:=tC.out;have xw:=Zv.out;obtain⟨vv,vw,vV,vW⟩:=b6 tl.out;have xc:=tA.out;have xx:=tx.out;have xd:=tD.out;have xy:=Zu.out;obtain⟨vx,vy,vX,vY⟩:=b6 ZV.out;try go_wp2_with (first | ((with_reducible refine aY (b:=.append) (xs:=#[.tmp 59,.tmp 61]) rfl ?_);at_builtin;refine Kd.R_append k86 w.heap.size rfl (.tmp 59) (.tmp 61) 42 86 (.agg #[(.string ⟨#[]⟩),(.string ⟨#[]⟩)]) 32 rfl Tryz.underlying42 l3 rfl ap aw u146001 tn (⟨bC ByteArray.empty tu tq,tE⟩:S86) [.string (bC ByteArray.empty tu tq),.string tE] (fun k_=>k_≠tk) (fun _=>False) rfl qI ?aP (fun _ hk=>hk.elim) ?aF ?aO (Below.refl _ _) ?aS ?aL ?_;(case aP=>exact ju _ _ _ (⟨bC ByteArray.empty tu tq,tE⟩:S86));(case aF=>exact(fun k_ hk=>Kd.freshB (g:=tk) (o:=.cells #[.string (bC ByteArray.empty tu tq),.string tE] 86 (0,0)) (pb_ ZV) k_ hk));(case aO=>exact(by(with_reducible repeat (first | apply Kd.R_alloc | apply Kd.R_drewN | apply Kd.R_drew));exact Kd.R_mono (Kd.R_far (p:=⟨tk,1,none⟩) (Kd.R_far (p:=⟨tk,0,none⟩) (Kd.R_mono Z9.out (fun k_ hk=>(⟨hk,hk⟩:_∧k_≠tk))) (fun _ hk=>hk.2) (.string (bC ByteArray.empty tu tq))) (fun _ hk=>hk.2) (.string tE)) (fun _ hk=>hk.1)));(case aS=>exact(ak (w:=w) (g:=g) (row:=none) gF));(case aL=>have:=uO.out;omega);intro xY yn ho hb hg hat;rw[← uR.out] at ho;replace Z0:=am_ (Kd.R_over' (aR_ (Kd.R_mono (Kd.R_far (p:=⟨tk,1,none⟩) (Kd.R_far (p:=⟨tk,0,none⟩) (Kd.R_types Z0.out ZV.out ap) (fun _ hk=>hk.2) (.string (bC ByteArray.empty tu tq))) (fun _ hk=>hk.2) (.string tE)) (fun _ h_=>h_.1))) (Kd.R_typed (aR_ (Kd.R_mono (Kd.R_far (p:=⟨tk,1,none⟩) (Kd.R_far (p:=⟨tk,0,none⟩) (Kd.R_mono Z9.out (fun k_ hk=>(⟨hk,hk⟩:_∧k_≠tk))) (fun _ hk=>hk.2) (.string (bC ByteArray.empty tu tq))) (fun _ hk=>hk.2) (.string tE)) (fun _ h_=>h_.1)))) ap hg);replace tm:=am_ (bP (g:=tv) (o:=.cells #[.string (⟨#[]⟩:ByteArray),.slice none 0 0] 44 (0,0)) (pb_ tm) hg (Kd.R_ne Z9.out tm.out ap));replace tl:=am_ (bP (g:=tr) (o:=.cells #[.string tH,u146001] 44 (0,0)) (pb_ tl) hg (Kd.R_ne Z9.out tl.out ap));replace HB:=am_ (dg mK HL.out hb);replace HI0:=am_ (IsS114.grown (show IsS114 w0 _ g s0_0 tK from iD) hg (IsS114.own_ne HI0.out Z9.out ap));replace HK:=am_ (KeepBut.trans gF (KeepBut.of_grown hg g) (Kd.R_base2 Z9.out));have ui:=am_ (ho);clear Z9 ho hb hg hat;obtain⟨uy,uG,ww⟩:=Kd.R_slice ui.out;subst ww;obtain⟨vz,vA,vZ,wa⟩:=b6 tl.out))
         go_roundg tT
         case measure=>have:=HK1.out;have:=YI.out;omega
         case rel=>exact⟨(wrap64 (tq+1)),(tK),(uf),(.slice uy uf.length uG),u4_,H',⟨qO⟩,⟨by(with_reducible repeat (first | apply Kd.R_alloc | apply Kd.R_drewN | apply Kd.R_drew));exact Kd.R_mono (Kd.R_far (p:=⟨tr,1,none⟩) (Kd.R_types Z0.out tl.out ap) (fun _ hk=>hk.2) (.slice uy uf.length uG)) (fun _ hk=>trivial)⟩,⟨by(with_reducible repeat (first | apply Kd.R_alloc | apply Kd.R_drewN | apply Kd.R_drew));exact Kd.R_mono (Kd.R_far (p:=⟨tr,1,none⟩) (Kd.R_types ui.out tl.out ap) (fun _ hk=>hk.2) (.slice uy uf.length uG)) (fun _ hk=>trivial)⟩,⟨pb_ tm⟩,⟨pb_ tl⟩,⟨iD⟩,⟨gF⟩,⟨mK⟩⟩
      ·replace H:=ht_ H;have H':=am_ H;clear H;go_wp2;go_roundg tT
       case measure=>have:=HK1.out;have:=YI.out;omega
       case rel=>exact⟨(wrap64 (tq+1)),(tw),(tn),(u146001),u4_,H',⟨qO⟩,⟨aR_ Z0.out⟩,⟨aR_ Z9.out⟩,⟨pb_ tm⟩,⟨pb_ tl⟩,⟨iB⟩,⟨iA⟩,⟨oV⟩⟩
   ·rw[if_neg uA] at H;have un:=decide_eq_false uA;clear uA;simp only[Option.some.injEq,Prod.mk.injEq] at H;obtain⟨rfl,rfl,rfl⟩:=H;obtain⟨xJ,xN,wy⟩:=Kd.R_slice Z0.out;subst wy;have xe:=tG.out;have xz:=tF.out;have xf:=tC.out;have xA:=Zv.out;obtain⟨vB,vD,wb,wd⟩:=b6 tl.out;have xg:=tI.out;have xB:=Zp.out;obtain⟨vE,vG,we,wg⟩:=b6 tm.out;obtain⟨uK,uW,wz⟩:=Kd.R_slice Z9.out;subst wz;go_wp2;refine bodyPost_ret (results_cell_row rfl _ _ tv 44 #[.string tH,.slice uK tn.length uW] (0,0) _ rfl (pb_ tm) Tryz.underlying44 rfl bT) rfl ?_;exact⟨_,u1_,by(with_reducible repeat (first | apply Kd.R_alloc | apply Kd.R_drewN | apply Kd.R_drew));exact Kd.R_mono (Kd.R_far (p:=⟨tv,1,none⟩) (Kd.R_far (p:=⟨tv,0,none⟩) (Kd.R_types Z9.out tm.out ap) (fun _ hk=>hk.2) (.string tH)) (fun _ hk=>hk.2) (.slice uK tn.length uW)) (fun _ hk=>trivial),iB,oV,iA⟩
def br.l0:Nat→List (S46)→ByteArray→List (S46)→Int→Option ((List (S46)))
 | 0,_,_,_,_=>none
 | k+1,x0,x1,x5,x6=>if x6<(x0.length:Int) then(if 0≤x6 then(if((ah x0 x6).f1.f0).toList=x1.toList then(br.l0 k x0 x1 x5 (wrap64 (x6+1))) else(if x5.length<2932031007402 then(br.l0 k x0 x1 (x5 ++ [(⟨(ah x0 x6).f0,(⟨(ah x0 x6).f1.f0,(ah x0 x6).f1.f1⟩:S44)⟩:S46)]) (wrap64 (x6+1))) else(none))) else(none)) else(some x5)
def br.f (k:Nat) (l0:List (S46)) (a1:ByteArray):Option ((List (S46))):=br.l0 k l0 a1 (([] : List (S46))) 0
theorem br.calls (k:Nat) (P0_:Nat→Prop) (A0:Option Addr) (c0:Nat) (l0:List (S46)) (a1:ByteArray) (r:List (S46)) (w:World) (hs0:Kd.V k46 46 w w.heap.size (fun k_=>P0_ k_) (.slice A0 l0.length c0) l0) (h:br.f k l0 a1=some r) :
  Calls Tryz.prog 128 #[.slice A0 l0.length c0,.string a1] w fun e w'=>∃v0_:Value,e = .returned (v0_)∧Kd.N k46 46 w' w.heap.size (fun k_=>(P0_ k_∨w.heap.size≤k_)) v0_ r∧Below w.heap.size w w':=by
 have hu46:=Tryz.underlying46;have tW:=am_ (show Kd.V k46 46 w w.heap.size (fun k_=>(P0_ k_∨w.heap.size≤k_)) (.slice A0 l0.length c0) l0 from Kd.V_mono hs0 (fun k_ hk=>.inl hk));have HB:=am_ (Below.refl w.heap.size w);have H:=h;clear h;unfold br.f at H
 obtain⟨tM,tl⟩:∃y_:List (S46),y_=(([] : List (S46))):=⟨_,rfl⟩;replace H:(br.l0 k l0 a1 tM 0)=some r:=by first | (rw[tl];with_reducible exact H)|(have H2_:=(Option.bind_some _ _).symm.trans H;rw[tl];with_reducible exact H2_)|(have H2_:=(Option.bind_some _ _).symm.trans H;with_reducible exact H2_) | with_reducible exact H | (rw[tl];exact H) | exact H
 have tD:=am_ tl;clear tl;have H':=am_ H;clear H;go_enter Tryz.func128,Tryz.ntmps128
 go_wp2_with (first | ((with_reducible refine aA (N:=7) rfl ?_);refine Kd.N_lit k46 _ 46 ?hg (N':=7) ?hd (xs:=([] : List (S46))) (inner:=[]) (ok:=(fun k_=>(P0_ k_∨w.heap.size≤k_))) (okp:=(fun k_=>(P0_ k_∨w.heap.size≤k_))) ?hr ?hp (fun _ hk=>hk) ((show ∀k_,w.heap.size≤k_→(fun k_=>(P0_ k_∨w.heap.size≤k_)) k_ from fun k_ hk=>(.inr (Nat.le_trans (ar (bw_ HB)) hk))) _ (Nat.le_refl _)) (Below.refl _ _) (Nat.le_refl _) bb ?_;(case hd=>rfl);(case hg=>rfl);(case hr=>exact bL);(case hp=>exact fj);intro uc w3 ho4 hb hg_ hnew_;clear hg_ hnew_;(first | rw[← tD.out] at ho4 | (simp only[Int.reduceToNat] at ho4;rw[← tD.out] at ho4));replace tW:=am_ (Kd.V_elder' (aV_ tW.out) (by first | exact Kd.R_base ho4 | exact Kd.S_base ho4 | exact Kd.N_base ho4) hb);have tH:=am_ (Kd.N_lower ho4 (ar (bw_ HB)));replace HB:=bs_ HB hb;clear hb ho4))
 go_loopg [5,6] k (fun kq v5 v6 w'=>∃(tw:List (S46)) (tk:Int),v6 = .int .i64 tk∧aa (br.l0 kq l0 a1 tw tk=some r)∧aa (kq≤k)∧aa (Kd.V k46 46 w' w.heap.size (fun k_=>(P0_ k_∨w.heap.size≤k_)∧some k_≠(v5:Value).ownBlock) (.slice A0 l0.length c0) l0)∧aa (Kd.N k46 46 w' w.heap.size (fun k_=>(P0_ k_∨w.heap.size≤k_)) v5 tw)∧aa (Below w.heap.size w w'))
 case atStart=>exact⟨(tM),(0),u4_,H',⟨Nat.le_refl _⟩,⟨aV_ tW.out⟩,⟨by(with_reducible repeat (first | apply Kd.N_alloc | apply Kd.N_drewN | apply Kd.N_drew));exact tH.out⟩,⟨bw_ HB⟩⟩
 case round=>
  clear H';obtain⟨tw,tk,rfl,HA,HK1,Z1,Zh,HB⟩:=hrel;cases gk with
  | zero=>exact absurd HA.out (by simp[br.l0])
  | succ k1=>
   have H:=HA.out;clear HA;simp only[br.l0] at H;by_cases c5:tk<(l0.length:Int)
   ·rw[if_pos c5] at H;have tZ:=decide_eq_true c5;clear c5;obtain⟨ub,H⟩:=gd_ H;have HC_:=am_ H;clear H;obtain⟨tz,tB⟩:=pq_ tk l0.length;obtain⟨tK,tF,tG,t7,tR,tS,tu,tq,tm⟩:=fB (Kd.V_reads' Z1.out).2.2 tk tz tB;cases t7;obtain⟨ce180,hce180,hMe180,hcc180⟩:=Kd.V_get Z1.out z46 tk tz (by first | exact tB | exact od_ | (have e_:=(Kd.V_reads' Z1.out).1;omega));obtain⟨ua180_2,uc180_2,rfl,ul180_2,ge180_2⟩:=nx hMe180;have hv180_2:=hcc180 2 _ rfl;rw[dM _ _ 2 aw] at hv180_2;replace hv180_2:=Option.some.inj (hv180_2.symm.trans tu);injection hv180_2 with hva_ hvn_ hvc_
    rw[hva_] at ge180_2;rw[hvc_] at ul180_2;have HL180_2:=am_ (show Kd.V k86 86 _ w.heap.size _ _ ((ah l0 tk).f1.f1) from Kd.V_mk ul180_2 ge180_2);clear hva_ hvn_ hvc_ ge180_2 ul180_2 hcc180 hce180;have tP:=am_ tm;have tN:=am_ tq;clear tm tq;obtain⟨tz,tB⟩:=tt_ tz tB;have H:=HC_.out;clear HC_;by_cases c7:((ah l0 tk).f1.f0).toList=a1.toList
    ·rw[if_pos c7] at H;have tx:=cW c7;have t6:=cX c7;clear c7;have H':=am_ H;clear H;(first | rw[tx] | (simp only[aC,aG];rw[tx]) | skip)
     go_wp2;go_roundg k1
     case measure=>have:=HK1.out;omega
     case rel=>exact⟨(tw),(wrap64 (tk+1)),u4_,H',⟨dH⟩,⟨aV_ Z1.out⟩,⟨se⟩,⟨bw_ HB⟩⟩
    ·rw[if_neg c7] at H;have tx:=cO c7;have t6:=cQ c7;obtain⟨tX,H⟩:=gl_ H;generalize tE:((tw ++ [(⟨(ah l0 tk).f0,(⟨(ah l0 tk).f1.f0,(ah l0 tk).f1.f1⟩:S44)⟩:S46)]):List (S46))=ua at H;have tJ:=am_ tE.symm;clear tE;have H':=am_ H;clear H;(first | rw[tx] | (simp only[aC,aG];rw[tx]) | skip)
     obtain⟨tA,tC⟩:=pq_ tk l0.length;obtain⟨tL,tV,tY,t8,tT,tU,tv,tr,tn⟩:=fB (Kd.V_reads' Z1.out).2.2 tk tA tC;obtain rfl:tK=tL:=(by injection t8);obtain⟨ce181,hce181,hMe181,hcc181⟩:=Kd.V_get Z1.out z46 tk tA (by first | exact tC | exact od_ | (have e_:=(Kd.V_reads' Z1.out).1;omega));obtain⟨ua181_2,uc181_2,rfl,ul181_2,ge181_2⟩:=nx hMe181;have hv181_2:=hcc181 2 _ rfl;rw[dM _ _ 2 aw] at hv181_2;replace hv181_2:=Option.some.inj (hv181_2.symm.trans tv);injection hv181_2 with hva_ hvn_ hvc_
     rw[hva_] at ge181_2;rw[hvc_] at ul181_2;have HL181_2:=am_ (show Kd.V k86 86 _ w.heap.size _ _ ((ah l0 tk).f1.f1) from Kd.V_mk ul181_2 ge181_2);clear hva_ hvn_ hvc_ ge181_2 ul181_2 hcc181 hce181;have tQ:=am_ tn;have tO:=am_ tr;clear tn tr;obtain⟨tA,tC⟩:=tt_ tA tC;have ea_:=Option.some.inj (tu.symm.trans tv);injection ea_ with ea_ en_ ec_
     subst ea_;subst ec_;clear en_;go_wp2_with (first | ((with_reducible refine aY (b:=.append) (xs:=#[.tmp 22,.tmp 27]) rfl ?_);at_builtin;refine Kd.N_append k46 (w0:=w) w.heap.size rfl (.tmp 22) (.tmp 27) 24 46 (.agg #[(.int .i64 0),(.string ⟨#[]⟩),(.slice none 0 0)]) 48 rfl Tryz.underlying24 lx rfl ap aw u5 tw (⟨(ah l0 tk).f0,(⟨(ah l0 tk).f1.f0,(ah l0 tk).f1.f1⟩:S44)⟩:S46) [.int .i64 ((ah l0 tk).f0),.string ((ah l0 tk).f1.f0),.slice tF ((ah l0 tk).f1.f1).length tG] (fun k_=>(P0_ k_∨w.heap.size≤k_)) (fun k_=>((fun k_=>(P0_ k_∨w.heap.size≤k_))) k_∧some k_≠(u5:Value).ownBlock) rfl rfl ?aP (fun _ hk=>hk) ?aF ?aO ?aB ?aS ?aL ?_;(case aP=>exact(jK _ _ (⟨(ah l0 tk).f0,(⟨(ah l0 tk).f1.f0,(ah l0 tk).f1.f1⟩:S44)⟩:S46) (Kd.V_reads' (Kd.V_mono (ok':=(fun k_=>((fun k_=>(P0_ k_∨w.heap.size≤k_))) k_∧some k_≠(u5:Value).ownBlock)) (HL181_2.out) (fun k_ hk=>⟨hk.1,hk.2⟩))).2.1 (Kd.V_F (Kd.V_mono (ok':=(fun k_=>((fun k_=>(P0_ k_∨w.heap.size≤k_))) k_∧some k_≠(u5:Value).ownBlock)) (HL181_2.out) (fun k_ hk=>⟨hk.1,hk.2⟩)))));(case aB=>exact fi);(case aF=>exact(fun k_ hk=>(.inr (Nat.le_trans (ar (bw_ HB)) hk))));(case aO=>exact se);(case aS=>exact fh);(case aL=>have:=tX.out;omega);intro ud w9 ho hb hg hat;rw[← tJ.out] at ho;replace Z1:=am_ (Kd.V_afterv (ok:=(fun k_=>(P0_ k_∨w.heap.size≤k_))) (aV_ Z1.out) hg hat);replace HL180_2:=am_ (Kd.V_afterv (ok:=(fun k_=>(P0_ k_∨w.heap.size≤k_))) (by(with_reducible repeat (first | apply Kd.V_alloc | apply Kd.V_drewN | apply Kd.V_drew));exact HL180_2.out) hg hat);replace HL181_2:=am_ (Kd.V_afterv (ok:=(fun k_=>(P0_ k_∨w.heap.size≤k_))) (by(with_reducible repeat (first | apply Kd.V_alloc | apply Kd.V_drewN | apply Kd.V_drew));exact HL181_2.out) hg hat);replace HB:=am_ (hb);have tI:=am_ (ho);clear Zh ho hb hg hat))
     go_roundg k1
     case measure=>have:=HK1.out;omega
     case rel=>exact⟨(ua),(wrap64 (tk+1)),u4_,H',⟨dH⟩,⟨aV_ Z1.out⟩,⟨by(with_reducible repeat (first | apply Kd.N_alloc | apply Kd.N_drewN | apply Kd.N_drew));exact tI.out⟩,⟨bw_ HB⟩⟩
   ·rw[if_neg c5] at H;have tZ:=decide_eq_false c5;clear c5;obtain rfl:=si_ H;go_wp2;go_ret
    exact⟨_,u1_,se,bw_ HB⟩
def b9.f:Nat→Int→Option (ByteArray)
 | 0,_=>none
 | k+1,a0=>if a0<(-9223372036854775807) then(some (⟨#[45,57,50,50,51,51,55,50,48,51,54,56,53,52,55,55,53,56,48,56]⟩:ByteArray)) else(if a0<0 then((b9.f k (wrap64 (-a0))).bind fun tk=>(if 1+tk.size≤9223372036854775807 then(some ((⟨#[45]⟩:ByteArray) ++ tk)) else(none))) else(if a0<10 then(some (strOfNums (([(wrap64 (48+a0)) % 256] : List Int)))) else((b9.f k (wrap64 (Int.tdiv a0 10))).bind fun tl=>((some (([(wrap64 (48+(Int.tmod a0 10))) % 256] : List Int):List Int)).bind fun tm=>(if tl.size+(strOfNums tm).size≤9223372036854775807 then(some (tl ++ (strOfNums tm))) else(none))))))
def b9.T7:Bool × List (List Nat × List Nat):=(true,[([],[]),([0],[0]),([1],[1]),([],[]),([3],[3]),([4],[4]),([5],[5]),([6],[6]),([7],[7]),([2,8],[2,8]),([9,2,0,1,2,3,4,5,6,7,8,9],[9])])
def b9.B7:List Nat:=[0,1,3,0,8,24,56,120,248,511,1023]
theorem b9.tab7:dC .any (fk Tryz.f129 7)=b9.T7:=by kernel_rfl
theorem b9.bits7:dc b9.T7.2 b9.B7=true:=by kernel_rfl
theorem b9.calls (k:Nat):∀(a0:Int) (r:ByteArray) (w:World) (h:b9.f k a0=some r),
  Calls Tryz.prog 129 #[.int .i64 a0] w fun e w'=>e = .returned (.string r)∧Below w.heap.size w w':=by
 induction k using Nat.strongRecOn with
 | _ k ih=>
 intro a0 r w h;cases k with
 | zero=>exact absurd h (by simp[b9.f])
 | succ k=>
 simp only[b9.f] at h;have HB:=am_ (Below.refl w.heap.size w);have H:(if a0<(-9223372036854775807) then(some (⟨#[45,57,50,50,51,51,55,50,48,51,54,56,53,52,55,55,53,56,48,56]⟩:ByteArray)) else(if a0<0 then((b9.f k (wrap64 (-a0))).bind fun tr=>(if 1+tr.size≤9223372036854775807 then(some ((⟨#[45]⟩:ByteArray) ++ tr)) else(none))) else(if a0<10 then(some (strOfNums (([(wrap64 (48+a0)) % 256] : List Int)))) else((b9.f k (wrap64 (Int.tdiv a0 10))).bind fun tl=>((some (([(wrap64 (48+(Int.tmod a0 10))) % 256] : List Int):List Int)).bind fun tm=>(if tl.size+(strOfNums tm).size≤9223372036854775807 then(some (tl ++ (strOfNums tm))) else(none)))))))=some r:=h;clear h;by_cases c2:a0<(-9223372036854775807)
 ·rw[if_pos c2] at H;have tB:=decide_eq_true c2;clear c2;obtain rfl:=si_ H;go_enter Tryz.func129,Tryz.ntmps129
  go_wp2;go_ret
  exact⟨u1_,bw_ HB⟩
 ·rw[if_neg c2] at H;have tB:=decide_eq_false c2;clear c2;by_cases c3:a0<0
  ·rw[if_pos c3] at H;have tC:=decide_eq_true c3;clear c3;obtain⟨tr,A4,H⟩:=bi_ H;obtain⟨c5,H⟩:=gn_ H;have tI:=eq_true c5;have tJ:=decide_eq_true c5;try have tK:(9223372036854775807<1+tr.size)=False:=eq_false (Nat.not_lt.2 c5)
   obtain rfl:=si_ H;go_enter Tryz.func129,Tryz.ntmps129
   go_wp2_with (first | ((with_reducible refine gt_ 9 ?_);refine gB_ 9 Tryz.func129 (ih k aw (wrap64 (-a0)) tr _ A4.out) ?_;intro w6 hb;replace HB:=bs_ HB hb;(try clear hb)))
   go_ret
   exact⟨u1_,bw_ HB⟩
  ·rw[if_neg c3] at H;have tC:=decide_eq_false c3;clear c3;by_cases c7:a0<10
   ·rw[if_pos c7] at H;have tD:=decide_eq_true c7;clear c7;generalize tv:((([(wrap64 (48+a0)) % 256] : List Int)):List Int)=tN at H;have tu:=am_ tv.symm;clear tv;obtain rfl:=si_ H;go_enter Tryz.func129,Tryz.ntmps129
    go_wp2_with (first | ((with_reducible refine aA (N:=16) rfl ?_);refine Kd.R_lit (Kd.int .u8) _ 5 ?hg (N:=16) ?hd (xs:=([(wrap64 (48+a0)) % 256] : List Int)) (inner:=[.int .u8 ((wrap64 (48+a0)) % 256)]) (ok:=fun _=>True) (okp:=fun _=>True) ?hr ?hp (fun _ hk=>hk) trivial (Below.refl _ _) (Nat.le_refl _) bb ?_;(case hd=>rfl);(case hg=>rfl);(case hr=>exact bL);(case hp=>exact(Reps.one (show Kd.M (Kd.int .u8) _ _ _ ((wrap64 (48+a0)) % 256) [.int .u8 ((wrap64 (48+a0)) % 256)] from rfl) (Reps.none _ _)));intro tL w8 ho9 hb hg_ hnew_;clear hg_ hnew_;(first | rw[← tu.out] at ho9 | (simp only[Int.reduceToNat] at ho9;rw[← tu.out] at ho9));have tx:=am_ (Kd.R_lower ho9 (ar (bw_ HB)));replace HB:=bs_ HB hb;clear hb ho9;have hcv10:=fN (P:=Tryz.prog) Tryz.underlying22 Tryz.underlying5 Tryz.underlying9 (Kd.own_of_R tx.out)))
    go_ret
    exact⟨u1_,bw_ HB⟩
   ·rw[if_neg c7] at H;have tD:=decide_eq_false c7;clear c7;obtain⟨tl,tz,H⟩:=bi_ H;generalize tw:((([(wrap64 (48+(Int.tmod a0 10))) % 256] : List Int)):List Int)=tm at H;have tn:=am_ tw.symm;clear tw;obtain⟨tA,H⟩:=gn_ H;have tE:=eq_true tA;have tF:=decide_eq_true tA;try have tG:(9223372036854775807<tl.size+(strOfNums tm).size)=False:=eq_false (Nat.not_lt.2 tA)
    obtain rfl:=si_ H;go_enter Tryz.func129,Tryz.ntmps129
    try go_wp2
    replace HB:=am_ (au HB.out);refine cN (n:=11) (S:=fun w'=>True) (ds:=[]) (bm_ 11 0) bT rfl rfl trivial (fun hHeld=>?_);refine bu b9.tab7 b9.bits7 (fun HT_ HW_=>?_);generalize w.drew=tO at HB hHeld ⊢;refine pv_ 0 18 ?_;refine pv_ 1 19 ?_;refine pv_ 3 21 ?_;refine pv_ 4 22 ?_;refine pv_ 5 23 ?_;refine pv_ 6 24 ?_;refine lP (σ:=Value) 2 (bm_ 11 511) (fun s_=>[(20,.string tl),(25,s_),(26,.string (strOfNums tm))]) (fun s_ w'=>(Kd.R (Kd.int .u8) 5 w' w.heap.size (fun _=>True) s_ tm)∧(Below w.heap.size w w')) ?_ ?_;rotate_left
    ·intro hCont;refine lK (i:=2) (j:=7) (Ni:=some 20) (Nj:=some 25) (bm_ 11 127) (bm_ 11 251) rfl rfl rfl rfl (fL HT_.out bT) ap ap (fun K hK=>?_) (fun K hK=>?_)
     ·skip
      refine oB_ Tryz.func129 (ih k aw (wrap64 (Int.tdiv a0 10)) tl _ tz.out) ?_;intro tM hb;replace HB:=bs_ HB hb;(try clear hb)
      refine hK.out _ _ trivial (fun hHeld=>?_);clear hK K;refine nm_ ?_;refine ov_ 7 25 (fun K hK=>?_);refine Kd.R_lit_step (Kd.int .u8) _ 5 ?hg (N:=25) ?hd (xs:=([(wrap64 (48+(Int.tmod a0 10))) % 256] : List Int)) (inner:=[.int .u8 ((wrap64 (48+(Int.tmod a0 10))) % 256)]) (ok:=fun _=>True) (okp:=fun _=>True) ?hr ?hp (fun _ hk=>hk) trivial (Below.refl _ _) (Nat.le_refl _) bb ?_;(case hd=>rfl);(case hg=>rfl);(case hr=>exact bL);(case hp=>exact u126_);intro tq tP ho16 hb hg_ hnew_;clear hg_ hnew_;(first | rw[← tn.out] at ho16 | (simp only[Int.reduceToNat] at ho16;rw[← tn.out] at ho16))
      have tk:=am_ (Kd.R_lower ho16 (ar (bw_ HB)));replace HB:=bs_ HB hb;clear hb ho16;refine hK.out _ _ trivial (fun hHeld=>?_);clear hK K;refine nm_ ?_;refine ov_ 8 26 (fun K hK=>?_);have hcv17:=fN (P:=Tryz.prog) Tryz.underlying22 Tryz.underlying5 Tryz.underlying9 (Kd.own_of_R tk.out);refine jm (w1:=?_) (v:=?_) ct rfl ?_ ?_;rotate_left 2
      ·go_simp;constructor
       ·rfl
       ·rfl
      clear hcv17;refine hK.out _ _ trivial (fun hHeld=>?_);clear hK K;refine nm_ ?_;exact ea gS (hCont (tq) _ ⟨(aR_ tk.out),(bw_ HB)⟩)
     ·skip
      refine Kd.R_lit_step (Kd.int .u8) _ 5 ?hg (N:=25) ?hd (xs:=([(wrap64 (48+(Int.tmod a0 10))) % 256] : List Int)) (inner:=[.int .u8 ((wrap64 (48+(Int.tmod a0 10))) % 256)]) (ok:=fun _=>True) (okp:=fun _=>True) ?hr ?hp (fun _ hk=>hk) trivial (Below.refl _ _) (Nat.le_refl _) bb ?_;(case hd=>rfl);(case hg=>rfl);(case hr=>exact bL);(case hp=>exact u126_);intro tq tM ho15 hb hg_ hnew_;clear hg_ hnew_;(first | rw[← tn.out] at ho15 | (simp only[Int.reduceToNat] at ho15;rw[← tn.out] at ho15))
      have tk:=am_ (Kd.R_lower ho15 (ar (bw_ HB)));replace HB:=bs_ HB hb;clear hb ho15;refine hK.out _ _ trivial (fun hHeld=>?_);clear hK K;refine nm_ ?_;refine lK (i:=2) (j:=8) (Ni:=some 20) (Nj:=some 26) (bm_ 11 255) (bm_ 11 507) rfl rfl rfl rfl (fL HT_.out bT) ap ap (fun K hK=>?_) (fun K hK=>?_)
      ·skip
       refine oB_ Tryz.func129 (ih k aw (wrap64 (Int.tdiv a0 10)) tl _ tz.out) ?_;intro tQ hb;replace tk:=am_ (Kd.R_below (aR_ tk.out) hb);replace HB:=bs_ HB hb;(try clear hb)
       refine hK.out _ _ trivial (fun hHeld=>?_);clear hK K;refine nm_ ?_;refine ov_ 8 26 (fun K hK=>?_);have hcv17:=fN (P:=Tryz.prog) Tryz.underlying22 Tryz.underlying5 Tryz.underlying9 (Kd.own_of_R tk.out);refine jm (w1:=?_) (v:=?_) ct rfl ?_ ?_;rotate_left 2
       ·go_simp;constructor
        ·rfl
        ·rfl
       clear hcv17;refine hK.out _ _ trivial (fun hHeld=>?_);clear hK K;refine nm_ ?_;exact ea gS (hCont (tq) _ ⟨(aR_ tk.out),(bw_ HB)⟩)
      ·skip
       have hcv16:=fN (P:=Tryz.prog) Tryz.underlying22 Tryz.underlying5 Tryz.underlying9 (Kd.own_of_R tk.out);refine jm (w1:=?_) (v:=?_) ct rfl ?_ ?_;rotate_left 2
       ·go_simp;constructor
        ·rfl
        ·rfl
       clear hcv16;refine hK.out _ _ trivial (fun hHeld=>?_);clear hK K;refine nm_ ?_;refine ov_ 2 20 (fun K hK=>?_);refine oB_ Tryz.func129 (ih k aw (wrap64 (Int.tdiv a0 10)) tl _ tz.out) ?_;intro tR hb;replace tk:=am_ (Kd.R_below (aR_ tk.out) hb);replace HB:=bs_ HB hb;(try clear hb)
       refine hK.out _ _ trivial (fun hHeld=>?_);clear hK K;refine nm_ ?_;exact ea gS (hCont (tq) _ ⟨(aR_ tk.out),(bw_ HB)⟩)
    rintro tq tH ⟨h0_,h1_⟩;have n0_:aa (Kd.R (Kd.int .u8) 5 tH w.heap.size (fun _=>True) tq tm):=⟨h0_⟩;have n1_:aa (Below w.heap.size w tH):=⟨h1_⟩;clear HB h0_ h1_;have HB:=n1_;clear n0_ n1_;have hHeld:=trivial;refine ea (a':=?_) ?_ ?_;rotate_left
    ·exact u68_
    refine pv_ 9 27 ?_;refine pv_ 10 2 ?_;refine dn_ HT_ ?_;try go_wp2
    go_ret
    exact⟨u1_,bw_ HB⟩
def bQ.l0:Nat→List (S76)→ByteArray→ByteArray→Int→Option (Int × Bool)
 | 0,_,_,_,_=>none
 | k+1,x0,x1,x2,x8=>if x8<(x0.length:Int) then(if 0≤x8 then(if(Op.bytesLess (((aj x0 x8).f0).toList) x1.toList)=true then(bQ.l0 k x0 x1 x2 (wrap64 (x8+1))) else(if((aj x0 x8).f0).toList=x1.toList then(if(Op.bytesLess (((aj x0 x8).f1).toList) x2.toList)=true then(bQ.l0 k x0 x1 x2 (wrap64 (x8+1))) else(some (x8,(((aj x0 x8).f1).toList == x2.toList)))) else(some (x8,false)))) else(none)) else(some (x8,false))
def bQ.f (k:Nat) (l0:List (S76)) (a1:ByteArray) (a2:ByteArray):Option (Int × Bool):=bQ.l0 k l0 a1 a2 0
theorem bQ.calls (k:Nat) (A0:Option Addr) (c0:Nat) (l0:List (S76)) (a1:ByteArray) (a2:ByteArray) (r1:Int) (r2:Bool) (w:World) (hr0:Kd.C k76 w A0 l0.length l0) (hc0:l0.length≤c0) (h:bQ.f k l0 a1 a2=some (r1,r2)) :
  Calls Tryz.prog 95 #[.slice A0 l0.length c0,.string a1,.string a2] w fun e w'=>e = .returned (.tuple #[.int .i64 r1,.bool r2])∧Drawn0 w w':=by
 have ZD:=am_ hr0;have uU:=am_ hc0;clear hr0 hc0;have H:=h;clear h;unfold bQ.f at H
 have H':=am_ H;clear H;go_enter Tryz.func95,Tryz.ntmps95
 go_wp2;repeat (go_quiet (fail);try go_wp2)
 go_loopg [8] k (fun kq v8 w'=>∃(tk:Int),v8 = .int .i64 tk∧aa (bQ.l0 kq l0 a1 a2 tk=some (r1,r2))∧aa (kq≤k)∧Drawn0 w w')
 case atStart=>exact⟨(0),u4_,H',⟨Nat.le_refl _⟩,u7_⟩
 case round=>
  clear H';obtain⟨tk,rfl,HA,HK1,⟨m1,rfl⟩⟩:=hrel;cases gk with
  | zero=>exact absurd HA.out (by simp[bQ.l0])
  | succ k1=>
   have H:=HA.out;clear HA;simp only[bQ.l0] at H;by_cases c4:tk<(l0.length:Int)
   ·rw[if_pos c4] at H;have uz:=decide_eq_true c4;clear c4;obtain⟨uH,H⟩:=gd_ H;have HC_:=am_ H;clear H;obtain⟨tm,um,ut,uB,ua,ub,tl,tx,tn⟩:=eB ZD.out tk od_ od_;cases uB;have tX:=am_ tn;have tR:=am_ tx;clear tn tx;obtain⟨uI,uO⟩:=pt_ tk l0.length;have H:=HC_.out;clear HC_;by_cases c6:(Op.bytesLess (((aj l0 tk).f0).toList) a1.toList)=true
    ·rw[if_pos c6] at H;have tE:(Op.bytesLess (((aj l0 tk).f0).toList) a1.toList)=true:=c6;clear c6;have H':=am_ H;clear H;(first | rw[tE] | (simp only[aC,aG];rw[tE]) | skip)
     go_wp2;repeat (go_quiet (fail);try go_wp2)
     go_roundg k1
     case measure=>have:=HK1.out;omega
     case rel=>exact⟨(wrap64 (tk+1)),u4_,H',⟨dH⟩,u7_⟩
    ·rw[if_neg c6] at H;have tE:(Op.bytesLess (((aj l0 tk).f0).toList) a1.toList)=false:=by simpa using c6
     clear c6;have HC_:=am_ H;clear H;(first | rw[tE] | (simp only[aC,aG];rw[tE]) | skip)
     obtain⟨tM,un,uu,uC,uc,ud,tH,tz,tq⟩:=eB ZD.out tk od_ od_;obtain rfl:tm=tM:=(by injection uC);have tY:=am_ tq;have tS:=am_ tz;clear tq tz;obtain⟨uJ,uP⟩:=pt_ tk l0.length;have ea_:=Option.some.inj (tl.symm.trans tH);injection ea_ with ea_ en_ ec_
     subst ea_;subst ec_;clear en_;have H:=HC_.out;clear HC_;by_cases c7:((aj l0 tk).f0).toList=a1.toList
     ·rw[if_pos c7] at H;have tF:=cW c7;have uA:=cX c7;clear c7;have HC_:=am_ H;clear H;(first | rw[tF] | (simp only[aC,aG];rw[tF]) | skip)
      obtain⟨tN,uo,uv,uD,ue,uf,tI,tA,tr⟩:=eB ZD.out tk od_ od_;obtain rfl:tm=tN:=(by injection uD);have tZ:=am_ tr;have tT:=am_ tA;clear tr tA;obtain⟨uK,uQ⟩:=pt_ tk l0.length;have ea_:=Option.some.inj (tl.symm.trans tI);injection ea_ with ea_ en_ ec_
      subst ea_;subst ec_;clear en_;have H:=HC_.out;clear HC_;by_cases c8:(Op.bytesLess (((aj l0 tk).f1).toList) a2.toList)=true
      ·rw[if_pos c8] at H;have tG:(Op.bytesLess (((aj l0 tk).f1).toList) a2.toList)=true:=c8;clear c8;have H':=am_ H;clear H;(first | rw[tG] | (simp only[aC,aG];rw[tG]) | skip)
       go_wp2;repeat (go_quiet (fail);try go_wp2)
       go_roundg k1
       case measure=>have:=HK1.out;omega
       case rel=>exact⟨(wrap64 (tk+1)),u4_,H',⟨dH⟩,u7_⟩
      ·rw[if_neg c8] at H;have tG:(Op.bytesLess (((aj l0 tk).f1).toList) a2.toList)=false:=by simpa using c8
       clear c8;simp only[Option.some.injEq,Prod.mk.injEq] at H;obtain⟨rfl,rfl⟩:=H;(first | rw[tG] | (simp only[aC,aG];rw[tG]) | skip)
       obtain⟨tO,uq,uw,uE,ug,uh,tJ,tB,tu⟩:=eB ZD.out tk od_ od_;obtain rfl:tm=tO:=(by injection uE);have t6:=am_ tu;have tU:=am_ tB;clear tu tB;obtain⟨uL,uR⟩:=pt_ tk l0.length;have ea_:=Option.some.inj (tl.symm.trans tJ);injection ea_ with ea_ en_ ec_
       subst ea_;subst ec_;clear en_;obtain⟨tP,ur,ux,uF,ui,uj,tK,tC,tv⟩:=eB ZD.out tk od_ od_;obtain rfl:tm=tP:=(by injection uF);have t7:=am_ tv;have tV:=am_ tC;clear tv tC;obtain⟨uM,uS⟩:=pt_ tk l0.length;have ea_:=Option.some.inj (tl.symm.trans tK);injection ea_ with ea_ en_ ec_
       subst ea_;subst ec_;clear en_;go_wp2;repeat (go_quiet (fail);try go_wp2)
       go_ret2
       exact⟨u9_,u7_⟩
     ·rw[if_neg c7] at H;have tF:=cO c7;have uA:=cQ c7;simp only[Option.some.injEq,Prod.mk.injEq] at H;obtain⟨rfl,rfl⟩:=H;(first | rw[tF] | (simp only[aC,aG];rw[tF]) | skip)
      obtain⟨tQ,us,uy,uG,uk,ul,tL,tD,tw⟩:=eB ZD.out tk od_ od_;obtain rfl:tm=tQ:=(by injection uG);have t8:=am_ tw;have tW:=am_ tD;clear tw tD;obtain⟨uN,uT⟩:=pt_ tk l0.length;have ea_:=Option.some.inj (tl.symm.trans tL);injection ea_ with ea_ en_ ec_
      subst ea_;subst ec_;clear en_;go_wp2;repeat (go_quiet (fail);try go_wp2)
      go_ret2
      exact⟨u9_,u7_⟩
   ·rw[if_neg c4] at H;have uz:=decide_eq_false c4;clear c4;simp only[Option.some.injEq,Prod.mk.injEq] at H;obtain⟨rfl,rfl⟩:=H;go_wp2;repeat (go_quiet (fail);try go_wp2)
    go_ret2
    exact⟨u9_,u7_⟩
def dW.f (k:Nat) (l0:List (S92)) (a1:ByteArray) (a2:Int):Option (Bool):=(bk.f k l0 a1).bind fun tk=>(if tk≥0 then(if 0≤tk then(if tk<(l0.length:Int) then(some (((az l0 tk).f1) == a2)) else(none)) else(none)) else(some false))
theorem dW.calls (k:Nat) (A0:Option Addr) (c0:Nat) (l0:List (S92)) (a1:ByteArray) (a2:Int) (r:Bool) (w:World) (hr0:Kd.C k92 w A0 l0.length l0) (hc0:l0.length≤c0) (h:dW.f k l0 a1 a2=some r) :
  Calls Tryz.prog 140 #[.slice A0 l0.length c0,.string a1,.int .i64 a2] w fun e w'=>e = .returned (.bool r)∧Drawn0 w w':=by
 have ZD:=am_ hr0;have tw:=am_ hc0;clear hr0 hc0;have H:=h;clear h;unfold dW.f at H
 obtain⟨tk,A4,H⟩:=bi_ H;by_cases c5:tk≥0
 ·rw[if_pos c5] at H;have tu:decide (0≤tk)=true:=decide_eq_true c5;clear c5;obtain⟨tz,H⟩:=gd_ H;obtain⟨tA,H⟩:=gd_ H;obtain rfl:=si_ H;go_enter Tryz.func140,Tryz.ntmps140
  go_wp2_with (first | ((with_reducible refine gt_ 10 ?_);refine gD_ 10 Tryz.func96 (bk.calls k _ _ l0 a1 tk _ ?side1 tw.out A4.out) ?_;(case side1=>exact u59_);intro nd;obtain⟨tl,tm⟩:=pq_ tk l0.length;obtain⟨tx,tv,tn,tq,tr⟩:=jb ZD.out tk tl tm;cases tv;obtain⟨tl,tm⟩:=tt_ tl tm))
  go_ret
  exact⟨u9_,u7_⟩
 ·rw[if_neg c5] at H;have tu:decide (0≤tk)=false:=decide_eq_false c5;clear c5;obtain rfl:=si_ H;go_enter Tryz.func140,Tryz.ntmps140
  go_wp2_with (first | ((with_reducible refine gt_ 10 ?_);refine gD_ 10 Tryz.func96 (bk.calls k _ _ l0 a1 tk _ ?side1 tw.out A4.out) ?_;(case side1=>exact u59_);intro nd))
  go_ret
  exact⟨u9_,u7_⟩
def cP.f (a0:Int):Option (Int):=if a0≥65 then(if a0≤90 then(some ((a0+32) % 256)) else(some a0)) else(some a0)
theorem cP.calls (a0:Int) (r:Int) (w:World) (h:cP.f a0=some r) :
  Calls Tryz.prog 136 #[.int .u8 a0] w fun e w'=>e = .returned (.int .u8 r)∧Drawn0 w w':=by
 have H:=h;clear h;unfold cP.f at H
 by_cases c2:a0≥65
 ·rw[if_pos c2] at H;have tk:decide (65≤a0)=true:=decide_eq_true c2;clear c2;by_cases c3:a0≤90
  ·rw[if_pos c3] at H;have tl:=decide_eq_true c3;clear c3;obtain rfl:=si_ H;go_enter Tryz.func136,Tryz.ntmps136
   go_wp2;go_ret
   exact⟨u9_,u7_⟩
  ·rw[if_neg c3] at H;have tl:=decide_eq_false c3;clear c3;obtain rfl:=si_ H;go_enter Tryz.func136,Tryz.ntmps136
   go_wp2;go_ret
   exact⟨u9_,u7_⟩
 ·rw[if_neg c2] at H;have tk:decide (65≤a0)=false:=decide_eq_false c2;clear c2;obtain rfl:=si_ H;go_enter Tryz.func136,Tryz.ntmps136
  go_wp2;go_ret
  exact⟨u9_,u7_⟩
def dh.l0:Nat→ByteArray→List Int→Int→Option (ByteArray)
 | 0,_,_,_=>none
 | k+1,x0,x3,x4=>if x4<(x0.size:Int) then(if 0≤x4 then((cP.f (bt x0 x4)).bind fun tk=>(if x3.length<140737488355328 then(dh.l0 k x0 (x3 ++ [tk]) (wrap64 (x4+1))) else(none))) else(none)) else(some (strOfNums x3))
def dh.f (k:Nat) (a0:ByteArray):Option (ByteArray):=dh.l0 k a0 (([] : List Int)) 0
theorem dh.calls (k:Nat) (a0:ByteArray) (r:ByteArray) (w:World) (h:dh.f k a0=some r) :
  Calls Tryz.prog 93 #[.string a0] w fun e w'=>e = .returned (.string r)∧Below w.heap.size w w':=by
 have HB:=am_ (Below.refl w.heap.size w);have H:=h;clear h;unfold dh.f at H
 obtain⟨tx,tk⟩:∃y_:List Int,y_=(([] : List Int)):=⟨_,rfl⟩;replace H:(dh.l0 k a0 tx 0)=some r:=by first | (rw[tk];with_reducible exact H)|(have H2_:=(Option.bind_some _ _).symm.trans H;rw[tk];with_reducible exact H2_)|(have H2_:=(Option.bind_some _ _).symm.trans H;with_reducible exact H2_) | with_reducible exact H | (rw[tk];exact H) | exact H
 have tq:=am_ tk;clear tk;have H':=am_ H;clear H;go_enter Tryz.func93,Tryz.ntmps93
 go_wp2_with (first | ((with_reducible refine aA (N:=5) rfl ?_);refine Kd.R_lit (Kd.int .u8) _ 5 ?hg (N:=5) ?hd (xs:=([] : List Int)) (inner:=[]) (ok:=fun _=>True) (okp:=fun _=>True) ?hr ?hp (fun _ hk=>hk) trivial (Below.refl _ _) (Nat.le_refl _) bb ?_;(case hd=>rfl);(case hg=>rfl);(case hr=>exact bL);(case hp=>exact fj);intro tD w2 ho3 hb hg_ hnew_;clear hg_ hnew_;(first | rw[← tq.out] at ho3 | (simp only[Int.reduceToNat] at ho3;rw[← tq.out] at ho3));have tu:=am_ (Kd.R_lower ho3 (ar (bw_ HB)));replace HB:=bs_ HB hb;clear hb ho3))
 go_loopg [3,4] k (fun kq v3 v4 w'=>∃(tm:List Int) (tl:Int),v4 = .int .i64 tl∧aa (dh.l0 kq a0 tm tl=some r)∧aa (kq≤k)∧aa (Kd.R (Kd.int .u8) 5 w' w.heap.size (fun _=>True) v3 tm)∧aa (Below w.heap.size w w'))
 case atStart=>exact⟨(tx),(0),u4_,H',⟨Nat.le_refl _⟩,⟨aR_ tu.out⟩,⟨bw_ HB⟩⟩
 case round=>
  clear H';obtain⟨tm,tl,rfl,HA,HK1,Z3,HB⟩:=hrel;cases gk with
  | zero=>exact absurd HA.out (by simp[dh.l0])
  | succ k1=>
   have H:=HA.out;clear HA;simp only[dh.l0] at H;by_cases c4:tl<(a0.size:Int)
   ·rw[if_pos c4] at H;have tA:=decide_eq_true c4;clear c4;obtain⟨tC,H⟩:=gd_ H;obtain⟨tn,A7,H⟩:=bi_ H;obtain⟨tz,H⟩:=gl_ H;generalize tr:((tm ++ [tn]):List Int)=tB at H;have tw:=am_ tr.symm;clear tr;have H':=am_ H;clear H;obtain⟨p6,q6⟩:=pq_ tl a0.size;have tF:=d8 a0 tl;obtain⟨p6,q6⟩:=tt_ p6 q6;go_wp2_with (first | ((with_reducible refine gt_ 16 ?_);refine gD_ 16 Tryz.func136 (cP.calls (bt a0 tl) tn _ A7.out) ?_;intro nd)|((with_reducible refine aY (b:=.append) (xs:=#[.tmp 12,.tmp 17]) rfl ?_);at_builtin;refine Kd.R_append (Kd.int .u8) (w0:=w) w.heap.size rfl (.tmp 12) (.tmp 17) 22 5 (.int .u8 0) 1 rfl Tryz.underlying22 info5 rfl ap aw u3 tm tn [.int .u8 tn] (fun _=>True) (fun _=>False) rfl rfl ?aP (fun _ hk=>hk.elim) ?aF ?aO ?aB ?aS ?aL ?_;(case aP=>exact rfl);(case aB=>exact fi);(case aF=>exact gU);(case aO=>exact kp);(case aS=>exact fh);(case aL=>have:=tz.out;omega);intro tE w9 ho hb hg hat;rw[← tw.out] at ho;replace HB:=am_ (hb);have tv:=am_ (ho);clear Z3 ho hb hg hat))
    go_roundg k1
    case measure=>have:=HK1.out;omega
    case rel=>exact⟨(tB),(wrap64 (tl+1)),u4_,H',⟨dH⟩,⟨aR_ tv.out⟩,⟨bw_ HB⟩⟩
   ·rw[if_neg c4] at H;have tA:=decide_eq_false c4;clear c4;obtain rfl:=si_ H;have hcv10:=fN (P:=Tryz.prog) Tryz.underlying22 Tryz.underlying5 Tryz.underlying9 (Kd.own_of_R Z3.out);go_wp2;go_ret
    exact⟨u1_,bw_ HB⟩
def bS.l0:Nat→ByteArray→List ByteArray→Int→Option (Bool)
 | 0,_,_,_=>none
 | k+1,x0,x3,x4=>if x4<(x3.length:Int) then(if 0≤x4 then(if(bC ByteArray.empty x3 x4).toList=x0.toList then(some true) else(bS.l0 k x0 x3 (wrap64 (x4+1)))) else(none)) else(some false)
def bS.f (k:Nat) (a0:ByteArray):Option (Bool):=bS.l0 k a0 (([(⟨#[97]⟩:ByteArray),(⟨#[97,110]⟩:ByteArray),(⟨#[97,110,100]⟩:ByteArray),(⟨#[111,102]⟩:ByteArray),(⟨#[116,104,101]⟩:ByteArray),(⟨#[116,111]⟩:ByteArray)] : List ByteArray)) 0
theorem bS.calls (k:Nat) (a0:ByteArray) (r:Bool) (w:World) (h:bS.f k a0=some r) :
  Calls Tryz.prog 94 #[.string a0] w fun e w'=>e = .returned (.bool r)∧Below w.heap.size w w':=by
 have HB:=am_ (Below.refl w.heap.size w);have H:=h;clear h;unfold bS.f at H
 generalize tq:((([(⟨#[97]⟩:ByteArray),(⟨#[97,110]⟩:ByteArray),(⟨#[97,110,100]⟩:ByteArray),(⟨#[111,102]⟩:ByteArray),(⟨#[116,104,101]⟩:ByteArray),(⟨#[116,111]⟩:ByteArray)] : List ByteArray)):List ByteArray)=tm at H;have tn:=am_ tq.symm;clear tq;have H':=am_ H;clear H;go_enter Tryz.func94,Tryz.ntmps94
 go_wp2_with (first | ((with_reducible refine aA (N:=5) rfl ?_);refine Kd.R_lit Kd.string _ 9 ?hg (N:=5) ?hd (xs:=([(⟨#[97]⟩:ByteArray),(⟨#[97,110]⟩:ByteArray),(⟨#[97,110,100]⟩:ByteArray),(⟨#[111,102]⟩:ByteArray),(⟨#[116,104,101]⟩:ByteArray),(⟨#[116,111]⟩:ByteArray)] : List ByteArray)) (inner:=[.string (⟨#[97]⟩:ByteArray),.string (⟨#[97,110]⟩:ByteArray),.string (⟨#[97,110,100]⟩:ByteArray),.string (⟨#[111,102]⟩:ByteArray),.string (⟨#[116,104,101]⟩:ByteArray),.string (⟨#[116,111]⟩:ByteArray)]) (ok:=fun _=>True) (okp:=fun _=>True) ?hr ?hp (fun _ hk=>hk) trivial (Below.refl _ _) (Nat.le_refl _) bb ?_;(case hd=>rfl);(case hg=>rfl);(case hr=>exact bL);(case hp=>exact(Reps.one (show Kd.M Kd.string _ _ _ (⟨#[97]⟩:ByteArray) [.string (⟨#[97]⟩:ByteArray)] from rfl) (Reps.one (show Kd.M Kd.string _ _ _ (⟨#[97,110]⟩:ByteArray) [.string (⟨#[97,110]⟩:ByteArray)] from rfl) (Reps.one (show Kd.M Kd.string _ _ _ (⟨#[97,110,100]⟩:ByteArray) [.string (⟨#[97,110,100]⟩:ByteArray)] from rfl) (Reps.one (show Kd.M Kd.string _ _ _ (⟨#[111,102]⟩:ByteArray) [.string (⟨#[111,102]⟩:ByteArray)] from rfl) (Reps.one (show Kd.M Kd.string _ _ _ (⟨#[116,104,101]⟩:ByteArray) [.string (⟨#[116,104,101]⟩:ByteArray)] from rfl) (Reps.one (show Kd.M Kd.string _ _ _ (⟨#[116,111]⟩:ByteArray) [.string (⟨#[116,111]⟩:ByteArray)] from rfl) (Reps.none _ _))))))));intro tz w2 ho3 hb hg_ hnew_;clear hg_ hnew_;(first | rw[← tn.out] at ho3 | (simp only[Int.reduceToNat] at ho3;rw[← tn.out] at ho3));have tr:=am_ (Kd.R_lower ho3 (ar (bw_ HB)));replace HB:=bs_ HB hb;clear hb ho3))
 go_loopg [4] k (fun kq v4 w'=>∃(tk:Int),v4 = .int .i64 tk∧aa (bS.l0 kq a0 tm tk=some r)∧aa (kq≤k)∧aa (Kd.R Kd.string 9 w' w.heap.size (fun _=>True) tz tm)∧aa (Below w.heap.size w w'))
 case atStart=>exact⟨(0),u4_,H',⟨Nat.le_refl _⟩,⟨aR_ tr.out⟩,⟨bw_ HB⟩⟩
 case round=>
  clear H';obtain⟨tk,rfl,HA,HK1,Z3,HB⟩:=hrel;cases gk with
  | zero=>exact absurd HA.out (by simp[bS.l0])
  | succ k1=>
   have H:=HA.out;clear HA;simp only[bS.l0] at H;by_cases c4:tk<(tm.length:Int)
   ·rw[if_pos c4] at H;have tv:=decide_eq_true c4;clear c4;obtain⟨tB,H⟩:=gd_ H;have HC_:=am_ H;clear H;obtain⟨tG,tI,tC⟩:=Kd.R_slice Z3.out;subst tC;obtain⟨tA,tx,tu⟩:=Kd.at_string (Kd.R_reads' Z3.out).2.2 tk od_ od_;cases tx;obtain⟨tE,tF⟩:=pt_ tk tm.length;have H:=HC_.out;clear HC_;by_cases c6:(bC ByteArray.empty tm tk).toList=a0.toList
    ·rw[if_pos c6] at H;have tl:=cW c6;have tw:=cX c6;clear c6;obtain rfl:=si_ H;(first | rw[tl] | (simp only[aC,aG];rw[tl]) | skip)
     go_wp2;go_ret
     exact⟨u1_,bw_ HB⟩
    ·rw[if_neg c6] at H;have tl:=cO c6;have tw:=cQ c6;have H':=am_ H;clear H;(first | rw[tl] | (simp only[aC,aG];rw[tl]) | skip)
     go_wp2;go_roundg k1
     case measure=>have:=HK1.out;omega
     case rel=>exact⟨(wrap64 (tk+1)),u4_,H',⟨dH⟩,⟨aR_ Z3.out⟩,⟨bw_ HB⟩⟩
   ·rw[if_neg c4] at H;have tv:=decide_eq_false c4;clear c4;obtain rfl:=si_ H;obtain⟨tH,tJ,tD⟩:=Kd.R_slice Z3.out;subst tD;go_wp2;go_ret
    exact⟨u1_,bw_ HB⟩
mutual
def bR.j0:Nat→ByteArray→Option (ByteArray)
 | 0,_=>none
 | k+1,x3=>if(x3.size:Int)>3 then(if 0≤(wrap64 ((x3.size:Int) - 1)) then(if(wrap64 ((x3.size:Int) - 1))<(x3.size:Int) then(if(bt x3 (wrap64 ((x3.size:Int) - 1)))=115 then(if 0≤(wrap64 ((x3.size:Int) - 2)) then(if(wrap64 ((x3.size:Int) - 2))<(x3.size:Int) then(bR.j1 k x3 (x3.size:Int) ((bt x3 (wrap64 ((x3.size:Int) - 2))) != 115)) else(none)) else(none)) else(bR.j1 k x3 (x3.size:Int) false)) else(none)) else(none)) else(bR.j1 k x3 (x3.size:Int) false)
def bR.j1:Nat→ByteArray→Int→Bool→Option (ByteArray)
 | 0,_,_,_=>none
 | k+1,x3,x4,tm=>if tm=true then(if 0≤(wrap64 (x4 - 1)) then(if(wrap64 (x4 - 1))≤(x3.size:Int) then((bS.f k (x3.extract 0 ((wrap64 (x4 - 1)):Int).toNat)).bind fun tk=>(if tk=true then(some (⟨#[]⟩:ByteArray)) else(some (x3.extract 0 ((wrap64 (x4 - 1)):Int).toNat)))) else(none)) else(none)) else((bS.f k x3).bind fun tl=>(if tl=true then(some (⟨#[]⟩:ByteArray)) else(some x3)))
end
def bR.f (k:Nat) (a0:ByteArray):Option (ByteArray):=(dh.f k a0).bind fun tk=>(if(tk.size:Int)>12 then(if 0≤12 then(if 12≤(tk.size:Int) then(bR.j0 k (tk.extract 0 12)) else(none)) else(none)) else(bR.j0 k tk))
theorem bR.calls (k:Nat) (a0:ByteArray) (r:ByteArray) (w:World) (h:bR.f k a0=some r) :
  Calls Tryz.prog 47 #[.string a0] w fun e w'=>e = .returned (.string r)∧Below w.heap.size w w':=by
 have HB:=am_ (Below.refl w.heap.size w);have H:=h;clear h;unfold bR.f at H
 obtain⟨tn,A2,H⟩:=bi_ H;have tF:=am_ H;clear H;go_enter Tryz.func47,Tryz.ntmps47
 go_upto_if 9 with (first | ((with_reducible refine gt_ 6 ?_);refine gB_ 6 Tryz.func93 (dh.calls k a0 tn _ A2.out) ?_;intro w4 hb;replace HB:=bs_ HB hb;(try clear hb)))
 (try simp only[Act.put,List.setIfInBounds_toArray,List.set_cons_zero,List.set_cons_succ])
 go_cut [3] (fun v3 wc=>∃(kq:Nat) (tk:ByteArray),v3 = .string tk∧aa (bR.j0 kq tk=some r)∧aa (kq≤k)∧aa (Below w.heap.size w wc))
 case first=>
  have H:=tF.out;clear tF;by_cases c5:(tn.size:Int)>12
  ·rw[if_pos c5] at H;have tw:decide (12<(tn.size:Int))=true:=decide_eq_true c5;have tH:decide (12<tn.size)=true:=decide_eq_true aw;clear c5;(first | rw[tw] | (simp only[aC,aG];rw[tw]) | skip)
   obtain⟨tY,tZ,H⟩:=ge_ H;obtain⟨t6,t7,H⟩:=ge_ H;have H':=am_ H;clear H;go_wp2;go_meet
   case rel=>exact⟨_,(tn.extract 0 12),u4_,H',⟨jD⟩,⟨bw_ HB⟩⟩
  ·rw[if_neg c5] at H;have tw:decide (12<(tn.size:Int))=false:=decide_eq_false c5;have tH:decide (12<tn.size)=false:=decide_eq_false aw;clear c5;(first | rw[tw] | (simp only[aC,aG];rw[tw]) | skip)
   have H':=am_ H;clear H;go_wp2;go_meet
   case rel=>exact⟨_,(tn),u4_,H',⟨jD⟩,⟨bw_ HB⟩⟩
 case rest=>
  clear tF;obtain⟨kq,tk,rfl,HA,YG,HB⟩:=hcut;cases kq with
  | zero=>exact absurd HA.out (by simp[bR.j0])
  | succ tE=>
   have H:=HA.out;clear HA;simp only[bR.j0] at H;have tG:=am_ H;clear H;go_upto_region 5 with (fail)
   go_cut [29] (fun ub wc=>∃(kq:Nat) (tv:Bool),ub = .bool tv∧aa (bR.j1 kq tk (tk.size:Int) tv=some r)∧aa (kq≤tE)∧aa (Below w.heap.size w wc))
   case first=>
    have H:=tG.out;clear tG;by_cases c9:(tk.size:Int)>3
    ·rw[if_pos c9] at H;have tx:decide (3<(tk.size:Int))=true:=decide_eq_true c9;have tI:decide (3<tk.size)=true:=decide_eq_true aw;clear c9;(first | rw[tx] | (simp only[aC,aG];rw[tx]) | skip)
     obtain⟨tq,tz⟩:∃j_:Int,(wrap64 ((tk.size:Int) - 1))=j_:=⟨_,rfl⟩;replace H:(if 0≤(tq) then(if(tq)<(tk.size:Int) then(if(bt tk (tq))=115 then(if 0≤(wrap64 ((tk.size:Int) - 2)) then(if(wrap64 ((tk.size:Int) - 2))<(tk.size:Int) then(bR.j1 tE tk (tk.size:Int) ((bt tk (wrap64 ((tk.size:Int) - 2))) != 115)) else(none)) else(none)) else(bR.j1 tE tk (tk.size:Int) false)) else(none)) else(none))=some r:=by first | (rw[tz] at H;exact H)|(simp only[tz] at H ⊢;exact H)
     have hji10w:(IntKind.i64.wrap ((tk.size:Int) - 1))=tq:=(aC _).trans tz;obtain⟨tM,H⟩:=gd_ H;obtain⟨tN,H⟩:=gd_ H;have HC_:=am_ H;clear H;obtain⟨tU,tW⟩:=pq_ (tq) tk.size;have t8:=d8 tk (tq);obtain⟨tU,tW⟩:=tt_ tU tW;have H:=HC_.out;clear HC_;by_cases tA:(bt tk (tq))=115
     ·rw[if_pos tA] at H;have tm:=cW tA;have tC:=cX tA;clear tA;obtain⟨tr,tu⟩:∃j_:Int,(wrap64 ((tk.size:Int) - 2))=j_:=⟨_,rfl⟩;replace H:(if 0≤(tr) then(if(tr)<(tk.size:Int) then(bR.j1 tE tk (tk.size:Int) ((bt tk (tr)) != 115)) else(none)) else(none))=some r:=by first | (rw[tu] at H;exact H)|(simp only[tu] at H ⊢;exact H)
      have hji15w:(IntKind.i64.wrap ((tk.size:Int) - 2))=tr:=(aC _).trans tu;obtain⟨tO,H⟩:=gd_ H;obtain⟨tP,H⟩:=gd_ H;have H':=am_ H;clear H;(first | rw[tm] | (simp only[aC,aG];rw[tm]) | skip)
      obtain⟨tV,tX⟩:=pq_ (tr) tk.size;have ua:=d8 tk (tr);obtain⟨tV,tX⟩:=tt_ tV tX;go_wp2;go_meet
      case rel=>exact⟨_,(((bt tk (tr)) != 115)),(by first | rfl | (simp;done)|(simp only[← tu] <;> (first | rfl | simp))|(simp[*];done)),H',⟨sr⟩,⟨bw_ HB⟩⟩
     ·rw[if_neg tA] at H;have tm:=cO tA;have tC:=cQ tA;have H':=am_ H;clear H;(first | rw[tm] | (simp only[aC,aG];rw[tm]) | skip)
      go_wp2;go_meet
      case rel=>exact⟨_,(false),u4_,H',⟨sr⟩,⟨bw_ HB⟩⟩
    ·rw[if_neg c9] at H;have tx:decide (3<(tk.size:Int))=false:=decide_eq_false c9;have tI:decide (3<tk.size)=false:=decide_eq_false aw;clear c9;(first | rw[tx] | (simp only[aC,aG];rw[tx]) | skip)
     have H':=am_ H;clear H;go_wp2;go_meet
     case rel=>exact⟨_,(false),u4_,H',⟨sr⟩,⟨bw_ HB⟩⟩
   case rest=>
    clear tG;obtain⟨kq,tv,rfl,HA,uc,HB⟩:=hcut;cases kq with
    | zero=>exact absurd HA.out (by simp[bR.j1])
    | succ tD=>
     have H:=HA.out;clear HA;simp only[bR.j1] at H;cases tv
     ·replace H:=hf_ H;obtain⟨tJ,tL,H⟩:=bi_ H;cases tJ
      ·replace H:=hf_ H;obtain rfl:=si_ H;go_wp2_with (first | ((with_reducible refine gt_ 35 ?_);refine gB_ 35 Tryz.func94 (bS.calls tD tk false _ tL.out) ?_;intro ug hb;replace HB:=bs_ HB hb;(try clear hb)))
       go_ret
       exact⟨u1_,bw_ HB⟩
      ·replace H:=ht_ H;obtain rfl:=si_ H;go_wp2_with (first | ((with_reducible refine gt_ 35 ?_);refine gB_ 35 Tryz.func94 (bS.calls tD tk true _ tL.out) ?_;intro uf hb;replace HB:=bs_ HB hb;(try clear hb)))
       go_ret
       exact⟨u1_,bw_ HB⟩
     ·replace H:=ht_ H;obtain⟨tl,YV⟩:∃j_:Int,(wrap64 ((tk.size:Int) - 1))=j_:=⟨_,rfl⟩;replace H:(if 0≤(tl) then(if(tl)≤(tk.size:Int) then((bS.f tD (tk.extract 0 ((tl):Int).toNat)).bind fun tB=>(if tB=true then(some (⟨#[]⟩:ByteArray)) else(some (tk.extract 0 ((tl):Int).toNat)))) else(none)) else(none))=some r:=by first | (rw[YV] at H;exact H)|(simp only[YV] at H ⊢;exact H)
      have hji20w:(IntKind.i64.wrap ((tk.size:Int) - 1))=tl:=(aC _).trans YV;obtain⟨tQ,tR,H⟩:=ge_ H;obtain⟨tS,tT,H⟩:=ge_ H;obtain⟨tB,tK,H⟩:=bi_ H;cases tB
      ·replace H:=hf_ H;obtain rfl:=si_ H;go_wp2_with (first | ((with_reducible refine eq (f:=94) rfl ?_);refine gX (some 35) rfl rfl Tryz.func94 bT rfl #[.string (tk.extract 0 ((tl):Int).toNat)] rfl u107_ ?_;(with_reducible refine(bS.calls tD (tk.extract 0 ((tl):Int).toNat) false _ tK.out).mono ?_);rintro e ue ⟨rfl,hb⟩;refine⟨_,rfl,?_⟩;replace HB:=bs_ HB hb;(try clear hb)))
       go_ret
       exact⟨u102_,bw_ HB⟩
      ·replace H:=ht_ H;obtain rfl:=si_ H;go_wp2_with (first | ((with_reducible refine eq (f:=94) rfl ?_);refine gX (some 35) rfl rfl Tryz.func94 bT rfl #[.string (tk.extract 0 ((tl):Int).toNat)] rfl u107_ ?_;(with_reducible refine(bS.calls tD (tk.extract 0 ((tl):Int).toNat) true _ tK.out).mono ?_);rintro e ud ⟨rfl,hb⟩;refine⟨_,rfl,?_⟩;replace HB:=bs_ HB hb;(try clear hb)))
       go_ret
       exact⟨u102_,bw_ HB⟩
def dQ.f (a0:Int):Option (Bool):=(cP.f a0).bind fun tk=>(if tk≥97 then(if tk≤122 then(some true) else(if tk≥48 then(some (decide (tk≤57))) else(some false))) else(if tk≥48 then(some (decide (tk≤57))) else(some false)))
theorem dQ.calls (a0:Int) (r:Bool) (w:World) (h:dQ.f a0=some r) :
  Calls Tryz.prog 181 #[.int .u8 a0] w fun e w'=>e = .returned (.bool r)∧Drawn0 w w':=by
 have H:=h;clear h;unfold dQ.f at H
 obtain⟨tk,A2,H⟩:=bi_ H;by_cases c3:tk≥97
 ·rw[if_pos c3] at H;have tl:decide (97≤tk)=true:=decide_eq_true c3;clear c3;by_cases c4:tk≤122
  ·rw[if_pos c4] at H;have tm:=decide_eq_true c4;clear c4;obtain rfl:=si_ H;go_enter Tryz.func181,Tryz.ntmps181
   go_wp2_with (first | ((with_reducible refine gt_ 5 ?_);refine gD_ 5 Tryz.func136 (cP.calls a0 tk _ A2.out) ?_;intro nd))
   go_ret
   exact⟨u9_,u7_⟩
  ·rw[if_neg c4] at H;have tm:=decide_eq_false c4;clear c4;by_cases c5:tk≥48
   ·rw[if_pos c5] at H;have tn:decide (48≤tk)=true:=decide_eq_true c5;clear c5;obtain rfl:=si_ H;go_enter Tryz.func181,Tryz.ntmps181
    go_wp2_with (first | ((with_reducible refine gt_ 5 ?_);refine gD_ 5 Tryz.func136 (cP.calls a0 tk _ A2.out) ?_;intro nd))
    go_ret
    exact⟨u9_,u7_⟩
   ·rw[if_neg c5] at H;have tn:decide (48≤tk)=false:=decide_eq_false c5;clear c5;obtain rfl:=si_ H;go_enter Tryz.func181,Tryz.ntmps181
    go_wp2_with (first | ((with_reducible refine gt_ 5 ?_);refine gD_ 5 Tryz.func136 (cP.calls a0 tk _ A2.out) ?_;intro nd))
    go_ret
    exact⟨u9_,u7_⟩
 ·rw[if_neg c3] at H;have tl:decide (97≤tk)=false:=decide_eq_false c3;clear c3;by_cases c6:tk≥48
  ·rw[if_pos c6] at H;have tq:decide (48≤tk)=true:=decide_eq_true c6;clear c6;obtain rfl:=si_ H;go_enter Tryz.func181,Tryz.ntmps181
   go_wp2_with (first | ((with_reducible refine gt_ 5 ?_);refine gD_ 5 Tryz.func136 (cP.calls a0 tk _ A2.out) ?_;intro nd))
   go_ret
   exact⟨u9_,u7_⟩
  ·rw[if_neg c6] at H;have tq:decide (48≤tk)=false:=decide_eq_false c6;clear c6;obtain rfl:=si_ H;go_enter Tryz.func181,Tryz.ntmps181
   go_wp2_with (first | ((with_reducible refine gt_ 5 ?_);refine gD_ 5 Tryz.func136 (cP.calls a0 tk _ A2.out) ?_;intro nd))
   go_ret
   exact⟨u9_,u7_⟩
mutual
def bm.l0:Nat→ByteArray→List (S90)→Int→Option ((List (S90)))
 | 0,_,_,_=>none
 | k+1,x0,x3,x4=>if x4<(x0.size:Int) then(bm.l1 k x0 x3 x4 x4) else(some x3)
def bm.l1:Nat→ByteArray→List (S90)→Int→Int→Option ((List (S90)))
 | 0,_,_,_,_=>none
 | k+1,x0,x3,x4,x5=>if x5<(x0.size:Int) then(if 0≤x5 then((dQ.f (bt x0 x5)).bind fun tk=>(if tk=true then(bm.l1 k x0 x3 x4 (wrap64 (x5+1))) else(if x5=x4 then(bm.l0 k x0 x3 (wrap64 (x4+1))) else(if 0≤x4 then(if x4≤x5 then(if x5≤(x0.size:Int) then(if x3.length<4398046511104 then(bm.l0 k x0 (x3 ++ [(⟨x0.extract (x4:Int).toNat (x5:Int).toNat,x4,x5⟩:S90)]) x5) else(none)) else(none)) else(none)) else(none))))) else(none)) else(if x5=x4 then(bm.l0 k x0 x3 (wrap64 (x4+1))) else(if 0≤x4 then(if x4≤x5 then(if x5≤(x0.size:Int) then(if x3.length<4398046511104 then(bm.l0 k x0 (x3 ++ [(⟨x0.extract (x4:Int).toNat (x5:Int).toNat,x4,x5⟩:S90)]) x5) else(none)) else(none)) else(none)) else(none)))
end
def bm.f (k:Nat) (a0:ByteArray):Option ((List (S90))):=bm.l0 k a0 (([] : List (S90))) 0
theorem bm.calls (k:Nat) (a0:ByteArray) (r:List (S90)) (w:World) (h:bm.f k a0=some r) :
  Calls Tryz.prog 161 #[.string a0] w fun e w'=>∃v0_:Value,e = .returned (v0_)∧Kd.R k90 90 w' w.heap.size (fun _=>True) v0_ r∧Below w.heap.size w w':=by
 have hu90:=Tryz.underlying90;have HB:=am_ (Below.refl w.heap.size w);have H:=h;clear h;unfold bm.f at H
 obtain⟨tJ,tq⟩:∃y_:List (S90),y_=(([] : List (S90))):=⟨_,rfl⟩;replace H:(bm.l0 k a0 tJ 0)=some r:=by first | (rw[tq];with_reducible exact H)|(have H2_:=(Option.bind_some _ _).symm.trans H;rw[tq];with_reducible exact H2_)|(have H2_:=(Option.bind_some _ _).symm.trans H;with_reducible exact H2_) | with_reducible exact H | (rw[tq];exact H) | exact H
 have tr:=am_ tq;clear tq;have H':=am_ H;clear H;go_enter Tryz.func161,Tryz.ntmps161
 go_wp2_with (first | ((with_reducible refine aA (N:=6) rfl ?_);refine Kd.R_lit k90 _ 90 ?hg (N:=6) ?hd (xs:=([] : List (S90))) (inner:=[]) (ok:=fun _=>True) (okp:=fun _=>True) ?hr ?hp (fun _ hk=>hk) trivial (Below.refl _ _) (Nat.le_refl _) bb ?_;(case hd=>rfl);(case hg=>rfl);(case hr=>exact bL);(case hp=>exact fj);intro t7 w2 ho3 hb hg_ hnew_;clear hg_ hnew_;(first | rw[← tr.out] at ho3 | (simp only[Int.reduceToNat] at ho3;rw[← tr.out] at ho3));have tx:=am_ (Kd.R_lower ho3 (ar (bw_ HB)));replace HB:=bs_ HB hb;clear hb ho3))
 go_loopg [3,4] k (fun kq v3 v4 w'=>∃(tm:List (S90)) (tl:Int),v4 = .int .i64 tl∧aa (bm.l0 kq a0 tm tl=some r)∧aa (kq≤k)∧aa (Kd.R k90 90 w' w.heap.size (fun _=>True) v3 tm)∧aa (Below w.heap.size w w'))
 case atStart=>exact⟨(tJ),(0),u4_,H',⟨Nat.le_refl _⟩,⟨aR_ tx.out⟩,⟨bw_ HB⟩⟩
 case round=>
  clear H';obtain⟨tm,tl,rfl,HA,HK1,Z3,HB⟩:=hrel;cases gk with
  | zero=>exact absurd HA.out (by simp[bm.l0])
  | succ k1=>
   have H:=HA.out;clear HA;simp only[bm.l0] at H;by_cases c4:tl<(a0.size:Int)
   ·rw[if_pos c4] at H;have tI:=decide_eq_true c4;clear c4;have H':=am_ H;clear H;go_wp2;go_loopg [5] k1 (fun kq v5 w'=>∃(tk:Int),v5 = .int .i64 tk∧aa (bm.l1 kq a0 tm tl tk=some r)∧aa (kq≤k1)∧aa (Kd.R k90 90 w' w.heap.size (fun _=>True) u3 tm)∧aa (Below w.heap.size w w'))
    case atStart=>exact⟨(tl),u4_,H',⟨Nat.le_refl _⟩,⟨aR_ Z3.out⟩,⟨bw_ HB⟩⟩
    case round=>
     clear H';try clear c4
     try clear tI
     obtain⟨tk,rfl,HA,HK2,Z3,HB⟩:=hrel;cases gk with
     | zero=>exact absurd HA.out (by simp[bm.l1])
     | succ k2=>
      have H:=HA.out;clear HA;simp only[bm.l1] at H;by_cases c5:tk<(a0.size:Int)
      ·rw[if_pos c5] at H;have tK:=decide_eq_true c5;clear c5;obtain⟨t6,H⟩:=gd_ H;obtain⟨tL,A8,H⟩:=bi_ H;have HC_:=am_ H;clear H;obtain⟨p7,q7⟩:=pq_ tk a0.size;have ub:=d8 a0 tk;obtain⟨p7,q7⟩:=tt_ p7 q7;have H:=HC_.out;clear HC_;cases tL
       ·replace H:=hf_ H;have HC_:=am_ H;clear H;have H:=HC_.out;clear HC_;by_cases c10:tk=tl
        ·rw[if_pos c10] at H;have tn:=cW c10;have tF:=cX c10;clear c10;have H':=am_ H;clear H;(first | rw[tn] | (simp only[aC,aG];rw[tn]) | skip)
         go_wp2_with (first | (go_at_call 181;(with_reducible refine(dQ.calls (bt a0 tk) false _ A8.out).mono ?_);rintro e w' ⟨rfl,⟨nd,rfl⟩⟩))
         go_roundg k2
         case measure=>have:=HK1.out;have:=HK2.out;omega
         case rel=>exact⟨(tm),(wrap64 (tl+1)),u4_,H',⟨l9⟩,⟨aR_ Z3.out⟩,⟨bw_ HB⟩⟩
        ·rw[if_neg c10] at H;have tn:=cO c10;have tF:=cQ c10;obtain⟨tO,tP,H⟩:=ge_ H;obtain⟨tQ,tR,H⟩:=ge_ H;obtain⟨tS,tT,H⟩:=ge_ H;obtain⟨tB,H⟩:=gl_ H;generalize tu:((tm ++ [(⟨a0.extract (tl:Int).toNat (tk:Int).toNat,tl,tk⟩:S90)]):List (S90))=tM at H;have tD:=am_ tu.symm;clear tu;have H':=am_ H;clear H;(first | rw[tn] | (simp only[aC,aG];rw[tn]) | skip)
         go_wp2_with (first | (go_at_call 181;(with_reducible refine(dQ.calls (bt a0 tk) false _ A8.out).mono ?_);rintro e w' ⟨rfl,⟨nd,rfl⟩⟩)|((with_reducible refine aY (b:=.append) (xs:=#[.tmp 29,.tmp 37]) rfl ?_);at_builtin;refine Kd.R_append k90 (w0:=w) w.heap.size rfl (.tmp 29) (.tmp 37) 87 90 (.agg #[(.string ⟨#[]⟩),(.int .i64 0),(.int .i64 0)]) 32 rfl Tryz.underlying87 oa rfl ap aw u3 tm (⟨a0.extract (tl:Int).toNat (tk:Int).toNat,tl,tk⟩:S90) [.string (a0.extract (tl:Int).toNat (tk:Int).toNat),.int .i64 tl,.int .i64 tk] (fun _=>True) (fun _=>False) rfl rfl ?aP (fun _ hk=>hk.elim) ?aF ?aO ?aB ?aS ?aL ?_;(case aP=>exact la _ _ _ (⟨a0.extract (tl:Int).toNat (tk:Int).toNat,tl,tk⟩:S90));(case aB=>exact fi);(case aF=>exact gU);(case aO=>exact kp);(case aS=>exact fh);(case aL=>have:=tB.out;omega);intro t8 uc ho hb hg hat;rw[← tD.out] at ho;replace HB:=am_ (hb);have tz:=am_ (ho);clear Z3 ho hb hg hat))
         go_roundg k2
         case measure=>have:=HK1.out;have:=HK2.out;omega
         case rel=>exact⟨(tM),(tk),u4_,H',⟨l9⟩,⟨aR_ tz.out⟩,⟨bw_ HB⟩⟩
       ·replace H:=ht_ H;have H':=am_ H;clear H;go_wp2_with (first | (go_at_call 181;(with_reducible refine(dQ.calls (bt a0 tk) true _ A8.out).mono ?_);rintro e w' ⟨rfl,⟨nd,rfl⟩⟩))
        go_roundg k2
        case measure=>have:=HK1.out;have:=HK2.out;omega
        case rel=>exact⟨(wrap64 (tk+1)),u4_,H',⟨l9⟩,⟨aR_ Z3.out⟩,⟨bw_ HB⟩⟩
      ·rw[if_neg c5] at H;have tK:=decide_eq_false c5;clear c5;by_cases tw:tk=tl
       ·rw[if_pos tw] at H;have tG:=cW tw;have tH:=cX tw;clear tw;have H':=am_ H;clear H;go_wp2;go_roundg k2
        case measure=>have:=HK1.out;have:=HK2.out;omega
        case rel=>exact⟨(tm),(wrap64 (tl+1)),u4_,H',⟨l9⟩,⟨aR_ Z3.out⟩,⟨bw_ HB⟩⟩
       ·rw[if_neg tw] at H;have tG:=cO tw;have tH:=cQ tw;obtain⟨tU,tV,H⟩:=ge_ H;obtain⟨tW,tX,H⟩:=ge_ H;obtain⟨tY,tZ,H⟩:=ge_ H;obtain⟨tC,H⟩:=gl_ H;generalize tv:((tm ++ [(⟨a0.extract (tl:Int).toNat (tk:Int).toNat,tl,tk⟩:S90)]):List (S90))=tN at H;have tE:=am_ tv.symm;clear tv;have H':=am_ H;clear H;go_wp2_with (first | ((with_reducible refine aY (b:=.append) (xs:=#[.tmp 29,.tmp 37]) rfl ?_);at_builtin;refine Kd.R_append k90 (w0:=w) w.heap.size rfl (.tmp 29) (.tmp 37) 87 90 (.agg #[(.string ⟨#[]⟩),(.int .i64 0),(.int .i64 0)]) 32 rfl Tryz.underlying87 oa rfl ap aw u3 tm (⟨a0.extract (tl:Int).toNat (tk:Int).toNat,tl,tk⟩:S90) [.string (a0.extract (tl:Int).toNat (tk:Int).toNat),.int .i64 tl,.int .i64 tk] (fun _=>True) (fun _=>False) rfl rfl ?aP (fun _ hk=>hk.elim) ?aF ?aO ?aB ?aS ?aL ?_;(case aP=>exact la _ _ _ (⟨a0.extract (tl:Int).toNat (tk:Int).toNat,tl,tk⟩:S90));(case aB=>exact fi);(case aF=>exact gU);(case aO=>exact kp);(case aS=>exact fh);(case aL=>have:=tC.out;omega);intro ua ud ho hb hg hat;rw[← tE.out] at ho;replace HB:=am_ (hb);have tA:=am_ (ho);clear Z3 ho hb hg hat))
        go_roundg k2
        case measure=>have:=HK1.out;have:=HK2.out;omega
        case rel=>exact⟨(tN),(tk),u4_,H',⟨l9⟩,⟨aR_ tA.out⟩,⟨bw_ HB⟩⟩
   ·rw[if_neg c4] at H;have tI:=decide_eq_false c4;clear c4;obtain rfl:=si_ H;go_wp2;go_ret
    exact⟨_,u1_,aR_ Z3.out,bw_ HB⟩
def cI.l0:Nat→List ByteArray→List (S90)→Int→Option (List ByteArray)
 | 0,_,_,_=>none
 | k+1,x3,x4,x5=>if x5<(x4.length:Int) then(if 0≤x5 then((bR.f k ((eR x4 x5).f0)).bind fun tk=>(if x3.length<8796093022208 then(cI.l0 k (x3 ++ [tk]) x4 (wrap64 (x5+1))) else(none))) else(none)) else(some x3)
def cI.f (k:Nat) (a0:ByteArray):Option (List ByteArray):=(bm.f k a0).bind fun tk=>(cI.l0 k (([] : List ByteArray)) tk 0)
theorem cI.calls (k:Nat) (a0:ByteArray) (r:List ByteArray) (w:World) (h:cI.f k a0=some r) :
  Calls Tryz.prog 141 #[.string a0] w fun e w'=>∃v0_:Value,e = .returned (v0_)∧Kd.R Kd.string 9 w' w.heap.size (fun _=>True) v0_ r∧Below w.heap.size w w':=by
 have HB:=am_ (Below.refl w.heap.size w);have H:=h;clear h;unfold cI.f at H
 obtain⟨tA,tk⟩:∃y_:List ByteArray,y_=(([] : List ByteArray)):=⟨_,rfl⟩;replace H:((bm.f k a0).bind fun tl=>(cI.l0 k tA tl 0))=some r:=by first | (rw[tk];with_reducible exact H)|(have H2_:=(Option.bind_some _ _).symm.trans H;rw[tk];with_reducible exact H2_)|(have H2_:=(Option.bind_some _ _).symm.trans H;with_reducible exact H2_) | with_reducible exact H | (rw[tk];exact H) | exact H
 have tu:=am_ tk;clear tk;obtain⟨tl,A2,H⟩:=bi_ H;have H':=am_ H;clear H;go_enter Tryz.func141,Tryz.ntmps141
 go_wp2_with (first | ((with_reducible refine aA (N:=6) rfl ?_);refine Kd.R_lit Kd.string _ 9 ?hg (N:=6) ?hd (xs:=([] : List ByteArray)) (inner:=[]) (ok:=fun _=>True) (okp:=fun _=>True) ?hr ?hp (fun _ hk=>hk) trivial (Below.refl _ _) (Nat.le_refl _) bb ?_;(case hd=>rfl);(case hg=>rfl);(case hr=>exact bL);(case hp=>exact fj);intro tR w3 ho4 hb hg_ hnew_;clear hg_ hnew_;(first | rw[← tu.out] at ho4 | (simp only[Int.reduceToNat] at ho4;rw[← tu.out] at ho4));have tn:=am_ (Kd.R_lower ho4 (ar (bw_ HB)));replace HB:=bs_ HB hb;clear hb ho4)|((with_reducible refine gt_ 8 ?_);refine gf_ 8 Tryz.func161 (bm.calls k a0 tl _ A2.out) ?_;rintro e w5 ⟨tJ,rfl,ho0,hb⟩;refine⟨_,rfl,?_⟩;replace tn:=am_ (Kd.R_below (aR_ tn.out) hb);have tw:=am_ (Kd.R_lower ho0 (ar (bw_ HB)));replace HB:=bs_ HB hb;(try clear hb);(try clear ho0)))
 go_loopg [3,5] k (fun kq v3 v5 w'=>∃(tq:List ByteArray) (tm:Int),v5 = .int .i64 tm∧aa (cI.l0 kq tq tl tm=some r)∧aa (kq≤k)∧aa (Kd.R Kd.string 9 w' w.heap.size (fun _=>True) v3 tq)∧aa (Kd.R k90 90 w' w.heap.size (fun _=>True) tJ tl)∧aa (Below w.heap.size w w'))
 case atStart=>exact⟨(tA),(0),u4_,H',⟨Nat.le_refl _⟩,⟨aR_ tn.out⟩,⟨aR_ tw.out⟩,⟨bw_ HB⟩⟩
 case round=>
  clear H';obtain⟨tq,tm,rfl,HA,HK1,Z3,ZY,HB⟩:=hrel;cases gk with
  | zero=>exact absurd HA.out (by simp[cI.l0])
  | succ k1=>
   have H:=HA.out;clear HA;simp only[cI.l0] at H;by_cases c6:tm<(tl.length:Int)
   ·rw[if_pos c6] at H;have tF:=decide_eq_true c6;clear c6;obtain⟨tN,H⟩:=gd_ H;obtain⟨tr,A8,H⟩:=bi_ H;obtain⟨tE,H⟩:=gl_ H;generalize tv:((tq ++ [tr]):List ByteArray)=tK at H;have tz:=am_ tv.symm;clear tv;have H':=am_ H;clear H;obtain⟨tM,tO,tH⟩:=Kd.R_slice ZY.out;subst tH;obtain⟨tL,tG,tB,tC,tD⟩:=sS (Kd.R_reads' ZY.out).2.2 tm od_ od_;cases tG;obtain⟨tP,tQ⟩:=pt_ tm tl.length;go_wp2_with (first | ((with_reducible refine gt_ 21 ?_);refine gB_ 21 Tryz.func47 (bR.calls k1 ((eR tl tm).f0) tr _ A8.out) ?_;intro tT hb;replace Z3:=am_ (Kd.R_below (aR_ Z3.out) hb);replace ZY:=am_ (Kd.R_below (aR_ ZY.out) hb);replace HB:=bs_ HB hb;(try clear hb))|((with_reducible refine aY (b:=.append) (xs:=#[.tmp 15,.tmp 22]) rfl ?_);at_builtin;refine Kd.R_append Kd.string (w0:=w) w.heap.size rfl (.tmp 15) (.tmp 22) 30 9 (.string ⟨#[]⟩) 16 rfl Tryz.underlying30 eE rfl ap aw u3 tq tr [.string tr] (fun _=>True) (fun _=>False) rfl rfl ?aP (fun _ hk=>hk.elim) ?aF ?aO ?aB ?aS ?aL ?_;(case aP=>exact rfl);(case aB=>exact fi);(case aF=>exact gU);(case aO=>exact kp);(case aS=>exact fh);(case aL=>have:=tE.out;omega);intro tS tU ho hb hg hat;rw[← tz.out] at ho;replace ZY:=am_ (Kd.R_over' (aR_ ZY.out) (Kd.R_typed (aR_ Z3.out)) ap hg);replace HB:=am_ (hb);have tx:=am_ (ho);clear Z3 ho hb hg hat))
    go_roundg k1
    case measure=>have:=HK1.out;omega
    case rel=>exact⟨(tK),(wrap64 (tm+1)),u4_,H',⟨dH⟩,⟨aR_ tx.out⟩,⟨aR_ ZY.out⟩,⟨bw_ HB⟩⟩
   ·rw[if_neg c6] at H;have tF:=decide_eq_false c6;clear c6;obtain rfl:=si_ H;obtain⟨ZB,ZC,tI⟩:=Kd.R_slice ZY.out;subst tI;go_wp2;go_ret
    exact⟨_,u1_,aR_ Z3.out,bw_ HB⟩
end Go.Proofs.YtnjjdojonflckaaGreatDoor.PFnIndexTerms
