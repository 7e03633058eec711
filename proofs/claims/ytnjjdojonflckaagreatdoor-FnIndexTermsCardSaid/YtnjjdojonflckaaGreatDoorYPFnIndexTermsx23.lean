/- Contracts of Go functions, each told as a plain Lean function. -/
import Derived.Test.YtnjjdojonflckaaGreatDoorYPFnIndexTermsx15
namespace Go.Proofs.YtnjjdojonflckaaGreatDoor.PFnIndexTerms
open Go.RowKit Go.Proofs.YtnjjdojonflckaaGreatDoorW.PrintWords Go.Proofs.YtnjjdojonflckaaGreatDoorW.PrintLast Go.Proofs.YtnjjdojonflckaaGreatDoorW.PrintMore
attribute [local go_sem] bg bh bV bU cy cx bJ bI bX bW
set_option linter.unusedVariables false
set_option linter.unusedSimpArgs false
set_option maxHeartbeats 8000000
set_option maxRecDepth 100000
mutual
def bp.l0:Nat→ByteArray→List (S90)→Int→Option ((List (S90)))
 | 0,_,_,_=>none
 | k+1,x0,x3,x4=>if x4<(x0.size:Int) then(bp.l1 k x0 x3 x4 x4) else(some x3)
def bp.l1:Nat→ByteArray→List (S90)→Int→Int→Option ((List (S90)))
 | 0,_,_,_,_=>none
 | k+1,x0,x3,x4,x5=>if x4<(x0.size:Int) then(if 0≤x4 then((cM.f (bt x0 x4)).bind fun tk=>(if tk=true then(bp.l1 k x0 x3 (wrap64 (x4+1)) x5) else(if x4>x5 then(if 0≤x5 then(if x5≤x4 then(if x4≤(x0.size:Int) then(if x3.length<4398046511104 then(bp.l0 k x0 (x3 ++ [(⟨x0.extract (x5:Int).toNat (x4:Int).toNat,x5,x4⟩:S90)]) (wrap64 (x4+1))) else(none)) else(none)) else(none)) else(none)) else(bp.l0 k x0 x3 (wrap64 (x4+1)))))) else(none)) else(if x4>x5 then(if 0≤x5 then(if x5≤x4 then(if x4≤(x0.size:Int) then(if x3.length<4398046511104 then(bp.l0 k x0 (x3 ++ [(⟨x0.extract (x5:Int).toNat (x4:Int).toNat,x5,x4⟩:S90)]) (wrap64 (x4+1))) else(none)) else(none)) else(none)) else(none)) else(bp.l0 k x0 x3 (wrap64 (x4+1))))
end
def bp.f (k:Nat) (a0:ByteArray):Option ((List (S90))):=bp.l0 k a0 (([] : List (S90))) 0
theorem bp.calls (k:Nat) (a0:ByteArray) (r:List (S90)) (w:World) (h:bp.f k a0=some r) :
  Calls Tryz.prog 56 #[.string a0] w fun e w'=>∃v0_:Value,e = .returned (v0_)∧Kd.R k90 90 w' w.heap.size (fun _=>True) v0_ r∧Below w.heap.size w w':=by
 have hu90:=Tryz.underlying90;have HB:=am_ (Below.refl w.heap.size w);have H:=h;clear h;unfold bp.f at H
 obtain⟨tH,tq⟩:∃y_:List (S90),y_=(([] : List (S90))):=⟨_,rfl⟩;replace H:(bp.l0 k a0 tH 0)=some r:=by first | (rw[tq];with_reducible exact H)|(have H2_:=(Option.bind_some _ _).symm.trans H;rw[tq];with_reducible exact H2_)|(have H2_:=(Option.bind_some _ _).symm.trans H;with_reducible exact H2_) | with_reducible exact H | (rw[tq];exact H) | exact H
 have tr:=am_ tq;clear tq;have H':=am_ H;clear H;go_enter Tryz.func56,Tryz.ntmps56
 go_wp2_with (first | ((with_reducible refine aA (N:=6) rfl ?_);refine Kd.R_lit k90 _ 90 ?hg (N:=6) ?hd (xs:=([] : List (S90))) (inner:=[]) (ok:=fun _=>True) (okp:=fun _=>True) ?hr ?hp (fun _ hk=>hk) trivial (Below.refl _ _) (Nat.le_refl _) bb ?_;(case hd=>rfl);(case hg=>rfl);(case hr=>exact bL);(case hp=>exact fj);intro tZ w2 ho3 hb hg_ hnew_;clear hg_ hnew_;(first | rw[← tr.out] at ho3 | (simp only[Int.reduceToNat] at ho3;rw[← tr.out] at ho3));have tx:=am_ (Kd.R_lower ho3 (ar (bw_ HB)));replace HB:=bs_ HB hb;clear hb ho3))
 go_loopg [3,4] k (fun kq v3 v4 w'=>∃(tm:List (S90)) (tl:Int),v4 = .int .i64 tl∧aa (bp.l0 kq a0 tm tl=some r)∧aa (kq≤k)∧aa (Kd.R k90 90 w' w.heap.size (fun _=>True) v3 tm)∧aa (Below w.heap.size w w'))
 case atStart=>exact⟨(tH),(0),u4_,H',⟨Nat.le_refl _⟩,⟨aR_ tx.out⟩,⟨bw_ HB⟩⟩
 case round=>
  clear H';obtain⟨tm,tl,rfl,HA,HK1,Z3,HB⟩:=hrel;cases gk with
  | zero=>exact absurd HA.out (by simp[bp.l0])
  | succ k1=>
   have H:=HA.out;clear HA;simp only[bp.l0] at H;by_cases c4:tl<(a0.size:Int)
   ·rw[if_pos c4] at H;have tG:=decide_eq_true c4;clear c4;have H':=am_ H;clear H;go_wp2;go_loopg [4] k1 (fun kq v4 w'=>∃(tk:Int),v4 = .int .i64 tk∧aa (bp.l1 kq a0 tm tk tl=some r)∧aa (kq≤k1)∧aa (Kd.R k90 90 w' w.heap.size (fun _=>True) u3 tm)∧aa (Below w.heap.size w w'))
    case atStart=>exact⟨(tl),u4_,H',⟨Nat.le_refl _⟩,⟨aR_ Z3.out⟩,⟨bw_ HB⟩⟩
    case round=>
     clear H';try clear c4
     try clear tG
     obtain⟨tk,rfl,HA,HK2,Z3,HB⟩:=hrel;cases gk with
     | zero=>exact absurd HA.out (by simp[bp.l1])
     | succ k2=>
      have H:=HA.out;clear HA;simp only[bp.l1] at H;by_cases c5:tk<(a0.size:Int)
      ·rw[if_pos c5] at H;have tI:=decide_eq_true c5;clear c5;obtain⟨tY,H⟩:=gd_ H;obtain⟨tJ,A8,H⟩:=bi_ H;have HC_:=am_ H;clear H;obtain⟨p7,q7⟩:=pq_ tk a0.size;have t8:=d8 a0 tk;obtain⟨p7,q7⟩:=tt_ p7 q7;have H:=HC_.out;clear HC_;cases tJ
       ·replace H:=hf_ H;have HC_:=am_ H;clear H;have H:=HC_.out;clear HC_;by_cases c10:tk>tl
        ·rw[if_pos c10] at H;have tn:decide (tl<tk)=true:=decide_eq_true c10;clear c10;obtain⟨tM,tN,H⟩:=ge_ H;obtain⟨tO,tP,H⟩:=ge_ H;obtain⟨tQ,tR,H⟩:=ge_ H;obtain⟨tB,H⟩:=gl_ H;generalize tu:((tm ++ [(⟨a0.extract (tl:Int).toNat (tk:Int).toNat,tl,tk⟩:S90)]):List (S90))=tK at H;have tD:=am_ tu.symm;clear tu;have H':=am_ H;clear H;(first | rw[tn] | (simp only[aC,aG];rw[tn]) | skip)
         go_wp2_with (first | (go_at_call 90;(with_reducible refine(cM.calls (bt a0 tk) false _ A8.out).mono ?_);rintro e w' ⟨rfl,⟨nd,rfl⟩⟩)|((with_reducible refine aY (b:=.append) (xs:=#[.tmp 29,.tmp 37]) rfl ?_);at_builtin;refine Kd.R_append k90 (w0:=w) w.heap.size rfl (.tmp 29) (.tmp 37) 87 90 (.agg #[(.string ⟨#[]⟩),(.int .i64 0),(.int .i64 0)]) 32 rfl Tryz.underlying87 oa rfl ap aw u3 tm (⟨a0.extract (tl:Int).toNat (tk:Int).toNat,tl,tk⟩:S90) [.string (a0.extract (tl:Int).toNat (tk:Int).toNat),.int .i64 tl,.int .i64 tk] (fun _=>True) (fun _=>False) rfl rfl ?aP (fun _ hk=>hk.elim) ?aF ?aO ?aB ?aS ?aL ?_;(case aP=>exact la _ _ _ (⟨a0.extract (tl:Int).toNat (tk:Int).toNat,tl,tk⟩:S90));(case aB=>exact fi);(case aF=>exact gU);(case aO=>exact kp);(case aS=>exact fh);(case aL=>have:=tB.out;omega);intro t6 ua ho hb hg hat;rw[← tD.out] at ho;replace HB:=am_ (hb);have tz:=am_ (ho);clear Z3 ho hb hg hat))
         go_roundg k2
         case measure=>have:=HK1.out;have:=HK2.out;omega
         case rel=>exact⟨(tK),(wrap64 (tk+1)),u4_,H',⟨l9⟩,⟨aR_ tz.out⟩,⟨bw_ HB⟩⟩
        ·rw[if_neg c10] at H;have tn:decide (tl<tk)=false:=decide_eq_false c10;clear c10;have H':=am_ H;clear H;(first | rw[tn] | (simp only[aC,aG];rw[tn]) | skip)
         go_wp2_with (first | (go_at_call 90;(with_reducible refine(cM.calls (bt a0 tk) false _ A8.out).mono ?_);rintro e w' ⟨rfl,⟨nd,rfl⟩⟩))
         go_roundg k2
         case measure=>have:=HK1.out;have:=HK2.out;omega
         case rel=>exact⟨(tm),(wrap64 (tk+1)),u4_,H',⟨l9⟩,⟨aR_ Z3.out⟩,⟨bw_ HB⟩⟩
       ·replace H:=ht_ H;have H':=am_ H;clear H;go_wp2_with (first | (go_at_call 90;(with_reducible refine(cM.calls (bt a0 tk) true _ A8.out).mono ?_);rintro e w' ⟨rfl,⟨nd,rfl⟩⟩))
        go_roundg k2
        case measure=>have:=HK1.out;have:=HK2.out;omega
        case rel=>exact⟨(wrap64 (tk+1)),u4_,H',⟨l9⟩,⟨aR_ Z3.out⟩,⟨bw_ HB⟩⟩
      ·rw[if_neg c5] at H;have tI:=decide_eq_false c5;clear c5;by_cases tw:tk>tl
       ·rw[if_pos tw] at H;have tF:decide (tl<tk)=true:=decide_eq_true tw;clear tw;obtain⟨tS,tT,H⟩:=ge_ H;obtain⟨tU,tV,H⟩:=ge_ H;obtain⟨tW,tX,H⟩:=ge_ H;obtain⟨tC,H⟩:=gl_ H;generalize tv:((tm ++ [(⟨a0.extract (tl:Int).toNat (tk:Int).toNat,tl,tk⟩:S90)]):List (S90))=tL at H;have tE:=am_ tv.symm;clear tv;have H':=am_ H;clear H;go_wp2_with (first | ((with_reducible refine aY (b:=.append) (xs:=#[.tmp 29,.tmp 37]) rfl ?_);at_builtin;refine Kd.R_append k90 (w0:=w) w.heap.size rfl (.tmp 29) (.tmp 37) 87 90 (.agg #[(.string ⟨#[]⟩),(.int .i64 0),(.int .i64 0)]) 32 rfl Tryz.underlying87 oa rfl ap aw u3 tm (⟨a0.extract (tl:Int).toNat (tk:Int).toNat,tl,tk⟩:S90) [.string (a0.extract (tl:Int).toNat (tk:Int).toNat),.int .i64 tl,.int .i64 tk] (fun _=>True) (fun _=>False) rfl rfl ?aP (fun _ hk=>hk.elim) ?aF ?aO ?aB ?aS ?aL ?_;(case aP=>exact la _ _ _ (⟨a0.extract (tl:Int).toNat (tk:Int).toNat,tl,tk⟩:S90));(case aB=>exact fi);(case aF=>exact gU);(case aO=>exact kp);(case aS=>exact fh);(case aL=>have:=tC.out;omega);intro t7 ub ho hb hg hat;rw[← tE.out] at ho;replace HB:=am_ (hb);have tA:=am_ (ho);clear Z3 ho hb hg hat))
        go_roundg k2
        case measure=>have:=HK1.out;have:=HK2.out;omega
        case rel=>exact⟨(tL),(wrap64 (tk+1)),u4_,H',⟨l9⟩,⟨aR_ tA.out⟩,⟨bw_ HB⟩⟩
       ·rw[if_neg tw] at H;have tF:decide (tl<tk)=false:=decide_eq_false tw;clear tw;have H':=am_ H;clear H;go_wp2;go_roundg k2
        case measure=>have:=HK1.out;have:=HK2.out;omega
        case rel=>exact⟨(tm),(wrap64 (tk+1)),u4_,H',⟨l9⟩,⟨aR_ Z3.out⟩,⟨bw_ HB⟩⟩
   ·rw[if_neg c4] at H;have tG:=decide_eq_false c4;clear c4;obtain rfl:=si_ H;go_wp2;go_ret
    exact⟨_,u1_,aR_ Z3.out,bw_ HB⟩
def cJ.l0:Nat→List ByteArray→List (S90)→Int→Int→Option (List ByteArray)
 | 0,_,_,_,_=>none
 | k+1,x3,x8,x9,tk=>if tk<x9 then(if 0≤tk then(if tk<(x8.length:Int) then((b7.f k ((eR x8 tk).f0)).bind fun tl=>(if x3.length<8796093022208 then(cJ.l0 k (x3 ++ [tl]) x8 x9 (wrap64 (tk+1))) else(none))) else(none)) else(none)) else(some x3)
def cJ.f (k:Nat) (a0:ByteArray):Option (List ByteArray):=(bp.f k a0).bind fun tk=>(cJ.l0 k (([] : List ByteArray)) tk (tk.length:Int) 0)
theorem cJ.calls (k:Nat) (a0:ByteArray) (r:List ByteArray) (w:World) (hG:StopsIn w) (h:cJ.f k a0=some r) :
  Calls Tryz.prog 20 #[.string a0] w fun e w'=>∃v0_:Value,e = .returned (v0_)∧Kd.R Kd.string 9 w' w.heap.size (fun _=>True) v0_ r∧Below w.heap.size w w':=by
 have hu90:=Tryz.underlying90;have HG_:=am_ hG;clear hG;have HB:=am_ (Below.refl w.heap.size w);have H:=h;clear h;unfold cJ.f at H
 obtain⟨tD,tn⟩:∃y_:List ByteArray,y_=(([] : List ByteArray)):=⟨_,rfl⟩;replace H:((bp.f k a0).bind fun tk=>(cJ.l0 k tD tk (tk.length:Int) 0))=some r:=by first | (rw[tn];with_reducible exact H)|(have H2_:=(Option.bind_some _ _).symm.trans H;rw[tn];with_reducible exact H2_)|(have H2_:=(Option.bind_some _ _).symm.trans H;with_reducible exact H2_) | with_reducible exact H | (rw[tn];exact H) | exact H
 have tx:=am_ tn;clear tn;obtain⟨tk,A2,H⟩:=bi_ H;have H':=am_ H;clear H;go_enter Tryz.func20,Tryz.ntmps20
 go_wp2_with (first | ((with_reducible refine aA (N:=6) rfl ?_);refine Kd.R_lit Kd.string _ 9 ?hg (N:=6) ?hd (xs:=([] : List ByteArray)) (inner:=[]) (ok:=fun _=>True) (okp:=fun _=>True) ?hr ?hp (fun _ hk=>hk) trivial (Below.refl _ _) (Nat.le_refl _) bb ?_;(case hd=>rfl);(case hg=>rfl);(case hr=>exact bL);(case hp=>exact fj);intro t7 w3 ho4 hb hg_ hnew_;clear hg_ hnew_;(first | rw[← tx.out] at ho4 | (simp only[Int.reduceToNat] at ho4;rw[← tx.out] at ho4));have tq:=am_ (Kd.R_lower ho4 (ar (bw_ HB)));replace HB:=bs_ HB hb;clear hb ho4)|((with_reducible refine gt_ 8 ?_);refine gf_ 8 Tryz.func56 (bp.calls k a0 tk _ A2.out) ?_;rintro e w5 ⟨t8,rfl,ho0,hb⟩;refine⟨_,rfl,?_⟩;replace tq:=am_ (Kd.R_below (aR_ tq.out) hb);have tw:=am_ (Kd.R_lower ho0 (ar (bw_ HB)));replace HB:=bs_ HB hb;(try clear hb);(try clear ho0);obtain⟨tT,tW,tX⟩:=Kd.R_slice tw.out;subst tX))
 go_loopg [3,10] k (fun kq v3 t6 w'=>∃(tr:List ByteArray) (Z2:Int),t6 = .int .i64 Z2∧aa (cJ.l0 kq tr tk (tk.length:Int) Z2=some r)∧aa (kq≤k)∧aa (Kd.R Kd.string 9 w' w.heap.size (fun _=>True) v3 tr)∧aa (Kd.R k90 90 w' w.heap.size (fun _=>True) (.slice tT tk.length tW) tk)∧aa (Below w.heap.size w w'))
 case atStart=>exact⟨(tD),(0),u4_,H',⟨Nat.le_refl _⟩,⟨aR_ tq.out⟩,⟨aR_ tw.out⟩,⟨bw_ HB⟩⟩
 case round=>
  clear H';obtain⟨tr,Z2,rfl,HA,HK1,Z3,tm,HB⟩:=hrel;cases gk with
  | zero=>exact absurd HA.out (by simp[cJ.l0])
  | succ k1=>
   have H:=HA.out;clear HA;simp only[cJ.l0] at H;by_cases c7:Z2<(tk.length:Int)
   ·rw[if_pos c7] at H;have tN:=decide_eq_true c7;clear c7;obtain⟨tU,H⟩:=gd_ H;obtain⟨tV,H⟩:=gd_ H;obtain⟨tu,tS,H⟩:=bi_ H;obtain⟨tB,H⟩:=gl_ H;generalize tz:((tr ++ [tu]):List ByteArray)=tP at H;have tC:=am_ tz.symm;clear tz;have H':=am_ H;clear H;obtain⟨tR,tO,tK,tL,tM⟩:=sS (Kd.R_reads' tm.out).2.2 Z2 od_ od_;cases tO;obtain⟨tY,tZ⟩:=pt_ Z2 tk.length;go_wp2_with (first | ((with_reducible refine gt_ 5 ?_);refine bx_ 5 #[.string (⟨#[]⟩:ByteArray),.int .i64 0,.int .i64 0] 90 ?_;intro tl hg ub hbox hb;replace Z3:=am_ (Kd.R_below (aR_ Z3.out) hb);replace tm:=am_ (Kd.R_below (Kd.R_elderB (aR_ tm.out) tl (Nat.le_of_eq hg.symm)) hb);have tv:=am_ (hbox);have tQ:=gw_ HB hg;replace HB:=bs_ HB hb;clear hb hbox hg;obtain⟨tE,tF,tG,tH,tI,tJ⟩:=dm tv.out)|((with_reducible refine gt_ 17 ?_);refine gB_ 17 Tryz.func46 (b7.calls k1 ((eR tk Z2).f0) tu _ ?side1 tS.out) ?_;(case side1=>exact fQ);intro uc hb;replace Z3:=am_ (Kd.R_below (aR_ (Kd.R_mono (Kd.R_far (p:=⟨tl,2,none⟩) (Kd.R_far (p:=⟨tl,1,none⟩) (Kd.R_far (p:=⟨tl,0,none⟩) (Kd.R_types Z3.out tv.out ap) (fun _ hk=>hk.2) (.string ((eR tk Z2).f0))) (fun _ hk=>hk.2) (.int .i64 ((eR tk Z2).f1))) (fun _ hk=>hk.2) (.int .i64 ((eR tk Z2).f2))) (fun _ h_=>h_.1))) hb);replace tm:=am_ (Kd.R_below (aR_ (Kd.R_mono (Kd.R_far (p:=⟨tl,2,none⟩) (Kd.R_far (p:=⟨tl,1,none⟩) (Kd.R_far (p:=⟨tl,0,none⟩) (Kd.R_mono tm.out (fun k_ hk=>(⟨hk,hk.2⟩:_∧k_≠tl))) (fun _ hk=>hk.2) (.string ((eR tk Z2).f0))) (fun _ hk=>hk.2) (.int .i64 ((eR tk Z2).f1))) (fun _ hk=>hk.2) (.int .i64 ((eR tk Z2).f2))) (fun _ h_=>h_.1))) hb);replace HB:=bs_ HB hb;(try clear hb))|((with_reducible refine aY (b:=.append) (xs:=#[.tmp 14,.tmp 18]) rfl ?_);at_builtin;refine Kd.R_append Kd.string (w0:=w) w.heap.size rfl (.tmp 14) (.tmp 18) 30 9 (.string ⟨#[]⟩) 16 rfl Tryz.underlying30 eE rfl ap aw u3 tr tu [.string tu] (fun _=>True) (fun _=>False) rfl rfl ?aP (fun _ hk=>hk.elim) ?aF ?aO ?aB ?aS ?aL ?_;(case aP=>exact rfl);(case aB=>exact fi);(case aF=>exact gU);(case aO=>exact kp);(case aS=>exact fh);(case aL=>have:=tB.out;omega);intro ua ud ho hb hg hat;rw[← tC.out] at ho;replace tm:=am_ (Kd.R_over' (aR_ tm.out) (Kd.R_typed (aR_ Z3.out)) ap hg);replace HB:=am_ (hb);have tA:=am_ (ho);clear Z3 ho hb hg hat))
    go_roundg k1
    case measure=>have:=HK1.out;omega
    case rel=>exact⟨(tP),(wrap64 (Z2+1)),u4_,H',⟨dH⟩,⟨aR_ tA.out⟩,⟨by(with_reducible repeat (first | apply Kd.R_alloc | apply Kd.R_drewN | apply Kd.R_drew));exact Kd.R_mono tm.out (fun _ hk=>trivial)⟩,⟨bw_ HB⟩⟩
   ·rw[if_neg c7] at H;have tN:=decide_eq_false c7;clear c7;obtain rfl:=si_ H;go_wp2;go_ret
    exact⟨_,u1_,aR_ Z3.out,bw_ HB⟩
section
open Go Go.RowKit Go.Proofs.YtnjjdojonflckaaGreatDoor.Ent
section
open Go Go.RowKit Go.Sort Go.Proofs.YtnjjdojonflckaaGreatDoorW.PrintWords Go.Proofs.YtnjjdojonflckaaGreatDoorW.PrintLast Go.Proofs.YtnjjdojonflckaaGreatDoorW.PrintMore Go.Proofs.YtnjjdojonflckaaGreatDoor.Ent
abbrev Sl:=Option Addr × Nat × Nat
def eZ (x:S76 × Sl):List Value:=[.string x.1.f0,.string x.1.f1,.slice x.2.1 x.2.2.1 x.2.2.2]
def oN (x y:S76):Int:=ordS (x.f0,x.f1) (y.f0,y.f1)
instance:Inhabited (S76 × Sl):=⟨(z76,none,0,0)⟩
theorem eH (x y:List UInt8):Op.bytesLess x y=true↔x<y:=by rw[Go.Proofs.bytesLess_eq];simp
theorem pp (x y:ByteArray):iT x y<0↔x.toList<y.toList:=by
 unfold iT
 by_cases h:x.toList<y.toList
 ·rw[if_pos ((eH _ _).2 h)];simp[h]
 ·rw[if_neg (fun h2=>h ((eH _ _).1 h2))];simp only[h,iff_false];split <;> simp
theorem nB (x y:ByteArray):iT x y=0↔x.toList=y.toList:=by
 unfold iT
 by_cases h:x.toList<y.toList
 ·rw[if_pos ((eH _ _).2 h)];constructor
  ·intro h2;omega
  ·intro h2;rw[h2] at h;exact absurd h (List.lt_irrefl _)
 ·rw[if_neg (fun h2=>h ((eH _ _).1 h2))];have hb:Op.bytesLess x.toList y.toList=false:=by
   cases hc:Op.bytesLess x.toList y.toList
   ·rfl
   ·exact absurd ((eH _ _).1 hc) h
  rw[hb,Bool.false_or];by_cases h2:x.toList=y.toList
  ·simp[h2]
  ·simp[h2]
def ltP (p q:ByteArray × ByteArray):Prop:=p.1.toList<q.1.toList∨p.1.toList=q.1.toList∧p.2.toList<q.2.toList
theorem gn (p q:ByteArray × ByteArray):ordS p q<0↔ltP p q:=by
 unfold ordS ltP
 by_cases h:iT p.1 q.1=0
 ·rw[if_pos h,pp];have h2:=(nB _ _).1 h;rw[h2];constructor
  ·intro h3;exact .inr ⟨rfl,h3⟩
  ·rintro (h3 | ⟨_,h3⟩)
   ·exact absurd h3 (List.lt_irrefl _)
   ·exact h3
 ·rw[if_neg h,pp];constructor
  ·intro h3;exact .inl h3
  ·rintro (h3 | ⟨h3,_⟩)
   ·exact h3
   ·exact absurd ((nB _ _).2 h3) h
theorem eN (p:ByteArray × ByteArray):¬ltP p p:=by
 rintro (h | ⟨_,h⟩) <;> exact absurd h (List.lt_irrefl _)
theorem fF {p q r:ByteArray × ByteArray} (h:ltP p q) (k:ltP q r):ltP p r:=by
 rcases h with h | ⟨h,h2⟩ <;> rcases k with k | ⟨k,k2⟩
 ·exact .inl (List.lt_trans h k)
 ·exact .inl (k ▸ h)
 ·exact .inl (h ▸ k)
 ·exact .inr ⟨h.trans k,List.lt_trans h2 k2⟩
theorem gm (p q:ByteArray × ByteArray):ltP p q∨p=q∨ltP q p:=by
 have ext:∀ {a b:ByteArray},a.toList=b.toList→a=b:=fun {a b} h=>by
  rw[ByteArray.toList_eq,ByteArray.toList_eq] at h;cases a;cases b;simpa using h
 have tri:∀a b:List UInt8,a<b∨a=b∨b<a:=fun a b=>by
  by_cases h1:a<b
  ·exact .inl h1
  ·by_cases h2:b<a
   ·exact .inr (.inr h2)
   ·exact .inr (.inl (List.le_antisymm h2 h1))
 rcases tri p.1.toList q.1.toList with h | h | h
 ·exact .inl (.inl h)
 ·rcases tri p.2.toList q.2.toList with k | k | k
  ·exact .inl (.inr ⟨h,k⟩)
  ·exact .inr (.inl (Prod.ext (ext h) (ext k)))
  ·exact .inr (.inr (.inr ⟨h.symm,k⟩))
 ·exact .inr (.inr (.inl h))
theorem swoE:SWO (ltOf fun (x y:S76 × Sl)=>oN x.1 y.1) where
 irrefl x:=by
  unfold ltOf oN
  rw[decide_eq_false_iff_not,gn];exact eN _
 trans x y z h1 h2:=by
  unfold ltOf oN at *
  rw[decide_eq_true_eq,gn] at *;exact fF h1 h2
 ntrans x y z h1 h2:=by
  unfold ltOf oN at *
  rw[decide_eq_false_iff_not,gn] at *;intro h3;rcases gm (x.1.f0,x.1.f1) (y.1.f0,y.1.f1) with h | h | h
  ·exact h1 h
  ·rw[h] at h3;exact h2 h3
  ·exact h2 (fF h h3)
theorem ob (blk off size:Nat) (w:World):CmpLays Tryz.prog 116 #[] eZ 3 (fun (x y:S76 × Sl)=>oN x.1 y.1) blk off size w:=
 fun _ _ _ _ x y=>qH x.1.f0 x.1.f1 y.1.f0 y.1.f1 _ _ _ _ _ _ _
theorem pd {R:S76→List Value→Prop} (hR:∀x c,R x c→∃s:Sl,c=eZ (x,s)):∀(xs:List S76) (inner:List Value),Reps R 3 xs inner→∃ds:List (S76 × Sl),ds.map (·.1)=xs∧inner=ds.flatMap eZ∧∀p∈ds,R p.1 (eZ p)
 | [],inner,h=>⟨[],rfl,by have:=h.1;simpa using this,bb⟩
 | x :: xs,inner,h=>by
  have h0:=h.2 0 x rfl;rw[Nat.zero_mul,List.drop_zero] at h0;obtain⟨s,hs⟩:=hR x _ h0;have hl:=h.1;rw[List.length_cons] at hl;obtain⟨ds,h1,h2,h3⟩:=pd hR xs (inner.drop 3) ⟨by rw[List.length_drop];omega,fun j p hj=>by
   have:=h.2 (j+1) p (by simpa using hj);rw[List.drop_drop];have e:3+j*3=(j+1)*3:=by omega
   rw[e];exact this⟩
  refine⟨(x,s) :: ds,by rw[List.map_cons,h1],?_,fun p hp=>?_⟩
  ·rw[List.flatMap_cons,← h2,← hs,List.take_append_drop]
  ·rcases List.mem_cons.1 hp with hp | hp
   ·rw[hp,← hs];exact h0
   ·exact h3 p hp
theorem mt {R:S76→List Value→Prop} : ∀(ds:List (S76 × Sl)),(∀p∈ds,R p.1 (eZ p))→Reps R 3 (ds.map (·.1)) (ds.flatMap eZ)
 | [],_=>⟨rfl,bb⟩
 | p :: ds,h=>by
  have ih:=mt ds (fun q hq=>h q (List.mem_cons_of_mem _ hq));refine⟨by have:=ih.1;rw[List.flatMap_cons,List.length_append,this,List.map_cons,List.length_cons];show 3+_=_;omega,fun j q hj=>?_⟩;cases j with
  | zero=>
   obtain rfl:p.1=q:=by simpa using hj
   exact h p bb
  | succ j=>
   have:=ih.2 j q (by simpa using hj);rw[List.flatMap_cons];have e:(j+1)*3=(eZ p).length+j*3:=by show _=3+_;omega
   rw[e,← List.drop_drop,List.drop_left];exact this
theorem iV (d:Array (S76 × Sl)):(flatK eZ 3 d).toList=d.toList.flatMap eZ:=by
 have h:∀(l:List (S76 × Sl)) (t:Nat),t<l.length*3→(l.flatMap eZ)[t]? = some (eZ (l[t / 3]!))[t % 3]!:=by
  intro l;induction l with
  | nil=>intro t ht;simp at ht
  | cons p l ih=>
   intro t ht;rw[List.flatMap_cons];by_cases h3:t<3
   ·rw[List.getElem?_append_left (by exact h3)];have e0:t / 3=0:=by omega
    have e1:t % 3=t:=by omega
    rw[e0,e1];have hl:(eZ p).length=3:=rfl;rw[List.getElem?_eq_getElem aw];simp[hl,h3]
   ·rw[List.getElem?_append_right (by show 3≤t;omega)];have hl:(eZ p).length=3:=rfl;rw[hl];have:=ih (t - 3) (by rw[List.length_cons] at ht;omega);rw[this];have e0:t / 3=(t - 3) / 3+1:=by omega
    have e1:t % 3=(t - 3) % 3:=by omega
    rw[e0,e1];simp
 have hfl:∀l:List (S76 × Sl),(l.flatMap eZ).length=l.length*3:=by
  intro l;induction l with
  | nil=>rfl
  | cons p l ih=>rw[List.flatMap_cons,List.length_append,ih,List.length_cons];show 3+_=_;omega
 apply List.ext_getElem?
 intro t;rcases Nat.lt_or_ge t (d.size*3) with ht | ht
 ·have h2:=h d.toList t (by simpa using ht);rw[h2];have hs:t<(flatK eZ 3 d).size:=by simpa using ht
  rw[Array.getElem?_toList,Array.getElem?_eq_getElem hs];have h3:=get_flatK eZ 3 d t ht;rw[getElem!_pos (flatK eZ 3 d) t hs] at h3;rw[h3];have h4:d.toList[t / 3]! = d[t / 3]!:=by
   rw[getElem!_pos d (t / 3) aw,getElem!_pos d.toList (t / 3) (by rw[Array.length_toList];omega),Array.getElem_toList]
  rw[h4]
 ·rw[List.getElem?_eq_none (by simpa using ht),List.getElem?_eq_none (by rw[hfl];simpa using ht)]
def cE (x:S76):ByteArray × ByteArray:=(x.f0,x.f1)
set_option maxHeartbeats 1000000 in
theorem sw (v:Value) (xs:List S76) (B:Nat) (w0 w:World) (hB:Below B w0 w) (hR:Kd.R k76 76 w B (fun _=>True) v xs) (hv:∃g,v.ownBlock=some g) (hlen:xs.length<1000000000) :
  Calls Tryz.prog 115 #[v,.func (.func 116) #[] #[]] w fun e w'=>e = .returned (.tuple #[])∧∃ys:List S76,ys.Perm xs∧ys.Pairwise (fun a b=>¬ltP (cE b) (cE a))∧Kd.R k76 76 w' B (fun _=>True) v ys∧Below B w0 w':=by
 obtain⟨h0,inner,ho,hr⟩:=hR;obtain⟨g,hg⟩:=hv;rcases ho.2 with ⟨rfl,_⟩ | ⟨g',cap,cur,rfl,hb,hh,hle,hmax,hsz,htake⟩
 ·simp[Value.ownBlock] at hg
 have hgg:g'=g:=by simpa [Value.ownBlock] using hg
 subst hgg;have e3:k76.sz=3:=rfl;rw[e3] at hr htake hsz;obtain⟨ds,hds1,hds2,hds3⟩:=pd (fun x c hM=>by
  obtain⟨v2,rfl,hP⟩:=qW hM;obtain⟨A,n,rfl⟩:=Kd.R_slice hP;exact⟨(A,x.f2.length,n),rfl⟩) xs inner hr
 have hlt:g'<w.heap.size:=dE hh;have hdl:ds.length=xs.length:=by rw[← hds1,List.length_map]
 have hil:inner.length=xs.length*3:=hr.1;have hget:∀t,t<inner.length→cur[t]? = inner[t]?:=fun t ht=>by
  rw[← htake,List.getElem?_take,if_pos aw,Array.getElem?_toList]
 have hflat:(flatK eZ 3 ds.toArray).toList=inner:=by rw[iV,hds2]
 have hH:HoldsK eZ 3 w g' 0 ds.toArray:=by
  intro j hj;have hj':j<inner.length:=by rw[← hflat];simpa using hj
  constructor
  ·rw[Nat.zero_add,a7 hh,hget j hj',← hflat,Array.getElem?_toList,Array.getElem?_eq_getElem hj,getElem!_pos (flatK eZ 3 ds.toArray) j hj];rfl
  ·exact cu hh _
 have hsize:ds.toArray.size=xs.length:=by simpa using hdl
 have hcon:=Tryz.slices_SortFunc_Entry eZ (fun _=>rfl) (fun x u hu=>by
  simp only[eZ,List.mem_cons,List.not_mem_nil,or_false] at hu;rcases hu with rfl | rfl | rfl <;> rfl) (fun (x y:S76 × Sl)=>oN x.1 y.1) swoE 116 #[] g' 0 cap ds.toArray w (enters_of Tryz.func116 bT rfl) (ob g' 0 _ w) hH hlt aw
 rw[hsize] at hcon;refine hcon.mono ?_;rintro e w' ⟨rfl,d',n,os,hp,hs,rfl⟩;obtain⟨hp1,_,hp3⟩:=hp;have hd'l:d'.size=xs.length:=by rw[hp1,hsize]
 have hperm:d'.toList.Perm ds:=by
  have e1:d'.extract 0 xs.length=d':=by rw[← hd'l];simp
  have e2:ds.toArray.extract 0 xs.length=ds.toArray:=by rw[← hsize];simp
  rw[e1,e2] at hp3;simpa using hp3
 have hheap:=sn (enc:=id) (w:=w) hh n os 0 (flatK eZ 3 d');have hother:∀k,k<w.heap.size→k≠g'→(sortWorldK eZ 3 w g' 0 n d' os).heap[k]? = w.heap[k]?:=fun k hk hne=>mC hk (Ne.symm hne) n os 0 _
 have hsz':w.heap.size≤(sortWorldK eZ 3 w g' 0 n d' os).heap.size:=size_sortWorldK_c eZ 3 w g' 0 n d' os;have hxl:(d'.toList.map (·.1)).length=xs.length:=by rw[List.length_map,Array.length_toList,hd'l]
 have hfl':(d'.toList.flatMap eZ).length=xs.length*3:=by rw[← iV,Array.length_toList,size_flatK,hd'l]
 refine⟨rfl,d'.toList.map (·.1),?_,?_,⟨fun _ _=>trivial,d'.toList.flatMap eZ,?_,?_⟩,⟨hB.os,hB.tape,hB.output,Nat.le_trans hB.size hsz',fun k hk=>?_⟩⟩
 ·have:=hperm.map (·.1);rwa [hds1] at this
 ·rw[List.pairwise_map];rw[List.pairwise_iff_getElem];intro i j hi hj hij;have hi':i<d'.size:=by simpa using hi
  have hj':j<d'.size:=by simpa using hj
  have h1:=hs i j (Nat.zero_le _) hij aw;unfold ltOf oN at h1
  rw[decide_eq_false_iff_not,gn,getElem!_pos d' i hi',getElem!_pos d' j hj'] at h1;simpa [cE] using h1
 ·rw[hxl];refine⟨by rw[hfl',e3],.inr ⟨g',cap,_,rfl,hb,hheap,hle,hmax,by rw[m8,e3];exact hsz,?_⟩⟩;apply List.ext_getElem?
  intro t;rw[List.getElem?_take,e3];split
  ·rename_i ht
   have ht2:t<(flatK eZ 3 d').size:=by rw[size_flatK,hd'l];exact ht
   have ht3:t<cur.size:=by rw[hsz];exact Nat.lt_of_lt_of_le ht (Nat.mul_le_mul_right _ hle)
   rw[Array.getElem?_toList,nL _ _ ht2 ht3,← iV,Array.getElem?_toList,Array.getElem?_eq_getElem ht2];rfl
  ·rename_i ht
   rw[List.getElem?_eq_none (by rw[hfl'];omega)]
 ·rw[e3];refine mt d'.toList (fun p hp=>?_);have hM:=hds3 p (hperm.mem_iff.1 hp);refine k76.M_mono (fun k hk=>hk.1) (k76.M_move (w1:=sortWorldK eZ 3 w g' 0 n d' os) (fun k hk=>hother k hk.2.2.1 (fun he=>hk.1.2 (by rw[he];simp[Value.ownBlock]))) (k76.M_bound hM))
 ·rw[hother k (Nat.lt_of_lt_of_le hk (Nat.le_of_lt (Nat.lt_of_le_of_lt hb hlt))) aw];exact hB.block k hk
end
section
open Go Go.RowKit Go.MapKept Go.Proofs.YtnjjdojonflckaaGreatDoorW.PrintWords Go.Proofs.YtnjjdojonflckaaGreatDoorW.PrintLast Go.Proofs.YtnjjdojonflckaaGreatDoorW.PrintMore Go.Proofs.YtnjjdojonflckaaGreatDoor.Ent
open Go.ChangeMaps (setBlock heap_setBlock_same heap_setBlock_other)
theorem jR:mj Tryz.prog 145 147 34 where
 K:=Go.Maps.Keyed.of_law (deep_law_gate bT (of_decide_eq_true bT) (of_decide_eq_true bT) bT bT)
 ht:=Tryz.underlying145
 key:=fun p hp=>q8 Tryz.underlying147 Tryz.underlying9 Tryz.underlying9 rfl rfl bT bT bT bT bT bT ⟨_,rfl⟩ p hp
 zero:=fun w=>by kernel_rfl
section
variable {P:Program} {ops:Array Oper} {rest:List Oper} {o o2:Oper} {a:Act} {Q:Exit→Act→World→Prop}
theorem f7 {W:World} (hg1:o.guard=none) {N:Tmp} (hd:o.dst=some N) (hg2:o2.guard=none) (hd2:o2.dst=none) {zs cs:Array Value} {t:TypeId}
  (hrun1:(execOp a.eval o).run P W = .ok (.value (.pointer (some ⟨W.heap.size,0,none⟩))) (W.alloc (.cells zs t (0,0))))
  (hrun2:(execOp (a.put o.dst (.pointer (some ⟨W.heap.size,0,none⟩))).eval o2).run P (W.alloc (.cells zs t (0,0))) = .ok .skip (W.alloc (.cells cs t (0,0))))
  (h:∀g,g=W.heap.size→∀w1,w1.heap[g]? = some (.cells cs t (0,0))→Below W.heap.size W w1→wpList P ops Q rest (a.put o.dst (.pointer (some ⟨g,0,none⟩))) w1):wpList P ops Q (o :: o2 :: rest) a W:=by
 refine Kd.event_run hg1 hrun1 ?_;refine wpList_plain hg2 fun K hK=>?_
 unfold Oper.wp
 rw[hrun2];show K ((a.put o.dst _).put o2.dst undef) _
 rw[hd2];exact hK _ _ (h _ rfl _ (oL W _) (aE (Below.refl _ _) _))
theorem rb {W:World} (hg1:o.guard=none) {N:Tmp} (hd:o.dst=some N) (base:Nat)
  (hrun:(execOp a.eval o).run P W = .ok (.value (.map (some W.heap.size))) (W.alloc (.map #[] 0)))
  (h:∀m,m=W.heap.size→∀w1,MapIs k50 50 w1 base m [] → Below W.heap.size W w1→wpList P ops Q rest (a.put o.dst (.map (some m))) w1):wpList P ops Q (o :: rest) a W:=
 Kd.event_run hg1 hrun (h _ rfl _ (MapIs.made W base) (aE (Below.refl _ _) _))
end
theorem MapRest.sub {α : Type} {d:Kd α} {e:Nat} {w:World} {base m N j:Nat} {G:List (Pl × List α)} {okj ok1:Nat→Prop} (h:MapRest d e w base m G j okj N) (hs:∀k,ok1 k→okj k):MapRest d e w base m G j ok1 N:=by
 obtain⟨es,clock,f,hc,hm,hok,hS⟩:=h;exact⟨es,clock,f,hc,hm,fun k hk=>hok k (hs k hk),hS⟩
def Wr (w:World) (m k:Nat):Prop:=k=m∨∃q cells,(q=50∨q=3)∧w.heap[k]? = some (.cells cells q (0,0))
theorem Wr.not {w:World} {m k t:Nat} {cells:Array Value} {es:Array MapEntry} {clock:Nat} (hm:w.heap[m]? = some (.map es clock)) (hb:w.heap[k]? = some (.cells cells t (0,0))) (h1:t≠50) (h2:t≠3):¬Wr w m k:=by
 rintro (rfl | ⟨q,c,hq,hc⟩)
 ·rw[hm] at hb;cases hb
 ·rw[hb] at hc;injection hc with hc
  injection hc with _ hc
  rcases hq with rfl | rfl
  ·exact h1 hc
  ·exact h2 hc
theorem MapIs.block {α : Type} {d:Kd α} {e:Nat} {w:World} {base m:Nat} {G:List (Pl × List α)} (h:MapIs d e w base m G):∃es clock,w.heap[m]? = some (.map es clock):=by
 obtain⟨es,clock,_,hc,_⟩:=h;exact⟨es,clock,hc.heap⟩
theorem m3 {w:World} {m:Nat} {S:Nat→Prop} {o:Obj} {w0:World} (h:Kept w0 w S) (hm:S m∨w0.heap.size≤m) (hlt:m<w.heap.size):Kept w0 (setBlock w m o) S:=
 h.then_ (S2:=fun k=>k=m) ⟨by simp[setBlock],fun i hi hn=>lX w o hn⟩ (fun k hk=>by rw[hk];exact hm)
theorem lq {B:Nat} {w0 w:World} {m:Nat} {o:Obj} (h:Below B w0 w) (hm:B≤m):Below B w0 (setBlock w m o):=
 ⟨h.os,h.tape,h.output,by have:=h.size;simpa [setBlock] using this,fun k hk=>(lX w o aw).trans (h.block k hk)⟩
abbrev Gs:=List (Pl × List S50)
def entriesW.cs (k:Nat) (fs:List S92) (id:Int):List S86→Gs × Nat→Option (Gs × Nat)
 | [],s=>some s
 | c :: cs,s=>(bs.f k fs c.f0).bind fun fd=>if fd.2.1=1 then
   (cJ.f k c.f1).bind fun ts=>if s.2+ts.length≤1000000∧c.f0.size≤1000000∧(ts.all fun t=>decide (t.size≤1000000))=true then entriesW.cs k fs id cs (gf id c.f0 ts 0 s.1,s.2+ts.length) else none
  else entriesW.cs k fs id cs s
def entriesW.rs (k:Nat) (fs:List S92):List S46→Gs × Nat→Option (Gs × Nat)
 | [],s=>some s
 | r :: rs,s=>(entriesW.cs k fs r.f0 r.f1.f1 s).bind fun s'=>entriesW.rs k fs rs s'
def toE (g:Pl × List S50):S76:=⟨g.1.1,g.1.2,g.2⟩
theorem pI {b:Bool} (s:ByteArray) (h:s.toList.isEmpty=b):decide (s.size=0)=b:=by
 subst h;have e:s.toList.length=s.size:=by rw[ByteArray.toList_eq];exact Array.length_toList
 by_cases h:s.size=0
 ·have:s.toList = []:=List.eq_nil_of_length_eq_zero aw;simp[h,this]
 ·have:s.toList ≠ []:=fun h2=>h (by rw[← e,h2];rfl)
  simp[h,this]
def pF (e:S76):List S76→List S76
 | []=>[e]
 | x :: l=>if oN e x<0 then e :: x :: l else x :: pF e l
def dP (l:List S76):List S76:=l.foldr pF []
def entriesW.f (k:Nat) (fs:List S92) (rows:List S46):Option (List S76):=(entriesW.rs k fs rows ([],0)).bind fun s=>some (dP (s.1.map toE))
theorem fld92_1 (x0:ByteArray) (x1 x2:Int) (w:World):(Instr.field 92 (Value.agg #[.string x0,.int .i64 x1,.int .i64 x2]) 1).run Tryz.prog w = .ok (.int .i64 x1) w:=by kernel_rfl
attribute [local go_sem] fld92_1
theorem iY {w w1:World} {row:Option Nat} {g o t:Nat} {cells:Array Value} {v:Value} (hg:w.grownBy w1 row) (hty:∀k,row=some k→∃q cells,(q=50∨q=3)∧w.heap[k]? = some (.cells cells q (0,0))) (hb:w.heap[g]? = some (.cells cells t (0,0))) (hc:w.cell? ⟨g,o,none⟩=some v) (h1:t≠50:=by decide) (h2:t≠3:=by decide):w1.cell? ⟨g,o,none⟩=some v:=
 Go.Proofs.YtnjjdojonflckaaGreatDoorW.PrintWords.cell_grown hg hc (fun he=>by
  obtain⟨q,c,hq,hh⟩:=hty g he.symm;rw[hb] at hh;injection hh with hh
  injection hh with _ hh
  rcases hq with rfl | rfl
  ·exact h1 hh
  ·exact h2 hh)
theorem sC {ops:Array Oper} {rest:List Oper} {o:Oper} {a:Act} {Q:Exit→Act→World→Prop} {w0 W:World} {B:Nat} (hgd:o.guard=none) {N:Tmp} (hd:o.dst=some N)
  (hrun:(execOp a.eval o).run Tryz.prog W = .ok (.value (.slice (some ⟨W.heap.size,0,none⟩) 0 0)) (W.alloc (.cells #[] 76)))
  (HB:Below B w0 W) (hbase:B≤W.heap.size) (h:∀v1 w1,Kd.R k76 76 w1 B (fun _=>True) v1 [] → Below B w0 w1→Below W.heap.size W w1→(∃b,v1.ownBlock=some b)→wpList Tryz.prog ops Q rest (a.put o.dst v1) w1):wpList Tryz.prog ops Q (o :: rest) a W:=
 Kd.R_lit k76 (w0:=w0) B 76 hgd hd (xs:=[]) (inner:=[]) (ok:=fun _=>True) (okp:=fun _=>True) hrun (Reps.none _ _) (fun _ hk=>hk) trivial HB hbase bb (fun v1 w1 hs hb hg hv=>h v1 w1 hs hb ⟨hg.os,hg.tape,hg.output,hg.size,fun k hk=>hg.block k hk bb⟩ (by obtain⟨b,hb,_⟩:=hv;exact⟨b,hb⟩))
theorem R_iter {wr w4:World} {B m rr:Nat} {G:Gs} {is:List Nat} {v:Value} {xs:List S76} (h:Kd.R k76 76 wr B (fun _=>True) v xs) (hrg:Ranging k50 50 wr B m rr G is) (hg:wr.grownBy w4 (some rr)):Kd.R k76 76 w4 B (fun _=>True) v xs:=by
 obtain⟨es,clock,f,c0,seen,hc,hS,hr,_⟩:=hrg;refine Kd.R_mono (Kd.R_grown (Kd.R_bound h) hg (fun k hk he=>?_)) (fun _ _=>trivial);obtain⟨_,_,_,q,hq,cells,hcl⟩:=hk;injection he with he
 rw[he,hr] at hcl;cases hcl
theorem Ranging.nodup {wr:World} {B m rr:Nat} {G:Gs} {is:List Nat} (hrg:Ranging k50 50 wr B m rr G is):(G.map (·.1)).Nodup:=by
 obtain⟨es,clock,f,c0,seen,hc,_⟩:=hrg;exact hc.nodup
theorem py {w:World} {k:Nat} (h:∃q,q∈50 :: k50.E∧∃cells,w.heap[k]? = some (.cells cells q (0,0))) (h':∃cells,w.heap[k]? = some (.cells cells 76 (0,0))):False:=by
 obtain⟨q,hq,cells,hc⟩:=h;obtain⟨cells',hc'⟩:=h';rw[hc] at hc';injection hc' with hc'
 injection hc' with _ hc'
 rw[hc'] at hq;exact absurd hq ap
theorem jZ (e:S76):∀l,(pF e l).Perm (e :: l)
 | []=>List.Perm.refl _
 | x :: l=>by
  unfold pF
  split
  ·exact List.Perm.refl _
  ·exact((jZ e l).cons x).trans (List.Perm.swap e x l)
theorem fP:∀l,(dP l).Perm l
 | []=>List.Perm.refl _
 | x :: l=>(jZ x (dP l)).trans ((fP l).cons x)
theorem kD (e:S76):∀l:List S76,l.Pairwise (fun a b=>ltP (cE a) (cE b))→(∀x∈l,cE x≠cE e)→(pF e l).Pairwise (fun a b=>ltP (cE a) (cE b))
 | [],_,_=>by unfold pF;simp
 | x :: l,h,hne=>by
  rw[List.pairwise_cons] at h;unfold pF
  split
  ·rename_i hlt
   have hlt':ltP (cE e) (cE x):=(gn _ _).1 hlt;rw[List.pairwise_cons,List.pairwise_cons];exact⟨fun y hy=>(List.mem_cons.1 hy).elim (fun h2=>by rw[h2];exact hlt') (fun h2=>fF hlt' (h.1 y h2)),h⟩
  ·rename_i hlt
   have hge:ltP (cE x) (cE e):=by
    rcases gm (cE x) (cE e) with h2 | h2 | h2
    ·exact h2
    ·exact absurd h2 (hne x bb)
    ·exact absurd ((gn _ _).2 h2) hlt
   rw[List.pairwise_cons];refine⟨fun y hy=>?_,kD e l h.2 (fun y hy=>hne y (List.mem_cons_of_mem _ hy))⟩;rcases List.mem_cons.1 ((jZ e l).mem_iff.1 hy) with h2 | h2
   ·rw[h2];exact hge
   ·exact h.1 y h2
theorem fa:∀l:List S76,(l.map cE).Nodup→(dP l).Pairwise (fun a b=>ltP (cE a) (cE b))
 | [],_=>List.Pairwise.nil
 | x :: l,h=>by
  rw[List.map_cons,List.nodup_cons] at h;refine kD x (dP l) (fa l h.2) (fun y hy he=>h.1 ?_);exact List.mem_map.2 ⟨y,(fP l).mem_iff.1 hy,he⟩
theorem ke:∀ {l m:List S76},l.Perm m→l.Pairwise (fun a b=>ltP (cE a) (cE b))→m.Pairwise (fun a b=>ltP (cE a) (cE b))→l=m
 | [],m,h,_,_=>(List.nil_perm.1 h).symm
 | x :: l,[],h,_,_=>absurd h.symm bb
 | x :: l,y :: m,h,h1,h2=>by
  rw[List.pairwise_cons] at h1 h2;have hxy:x=y:=by
   rcases List.mem_cons.1 (h.mem_iff.1 (List.mem_cons_self ..)) with e | e
   ·exact e
   ·rcases List.mem_cons.1 (h.mem_iff.2 (List.mem_cons_self (a:=y) (l:=m))) with e2 | e2
    ·exact e2.symm
    ·exact absurd (fF (h1.1 y e2) (h2.1 x e)) (eN _)
  subst hxy;rw[ke (List.Perm.cons_inv h) h1.2 h2.2]
theorem rk {G:Gs} {ys:List S76} (h:ys.Perm (G.map toE)) (hs:ys.Pairwise (fun a b=>¬ltP (cE b) (cE a))) (hn:(G.map (·.1)).Nodup):ys=dP (G.map toE):=by
 have hk:((G.map toE).map cE).Nodup:=by
  have e:(G.map toE).map cE=G.map (·.1):=by rw[List.map_map];rfl
  rw[e];exact hn
 have hk2:(ys.map cE).Nodup:=(h.map cE).nodup_iff.2 hk;refine ke (h.trans (fP _).symm) ?_ (fa _ hk);have h3:ys.Pairwise (fun a b=>cE a≠cE b):=List.pairwise_map.1 hk2;exact(hs.and h3).imp (fun {a b} hab=>by
  rcases gm (cE a) (cE b) with h4 | h4 | h4
  ·exact h4
  ·exact absurd h4 hab.2
  ·exact absurd h4 hab.1)
theorem i1 {w0 wr w3:World} {B m jj:Nat} {G:Gs} {okj ok1:Nat→Prop} {xs xs':List S50} {v1:Value} {p:Pl} {id x:Int} (hmap:MapIs k50 50 wr B m G) (hrest:MapRest k50 50 wr B m G jj okj wr.heap.size) (hk:Kept wr w3 okj) (hS:Kd.S k50 50 w3 B ok1 v1 xs') (hok:∀k,ok1 k→okj k∨wr.heap.size≤k)
  (hty:∀k,okj k→∃q cells,(q=50∨q=3)∧wr.heap[k]? = some (.cells cells q (0,0))) (hp:lF p) (hj:(jj=G.length∧xs = [] ∧ ∀g∈G,g.1≠p)∨∃g,G[jj]? = some g∧g.1=p∧g.2=xs) (he:xs'=fw xs id x) (hB:Below B w0 w3) (hm:B≤m) :
  ∃es clock,(Instr.mapUpdate 145 (.map (some m)) (.agg #[.string p.1,.string p.2]) v1).run Tryz.prog w3 = .ok () (setBlock w3 m (.map es clock))∧MapIs k50 50 (setBlock w3 m (.map es clock)) B m (stepG G p id x)∧Kept wr (setBlock w3 m (.map es clock)) (Wr wr m)∧Below B w0 (setBlock w3 m (.map es clock)):=by
 have hrest3:=hrest.step (w1:=w3) (fun k hk1 hn=>hk.2 k hk1 hn);obtain⟨es,clock,hrun,hmap3⟩:=Go.Proofs.YtnjjdojonflckaaGreatDoor.Ent.put jR hrest3 hS hok hp (hj.imp (fun h=>⟨h.1,h.2.2⟩) (fun ⟨g,h1,h2,_⟩=>⟨g,h1,h2⟩));rw[he,qV G p id x jj xs hmap.keys_nodup hj] at hmap3;exact⟨es,clock,hrun,hmap3,m3 (hk.mono (fun k h=>.inr (hty k h))) (.inl (.inl rfl)) (Nat.lt_of_lt_of_le hmap.lt hk.1),lq hB hm⟩
theorem entriesW.calls (k:Nat) (A0:Option Addr) (c0:Nat) (l0:List (S92)) (A1:Option Addr) (c1:Nat) (l1:List (S46)) (r:List (S76)) (w:World) (hG:StopsIn w) (hr0:Kd.C k92 w A0 l0.length l0) (hc0:l0.length≤c0) (hr1:Kd.C k46 w A1 l1.length l1) (hc1:l1.length≤c1) (h:entriesW.f k l0 l1=some r) :
  Calls Tryz.prog 68 #[.slice A0 l0.length c0,.slice A1 l1.length c1] w fun e w'=>∃v0_:Value,e = .returned (v0_)∧Kd.R k76 76 w' w.heap.size (fun _=>True) v0_ r∧Below w.heap.size w w':=by
 obtain⟨⟨GG,nn⟩,hrs,hsort⟩:=Option.bind_eq_some_iff.1 h;have hsort:=Option.some.inj hsort;have hlen:=hr1.2.1;have HG:=am_ hG;have HF:=am_ hr0;have HF0:=am_ hc0;have HR:=am_ hr1;have H:=am_ hrs;have HSORT:=am_ hsort;have HB:=am_ (Below.refl w.heap.size w);have hu46_:=Tryz.underlying46;have hu86_:=Tryz.underlying86;clear hG hr0 hc0 hr1 h hrs hsort;go_enter Tryz.func68,Tryz.ntmps68
 go_wp2_with (first | ((with_reducible refine aA (N:=17) rfl ?_);refine rb ?hg (N:=17) ?hd w.heap.size ?hr ?_;(case hd=>rfl);(case hg=>rfl);(case hr=>exact bL);intro m hm w1 hmap hb;have HM:=am_ hmap;have HMW:=am_ (Nat.le_of_eq hm.symm);replace HB:=am_ (av HB.out hb);clear hm hmap hb))
 go_loopw [20] (fun tD wr=>∃(i:Nat) (s:Gs × Nat),tD = .int .i64 (i:Int)∧i≤l1.length∧aa (entriesW.rs k l0 (l1.drop i) s=some (GG,nn))∧aa (LenG s.2 s.1∧s.2≤1000000)∧aa (MapIs k50 50 wr w.heap.size m s.1)∧aa (Below w.heap.size w wr)) (fun v _=>match v with | .int _ i=>l1.length - i.toNat | _=>0)
 case atStart=>exact⟨0,([],0),rfl,Nat.zero_le _,H,⟨⟨Nat.zero_le _,bb⟩,Nat.zero_le _⟩,HM,HB⟩
 case round=>
  clear H HM HB;obtain⟨i,s,rfl,hi,H,HL,HM,HB⟩:=hrel;rcases Nat.lt_or_ge i l1.length with hlt | hge
  ·obtain⟨ad,A2,c2,e,tn,tq,tr,hcl,hcc⟩:=fB HR.out (i:Int) aw aw;subst e;simp only[Int.toNat_natCast] at tn tq tr;replace tn:=ai HB.out tn;replace tq:=ai HB.out tq;replace tr:=ai HB.out tr;have hrd:ah l1 (i:Int)=l1[i]:=by unfold ah;simp[List.getD_eq_getElem?_getD,List.getElem?_eq_getElem hlt]
   rw[hrd] at tn tq tr hcl hcc;have h:=H.out;rw[List.drop_eq_getElem_cons hlt,entriesW.rs] at h;generalize l1[i] = row at tn tq tr hcl hcc h;clear hrd;obtain⟨s2,hs2,h⟩:=Option.bind_eq_some_iff.1 h;have tk:=am_ hs2;have H2:=am_ h;have HCC:=am_ hcc;have hclen:=hcc.2.1;have p1:((i:Int)<(l1.length:Int))=True:=eq_true aw;have p0:(0≤(i:Int))=True:=eq_true aw;clear h H hs2 hcc hcl;go_wp2_with (first | ((with_reducible refine aA (N:=7) rfl ?_);refine f7 rfl (N:=7) rfl rfl rfl (zs:=#[.int .i64 0,.string (⟨#[]⟩:ByteArray),.slice none 0 0]) (cs:=#[.int .i64 row.f0,.string row.f1.f0,.slice A2 row.f1.f1.length c2]) (t:=46) ?hr ?hs ?_;(case hr=>exact bL);(case hs=>exact bL);intro gr hg w2 hbox hb;have BKr:=am_ hbox;replace HM:=am_ (HM.out.below hb);replace HB:=am_ (av HB.out hb);have hz2:w2.cell? ⟨gr,2,none⟩=some (.slice A2 row.f1.f1.length c2):=(a7 BKr.out 2).trans rfl;clear hg hbox hb tn tq tr))
   have hclen':row.f1.f1.length≤9223372036854775807:=hclen;go_loopw [28] (fun tE wr=>∃(j:Nat) (s3:Gs × Nat),tE = .int .i64 (j:Int)∧j≤row.f1.f1.length∧aa (entriesW.cs k l0 row.f0 (row.f1.f1.drop j) s3=some s2)∧aa (LenG s3.2 s3.1∧s3.2≤1000000)∧aa (MapIs k50 50 wr w.heap.size m s3.1)∧aa (wr.heap[gr]? = some (.cells #[.int .i64 row.f0,.string row.f1.f0,.slice A2 row.f1.f1.length c2] 46 (0,0)))∧aa (Below w.heap.size w wr)) (fun v _=>match v with | .int _ i=>row.f1.f1.length - i.toNat | _=>0)
   case atStart=>exact⟨0,s,rfl,Nat.zero_le _,tk,HL,HM,BKr,HB⟩
   case round=>
    clear tk HL HM BKr HB hz2;obtain⟨j,s3,rfl,hj,tk,HL,HM,BKr,HB⟩:=hrel;rcases Nat.lt_or_ge j row.f1.f1.length with hjlt | hjge
    ·obtain⟨adc,e,tl,tm⟩:=dK HCC.out (j:Int) aw aw;subst e;simp only[Int.toNat_natCast] at tl tm;replace tl:=ai HB.out tl;replace tm:=ai HB.out tm;have hrd:an row.f1.f1 (j:Int)=row.f1.f1[j]:=by unfold an;simp[List.getD_eq_getElem?_getD,List.getElem?_eq_getElem hjlt]
     rw[hrd] at tl tm;have h:=tk.out;rw[List.drop_eq_getElem_cons hjlt,entriesW.cs] at h;generalize row.f1.f1[j] = c at tl tm h;clear hrd;obtain⟨⟨d1,d2,d3⟩,hfd,h⟩:=Option.bind_eq_some_iff.1 h;have HFD:=am_ hfd;have q1:((j:Int)<(row.f1.f1.length:Int))=True:=eq_true aw;have q0:(0≤(j:Int))=True:=eq_true aw;simp only at h;by_cases hd2:d2=1
     ·rw[if_pos hd2] at h;obtain⟨ts,hts,h⟩:=Option.bind_eq_some_iff.1 h;by_cases hck:s3.2+ts.length≤1000000∧c.f0.size≤1000000∧(ts.all fun t=>decide (t.size≤1000000))=true
      ·rw[if_pos hck] at h;have HTS:=am_ hts;have HCK:=am_ hck;have H3:=am_ h;have hdb:(d2 != 1)=false:=by rw[hd2];rfl
       clear h tk hts hfd hck hd2;go_wp2_with (first | ((with_reducible refine aA (N:=9) rfl ?_);refine f7 rfl (N:=9) rfl rfl rfl (zs:=#[.string (⟨#[]⟩:ByteArray),.string (⟨#[]⟩:ByteArray)]) (cs:=#[.string c.f0,.string c.f1]) (t:=86) ?hr ?hs ?_;(case hr=>exact bL);(case hs=>exact bL);intro gc hg w3 hbox hb;have BKc:=am_ hbox;replace HM:=am_ (HM.out.below hb);replace BKr:=am_ (bE BKr.out hb);replace HB:=am_ (av HB.out hb);have hz0:w3.cell? ⟨gc,0,none⟩=some (.string c.f0):=(a7 BKc.out 0).trans rfl;have hz1:w3.cell? ⟨gc,1,none⟩=some (.string c.f1):=(a7 BKc.out 1).trans rfl;clear hg hbox hb tl tm)|(go_at_call 110;refine(bs.calls k _ _ _ _ _ _ _ _ (Kd.C_below HF.out HB.out) HF0.out HFD.out).mono ?_;rintro e w4 ⟨rfl,hb⟩;replace HM:=am_ (HM.out.below hb);replace BKr:=am_ (bE BKr.out hb);replace BKc:=am_ (bE BKc.out hb);replace HB:=am_ (av HB.out hb);replace hz0:=ai hb hz0;replace hz1:=ai hb hz1;clear hb)|(go_at_call 20;refine(cJ.calls k _ _ _ (StopsIn.below HG.out HB.out) HTS.out).mono ?_;rintro e w5 ⟨vt,rfl,ht,hb⟩;obtain⟨A8,c8,rfl⟩:=Kd.R_slice ht;have HT:=am_ (Kd.R_lower (Kd.R_tight rfl ht) HB.out.size);replace HM:=am_ (HM.out.below hb);replace BKr:=am_ (bE BKr.out hb);replace BKc:=am_ (bE BKc.out hb);replace HB:=am_ (av HB.out hb);clear hb ht hz0 hz1))
       have hlt8:=(Kd.R_reads' HT.out).2.2.2.1;go_loopw [42] (fun tF wr=>∃(n:Nat) (G:Gs),tF = .int .i64 (n:Int)∧n≤ts.length∧aa (gf row.f0 c.f0 (ts.drop n) (n:Int) G=gf row.f0 c.f0 ts 0 s3.1)∧aa (LenG (s3.2+n) G)∧aa (MapIs k50 50 wr w.heap.size m G)∧aa (Kd.R Kd.string 9 wr w.heap.size (fun k_=>some k_=(Value.slice A8 ts.length c8).ownBlock) (.slice A8 ts.length c8) ts)∧aa (wr.heap[gr]? = some (.cells #[.int .i64 row.f0,.string row.f1.f0,.slice (some adc) row.f1.f1.length c2] 46 (0,0)))∧aa (wr.heap[gc]? = some (.cells #[.string c.f0,.string c.f1] 86 (0,0)))∧aa (Below w.heap.size w wr)) (fun v _=>match v with | .int _ i=>ts.length - i.toNat | _=>0)
       case atStart=>exact⟨0,s3.1,rfl,Nat.zero_le _,⟨rfl⟩,⟨HL.out.1⟩,HM,HT,BKr,BKc,HB⟩
       case round=>
        clear HM HT BKr BKc HB;obtain⟨n,G,rfl,hn,HGS,HLG,HM,HT,BKr,BKc,HB⟩:=hrel;rcases Nat.lt_or_ge n ts.length with hnlt | hnge
        ·have h:=HGS.out;rw[List.drop_eq_getElem_cons hnlt,gf] at h;have htc:=(Kd.R_reads' HT.out).2.2;obtain⟨tG,e8,hy⟩:=sN htc n hnlt;subst e8;have htm:ts[n] ∈ ts:=List.getElem_mem _;have hsm:ts[n].size≤1000000:=by have:=List.all_eq_true.1 HCK.out.2.2 _ htm;simpa using this
         have r1:((n:Int)<(ts.length:Int))=True:=eq_true aw;have r0:(0≤(n:Int))=True:=eq_true aw;generalize ts[n] = tt at h hy hsm htm;generalize hte:tt.toList.isEmpty=bt;have hsz:=pI tt hte;cases bt with
         | true=>
          rw[if_pos (by simpa using hsz)] at h;have HN:=am_ h;clear h hsz htc htm hsm;go_wp2;go_roundw
          case rel=>exact⟨n+1,G,fz,aw,by simpa using HN,⟨⟨by have:=HLG.out.1;omega,fun g hg=>⟨by have:=(HLG.out.2 g hg).1;omega,fun q hq=>by have:=(HLG.out.2 g hg).2 q hq;omega⟩⟩⟩,HM,HT,BKr,BKc,HB⟩
          case measure=>simp;omega
         | false=>
          rw[if_neg (by simpa using hsz)] at h;have HN:=am_ h;have hp:lF (c.f0,tt):=⟨Nat.le_trans HCK.out.2.1 ap,Nat.le_trans hsm ap⟩;obtain⟨jj,v,xs,okj0,hlook0,hS0,hrest0,hjj⟩:=Go.Proofs.YtnjjdojonflckaaGreatDoor.Ent.look jR HM.out hp;obtain⟨Av,cv,rfl⟩:=Kd.S_slice hS0;have hlook:(Instr.lookup 145 (.map (some m)) (.agg #[.string c.f0,.string tt]) false).run Tryz.prog wr = .ok (.slice Av xs.length cv) wr:=hlook0;have hxl:xs.length≤s3.2+n∧∀q∈xs,q.f1.length≤s3.2+n:=HLG.out.at hjj;have hck1:=HCK.out.1;have hS:=Kd.S_bound hS0;have hrest:=MapRest.sub hrest0 (ok1:=fun k=>okj0 k∧w.heap.size≤k∧k<wr.heap.size∧∃q,q∈50 :: k50.E∧∃cells,wr.heap[k]? = some (.cells cells q (0,0))) (fun k hk=>hk.1);obtain⟨okj,hokj⟩:∃okj:Nat→Prop,okj=(fun k=>okj0 k∧w.heap.size≤k∧k<wr.heap.size∧∃q,q∈50 :: k50.E∧∃cells,wr.heap[k]? = some (.cells cells q (0,0))):=⟨_,rfl⟩;rw[← hokj] at hS hrest;have hty:∀k,okj k→∃q cells,(q=50∨q=3)∧wr.heap[k]? = some (.cells cells q (0,0)):=fun k hk=>by
           rw[hokj] at hk;obtain⟨_,_,_,q,hq,cells,hc⟩:=hk;refine⟨q,cells,?_,hc⟩;rcases List.mem_cons.1 hq with hq | hq
           ·exact .inl hq
           ·exact .inr (by have:k50.E = [3]:=rfl;rw[this] at hq;simpa using hq)
          clear hokj;have hxl2:xs.length≤2000000:=by omega
          have HXL:=am_ hxl;have HSX:=am_ hS;have HREST:=am_ hrest;have HTY:=am_ hty;have HJJ:=am_ hjj;have HPS:=am_ hp;have hz0:wr.cell? ⟨gc,0,none⟩=some (.string c.f0):=(a7 BKc.out 0).trans rfl;have hzr:wr.cell? ⟨gr,0,none⟩=some (.int .i64 row.f0):=(a7 BKr.out 0).trans rfl;clear h hsz htc htm hsm hlook0 hS0 hrest0 hS hrest hty hjj hp hxl hck1;have HLQ:=am_ (show s3.2+n≤2000000 by have:=HL.out.2;have:=HCK.out.1;omega);obtain⟨X,hX⟩:∃X:List S50,X=xs:=⟨_,rfl⟩;have HJX:aa ((jj=G.length∧X = [] ∧ ∀g∈G,g.1≠(c.f0,tt))∨∃g,G[jj]? = some g∧g.1=(c.f0,tt)∧g.2=X):=⟨by rw[hX];exact HJJ.out⟩;clear HJJ;rcases Nat.eq_zero_or_pos xs.length with h0 | hpos
          ·obtain rfl:xs = []:=List.eq_nil_of_length_eq_zero h0;have HX:=am_ hX;clear hX h0;have HST:=am_ (show ([] : List S50) ++ [⟨row.f0,[(n:Int)]⟩] = fw X row.f0 (n:Int) from by rw[HX.out];rfl);go_wp2;go_quiet (fail)
           have HM5:=am_ (HM.out.below (al (Below.refl _ _) nq));have HREST5:=am_ (show MapRest k50 50 (wr.drewN nq) w.heap.size m G jj okj (wr.drewN nq).heap.size from HREST.out.step (fun _ _ _=>rfl));have YO:=am_ (Kd.S_drewN HSX.out nq);have HTY5:=am_ (show ∀k,okj k→∃q cells,(q=50∨q=3)∧(wr.drewN nq).heap[k]? = some (.cells cells q (0,0)) from HTY.out);have BKr5:=am_ (dL BKr.out nq);have BKc5:=am_ (dL BKc.out nq);have HT5:=am_ (Kd.R_drewN HT.out nq);have HB5:=am_ (al HB.out nq);have HBM:=am_ (Nat.le_trans HMW.out (Nat.le_refl m));clear HM HREST HSX HTY BKr BKc HT HB hlook hz0 hzr;generalize wr.drewN nq=w5 at HM5 HREST5 YO HTY5 BKr5 BKc5 HT5 HB5 ⊢;have hzr5:w5.cell? ⟨gr,0,none⟩=some (.int .i64 row.f0):=(a7 BKr5.out 0).trans rfl;have hz05:w5.cell? ⟨gc,0,none⟩=some (.string c.f0):=(a7 BKc5.out 0).trans rfl;go_wp2_with (first | ((with_reducible refine aY (b:=.append) (xs:=#[.tmp 82,.tmp 88]) rfl ?_);at_builtin;refine Kd.S_append k50 (w0:=w) w.heap.size rfl (.tmp 82) (.tmp 88) 34 50 (.agg #[(.int .i64 0),(.slice none 0 0)]) 32 rfl Tryz.underlying34 ou rfl ap aw (.slice Av 0 cv) ([] : List S50) (⟨row.f0,[(n:Int)]⟩:S50) [.int .i64 row.f0,.slice (some ⟨w5.heap.size,0,none⟩) 1 1] (fun k=>okj k∨w5.heap.size≤k) (fun k=>k=w5.heap.size) rfl so ?aP ?aK ?aF ?aO ?aB ?aS ?aL ?_;(case aP=>exact mf row.f0 (n:Int) w5 w.heap.size HB5.out.size);(case aK=>exact(fun k hk=>⟨.inr aw,fun he=>by have:=Kd.S_lt YO.out k he.symm;omega⟩));(case aF=>exact(fun k hk=>.inr (by simp at hk;omega)));(case aO=>exact Kd.S_alloc (Kd.S_mono (Kd.S_bound YO.out) (fun k hk=>⟨.inl hk.1,nf⟩)) _);(case aB=>exact aE HB5.out _);(case aS=>exact Nat.le_trans HB5.out.size bb);(case aL=>exact u144_);intro v3 w3 ho hb hg hat;have hg':w5.grownBy w3 (Value.slice Av 0 cv).ownBlock:=World.grownBy.trans (World.grownBy_alloc w5 _ _) hg;obtain⟨A3,c3,rfl⟩:=Kd.S_slice ho;obtain⟨es,clock,hput,hmap6,hk6,hb6⟩:=i1 (w0:=w) HM5.out HREST5.out (Kept.of_grown hg' (Kept.refl w5 okj) (fun k hk=>.inl ((Kd.S_R YO.out).1 k hk))) ho (fun k hk=>hk) HTY5.out HPS.out HJX.out HST.out hb HBM.out;have HM6:=am_ hmap6;have HKB:=am_ hk6;have HB6:=am_ hb6;have hz06:w3.cell? ⟨gc,0,none⟩=some (.string c.f0):=iY hg' (fun k hk=>HTY5.out k ((Kd.S_R YO.out).1 k hk)) BKc5.out hz05;simp only[List.length_append,List.length_nil,List.length_cons,Nat.zero_add] at hput;clear ho hb hg hg' hat hmap6 hk6 hb6 hzr5 hz05))
           obtain⟨es0,cl0,hmb⟩:=MapIs.block HM5.out;have HT6:=am_ (Kd.R_kept HT5.out HKB.out (fun k_ hk=>by
            obtain⟨cells,hc⟩:=Kd.R_typed HT5.out k_ hk.symm;exact Wr.not hmb hc ap ap))
           have BKr6:=am_ (fx BKr5.out HKB.out (Wr.not hmb BKr5.out ap ap));have BKc6:=am_ (fx BKc5.out HKB.out (Wr.not hmb BKc5.out ap ap));clear hmb;go_roundw
           case rel=>exact⟨n+1,stepG G (c.f0,tt) row.f0 (n:Int),fz,aw,by simpa using HN,⟨si⟩,HM6,HT6,BKr6,BKc6,HB6⟩
           case measure=>simp;omega
          ·obtain⟨m2,hm2⟩:∃m2,X.length=m2+1:=⟨X.length - 1,by rw[hX];omega⟩;have hpp:X[m2]? = some (X[m2]'aw):=List.getElem?_eq_getElem _;rw[← hX] at HSX hlook HXL;clear hX hpos hxl2;generalize X[m2]'aw=p at hpp;have HST0:=am_ (oO hpp hm2 row.f0 (n:Int));have HPL:=am_ (HXL.out.2 p (List.mem_of_getElem? hpp));obtain⟨g,cap,u2,oki2,hv,hgl,hgb,hgo,hgc,hd0,hd1,hdf,hri,hok2,hsame⟩:=qp HSX.out m2 p hpp hm2.symm;injection hv with hA tx tz
           clear tx tz hgc;subst hA;rw[hm2] at HSX hlook hsame;have HRI:=am_ hri;have HOK2:=am_ hok2;have HSAME:=am_ hsame;have HGL:=am_ hgl;have HGB:=am_ hgb;have HGO:=am_ hgo;have HXM:=am_ hm2;have hmb:m2≤2000000:=by have h1_:=HXL.out.1;have h2_:=HLQ.out;omega
           have t4:(0≤(m2:Int))=True:=eq_true aw;have t5:((m2:Int)<((m2+1:Nat):Int))=True:=eq_true aw;clear hpp hm2 hri hok2 hsame hgl hgb hgo;by_cases hd:p.f0=row.f0
           ·have hdb2:(p.f0 == row.f0)=true:=by simpa using hd
            have HST:=am_ (show X.set m2 ⟨p.f0,p.f1 ++ [(n:Int)]⟩=fw X row.f0 (n:Int) from by rw[HST0.out,if_pos hd]);clear hd HST0;go_wp2;go_quiet (fail)
            have HM5:=am_ (HM.out.below (al (Below.refl _ _) nq));have HREST5:=am_ (show MapRest k50 50 (wr.drewN nq) w.heap.size m G jj okj (wr.drewN nq).heap.size from HREST.out.step (fun _ _ _=>rfl));have YO:=am_ (Kd.S_drewN HSX.out nq);have HTY5:=am_ (show ∀k,okj k→∃q cells,(q=50∨q=3)∧(wr.drewN nq).heap[k]? = some (.cells cells q (0,0)) from HTY.out);have BKr5:=am_ (dL BKr.out nq);have BKc5:=am_ (dL BKc.out nq);have HT5:=am_ (Kd.R_drewN HT.out nq);have HB5:=am_ (al HB.out nq);have HBM:=am_ (Nat.le_trans HMW.out (Nat.le_refl m));have HRI5:=am_ (Kd.R_drewN HRI.out nq);have HSAME5:=am_ (show ∀(w1:World) (u1:Value) (x:Int) (okp:Nat→Prop),(wr.drewN nq).grownBy w1 u2.ownBlock→kI.R 3 w1 w.heap.size okp u1 (p.f1 ++ [x])→(∀k,okp k→oki2 k∨(wr.drewN nq).heap.size≤k)→Kd.S k50 50 (w1.setCell ⟨g,m2*2+1,none⟩ u1) w.heap.size (fun k=>okj k∨(wr.drewN nq).heap.size≤k) (.slice (some ⟨g,0,none⟩) (m2+1) cv) (X.set m2 ⟨p.f0,p.f1 ++ [x]⟩)∧w1.grownBy (w1.setCell ⟨g,m2*2+1,none⟩ u1) (some g) from fun w1 u1 x okp hg=>HSAME.out w1 u1 x okp ⟨hg.os,hg.tape,hg.output,hg.size,hg.block⟩);have HGL5:=am_ (show g<(wr.drewN nq).heap.size from HGL.out);replace hd1:(wr.drewN nq).cell? ⟨g,m2*2+1,none⟩=some u2:=hd1;replace hdf:(wr.drewN nq).frozen? ⟨g,m2*2+1,none⟩=false:=hdf;clear HRI HSAME HGL hd0 HM HREST HSX HTY BKr BKc HT HB hlook hz0 hzr;generalize wr.drewN nq=w5 at HM5 HREST5 YO HTY5 BKr5 BKc5 HT5 HB5 HRI5 HSAME5 HGL5 hd1 hdf ⊢;have hzr5:w5.cell? ⟨gr,0,none⟩=some (.int .i64 row.f0):=(a7 BKr5.out 0).trans rfl;have hz05:w5.cell? ⟨gc,0,none⟩=some (.string c.f0):=(a7 BKc5.out 0).trans rfl;have hgc1:g≠gc:=fun he=>by
             obtain⟨q,cells,hq,hh⟩:=HTY5.out g HGO.out;rw[he,BKc5.out] at hh;injection hh with hh
             injection hh with _ hh
             rcases hq with rfl | rfl
             ·exact absurd hh ap
             ·exact absurd hh ap
            have hgc2:gc≠g:=Ne.symm hgc1;go_wp2_with (first | ((with_reducible refine aY (b:=.append) (xs:=#[.tmp 76,.tmp 78]) rfl ?_);at_builtin;refine Kd.R_append kI (w0:=w) w.heap.size rfl (.tmp 76) (.tmp 78) 39 3 (.int .i64 0) 8 rfl Tryz.underlying39 rY rfl ap aw u2 p.f1 (n:Int) [.int .i64 (n:Int)] (fun k=>oki2 k∨w5.heap.size≤k) (fun _=>False) ?hs ?hx rfl (fun _ hk=>hk.elim) (fun k hk=>.inr hk) (Kd.R_mono HRI5.out (fun _ hk=>.inl hk)) HB5.out HB5.out.size (by have h1_:=HPL.out;have h2_:=HLQ.out;omega) ?_;(case hs=>first | rfl | (go_simp;done)|(go_simp;rfl)|(simp;done));(case hx=>first | rfl | (go_simp;done)|(go_simp;rfl)|(simp;done));intro u3 w3 ho hb hg hat;have hne:some g≠u2.ownBlock:=(fun he=>(HOK2.out g (HRI5.out.1 g he.symm)).2.2 rfl);have hh:=hg.block g HGL5.out hne;replace hd1:=Go.Proofs.YtnjjdojonflckaaGreatDoorW.PrintWords.cell_grown hg hd1 hne;have hdf3:w3.frozen? ⟨g,m2*2+1,none⟩=false:=(by simpa [World.frozen?,hh] using hdf);obtain⟨A3,c3,rfl⟩:=Kd.R_slice ho;have hsm:=HSAME5.out w3 _ (n:Int) _ hg ho (fun _ hk=>hk);have hk3:=Kept.of_grown hsm.2 (Kept.of_grown hg (Kept.refl w5 okj) (fun k hk=>.inl (HOK2.out k (HRI5.out.1 k hk)).1)) (fun k hk=>by injection hk with hk;rw[← hk];exact .inl HGO.out);have hb3:=fe hb (some g) hb.size hsm.2 (fun k hk=>by injection hk with hk;rw[← hk];exact HGB.out);obtain⟨es,clock,hput,hmap6,hk6,hb6⟩:=i1 (w0:=w) HM5.out HREST5.out hk3 hsm.1 (fun k hk=>hk) HTY5.out HPS.out HJX.out HST.out hb3 HBM.out;have HM6:=am_ hmap6;have HKB:=am_ hk6;have HB6:=am_ hb6;have hz06:w3.cell? ⟨gc,0,none⟩=some (.string c.f0):=iY hg (fun k hk=>HTY5.out k (HOK2.out k (HRI5.out.1 k hk)).1) BKc5.out hz05;simp only[List.length_append,List.length_nil,List.length_cons,Nat.zero_add] at hput HM6 HKB HB6;clear ho hb hg hat hmap6 hk6 hb6 hzr5 hz05 hne hh hsm hk3 hb3 hdf))
            obtain⟨es0,cl0,hmb⟩:=MapIs.block HM5.out;have HT6:=am_ (Kd.R_kept HT5.out HKB.out (fun k_ hk=>by
             obtain⟨cells,hc⟩:=Kd.R_typed HT5.out k_ hk.symm;exact Wr.not hmb hc ap ap))
            have BKr6:=am_ (fx BKr5.out HKB.out (Wr.not hmb BKr5.out ap ap));have BKc6:=am_ (fx BKc5.out HKB.out (Wr.not hmb BKc5.out ap ap));clear hmb;go_roundw
            case rel=>exact⟨n+1,stepG G (c.f0,tt) row.f0 (n:Int),fz,aw,by simpa using HN,⟨si⟩,HM6,HT6,BKr6,BKc6,HB6⟩
            case measure=>simp;omega
           ·have hdb2:(p.f0 == row.f0)=false:=by simpa using hd
            have HST:=am_ (show X ++ [⟨row.f0,[(n:Int)]⟩] = fw X row.f0 (n:Int) from by rw[HST0.out,if_neg hd]);clear hd HST0 hd1 hdf HRI HSAME;go_wp2;go_quiet (fail)
            have HM5:=am_ (HM.out.below (al (Below.refl _ _) nq));have HREST5:=am_ (show MapRest k50 50 (wr.drewN nq) w.heap.size m G jj okj (wr.drewN nq).heap.size from HREST.out.step (fun _ _ _=>rfl));have YO:=am_ (Kd.S_drewN HSX.out nq);have HTY5:=am_ (show ∀k,okj k→∃q cells,(q=50∨q=3)∧(wr.drewN nq).heap[k]? = some (.cells cells q (0,0)) from HTY.out);have BKr5:=am_ (dL BKr.out nq);have BKc5:=am_ (dL BKc.out nq);have HT5:=am_ (Kd.R_drewN HT.out nq);have HB5:=am_ (al HB.out nq);have HBM:=am_ (Nat.le_trans HMW.out (Nat.le_refl m));clear hd0 HM HREST HSX HTY BKr BKc HT HB hlook hz0 hzr;generalize wr.drewN nq=w5 at HM5 HREST5 YO HTY5 BKr5 BKc5 HT5 HB5 ⊢;have hzr5:w5.cell? ⟨gr,0,none⟩=some (.int .i64 row.f0):=(a7 BKr5.out 0).trans rfl;have hz05:w5.cell? ⟨gc,0,none⟩=some (.string c.f0):=(a7 BKc5.out 0).trans rfl;go_wp2_with (first | ((with_reducible refine aY (b:=.append) (xs:=#[.tmp 82,.tmp 88]) rfl ?_);at_builtin;refine Kd.S_append k50 (w0:=w) w.heap.size rfl (.tmp 82) (.tmp 88) 34 50 (.agg #[(.int .i64 0),(.slice none 0 0)]) 32 rfl Tryz.underlying34 ou rfl ap aw (.slice (some ⟨g,0,none⟩) (m2+1) cv) X (⟨row.f0,[(n:Int)]⟩:S50) [.int .i64 row.f0,.slice (some ⟨w5.heap.size,0,none⟩) 1 1] (fun k=>okj k∨w5.heap.size≤k) (fun k=>k=w5.heap.size) rfl so ?aP ?aK ?aF ?aO ?aB ?aS ?aL ?_;(case aP=>exact mf row.f0 (n:Int) w5 w.heap.size HB5.out.size);(case aK=>exact(fun k hk=>⟨.inr aw,fun he=>by have:=Kd.S_lt YO.out k he.symm;omega⟩));(case aF=>exact(fun k hk=>.inr (by simp at hk;omega)));(case aO=>exact Kd.S_alloc (Kd.S_mono (Kd.S_bound YO.out) (fun k hk=>⟨.inl hk.1,nf⟩)) _);(case aB=>exact aE HB5.out _);(case aS=>exact Nat.le_trans HB5.out.size bb);(case aL=>exact u144_);intro v3 w3 ho hb hg hat;have hg':w5.grownBy w3 (Value.slice (some ⟨g,0,none⟩) (m2+1) cv).ownBlock:=World.grownBy.trans (World.grownBy_alloc w5 _ _) hg;obtain⟨A3,c3,rfl⟩:=Kd.S_slice ho;obtain⟨es,clock,hput,hmap6,hk6,hb6⟩:=i1 (w0:=w) HM5.out HREST5.out (Kept.of_grown hg' (Kept.refl w5 okj) (fun k hk=>.inl ((Kd.S_R YO.out).1 k hk))) ho (fun k hk=>hk) HTY5.out HPS.out HJX.out HST.out hb HBM.out;have HM6:=am_ hmap6;have HKB:=am_ hk6;have HB6:=am_ hb6;have hz06:w3.cell? ⟨gc,0,none⟩=some (.string c.f0):=iY hg' (fun k hk=>HTY5.out k ((Kd.S_R YO.out).1 k hk)) BKc5.out hz05;simp only[List.length_append,List.length_nil,List.length_cons,Nat.zero_add] at hput;clear ho hb hg hg' hat hmap6 hk6 hb6 hzr5 hz05))
            obtain⟨es0,cl0,hmb⟩:=MapIs.block HM5.out;have HT6:=am_ (Kd.R_kept HT5.out HKB.out (fun k_ hk=>by
             obtain⟨cells,hc⟩:=Kd.R_typed HT5.out k_ hk.symm;exact Wr.not hmb hc ap ap))
            have BKr6:=am_ (fx BKr5.out HKB.out (Wr.not hmb BKr5.out ap ap));have BKc6:=am_ (fx BKc5.out HKB.out (Wr.not hmb BKc5.out ap ap));clear hmb;go_roundw
            case rel=>exact⟨n+1,stepG G (c.f0,tt) row.f0 (n:Int),fz,aw,by simpa using HN,⟨si⟩,HM6,HT6,BKr6,BKc6,HB6⟩
            case measure=>simp;omega
        ·obtain rfl:n=ts.length:=by omega
         have h:=HGS.out;rw[List.drop_eq_nil_of_le (Nat.le_refl _),gf] at h;have r1:(((ts.length:Nat):Int)<(ts.length:Int))=False:=eq_false aw;have HGE:=am_ h;clear h;go_wp2;go_roundw
         case rel=>exact⟨j+1,_,fz,aw,H3,⟨⟨by rw[← HGE.out];exact HLG.out,HCK.out.1⟩⟩,⟨by rw[← HGE.out];exact HM.out⟩,BKr,HB⟩
         case measure=>simp;omega
      ·rw[if_neg hck] at h;cases h
     ·rw[if_neg hd2] at h;have H3:=am_ h;have hdb:(d2 != 1)=true:=bne_iff_ne.2 hd2;clear h tk hfd hd2;go_wp2_with (first | ((with_reducible refine aA (N:=9) rfl ?_);refine f7 rfl (N:=9) rfl rfl rfl (zs:=#[.string (⟨#[]⟩:ByteArray),.string (⟨#[]⟩:ByteArray)]) (cs:=#[.string c.f0,.string c.f1]) (t:=86) ?hr ?hs ?_;(case hr=>exact bL);(case hs=>exact bL);intro gc hg w3 hbox hb;replace HM:=am_ (HM.out.below hb);replace BKr:=am_ (bE BKr.out hb);replace HB:=am_ (av HB.out hb);have hz0:w3.cell? ⟨gc,0,none⟩=some (.string c.f0):=(a7 hbox 0).trans rfl;clear hg hbox hb tl tm)|(go_at_call 110;refine(bs.calls k _ _ _ _ _ _ _ _ (Kd.C_below HF.out HB.out) HF0.out HFD.out).mono ?_;rintro e w4 ⟨rfl,hb⟩;replace HM:=am_ (HM.out.below hb);replace BKr:=am_ (bE BKr.out hb);replace HB:=am_ (av HB.out hb);clear hb hz0))
      go_roundw
      case rel=>exact⟨j+1,s3,fz,aw,H3,HL,HM,BKr,HB⟩
      case measure=>simp;omega
    ·obtain rfl:j=row.f1.f1.length:=by omega
     have h:=tk.out;rw[List.drop_eq_nil_of_le (Nat.le_refl _),entriesW.cs] at h;obtain rfl:=Option.some.inj h;have q1:(((row.f1.f1.length:Nat):Int)<(row.f1.f1.length:Int))=False:=eq_false aw;clear h;go_wp2;go_roundw
     case rel=>exact⟨i+1,_,fz,aw,H2,HL,HM,HB⟩
     case measure=>simp;omega
  ·obtain rfl:i=l1.length:=by omega
   have h:=H.out;rw[List.drop_eq_nil_of_le (Nat.le_refl _),entriesW.rs] at h;have hse:s=(GG,nn):=Option.some.inj h;have HSO:=am_ (show dP (s.1.map toE)=r by rw[hse];exact HSORT.out);clear hse;have p1:(((l1.length:Nat):Int)<(l1.length:Int))=False:=eq_false aw;clear h;have hsl:s.1.length≤1000000:=Nat.le_trans HL.out.1.1 HL.out.2;go_wp2_with (first | ((with_reducible refine aA (N:=99) rfl ?_);refine sC (w0:=w) (B:=w.heap.size) rfl (N:=99) ?hd ?hr HB.out HB.out.size ?_;(case hd=>rfl);(case hr=>exact bL);intro tH w2 hs2 hb2 hb3 hv2;have HO:=am_ hs2;have HV:=am_ hv2;have hmm2:=HM.out.below hb3;obtain⟨clock,hrange,hranging⟩:=Ranging.start jR hmm2;obtain⟨rr,hrr⟩:∃rr,rr=w2.heap.size:=⟨_,rfl⟩;obtain⟨w3,tw⟩:∃w3,w3=w2.alloc (.mapIter (some m) clock #[] clock):=⟨_,rfl⟩;rw[← hrr,← tw] at hrange hranging;have hbw:Below w2.heap.size w2 w3:=(by rw[tw];exact aE (Below.refl _ _) _);have HRG:=am_ hranging;replace HO:=am_ (Kd.R_below HO.out hbw);replace HB:=am_ (av hb2 hbw);have HRB:=am_ (show w.heap.size≤rr from by rw[hrr];exact hb2.size);have HRM:=am_ (show rr≠m from by rw[hrr];exact Nat.ne_of_gt hmm2.lt);clear hs2 hb2 hb3 hv2 hmm2 hranging hrr tw hbw HM))
   clear hrange;go_loopg [14] (s.1.length) (fun q tA wr=>∃is:List Nat,s.1.length=q+is.length∧aa (Kd.R k76 76 wr w.heap.size (fun _=>True) tA ((mO s.1 is).map toE))∧aa (∃b,tA.ownBlock=some b)∧aa (Ranging k50 50 wr w.heap.size m rr s.1 is)∧aa (Below w.heap.size w wr))
   case atStart=>exact⟨[],rfl,HO,HV,HRG,HB⟩
   case round=>
    clear HO HV HRG HB;obtain⟨is,hq,HO,HV,HRG,HB⟩:=hrel;have hil:((mO s.1 is).map toE).length=is.length:=by unfold mO;simp
    rcases Ranging.next (P:=Tryz.prog) HRG.out HRM.out 0 with ⟨hperm,hnext⟩ | ⟨i,g,v,w4,hgi,hni,hnext0,hrg4,hentry0,hgrow,hsz4,hR4,hle⟩
    ·have HP:=am_ hperm;have hil2:is.length≤1000000:=by omega
     have HIL:=am_ (show ((mO s.1 is).map toE).length<1000000000 by omega);have HKN:=am_ (Ranging.nodup HRG.out);clear hperm hil;go_wp2_with (first | (go_at_call 115;refine(sw _ _ w.heap.size w _ HB.out HO.out HV.out HIL.out).mono ?_;rintro e w5 ⟨rfl,ys,hys,hpw,hr5,hb5⟩;have HY:=am_ (And.intro hys hpw);have tC:=am_ hr5;replace HB:=am_ hb5;clear hys hpw hr5 hb5))
     go_ret
     refine⟨_,rfl,?_,HB.out⟩;have he:ys=r:=by
      rw[← HSO.out];exact rk (HY.out.1.trans (HP.out.map toE)) HY.out.2 HKN.out
     rw[← he];exact tC.out
    ·cases gk with
     | zero=>exact absurd hle (by rw[List.length_append,List.length_singleton];omega)
     | succ k1=>
      obtain⟨Av,cv,rfl⟩:=Kd.R_slice hR4;have hnext:(Instr.next (.pointer (some ⟨rr,0,none⟩)) false 0).run Tryz.prog wr = .ok (.tuple #[.bool true,.agg #[.string g.1.1,.string g.1.2],.slice Av g.2.length cv]) w4:=hnext0;have hentry:(Instr.entry (.pointer (some ⟨rr,0,none⟩))).run Tryz.prog w4 = .ok (.tuple #[.agg #[.string g.1.1,.string g.1.2],.slice Av g.2.length cv]) w4:=hentry0;have HG4:=am_ hrg4;have tv:=am_ hR4;have tu:=am_ (R_iter HO.out HRG.out hgrow);have HB4:=am_ (fe HB.out (some rr) HB.out.size hgrow (fun b hb=>by injection hb with hb;rw[← hb];exact HRB.out));have HGI:=am_ hgi;have HLE:=am_ hle;clear hnext0 hentry0 hgrow hsz4 hrg4 hR4 hgi hni hle HO HRG HB;go_wp2_with (first | ((with_reducible refine aA (N:=15) rfl ?_);refine f7 rfl (N:=15) rfl rfl rfl (zs:=#[.string (⟨#[]⟩:ByteArray),.string (⟨#[]⟩:ByteArray)]) (cs:=#[.string g.1.1,.string g.1.2]) (t:=147) ?hr ?hs ?_;(case hr=>exact bL);(case hs=>exact bL);intro gp hg w5 hbox hb;replace HG4:=am_ (HG4.out.below hb);replace tv:=am_ (Kd.R_below tv.out hb);replace tu:=am_ (Kd.R_below tu.out hb);replace HB4:=am_ (av HB4.out hb);have hz0:w5.cell? ⟨gp,0,none⟩=some (.string g.1.1):=(a7 hbox 0).trans rfl;have hz1:w5.cell? ⟨gp,1,none⟩=some (.string g.1.2):=(a7 hbox 1).trans rfl;clear hg hbox hb)|((with_reducible refine aY (b:=.append) (xs:=#[.tmp 107,.tmp 114]) rfl ?_);at_builtin;refine Kd.R_append k76 (w0:=w) w.heap.size rfl (.tmp 107) (.tmp 114) 25 76 (.agg #[(.string ⟨#[]⟩),(.string ⟨#[]⟩),(.slice none 0 0)]) 56 rfl Tryz.underlying25 jS rfl ap aw u14 ((mO s.1 is).map toE) (toE g) [.string g.1.1,.string g.1.2,.slice Av g.2.length cv] (fun _=>True) (fun k=>(True∧w.heap.size≤k∧k<w5.heap.size∧∃q,q∈50 :: k50.E∧∃cells,w5.heap[k]? = some (.cells cells q (0,0)))) ?hs ?hx ?aP ?aK (fun _ _=>trivial) tu.out HB4.out HB4.out.size ?aL ?_;(case hs=>first | rfl | (go_simp;done)|(go_simp;rfl));(case hx=>first | rfl | (go_simp;done)|(go_simp;rfl));(case aP=>exact qq _ _ _ (toE g) (Kd.R_bound tv.out));(case aK=>exact(fun k hk=>⟨trivial,fun he=>py hk.2.2.2 (Kd.R_typed tu.out k he.symm)⟩));(case aL=>rw[hil];omega);intro v8 w8 ho hb hg hat;have tB:=am_ ho;have HG8:=am_ (HG4.out.step (E:=76) ap hg (fun b hb=>Kd.R_typed tu.out b hb));have HV8:=am_ (show ∃b,v8.ownBlock=some b from hat.elim (fun h=>by obtain⟨b,hb⟩:=HV.out;exact⟨b,h.trans hb⟩) (fun ⟨b,hb,_⟩=>⟨b,hb⟩));have HB8:=am_ hb;clear ho hb hg hat hz0 hz1))
      go_roundg k1
      case measure=>omega
      case rel=>exact⟨is ++ [i],by rw[List.length_append,List.length_singleton];omega,⟨by rw[qU _ _ HGI.out,List.map_append];exact tB.out⟩,HV8,HG8,HB8⟩
end
def dO.f (k:Nat) (l0:List S92) (l1:List S46):Option (List S76):=entriesW.f k l0 l1
theorem dO.calls (k:Nat) (A0:Option Addr) (c0:Nat) (l0:List (S92)) (A1:Option Addr) (c1:Nat) (l1:List (S46)) (r:List (S76)) (w:World) (hG:StopsIn w) (hr0:Kd.C k92 w A0 l0.length l0) (hc0:l0.length≤c0) (hr1:Kd.C k46 w A1 l1.length l1) (hc1:l1.length≤c1) (h:dO.f k l0 l1=some r) :
  Calls Tryz.prog 68 #[.slice A0 l0.length c0,.slice A1 l1.length c1] w fun e w'=>∃v0_:Value,e = .returned (v0_)∧Kd.R k76 76 w' w.heap.size (fun _=>True) v0_ r∧Below w.heap.size w w':=entriesW.calls k A0 c0 l0 A1 c1 l1 r w hG hr0 hc0 hr1 hc1 h
end
mutual
def aq.j0:Nat→Bool→List (S92)→List (S46)→List (S76)→Int→Option (Bool)
 | 0,_,_,_,_,_=>none
 | k+1,tq,tl,tk,tm,tn=>if tq=true then(some false) else(aq.l0 k tk (tk.length:Int) 0 tl tk tm tn)
def aq.l0:Nat→List (S46)→Int→Int→List (S92)→List (S46)→List (S76)→Int→Option (Bool)
 | 0,_,_,_,_,_,_,_=>none
 | k+1,tr,tC,tq,tk,tl,tm,tn=>if tq<tC then(if 0≤tq then(if tq<(tr.length:Int) then((be.f ((ah tr tq).f0) 0 (wrap64 (tn - 1))).bind fun tw=>(if tw=true then(if tq>0 then(if 0≤(wrap64 (tq - 1)) then(if(wrap64 (tq - 1))<(tl.length:Int) then(if((ah tl (wrap64 (tq - 1))).f0)≥((ah tr tq).f0) then(some false) else((bi.f k tk ((ah tr tq).f1.f0) ((ah tr tq).f1.f1)).bind fun tx=>(if tx=true then((de.f tk tl tm tn ((ah tr tq).f1.f0)).bind fun tz=>(if tz=tq then(aq.l0 k tr tC (wrap64 (tq+1)) tk tl tm tn) else(some false))) else(some false)))) else(none)) else(none)) else((bi.f k tk ((ah tr tq).f1.f0) ((ah tr tq).f1.f1)).bind fun tA=>(if tA=true then((de.f tk tl tm tn ((ah tr tq).f1.f0)).bind fun tB=>(if tB=tq then(aq.l0 k tr tC (wrap64 (tq+1)) tk tl tm tn) else(some false))) else(some false)))) else(some false))) else(none)) else(none)) else((dO.f k tk tl).bind fun tu=>((cT.f k tm tu).bind fun tv=>(some tv)))
end
def aq.f (k:Nat) (l0_0:List (S92)) (l0_1:List (S46)) (l0_2:List (S76)) (a0_3:Int):Option (Bool):=(aU.f k l0_0).bind fun tk=>(if tk=true then(if(l0_1.length:Int)>8 then(aq.j0 k true l0_0 l0_1 l0_2 a0_3) else((be.f a0_3 0 999999999).bind fun tl=>(aq.j0 k (!tl) l0_0 l0_1 l0_2 a0_3))) else(aq.j0 k true l0_0 l0_1 l0_2 a0_3))
def aq.T6:Bool × List (List Nat × List Nat):=(true,[([],[]),([0],[0]),([],[]),([2],[2]),([3],[3]),([1,4],[1,4]),([5],[5]),([6,5],[6]),([7],[7]),([8,7],[7,8]),([9,7,7],[7,9]),([10],[10]),([11,10],[10,11]),([10],[10]),([13,10],[10,13]),([12,14,10],[10,12,14]),([15,10],[10,15]),([16,10],[10,16]),([10],[10]),([18,10],[10,18]),([17,19,10],[10,17,19]),([10,20,7],[7,10,20]),([7,21],[7,21]),([22,10],[22]),([23],[23]),([24,23],[23,24]),([23],[23]),([26,23],[23,26]),([25,27,23,23],[23,25,27]),([28,23],[23,28]),([23,29],[23,29]),([30,28],[30]),([31],[31]),([31],[31]),([33,31],[31,33]),([34,31],[31,34]),([32,35,31,31],[31,32,35]),([31],[31]),([36,37,31],[31,36,37]),([31,38],[31,38])])
def aq.B6:List Nat:=[0,1,0,4,12,31,63,127,255,511,1023,2047,4095,2047,10239,32767,65535,131071,2047,264191,1048575,2097151,4194303,8388607,16777215,33554431,16777215,83886079,268435455,536870911,1073741823,2147483647,4294967295,4294967295,12884901887,30064771071,68719476735,4294967295,274877906943,549755813887]
theorem aq.tab6:dC .any (fk Tryz.f25 6)=aq.T6:=by kernel_rfl
theorem aq.bits6:dc aq.T6.2 aq.B6=true:=by kernel_rfl
def aq.T9:Bool × List (List Nat × List Nat):=(true,[([],[]),([0],[0]),([],[]),([2],[2]),([],[]),([4],[4]),([3,5],[3,5]),([1,6,6],[1,6]),([7,7,0,1,2,3,4,5,6,7],[7])])
def aq.B9:List Nat:=[0,1,0,4,0,16,60,127,255]
theorem aq.tab9:dC .any (fk Tryz.f25 9)=aq.T9:=by kernel_rfl
theorem aq.bits9:dc aq.T9.2 aq.B9=true:=by kernel_rfl
theorem aq.calls (k:Nat) (A0_0:Option Addr) (c0_0:Nat) (l0_0:List (S92)) (A0_1:Option Addr) (c0_1:Nat) (l0_1:List (S46)) (A0_2:Option Addr) (c0_2:Nat) (l0_2:List (S76)) (a0_3:Int) (r:Bool) (w:World) (hG:StopsIn w) (hr0_0:Kd.C k92 w A0_0 l0_0.length l0_0) (hc0_0:l0_0.length≤c0_0) (hr0_1:Kd.C k46 w A0_1 l0_1.length l0_1) (hc0_1:l0_1.length≤c0_1) (hr0_2:Kd.C k76 w A0_2 l0_2.length l0_2) (hc0_2:l0_2.length≤c0_2) (h:aq.f k l0_0 l0_1 l0_2 a0_3=some r) :
  Calls Tryz.prog 25 #[.agg #[.slice A0_0 l0_0.length c0_0,.slice A0_1 l0_1.length c0_1,.slice A0_2 l0_2.length c0_2,.int .i64 a0_3]] w fun e w'=>e = .returned (.bool r)∧Below w.heap.size w w':=by
 have hu27:=Tryz.underlying27;have hu46:=Tryz.underlying46;have hu44:=Tryz.underlying44;have HG_:=am_ hG;clear hG;have tB:=am_ hr0_0;have tA:=am_ hc0_0;clear hr0_0 hc0_0;have tI:=am_ hr0_1;have tW:=am_ hc0_1;clear hr0_1 hc0_1;have tZ:=am_ hr0_2;have tX:=am_ hc0_2;clear hr0_2 hc0_2;have HB:=am_ (Below.refl w.heap.size w);have H:=h;clear h;unfold aq.f at H
 have vG:=am_ H;clear H;go_enter Tryz.func25,Tryz.ntmps25
 go_upto_region 1 with (first | ((with_reducible refine aA (N:=1) rfl ?_);(try (refine bj ct ?_;dsimp only));refine bF ?hg (N:=1) ?hd (cs:=#[.slice A0_0 l0_0.length c0_0,.slice A0_1 l0_1.length c0_1,.slice A0_2 l0_2.length c0_2,.int .i64 a0_3]) (t:=27) ?hr ?_;(case hd=>rfl);(case hg=>rfl);(case hr=>exact bL);intro tq hg w3 hbox hb;have tk:=am_ (hbox);have wh:=gw_ HB hg;replace HB:=bs_ HB hb;clear hb hbox hg))
 (try simp only[Act.put,List.setIfInBounds_toArray,List.set_cons_zero,List.set_cons_succ])
 go_cut [20] (fun wM wc=>∃(kq:Nat) (Z6:Bool),wM = .bool Z6∧aa (aq.j0 kq Z6 l0_0 l0_1 l0_2 a0_3=some r)∧aa (kq≤k)∧aa (wc.heap[tq]? = some (.cells #[(.slice A0_0 l0_0.length c0_0),(.slice A0_1 l0_1.length c0_1),(.slice A0_2 l0_2.length c0_2),.int .i64 a0_3] 27 (0,0)))∧aa (Below w.heap.size w wc))
 case first=>
  have H:=vG.out;clear vG;obtain⟨wd,A4,H⟩:=bi_ H;cases wd
  ·replace H:=hf_ H;have H':=am_ H;clear H;obtain⟨uM,uN,uO,uP,vp,vq,vr,vu⟩:=dx tk.out;go_wp2_with (first | ((with_reducible refine gt_ 7 ?_);refine gB_ 7 Tryz.func63 (aU.calls k _ _ l0_0 false _ (kc_ tB HB) tA.out A4.out) ?_;intro wW hb;replace tk:=bb_ tk hb;replace HB:=bs_ HB hb;(try clear hb)))
   go_meet
   case rel=>exact⟨_,(true),u4_,H',⟨jD⟩,⟨pb_ tk⟩,⟨bw_ HB⟩⟩
  ·replace H:=ht_ H;by_cases c6:(l0_1.length:Int)>8
   ·rw[if_pos c6] at H;have t6:decide (8<(l0_1.length:Int))=true:=decide_eq_true c6;have vH:decide (8<l0_1.length)=true:=decide_eq_true aw;clear c6;(first | rw[t6] | (simp only[aC,aG];rw[t6]) | skip)
    have H':=am_ H;clear H;obtain⟨vK,vM,vN,vO,vU,vV,vW,vX⟩:=dx tk.out;go_wp2_with (first | ((with_reducible refine gt_ 7 ?_);refine gB_ 7 Tryz.func63 (aU.calls k _ _ l0_0 true _ (kc_ tB HB) tA.out A4.out) ?_;intro w8 hb;replace tk:=bb_ tk hb;replace HB:=bs_ HB hb;(try clear hb);obtain⟨vP,vQ,vS,vT,vY,vZ,wa,wb⟩:=dx tk.out))
    go_meet
    case rel=>exact⟨_,(true),u4_,H',⟨jD⟩,⟨pb_ tk⟩,⟨bw_ HB⟩⟩
   ·rw[if_neg c6] at H;have t6:decide (8<(l0_1.length:Int))=false:=decide_eq_false c6;have vH:decide (8<l0_1.length)=false:=decide_eq_false aw;clear c6;(first | rw[t6] | (simp only[aC,aG];rw[t6]) | skip)
    obtain⟨ux,wy,H⟩:=bi_ H;have H':=am_ H;clear H;obtain⟨uE,uF,uG,uH,uZ,u6,u9,vk⟩:=dx tk.out;go_wp2_with (first | ((with_reducible refine gt_ 7 ?_);refine gB_ 7 Tryz.func63 (aU.calls k _ _ l0_0 true _ (kc_ tB HB) tA.out A4.out) ?_;intro wV hb;replace tk:=bb_ tk hb;replace HB:=bs_ HB hb;(try clear hb);obtain⟨uI,uJ,uK,uL,vl,vm,vn,vo⟩:=dx tk.out)|(go_at_call 64;(with_reducible refine(be.calls a0_3 0 999999999 ux _ wy.out).mono ?_);rintro e w' ⟨rfl,⟨nd,rfl⟩⟩))
    go_meet
    case rel=>exact⟨_,(!ux),u4_,H',⟨jD⟩,⟨pb_ tk⟩,⟨bw_ HB⟩⟩
 case rest=>
  clear vG;obtain⟨kq,Z6,rfl,HA,uD,tk,HB⟩:=hcut;cases kq with
  | zero=>exact absurd HA.out (by simp[aq.j0])
  | succ ww=>
   have H:=HA.out;clear HA;simp only[aq.j0] at H;cases Z6
   ·replace H:=hf_ H;have H':=am_ H;clear H;obtain⟨t8,ua,ub,uc,ud,ue,uf,ug⟩:=dx tk.out;go_wp2;go_loopg [24] ww (fun kq wN w'=>∃(tl:Int),wN = .int .i64 tl∧aa (aq.l0 kq l0_1 (l0_1.length:Int) tl l0_0 l0_1 l0_2 a0_3=some r)∧aa (kq≤ww)∧aa (w'.heap[tq]? = some (.cells #[(.slice A0_0 l0_0.length c0_0),(.slice A0_1 l0_1.length c0_1),(.slice A0_2 l0_2.length c0_2),.int .i64 a0_3] 27 (0,0)))∧aa (Below w.heap.size w w'))
    case atStart=>exact⟨(0),u4_,H',⟨Nat.le_refl _⟩,⟨pb_ tk⟩,⟨bw_ HB⟩⟩
    case round=>
     clear H';try clear t8 ua ub uc ud ue uf ug
     obtain⟨tl,rfl,HA,HK2,tk,HB⟩:=hrel;cases gk with
     | zero=>exact absurd HA.out (by simp[aq.l0])
     | succ k2=>
      have H:=HA.out;clear HA;simp only[aq.l0] at H;by_cases uo:tl<(l0_1.length:Int)
      ·rw[if_pos uo] at H;have ut:=decide_eq_true uo;clear uo;obtain⟨wi,H⟩:=gd_ H;obtain⟨wj,H⟩:=gd_ H;obtain⟨wg,uB,H⟩:=bi_ H;have HC_:=am_ H;clear H;obtain⟨tx,tv,tw,vI,tT,tU,tV,tR,tP⟩:=fB tI.out tl od_ od_;cases vI;replace tT:=cb_ HB tT;replace tU:=cb_ HB tU;replace tV:=cb_ HB tV;have tO:=am_ tP;have tN:=am_ tR;clear tP tR;obtain⟨wI,wK⟩:=pt_ tl l0_1.length;have H:=HC_.out;clear HC_;cases wg
       ·replace H:=hf_ H;obtain rfl:=si_ H;try go_wp2_with (first | ((with_reducible refine aA (N:=4) rfl ?_);(try (refine bj ct ?_;dsimp only));refine bF ?hg (N:=4) ?hd (cs:=#[.int .i64 0,.string (⟨#[]⟩:ByteArray),.slice none 0 0]) (t:=46) ?hr ?_;(case hd=>rfl);(case hg=>rfl);(case hr=>exact bL);intro tn hg wT hbox hb;have tm:=am_ (hbox);have uj:=gw_ HB hg;replace HB:=bs_ HB hb;have tr:=nl_ tk hg;have tu:=ng_ tk hg;replace tk:=bb_ tk hb;clear hb hbox hg;have wo:=tu.out;have wv:=tr.out;obtain⟨uW,uX,uY,vB,vD,vE⟩:=dm tm.out))
        generalize hW_:(((wT.setCell ⟨tn,0,none⟩ (.int .i64 ((ah l0_1 tl).f0))).setCell ⟨tn,1,none⟩ (.string ((ah l0_1 tl).f1.f0))).setCell ⟨tn,2,none⟩ (.slice tv ((ah l0_1 tl).f1.f1).length tw))=wU;replace tk:=gk_ hW_ #[.slice A0_0 l0_0.length c0_0,.slice (some tx) l0_1.length c0_1,.slice A0_2 l0_2.length c0_2,.int .i64 a0_3] tk;replace tm:=gk_ hW_ #[.int .i64 ((ah l0_1 tl).f0),.string ((ah l0_1 tl).f1.f0),.slice tv ((ah l0_1 tl).f1.f1).length tw] tm;replace HB:=gb_ hW_ HB;clear hW_;replace tk:=am_ (bf tk.out);replace tm:=am_ (bf tm.out);replace HB:=am_ (au HB.out);refine cN (n:=40) (S:=fun w'=>w'.cell? ⟨tn,0,none⟩=some (.int .i64 ((ah l0_1 tl).f0))∧w'.cell? ⟨tn,1,none⟩=some (.string ((ah l0_1 tl).f1.f0))∧w'.cell? ⟨tn,2,none⟩=some (.slice tv ((ah l0_1 tl).f1.f1).length tw)∧w'.cell? ⟨tq,0,none⟩=some (.slice A0_0 l0_0.length c0_0)∧w'.cell? ⟨tq,1,none⟩=some (.slice (some tx) l0_1.length c0_1)∧w'.cell? ⟨tq,2,none⟩=some (.slice A0_2 l0_2.length c0_2)∧w'.cell? ⟨tq,3,none⟩=some (.int .i64 a0_3)) (ds:=[]) (bm_ 40 0) bT rfl rfl ⟨bc_ tm 0,bc_ tm 1,bc_ tm 2,bc_ tk 0,bc_ tk 1,bc_ tk 2,bc_ tk 3⟩ (fun hHeld=>?_);refine bu aq.tab6 aq.bits6 (fun HT_ HW_=>?_);generalize wU.drew=xd at tk tm HB hHeld ⊢;refine pv_ 0 29 ?_;refine pv_ 2 31 ?_;refine tv_ 1 30 ?_;refine tv_ 3 32 ?_;refine pv_ 4 33 ?_;refine ov_ 5 34 (fun K hK=>?_);refine oD_ Tryz.func64 (be.calls ((ah l0_1 tl).f0) 0 (wrap64 (a0_3 - 1)) false _ uB.out) ?_;intro nd;refine hK.out _ _ ⟨bc_ tm 0,bc_ tm 1,bc_ tm 2,bc_ tk 0,bc_ tk 1,bc_ tk 2,bc_ tk 3⟩ (fun hHeld=>?_);clear hK K;refine nm_ ?_;refine pv_ 6 35 ?_;refine pv_ 7 36 ?_;refine sv_ 8 37 ?_;refine sv_ 9 38 ?_;refine sv_ 10 39 ?_;refine sv_ 11 40 ?_;refine sv_ 12 41 ?_;refine sv_ 13 42 ?_;refine sv_ 14 43 ?_;refine sv_ 15 44 ?_;refine sv_ 16 45 ?_;refine sv_ 17 46 ?_;refine sv_ 18 47 ?_;refine sv_ 19 48 ?_;refine sv_ 20 49 ?_;refine sv_ 21 50 ?_;refine pv_ 22 51 ?_;refine pv_ 23 52 ?_;refine sv_ 24 53 ?_;refine sv_ 25 54 ?_;refine sv_ 26 55 ?_;refine sv_ 27 56 ?_;refine sv_ 28 57 ?_;refine sv_ 29 58 ?_;refine pv_ 30 59 ?_;refine pv_ 31 60 ?_;refine sv_ 32 61 ?_;refine sv_ 33 62 ?_;refine sv_ 34 63 ?_;refine sv_ 35 64 ?_;refine sv_ 36 65 ?_;refine sv_ 37 66 ?_;refine sv_ 38 67 ?_;refine pv_ 39 68 ?_;refine dn_ HT_ ?_;try go_wp2
        go_ret
        exact⟨u1_,bw_ HB⟩
       ·replace H:=ht_ H;have HC_:=am_ H;clear H;have H:=HC_.out;clear HC_;by_cases uq:tl>0
        ·rw[if_pos uq] at H;have tJ:decide (0<tl)=true:=decide_eq_true uq;clear uq;obtain⟨tz,YU⟩:∃j_:Int,(wrap64 (tl - 1))=j_:=⟨_,rfl⟩;replace H:(if 0≤(tz) then(if(tz)<(l0_1.length:Int) then(if((ah l0_1 (tz)).f0)≥((ah l0_1 tl).f0) then(some false) else((bi.f k2 l0_0 ((ah l0_1 tl).f1.f0) ((ah l0_1 tl).f1.f1)).bind fun uh=>(if uh=true then((de.f l0_0 l0_1 l0_2 a0_3 ((ah l0_1 tl).f1.f0)).bind fun ui=>(if ui=tl then(aq.l0 k2 l0_1 (l0_1.length:Int) (wrap64 (tl+1)) l0_0 l0_1 l0_2 a0_3) else(some false))) else(some false)))) else(none)) else(none))=some r:=by first | (rw[YU] at H;exact H)|(simp only[YU] at H ⊢;exact H)
         (try rw[YU] at uB)
         have hji24w:(IntKind.i64.wrap (tl - 1))=tz:=(aC _).trans YU;obtain⟨wk,H⟩:=gd_ H;obtain⟨wl,H⟩:=gd_ H;have HC_:=am_ H;clear H;(first | rw[tJ] | (simp only[aC,aG];rw[tJ]) | skip)
         try go_wp2_with (first | ((with_reducible refine aA (N:=4) rfl ?_);(try (refine bj ct ?_;dsimp only));refine bF ?hg (N:=4) ?hd (cs:=#[.int .i64 0,.string (⟨#[]⟩:ByteArray),.slice none 0 0]) (t:=46) ?hr ?_;(case hd=>rfl);(case hg=>rfl);(case hr=>exact bL);intro tn hg wP hbox hb;have tm:=am_ (hbox);have uj:=gw_ HB hg;replace HB:=bs_ HB hb;have tr:=nl_ tk hg;have tu:=ng_ tk hg;replace tk:=bb_ tk hb;clear hb hbox hg;have wm:=tu.out;have wt:=tr.out;obtain⟨uQ,uR,uS,vv,vw,vx⟩:=dm tm.out))
         generalize hW_:(((wP.setCell ⟨tn,0,none⟩ (.int .i64 ((ah l0_1 tl).f0))).setCell ⟨tn,1,none⟩ (.string ((ah l0_1 tl).f1.f0))).setCell ⟨tn,2,none⟩ (.slice tv ((ah l0_1 tl).f1.f1).length tw))=wQ;replace tk:=gk_ hW_ #[.slice A0_0 l0_0.length c0_0,.slice (some tx) l0_1.length c0_1,.slice A0_2 l0_2.length c0_2,.int .i64 a0_3] tk;replace tm:=gk_ hW_ #[.int .i64 ((ah l0_1 tl).f0),.string ((ah l0_1 tl).f1.f0),.slice tv ((ah l0_1 tl).f1.f1).length tw] tm;replace HB:=gb_ hW_ HB;clear hW_;replace tk:=am_ (bf tk.out);replace tm:=am_ (bf tm.out);replace HB:=am_ (au HB.out);obtain⟨us,uk,um,vJ,tF,tG,tH,tS,tQ⟩:=fB tI.out (tz) od_ od_;have tE:=tH;have tD:=tG;have tC:=tF;obtain rfl:tx=us:=(by injection vJ);replace tF:=cb_ HB tF;replace tG:=cb_ HB tG;replace tH:=cb_ HB tH;have t7:=am_ tQ;have uC:=am_ tS;clear tQ tS;obtain⟨wJ,wL⟩:=pt_ (tz) l0_1.length;refine cN (n:=40) (S:=fun w'=>w'.cell? ⟨tn,0,none⟩=some (.int .i64 ((ah l0_1 tl).f0))∧w'.cell? ⟨tn,1,none⟩=some (.string ((ah l0_1 tl).f1.f0))∧w'.cell? ⟨tn,2,none⟩=some (.slice tv ((ah l0_1 tl).f1.f1).length tw)∧w'.cell? ⟨tq,0,none⟩=some (.slice A0_0 l0_0.length c0_0)∧w'.cell? ⟨tq,1,none⟩=some (.slice (some tx) l0_1.length c0_1)∧w'.cell? ⟨tq,2,none⟩=some (.slice A0_2 l0_2.length c0_2)∧w'.cell? ⟨tq,3,none⟩=some (.int .i64 a0_3)∧w'.cell? (tx.add (((tz)).toNat*3))=some (.int .i64 ((ah l0_1 (tz)).f0))∧w'.cell? ⟨(tx.add (((tz)).toNat*3)).block,(tx.add (((tz)).toNat*3)).off+1,none⟩=some (.string ((ah l0_1 (tz)).f1.f0))∧w'.cell? ⟨(tx.add (((tz)).toNat*3)).block,(tx.add (((tz)).toNat*3)).off+2,none⟩=some (.slice uk ((ah l0_1 (tz)).f1.f1).length um)) (ds:=[]) (bm_ 40 0) bT rfl rfl ⟨bc_ tm 0,bc_ tm 1,bc_ tm 2,bc_ tk 0,bc_ tk 1,bc_ tk 2,bc_ tk 3,(cc_ HB tC),(cc_ HB tD),(cc_ HB tE)⟩ (fun hHeld=>?_);refine bu aq.tab6 aq.bits6 (fun HT_ HW_=>?_);generalize wQ.drew=wX at tk tm HB t7 tF tG tH hHeld ⊢;refine pv_ 0 29 ?_;refine pv_ 2 31 ?_;refine tv_ 1 30 ?_;refine tv_ 3 32 ?_;refine pv_ 4 33 ?_;refine ov_ 5 34 (fun K hK=>?_);refine oD_ Tryz.func64 (be.calls ((ah l0_1 tl).f0) 0 (wrap64 (a0_3 - 1)) true _ uB.out) ?_;intro nd;refine hK.out _ _ ⟨bc_ tm 0,bc_ tm 1,bc_ tm 2,bc_ tk 0,bc_ tk 1,bc_ tk 2,bc_ tk 3,(cc_ HB tC),(cc_ HB tD),(cc_ HB tE)⟩ (fun hHeld=>?_);clear hK K;refine nm_ ?_;refine pv_ 6 35 ?_;refine pv_ 7 36 ?_;refine pv_ 8 37 ?_;refine pv_ 9 38 ?_;refine pv_ 10 39 ?_;refine pv_ 11 40 ?_;refine pv_ 13 42 ?_;refine pv_ 14 43 ?_;refine pv_ 18 47 ?_;refine tv_ 12 41 ?_;refine pv_ 15 44 ?_;refine pv_ 16 45 ?_;refine tv_ 17 46 ?_;refine tv_ 19 48 ?_;refine pv_ 20 49 ?_;refine pv_ 21 50 ?_;refine pv_ 22 51 ?_;refine pv_ 23 52 ?_;have H:=HC_.out;clear HC_;by_cases ur:((ah l0_1 (tz)).f0)≥((ah l0_1 tl).f0)
         ·rw[if_pos ur] at H;have tK:decide (((ah l0_1 tl).f0)≤((ah l0_1 (tz)).f0))=true:=decide_eq_true ur;clear ur;obtain rfl:=si_ H;(first | rw[tK] | (simp only[aC,aG];rw[tK]) | skip)
          refine sv_ 24 53 ?_;refine sv_ 25 54 ?_;refine sv_ 26 55 ?_;refine sv_ 27 56 ?_;refine sv_ 28 57 ?_;refine sv_ 29 58 ?_;refine pv_ 30 59 ?_;refine pv_ 31 60 ?_;refine sv_ 32 61 ?_;refine sv_ 33 62 ?_;refine sv_ 34 63 ?_;refine sv_ 35 64 ?_;refine sv_ 36 65 ?_;refine sv_ 37 66 ?_;refine sv_ 38 67 ?_;refine pv_ 39 68 ?_;refine dn_ HT_ ?_;try go_wp2
          go_ret
          exact⟨u74_,bw_ HB⟩
         ·rw[if_neg ur] at H;have tK:decide (((ah l0_1 tl).f0)≤((ah l0_1 (tz)).f0))=false:=decide_eq_false ur;clear ur;obtain⟨uh,wz,H⟩:=bi_ H;have HC_:=am_ H;clear H;(first | rw[tK] | (simp only[aC,aG];rw[tK]) | skip)
          refine pv_ 24 53 ?_;refine pv_ 26 55 ?_;refine tv_ 25 54 ?_;refine tv_ 27 56 ?_;refine ov_ 28 57 (fun K hK=>?_);refine go_ Tryz.func65 (bi.calls k2 _ _ l0_0 ((ah l0_1 tl).f1.f0) _ _ ((ah l0_1 tl).f1.f1) uh _ ?side1 (kc_ tB HB) tA.out (kc_ tO HB) tN.out wz.out) ?_;(case side1=>exact fQ)
          rintro e wZ ⟨rfl,hb⟩;refine⟨_,rfl,?_⟩;replace tk:=bb_ tk hb;replace tm:=bb_ tm hb;replace HB:=bs_ HB hb;(try clear hb)
          refine hK.out _ _ ⟨bc_ tm 0,bc_ tm 1,bc_ tm 2,bc_ tk 0,bc_ tk 1,bc_ tk 2,bc_ tk 3,(cc_ HB tC),(cc_ HB tD),(cc_ HB tE)⟩ (fun hHeld=>?_);clear hK K;refine nm_ ?_;refine pv_ 29 58 ?_;refine pv_ 30 59 ?_;refine pv_ 31 60 ?_;have H:=HC_.out;clear HC_;cases uh
          ·replace H:=hf_ H;obtain rfl:=si_ H;refine sv_ 32 61 ?_;refine sv_ 33 62 ?_;refine sv_ 34 63 ?_;refine sv_ 35 64 ?_;refine sv_ 36 65 ?_;refine sv_ 37 66 ?_;refine sv_ 38 67 ?_;refine pv_ 39 68 ?_;refine dn_ HT_ ?_;try go_wp2
           go_ret
           exact⟨u74_,bw_ HB⟩
          ·replace H:=ht_ H;obtain⟨ui,wA,H⟩:=bi_ H;have HC_:=am_ H;clear H;refine pv_ 33 62 ?_;refine pv_ 34 63 ?_;refine pv_ 37 66 ?_;refine tv_ 32 61 ?_;refine tv_ 35 64 ?_;refine ov_ 36 65 (fun K hK=>?_);refine oB_ Tryz.func66 (de.calls _ _ l0_0 _ _ l0_1 _ _ l0_2 a0_3 ((ah l0_1 tl).f1.f0) ui _ (kc_ tB HB) tA.out (kc_ tI HB) tW.out (kc_ tZ HB) tX.out wA.out) ?_;intro wY hb;replace tk:=bb_ tk hb;replace tm:=bb_ tm hb;replace HB:=bs_ HB hb;(try clear hb)
           refine hK.out _ _ ⟨bc_ tm 0,bc_ tm 1,bc_ tm 2,bc_ tk 0,bc_ tk 1,bc_ tk 2,bc_ tk 3,(cc_ HB tC),(cc_ HB tD),(cc_ HB tE)⟩ (fun hHeld=>?_);clear hK K;refine nm_ ?_;refine pv_ 38 67 ?_;refine pv_ 39 68 ?_;refine dn_ HT_ ?_;have H:=HC_.out;clear HC_;by_cases ul:ui=tl
           ·rw[if_pos ul] at H;have tL:=cW ul;have uu:=cX ul;clear ul;have H':=am_ H;clear H;(first | rw[tL] | (simp only[aC,aG];rw[tL]) | skip)
            try go_wp2
            go_roundg k2
            case measure=>have:=uD.out;have:=HK2.out;omega
            case rel=>exact⟨(wrap64 (tl+1)),u4_,H',⟨by have:=uD.out;have:=HK2.out;omega⟩,⟨pb_ tk⟩,⟨bw_ HB⟩⟩
           ·rw[if_neg ul] at H;have tL:=cO ul;have uu:=cQ ul;obtain rfl:=si_ H;(first | rw[tL] | (simp only[aC,aG];rw[tL]) | skip)
            try go_wp2
            go_ret
            exact⟨u74_,bw_ HB⟩
        ·rw[if_neg uq] at H;have tJ:decide (0<tl)=false:=decide_eq_false uq;clear uq;obtain⟨uz,wC,H⟩:=bi_ H;have HC_:=am_ H;clear H;(first | rw[tJ] | (simp only[aC,aG];rw[tJ]) | skip)
         try go_wp2_with (first | ((with_reducible refine aA (N:=4) rfl ?_);(try (refine bj ct ?_;dsimp only));refine bF ?hg (N:=4) ?hd (cs:=#[.int .i64 0,.string (⟨#[]⟩:ByteArray),.slice none 0 0]) (t:=46) ?hr ?_;(case hd=>rfl);(case hg=>rfl);(case hr=>exact bL);intro tn hg wR hbox hb;have tm:=am_ (hbox);have uj:=gw_ HB hg;replace HB:=bs_ HB hb;have tr:=nl_ tk hg;have tu:=ng_ tk hg;replace tk:=bb_ tk hb;clear hb hbox hg;have wn:=tu.out;have wu:=tr.out;obtain⟨uT,uU,uV,vy,vz,vA⟩:=dm tm.out))
         generalize hW_:(((wR.setCell ⟨tn,0,none⟩ (.int .i64 ((ah l0_1 tl).f0))).setCell ⟨tn,1,none⟩ (.string ((ah l0_1 tl).f1.f0))).setCell ⟨tn,2,none⟩ (.slice tv ((ah l0_1 tl).f1.f1).length tw))=wS;replace tk:=gk_ hW_ #[.slice A0_0 l0_0.length c0_0,.slice (some tx) l0_1.length c0_1,.slice A0_2 l0_2.length c0_2,.int .i64 a0_3] tk;replace tm:=gk_ hW_ #[.int .i64 ((ah l0_1 tl).f0),.string ((ah l0_1 tl).f1.f0),.slice tv ((ah l0_1 tl).f1.f1).length tw] tm;replace HB:=gb_ hW_ HB;clear hW_;replace tk:=am_ (bf tk.out);replace tm:=am_ (bf tm.out);replace HB:=am_ (au HB.out);refine cN (n:=40) (S:=fun w'=>w'.cell? ⟨tn,0,none⟩=some (.int .i64 ((ah l0_1 tl).f0))∧w'.cell? ⟨tn,1,none⟩=some (.string ((ah l0_1 tl).f1.f0))∧w'.cell? ⟨tn,2,none⟩=some (.slice tv ((ah l0_1 tl).f1.f1).length tw)∧w'.cell? ⟨tq,0,none⟩=some (.slice A0_0 l0_0.length c0_0)∧w'.cell? ⟨tq,1,none⟩=some (.slice (some tx) l0_1.length c0_1)∧w'.cell? ⟨tq,2,none⟩=some (.slice A0_2 l0_2.length c0_2)∧w'.cell? ⟨tq,3,none⟩=some (.int .i64 a0_3)) (ds:=[]) (bm_ 40 0) bT rfl rfl ⟨bc_ tm 0,bc_ tm 1,bc_ tm 2,bc_ tk 0,bc_ tk 1,bc_ tk 2,bc_ tk 3⟩ (fun hHeld=>?_);refine bu aq.tab6 aq.bits6 (fun HT_ HW_=>?_);generalize wS.drew=xb at tk tm HB hHeld ⊢;refine pv_ 0 29 ?_;refine pv_ 2 31 ?_;refine tv_ 1 30 ?_;refine tv_ 3 32 ?_;refine pv_ 4 33 ?_;refine ov_ 5 34 (fun K hK=>?_);refine oD_ Tryz.func64 (be.calls ((ah l0_1 tl).f0) 0 (wrap64 (a0_3 - 1)) true _ uB.out) ?_;intro nd;refine hK.out _ _ ⟨bc_ tm 0,bc_ tm 1,bc_ tm 2,bc_ tk 0,bc_ tk 1,bc_ tk 2,bc_ tk 3⟩ (fun hHeld=>?_);clear hK K;refine nm_ ?_;refine pv_ 6 35 ?_;refine pv_ 7 36 ?_;refine pv_ 8 37 ?_;refine pv_ 9 38 ?_;refine pv_ 10 39 ?_;refine sv_ 11 40 ?_;refine sv_ 12 41 ?_;refine sv_ 13 42 ?_;refine sv_ 14 43 ?_;refine sv_ 15 44 ?_;refine sv_ 16 45 ?_;refine sv_ 17 46 ?_;refine sv_ 18 47 ?_;refine sv_ 19 48 ?_;refine sv_ 20 49 ?_;refine pv_ 21 50 ?_;refine pv_ 22 51 ?_;refine pv_ 23 52 ?_;refine pv_ 24 53 ?_;refine pv_ 26 55 ?_;refine tv_ 25 54 ?_;refine tv_ 27 56 ?_;refine ov_ 28 57 (fun K hK=>?_);refine go_ Tryz.func65 (bi.calls k2 _ _ l0_0 ((ah l0_1 tl).f1.f0) _ _ ((ah l0_1 tl).f1.f1) uz _ ?side1 (kc_ tB HB) tA.out (kc_ tO HB) tN.out wC.out) ?_;(case side1=>exact fQ)
         rintro e xc ⟨rfl,hb⟩;refine⟨_,rfl,?_⟩;replace tk:=bb_ tk hb;replace tm:=bb_ tm hb;replace HB:=bs_ HB hb;(try clear hb)
         refine hK.out _ _ ⟨bc_ tm 0,bc_ tm 1,bc_ tm 2,bc_ tk 0,bc_ tk 1,bc_ tk 2,bc_ tk 3⟩ (fun hHeld=>?_);clear hK K;refine nm_ ?_;refine pv_ 29 58 ?_;refine pv_ 30 59 ?_;refine pv_ 31 60 ?_;have H:=HC_.out;clear HC_;cases uz
         ·replace H:=hf_ H;obtain rfl:=si_ H;refine sv_ 32 61 ?_;refine sv_ 33 62 ?_;refine sv_ 34 63 ?_;refine sv_ 35 64 ?_;refine sv_ 36 65 ?_;refine sv_ 37 66 ?_;refine sv_ 38 67 ?_;refine pv_ 39 68 ?_;refine dn_ HT_ ?_;try go_wp2
          go_ret
          exact⟨u1_,bw_ HB⟩
         ·replace H:=ht_ H;obtain⟨uA,wD,H⟩:=bi_ H;have HC_:=am_ H;clear H;refine pv_ 33 62 ?_;refine pv_ 34 63 ?_;refine pv_ 37 66 ?_;refine tv_ 32 61 ?_;refine tv_ 35 64 ?_;refine ov_ 36 65 (fun K hK=>?_);refine oB_ Tryz.func66 (de.calls _ _ l0_0 _ _ l0_1 _ _ l0_2 a0_3 ((ah l0_1 tl).f1.f0) uA _ (kc_ tB HB) tA.out (kc_ tI HB) tW.out (kc_ tZ HB) tX.out wD.out) ?_;intro xa hb;replace tk:=bb_ tk hb;replace tm:=bb_ tm hb;replace HB:=bs_ HB hb;(try clear hb)
          refine hK.out _ _ ⟨bc_ tm 0,bc_ tm 1,bc_ tm 2,bc_ tk 0,bc_ tk 1,bc_ tk 2,bc_ tk 3⟩ (fun hHeld=>?_);clear hK K;refine nm_ ?_;refine pv_ 38 67 ?_;refine pv_ 39 68 ?_;refine dn_ HT_ ?_;have H:=HC_.out;clear HC_;by_cases un:uA=tl
          ·rw[if_pos un] at H;have tM:=cW un;have uv:=cX un;clear un;have H':=am_ H;clear H;(first | rw[tM] | (simp only[aC,aG];rw[tM]) | skip)
           try go_wp2
           go_roundg k2
           case measure=>have:=uD.out;have:=HK2.out;omega
           case rel=>exact⟨(wrap64 (tl+1)),u4_,H',⟨by have:=uD.out;have:=HK2.out;omega⟩,⟨pb_ tk⟩,⟨bw_ HB⟩⟩
          ·rw[if_neg un] at H;have tM:=cO un;have uv:=cQ un;obtain rfl:=si_ H;(first | rw[tM] | (simp only[aC,aG];rw[tM]) | skip)
           try go_wp2
           go_ret
           exact⟨u1_,bw_ HB⟩
      ·rw[if_neg uo] at H;have ut:=decide_eq_false uo;clear uo;obtain⟨uy,wE,H⟩:=bi_ H;obtain⟨we,wF,H⟩:=bi_ H;obtain rfl:=si_ H;try go_wp2
       replace tk:=am_ (bf tk.out);replace HB:=am_ (au HB.out);refine cN (n:=9) (S:=fun w'=>w'.cell? ⟨tq,0,none⟩=some (.slice A0_0 l0_0.length c0_0)∧w'.cell? ⟨tq,1,none⟩=some (.slice A0_1 l0_1.length c0_1)∧w'.cell? ⟨tq,2,none⟩=some (.slice A0_2 l0_2.length c0_2)∧w'.cell? ⟨tq,3,none⟩=some (.int .i64 a0_3)) (ds:=[]) (bm_ 9 0) bT rfl rfl ⟨bc_ tk 0,bc_ tk 1,bc_ tk 2,bc_ tk 3⟩ (fun hHeld=>?_);refine bu aq.tab9 aq.bits9 (fun HT_ HW_=>?_);generalize wr.drew=xe at tk HB hHeld ⊢;refine pv_ 0 70 ?_;refine pv_ 2 72 ?_;refine pv_ 4 74 ?_;refine tv_ 1 71 ?_;refine tv_ 3 73 ?_;refine tv_ 5 75 ?_;refine ov_ 6 76 (fun K hK=>?_);refine go_ Tryz.func68 (dO.calls k2 _ _ l0_0 _ _ l0_1 uy _ ?side1 (kc_ tB HB) tA.out (kc_ tI HB) tW.out wE.out) ?_;(case side1=>exact fQ)
       rintro e xf ⟨wO,rfl,ho0,hb⟩;refine⟨_,rfl,?_⟩;have tY:=am_ (Kd.R_lower ho0 (ar (bw_ HB)));replace tk:=bb_ tk hb;replace HB:=bs_ HB hb;(try clear hb)
       (try clear ho0)
       obtain⟨wG,wH,uw⟩:=Kd.R_slice tY.out;(first | subst uw | (injection uw with f1_ f2_ f3_;have f4_:=f1_.symm;have f5_:=f3_.symm;clear f1_ f2_ f3_;subst f4_;subst f5_))
       refine hK.out _ _ ⟨bc_ tk 0,bc_ tk 1,bc_ tk 2,bc_ tk 3⟩ (fun hHeld=>?_);clear hK K;refine nm_ ?_;refine ov_ 7 77 (fun K hK=>?_);refine go_ Tryz.func67 (cT.calls k2 _ _ l0_2 _ _ uy we _ (kc_ tZ HB) tX.out (kR_ tY) ?side4 wF.out) ?_;(case side4=>exact(Kd.R_reads' tY.out).2.1)
       rintro e xg ⟨rfl,hb⟩;refine⟨_,rfl,?_⟩;replace tk:=bb_ tk hb;replace HB:=bs_ HB hb;(try clear hb)
       refine hK.out _ _ ⟨bc_ tk 0,bc_ tk 1,bc_ tk 2,bc_ tk 3⟩ (fun hHeld=>?_);clear hK K;refine nm_ ?_;refine pv_ 8 2 ?_;refine dn_ HT_ ?_;try go_wp2
       go_ret
       exact⟨u1_,bw_ HB⟩
   ·replace H:=ht_ H;obtain rfl:=si_ H;go_wp2;go_ret
    exact⟨u1_,bw_ HB⟩
def stringslite_HasPrefix.f (a0:ByteArray) (a1:ByteArray):Option (Bool):=if(a0.size:Int)≥(a1.size:Int) then(if 0≤(a1.size:Int) then(if(a1.size:Int)≤(a0.size:Int) then(some ((a0.extract 0 ((a1.size:Int):Int).toNat).toList == a1.toList)) else(none)) else(none)) else(some false)
theorem stringslite_HasPrefix.calls (a0:ByteArray) (a1:ByteArray) (r:Bool) (w:World) (h:stringslite_HasPrefix.f a0 a1=some r) :
  Calls Tryz.prog 89 #[.string a0,.string a1] w fun e w'=>e = .returned (.bool r)∧Drawn0 w w':=by
 have H:=h;clear h;unfold stringslite_HasPrefix.f at H
 by_cases c3:(a0.size:Int)≥(a1.size:Int)
 ·rw[if_pos c3] at H;have tk:decide ((a1.size:Int)≤(a0.size:Int))=true:=decide_eq_true c3;have tl:decide (a1.size≤a0.size)=true:=decide_eq_true (Int.ofNat_le.mp c3);clear c3;obtain⟨tm,tn,H⟩:=ge_ H;obtain⟨tq,tr,H⟩:=ge_ H;obtain rfl:=si_ H;go_enter Tryz.func89,Tryz.ntmps89
  go_wp2;go_ret
  exact⟨u9_,u7_⟩
 ·rw[if_neg c3] at H;have tk:decide ((a1.size:Int)≤(a0.size:Int))=false:=decide_eq_false c3;have tl:decide (a1.size≤a0.size)=false:=decide_eq_false (fun h=>c3 (Int.ofNat_le.mpr h));clear c3;obtain rfl:=si_ H;go_enter Tryz.func89,Tryz.ntmps89
  go_wp2;go_ret
  exact⟨u9_,u7_⟩
def cU.f (a0:ByteArray) (a1:ByteArray):Option (Bool):=(stringslite_HasPrefix.f a0 a1).bind fun tk=>(some tk)
theorem cU.calls (a0:ByteArray) (a1:ByteArray) (r:Bool) (w:World) (h:cU.f a0 a1=some r) :
  Calls Tryz.prog 43 #[.string a0,.string a1] w fun e w'=>e = .returned (.bool r)∧Drawn0 w w':=by
 have H:=h;clear h;unfold cU.f at H
 obtain⟨tk,A3,H⟩:=bi_ H;obtain rfl:=si_ H;go_enter Tryz.func43,Tryz.ntmps43
 go_wp2_with (first | ((with_reducible refine gt_ 7 ?_);refine gD_ 7 Tryz.func89 (stringslite_HasPrefix.calls a0 a1 tk _ A3.out) ?_;intro nd))
 go_ret
 exact⟨u9_,u7_⟩
def ba.l0:Nat→ByteArray→ByteArray→List ByteArray→List (S76)→Int→Int→Option (List ByteArray)
 | 0,_,_,_,_,_,_=>none
 | k+1,x1,x2,x7,tl,tm,tk=>if tk<tm then(if 0≤tk then(if tk<(tl.length:Int) then(if((aj tl tk).f0).toList=x1.toList then((cU.f ((aj tl tk).f1) x2).bind fun tn=>(if tn=true then(if x7.length<8796093022208 then(ba.l0 k x1 x2 (x7 ++ [(aj tl tk).f1]) tl tm (wrap64 (tk+1))) else(none)) else(ba.l0 k x1 x2 x7 tl tm (wrap64 (tk+1))))) else(ba.l0 k x1 x2 x7 tl tm (wrap64 (tk+1)))) else(none)) else(none)) else(some x7)
def ba.f (k:Nat) (l0_0:List (S92)) (l0_1:List (S46)) (l0_2:List (S76)) (a0_3:Int) (a1:ByteArray) (a2:ByteArray):Option (List ByteArray):=(some (([] : List ByteArray):List ByteArray)).bind fun tk=>((aq.f k l0_0 l0_1 l0_2 a0_3).bind fun tl=>(if tl=true then(ba.l0 k a1 a2 tk l0_2 (l0_2.length:Int) 0) else(some tk)))
theorem ba.calls (k:Nat) (A0_0:Option Addr) (c0_0:Nat) (l0_0:List (S92)) (A0_1:Option Addr) (c0_1:Nat) (l0_1:List (S46)) (A0_2:Option Addr) (c0_2:Nat) (l0_2:List (S76)) (a0_3:Int) (a1:ByteArray) (a2:ByteArray) (r:List ByteArray) (w:World) (hG:StopsIn w) (hr0_0:Kd.C k92 w A0_0 l0_0.length l0_0) (hc0_0:l0_0.length≤c0_0) (hr0_1:Kd.C k46 w A0_1 l0_1.length l0_1) (hc0_1:l0_1.length≤c0_1) (hr0_2:Kd.C k76 w A0_2 l0_2.length l0_2) (hc0_2:l0_2.length≤c0_2) (h:ba.f k l0_0 l0_1 l0_2 a0_3 a1 a2=some r) :
  Calls Tryz.prog 10 #[.agg #[.slice A0_0 l0_0.length c0_0,.slice A0_1 l0_1.length c0_1,.slice A0_2 l0_2.length c0_2,.int .i64 a0_3],.string a1,.string a2] w fun e w'=>∃v0_:Value,e = .returned (v0_)∧Kd.R Kd.string 9 w' w.heap.size (fun _=>True) v0_ r∧Below w.heap.size w w':=by
 have hu27:=Tryz.underlying27;have hu76:=Tryz.underlying76;have HG_:=am_ hG;clear hG;have tQ:=am_ hr0_0;have tN:=am_ hc0_0;clear hr0_0 hc0_0;have tR:=am_ hr0_1;have tO:=am_ hc0_1;clear hr0_1 hc0_1;have tC:=am_ hr0_2;have tP:=am_ hc0_2;clear hr0_2 hc0_2;have HB:=am_ (Below.refl w.heap.size w);have H:=h;clear h;unfold ba.f at H
 obtain⟨ua,tr⟩:∃y_:List ByteArray,y_=(([] : List ByteArray)):=⟨_,rfl⟩;replace H:((aq.f k l0_0 l0_1 l0_2 a0_3).bind fun t8=>(if t8=true then(ba.l0 k a1 a2 ua l0_2 (l0_2.length:Int) 0) else(some ua)))=some r:=by first | (rw[tr];with_reducible exact H)|(have H2_:=(Option.bind_some _ _).symm.trans H;rw[tr];with_reducible exact H2_)|(have H2_:=(Option.bind_some _ _).symm.trans H;with_reducible exact H2_) | with_reducible exact H | (rw[tr];exact H) | exact H
 have tv:=am_ tr;clear tr;obtain⟨t8,A4,H⟩:=bi_ H;cases t8
 ·replace H:=hf_ H;obtain rfl:=si_ H;go_enter Tryz.func10,Tryz.ntmps10
  go_wp2_with (first | ((with_reducible refine gt_ 3 ?_);refine bx_ 3 #[.slice A0_0 l0_0.length c0_0,.slice A0_1 l0_1.length c0_1,.slice A0_2 l0_2.length c0_2,.int .i64 a0_3] 27 ?_;intro tD hg vq hbox hb;have tk:=am_ (hbox);have uc:=gw_ HB hg;replace HB:=bs_ HB hb;clear hb hbox hg)|((with_reducible refine aA (N:=10) rfl ?_);refine Kd.R_lit Kd.string _ 9 ?hg (N:=10) ?hd (xs:=([] : List ByteArray)) (inner:=[]) (ok:=fun _=>True) (okp:=fun _=>True) ?hr ?hp (fun _ hk=>hk) trivial (Below.refl _ _) (Nat.le_refl _) bb ?_;(case hd=>rfl);(case hg=>rfl);(case hr=>exact bL);(case hp=>exact fj);intro uO vr ho31 hb hg_ hnew_;clear hg_ hnew_;(first | rw[← tv.out] at ho31 | (simp only[Int.reduceToNat] at ho31;rw[← tv.out] at ho31));have tn:=am_ (Kd.R_lower ho31 (ar (bw_ HB)));replace tk:=bb_ tk hb;replace HB:=bs_ HB hb;clear hb ho31;obtain⟨uv,uw,ux,uy,uI,uJ,uK,uL⟩:=dx tk.out)|((with_reducible refine gt_ 12 ?_);refine gB_ 12 Tryz.func25 (aq.calls k _ _ l0_0 _ _ l0_1 _ _ l0_2 a0_3 false _ ?side1 (kc_ tQ HB) tN.out (kc_ tR HB) tO.out (kc_ tC HB) tP.out A4.out) ?_;(case side1=>exact fQ);intro vu hb;replace tn:=am_ (Kd.R_below (aR_ tn.out) hb);replace HB:=bs_ HB hb;(try clear hb)))
  go_ret
  exact⟨_,u1_,aR_ tn.out,bw_ HB⟩
 ·replace H:=ht_ H;have H':=am_ H;clear H;go_enter Tryz.func10,Tryz.ntmps10
  go_wp2_with (first | ((with_reducible refine gt_ 3 ?_);refine bx_ 3 #[.slice A0_0 l0_0.length c0_0,.slice A0_1 l0_1.length c0_1,.slice A0_2 l0_2.length c0_2,.int .i64 a0_3] 27 ?_;intro tD hg w6 hbox hb;have tk:=am_ (hbox);have uc:=gw_ HB hg;replace HB:=bs_ HB hb;clear hb hbox hg)|((with_reducible refine aA (N:=10) rfl ?_);refine Kd.R_lit Kd.string _ 9 ?hg (N:=10) ?hd (xs:=([] : List ByteArray)) (inner:=[]) (ok:=fun _=>True) (okp:=fun _=>True) ?hr ?hp (fun _ hk=>hk) trivial (Below.refl _ _) (Nat.le_refl _) bb ?_;(case hd=>rfl);(case hg=>rfl);(case hr=>exact bL);(case hp=>exact fj);intro uO w7 ho8 hb hg_ hnew_;clear hg_ hnew_;(first | rw[← tv.out] at ho8 | (simp only[Int.reduceToNat] at ho8;rw[← tv.out] at ho8));have tn:=am_ (Kd.R_lower ho8 (ar (bw_ HB)));replace tk:=bb_ tk hb;replace HB:=bs_ HB hb;clear hb ho8;obtain⟨tU,tV,tW,tX,tY,tZ,t6,t7⟩:=dx tk.out)|((with_reducible refine gt_ 12 ?_);refine gB_ 12 Tryz.func25 (aq.calls k _ _ l0_0 _ _ l0_1 _ _ l0_2 a0_3 true _ ?side1 (kc_ tQ HB) tN.out (kc_ tR HB) tO.out (kc_ tC HB) tP.out A4.out) ?_;(case side1=>exact fQ);intro vl hb;replace tn:=am_ (Kd.R_below (aR_ tn.out) hb);replace tk:=bb_ tk hb;replace HB:=bs_ HB hb;(try clear hb);obtain⟨tE,tF,tG,tH,tI,tJ,tK,tL⟩:=dx tk.out))
  go_loopg [7,18] k (fun kq v7 u9 w'=>∃(tu:List ByteArray) (ZA:Int),u9 = .int .i64 ZA∧aa (ba.l0 kq a1 a2 tu l0_2 (l0_2.length:Int) ZA=some r)∧aa (kq≤k)∧aa (Kd.R Kd.string 9 w' w.heap.size (fun _=>True) v7 tu)∧aa (w'.heap[tD]? = some (.cells #[(.slice A0_0 l0_0.length c0_0),(.slice A0_1 l0_1.length c0_1),(.slice A0_2 l0_2.length c0_2),.int .i64 a0_3] 27 (0,0)))∧aa (Below w.heap.size w w'))
  case atStart=>exact⟨(ua),(0),u4_,H',⟨Nat.le_refl _⟩,⟨aR_ tn.out⟩,⟨pb_ tk⟩,⟨bw_ HB⟩⟩
  case round=>
   clear H';try clear tE tF tG tH tI tJ tK tL
   try clear tU tV tW tX tY tZ t6 t7
   obtain⟨tu,ZA,rfl,HA,HK1,Z5,tk,HB⟩:=hrel;cases gk with
   | zero=>exact absurd HA.out (by simp[ba.l0])
   | succ k1=>
    have H:=HA.out;clear HA;simp only[ba.l0] at H;by_cases ub:ZA<(l0_2.length:Int)
    ·rw[if_pos ub] at H;have uh:=decide_eq_true ub;clear ub;obtain⟨uR,H⟩:=gd_ H;obtain⟨uS,H⟩:=gd_ H;have HC_:=am_ H;clear H;obtain⟨ug,YC,YB,uM,tz,tA,tB,tx,tw⟩:=eB tC.out ZA od_ od_;cases uM;replace tz:=cb_ HB tz;replace tA:=cb_ HB tA;replace tB:=cb_ HB tB;have uk:=am_ tw;have uj:=am_ tx;clear tw tx;obtain⟨uZ,u6⟩:=pt_ ZA l0_2.length;have H:=HC_.out;clear HC_;by_cases tT:((aj l0_2 ZA).f0).toList=a1.toList
     ·rw[if_pos tT] at H;have tq:=cW tT;have ui:=cX tT;clear tT;obtain⟨uN,uQ,H⟩:=bi_ H;have HC_:=am_ H;clear H;(first | rw[tq] | (simp only[aC,aG];rw[tq]) | skip)
      have H:=HC_.out;clear HC_;cases uN
      ·replace H:=hf_ H;have H':=am_ H;clear H;go_wp2_with (first | ((with_reducible refine gt_ 9 ?_);refine bx_ 9 #[.string (⟨#[]⟩:ByteArray),.string (⟨#[]⟩:ByteArray),.slice none 0 0] 76 ?_;intro YX hg vo hbox hb;replace Z5:=am_ (Kd.R_below (aR_ Z5.out) hb);have Y8:=am_ (hbox);have tM:=gw_ HB hg;replace HB:=bs_ HB hb;have tl:=nl_ tk hg;have tm:=ng_ tk hg;replace tk:=bb_ tk hb;clear hb hbox hg;have uU:=tm.out;have uX:=tl.out;obtain⟨uo,uq,ur,uC,uD,uE⟩:=dm Y8.out)|(go_at_call 43;(with_reducible refine(cU.calls ((aj l0_2 ZA).f1) a2 false _ uQ.out).mono ?_);rintro e w' ⟨rfl,⟨nd,rfl⟩⟩))
       go_roundg k1
       case measure=>have:=HK1.out;omega
       case rel=>exact⟨(tu),(wrap64 (ZA+1)),u4_,H',⟨dH⟩,⟨ss⟩,⟨pb_ tk⟩,⟨bw_ HB⟩⟩
      ·replace H:=ht_ H;obtain⟨ue,H⟩:=gl_ H;generalize tS:((tu ++ [(aj l0_2 ZA).f1]):List ByteArray)=uP at H;have uf:=am_ tS.symm;clear tS;have H':=am_ H;clear H;go_wp2_with (first | ((with_reducible refine gt_ 9 ?_);refine bx_ 9 #[.string (⟨#[]⟩:ByteArray),.string (⟨#[]⟩:ByteArray),.slice none 0 0] 76 ?_;intro YX hg vm hbox hb;replace Z5:=am_ (Kd.R_below (aR_ Z5.out) hb);have Y8:=am_ (hbox);have tM:=gw_ HB hg;replace HB:=bs_ HB hb;have tl:=nl_ tk hg;have tm:=ng_ tk hg;replace tk:=bb_ tk hb;clear hb hbox hg;have uT:=tm.out;have uW:=tl.out;obtain⟨ul,um,un,uz,uA,uB⟩:=dm Y8.out)|(go_at_call 43;(with_reducible refine(cU.calls ((aj l0_2 ZA).f1) a2 true _ uQ.out).mono ?_);rintro e w' ⟨rfl,⟨nd,rfl⟩⟩)|((with_reducible refine aY (b:=.append) (xs:=#[.tmp 32,.tmp 35]) rfl ?_);at_builtin;refine Kd.R_append Kd.string (w0:=w) w.heap.size rfl (.tmp 32) (.tmp 35) 30 9 (.string ⟨#[]⟩) 16 rfl Tryz.underlying30 eE rfl ap aw u7 tu ((aj l0_2 ZA).f1) [.string ((aj l0_2 ZA).f1)] (fun _=>True) (fun _=>False) rfl qI ?aP (fun _ hk=>hk.elim) ?aF ?aO ?aB ?aS ?aL ?_;(case aP=>exact rfl);(case aB=>exact fi);(case aF=>exact gU);(case aO=>exact ss);(case aS=>exact fh);(case aL=>have:=ue.out;omega);intro vk vn ho hb hg hat;rw[← uf.out] at ho;replace tk:=am_ (bP (g:=tD) (o:=.cells #[.slice A0_0 l0_0.length c0_0,.slice A0_1 l0_1.length c0_1,.slice (some ug) l0_2.length c0_2,.int .i64 a0_3] 27 (0,0)) (pb_ tk) hg (Kd.R_ne Z5.out tk.out ap));replace HB:=am_ (hb);have ud:=am_ (ho);clear Z5 ho hb hg hat))
       go_roundg k1
       case measure=>have:=HK1.out;omega
       case rel=>exact⟨(uP),(wrap64 (ZA+1)),u4_,H',⟨dH⟩,⟨aR_ ud.out⟩,⟨pb_ tk⟩,⟨bw_ HB⟩⟩
     ·rw[if_neg tT] at H;have tq:=cO tT;have ui:=cQ tT;have H':=am_ H;clear H;(first | rw[tq] | (simp only[aC,aG];rw[tq]) | skip)
      go_wp2_with (first | ((with_reducible refine gt_ 9 ?_);refine bx_ 9 #[.string (⟨#[]⟩:ByteArray),.string (⟨#[]⟩:ByteArray),.slice none 0 0] 76 ?_;intro YX hg vp hbox hb;replace Z5:=am_ (Kd.R_below (aR_ Z5.out) hb);have Y8:=am_ (hbox);have tM:=gw_ HB hg;replace HB:=bs_ HB hb;have tl:=nl_ tk hg;have tm:=ng_ tk hg;replace tk:=bb_ tk hb;clear hb hbox hg;have uV:=tm.out;have uY:=tl.out;obtain⟨us,ut,uu,uF,uG,uH⟩:=dm Y8.out))
      go_roundg k1
      case measure=>have:=HK1.out;omega
      case rel=>exact⟨(tu),(wrap64 (ZA+1)),u4_,H',⟨dH⟩,⟨ss⟩,⟨pb_ tk⟩,⟨bw_ HB⟩⟩
    ·rw[if_neg ub] at H;have uh:=decide_eq_false ub;clear ub;obtain rfl:=si_ H;go_wp2;go_ret
     exact⟨_,u1_,aR_ Z5.out,bw_ HB⟩
def bY.l0:Nat→List ByteArray→List ByteArray→Int→Option (Bool)
 | 0,_,_,_=>none
 | k+1,x0,x1,x5=>if x5<(x0.length:Int) then(if 0≤x5 then(if x5<(x1.length:Int) then(if(bC ByteArray.empty x0 x5).toList=(bC ByteArray.empty x1 x5).toList then(bY.l0 k x0 x1 (wrap64 (x5+1))) else(some false)) else(none)) else(none)) else(some true)
def bY.f (k:Nat) (l0:List ByteArray) (l1:List ByteArray):Option (Bool):=if(l0.length:Int)=(l1.length:Int) then(bY.l0 k l0 l1 0) else(some false)
theorem bY.calls (k:Nat) (A0:Option Addr) (c0:Nat) (l0:List ByteArray) (A1:Option Addr) (c1:Nat) (l1:List ByteArray) (r:Bool) (w:World) (hr0:Kd.C Kd.string w A0 l0.length l0) (hc0:l0.length≤c0) (hr1:Kd.C Kd.string w A1 l1.length l1) (hc1:l1.length≤c1) (h:bY.f k l0 l1=some r) :
  Calls Tryz.prog 11 #[.slice A0 l0.length c0,.slice A1 l1.length c1] w fun e w'=>e = .returned (.bool r)∧Drawn0 w w':=by
 have ZD:=am_ hr0;have tI:=am_ hc0;clear hr0 hc0;have Zc:=am_ hr1;have tJ:=am_ hc1;clear hr1 hc1;have H:=h;clear h;unfold bY.f at H
 by_cases c3:(l0.length:Int)=(l1.length:Int)
 ·rw[if_pos c3] at H;have tm:=cW c3;have tn:=cX c3;have tq:(l0.length == l1.length)=true:=by first | simpa using c3 | (simp at c3 ⊢;omega)
  clear c3;have H':=am_ H;clear H;go_enter Tryz.func11,Tryz.ntmps11
  go_wp2;repeat (go_quiet (fail);try go_wp2)
  go_loopg [5] k (fun kq v5 w'=>∃(tk:Int),v5 = .int .i64 tk∧aa (bY.l0 kq l0 l1 tk=some r)∧aa (kq≤k)∧Drawn0 w w')
  case atStart=>exact⟨(0),u4_,H',⟨Nat.le_refl _⟩,u7_⟩
  case round=>
   clear H';try clear c1
   try clear c3
   try clear tm
   try clear tn
   try clear tq
   obtain⟨tk,rfl,HA,HK1,⟨m1,rfl⟩⟩:=hrel;cases gk with
   | zero=>exact absurd HA.out (by simp[bY.l0])
   | succ k1=>
    have H:=HA.out;clear HA;simp only[bY.l0] at H;by_cases c4:tk<(l0.length:Int)
    ·rw[if_pos c4] at H;have tv:=decide_eq_true c4;clear c4;obtain⟨tC,H⟩:=gd_ H;obtain⟨tD,H⟩:=gd_ H;have HC_:=am_ H;clear H;obtain⟨tA,tx,tr⟩:=Kd.at_string ZD.out tk od_ od_;cases tx;obtain⟨tE,tG⟩:=pt_ tk l0.length;obtain⟨tB,tz,tu⟩:=Kd.at_string Zc.out tk od_ od_;cases tz;obtain⟨tF,tH⟩:=pt_ tk l1.length;have H:=HC_.out;clear HC_;by_cases c7:(bC ByteArray.empty l0 tk).toList=(bC ByteArray.empty l1 tk).toList
     ·rw[if_pos c7] at H;have tl:=cW c7;have tw:=cX c7;clear c7;have H':=am_ H;clear H;(first | rw[tl] | (simp only[aC,aG];rw[tl]) | skip)
      go_wp2;repeat (go_quiet (fail);try go_wp2)
      go_roundg k1
      case measure=>have:=HK1.out;omega
      case rel=>exact⟨(wrap64 (tk+1)),u4_,H',⟨dH⟩,u7_⟩
     ·rw[if_neg c7] at H;have tl:=cO c7;have tw:=cQ c7;obtain rfl:=si_ H;(first | rw[tl] | (simp only[aC,aG];rw[tl]) | skip)
      go_wp2;repeat (go_quiet (fail);try go_wp2)
      go_ret
      exact⟨u9_,u7_⟩
    ·rw[if_neg c4] at H;have tv:=decide_eq_false c4;clear c4;obtain rfl:=si_ H;go_wp2;repeat (go_quiet (fail);try go_wp2)
     go_ret
     exact⟨u9_,u7_⟩
 ·rw[if_neg c3] at H;have tm:=cO c3;have tn:=cQ c3;have tq:(l0.length == l1.length)=false:=by first | simpa using c3 | (simp at c3 ⊢;omega)
  obtain rfl:=si_ H;go_enter Tryz.func11,Tryz.ntmps11
  go_wp2;repeat (go_quiet (fail);try go_wp2)
  go_ret
  exact⟨u9_,u7_⟩
def ck.f (a0:Int) (a1:Int) (a2:Int):Option (Bool):=if a0≥a1 then(some (decide (a0≤a2))) else(some false)
theorem ck.calls (a0:Int) (a1:Int) (a2:Int) (r:Bool) (w:World) (h:ck.f a0 a1 a2=some r) :
  Calls Tryz.prog 52 #[.int .i64 a0,.int .i64 a1,.int .i64 a2] w fun e w'=>e = .returned (.bool r)∧Drawn0 w w':=by
 have H:=h;clear h;unfold ck.f at H
 by_cases c4:a0≥a1
 ·rw[if_pos c4] at H;have tk:decide (a1≤a0)=true:=decide_eq_true c4;clear c4;obtain rfl:=si_ H;go_enter Tryz.func52,Tryz.ntmps52
  go_wp2;go_ret
  exact⟨u9_,u7_⟩
 ·rw[if_neg c4] at H;have tk:decide (a1≤a0)=false:=decide_eq_false c4;clear c4;obtain rfl:=si_ H;go_enter Tryz.func52,Tryz.ntmps52
  go_wp2;go_ret
  exact⟨u9_,u7_⟩
def a6.l0:Nat→ByteArray→Int→Option (Bool)
 | 0,_,_=>none
 | k+1,x0,x3=>if x3<(x0.size:Int) then(if 0≤x3 then(if(bt x0 x3)≥97 then(if((bt x0 x3)≤122) then(a6.l0 k x0 (wrap64 (x3+1))) else(if x3=0 then(some false) else(if(bt x0 x3)<48 then(some false) else(if(bt x0 x3)>57 then(some false) else(a6.l0 k x0 (wrap64 (x3+1))))))) else(if x3=0 then(some false) else(if(bt x0 x3)<48 then(some false) else(if(bt x0 x3)>57 then(some false) else(a6.l0 k x0 (wrap64 (x3+1))))))) else(none)) else((ck.f (x0.size:Int) 1 8).bind fun tk=>(some tk))
def a6.f (k:Nat) (a0:ByteArray):Option (Bool):=a6.l0 k a0 0
theorem a6.calls (k:Nat) (a0:ByteArray) (r:Bool) (w:World) (h:a6.f k a0=some r) :
  Calls Tryz.prog 99 #[.string a0] w fun e w'=>e = .returned (.bool r)∧Drawn0 w w':=by
 have H:=h;clear h;unfold a6.f at H
 have H':=am_ H;clear H;go_enter Tryz.func99,Tryz.ntmps99
 go_wp2;go_loopg [3] k (fun kq v3 w'=>∃(tk:Int),v3 = .int .i64 tk∧aa (a6.l0 kq a0 tk=some r)∧aa (kq≤k)∧Drawn0 w w')
 case atStart=>exact⟨(0),u4_,H',⟨Nat.le_refl _⟩,u7_⟩
 case round=>
  clear H';obtain⟨tk,rfl,HA,HK1,⟨m1,rfl⟩⟩:=hrel;cases gk with
  | zero=>exact absurd HA.out (by simp[a6.l0])
  | succ k1=>
   have H:=HA.out;clear HA;simp only[a6.l0] at H;by_cases c2:tk<(a0.size:Int)
   ·rw[if_pos c2] at H;have tD:=decide_eq_true c2;clear c2;obtain⟨tN,H⟩:=gd_ H;have HC_:=am_ H;clear H;obtain⟨p4,q4⟩:=pq_ tk a0.size;have tR:=d8 a0 tk;obtain⟨p4,q4⟩:=tt_ p4 q4;have H:=HC_.out;clear HC_;by_cases c5:(bt a0 tk)≥97
    ·rw[if_pos c5] at H;have tu:decide (97≤(bt a0 tk))=true:=decide_eq_true c5;clear c5;have HC_:=am_ H;clear H;(first | rw[tu] | (simp only[aC,aG];rw[tu]) | skip)
     obtain⟨p6,q6⟩:=pq_ tk a0.size;have tS:=d8 a0 tk;obtain⟨p6,q6⟩:=tt_ p6 q6;have H:=HC_.out;clear HC_;by_cases c7:((bt a0 tk)≤122)
     ·rw[if_pos c7] at H;have tv:decide ((bt a0 tk)≤122)=true:=decide_eq_true c7;clear c7;have H':=am_ H;clear H;(first | rw[tv] | (simp only[aC,aG];rw[tv]) | skip)
      go_wp2;go_roundg k1
      case measure=>have:=HK1.out;omega
      case rel=>exact⟨(wrap64 (tk+1)),u4_,H',⟨dH⟩,u7_⟩
     ·rw[if_neg c7] at H;have tv:decide ((bt a0 tk)≤122)=false:=decide_eq_false c7;clear c7;have HC_:=am_ H;clear H;(first | rw[tv] | (simp only[aC,aG];rw[tv]) | skip)
      have H:=HC_.out;clear HC_;by_cases c8:tk=0
      ·rw[if_pos c8] at H;have tw:=cW c8;have tE:=cX c8;clear c8;obtain rfl:=si_ H;(first | rw[tw] | (simp only[aC,aG];rw[tw]) | skip)
       go_wp2;go_ret
       exact⟨u9_,u7_⟩
      ·rw[if_neg c8] at H;have tw:=cO c8;have tE:=cQ c8;have HC_:=am_ H;clear H;(first | rw[tw] | (simp only[aC,aG];rw[tw]) | skip)
       obtain⟨p9,q9⟩:=pq_ tk a0.size;have tT:=d8 a0 tk;obtain⟨p9,q9⟩:=tt_ p9 q9;have H:=HC_.out;clear HC_;by_cases c10:(bt a0 tk)<48
       ·rw[if_pos c10] at H;have tl:=decide_eq_true c10;clear c10;obtain rfl:=si_ H;(first | rw[tl] | (simp only[aC,aG];rw[tl]) | skip)
        go_wp2;go_ret
        exact⟨u9_,u7_⟩
       ·rw[if_neg c10] at H;have tl:=decide_eq_false c10;clear c10;have HC_:=am_ H;clear H;(first | rw[tl] | (simp only[aC,aG];rw[tl]) | skip)
        obtain⟨tG,tJ⟩:=pq_ tk a0.size;have tO:=d8 a0 tk;obtain⟨tG,tJ⟩:=tt_ tG tJ;have H:=HC_.out;clear HC_;by_cases tz:(bt a0 tk)>57
        ·rw[if_pos tz] at H;have tm:decide (57<(bt a0 tk))=true:=decide_eq_true tz;clear tz;obtain rfl:=si_ H;(first | rw[tm] | (simp only[aC,aG];rw[tm]) | skip)
         go_wp2;go_ret
         exact⟨u9_,u7_⟩
        ·rw[if_neg tz] at H;have tm:decide (57<(bt a0 tk))=false:=decide_eq_false tz;clear tz;have H':=am_ H;clear H;(first | rw[tm] | (simp only[aC,aG];rw[tm]) | skip)
         go_wp2;go_roundg k1
         case measure=>have:=HK1.out;omega
         case rel=>exact⟨(wrap64 (tk+1)),u4_,H',⟨dH⟩,u7_⟩
    ·rw[if_neg c5] at H;have tu:decide (97≤(bt a0 tk))=false:=decide_eq_false c5;clear c5;have HC_:=am_ H;clear H;(first | rw[tu] | (simp only[aC,aG];rw[tu]) | skip)
     have H:=HC_.out;clear HC_;by_cases tx:tk=0
     ·rw[if_pos tx] at H;have tn:=cW tx;have tC:=cX tx;clear tx;obtain rfl:=si_ H;(first | rw[tn] | (simp only[aC,aG];rw[tn]) | skip)
      go_wp2;go_ret
      exact⟨u9_,u7_⟩
     ·rw[if_neg tx] at H;have tn:=cO tx;have tC:=cQ tx;have HC_:=am_ H;clear H;(first | rw[tn] | (simp only[aC,aG];rw[tn]) | skip)
      obtain⟨tH,tK⟩:=pq_ tk a0.size;have tP:=d8 a0 tk;obtain⟨tH,tK⟩:=tt_ tH tK;have H:=HC_.out;clear HC_;by_cases tA:(bt a0 tk)<48
      ·rw[if_pos tA] at H;have tq:=decide_eq_true tA;clear tA;obtain rfl:=si_ H;(first | rw[tq] | (simp only[aC,aG];rw[tq]) | skip)
       go_wp2;go_ret
       exact⟨u9_,u7_⟩
      ·rw[if_neg tA] at H;have tq:=decide_eq_false tA;clear tA;have HC_:=am_ H;clear H;(first | rw[tq] | (simp only[aC,aG];rw[tq]) | skip)
       obtain⟨tI,tL⟩:=pq_ tk a0.size;have tQ:=d8 a0 tk;obtain⟨tI,tL⟩:=tt_ tI tL;have H:=HC_.out;clear HC_;by_cases tB:(bt a0 tk)>57
       ·rw[if_pos tB] at H;have tr:decide (57<(bt a0 tk))=true:=decide_eq_true tB;clear tB;obtain rfl:=si_ H;(first | rw[tr] | (simp only[aC,aG];rw[tr]) | skip)
        go_wp2;go_ret
        exact⟨u9_,u7_⟩
       ·rw[if_neg tB] at H;have tr:decide (57<(bt a0 tk))=false:=decide_eq_false tB;clear tB;have H':=am_ H;clear H;(first | rw[tr] | (simp only[aC,aG];rw[tr]) | skip)
        go_wp2;go_roundg k1
        case measure=>have:=HK1.out;omega
        case rel=>exact⟨(wrap64 (tk+1)),u4_,H',⟨dH⟩,u7_⟩
   ·rw[if_neg c2] at H;have tD:=decide_eq_false c2;clear c2;obtain⟨tF,tM,H⟩:=bi_ H;obtain rfl:=si_ H;go_wp2_with (first | ((with_reducible refine gt_ 41 ?_);refine gD_ 41 Tryz.func52 (ck.calls (a0.size:Int) 1 8 tF _ tM.out) ?_;intro nd))
    go_ret
    exact⟨u9_,u7_⟩
mutual
def aJ.l0:Nat→List (S92)→Int→Option (Bool)
 | 0,_,_=>none
 | k+1,x0,x3=>if x3<(x0.length:Int) then(if 0≤x3 then(if((az x0 x3).f1)=1 then((ck.f ((az x0 x3).f2) 1 9).bind fun tl=>(aJ.j1 k x0 x3 tl ((az x0 x3).f0) ((az x0 x3).f1) ((az x0 x3).f2))) else(aJ.j1 k x0 x3 false ((az x0 x3).f0) ((az x0 x3).f1) ((az x0 x3).f2))) else(none)) else((ck.f (x0.length:Int) 1 4).bind fun tk=>(some tk))
def aJ.j1:Nat→List (S92)→Int→Bool→ByteArray→Int→Int→Option (Bool)
 | 0,_,_,_,_,_,_=>none
 | k+1,x0,x3,x5,tm,tk,tl=>(ck.f tk 2 3).bind fun tn=>(if tn=true then(aJ.j2 k x0 x3 x5 (tl == 0) tm tk tl) else(aJ.j2 k x0 x3 x5 false tm tk tl))
def aJ.j2:Nat→List (S92)→Int→Bool→Bool→ByteArray→Int→Int→Option (Bool)
 | 0,_,_,_,_,_,_,_=>none
 | k+1,x0,x3,x5,x6,tk,tl,tm=>(a6.f k tk).bind fun tn=>(if tn=true then((bk.f k x0 tk).bind fun tq=>(if tq=x3 then(if x5=true then(aJ.l0 k x0 (wrap64 (x3+1))) else(if x6=true then(aJ.l0 k x0 (wrap64 (x3+1))) else(some false))) else(some false))) else(some false))
end
def aJ.f (k:Nat) (l0:List (S92)):Option (Bool):=aJ.l0 k l0 0
theorem aJ.calls (k:Nat) (A0:Option Addr) (c0:Nat) (l0:List (S92)) (r:Bool) (w:World) (hr0:Kd.C k92 w A0 l0.length l0) (hc0:l0.length≤c0) (h:aJ.f k l0=some r) :
  Calls Tryz.prog 53 #[.slice A0 l0.length c0] w fun e w'=>e = .returned (.bool r)∧Below w.heap.size w w':=by
 have hu92:=Tryz.underlying92;have ZD:=am_ hr0;have tT:=am_ hc0;clear hr0 hc0;have HB:=am_ (Below.refl w.heap.size w);have H:=h;clear h;unfold aJ.f at H
 have H':=am_ H;clear H;go_enter Tryz.func53,Tryz.ntmps53
 go_wp2;go_loopg [3] k (fun kq v3 w'=>∃(tk:Int),v3 = .int .i64 tk∧aa (aJ.l0 kq l0 tk=some r)∧aa (kq≤k)∧aa (Below w.heap.size w w'))
 case atStart=>exact⟨(0),u4_,H',⟨Nat.le_refl _⟩,⟨bw_ HB⟩⟩
 case round=>
  clear H';obtain⟨tk,rfl,HA,HK1,HB⟩:=hrel;cases gk with
  | zero=>exact absurd HA.out (by simp[aJ.l0])
  | succ k1=>
   have H:=HA.out;clear HA;simp only[aJ.l0] at H;by_cases c2:tk<(l0.length:Int)
   ·rw[if_pos c2] at H;have tJ:=decide_eq_true c2;clear c2;obtain⟨tO,H⟩:=gd_ H;have uO:=am_ H;clear H;obtain⟨vk,uQ,tm,tn,tq⟩:=jb ZD.out tk od_ od_;cases uQ;replace tm:=cb_ HB tm;replace tn:=cb_ HB tn;replace tq:=cb_ HB tq;obtain⟨tP,tQ⟩:=pt_ tk l0.length;go_upto_region 5 with (first | ((with_reducible refine gt_ 4 ?_);refine bx_ 4 #[.string (⟨#[]⟩:ByteArray),.int .i64 0,.int .i64 0] 92 ?_;intro tG hg w5 hbox hb;have tl:=am_ (hbox);have u9:=gw_ HB hg;replace HB:=bs_ HB hb;clear hb hbox hg;obtain⟨tw,tx,tz,tA,tB,tC⟩:=dm tl.out))
    (try simp only[Act.put,List.setIfInBounds_toArray,List.set_cons_zero,List.set_cons_succ])
    go_cut [5] (fun v5 wc=>∃(kq:Nat) (tE:Bool),v5 = .bool tE∧aa (aJ.j1 kq l0 tk tE ((az l0 tk).f0) ((az l0 tk).f1) ((az l0 tk).f2)=some r)∧aa (kq≤k1)∧aa (wc.heap[tG]? = some (.cells #[.string ((az l0 tk).f0),.int .i64 ((az l0 tk).f1),.int .i64 ((az l0 tk).f2)] 92 (0,0)))∧aa (Below w.heap.size w wc))
    case first=>
     have H:=uO.out;clear uO;by_cases c7:((az l0 tk).f1)=1
     ·rw[if_pos c7] at H;have tv:=cW c7;have uP:=cX c7;clear c7;(first | rw[tv] | (simp only[aC,aG];rw[tv]) | skip)
      obtain⟨tR,A8,H⟩:=bi_ H;have H':=am_ H;clear H;obtain⟨uR,uS,uT,uU,uV,uW⟩:=dm tl.out;go_wp2_with (first | (go_at_call 52;(with_reducible refine(ck.calls ((az l0 tk).f2) 1 9 tR _ A8.out).mono ?_);rintro e w' ⟨rfl,⟨nd,rfl⟩⟩))
      go_meet
      case rel=>exact⟨_,(tR),u4_,H',⟨kL⟩,⟨pb_ tl⟩,⟨bw_ HB⟩⟩
     ·rw[if_neg c7] at H;have tv:=cO c7;have uP:=cQ c7;(first | rw[tv] | (simp only[aC,aG];rw[tv]) | skip)
      have H':=am_ H;clear H;obtain⟨tU,tV,tW,uq,ur,us⟩:=dm tl.out;go_wp2;go_meet
      case rel=>exact⟨_,(false),u4_,H',⟨kL⟩,⟨pb_ tl⟩,⟨bw_ HB⟩⟩
    case rest=>
     clear uO;try clear c2
     try clear tJ
     try clear tO
     try clear tw tx tz tA tB tC
     try clear tm
     try clear tn
     try clear tq
     try clear tP
     try clear tQ
     obtain⟨kq,tE,rfl,HA,tK,tl,HB⟩:=hcut;cases kq with
     | zero=>exact absurd HA.out (by simp[aJ.j1])
     | succ vm=>
      have H:=HA.out;clear HA;simp only[aJ.j1] at H;have tH:=am_ H;clear H;go_upto_region 6 with (fail)
      go_cut [6] (fun v6 wc=>∃(kq:Nat) (tu:Bool),v6 = .bool tu∧aa (aJ.j2 kq l0 tk tE tu ((az l0 tk).f0) ((az l0 tk).f1) ((az l0 tk).f2)=some r)∧aa (kq≤vm)∧aa (wc.heap[tG]? = some (.cells #[.string ((az l0 tk).f0),.int .i64 ((az l0 tk).f1),.int .i64 ((az l0 tk).f2)] 92 (0,0)))∧aa (Below w.heap.size w wc))
      case first=>
       have H:=tH.out;clear tH;obtain⟨uY,u6,H⟩:=bi_ H;cases uY
       ·replace H:=hf_ H;have H':=am_ H;clear H;obtain⟨t6,t7,t8,uw,ux,uy⟩:=dm tl.out;go_wp2_with (first | ((with_reducible refine gt_ 27 ?_);refine gD_ 27 Tryz.func52 (ck.calls ((az l0 tk).f1) 2 3 false _ u6.out) ?_;intro nd))
        go_meet
        case rel=>exact⟨_,(false),u4_,H',⟨by have:=HK1.out;have:=tK.out;first | omega | exact Nat.le_refl _⟩,⟨pb_ tl⟩,⟨bw_ HB⟩⟩
       ·replace H:=ht_ H;have H':=am_ H;clear H;obtain⟨tX,tY,tZ,ut,uu,uv⟩:=dm tl.out;go_wp2_with (first | ((with_reducible refine gt_ 27 ?_);refine gD_ 27 Tryz.func52 (ck.calls ((az l0 tk).f1) 2 3 true _ u6.out) ?_;intro nd))
        go_meet
        case rel=>exact⟨_,((((az l0 tk).f2) == 0)),u4_,H',⟨by have:=HK1.out;have:=tK.out;first | omega | exact Nat.le_refl _⟩,⟨pb_ tl⟩,⟨bw_ HB⟩⟩
      case rest=>
       clear tH;try clear c2
       try clear tJ
       try clear tO
       try clear tw tx tz tA tB tC
       try clear tm
       try clear tn
       try clear tq
       try clear tP
       try clear tQ
       obtain⟨kq,tu,rfl,HA,tF,tl,HB⟩:=hcut;cases kq with
       | zero=>exact absurd HA.out (by simp[aJ.j2])
       | succ tr=>
        have H:=HA.out;clear HA;simp only[aJ.j2] at H;obtain⟨uZ,tL,H⟩:=bi_ H;cases uZ
        ·replace H:=hf_ H;obtain rfl:=si_ H;obtain⟨um,un,uo,uL,uM,uN⟩:=dm tl.out;go_wp2_with (first | ((with_reducible refine gt_ 35 ?_);refine gD_ 35 Tryz.func99 (a6.calls tr ((az l0 tk).f0) false _ tL.out) ?_;intro nd))
         go_ret
         exact⟨u1_,bw_ HB⟩
        ·replace H:=ht_ H;obtain⟨tD,tS,H⟩:=bi_ H;by_cases tI:tD=tk
         ·rw[if_pos tI] at H;have tM:=cW tI;have tN:=cX tI;clear tI;cases tE
          ·replace H:=hf_ H;cases tu
           ·replace H:=hf_ H;obtain rfl:=si_ H;obtain⟨ug,uh,ui,uF,uG,uH⟩:=dm tl.out;go_wp2_with (first | ((with_reducible refine gt_ 35 ?_);refine gD_ 35 Tryz.func99 (a6.calls tr ((az l0 tk).f0) true _ tL.out) ?_;intro nd)|(go_at_call 96;(with_reducible refine(bk.calls tr _ _ l0 ((az l0 tk).f0) tD _ (kc_ ZD HB) tT.out tS.out).mono ?_);rintro e w' ⟨rfl,⟨nd,rfl⟩⟩))
            go_ret
            exact⟨u1_,bw_ HB⟩
           ·replace H:=ht_ H;have H':=am_ H;clear H;obtain⟨ud,ue,uf,uC,uD,uE⟩:=dm tl.out;go_wp2_with (first | ((with_reducible refine gt_ 35 ?_);refine gD_ 35 Tryz.func99 (a6.calls tr ((az l0 tk).f0) true _ tL.out) ?_;intro nd)|(go_at_call 96;(with_reducible refine(bk.calls tr _ _ l0 ((az l0 tk).f0) tD _ (kc_ ZD HB) tT.out tS.out).mono ?_);rintro e w' ⟨rfl,⟨nd,rfl⟩⟩))
            go_roundg tr
            case measure=>have:=HK1.out;have:=tK.out;have:=tF.out;omega
            case rel=>exact⟨(wrap64 (tk+1)),u4_,H',⟨by have:=HK1.out;have:=tK.out;have:=tF.out;omega⟩,⟨bw_ HB⟩⟩
          ·replace H:=ht_ H;have H':=am_ H;clear H;obtain⟨ua,ub,uc,uz,uA,uB⟩:=dm tl.out;go_wp2_with (first | ((with_reducible refine gt_ 35 ?_);refine gD_ 35 Tryz.func99 (a6.calls tr ((az l0 tk).f0) true _ tL.out) ?_;intro nd)|(go_at_call 96;(with_reducible refine(bk.calls tr _ _ l0 ((az l0 tk).f0) tD _ (kc_ ZD HB) tT.out tS.out).mono ?_);rintro e w' ⟨rfl,⟨nd,rfl⟩⟩))
           go_roundg tr
           case measure=>have:=HK1.out;have:=tK.out;have:=tF.out;omega
           case rel=>exact⟨(wrap64 (tk+1)),u4_,H',⟨by have:=HK1.out;have:=tK.out;have:=tF.out;omega⟩,⟨bw_ HB⟩⟩
         ·rw[if_neg tI] at H;have tM:=cO tI;have tN:=cQ tI;obtain rfl:=si_ H;obtain⟨uj,uk,ul,uI,uJ,uK⟩:=dm tl.out;go_wp2_with (first | ((with_reducible refine gt_ 35 ?_);refine gD_ 35 Tryz.func99 (a6.calls tr ((az l0 tk).f0) true _ tL.out) ?_;intro nd)|(go_at_call 96;(with_reducible refine(bk.calls tr _ _ l0 ((az l0 tk).f0) tD _ (kc_ ZD HB) tT.out tS.out).mono ?_);rintro e w' ⟨rfl,⟨nd,rfl⟩⟩))
          go_ret
          exact⟨u1_,bw_ HB⟩
   ·rw[if_neg c2] at H;have tJ:=decide_eq_false c2;clear c2;obtain⟨uX,vl,H⟩:=bi_ H;obtain rfl:=si_ H;go_wp2_with (first | ((with_reducible refine gt_ 55 ?_);refine gD_ 55 Tryz.func52 (ck.calls (l0.length:Int) 1 4 uX _ vl.out) ?_;intro nd))
    go_ret
    exact⟨u1_,bw_ HB⟩
def bG.l0:Nat→ByteArray→Int→Int→Option (Int)
 | 0,_,_,_=>none
 | k+1,x0,x3,x4=>if x4<(x0.size:Int) then(if 0≤x4 then(if(bt x0 x4)<48 then(some (-1)) else(if(bt x0 x4)>57 then(some (-1)) else(if x4≥9 then(some (-1)) else(bG.l0 k x0 (wrap64 ((wrap64 (x3*10))+(((bt x0 x4) - 48) % 256))) (wrap64 (x4+1)))))) else(none)) else(if(x0.size:Int)=0 then(some (-1)) else(if(x0.size:Int)>1 then(if 0<(x0.size:Int) then(if(bt x0 0)=48 then(some (-1)) else(some x3)) else(none)) else(some x3)))
def bG.f (k:Nat) (a0:ByteArray):Option (Int):=bG.l0 k a0 0 0
theorem bG.calls (k:Nat) (a0:ByteArray) (r:Int) (w:World) (h:bG.f k a0=some r) :
  Calls Tryz.prog 158 #[.string a0] w fun e w'=>e = .returned (.int .i64 r)∧Drawn0 w w':=by
 have H:=h;clear h;unfold bG.f at H
 have H':=am_ H;clear H;go_enter Tryz.func158,Tryz.ntmps158
 go_wp2;go_loopg [3,4] k (fun kq v3 v4 w'=>∃(tr:Int) (tk:Int),v3 = .int .i64 tr∧v4 = .int .i64 tk∧aa (bG.l0 kq a0 tr tk=some r)∧aa (kq≤k)∧Drawn0 w w')
 case atStart=>exact⟨(0),(0),u4_,u4_,H',⟨Nat.le_refl _⟩,u7_⟩
 case round=>
  clear H';obtain⟨tr,tk,rfl,rfl,HA,HK1,⟨m1,rfl⟩⟩:=hrel;cases gk with
  | zero=>exact absurd HA.out (by simp[bG.l0])
  | succ k1=>
   have H:=HA.out;clear HA;simp only[bG.l0] at H;by_cases c2:tk<(a0.size:Int)
   ·rw[if_pos c2] at H;have tC:=decide_eq_true c2;clear c2;obtain⟨tH,H⟩:=gd_ H;have HC_:=am_ H;clear H;obtain⟨p4,q4⟩:=pq_ tk a0.size;have tK:=d8 a0 tk;obtain⟨p4,q4⟩:=tt_ p4 q4;have H:=HC_.out;clear HC_;by_cases c5:(bt a0 tk)<48
    ·rw[if_pos c5] at H;have tm:=decide_eq_true c5;clear c5;obtain rfl:=si_ H;(first | rw[tm] | (simp only[aC,aG];rw[tm]) | skip)
     go_wp2;go_ret
     exact⟨u9_,u7_⟩
    ·rw[if_neg c5] at H;have tm:=decide_eq_false c5;clear c5;have HC_:=am_ H;clear H;(first | rw[tm] | (simp only[aC,aG];rw[tm]) | skip)
     obtain⟨p6,q6⟩:=pq_ tk a0.size;have tL:=d8 a0 tk;obtain⟨p6,q6⟩:=tt_ p6 q6;have H:=HC_.out;clear HC_;by_cases c7:(bt a0 tk)>57
     ·rw[if_pos c7] at H;have tn:decide (57<(bt a0 tk))=true:=decide_eq_true c7;clear c7;obtain rfl:=si_ H;(first | rw[tn] | (simp only[aC,aG];rw[tn]) | skip)
      go_wp2;go_ret
      exact⟨u9_,u7_⟩
     ·rw[if_neg c7] at H;have tn:decide (57<(bt a0 tk))=false:=decide_eq_false c7;clear c7;have HC_:=am_ H;clear H;(first | rw[tn] | (simp only[aC,aG];rw[tn]) | skip)
      have H:=HC_.out;clear HC_;by_cases c8:tk≥9
      ·rw[if_pos c8] at H;have tq:decide (9≤tk)=true:=decide_eq_true c8;clear c8;obtain rfl:=si_ H;(first | rw[tq] | (simp only[aC,aG];rw[tq]) | skip)
       go_wp2;go_ret
       exact⟨u9_,u7_⟩
      ·rw[if_neg c8] at H;have tq:decide (9≤tk)=false:=decide_eq_false c8;clear c8;have H':=am_ H;clear H;(first | rw[tq] | (simp only[aC,aG];rw[tq]) | skip)
       obtain⟨p9,q9⟩:=pq_ tk a0.size;have tM:=d8 a0 tk;obtain⟨p9,q9⟩:=tt_ p9 q9;go_wp2;go_roundg k1
       case measure=>have:=HK1.out;omega
       case rel=>exact⟨(wrap64 ((wrap64 (tr*10))+(((bt a0 tk) - 48) % 256))),(wrap64 (tk+1)),u4_,u4_,H',⟨dH⟩,u7_⟩
   ·rw[if_neg c2] at H;have tC:=decide_eq_false c2;clear c2;by_cases c10:(a0.size:Int)=0
    ·rw[if_pos c10] at H;have tw:=cW c10;have tx:=cX c10;clear c10;obtain rfl:=si_ H;go_wp2;go_ret
     exact⟨u9_,u7_⟩
    ·rw[if_neg c10] at H;have tw:=cO c10;have tx:=cQ c10;by_cases tv:(a0.size:Int)>1
     ·rw[if_pos tv] at H;have tz:decide (1<(a0.size:Int))=true:=decide_eq_true tv;have tA:decide (1<a0.size)=true:=decide_eq_true aw;clear tv;obtain⟨tD,H⟩:=gn_ H;have tE:=decide_eq_true tD;have tF:decide (0<a0.size)=true:=decide_eq_true aw;clear tD;have HC_:=am_ H;clear H;have tJ:0≤(0:Int):=aw;have tG:0<a0.size:=(by have:(0:Int)<(a0.size:Int):=od_;omega);have tI:∀h:0<a0.size,((a0[0]'h).toNat:Int)=bt a0 0:=d8 a0 0;clear tJ;have qi13:(0<(a0.size:Int))=True:=eq_true (od_);replace tG:=eq_true tG;have H:=HC_.out;clear HC_;by_cases tu:(bt a0 0)=48
      ·rw[if_pos tu] at H;have tl:=cW tu;have tB:=cX tu;clear tu;obtain rfl:=si_ H;(first | rw[tl] | (simp only[aC,aG];rw[tl]) | skip)
       go_wp2;go_ret
       exact⟨u9_,u7_⟩
      ·rw[if_neg tu] at H;have tl:=cO tu;have tB:=cQ tu;obtain rfl:=si_ H;(first | rw[tl] | (simp only[aC,aG];rw[tl]) | skip)
       go_wp2;go_ret
       exact⟨u9_,u7_⟩
     ·rw[if_neg tv] at H;have tz:decide (1<(a0.size:Int))=false:=decide_eq_false tv;have tA:decide (1<a0.size)=false:=decide_eq_false aw;clear tv;obtain rfl:=si_ H;go_wp2;go_ret
      exact⟨u9_,u7_⟩
def bq.j0:Nat→ByteArray→Bool→Option (Int × Bool)
 | 0,_,_=>none
 | k+1,x0,tm=>if tm=true then(if 1≤(x0.size:Int) then((bG.f k (x0.extract 1 x0.size)).bind fun tk=>(some (wrap64 (-tk),decide (tk>0)))) else(none)) else((bG.f k x0).bind fun tl=>(some (tl,decide (tl≥0))))
def bq.f (k:Nat) (a0:ByteArray):Option (Int × Bool):=if(a0.size:Int)>1 then(if 0<(a0.size:Int) then(bq.j0 k a0 ((bt a0 0) == 45)) else(none)) else(bq.j0 k a0 false)
theorem bq.calls (k:Nat) (a0:ByteArray) (r1:Int) (r2:Bool) (w:World) (h:bq.f k a0=some (r1,r2)) :
  Calls Tryz.prog 137 #[.string a0] w fun e w'=>e = .returned (.tuple #[.int .i64 r1,.bool r2])∧Drawn0 w w':=by
 have H:=h;clear h;unfold bq.f at H
 have tm:=am_ H;clear H;go_enter Tryz.func137,Tryz.ntmps137
 go_upto_region 1 with (fail)
 go_cut [13] (fun tA wc=>∃(kq:Nat) (tk:Bool),tA = .bool tk∧aa (bq.j0 kq a0 tk=some (r1,r2))∧aa (kq≤k)∧Drawn0 w wc)
 case first=>
  have H:=tm.out;clear tm;by_cases c3:(a0.size:Int)>1
  ·rw[if_pos c3] at H;have tl:decide (1<(a0.size:Int))=true:=decide_eq_true c3;have tn:decide (1<a0.size)=true:=decide_eq_true aw;clear c3;(first | rw[tl] | (simp only[aC,aG];rw[tl]) | skip)
   obtain⟨c4,H⟩:=gn_ H;have tv:=decide_eq_true c4;have tw:decide (0<a0.size)=true:=decide_eq_true aw;clear c4;have H':=am_ H;clear H;have p5:0≤(0:Int):=aw;have q5:0<a0.size:=(by have:(0:Int)<(a0.size:Int):=od_;omega);have tC:∀h:0<a0.size,((a0[0]'h).toNat:Int)=bt a0 0:=d8 a0 0;clear p5;have qi5:(0<(a0.size:Int))=True:=eq_true (od_);replace q5:=eq_true q5;go_wp2;go_meet
   case rel=>exact⟨_,(((bt a0 0) == 45)),u4_,H',⟨jD⟩,u7_⟩
  ·rw[if_neg c3] at H;have tl:decide (1<(a0.size:Int))=false:=decide_eq_false c3;have tn:decide (1<a0.size)=false:=decide_eq_false aw;clear c3;(first | rw[tl] | (simp only[aC,aG];rw[tl]) | skip)
   have H':=am_ H;clear H;go_wp2;go_meet
   case rel=>exact⟨_,(false),u4_,H',⟨jD⟩,u7_⟩
 case rest=>
  clear tm;obtain⟨kq,tk,rfl,HA,tB,⟨mc1,rfl⟩⟩:=hcut;cases kq with
  | zero=>exact absurd HA.out (by simp[bq.j0])
  | succ tu=>
   have H:=HA.out;clear HA;simp only[bq.j0] at H;cases tk
   ·replace H:=hf_ H;obtain⟨tr,A9,H⟩:=bi_ H;simp only[Option.some.injEq,Prod.mk.injEq] at H;obtain⟨rfl,rfl⟩:=H;go_wp2_with (first | ((with_reducible refine gt_ 22 ?_);refine gD_ 22 Tryz.func158 (bG.calls tu a0 tr _ A9.out) ?_;intro nd))
    go_ret2
    exact⟨u9_,u7_⟩
   ·replace H:=ht_ H;obtain⟨tx,tz,H⟩:=ge_ H;obtain⟨tq,A8,H⟩:=bi_ H;simp only[Option.some.injEq,Prod.mk.injEq] at H;obtain⟨rfl,rfl⟩:=H;go_wp2_with (first | ((with_reducible refine gt_ 16 ?_);refine gD_ 16 Tryz.func158 (bG.calls tu (a0.extract 1 a0.size) tq _ A8.out) ?_;intro nd))
    go_ret2
    exact⟨u9_,u7_⟩
mutual
def bx.l0:Nat→ByteArray→Int→Int→List ByteArray→Int→Int→Option (List ByteArray)
 | 0,_,_,_,_,_,_=>none
 | k+1,x0,x1,x2,x7,x8,x9=>if x9<(x0.size:Int) then(bx.j1 k x0 x1 x2 x7 x8 x9 (decide ((x7.length:Int)<x2))) else(bx.j1 k x0 x1 x2 x7 x8 x9 false)
def bx.j1:Nat→ByteArray→Int→Int→List ByteArray→Int→Int→Bool→Option (List ByteArray)
 | 0,_,_,_,_,_,_,_=>none
 | k+1,x0,x1,x2,x7,x8,x9,tk=>if tk=true then(if 0≤x9 then(if x9<(x0.size:Int) then(if(bt x0 x9)=x1 then(if 0≤x8 then(if x8≤x9 then(if x9≤(x0.size:Int) then(if x7.length<8796093022208 then(bx.l0 k x0 x1 x2 (x7 ++ [x0.extract (x8:Int).toNat (x9:Int).toNat]) (wrap64 (x9+1)) (wrap64 (x9+1))) else(none)) else(none)) else(none)) else(none)) else(bx.l0 k x0 x1 x2 x7 x8 (wrap64 (x9+1)))) else(none)) else(none)) else(if 0≤x8 then(if x8≤(x0.size:Int) then(if x7.length<8796093022208 then(some (x7 ++ [x0.extract (x8:Int).toNat x0.size])) else(none)) else(none)) else(none))
end
def bx.f (k:Nat) (a0:ByteArray) (a1:Int) (a2:Int):Option (List ByteArray):=bx.l0 k a0 a1 a2 (([] : List ByteArray)) 0 0
theorem bx.calls (k:Nat) (a0:ByteArray) (a1:Int) (a2:Int) (r:List ByteArray) (w:World) (h:bx.f k a0 a1 a2=some r) :
  Calls Tryz.prog 159 #[.string a0,.int .u8 a1,.int .i64 a2] w fun e w'=>∃v0_:Value,e = .returned (v0_)∧Kd.R Kd.string 9 w' w.heap.size (fun _=>True) v0_ r∧Below w.heap.size w w':=by
 have HB:=am_ (Below.refl w.heap.size w);have H:=h;clear h;unfold bx.f at H
 obtain⟨tJ,tq⟩:∃y_:List ByteArray,y_=(([] : List ByteArray)):=⟨_,rfl⟩;replace H:(bx.l0 k a0 a1 a2 tJ 0 0)=some r:=by first | (rw[tq];with_reducible exact H)|(have H2_:=(Option.bind_some _ _).symm.trans H;rw[tq];with_reducible exact H2_)|(have H2_:=(Option.bind_some _ _).symm.trans H;with_reducible exact H2_) | with_reducible exact H | (rw[tq];exact H) | exact H
 have tv:=am_ tq;clear tq;have H':=am_ H;clear H;go_enter Tryz.func159,Tryz.ntmps159
 go_wp2_with (first | ((with_reducible refine aA (N:=10) rfl ?_);(try (refine bj ct ?_;dsimp only));refine Kd.R_lit Kd.string _ 9 ?hg (N:=10) ?hd (xs:=([] : List ByteArray)) (inner:=[]) (ok:=fun _=>True) (okp:=fun _=>True) ?hr ?hp (fun _ hk=>hk) trivial (Below.refl _ _) (Nat.le_refl _) bb ?_;(case hd=>rfl);(case hg=>rfl);(case hr=>exact bL);(case hp=>exact fj);intro uc w4 ho5 hb hg_ hnew_;clear hg_ hnew_;(first | rw[← tv.out] at ho5 | (simp only[Int.reduceToNat] at ho5;rw[← tv.out] at ho5));have tA:=am_ (Kd.R_lower ho5 (ar (bw_ HB)));replace HB:=bs_ HB hb;clear hb ho5))
 go_loopg [7,8,9] k (fun kq v7 v8 v9 w'=>∃(tm:List ByteArray) (tl:Int) (tk:Int),v8 = .int .i64 tl∧v9 = .int .i64 tk∧aa (bx.l0 kq a0 a1 a2 tm tl tk=some r)∧aa (kq≤k)∧aa (Kd.R Kd.string 9 w' w.heap.size (fun _=>True) v7 tm)∧aa (Below w.heap.size w w'))
 case atStart=>exact⟨(tJ),(0),(0),u4_,u4_,H',⟨Nat.le_refl _⟩,⟨aR_ tA.out⟩,⟨bw_ HB⟩⟩
 case round=>
  clear H';obtain⟨tm,tl,tk,rfl,rfl,HA,HK1,Z5,HB⟩:=hrel;cases gk with
  | zero=>exact absurd HA.out (by simp[bx.l0])
  | succ k1=>
   have H:=HA.out;clear HA;simp only[bx.l0] at H;have tL:=am_ H;clear H;go_upto_region 4 with (fail)
   go_cut [20] (fun ub wc=>∃(kq:Nat) (tr:Bool),ub = .bool tr∧aa (bx.j1 kq a0 a1 a2 tm tl tk tr=some r)∧aa (kq≤k1)∧aa (Kd.R Kd.string 9 wc w.heap.size (fun _=>True) u7 tm)∧aa (Below w.heap.size w wc))
   case first=>
    have H:=tL.out;clear tL;by_cases c7:tk<(a0.size:Int)
    ·rw[if_pos c7] at H;have tu:=decide_eq_true c7;clear c7;(first | rw[tu] | (simp only[aC,aG];rw[tu]) | skip)
     have H':=am_ H;clear H;obtain⟨ug,uh,t8⟩:=Kd.R_slice Z5.out;subst t8;go_wp2;go_meet
     case rel=>exact⟨_,(decide ((tm.length:Int)<a2)),u4_,H',⟨kL⟩,⟨aR_ Z5.out⟩,⟨bw_ HB⟩⟩
    ·rw[if_neg c7] at H;have tu:=decide_eq_false c7;clear c7;(first | rw[tu] | (simp only[aC,aG];rw[tu]) | skip)
     have H':=am_ H;clear H;go_wp2;go_meet
     case rel=>exact⟨_,(false),u4_,H',⟨kL⟩,⟨aR_ Z5.out⟩,⟨bw_ HB⟩⟩
   case rest=>
    clear tL;obtain⟨kq,tr,rfl,HA,tK,Z5,HB⟩:=hcut;cases kq with
    | zero=>exact absurd HA.out (by simp[bx.j1])
    | succ tZ=>
     have H:=HA.out;clear HA;simp only[bx.j1] at H;cases tr
     ·replace H:=hf_ H;by_cases tI:0≤tl
      ·rw[if_pos tI] at H;have tV:=eq_true tI;have tW:=decide_eq_true tI;clear tI;obtain⟨tX,tY,H⟩:=ge_ H;obtain⟨tE,H⟩:=gl_ H;generalize tx:((tm ++ [a0.extract (tl:Int).toNat a0.size]):List ByteArray)=uf at H;have tG:=am_ tx.symm;clear tx;obtain rfl:=si_ H;go_wp2_with (first | ((with_reducible refine aY (b:=.append) (xs:=#[.tmp 37,.tmp 41]) rfl ?_);(try (refine bj ct ?_;dsimp only));at_builtin;refine Kd.R_append Kd.string (w0:=w) w.heap.size rfl (.tmp 37) (.tmp 41) 30 9 (.string ⟨#[]⟩) 16 rfl Tryz.underlying30 eE rfl ap aw u7 tm (a0.extract (tl:Int).toNat a0.size) [.string (a0.extract (tl:Int).toNat a0.size)] (fun _=>True) (fun _=>False) rfl rfl ?aP (fun _ hk=>hk.elim) ?aF ?aO ?aB ?aS ?aL ?_;(case aP=>exact rfl);(case aB=>exact fi);(case aF=>exact gU);(case aO=>exact(aR_ Z5.out));(case aS=>exact fh);(case aL=>have:=tE.out;omega);intro ue uj ho hb hg hat;rw[← tG.out] at ho;replace HB:=am_ (hb);have tC:=am_ (ho);clear Z5 ho hb hg hat))
       go_ret
       exact⟨_,u1_,aR_ tC.out,bw_ HB⟩
      ·rw[if_neg tI] at H;exact absurd H bb
     ·replace H:=ht_ H;obtain⟨tN,H⟩:=gd_ H;obtain⟨tO,H⟩:=gd_ H;have HC_:=am_ H;clear H;obtain⟨t6,t7⟩:=pq_ tk a0.size;have ua:=d8 a0 tk;obtain⟨t6,t7⟩:=tt_ t6 t7;have H:=HC_.out;clear HC_;by_cases tz:(bt a0 tk)=a1
      ·rw[if_pos tz] at H;have tn:=cW tz;have tH:=cX tz;clear tz;obtain⟨tP,tQ,H⟩:=ge_ H;obtain⟨tR,tS,H⟩:=ge_ H;obtain⟨tT,tU,H⟩:=ge_ H;obtain⟨tD,H⟩:=gl_ H;generalize tw:((tm ++ [a0.extract (tl:Int).toNat (tk:Int).toNat]):List ByteArray)=tM at H;have tF:=am_ tw.symm;clear tw;have H':=am_ H;clear H;(first | rw[tn] | (simp only[aC,aG];rw[tn]) | skip)
       go_wp2_with (first | ((with_reducible refine aY (b:=.append) (xs:=#[.tmp 28,.tmp 33]) rfl ?_);(try (refine bj ct ?_;dsimp only));at_builtin;refine Kd.R_append Kd.string (w0:=w) w.heap.size rfl (.tmp 28) (.tmp 33) 30 9 (.string ⟨#[]⟩) 16 rfl Tryz.underlying30 eE rfl ap aw u7 tm (a0.extract (tl:Int).toNat (tk:Int).toNat) [.string (a0.extract (tl:Int).toNat (tk:Int).toNat)] (fun _=>True) (fun _=>False) rfl rfl ?aP (fun _ hk=>hk.elim) ?aF ?aO ?aB ?aS ?aL ?_;(case aP=>exact rfl);(case aB=>exact fi);(case aF=>exact gU);(case aO=>exact(aR_ Z5.out));(case aS=>exact fh);(case aL=>have:=tD.out;omega);intro ud ui ho hb hg hat;rw[← tF.out] at ho;replace HB:=am_ (hb);have tB:=am_ (ho);clear Z5 ho hb hg hat))
       go_roundg tZ
       case measure=>have:=HK1.out;have:=tK.out;omega
       case rel=>exact⟨(tM),(wrap64 (tk+1)),(wrap64 (tk+1)),u4_,u4_,H',⟨by have:=HK1.out;have:=tK.out;omega⟩,⟨aR_ tB.out⟩,⟨bw_ HB⟩⟩
      ·rw[if_neg tz] at H;have tn:=cO tz;have tH:=cQ tz;have H':=am_ H;clear H;(first | rw[tn] | (simp only[aC,aG];rw[tn]) | skip)
       go_wp2;go_roundg tZ
       case measure=>have:=HK1.out;have:=tK.out;omega
       case rel=>exact⟨(tm),(tl),(wrap64 (tk+1)),u4_,u4_,H',⟨by have:=HK1.out;have:=tK.out;omega⟩,⟨aR_ Z5.out⟩,⟨bw_ HB⟩⟩
def bH.l0:Nat→List ByteArray→ByteArray→Int→Option (List ByteArray)
 | 0,_,_,_=>none
 | k+1,x0,x1,x5=>if x5<(x0.length:Int) then(if 0≤x5 then(if(Op.bytesLess ((bC ByteArray.empty x0 x5).toList) x1.toList)=true then(bH.l0 k x0 x1 (wrap64 (x5+1))) else(if(bC ByteArray.empty x0 x5).toList=x1.toList then(some x0) else((some (([] : List ByteArray):List ByteArray)).bind fun tk=>(if x5≤(x0.length:Int) then((some (x0.take (x5:Int).toNat:List ByteArray)).bind fun tl=>(if tk.length+tl.length<8796093022208 then((some (tk ++ tl:List ByteArray)).bind fun tm=>((some (([x1] : List ByteArray):List ByteArray)).bind fun tn=>(if tm.length+tn.length<8796093022208 then((some (tm ++ tn:List ByteArray)).bind fun tq=>((some (x0.drop (x5:Int).toNat:List ByteArray)).bind fun tr=>(if tq.length+tr.length<8796093022208 then(some (tq ++ tr)) else(none)))) else(none)))) else(none))) else(none))))) else(none)) else((some (([] : List ByteArray):List ByteArray)).bind fun tu=>(if 0≤x5 then(if x5≤(x0.length:Int) then((some (x0.take (x5:Int).toNat:List ByteArray)).bind fun tv=>(if tu.length+tv.length<8796093022208 then((some (tu ++ tv:List ByteArray)).bind fun tw=>((some (([x1] : List ByteArray):List ByteArray)).bind fun tx=>(if tw.length+tx.length<8796093022208 then((some (tw ++ tx:List ByteArray)).bind fun tz=>((some (x0.drop (x5:Int).toNat:List ByteArray)).bind fun tA=>(if tz.length+tA.length<8796093022208 then(some (tz ++ tA)) else(none)))) else(none)))) else(none))) else(none)) else(none)))
def bH.f (k:Nat) (l0:List ByteArray) (a1:ByteArray):Option (List ByteArray):=bH.l0 k l0 a1 0
def bH.T6:Bool × List (List Nat × List Nat):=(true,[([],[]),([],[]),([],[]),([1,2],[1,2]),([0,3],[0,3]),([],[]),([5],[5]),([4,6,4],[4,6]),([],[]),([],[]),([8,9],[8,9]),([7,10,7],[7,10]),([11,11,0,1,2,3,4,5,6,7,8,9,10,11],[11])])
def bH.B6:List Nat:=[0,0,0,6,15,0,32,127,0,0,768,2047,4095]
theorem bH.tab6:dC .any (fk Tryz.f160 6)=bH.T6:=by kernel_rfl
theorem bH.bits6:dc bH.T6.2 bH.B6=true:=by kernel_rfl
theorem bH.calls (k:Nat) (P0_:Nat→Prop) (u9000_:Value) (l0:List ByteArray) (a1:ByteArray) (r:List ByteArray) (w0 w:World) (hB:Below w0.heap.size w0 w) (ho0:Kd.R Kd.string 9 w w0.heap.size P0_ u9000_ l0) (h:bH.f k l0 a1=some r) :
  Calls Tryz.prog 160 #[u9000_,.string a1] w fun e w'=>∃v0_:Value,e = .returned (v0_)∧Kd.R Kd.string 9 w' w0.heap.size (fun k_=>(P0_ k_∨w.heap.size≤k_)) v0_ r∧Below w0.heap.size w0 w'∧Kept w w' (fun k_=>P0_ k_):=by
 have vM:=am_ (show Kd.R Kd.string 9 w w0.heap.size (fun k_=>(P0_ k_∨w.heap.size≤k_)) u9000_ l0 from Kd.R_mono ho0 (fun k_ hk=>(.inl hk)));have HK:=am_ (Kept.refl w (fun k_=>P0_ k_));have HW0:=am_ hB.size;have HB:=am_ hB;clear hB;have H:=h;clear h;unfold bH.f at H
 have H':=am_ H;clear H;go_enter Tryz.func160,Tryz.ntmps160
 go_wp2;go_loopg [5] k (fun kq v5 w'=>∃(tk:Int),v5 = .int .i64 tk∧aa (bH.l0 kq l0 a1 tk=some r)∧aa (kq≤k)∧aa (Kd.R Kd.string 9 w' w0.heap.size (fun k_=>(P0_ k_∨w.heap.size≤k_)) u9000_ l0)∧aa (Kept w w' (fun k_=>P0_ k_))∧aa (Below w0.heap.size w0 w'))
 case atStart=>exact⟨(0),u4_,H',⟨Nat.le_refl _⟩,⟨aR_ vM.out⟩,⟨u6_⟩,⟨bw_ HB⟩⟩
 case round=>
  clear H';obtain⟨tk,rfl,HA,HK1,Z1,HK,HB⟩:=hrel;cases gk with
  | zero=>exact absurd HA.out (by simp[bH.l0])
  | succ k1=>
   have H:=HA.out;clear HA;simp only[bH.l0] at H;by_cases c3:tk<(l0.length:Int)
   ·rw[if_pos c3] at H;have uW:=decide_eq_true c3;clear c3;obtain⟨vN,H⟩:=gd_ H;have HC_:=am_ H;clear H;obtain⟨we,tz,vP⟩:=Kd.R_slice Z1.out;subst vP;obtain⟨tl,uY,uU⟩:=Kd.at_string (Kd.R_reads' Z1.out).2.2 tk od_ od_;cases uY;obtain⟨vQ,vT⟩:=pt_ tk l0.length;have H:=HC_.out;clear HC_;by_cases c5:(Op.bytesLess ((bC ByteArray.empty l0 tk).toList) a1.toList)=true
    ·rw[if_pos c5] at H;have tW:(Op.bytesLess ((bC ByteArray.empty l0 tk).toList) a1.toList)=true:=c5;clear c5;have H':=am_ H;clear H;(first | rw[tW] | (simp only[aC,aG];rw[tW]) | skip)
     go_wp2;go_roundg k1
     case measure=>have:=HK1.out;omega
     case rel=>exact⟨(wrap64 (tk+1)),u4_,H',⟨dH⟩,⟨aR_ Z1.out⟩,⟨u6_⟩,⟨bw_ HB⟩⟩
    ·rw[if_neg c5] at H;have tW:(Op.bytesLess ((bC ByteArray.empty l0 tk).toList) a1.toList)=false:=by simpa using c5
     clear c5;have HC_:=am_ H;clear H;(first | rw[tW] | (simp only[aC,aG];rw[tW]) | skip)
     obtain⟨uM,uZ,uV⟩:=Kd.at_string (Kd.R_reads' Z1.out).2.2 tk od_ od_;obtain rfl:tl=uM:=(by injection uZ);obtain⟨vS,vU⟩:=pt_ tk l0.length;have H:=HC_.out;clear HC_;by_cases c7:(bC ByteArray.empty l0 tk).toList=a1.toList
     ·rw[if_pos c7] at H;have tX:=cW c7;have uX:=cX c7;clear c7;obtain rfl:=si_ H;(first | rw[tX] | (simp only[aC,aG];rw[tX]) | skip)
      go_wp2;go_ret
      exact⟨_,u1_,aR_ Z1.out,bw_ HB,u6_⟩
     ·rw[if_neg c7] at H;have tX:=cO c7;have uX:=cQ c7;obtain⟨tO,tG⟩:∃y_:List ByteArray,y_=(([] : List ByteArray)):=⟨_,rfl⟩;replace H:(if tk≤(l0.length:Int) then((some (l0.take (tk:Int).toNat:List ByteArray)).bind fun tw=>(if tO.length+tw.length<8796093022208 then((some (tO ++ tw:List ByteArray)).bind fun tK=>((some (([a1] : List ByteArray):List ByteArray)).bind fun tC=>(if tK.length+tC.length<8796093022208 then((some (tK ++ tC:List ByteArray)).bind fun t6=>((some (l0.drop (tk:Int).toNat:List ByteArray)).bind fun tu=>(if t6.length+tu.length<8796093022208 then(some (t6 ++ tu)) else(none)))) else(none)))) else(none))) else(none))=some r:=by first | (rw[tG];with_reducible exact H)|(have H2_:=(Option.bind_some _ _).symm.trans H;rw[tG];with_reducible exact H2_)|(have H2_:=(Option.bind_some _ _).symm.trans H;with_reducible exact H2_) | with_reducible exact H | (rw[tG];exact H) | exact H
      have tM:=am_ tG;clear tG;have vO:=eq_true (od_:0≤tk);obtain⟨vx,vy,H⟩:=ge_ H;generalize ul:((l0.take (tk:Int).toNat):List ByteArray)=tw at H;have ud:=am_ ul.symm;clear ul;obtain⟨tS,H⟩:=gl_ H;generalize um:((tO ++ tw):List ByteArray)=tK at H;have tU:=am_ um.symm;clear um;generalize un:((([a1] : List ByteArray)):List ByteArray)=tC at H;have tE:=am_ un.symm;clear un;obtain⟨uE,H⟩:=gl_ H;generalize uo:((tK ++ tC):List ByteArray)=t6 at H;have uI:=am_ uo.symm;clear uo;have vz:=eq_true (od_:0≤tk);have vA:=eq_true (od_:tk≤(l0.length:Int));generalize uq:((l0.drop (tk:Int).toNat):List ByteArray)=tu at H;have ue:=am_ uq.symm;clear uq;obtain⟨uF,H⟩:=gl_ H;generalize ur:((t6 ++ tu):List ByteArray)=wb at H;have uJ:=am_ ur.symm;clear ur;obtain rfl:=si_ H;(first | rw[tX] | (simp only[aC,aG];rw[tX]) | skip)
      try go_wp2
      replace Z1:=am_ (Kd.R_drew Z1.out);replace HK:=am_ (Kept.drew HK.out);replace HB:=am_ (au HB.out);have vl:(tk:Int)≤((l0.length:Int):Int):=od_;obtain⟨i018,uh,_,hsz18,_⟩:=info_parts eE;have hroom18:l0.length≤tz:=(Kd.R_reads' Z1.out).2.1;have hC18:Kd.F Kd.string _ _ (some tl) l0.length l0:=(Kd.V_at (base:=w0.heap.size) (Kd.R_V Z1.out)).2.2;have hcut18:=n4 (P:=Tryz.prog) 30 9 .i64 Tryz.underlying30 uh (some tl) l0.length tz tk (od_) vl hroom18;have hr18:=Kd.F_take (m:=(tk:Int).toNat) hC18 aw;have uy:tw.length=(tk:Int).toNat:=(by rw[ud.out,List.length_take];omega);rw[← ud.out] at hr18;rw[← uy] at hcut18;have ZL:=am_ (show Kd.V Kd.string 9 _ w0.heap.size _ (.slice (some tl) tw.length tz) tw from Kd.V_mk aw hr18);have vr:=am_ (show tw.length≤tz from aw);clear hr18 hC18 hroom18 uh hsz18;have KY18:=am_ uy;clear uy;replace vl:=eq_true vl;have vm:(tk:Int)≤((l0.length:Int):Int):=od_;obtain⟨i019,ui,_,hsz19,_⟩:=info_parts eE;have hroom19:l0.length≤tz:=(Kd.R_reads' Z1.out).2.1;have hC19:Kd.F Kd.string _ _ (some tl) l0.length l0:=(Kd.V_at (base:=w0.heap.size) (Kd.R_V Z1.out)).2.2;have u9:(0:Int)≤(tk:Int):=od_;have hcut19:=g9 (P:=Tryz.prog) 30 9 .i64 Tryz.underlying30 ui 1 hsz19 (some tl) l0.length tz tk u9 vm;have hr19:=Kd.F_cut (m:=(tk:Int).toNat) (c:=tz) hC19 aw hroom19;obtain⟨uQ,hA19⟩:∃A1,A1=(if tz=(tk:Int).toNat then(some tl) else((some tl):Option Addr).map (·.add ((tk:Int).toNat*1))):=⟨_,rfl⟩;obtain⟨uS,hc19⟩:∃c1,c1=tz - (tk:Int).toNat:=⟨_,rfl⟩;have tY:tu.length=l0.length - (tk:Int).toNat:=(by rw[ue.out,List.length_drop] <;> omega);rw[show (l0).drop (tk:Int).toNat=tu from ue.out.symm] at hr19;replace hr19:Kd.F Kd.string _ _ uQ tu.length tu:=(by rw[hA19];exact hr19);rw[← tY,← hA19,← hc19] at hcut19;have ZN:=am_ (show Kd.V Kd.string 9 _ w0.heap.size _ (.slice uQ tu.length uS) tu from Kd.V_mk (by rw[tY,hc19];exact Nat.sub_le_sub_right hroom19 _) hr19);have vu:=am_ (show tu.length≤uS from by rw[tY,hc19];exact Nat.sub_le_sub_right hroom19 _);clear hr19 hC19 hroom19 ui hsz19 hc19;have KY19:=am_ tY;have KA19:=am_ hA19;clear tY hA19;replace vm:=eq_true vm;refine cN (n:=13) (S:=fun w'=>True) (ds:=[]) (bm_ 13 0) bT rfl rfl trivial (fun hHeld=>?_);refine bu bH.tab6 bH.bits6 (fun HT_ HW_=>?_);generalize wr.drew=wg at Z1 HK HB ZL ZN hHeld ⊢;refine pv_ 1 34 ?_;refine pv_ 2 35 ?_;refine pv_ 3 36 ?_;refine pv_ 5 38 ?_;refine pv_ 8 41 ?_;refine pv_ 9 42 ?_;refine pv_ 10 43 ?_;refine lP (σ:=Value × Value × Value) 3 (bm_ 13 1919) (fun s_=>[(33,s_.1),(37,s_.2.1),(39,s_.2.2)]) (fun s_ w'=>(Kd.V Kd.string 9 w' w0.heap.size (fun k_=>(P0_ k_∨w.heap.size≤k_)∧some k_≠(s_.2.1:Value).ownBlock∧some k_≠(s_.2.2:Value).ownBlock) (.slice (some tl) tw.length tz) tw)∧(Kd.R Kd.string 9 w' w0.heap.size (fun k_=>(P0_ k_∨w.heap.size≤k_)∧some k_≠(s_.2.2:Value).ownBlock∧some k_≠(.slice (some tl) l0.length tz:Value).ownBlock) s_.2.1 tK)∧(Kd.R Kd.string 9 w' w0.heap.size (fun k_=>(P0_ k_∨w.heap.size≤k_)∧some k_≠(s_.2.1:Value).ownBlock∧some k_≠(.slice (some tl) l0.length tz:Value).ownBlock) s_.2.2 tC)∧(Kd.V Kd.string 9 w' w0.heap.size (fun k_=>(P0_ k_∨w.heap.size≤k_)∧some k_≠(s_.2.1:Value).ownBlock∧some k_≠(s_.2.2:Value).ownBlock) (.slice uQ tu.length uS) tu)∧(Kd.R Kd.string 9 w' w0.heap.size (fun k_=>(P0_ k_∨w.heap.size≤k_)∧some k_≠(s_.2.1:Value).ownBlock∧some k_≠(s_.2.2:Value).ownBlock) (.slice (some tl) l0.length tz) l0)∧(Kept w w' (fun k_=>P0_ k_))∧(Below w0.heap.size w0 w')) ?_ ?_;rotate_left
      ·intro hCont;refine lK (i:=0) (j:=6) (Ni:=some 33) (Nj:=some 39) (bm_ 13 1839) (bm_ 13 1902) rfl rfl rfl rfl (fL HT_.out bT) ap ap (fun K hK=>?_) (fun K hK=>?_)
       ·skip
        refine Kd.R_lit_step Kd.string _ 9 ?hg (N:=33) ?hd (xs:=([] : List ByteArray)) (inner:=[]) (ok:=fun _=>True) (okp:=fun _=>True) ?hr ?hp (fun _ hk=>hk) trivial (Below.refl _ _) (Nat.le_refl _) bb ?_;(case hd=>rfl);(case hg=>rfl);(case hr=>exact bL);(case hp=>exact fj);intro tI vX ho21 hb hg_ hnew_;clear hg_ hnew_;(first | rw[← tM.out] at ho21 | (simp only[Int.reduceToNat] at ho21;rw[← tM.out] at ho21))
        replace ZL:=am_ (Kd.V_elder' (aV_ ZL.out) (Kd.R_base ho21) hb);replace ZN:=am_ (Kd.V_elder' (aV_ ZN.out) (Kd.R_base ho21) hb);have Zo:=am_ (Kd.R_lower (Kd.R_new' (Kd.R_newM (M:=fun k_=>(P0_ k_∨w.heap.size≤k_)) ho21 fY (fun k_ h_=>.inr h_)) (Kd.R_lt (aR_ Z1.out))) (ar (bw_ HB)));replace Z1:=am_ (Kd.R_elder' (aR_ Z1.out) (Kd.R_base ho21) hb);replace HK:=am_ (Kept.below (S:=(fun k_=>P0_ k_)) u6_ hb);replace HB:=bs_ HB hb;clear hb ho21;refine hK.out _ _ trivial (fun hHeld=>?_);clear hK K;refine nm_ ?_;refine lK (i:=4) (j:=6) (Ni:=some 37) (Nj:=some 39) (bm_ 13 1855) (bm_ 13 1903) rfl rfl rfl rfl (fL HT_.out bT) ap ap (fun K hK=>?_) (fun K hK=>?_)
        ·skip
         refine Kd.R_append_rows_step Kd.string (w0:=w0) w0.heap.size ct (.tmp 33) (.tmp 36) 30 9 (.string ⟨#[]⟩) 16 rfl Tryz.underlying30 eE rfl ap aw tI tO tw _ _ _ (fun k_=>(P0_ k_∨w.heap.size≤k_)∧some k_≠(.slice (some tl) l0.length tz:Value).ownBlock) (fun _=>False) rfl rfl ?aO ?aR (fun _ _ h=>h) (fun _ h=>h.elim) ?aF ?aB ?aS ?aL ?_;(case aR=>exact(kV_ ZL))
         (case aB=>exact fi)
         (case aF=>exact(fun k_ hk=>⟨(.inr (Nat.le_trans fY hk)),Kd.fresh' (Kd.R_lt (aR_ Z1.out)) k_ hk⟩))
         (case aO=>exact(by(with_reducible repeat (first | apply Kd.R_alloc | apply Kd.R_drewN | apply Kd.R_drew));exact Kd.R_mono Zo.out (fun _ hk=>⟨hk.1.1,hk.2⟩)))
         (case aS=>exact fh)
         (case aL=>have:=tS.out;omega)
         intro tA vJ ho hb hg hat;rw[← tU.out] at ho;replace Z1:=am_ (Kd.R_after (ok:=(fun k_=>(P0_ k_∨w.heap.size≤k_))) (aR_ Z1.out) hg hat);replace ZL:=am_ (Kd.V_afterv (ok:=(fun k_=>(P0_ k_∨w.heap.size≤k_))) (aV_ ZL.out) hg hat);replace ZN:=am_ (Kd.V_afterv (ok:=(fun k_=>(P0_ k_∨w.heap.size≤k_))) (aV_ ZN.out) hg hat);replace HB:=am_ (hb);replace HK:=am_ (Kept.of_grown (S:=(fun k_=>P0_ k_)) hg u6_ (fun k_ e_=>(Zo.out.1 k_ e_).1.1));have Zk:=am_ (ho);clear Zo ho hb hg hat;refine hK.out _ _ trivial (fun hHeld=>?_);clear hK K;refine nm_ ?_;refine ov_ 6 39 (fun K hK=>?_);refine Kd.R_lit_step Kd.string _ 9 ?hg (N:=39) ?hd (xs:=([a1] : List ByteArray)) (inner:=[.string a1]) (ok:=fun _=>True) (okp:=fun _=>True) ?hr ?hp (fun _ hk=>hk) trivial (Below.refl _ _) (Nat.le_refl _) bb ?_;(case hd=>rfl);(case hg=>rfl);(case hr=>exact bL);(case hp=>exact u79_);intro tq wh ho24 hb hg_ hnew_;clear hg_ hnew_;(first | rw[← tE.out] at ho24 | (simp only[Int.reduceToNat] at ho24;rw[← tE.out] at ho24))
         replace ZL:=am_ (Kd.V_elder' (aV_ ZL.out) (Kd.R_base ho24) hb);replace ZN:=am_ (Kd.V_elder' (aV_ ZN.out) (Kd.R_base ho24) hb);have Zx:=am_ (Kd.R_lower (Kd.R_new' (Kd.R_new' (Kd.R_newM (M:=fun k_=>(P0_ k_∨w.heap.size≤k_)) ho24 fY (fun k_ h_=>.inr h_)) (Kd.R_lt (aR_ Z1.out))) (Kd.R_lt (aR_ Zk.out))) (ar (bw_ HB)));replace Z1:=am_ (Kd.R_elder' (aR_ Z1.out) (Kd.R_base ho24) hb);replace Zk:=am_ (Kd.R_elder' (aR_ Zk.out) (Kd.R_base ho24) hb);replace HK:=am_ (Kept.below (S:=(fun k_=>P0_ k_)) u6_ hb);replace HB:=bs_ HB hb;clear hb ho24;refine hK.out _ _ trivial (fun hHeld=>?_);clear hK K;refine nm_ ?_;exact ea gS (hCont (tI,tA,tq) _ ⟨(by(with_reducible repeat (first | apply Kd.V_alloc | apply Kd.V_drewN | apply Kd.V_drew));exact Kd.V_mono ZL.out (fun _ hk=>⟨hk.1.1,⟨hk.1.2,hk.2⟩⟩)),(by(with_reducible repeat (first | apply Kd.R_alloc | apply Kd.R_drewN | apply Kd.R_drew));exact Kd.R_mono Zk.out (fun _ hk=>⟨hk.1.1,⟨hk.2,hk.1.2⟩⟩)),(by(with_reducible repeat (first | apply Kd.R_alloc | apply Kd.R_drewN | apply Kd.R_drew));exact Kd.R_mono Zx.out (fun _ hk=>⟨hk.1.1.1,⟨hk.2,hk.1.2⟩⟩)),(by(with_reducible repeat (first | apply Kd.V_alloc | apply Kd.V_drewN | apply Kd.V_drew));exact Kd.V_mono ZN.out (fun _ hk=>⟨hk.1.1,⟨hk.1.2,hk.2⟩⟩)),u123_,u6_,(bw_ HB)⟩)
        ·skip
         refine Kd.R_lit_step Kd.string _ 9 ?hg (N:=39) ?hd (xs:=([a1] : List ByteArray)) (inner:=[.string a1]) (ok:=fun _=>True) (okp:=fun _=>True) ?hr ?hp (fun _ hk=>hk) trivial (Below.refl _ _) (Nat.le_refl _) bb ?_;(case hd=>rfl);(case hg=>rfl);(case hr=>exact bL);(case hp=>exact u79_);intro tq vJ ho23 hb hg_ hnew_;clear hg_ hnew_;(first | rw[← tE.out] at ho23 | (simp only[Int.reduceToNat] at ho23;rw[← tE.out] at ho23))
         replace ZL:=am_ (Kd.V_elder' (aV_ ZL.out) (Kd.R_base ho23) hb);replace ZN:=am_ (Kd.V_elder' (aV_ ZN.out) (Kd.R_base ho23) hb);have Zx:=am_ (Kd.R_lower (Kd.R_new' (Kd.R_new' (Kd.R_newM (M:=fun k_=>(P0_ k_∨w.heap.size≤k_)) ho23 fY (fun k_ h_=>.inr h_)) (Kd.R_lt (aR_ Z1.out))) (Kd.R_lt (aR_ Zo.out))) (ar (bw_ HB)));replace Z1:=am_ (Kd.R_elder' (aR_ Z1.out) (Kd.R_base ho23) hb);replace Zo:=am_ (Kd.R_elder' (aR_ Zo.out) (Kd.R_base ho23) hb);replace HK:=am_ (Kept.below (S:=(fun k_=>P0_ k_)) u6_ hb);replace HB:=bs_ HB hb;clear hb ho23;refine hK.out _ _ trivial (fun hHeld=>?_);clear hK K;refine nm_ ?_;refine ov_ 4 37 (fun K hK=>?_);refine Kd.R_append_rows_step Kd.string (w0:=w0) w0.heap.size ct (.tmp 33) (.tmp 36) 30 9 (.string ⟨#[]⟩) 16 rfl Tryz.underlying30 eE rfl ap aw tI tO tw _ _ _ (fun k_=>(P0_ k_∨w.heap.size≤k_)∧some k_≠(.slice (some tl) l0.length tz:Value).ownBlock∧some k_≠(tq:Value).ownBlock) (fun _=>False) rfl rfl ?aO ?aR (fun _ _ h=>h) (fun _ h=>h.elim) ?aF ?aB ?aS ?aL ?_;(case aR=>exact(kV_ ZL))
         (case aB=>exact fi)
         (case aF=>exact qm)
         (case aO=>exact u111_)
         (case aS=>exact fh)
         (case aL=>have:=tS.out;omega)
         intro tA vY ho hb hg hat;rw[← tU.out] at ho;replace Z1:=am_ (Kd.R_after (ok:=(fun k_=>(P0_ k_∨w.heap.size≤k_)∧some k_≠(tq:Value).ownBlock)) u124_ hg hat);replace ZL:=am_ (Kd.V_afterv (ok:=(fun k_=>(P0_ k_∨w.heap.size≤k_)∧some k_≠(tq:Value).ownBlock)) (by(with_reducible repeat (first | apply Kd.V_alloc | apply Kd.V_drewN | apply Kd.V_drew));exact Kd.V_mono ZL.out (fun _ hk=>⟨⟨hk.1.1,hk.2⟩,hk.1.2⟩)) hg hat);replace ZN:=am_ (Kd.V_afterv (ok:=(fun k_=>(P0_ k_∨w.heap.size≤k_)∧some k_≠(tq:Value).ownBlock)) (by(with_reducible repeat (first | apply Kd.V_alloc | apply Kd.V_drewN | apply Kd.V_drew));exact Kd.V_mono ZN.out (fun _ hk=>⟨⟨hk.1.1,hk.2⟩,hk.1.2⟩)) hg hat);replace Zx:=am_ (Kd.R_after (ok:=(fun k_=>(P0_ k_∨w.heap.size≤k_)∧some k_≠(.slice (some tl) l0.length tz:Value).ownBlock)) u112_ hg hat);replace HB:=am_ (hb);replace HK:=am_ (Kept.of_grown (S:=(fun k_=>P0_ k_)) hg u6_ (fun k_ e_=>(Zo.out.1 k_ e_).1.1.1));have Zk:=am_ (ho);clear Zo ho hb hg hat;refine hK.out _ _ trivial (fun hHeld=>?_);clear hK K;refine nm_ ?_;exact ea gS (hCont (tI,tA,tq) _ ⟨u117_,u86_,u118_,u119_,u67_,u6_,(bw_ HB)⟩)
       ·skip
        refine Kd.R_lit_step Kd.string _ 9 ?hg (N:=39) ?hd (xs:=([a1] : List ByteArray)) (inner:=[.string a1]) (ok:=fun _=>True) (okp:=fun _=>True) ?hr ?hp (fun _ hk=>hk) trivial (Below.refl _ _) (Nat.le_refl _) bb ?_;(case hd=>rfl);(case hg=>rfl);(case hr=>exact bL);(case hp=>exact u79_);intro tq vX ho21 hb hg_ hnew_;clear hg_ hnew_;(first | rw[← tE.out] at ho21 | (simp only[Int.reduceToNat] at ho21;rw[← tE.out] at ho21))
        replace ZL:=am_ (Kd.V_elder' (aV_ ZL.out) (Kd.R_base ho21) hb);replace ZN:=am_ (Kd.V_elder' (aV_ ZN.out) (Kd.R_base ho21) hb);have Zx:=am_ (Kd.R_lower (Kd.R_new' (Kd.R_newM (M:=fun k_=>(P0_ k_∨w.heap.size≤k_)) ho21 fY (fun k_ h_=>.inr h_)) (Kd.R_lt (aR_ Z1.out))) (ar (bw_ HB)));replace Z1:=am_ (Kd.R_elder' (aR_ Z1.out) (Kd.R_base ho21) hb);replace HK:=am_ (Kept.below (S:=(fun k_=>P0_ k_)) u6_ hb);replace HB:=bs_ HB hb;clear hb ho21;refine hK.out _ _ trivial (fun hHeld=>?_);clear hK K;refine nm_ ?_;refine ov_ 0 33 (fun K hK=>?_);refine Kd.R_lit_step Kd.string _ 9 ?hg (N:=33) ?hd (xs:=([] : List ByteArray)) (inner:=[]) (ok:=fun _=>True) (okp:=fun _=>True) ?hr ?hp (fun _ hk=>hk) trivial (Below.refl _ _) (Nat.le_refl _) bb ?_;(case hd=>rfl);(case hg=>rfl);(case hr=>exact bL);(case hp=>exact fj);intro tI vJ ho23 hb hg_ hnew_;clear hg_ hnew_;(first | rw[← tM.out] at ho23 | (simp only[Int.reduceToNat] at ho23;rw[← tM.out] at ho23))
        replace ZL:=am_ (Kd.V_elder' (aV_ ZL.out) (Kd.R_base ho23) hb);replace ZN:=am_ (Kd.V_elder' (aV_ ZN.out) (Kd.R_base ho23) hb);have Zo:=am_ (Kd.R_lower (Kd.R_new' (Kd.R_new' (Kd.R_newM (M:=fun k_=>(P0_ k_∨w.heap.size≤k_)) ho23 fY (fun k_ h_=>.inr h_)) (Kd.R_lt (aR_ Z1.out))) (Kd.R_lt (aR_ Zx.out))) (ar (bw_ HB)));replace Z1:=am_ (Kd.R_elder' (aR_ Z1.out) (Kd.R_base ho23) hb);replace Zx:=am_ (Kd.R_elder' (aR_ Zx.out) (Kd.R_base ho23) hb);replace HK:=am_ (Kept.below (S:=(fun k_=>P0_ k_)) u6_ hb);replace HB:=bs_ HB hb;clear hb ho23;refine hK.out _ _ trivial (fun hHeld=>?_);clear hK K;refine nm_ ?_;refine ov_ 4 37 (fun K hK=>?_);refine Kd.R_append_rows_step Kd.string (w0:=w0) w0.heap.size ct (.tmp 33) (.tmp 36) 30 9 (.string ⟨#[]⟩) 16 rfl Tryz.underlying30 eE rfl ap aw tI tO tw _ _ _ (fun k_=>(P0_ k_∨w.heap.size≤k_)∧some k_≠(.slice (some tl) l0.length tz:Value).ownBlock∧some k_≠(tq:Value).ownBlock) (fun _=>False) rfl rfl ?aO ?aR (fun _ _ h=>h) (fun _ h=>h.elim) ?aF ?aB ?aS ?aL ?_;(case aR=>exact(kV_ ZL))
        (case aB=>exact fi)
        (case aF=>exact qm)
        (case aO=>exact u111_)
        (case aS=>exact fh)
        (case aL=>have:=tS.out;omega)
        intro tA vY ho hb hg hat;rw[← tU.out] at ho;replace Z1:=am_ (Kd.R_after (ok:=(fun k_=>(P0_ k_∨w.heap.size≤k_)∧some k_≠(tq:Value).ownBlock)) (aR_ Z1.out) hg hat);replace ZL:=am_ (Kd.V_afterv (ok:=(fun k_=>(P0_ k_∨w.heap.size≤k_)∧some k_≠(tq:Value).ownBlock)) (aV_ ZL.out) hg hat);replace ZN:=am_ (Kd.V_afterv (ok:=(fun k_=>(P0_ k_∨w.heap.size≤k_)∧some k_≠(tq:Value).ownBlock)) (aV_ ZN.out) hg hat);replace Zx:=am_ (Kd.R_after (ok:=(fun k_=>(P0_ k_∨w.heap.size≤k_)∧some k_≠(.slice (some tl) l0.length tz:Value).ownBlock)) u112_ hg hat);replace HB:=am_ (hb);replace HK:=am_ (Kept.of_grown (S:=(fun k_=>P0_ k_)) hg u6_ (fun k_ e_=>(Zo.out.1 k_ e_).1.1.1));have Zk:=am_ (ho);clear Zo ho hb hg hat;refine hK.out _ _ trivial (fun hHeld=>?_);clear hK K;refine nm_ ?_;exact ea gS (hCont (tI,tA,tq) _ ⟨u117_,u86_,u118_,u119_,u67_,u6_,(bw_ HB)⟩)
      rintro ⟨tI,tA,tq⟩ uA ⟨h0_,h1_,h2_,h3_,h4_,h5_,h6_⟩;have n0_:aa (Kd.V Kd.string 9 uA w0.heap.size (fun k_=>(P0_ k_∨w.heap.size≤k_)∧some k_≠(tA:Value).ownBlock∧some k_≠(tq:Value).ownBlock) (.slice (some tl) tw.length tz) tw):=⟨h0_⟩;have n1_:aa (Kd.R Kd.string 9 uA w0.heap.size (fun k_=>(P0_ k_∨w.heap.size≤k_)∧some k_≠(tq:Value).ownBlock∧some k_≠(.slice (some tl) l0.length tz:Value).ownBlock) tA tK):=⟨h1_⟩;have n2_:aa (Kd.R Kd.string 9 uA w0.heap.size (fun k_=>(P0_ k_∨w.heap.size≤k_)∧some k_≠(tA:Value).ownBlock∧some k_≠(.slice (some tl) l0.length tz:Value).ownBlock) tq tC):=⟨h2_⟩;have n3_:aa (Kd.V Kd.string 9 uA w0.heap.size (fun k_=>(P0_ k_∨w.heap.size≤k_)∧some k_≠(tA:Value).ownBlock∧some k_≠(tq:Value).ownBlock) (.slice uQ tu.length uS) tu):=⟨h3_⟩;have n4_:aa (Kd.R Kd.string 9 uA w0.heap.size (fun k_=>(P0_ k_∨w.heap.size≤k_)∧some k_≠(tA:Value).ownBlock∧some k_≠(tq:Value).ownBlock) (.slice (some tl) l0.length tz) l0):=⟨h4_⟩;have n5_:aa (Kept w uA (fun k_=>P0_ k_)):=⟨h5_⟩;have n6_:aa (Below w0.heap.size w0 uA):=⟨h6_⟩;clear Z1 HK HB h0_ h1_ h2_ h3_ h4_ h5_ h6_;have Zk:=n1_;have Zx:=n2_;have ZN:=n3_;have Z1:=n4_;have HK:=n5_;have HB:=n6_;clear n0_ n1_ n2_ n3_ n4_ n5_ n6_;have hHeld:=trivial;obtain⟨t8,ub,uO⟩:=Kd.R_slice Zx.out;(first | subst uO | (injection uO with f1_ f2_ f3_;have f4_:=f1_.symm;have f5_:=f3_.symm;clear f1_ f2_ f3_;subst f4_;subst f5_))
      refine ea (a':=?_) ?_ ?_;rotate_left
      ·exact u68_
      refine ov_ 7 40 (fun K hK=>?_);refine Kd.R_append_rows_step Kd.string (w0:=w0) w0.heap.size ct (.tmp 37) (.tmp 39) 30 9 (.string ⟨#[]⟩) 16 rfl Tryz.underlying30 eE rfl ap aw tA tK tC _ _ _ (fun k_=>(P0_ k_∨w.heap.size≤k_)∧some k_≠(.slice (some tl) l0.length tz:Value).ownBlock∧some k_≠(.slice t8 tC.length ub:Value).ownBlock) (fun _=>False) rfl rfl ?aO ?aR (fun _ _ h=>h) (fun _ h=>h.elim) ?aF ?aB ?aS ?aL ?_;(case aR=>exact(kR_ Zx))
      (case aB=>exact fi)
      (case aF=>exact qm)
      (case aO=>exact u86_)
      (case aS=>exact fh)
      (case aL=>have:=uE.out;omega)
      intro vp wi ho hb hg hat;rw[← uI.out] at ho;replace Z1:=am_ (Kd.R_after (ok:=(fun k_=>(P0_ k_∨w.heap.size≤k_)∧some k_≠(.slice t8 tC.length ub:Value).ownBlock)) u125_ hg hat);replace ZN:=am_ (Kd.V_afterv (ok:=(fun k_=>(P0_ k_∨w.heap.size≤k_)∧some k_≠(.slice t8 tC.length ub:Value).ownBlock)) (by(with_reducible repeat (first | apply Kd.V_alloc | apply Kd.V_drewN | apply Kd.V_drew));exact Kd.V_mono ZN.out (fun _ hk=>⟨⟨hk.1,hk.2.2⟩,hk.2.1⟩)) hg hat);replace Zx:=am_ (Kd.R_after (ok:=(fun k_=>(P0_ k_∨w.heap.size≤k_)∧some k_≠(.slice (some tl) l0.length tz:Value).ownBlock)) (by(with_reducible repeat (first | apply Kd.R_alloc | apply Kd.R_drewN | apply Kd.R_drew));exact Kd.R_mono Zx.out (fun _ hk=>⟨⟨hk.1,hk.2.2⟩,hk.2.1⟩)) hg hat);replace HB:=am_ (hb);replace HK:=am_ (Kept.of_grown (S:=(fun k_=>P0_ k_)) hg u6_ (fun k_ e_=>(Zk.out.1 k_ e_).1));have tQ:=am_ (ho);clear Zk ho hb hg hat;refine hK.out _ _ trivial (fun hHeld=>?_);clear hK K;refine nm_ ?_;refine ov_ 11 44 (fun K hK=>?_);refine Kd.R_append_rows_step Kd.string (w0:=w0) w0.heap.size ct (.tmp 40) (.tmp 43) 30 9 (.string ⟨#[]⟩) 16 rfl Tryz.underlying30 eE rfl ap aw vp t6 tu _ _ _ (fun k_=>(P0_ k_∨w.heap.size≤k_)∧some k_≠(.slice (some tl) l0.length tz:Value).ownBlock∧some k_≠(.slice t8 tC.length ub:Value).ownBlock) (fun _=>False) rfl rfl ?aO ?aR (fun _ _ h=>h) (fun _ h=>h.elim) ?aF ?aB ?aS ?aL ?_;(case aR=>exact(kV_ ZN))
      (case aB=>exact fi)
      (case aF=>exact qm)
      (case aO=>exact(aR_ tQ.out))
      (case aS=>exact fh)
      (case aL=>have:=uF.out;omega)
      intro vV wj ho hb hg hat;rw[← uJ.out] at ho;replace HB:=am_ (hb);replace HK:=am_ (Kept.of_grown (S:=(fun k_=>P0_ k_)) hg u6_ (fun k_ e_=>(tQ.out.1 k_ e_).1));have uC:=am_ (ho);clear tQ ho hb hg hat;refine hK.out _ _ trivial (fun hHeld=>?_);clear hK K;refine nm_ ?_;refine pv_ 12 4 ?_;refine dn_ HT_ ?_;try go_wp2
      go_ret
      exact⟨_,u1_,by(with_reducible repeat (first | apply Kd.R_alloc | apply Kd.R_drewN | apply Kd.R_drew));exact Kd.R_mono uC.out (fun _ hk=>hk.1),bw_ HB,u6_⟩
   ·rw[if_neg c3] at H;have uW:=decide_eq_false c3;clear c3;obtain⟨tP,tH⟩:∃y_:List ByteArray,y_=(([] : List ByteArray)):=⟨_,rfl⟩;replace H:(if 0≤tk then(if tk≤(l0.length:Int) then((some (l0.take (tk:Int).toNat:List ByteArray)).bind fun tx=>(if tP.length+tx.length<8796093022208 then((some (tP ++ tx:List ByteArray)).bind fun tL=>((some (([a1] : List ByteArray):List ByteArray)).bind fun tD=>(if tL.length+tD.length<8796093022208 then((some (tL ++ tD:List ByteArray)).bind fun t7=>((some (l0.drop (tk:Int).toNat:List ByteArray)).bind fun tv=>(if t7.length+tv.length<8796093022208 then(some (t7 ++ tv)) else(none)))) else(none)))) else(none))) else(none)) else(none))=some r:=by first | (rw[tH];with_reducible exact H)|(have H2_:=(Option.bind_some _ _).symm.trans H;rw[tH];with_reducible exact H2_)|(have H2_:=(Option.bind_some _ _).symm.trans H;with_reducible exact H2_) | with_reducible exact H | (rw[tH];exact H) | exact H
    have tN:=am_ tH;clear tH;by_cases uN:0≤tk
    ·rw[if_pos uN] at H;have vB:=eq_true uN;have vD:=decide_eq_true uN;clear uN;obtain⟨vE,vG,H⟩:=ge_ H;generalize us:((l0.take (tk:Int).toNat):List ByteArray)=tx at H;have uf:=am_ us.symm;clear us;obtain⟨tT,H⟩:=gl_ H;generalize ut:((tP ++ tx):List ByteArray)=tL at H;have tV:=am_ ut.symm;clear ut;generalize uu:((([a1] : List ByteArray)):List ByteArray)=tD at H;have tF:=am_ uu.symm;clear uu;obtain⟨uG,H⟩:=gl_ H;generalize uv:((tL ++ tD):List ByteArray)=t7 at H;have uK:=am_ uv.symm;clear uv;have vH:=eq_true (od_:0≤tk);have vI:=eq_true (od_:tk≤(l0.length:Int));generalize uw:((l0.drop (tk:Int).toNat):List ByteArray)=tv at H;have ug:=am_ uw.symm;clear uw;obtain⟨uH,H⟩:=gl_ H;generalize ux:((t7 ++ tv):List ByteArray)=wd at H;have uL:=am_ ux.symm;clear ux;obtain rfl:=si_ H;obtain⟨tn,tm,u6⟩:=Kd.R_slice Z1.out;subst u6;try go_wp2
     replace Z1:=am_ (Kd.R_drew Z1.out);replace HK:=am_ (Kept.drew HK.out);replace HB:=am_ (au HB.out);have vn:(tk:Int)≤((l0.length:Int):Int):=od_;obtain⟨i038,uj,_,hsz38,_⟩:=info_parts eE;have hroom38:l0.length≤tm:=(Kd.R_reads' Z1.out).2.1;have hC38:Kd.F Kd.string _ _ tn l0.length l0:=(Kd.V_at (base:=w0.heap.size) (Kd.R_V Z1.out)).2.2;have hcut38:=n4 (P:=Tryz.prog) 30 9 .i64 Tryz.underlying30 uj tn l0.length tm tk (od_) vn hroom38;have hr38:=Kd.F_take (m:=(tk:Int).toNat) hC38 aw;have uz:tx.length=(tk:Int).toNat:=(by rw[uf.out,List.length_take];omega);rw[← uf.out] at hr38;rw[← uz] at hcut38;have ZK:=am_ (show Kd.V Kd.string 9 _ w0.heap.size _ (.slice tn tx.length tm) tx from Kd.V_mk aw hr38);have vv:=am_ (show tx.length≤tm from aw);clear hr38 hC38 hroom38 uj hsz38;have KY38:=am_ uz;clear uz;replace vn:=eq_true vn;have vo:(tk:Int)≤((l0.length:Int):Int):=od_;obtain⟨i039,uk,_,hsz39,_⟩:=info_parts eE;have hroom39:l0.length≤tm:=(Kd.R_reads' Z1.out).2.1;have hC39:Kd.F Kd.string _ _ tn l0.length l0:=(Kd.V_at (base:=w0.heap.size) (Kd.R_V Z1.out)).2.2;have vk:(0:Int)≤(tk:Int):=od_;have hcut39:=g9 (P:=Tryz.prog) 30 9 .i64 Tryz.underlying30 uk 1 hsz39 tn l0.length tm tk vk vo;have hr39:=Kd.F_cut (m:=(tk:Int).toNat) (c:=tm) hC39 aw hroom39;obtain⟨uR,hA39⟩:∃A1,A1=(if tm=(tk:Int).toNat then tn else(tn:Option Addr).map (·.add ((tk:Int).toNat*1))):=⟨_,rfl⟩;obtain⟨uT,hc39⟩:∃c1,c1=tm - (tk:Int).toNat:=⟨_,rfl⟩;have tZ:tv.length=l0.length - (tk:Int).toNat:=(by rw[ug.out,List.length_drop] <;> omega);rw[show (l0).drop (tk:Int).toNat=tv from ug.out.symm] at hr39;replace hr39:Kd.F Kd.string _ _ uR tv.length tv:=(by rw[hA39];exact hr39);rw[← tZ,← hA39,← hc39] at hcut39;have ZM:=am_ (show Kd.V Kd.string 9 _ w0.heap.size _ (.slice uR tv.length uT) tv from Kd.V_mk (by rw[tZ,hc39];exact Nat.sub_le_sub_right hroom39 _) hr39);have vw:=am_ (show tv.length≤uT from by rw[tZ,hc39];exact Nat.sub_le_sub_right hroom39 _);clear hr39 hC39 hroom39 uk hsz39 hc39;have KY39:=am_ tZ;have KA39:=am_ hA39;clear tZ hA39;replace vo:=eq_true vo;refine cN (n:=13) (S:=fun w'=>True) (ds:=[]) (bm_ 13 0) bT rfl rfl trivial (fun hHeld=>?_);refine bu bH.tab6 bH.bits6 (fun HT_ HW_=>?_);generalize wr.drew=wk at Z1 HK HB ZK ZM hHeld ⊢;refine pv_ 1 34 ?_;refine pv_ 2 35 ?_;refine pv_ 3 36 ?_;refine pv_ 5 38 ?_;refine pv_ 8 41 ?_;refine pv_ 9 42 ?_;refine pv_ 10 43 ?_;refine lP (σ:=Value × Value × Value) 3 (bm_ 13 1919) (fun s_=>[(33,s_.1),(37,s_.2.1),(39,s_.2.2)]) (fun s_ w'=>(Kd.V Kd.string 9 w' w0.heap.size (fun k_=>(P0_ k_∨w.heap.size≤k_)∧some k_≠(s_.2.1:Value).ownBlock∧some k_≠(s_.2.2:Value).ownBlock) (.slice tn tx.length tm) tx)∧(Kd.R Kd.string 9 w' w0.heap.size (fun k_=>(P0_ k_∨w.heap.size≤k_)∧some k_≠(s_.2.2:Value).ownBlock∧some k_≠(.slice tn l0.length tm:Value).ownBlock) s_.2.1 tL)∧(Kd.R Kd.string 9 w' w0.heap.size (fun k_=>(P0_ k_∨w.heap.size≤k_)∧some k_≠(s_.2.1:Value).ownBlock∧some k_≠(.slice tn l0.length tm:Value).ownBlock) s_.2.2 tD)∧(Kd.V Kd.string 9 w' w0.heap.size (fun k_=>(P0_ k_∨w.heap.size≤k_)∧some k_≠(s_.2.1:Value).ownBlock∧some k_≠(s_.2.2:Value).ownBlock) (.slice uR tv.length uT) tv)∧(Kd.R Kd.string 9 w' w0.heap.size (fun k_=>(P0_ k_∨w.heap.size≤k_)∧some k_≠(s_.2.1:Value).ownBlock∧some k_≠(s_.2.2:Value).ownBlock) (.slice tn l0.length tm) l0)∧(Kept w w' (fun k_=>P0_ k_))∧(Below w0.heap.size w0 w')) ?_ ?_;rotate_left
     ·intro hCont;refine lK (i:=0) (j:=6) (Ni:=some 33) (Nj:=some 39) (bm_ 13 1839) (bm_ 13 1902) rfl rfl rfl rfl (fL HT_.out bT) ap ap (fun K hK=>?_) (fun K hK=>?_)
      ·skip
       refine Kd.R_lit_step Kd.string _ 9 ?hg (N:=33) ?hd (xs:=([] : List ByteArray)) (inner:=[]) (ok:=fun _=>True) (okp:=fun _=>True) ?hr ?hp (fun _ hk=>hk) trivial (Below.refl _ _) (Nat.le_refl _) bb ?_;(case hd=>rfl);(case hg=>rfl);(case hr=>exact bL);(case hp=>exact fj);intro tJ vZ ho41 hb hg_ hnew_;clear hg_ hnew_;(first | rw[← tN.out] at ho41 | (simp only[Int.reduceToNat] at ho41;rw[← tN.out] at ho41))
       replace ZK:=am_ (Kd.V_elder' (aV_ ZK.out) (Kd.R_base ho41) hb);replace ZM:=am_ (Kd.V_elder' (aV_ ZM.out) (Kd.R_base ho41) hb);have Zn:=am_ (Kd.R_lower (Kd.R_new' (Kd.R_newM (M:=fun k_=>(P0_ k_∨w.heap.size≤k_)) ho41 fY (fun k_ h_=>.inr h_)) (Kd.R_lt (aR_ Z1.out))) (ar (bw_ HB)));replace Z1:=am_ (Kd.R_elder' (aR_ Z1.out) (Kd.R_base ho41) hb);replace HK:=am_ (Kept.below (S:=(fun k_=>P0_ k_)) u6_ hb);replace HB:=bs_ HB hb;clear hb ho41;refine hK.out _ _ trivial (fun hHeld=>?_);clear hK K;refine nm_ ?_;refine lK (i:=4) (j:=6) (Ni:=some 37) (Nj:=some 39) (bm_ 13 1855) (bm_ 13 1903) rfl rfl rfl rfl (fL HT_.out bT) ap ap (fun K hK=>?_) (fun K hK=>?_)
       ·skip
        refine Kd.R_append_rows_step Kd.string (w0:=w0) w0.heap.size ct (.tmp 33) (.tmp 36) 30 9 (.string ⟨#[]⟩) 16 rfl Tryz.underlying30 eE rfl ap aw tJ tP tx _ _ _ (fun k_=>(P0_ k_∨w.heap.size≤k_)∧some k_≠(.slice tn l0.length tm:Value).ownBlock) (fun _=>False) rfl rfl ?aO ?aR (fun _ _ h=>h) (fun _ h=>h.elim) ?aF ?aB ?aS ?aL ?_;(case aR=>exact(kV_ ZK))
        (case aB=>exact fi)
        (case aF=>exact(fun k_ hk=>⟨(.inr (Nat.le_trans fY hk)),Kd.fresh' (Kd.R_lt (aR_ Z1.out)) k_ hk⟩))
        (case aO=>exact(by(with_reducible repeat (first | apply Kd.R_alloc | apply Kd.R_drewN | apply Kd.R_drew));exact Kd.R_mono Zn.out (fun _ hk=>⟨hk.1.1,hk.2⟩)))
        (case aS=>exact fh)
        (case aL=>have:=tT.out;omega)
        intro tB vK ho hb hg hat;rw[← tV.out] at ho;replace Z1:=am_ (Kd.R_after (ok:=(fun k_=>(P0_ k_∨w.heap.size≤k_))) (aR_ Z1.out) hg hat);replace ZK:=am_ (Kd.V_afterv (ok:=(fun k_=>(P0_ k_∨w.heap.size≤k_))) (aV_ ZK.out) hg hat);replace ZM:=am_ (Kd.V_afterv (ok:=(fun k_=>(P0_ k_∨w.heap.size≤k_))) (aV_ ZM.out) hg hat);replace HB:=am_ (hb);replace HK:=am_ (Kept.of_grown (S:=(fun k_=>P0_ k_)) hg u6_ (fun k_ e_=>(Zn.out.1 k_ e_).1.1));have Zj:=am_ (ho);clear Zn ho hb hg hat;refine hK.out _ _ trivial (fun hHeld=>?_);clear hK K;refine nm_ ?_;refine ov_ 6 39 (fun K hK=>?_);refine Kd.R_lit_step Kd.string _ 9 ?hg (N:=39) ?hd (xs:=([a1] : List ByteArray)) (inner:=[.string a1]) (ok:=fun _=>True) (okp:=fun _=>True) ?hr ?hp (fun _ hk=>hk) trivial (Below.refl _ _) (Nat.le_refl _) bb ?_;(case hd=>rfl);(case hg=>rfl);(case hr=>exact bL);(case hp=>exact u79_);intro tr wl ho44 hb hg_ hnew_;clear hg_ hnew_;(first | rw[← tF.out] at ho44 | (simp only[Int.reduceToNat] at ho44;rw[← tF.out] at ho44))
        replace ZK:=am_ (Kd.V_elder' (aV_ ZK.out) (Kd.R_base ho44) hb);replace ZM:=am_ (Kd.V_elder' (aV_ ZM.out) (Kd.R_base ho44) hb);have Zw:=am_ (Kd.R_lower (Kd.R_new' (Kd.R_new' (Kd.R_newM (M:=fun k_=>(P0_ k_∨w.heap.size≤k_)) ho44 fY (fun k_ h_=>.inr h_)) (Kd.R_lt (aR_ Z1.out))) (Kd.R_lt (aR_ Zj.out))) (ar (bw_ HB)));replace Z1:=am_ (Kd.R_elder' (aR_ Z1.out) (Kd.R_base ho44) hb);replace Zj:=am_ (Kd.R_elder' (aR_ Zj.out) (Kd.R_base ho44) hb);replace HK:=am_ (Kept.below (S:=(fun k_=>P0_ k_)) u6_ hb);replace HB:=bs_ HB hb;clear hb ho44;refine hK.out _ _ trivial (fun hHeld=>?_);clear hK K;refine nm_ ?_;exact ea gS (hCont (tJ,tB,tr) _ ⟨(by(with_reducible repeat (first | apply Kd.V_alloc | apply Kd.V_drewN | apply Kd.V_drew));exact Kd.V_mono ZK.out (fun _ hk=>⟨hk.1.1,⟨hk.1.2,hk.2⟩⟩)),(by(with_reducible repeat (first | apply Kd.R_alloc | apply Kd.R_drewN | apply Kd.R_drew));exact Kd.R_mono Zj.out (fun _ hk=>⟨hk.1.1,⟨hk.2,hk.1.2⟩⟩)),(by(with_reducible repeat (first | apply Kd.R_alloc | apply Kd.R_drewN | apply Kd.R_drew));exact Kd.R_mono Zw.out (fun _ hk=>⟨hk.1.1.1,⟨hk.2,hk.1.2⟩⟩)),(by(with_reducible repeat (first | apply Kd.V_alloc | apply Kd.V_drewN | apply Kd.V_drew));exact Kd.V_mono ZM.out (fun _ hk=>⟨hk.1.1,⟨hk.1.2,hk.2⟩⟩)),u123_,u6_,(bw_ HB)⟩)
       ·skip
        refine Kd.R_lit_step Kd.string _ 9 ?hg (N:=39) ?hd (xs:=([a1] : List ByteArray)) (inner:=[.string a1]) (ok:=fun _=>True) (okp:=fun _=>True) ?hr ?hp (fun _ hk=>hk) trivial (Below.refl _ _) (Nat.le_refl _) bb ?_;(case hd=>rfl);(case hg=>rfl);(case hr=>exact bL);(case hp=>exact u79_);intro tr vK ho43 hb hg_ hnew_;clear hg_ hnew_;(first | rw[← tF.out] at ho43 | (simp only[Int.reduceToNat] at ho43;rw[← tF.out] at ho43))
        replace ZK:=am_ (Kd.V_elder' (aV_ ZK.out) (Kd.R_base ho43) hb);replace ZM:=am_ (Kd.V_elder' (aV_ ZM.out) (Kd.R_base ho43) hb);have Zw:=am_ (Kd.R_lower (Kd.R_new' (Kd.R_new' (Kd.R_newM (M:=fun k_=>(P0_ k_∨w.heap.size≤k_)) ho43 fY (fun k_ h_=>.inr h_)) (Kd.R_lt (aR_ Z1.out))) (Kd.R_lt (aR_ Zn.out))) (ar (bw_ HB)));replace Z1:=am_ (Kd.R_elder' (aR_ Z1.out) (Kd.R_base ho43) hb);replace Zn:=am_ (Kd.R_elder' (aR_ Zn.out) (Kd.R_base ho43) hb);replace HK:=am_ (Kept.below (S:=(fun k_=>P0_ k_)) u6_ hb);replace HB:=bs_ HB hb;clear hb ho43;refine hK.out _ _ trivial (fun hHeld=>?_);clear hK K;refine nm_ ?_;refine ov_ 4 37 (fun K hK=>?_);refine Kd.R_append_rows_step Kd.string (w0:=w0) w0.heap.size ct (.tmp 33) (.tmp 36) 30 9 (.string ⟨#[]⟩) 16 rfl Tryz.underlying30 eE rfl ap aw tJ tP tx _ _ _ (fun k_=>(P0_ k_∨w.heap.size≤k_)∧some k_≠(.slice tn l0.length tm:Value).ownBlock∧some k_≠(tr:Value).ownBlock) (fun _=>False) rfl rfl ?aO ?aR (fun _ _ h=>h) (fun _ h=>h.elim) ?aF ?aB ?aS ?aL ?_;(case aR=>exact(kV_ ZK))
        (case aB=>exact fi)
        (case aF=>exact qo)
        (case aO=>exact u113_)
        (case aS=>exact fh)
        (case aL=>have:=tT.out;omega)
        intro tB wa ho hb hg hat;rw[← tV.out] at ho;replace Z1:=am_ (Kd.R_after (ok:=(fun k_=>(P0_ k_∨w.heap.size≤k_)∧some k_≠(tr:Value).ownBlock)) u124_ hg hat);replace ZK:=am_ (Kd.V_afterv (ok:=(fun k_=>(P0_ k_∨w.heap.size≤k_)∧some k_≠(tr:Value).ownBlock)) (by(with_reducible repeat (first | apply Kd.V_alloc | apply Kd.V_drewN | apply Kd.V_drew));exact Kd.V_mono ZK.out (fun _ hk=>⟨⟨hk.1.1,hk.2⟩,hk.1.2⟩)) hg hat);replace ZM:=am_ (Kd.V_afterv (ok:=(fun k_=>(P0_ k_∨w.heap.size≤k_)∧some k_≠(tr:Value).ownBlock)) (by(with_reducible repeat (first | apply Kd.V_alloc | apply Kd.V_drewN | apply Kd.V_drew));exact Kd.V_mono ZM.out (fun _ hk=>⟨⟨hk.1.1,hk.2⟩,hk.1.2⟩)) hg hat);replace Zw:=am_ (Kd.R_after (ok:=(fun k_=>(P0_ k_∨w.heap.size≤k_)∧some k_≠(.slice tn l0.length tm:Value).ownBlock)) u114_ hg hat);replace HB:=am_ (hb);replace HK:=am_ (Kept.of_grown (S:=(fun k_=>P0_ k_)) hg u6_ (fun k_ e_=>(Zn.out.1 k_ e_).1.1.1));have Zj:=am_ (ho);clear Zn ho hb hg hat;refine hK.out _ _ trivial (fun hHeld=>?_);clear hK K;refine nm_ ?_;exact ea gS (hCont (tJ,tB,tr) _ ⟨u120_,u87_,u121_,u122_,u67_,u6_,(bw_ HB)⟩)
      ·skip
       refine Kd.R_lit_step Kd.string _ 9 ?hg (N:=39) ?hd (xs:=([a1] : List ByteArray)) (inner:=[.string a1]) (ok:=fun _=>True) (okp:=fun _=>True) ?hr ?hp (fun _ hk=>hk) trivial (Below.refl _ _) (Nat.le_refl _) bb ?_;(case hd=>rfl);(case hg=>rfl);(case hr=>exact bL);(case hp=>exact u79_);intro tr vZ ho41 hb hg_ hnew_;clear hg_ hnew_;(first | rw[← tF.out] at ho41 | (simp only[Int.reduceToNat] at ho41;rw[← tF.out] at ho41))
       replace ZK:=am_ (Kd.V_elder' (aV_ ZK.out) (Kd.R_base ho41) hb);replace ZM:=am_ (Kd.V_elder' (aV_ ZM.out) (Kd.R_base ho41) hb);have Zw:=am_ (Kd.R_lower (Kd.R_new' (Kd.R_newM (M:=fun k_=>(P0_ k_∨w.heap.size≤k_)) ho41 fY (fun k_ h_=>.inr h_)) (Kd.R_lt (aR_ Z1.out))) (ar (bw_ HB)));replace Z1:=am_ (Kd.R_elder' (aR_ Z1.out) (Kd.R_base ho41) hb);replace HK:=am_ (Kept.below (S:=(fun k_=>P0_ k_)) u6_ hb);replace HB:=bs_ HB hb;clear hb ho41;refine hK.out _ _ trivial (fun hHeld=>?_);clear hK K;refine nm_ ?_;refine ov_ 0 33 (fun K hK=>?_);refine Kd.R_lit_step Kd.string _ 9 ?hg (N:=33) ?hd (xs:=([] : List ByteArray)) (inner:=[]) (ok:=fun _=>True) (okp:=fun _=>True) ?hr ?hp (fun _ hk=>hk) trivial (Below.refl _ _) (Nat.le_refl _) bb ?_;(case hd=>rfl);(case hg=>rfl);(case hr=>exact bL);(case hp=>exact fj);intro tJ vK ho43 hb hg_ hnew_;clear hg_ hnew_;(first | rw[← tN.out] at ho43 | (simp only[Int.reduceToNat] at ho43;rw[← tN.out] at ho43))
       replace ZK:=am_ (Kd.V_elder' (aV_ ZK.out) (Kd.R_base ho43) hb);replace ZM:=am_ (Kd.V_elder' (aV_ ZM.out) (Kd.R_base ho43) hb);have Zn:=am_ (Kd.R_lower (Kd.R_new' (Kd.R_new' (Kd.R_newM (M:=fun k_=>(P0_ k_∨w.heap.size≤k_)) ho43 fY (fun k_ h_=>.inr h_)) (Kd.R_lt (aR_ Z1.out))) (Kd.R_lt (aR_ Zw.out))) (ar (bw_ HB)));replace Z1:=am_ (Kd.R_elder' (aR_ Z1.out) (Kd.R_base ho43) hb);replace Zw:=am_ (Kd.R_elder' (aR_ Zw.out) (Kd.R_base ho43) hb);replace HK:=am_ (Kept.below (S:=(fun k_=>P0_ k_)) u6_ hb);replace HB:=bs_ HB hb;clear hb ho43;refine hK.out _ _ trivial (fun hHeld=>?_);clear hK K;refine nm_ ?_;refine ov_ 4 37 (fun K hK=>?_);refine Kd.R_append_rows_step Kd.string (w0:=w0) w0.heap.size ct (.tmp 33) (.tmp 36) 30 9 (.string ⟨#[]⟩) 16 rfl Tryz.underlying30 eE rfl ap aw tJ tP tx _ _ _ (fun k_=>(P0_ k_∨w.heap.size≤k_)∧some k_≠(.slice tn l0.length tm:Value).ownBlock∧some k_≠(tr:Value).ownBlock) (fun _=>False) rfl rfl ?aO ?aR (fun _ _ h=>h) (fun _ h=>h.elim) ?aF ?aB ?aS ?aL ?_;(case aR=>exact(kV_ ZK))
       (case aB=>exact fi)
       (case aF=>exact qo)
       (case aO=>exact u113_)
       (case aS=>exact fh)
       (case aL=>have:=tT.out;omega)
       intro tB wa ho hb hg hat;rw[← tV.out] at ho;replace Z1:=am_ (Kd.R_after (ok:=(fun k_=>(P0_ k_∨w.heap.size≤k_)∧some k_≠(tr:Value).ownBlock)) (aR_ Z1.out) hg hat);replace ZK:=am_ (Kd.V_afterv (ok:=(fun k_=>(P0_ k_∨w.heap.size≤k_)∧some k_≠(tr:Value).ownBlock)) (aV_ ZK.out) hg hat);replace ZM:=am_ (Kd.V_afterv (ok:=(fun k_=>(P0_ k_∨w.heap.size≤k_)∧some k_≠(tr:Value).ownBlock)) (aV_ ZM.out) hg hat);replace Zw:=am_ (Kd.R_after (ok:=(fun k_=>(P0_ k_∨w.heap.size≤k_)∧some k_≠(.slice tn l0.length tm:Value).ownBlock)) u114_ hg hat);replace HB:=am_ (hb);replace HK:=am_ (Kept.of_grown (S:=(fun k_=>P0_ k_)) hg u6_ (fun k_ e_=>(Zn.out.1 k_ e_).1.1.1));have Zj:=am_ (ho);clear Zn ho hb hg hat;refine hK.out _ _ trivial (fun hHeld=>?_);clear hK K;refine nm_ ?_;exact ea gS (hCont (tJ,tB,tr) _ ⟨u120_,u87_,u121_,u122_,u67_,u6_,(bw_ HB)⟩)
     rintro ⟨tJ,tB,tr⟩ uB ⟨h0_,h1_,h2_,h3_,h4_,h5_,h6_⟩;have n0_:aa (Kd.V Kd.string 9 uB w0.heap.size (fun k_=>(P0_ k_∨w.heap.size≤k_)∧some k_≠(tB:Value).ownBlock∧some k_≠(tr:Value).ownBlock) (.slice tn tx.length tm) tx):=⟨h0_⟩;have n1_:aa (Kd.R Kd.string 9 uB w0.heap.size (fun k_=>(P0_ k_∨w.heap.size≤k_)∧some k_≠(tr:Value).ownBlock∧some k_≠(.slice tn l0.length tm:Value).ownBlock) tB tL):=⟨h1_⟩;have n2_:aa (Kd.R Kd.string 9 uB w0.heap.size (fun k_=>(P0_ k_∨w.heap.size≤k_)∧some k_≠(tB:Value).ownBlock∧some k_≠(.slice tn l0.length tm:Value).ownBlock) tr tD):=⟨h2_⟩;have n3_:aa (Kd.V Kd.string 9 uB w0.heap.size (fun k_=>(P0_ k_∨w.heap.size≤k_)∧some k_≠(tB:Value).ownBlock∧some k_≠(tr:Value).ownBlock) (.slice uR tv.length uT) tv):=⟨h3_⟩;have n4_:aa (Kd.R Kd.string 9 uB w0.heap.size (fun k_=>(P0_ k_∨w.heap.size≤k_)∧some k_≠(tB:Value).ownBlock∧some k_≠(tr:Value).ownBlock) (.slice tn l0.length tm) l0):=⟨h4_⟩;have n5_:aa (Kept w uB (fun k_=>P0_ k_)):=⟨h5_⟩;have n6_:aa (Below w0.heap.size w0 uB):=⟨h6_⟩;clear Z1 HK HB h0_ h1_ h2_ h3_ h4_ h5_ h6_;have Zj:=n1_;have Zw:=n2_;have ZM:=n3_;have Z1:=n4_;have HK:=n5_;have HB:=n6_;clear n0_ n1_ n2_ n3_ n4_ n5_ n6_;have hHeld:=trivial;obtain⟨ua,uc,uP⟩:=Kd.R_slice Zw.out;(first | subst uP | (injection uP with f1_ f2_ f3_;have f4_:=f1_.symm;have f5_:=f3_.symm;clear f1_ f2_ f3_;subst f4_;subst f5_))
     refine ea (a':=?_) ?_ ?_;rotate_left
     ·exact u68_
     refine ov_ 7 40 (fun K hK=>?_);refine Kd.R_append_rows_step Kd.string (w0:=w0) w0.heap.size ct (.tmp 37) (.tmp 39) 30 9 (.string ⟨#[]⟩) 16 rfl Tryz.underlying30 eE rfl ap aw tB tL tD _ _ _ (fun k_=>(P0_ k_∨w.heap.size≤k_)∧some k_≠(.slice tn l0.length tm:Value).ownBlock∧some k_≠(.slice ua tD.length uc:Value).ownBlock) (fun _=>False) rfl rfl ?aO ?aR (fun _ _ h=>h) (fun _ h=>h.elim) ?aF ?aB ?aS ?aL ?_;(case aR=>exact(kR_ Zw))
     (case aB=>exact fi)
     (case aF=>exact qo)
     (case aO=>exact u87_)
     (case aS=>exact fh)
     (case aL=>have:=uG.out;omega)
     intro vq wm ho hb hg hat;rw[← uK.out] at ho;replace Z1:=am_ (Kd.R_after (ok:=(fun k_=>(P0_ k_∨w.heap.size≤k_)∧some k_≠(.slice ua tD.length uc:Value).ownBlock)) u125_ hg hat);replace ZM:=am_ (Kd.V_afterv (ok:=(fun k_=>(P0_ k_∨w.heap.size≤k_)∧some k_≠(.slice ua tD.length uc:Value).ownBlock)) (by(with_reducible repeat (first | apply Kd.V_alloc | apply Kd.V_drewN | apply Kd.V_drew));exact Kd.V_mono ZM.out (fun _ hk=>⟨⟨hk.1,hk.2.2⟩,hk.2.1⟩)) hg hat);replace Zw:=am_ (Kd.R_after (ok:=(fun k_=>(P0_ k_∨w.heap.size≤k_)∧some k_≠(.slice tn l0.length tm:Value).ownBlock)) (by(with_reducible repeat (first | apply Kd.R_alloc | apply Kd.R_drewN | apply Kd.R_drew));exact Kd.R_mono Zw.out (fun _ hk=>⟨⟨hk.1,hk.2.2⟩,hk.2.1⟩)) hg hat);replace HB:=am_ (hb);replace HK:=am_ (Kept.of_grown (S:=(fun k_=>P0_ k_)) hg u6_ (fun k_ e_=>(Zj.out.1 k_ e_).1));have tR:=am_ (ho);clear Zj ho hb hg hat;refine hK.out _ _ trivial (fun hHeld=>?_);clear hK K;refine nm_ ?_;refine ov_ 11 44 (fun K hK=>?_);refine Kd.R_append_rows_step Kd.string (w0:=w0) w0.heap.size ct (.tmp 40) (.tmp 43) 30 9 (.string ⟨#[]⟩) 16 rfl Tryz.underlying30 eE rfl ap aw vq t7 tv _ _ _ (fun k_=>(P0_ k_∨w.heap.size≤k_)∧some k_≠(.slice tn l0.length tm:Value).ownBlock∧some k_≠(.slice ua tD.length uc:Value).ownBlock) (fun _=>False) rfl rfl ?aO ?aR (fun _ _ h=>h) (fun _ h=>h.elim) ?aF ?aB ?aS ?aL ?_;(case aR=>exact(kV_ ZM))
     (case aB=>exact fi)
     (case aF=>exact qo)
     (case aO=>exact(aR_ tR.out))
     (case aS=>exact fh)
     (case aL=>have:=uH.out;omega)
     intro vW wn ho hb hg hat;rw[← uL.out] at ho;replace HB:=am_ (hb);replace HK:=am_ (Kept.of_grown (S:=(fun k_=>P0_ k_)) hg u6_ (fun k_ e_=>(tR.out.1 k_ e_).1));have uD:=am_ (ho);clear tR ho hb hg hat;refine hK.out _ _ trivial (fun hHeld=>?_);clear hK K;refine nm_ ?_;refine pv_ 12 4 ?_;refine dn_ HT_ ?_;try go_wp2
     go_ret
     exact⟨_,u1_,by(with_reducible repeat (first | apply Kd.R_alloc | apply Kd.R_drewN | apply Kd.R_drew));exact Kd.R_mono uD.out (fun _ hk=>hk.1),bw_ HB,u6_⟩
    ·rw[if_neg uN] at H;exact absurd H bb
def bN.l0:Nat→List ByteArray→List ByteArray→Int→Option (List ByteArray × Bool)
 | 0,_,_,_=>none
 | k+1,x4,x5,x6=>if x6<(x5.length:Int) then(if 0≤x6 then((a6.f k (bC ByteArray.empty x5 x6)).bind fun tk=>(if tk=true then((bH.f k x4 (bC ByteArray.empty x5 x6)).bind fun tl=>(bN.l0 k tl x5 (wrap64 (x6+1)))) else(some ((([] : List ByteArray)),false)))) else(none)) else(some (x4,decide ((x5.length:Int)≤4)))
def bN.f (k:Nat) (a0:ByteArray):Option (List ByteArray × Bool):=(bx.f k a0 44 (wrap64 ((a0.size:Int)+1))).bind fun tk=>(bN.l0 k (([] : List ByteArray)) tk 0)
theorem bN.calls (k:Nat) (a0:ByteArray) (r1:List ByteArray) (r2:Bool) (w:World) (h:bN.f k a0=some (r1,r2)) :
  Calls Tryz.prog 138 #[.string a0] w fun e w'=>∃v0_:Value,e = .returned (.tuple #[v0_,.bool r2])∧Kd.R Kd.string 9 w' w.heap.size (fun _=>True) v0_ r1∧Below w.heap.size w w':=by
 have HB:=am_ (Below.refl w.heap.size w);have H:=h;clear h;unfold bN.f at H
 obtain⟨tI,tm⟩:∃y_:List ByteArray,y_=(([] : List ByteArray)):=⟨_,rfl⟩;replace H:((bx.f k a0 44 (wrap64 ((a0.size:Int)+1))).bind fun tk=>(bN.l0 k tI tk 0))=some (r1,r2):=by first | (rw[tm];with_reducible exact H)|(have H2_:=(Option.bind_some _ _).symm.trans H;rw[tm];with_reducible exact H2_)|(have H2_:=(Option.bind_some _ _).symm.trans H;with_reducible exact H2_) | with_reducible exact H | (rw[tm];exact H) | exact H
 have tu:=am_ tm;clear tm;obtain⟨tk,A2,H⟩:=bi_ H;have H':=am_ H;clear H;go_enter Tryz.func138,Tryz.ntmps138
 go_wp2_with (first | ((with_reducible refine aA (N:=7) rfl ?_);refine Kd.R_lit Kd.string _ 9 ?hg (N:=7) ?hd (xs:=([] : List ByteArray)) (inner:=[]) (ok:=fun _=>True) (okp:=fun _=>True) ?hr ?hp (fun _ hk=>hk) trivial (Below.refl _ _) (Nat.le_refl _) bb ?_;(case hd=>rfl);(case hg=>rfl);(case hr=>exact bL);(case hp=>exact fj);intro t6 w3 ho4 hb hg_ hnew_;clear hg_ hnew_;(first | rw[← tu.out] at ho4 | (simp only[Int.reduceToNat] at ho4;rw[← tu.out] at ho4));have tq:=am_ (Kd.R_lower ho4 (ar (bw_ HB)));replace HB:=bs_ HB hb;clear hb ho4)|((with_reducible refine gt_ 12 ?_);refine gf_ 12 Tryz.func159 (bx.calls k a0 44 (wrap64 ((a0.size:Int)+1)) tk _ A2.out) ?_;rintro e w5 ⟨tH,rfl,ho0,hb⟩;refine⟨_,rfl,?_⟩;have tB:=am_ (Kd.R_lower (Kd.R_new' ho0 (Kd.R_lt (aR_ tq.out))) (ar (bw_ HB)));replace tq:=am_ (Kd.R_elder' (aR_ tq.out) (Kd.R_base ho0) hb);replace HB:=bs_ HB hb;(try clear hb);(try clear ho0)))
 go_loopg [4,6] k (fun kq v4 v6 w'=>∃(tr:List ByteArray) (tl:Int),v6 = .int .i64 tl∧aa (bN.l0 kq tr tk tl=some (r1,r2))∧aa (kq≤k)∧aa (Kd.R Kd.string 9 w' w.heap.size (fun k_=>some k_≠(tH:Value).ownBlock) v4 tr)∧aa (Kd.R Kd.string 9 w' w.heap.size (fun k_=>some k_≠(v4:Value).ownBlock) tH tk)∧aa (Below w.heap.size w w'))
 case atStart=>exact⟨(tI),(0),u4_,H',⟨Nat.le_refl _⟩,⟨by(with_reducible repeat (first | apply Kd.R_alloc | apply Kd.R_drewN | apply Kd.R_drew));exact Kd.R_mono tq.out (fun _ hk=>hk.2)⟩,⟨by(with_reducible repeat (first | apply Kd.R_alloc | apply Kd.R_drewN | apply Kd.R_drew));exact Kd.R_mono tB.out (fun _ hk=>hk.2)⟩,⟨bw_ HB⟩⟩
 case round=>
  clear H';obtain⟨tr,tl,rfl,HA,HK1,ZY,Zh,HB⟩:=hrel;cases gk with
  | zero=>exact absurd HA.out (by simp[bN.l0])
  | succ k1=>
   have H:=HA.out;clear HA;simp only[bN.l0] at H;by_cases c6:tl<(tk.length:Int)
   ·rw[if_pos c6] at H;have tL:=decide_eq_true c6;clear c6;obtain⟨tW,H⟩:=gd_ H;obtain⟨tR,A8,H⟩:=bi_ H;have HC_:=am_ H;clear H;obtain⟨ZE,ZG,tP⟩:=Kd.R_slice Zh.out;subst tP;obtain⟨tw,tM,tJ⟩:=Kd.at_string (Kd.R_reads' Zh.out).2.2 tl od_ od_;cases tM;obtain⟨tY,tZ⟩:=pt_ tl tk.length;have H:=HC_.out;clear HC_;cases tR
    ·replace H:=hf_ H;obtain⟨tT,tn⟩:∃y_:List ByteArray,y_=(([] : List ByteArray)):=⟨_,rfl⟩;replace H:(some (tT,false))=some (r1,r2):=by first | (rw[tn];with_reducible exact H)|(have H2_:=(Option.bind_some _ _).symm.trans H;rw[tn];with_reducible exact H2_)|(have H2_:=(Option.bind_some _ _).symm.trans H;with_reducible exact H2_) | with_reducible exact H | (rw[tn];exact H) | exact H
     have tv:=am_ tn;clear tn;simp only[Option.some.injEq,Prod.mk.injEq] at H;obtain⟨rfl,rfl⟩:=H;go_wp2_with (first | ((with_reducible refine gt_ 23 ?_);refine gD_ 23 Tryz.func99 (a6.calls k1 (bC ByteArray.empty tk tl) false _ A8.out) ?_;intro nd)|((with_reducible refine aA (N:=25) rfl ?_);refine Kd.R_lit Kd.string _ 9 ?hg (N:=25) ?hd (xs:=([] : List ByteArray)) (inner:=[]) (ok:=fun _=>True) (okp:=fun _=>True) ?hr ?hp (fun _ hk=>hk) trivial (Below.refl _ _) (Nat.le_refl _) bb ?_;(case hd=>rfl);(case hg=>rfl);(case hr=>exact bL);(case hp=>exact fj);intro t7 ua ho16 hb hg_ hnew_;clear hg_ hnew_;(first | rw[← tv.out] at ho16 | (simp only[Int.reduceToNat] at ho16;rw[← tv.out] at ho16));have tD:=am_ (Kd.R_lower (Kd.R_new' (Kd.R_new' ho16 (Kd.R_lt (aR_ ZY.out))) (Kd.R_lt (aR_ Zh.out))) (ar (bw_ HB)));replace HB:=bs_ HB hb;clear hb ho16))
     go_ret2
     exact⟨_,u1_,by(with_reducible repeat (first | apply Kd.R_alloc | apply Kd.R_drewN | apply Kd.R_drew));exact Kd.R_mono tD.out (fun _ hk=>trivial),bw_ HB⟩
    ·replace H:=ht_ H;obtain⟨tG,tU,H⟩:=bi_ H;have H':=am_ H;clear H;go_wp2_with (first | ((with_reducible refine gt_ 23 ?_);refine gD_ 23 Tryz.func99 (a6.calls k1 (bC ByteArray.empty tk tl) true _ A8.out) ?_;intro nd;obtain⟨tx,tz⟩:=pq_ tl tk.length;obtain⟨tE,tN,tK⟩:=Kd.at_string (Kd.R_reads' Zh.out).2.2 tl tx tz;obtain rfl:tw=tE:=(by injection tN);obtain⟨tx,tz⟩:=tt_ tx tz;obtain⟨tA,tF,tO⟩:=Kd.R_slice ZY.out;subst tO)|((with_reducible refine gt_ 31 ?_);refine gf_ 31 Tryz.func160 (bH.calls k1 (fun k_=>some k_=(.slice tA tr.length tF:Value).ownBlock) (.slice tA tr.length tF) tr (bC ByteArray.empty tk tl) tG w _ ?side1 ?side2 tU.out) ?_;(case side1=>repeat (first | (with_reducible first | exact HB.out | apply aE | apply al | apply au) | exact HB.out));(case side2=>exact Kd.R_tight rfl ZY.out);rintro e t8 ⟨tS,rfl,ho0,hb,hkp⟩;refine⟨_,rfl,?_⟩;have tC:=am_ (Kd.R_mono (ok':=fun k_=>some k_≠(.slice (some tw) tk.length ZG:Value).ownBlock) ho0 (fun k_ hk_=>Or.elim hk_ (fun hs_=>fun e_=>(((Zh.out).1 k_ e_.symm)) hs_) (fun hn_=>(Kd.fresh' (Kd.R_lt (aR_ Zh.out)) k_ hn_))));replace Zh:=am_ (Kd.R_mono (ok':=fun k_=>some k_≠(tS:Value).ownBlock) (Kd.R_keptB (Zh.out) hkp (fun k_ hk_ hs_=>(hk_) hs_)) (fun k_ hk_=>fun e_=>Or.elim (ho0.1 k_ e_.symm) (fun hs_=>hk_.2.1 hs_) (fun hn_=>Nat.not_le.2 hk_.2.2 hn_)));replace HB:=am_ (hb);clear ZY;(try clear hb);(try clear hkp);(try clear ho0)))
     go_roundg k1
     case measure=>have:=HK1.out;omega
     case rel=>exact⟨(tG),(wrap64 (tl+1)),u4_,H',⟨dH⟩,⟨aR_ tC.out⟩,⟨aR_ Zh.out⟩,⟨bw_ HB⟩⟩
   ·rw[if_neg c6] at H;have tL:=decide_eq_false c6;clear c6;simp only[Option.some.injEq,Prod.mk.injEq] at H;obtain⟨rfl,rfl⟩:=H;obtain⟨tV,tX,tQ⟩:=Kd.R_slice Zh.out;subst tQ;go_wp2;go_ret2
    exact⟨_,u1_,by(with_reducible repeat (first | apply Kd.R_alloc | apply Kd.R_drewN | apply Kd.R_drew));exact Kd.R_mono ZY.out (fun _ hk=>trivial),bw_ HB⟩
def bw.l0:Nat→ByteArray→Int→Option (Bool)
 | 0,_,_=>none
 | k+1,x0,x3=>if x3<(x0.size:Int) then(if 0≤x3 then((ck.f (wrap64 (bt x0 x3)) 32 126).bind fun tk=>(if tk=true then(bw.l0 k x0 (wrap64 (x3+1))) else(some false))) else(none)) else(some (decide ((x0.size:Int)≤60)))
def bw.f (k:Nat) (a0:ByteArray):Option (Bool):=bw.l0 k a0 0
theorem bw.calls (k:Nat) (a0:ByteArray) (r:Bool) (w:World) (h:bw.f k a0=some r) :
  Calls Tryz.prog 139 #[.string a0] w fun e w'=>e = .returned (.bool r)∧Drawn0 w w':=by
 have H:=h;clear h;unfold bw.f at H
 have H':=am_ H;clear H;go_enter Tryz.func139,Tryz.ntmps139
 go_wp2;go_loopg [3] k (fun kq v3 w'=>∃(tk:Int),v3 = .int .i64 tk∧aa (bw.l0 kq a0 tk=some r)∧aa (kq≤k)∧Drawn0 w w')
 case atStart=>exact⟨(0),u4_,H',⟨Nat.le_refl _⟩,u7_⟩
 case round=>
  clear H';obtain⟨tk,rfl,HA,HK1,⟨m1,rfl⟩⟩:=hrel;cases gk with
  | zero=>exact absurd HA.out (by simp[bw.l0])
  | succ k1=>
   have H:=HA.out;clear HA;simp only[bw.l0] at H;by_cases c2:tk<(a0.size:Int)
   ·rw[if_pos c2] at H;have tl:=decide_eq_true c2;clear c2;obtain⟨tn,H⟩:=gd_ H;obtain⟨tm,A5,H⟩:=bi_ H;have HC_:=am_ H;clear H;obtain⟨p4,q4⟩:=pq_ tk a0.size;have tq:=d8 a0 tk;obtain⟨p4,q4⟩:=tt_ p4 q4;have H:=HC_.out;clear HC_;cases tm
    ·replace H:=hf_ H;obtain rfl:=si_ H;go_wp2_with (first | ((with_reducible refine gt_ 14 ?_);refine gD_ 14 Tryz.func52 (ck.calls (wrap64 (bt a0 tk)) 32 126 false _ A5.out) ?_;intro nd))
     go_ret
     exact⟨u9_,u7_⟩
    ·replace H:=ht_ H;have H':=am_ H;clear H;go_wp2_with (first | ((with_reducible refine gt_ 14 ?_);refine gD_ 14 Tryz.func52 (ck.calls (wrap64 (bt a0 tk)) 32 126 true _ A5.out) ?_;intro nd))
     go_roundg k1
     case measure=>have:=HK1.out;omega
     case rel=>exact⟨(wrap64 (tk+1)),u4_,H',⟨dH⟩,u7_⟩
   ·rw[if_neg c2] at H;have tl:=decide_eq_false c2;clear c2;obtain rfl:=si_ H;go_wp2;go_ret
    exact⟨u9_,u7_⟩
def el.f (k:Nat) (a0_0:ByteArray) (a0_1:Int) (a0_2:Int) (a1:ByteArray):Option (Bool):=(bq.f k a1).bind fun tl=>((bN.f k a1).bind fun tk=>((bw.f k a1).bind fun tm=>(if tm=true then(if a0_1=1 then(some true) else(if a0_1=2 then(if tl.2=true then(some true) else(if a0_1=3 then(some tk.2) else(some false))) else(if a0_1=3 then(some tk.2) else(some false)))) else(some false))))
theorem el.calls (k:Nat) (a0_0:ByteArray) (a0_1:Int) (a0_2:Int) (a1:ByteArray) (r:Bool) (w:World) (h:el.f k a0_0 a0_1 a0_2 a1=some r) :
  Calls Tryz.prog 97 #[.agg #[.string a0_0,.int .i64 a0_1,.int .i64 a0_2],.string a1] w fun e w'=>e = .returned (.bool r)∧Below w.heap.size w w':=by
 have hu92:=Tryz.underlying92;have HB:=am_ (Below.refl w.heap.size w);have H:=h;clear h;unfold el.f at H
 obtain⟨⟨tn,tv⟩,A3,H⟩:=bi_ H;dsimp only at H;obtain⟨⟨tq,tr⟩,A4,H⟩:=bi_ H;dsimp only at H;obtain⟨uq,A5,H⟩:=bi_ H;cases uq
 ·replace H:=hf_ H;obtain rfl:=si_ H;go_enter Tryz.func97,Tryz.ntmps97
  go_wp2_with (first | ((with_reducible refine gt_ 2 ?_);refine bx_ 2 #[.string a0_0,.int .i64 a0_1,.int .i64 a0_2] 92 ?_;intro tm hg uB hbox hb;have tl:=gw_ HB hg;replace HB:=bs_ HB hb;clear hb hbox hg)|((with_reducible refine gt_ 11 ?_);refine gD_ 11 Tryz.func137 (bq.calls k a1 tn tv _ A3.out) ?_;intro nd)|((with_reducible refine gt_ 16 ?_);refine gf_ 16 Tryz.func138 (bN.calls k a1 tq tr _ A4.out) ?_;rintro e uC ⟨tu,rfl,ho0,hb⟩;refine⟨_,rfl,?_⟩;replace HB:=bs_ HB hb;(try clear hb);(try clear ho0))|((with_reducible refine gt_ 20 ?_);refine gD_ 20 Tryz.func139 (bw.calls k a1 false _ A5.out) ?_;intro nd))
  go_ret
  exact⟨u1_,bw_ HB⟩
 ·replace H:=ht_ H;by_cases c7:a0_1=1
  ·rw[if_pos c7] at H;have un:=cW c7;have uo:=cX c7;clear c7;obtain rfl:=si_ H;go_enter Tryz.func97,Tryz.ntmps97
   go_wp2_with (first | ((with_reducible refine gt_ 2 ?_);refine bx_ 2 #[.string a0_0,.int .i64 a0_1,.int .i64 a0_2] 92 ?_;intro tm hg w8 hbox hb;have tk:=am_ (hbox);have tl:=gw_ HB hg;replace HB:=bs_ HB hb;clear hb hbox hg)|((with_reducible refine gt_ 11 ?_);refine gD_ 11 Tryz.func137 (bq.calls k a1 tn tv _ A3.out) ?_;intro nd)|((with_reducible refine gt_ 16 ?_);refine gf_ 16 Tryz.func138 (bN.calls k a1 tq tr _ A4.out) ?_;rintro e w9 ⟨tu,rfl,ho0,hb⟩;refine⟨_,rfl,?_⟩;replace tk:=bb_ tk hb;replace HB:=bs_ HB hb;(try clear hb);(try clear ho0))|((with_reducible refine gt_ 20 ?_);refine gD_ 20 Tryz.func139 (bw.calls k a1 true _ A5.out) ?_;intro nd;obtain⟨tG,tH,tI,tY,tZ,t6⟩:=dm tk.out))
   go_ret
   exact⟨u1_,bw_ HB⟩
  ·rw[if_neg c7] at H;have un:=cO c7;have uo:=cQ c7;by_cases tw:a0_1=2
   ·rw[if_pos tw] at H;have tA:=cW tw;have tB:=cX tw;clear tw;cases tv
    ·replace H:=hf_ H;by_cases tx:a0_1=3
     ·rw[if_pos tx] at H;have tC:=cW tx;have tD:=cX tx;clear tx;obtain rfl:=si_ H;go_enter Tryz.func97,Tryz.ntmps97
      go_wp2_with (first | ((with_reducible refine gt_ 2 ?_);refine bx_ 2 #[.string a0_0,.int .i64 a0_1,.int .i64 a0_2] 92 ?_;intro tm hg ut hbox hb;have tk:=am_ (hbox);have tl:=gw_ HB hg;replace HB:=bs_ HB hb;clear hb hbox hg)|((with_reducible refine gt_ 11 ?_);refine gD_ 11 Tryz.func137 (bq.calls k a1 tn false _ A3.out) ?_;intro nd)|((with_reducible refine gt_ 16 ?_);refine gf_ 16 Tryz.func138 (bN.calls k a1 tq tr _ A4.out) ?_;rintro e uu ⟨tu,rfl,ho0,hb⟩;refine⟨_,rfl,?_⟩;replace tk:=bb_ tk hb;replace HB:=bs_ HB hb;(try clear hb);(try clear ho0))|((with_reducible refine gt_ 20 ?_);refine gD_ 20 Tryz.func139 (bw.calls k a1 true _ A5.out) ?_;intro nd;obtain⟨tM,tN,tO,ub,uc,ud⟩:=dm tk.out))
      go_ret
      exact⟨u1_,bw_ HB⟩
     ·rw[if_neg tx] at H;have tC:=cO tx;have tD:=cQ tx;obtain rfl:=si_ H;go_enter Tryz.func97,Tryz.ntmps97
      go_wp2_with (first | ((with_reducible refine gt_ 2 ?_);refine bx_ 2 #[.string a0_0,.int .i64 a0_1,.int .i64 a0_2] 92 ?_;intro tm hg uv hbox hb;have tk:=am_ (hbox);have tl:=gw_ HB hg;replace HB:=bs_ HB hb;clear hb hbox hg)|((with_reducible refine gt_ 11 ?_);refine gD_ 11 Tryz.func137 (bq.calls k a1 tn false _ A3.out) ?_;intro nd)|((with_reducible refine gt_ 16 ?_);refine gf_ 16 Tryz.func138 (bN.calls k a1 tq tr _ A4.out) ?_;rintro e uw ⟨tu,rfl,ho0,hb⟩;refine⟨_,rfl,?_⟩;replace tk:=bb_ tk hb;replace HB:=bs_ HB hb;(try clear hb);(try clear ho0))|((with_reducible refine gt_ 20 ?_);refine gD_ 20 Tryz.func139 (bw.calls k a1 true _ A5.out) ?_;intro nd;obtain⟨tP,tQ,tR,ue,uf,ug⟩:=dm tk.out))
      go_ret
      exact⟨u1_,bw_ HB⟩
    ·replace H:=ht_ H;obtain rfl:=si_ H;go_enter Tryz.func97,Tryz.ntmps97
     go_wp2_with (first | ((with_reducible refine gt_ 2 ?_);refine bx_ 2 #[.string a0_0,.int .i64 a0_1,.int .i64 a0_2] 92 ?_;intro tm hg ur hbox hb;have tk:=am_ (hbox);have tl:=gw_ HB hg;replace HB:=bs_ HB hb;clear hb hbox hg)|((with_reducible refine gt_ 11 ?_);refine gD_ 11 Tryz.func137 (bq.calls k a1 tn true _ A3.out) ?_;intro nd)|((with_reducible refine gt_ 16 ?_);refine gf_ 16 Tryz.func138 (bN.calls k a1 tq tr _ A4.out) ?_;rintro e us ⟨tu,rfl,ho0,hb⟩;refine⟨_,rfl,?_⟩;replace tk:=bb_ tk hb;replace HB:=bs_ HB hb;(try clear hb);(try clear ho0))|((with_reducible refine gt_ 20 ?_);refine gD_ 20 Tryz.func139 (bw.calls k a1 true _ A5.out) ?_;intro nd;obtain⟨tJ,tK,tL,t7,t8,ua⟩:=dm tk.out))
     go_ret
     exact⟨u1_,bw_ HB⟩
   ·rw[if_neg tw] at H;have tA:=cO tw;have tB:=cQ tw;by_cases tz:a0_1=3
    ·rw[if_pos tz] at H;have tE:=cW tz;have tF:=cX tz;clear tz;obtain rfl:=si_ H;go_enter Tryz.func97,Tryz.ntmps97
     go_wp2_with (first | ((with_reducible refine gt_ 2 ?_);refine bx_ 2 #[.string a0_0,.int .i64 a0_1,.int .i64 a0_2] 92 ?_;intro tm hg ux hbox hb;have tk:=am_ (hbox);have tl:=gw_ HB hg;replace HB:=bs_ HB hb;clear hb hbox hg)|((with_reducible refine gt_ 11 ?_);refine gD_ 11 Tryz.func137 (bq.calls k a1 tn tv _ A3.out) ?_;intro nd)|((with_reducible refine gt_ 16 ?_);refine gf_ 16 Tryz.func138 (bN.calls k a1 tq tr _ A4.out) ?_;rintro e uy ⟨tu,rfl,ho0,hb⟩;refine⟨_,rfl,?_⟩;replace tk:=bb_ tk hb;replace HB:=bs_ HB hb;(try clear hb);(try clear ho0))|((with_reducible refine gt_ 20 ?_);refine gD_ 20 Tryz.func139 (bw.calls k a1 true _ A5.out) ?_;intro nd;obtain⟨tS,tT,tU,uh,ui,uj⟩:=dm tk.out))
     go_ret
     exact⟨u1_,bw_ HB⟩
    ·rw[if_neg tz] at H;have tE:=cO tz;have tF:=cQ tz;obtain rfl:=si_ H;go_enter Tryz.func97,Tryz.ntmps97
     go_wp2_with (first | ((with_reducible refine gt_ 2 ?_);refine bx_ 2 #[.string a0_0,.int .i64 a0_1,.int .i64 a0_2] 92 ?_;intro tm hg uz hbox hb;have tk:=am_ (hbox);have tl:=gw_ HB hg;replace HB:=bs_ HB hb;clear hb hbox hg)|((with_reducible refine gt_ 11 ?_);refine gD_ 11 Tryz.func137 (bq.calls k a1 tn tv _ A3.out) ?_;intro nd)|((with_reducible refine gt_ 16 ?_);refine gf_ 16 Tryz.func138 (bN.calls k a1 tq tr _ A4.out) ?_;rintro e uA ⟨tu,rfl,ho0,hb⟩;refine⟨_,rfl,?_⟩;replace tk:=bb_ tk hb;replace HB:=bs_ HB hb;(try clear hb);(try clear ho0))|((with_reducible refine gt_ 20 ?_);refine gD_ 20 Tryz.func139 (bw.calls k a1 true _ A5.out) ?_;intro nd;obtain⟨tV,tW,tX,uk,ul,um⟩:=dm tk.out))
     go_ret
     exact⟨u1_,bw_ HB⟩
end Go.Proofs.YtnjjdojonflckaaGreatDoor.PFnIndexTerms
