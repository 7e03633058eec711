/- Contracts of Go functions, each told as a plain Lean function. -/
import Derived.Test.YtnjjdojonflckaaGreatDoorKPFnIndexPostsx0
namespace Go.Proofs.YtnjjdojonflckaaGreatDoor.PFnIndexPosts
open Go.RowKit Go.Proofs.YtnjjdojonflckaaGreatDoorW.PrintWords Go.Proofs.YtnjjdojonflckaaGreatDoorW.PrintLast Go.Proofs.YtnjjdojonflckaaGreatDoorW.PrintMore
attribute [local go_sem] be bc bQ bS cu cw bD bC bT bR
set_option linter.unusedVariables false
set_option linter.unusedSimpArgs false
set_option maxHeartbeats 8000000
set_option maxRecDepth 100000
def bd.f (a0:Int) (a1:Int) (a2:Int):Option (Bool):=if a0≥a1 then(some (decide (a0≤a2))) else(some false)
theorem bd.calls (a0:Int) (a1:Int) (a2:Int) (r:Bool) (w:World) (h:bd.f a0 a1 a2=some r) :
  Calls Tryz.prog 64 #[.int .i64 a0,.int .i64 a1,.int .i64 a2] w fun e w'=>e = .returned (.bool r)∧Drawn0 w w':=by
 have H:=h;clear h;unfold bd.f at H
 by_cases c4:a0≥a1
 ·rw[if_pos c4] at H;have tg:decide (a1≤a0)=true:=decide_eq_true c4;clear c4;obtain rfl:=si_ H;go_enter Tryz.func64,Tryz.ntmps64
  go_wp2;go_ret
  exact⟨cD,u7_⟩
 ·rw[if_neg c4] at H;have tg:decide (a1≤a0)=false:=decide_eq_false c4;clear c4;obtain rfl:=si_ H;go_enter Tryz.func64,Tryz.ntmps64
  go_wp2;go_ret
  exact⟨cD,u7_⟩
def aQ.l0:Nat→List ByteArray→ByteArray→Int→Int→Option (Int)
 | 0,_,_,_,_=>none
 | k+1,x0,x1,x7,x8=>if x8<x7 then(if 0≤x8 then(if x8<(x0.length:Int) then(if x1.toList=(cZ ByteArray.empty x0 x8).toList then(some x8) else(aQ.l0 k x0 x1 x7 (wrap64 (x8+1)))) else(none)) else(none)) else(some (-1))
def aQ.f (k:Nat) (l0:List ByteArray) (a1:ByteArray):Option (Int):=aQ.l0 k l0 a1 (l0.length:Int) 0
theorem aQ.calls (k:Nat) (A0:Option Addr) (c0:Nat) (l0:List ByteArray) (a1:ByteArray) (r:Int) (w:World) (hr0:Kd.C Kd.string w A0 l0.length l0) (hc0:l0.length≤c0) (h:aQ.f k l0 a1=some r) :
  Calls Tryz.prog 135 #[.slice A0 l0.length c0,.string a1] w fun e w'=>e = .returned (.int .i64 r)∧Drawn0 w w':=by
 have ZI:=am_ hr0;have tw:=am_ hc0;clear hr0 hc0;have H:=h;clear h;unfold aQ.f at H
 have H':=am_ H;clear H;go_enter Tryz.func135,Tryz.ntmps135
 go_wp2;go_loopg [8] k (fun kq v8 w'=>∃(tg:Int),v8 = .int .i64 tg∧aa (aQ.l0 kq l0 a1 (l0.length:Int) tg=some r)∧aa (kq≤k)∧Drawn0 w w')
 case atStart=>exact⟨(0),u3_,H',⟨Nat.le_refl _⟩,u7_⟩
 case round=>
  clear H';obtain⟨tg,rfl,HA,HK1,⟨m1,rfl⟩⟩:=hrel;cases gk with
  | zero=>exact absurd HA.out (by simp[aQ.l0])
  | succ k1=>
   have H:=HA.out;clear HA;simp only[aQ.l0] at H;by_cases c3:tg<(l0.length:Int)
   ·rw[if_pos c3] at H;have tj:=decide_eq_true c3;clear c3;obtain⟨tn,H⟩:=gd_ H;obtain⟨tq,H⟩:=gd_ H;have HC_:=am_ H;clear H;obtain⟨tm,tl,ti⟩:=Kd.at_string ZI.out tg od_ od_;cases tl;obtain⟨tu,tv⟩:=pt_ tg l0.length;have H:=HC_.out;clear HC_;by_cases c6:a1.toList=(cZ ByteArray.empty l0 tg).toList
    ·rw[if_pos c6] at H;have th:=cP c6;have tk:=cN c6;clear c6;obtain rfl:=si_ H;(first | rw[th] | (simp only[aC,aG];rw[th]) | skip)
     go_wp2;go_ret
     exact⟨cD,u7_⟩
    ·rw[if_neg c6] at H;have th:=cE c6;have tk:=cG c6;have H':=am_ H;clear H;(first | rw[th] | (simp only[aC,aG];rw[th]) | skip)
     go_wp2;go_roundg k1
     case measure=>have:=HK1.out;omega
     case rel=>exact⟨(wrap64 (tg+1)),u3_,H',⟨dV⟩,u7_⟩
   ·rw[if_neg c3] at H;have tj:=decide_eq_false c3;clear c3;obtain rfl:=si_ H;go_wp2;go_ret
    exact⟨cD,u7_⟩
def aA.f (k:Nat) (l0:List ByteArray) (a1:ByteArray):Option (Bool):=(aQ.f k l0 a1).bind fun tg=>(some (decide (tg≥0)))
theorem aA.calls (k:Nat) (A0:Option Addr) (c0:Nat) (l0:List ByteArray) (a1:ByteArray) (r:Bool) (w:World) (hr0:Kd.C Kd.string w A0 l0.length l0) (hc0:l0.length≤c0) (h:aA.f k l0 a1=some r) :
  Calls Tryz.prog 92 #[.slice A0 l0.length c0,.string a1] w fun e w'=>e = .returned (.bool r)∧Drawn0 w w':=by
 have ZI:=am_ hr0;have th:=am_ hc0;clear hr0 hc0;have H:=h;clear h;unfold aA.f at H
 obtain⟨tg,A3,H⟩:=bi_ H;obtain rfl:=si_ H;go_enter Tryz.func92,Tryz.ntmps92
 go_wp2_with (first | ((with_reducible refine gt_ 7 ?_);refine gD_ 7 Tryz.func135 (aQ.calls k _ _ l0 a1 tg _ ?side1 th.out A3.out) ?_;(case side1=>exact u75_);intro nd))
 go_ret
 exact⟨cD,u7_⟩
def dt.f (a0:Int):Option (Bool):=if a0≥97 then(some (decide (a0≤122))) else(some false)
theorem dt.calls (a0:Int) (r:Bool) (w:World) (h:dt.f a0=some r) :
  Calls Tryz.prog 133 #[.int .u8 a0] w fun e w'=>e = .returned (.bool r)∧Drawn0 w w':=by
 have H:=h;clear h;unfold dt.f at H
 by_cases c2:a0≥97
 ·rw[if_pos c2] at H;have tg:decide (97≤a0)=true:=decide_eq_true c2;clear c2;obtain rfl:=si_ H;go_enter Tryz.func133,Tryz.ntmps133
  go_wp2;go_ret
  exact⟨cD,u7_⟩
 ·rw[if_neg c2] at H;have tg:decide (97≤a0)=false:=decide_eq_false c2;clear c2;obtain rfl:=si_ H;go_enter Tryz.func133,Tryz.ntmps133
  go_wp2;go_ret
  exact⟨cD,u7_⟩
def dX.f (a0:Int):Option (Bool):=if a0≥48 then(some (decide (a0≤57))) else(some false)
theorem dX.calls (a0:Int) (r:Bool) (w:World) (h:dX.f a0=some r) :
  Calls Tryz.prog 134 #[.int .u8 a0] w fun e w'=>e = .returned (.bool r)∧Drawn0 w w':=by
 have H:=h;clear h;unfold dX.f at H
 by_cases c2:a0≥48
 ·rw[if_pos c2] at H;have tg:decide (48≤a0)=true:=decide_eq_true c2;clear c2;obtain rfl:=si_ H;go_enter Tryz.func134,Tryz.ntmps134
  go_wp2;go_ret
  exact⟨cD,u7_⟩
 ·rw[if_neg c2] at H;have tg:decide (48≤a0)=false:=decide_eq_false c2;clear c2;obtain rfl:=si_ H;go_enter Tryz.func134,Tryz.ntmps134
  go_wp2;go_ret
  exact⟨cD,u7_⟩
def aT.l0:Nat→ByteArray→Int→Int→Option (Bool)
 | 0,_,_,_=>none
 | k+1,x0,x5,x6=>if x6<x5 then(if 0≤x6 then(if x6<(x0.size:Int) then((dt.f (bt x0 x6)).bind fun th=>(if th=true then(aT.l0 k x0 x5 (wrap64 (x6+1))) else(if x6=0 then(some false) else((dX.f (bt x0 x6)).bind fun ti=>(if ti=true then(aT.l0 k x0 x5 (wrap64 (x6+1))) else(some false)))))) else(none)) else(none)) else((bd.f (x0.size:Int) 1 8).bind fun tg=>(some tg))
def aT.f (k:Nat) (a0:ByteArray):Option (Bool):=aT.l0 k a0 (a0.size:Int) 0
theorem aT.calls (k:Nat) (a0:ByteArray) (r:Bool) (w:World) (h:aT.f k a0=some r) :
  Calls Tryz.prog 108 #[.string a0] w fun e w'=>e = .returned (.bool r)∧Drawn0 w w':=by
 have H:=h;clear h;unfold aT.f at H
 have H':=am_ H;clear H;go_enter Tryz.func108,Tryz.ntmps108
 go_wp2;go_loopg [6] k (fun kq v6 w'=>∃(tg:Int),v6 = .int .i64 tg∧aa (aT.l0 kq a0 (a0.size:Int) tg=some r)∧aa (kq≤k)∧Drawn0 w w')
 case atStart=>exact⟨(0),u3_,H',⟨Nat.le_refl _⟩,u7_⟩
 case round=>
  clear H';obtain⟨tg,rfl,HA,HK1,⟨m1,rfl⟩⟩:=hrel;cases gk with
  | zero=>exact absurd HA.out (by simp[aT.l0])
  | succ k1=>
   have H:=HA.out;clear HA;simp only[aT.l0] at H;by_cases c2:tg<(a0.size:Int)
   ·rw[if_pos c2] at H;have ti:=decide_eq_true c2;clear c2;obtain⟨tu,H⟩:=gd_ H;obtain⟨tv,H⟩:=gd_ H;obtain⟨tl,A6,H⟩:=bi_ H;have HC_:=am_ H;clear H;obtain⟨p5,q5⟩:=pq_ tg a0.size;have tx:=ek a0 tg;obtain⟨p5,q5⟩:=tt_ p5 q5;have H:=HC_.out;clear HC_;cases tl
    ·replace H:=hf_ H;have HC_:=am_ H;clear H;have H:=HC_.out;clear HC_;by_cases c8:tg=0
     ·rw[if_pos c8] at H;have th:=cP c8;have tj:=cN c8;clear c8;obtain rfl:=si_ H;(first | rw[th] | (simp only[aC,aG];rw[th]) | skip)
      go_wp2_with (first | ((with_reducible refine gt_ 12 ?_);refine gD_ 12 Tryz.func133 (dt.calls (bt a0 tg) false _ A6.out) ?_;intro nd))
      go_ret
      exact⟨cD,u7_⟩
     ·rw[if_neg c8] at H;have th:=cE c8;have tj:=cG c8;obtain⟨tm,tn,H⟩:=bi_ H;have HC_:=am_ H;clear H;(first | rw[th] | (simp only[aC,aG];rw[th]) | skip)
      have H:=HC_.out;clear HC_;cases tm
      ·replace H:=hf_ H;obtain rfl:=si_ H;go_wp2_with (first | ((with_reducible refine gt_ 12 ?_);refine gD_ 12 Tryz.func133 (dt.calls (bt a0 tg) false _ A6.out) ?_;intro nd;obtain⟨p9,q9⟩:=pq_ tg a0.size;have tw:=ek a0 tg;obtain⟨p9,q9⟩:=tt_ p9 q9)|(go_at_call 134;(with_reducible refine(dX.calls (bt a0 tg) false _ tn.out).mono ?_);rintro e w' ⟨rfl,⟨nd,rfl⟩⟩))
       go_ret
       exact⟨cD,u7_⟩
      ·replace H:=ht_ H;have H':=am_ H;clear H;go_wp2_with (first | ((with_reducible refine gt_ 12 ?_);refine gD_ 12 Tryz.func133 (dt.calls (bt a0 tg) false _ A6.out) ?_;intro nd;obtain⟨p9,q9⟩:=pq_ tg a0.size;have tw:=ek a0 tg;obtain⟨p9,q9⟩:=tt_ p9 q9)|(go_at_call 134;(with_reducible refine(dX.calls (bt a0 tg) true _ tn.out).mono ?_);rintro e w' ⟨rfl,⟨nd,rfl⟩⟩))
       go_roundg k1
       case measure=>have:=HK1.out;omega
       case rel=>exact⟨(wrap64 (tg+1)),u3_,H',⟨dV⟩,u7_⟩
    ·replace H:=ht_ H;have H':=am_ H;clear H;go_wp2_with (first | ((with_reducible refine gt_ 12 ?_);refine gD_ 12 Tryz.func133 (dt.calls (bt a0 tg) true _ A6.out) ?_;intro nd))
     go_roundg k1
     case measure=>have:=HK1.out;omega
     case rel=>exact⟨(wrap64 (tg+1)),u3_,H',⟨dV⟩,u7_⟩
   ·rw[if_neg c2] at H;have ti:=decide_eq_false c2;clear c2;obtain⟨tk,tq,H⟩:=bi_ H;obtain rfl:=si_ H;go_wp2_with (first | ((with_reducible refine gt_ 28 ?_);refine gD_ 28 Tryz.func64 (bd.calls (a0.size:Int) 1 8 tk _ tq.out) ?_;intro nd))
    go_ret
    exact⟨cD,u7_⟩
mutual
def aU.l0:Nat→List (S92)→List ByteArray→List (S92)→Int→Int→Option (Bool)
 | 0,_,_,_,_,_=>none
 | k+1,x0,x3,x8,x9,tg=>if tg<x9 then(if 0≤tg then(if tg<(x8.length:Int) then(if((ay x8 tg).f1)=1 then((bd.f ((ay x8 tg).f2) 1 9).bind fun ti=>(aU.j1 k x0 x3 ti x8 x9 tg ((ay x8 tg).f0) ((ay x8 tg).f1) ((ay x8 tg).f2))) else(aU.j1 k x0 x3 (((ay x8 tg).f2) == 0) x8 x9 tg ((ay x8 tg).f0) ((ay x8 tg).f1) ((ay x8 tg).f2))) else(none)) else(none)) else((bd.f (x0.length:Int) 1 4).bind fun th=>(some th))
def aU.j1:Nat→List (S92)→List ByteArray→Bool→List (S92)→Int→Int→ByteArray→Int→Int→Option (Bool)
 | 0,_,_,_,_,_,_,_,_,_=>none
 | k+1,x0,x3,x6,x8,x9,tm,tg,th,ti=>(aT.f k tg).bind fun tj=>(if tj=true then((aA.f k x3 tg).bind fun tk=>(if tk=true then(some false) else((bd.f th 1 3).bind fun tl=>(if tl=true then(if x6=true then(if x3.length<8796093022208 then(aU.l0 k x0 (x3 ++ [tg]) x8 x9 (wrap64 (tm+1))) else(none)) else(some false)) else(some false))))) else(some false))
end
def aU.f (k:Nat) (l0:List (S92)):Option (Bool):=aU.l0 k l0 (([] : List ByteArray)) l0 (l0.length:Int) 0
theorem aU.calls (k:Nat) (A0:Option Addr) (c0:Nat) (l0:List (S92)) (r:Bool) (w:World) (hr0:Kd.C k92 w A0 l0.length l0) (hc0:l0.length≤c0) (h:aU.f k l0=some r) :
  Calls Tryz.prog 63 #[.slice A0 l0.length c0] w fun e w'=>e = .returned (.bool r)∧Below w.heap.size w w':=by
 have hu92:=Tryz.underlying92;have ZI:=am_ hr0;have vk:=am_ hc0;clear hr0 hc0;have HB:=am_ (Below.refl w.heap.size w);have H:=h;clear h;unfold aU.f at H
 obtain⟨tK,tl⟩:∃y_:List ByteArray,y_=(([] : List ByteArray)):=⟨_,rfl⟩;replace H:(aU.l0 k l0 tK l0 (l0.length:Int) 0)=some r:=by first | (rw[tl];with_reducible exact H)|(have H2_:=(Option.bind_some _ _).symm.trans H;rw[tl];with_reducible exact H2_)|(have H2_:=(Option.bind_some _ _).symm.trans H;with_reducible exact H2_) | with_reducible exact H | (rw[tl];exact H) | exact H
 have tq:=am_ tl;clear tl;have H':=am_ H;clear H;go_enter Tryz.func63,Tryz.ntmps63
 go_wp2_with (first | ((with_reducible refine aH (N:=7) rfl ?_);refine Kd.R_lit Kd.string _ 9 ?hg (N:=7) ?hd (xs:=([] : List ByteArray)) (inner:=[]) (ok:=fun _=>True) (okp:=fun _=>True) ?hr ?hp (fun _ hk=>hk) trivial (Below.refl _ _) (Nat.le_refl _) bb ?_;(case hd=>rfl);(case hg=>rfl);(case hr=>exact bM);(case hp=>exact eY);intro uZ w2 ho3 hb hg_ hnew_;clear hg_ hnew_;(first | rw[← tq.out] at ho3 | (simp only[Int.reduceToNat] at ho3;rw[← tq.out] at ho3));have tD:=am_ (Kd.R_lower ho3 (av (bw_ HB)));replace HB:=bs_ HB hb;clear hb ho3))
 go_loopg [3,10] k (fun kq v3 uY w'=>∃(tg:List ByteArray) (Z8:Int),uY = .int .i64 Z8∧aa (aU.l0 kq l0 tg l0 (l0.length:Int) Z8=some r)∧aa (kq≤k)∧aa (Kd.R Kd.string 9 w' w.heap.size (fun _=>True) v3 tg)∧aa (Below w.heap.size w w'))
 case atStart=>exact⟨(tK),(0),u3_,H',⟨Nat.le_refl _⟩,⟨aR_ tD.out⟩,⟨bw_ HB⟩⟩
 case round=>
  clear H';obtain⟨tg,Z8,rfl,HA,HK1,Z6,HB⟩:=hrel;cases gk with
  | zero=>exact absurd HA.out (by simp[aU.l0])
  | succ k1=>
   have H:=HA.out;clear HA;simp only[aU.l0] at H;by_cases c4:Z8<(l0.length:Int)
   ·rw[if_pos c4] at H;have tI:=decide_eq_true c4;clear c4;obtain⟨uy,H⟩:=gd_ H;obtain⟨uz,H⟩:=gd_ H;have ux:=am_ H;clear H;obtain⟨uP,uB,th,ti,tj⟩:=gN ZI.out Z8 od_ od_;cases uB;replace th:=cb_ HB th;replace ti:=cb_ HB ti;replace tj:=cb_ HB tj;obtain⟨uG,uH⟩:=pt_ Z8 l0.length;go_upto_if 19 with (first | ((with_reducible refine gt_ 5 ?_);refine bx_ 5 #[.string (⟨#[]⟩:ByteArray),.int .i64 0,.int .i64 0] 92 ?_;intro YR hg w8 hbox hb;replace Z6:=am_ (Kd.R_below (aR_ Z6.out) hb);have Zn:=am_ (hbox);have uN:=gw_ HB hg;replace HB:=bs_ HB hb;clear hb hbox hg;obtain⟨tv,tw,tx,tz,tA,tB⟩:=dz Zn.out))
    (try simp only[Act.put,List.setIfInBounds_toArray,List.set_cons_zero,List.set_cons_succ])
    go_cut [6] (fun v6 wc=>∃(kq:Nat) (tn:Bool),v6 = .bool tn∧aa (aU.j1 kq l0 tg tn l0 (l0.length:Int) Z8 ((ay l0 Z8).f0) ((ay l0 Z8).f1) ((ay l0 Z8).f2)=some r)∧aa (kq≤k1)∧aa (Kd.R Kd.string 9 wc w.heap.size (fun _=>True) u3 tg)∧aa (wc.heap[YR]? = some (.cells #[.string ((ay l0 Z8).f0),.int .i64 ((ay l0 Z8).f1),.int .i64 ((ay l0 Z8).f2)] 92 (0,0)))∧aa (Below w.heap.size w wc))
    case first=>
     have H:=ux.out;clear ux;by_cases c10:((ay l0 Z8).f1)=1
     ·rw[if_pos c10] at H;have tk:=cP c10;have tH:=cN c10;clear c10;(first | rw[tk] | (simp only[aC,aG];rw[tk]) | skip)
      obtain⟨tJ,uQ,H⟩:=bi_ H;have H':=am_ H;clear H;obtain⟨tM,tN,tO,ub,uc,ud⟩:=dz Zn.out;go_wp2_with (first | ((with_reducible refine gt_ 22 ?_);refine gD_ 22 Tryz.func64 (bd.calls ((ay l0 Z8).f2) 1 9 tJ _ uQ.out) ?_;intro nd))
      go_meet
      case rel=>exact⟨_,(tJ),u3_,H',⟨mR⟩,⟨u161_⟩,⟨pb_ Zn⟩,⟨bw_ HB⟩⟩
     ·rw[if_neg c10] at H;have tk:=cE c10;have tH:=cG c10;(first | rw[tk] | (simp only[aC,aG];rw[tk]) | skip)
      have H':=am_ H;clear H;go_wp2;go_meet
      case rel=>exact⟨_,((((ay l0 Z8).f2) == 0)),u3_,H',⟨mR⟩,⟨u161_⟩,⟨pb_ Zn⟩,⟨bw_ HB⟩⟩
    case rest=>
     clear ux;try clear c4
     try clear tI
     try clear uy
     try clear uz
     try clear tv tw tx tz tA tB
     try clear th
     try clear ti
     try clear tj
     try clear uG
     try clear uH
     obtain⟨kq,tn,rfl,HA,uO,Z6,Zn,HB⟩:=hcut;cases kq with
     | zero=>exact absurd HA.out (by simp[aU.j1])
     | succ tm=>
      have H:=HA.out;clear HA;simp only[aU.j1] at H;obtain⟨uJ,tC,H⟩:=bi_ H;cases uJ
      ·replace H:=hf_ H;obtain rfl:=si_ H;obtain⟨t7,t8,ua,ur,ut,uu⟩:=dz Zn.out;go_wp2_with (first | ((with_reducible refine gt_ 25 ?_);refine gD_ 25 Tryz.func108 (aT.calls tm ((ay l0 Z8).f0) false _ tC.out) ?_;intro nd))
       go_ret
       exact⟨u1_,bw_ HB⟩
      ·replace H:=ht_ H;obtain⟨uK,tL,H⟩:=bi_ H;cases uK
       ·replace H:=hf_ H;obtain⟨uL,uv,H⟩:=bi_ H;cases uL
        ·replace H:=hf_ H;obtain rfl:=si_ H;obtain⟨tY,tZ,t6,un,uo,uq⟩:=dz Zn.out;go_wp2_with (first | ((with_reducible refine gt_ 25 ?_);refine gD_ 25 Tryz.func108 (aT.calls tm ((ay l0 Z8).f0) true _ tC.out) ?_;intro nd;obtain⟨uU,uX,uF⟩:=Kd.R_slice Z6.out;subst uF)|(go_at_call 92;(with_reducible refine(aA.calls tm _ _ tg ((ay l0 Z8).f0) false _ (kR_ Z6) ?side2 tL.out).mono ?_);(case side2=>exact(Kd.R_reads' Z6.out).2.1);rintro e w' ⟨rfl,⟨nd,rfl⟩⟩)|(go_at_call 64;(with_reducible refine(bd.calls ((ay l0 Z8).f1) 1 3 false _ uv.out).mono ?_);rintro e w' ⟨rfl,⟨nd,rfl⟩⟩))
         go_ret
         exact⟨u1_,bw_ HB⟩
        ·replace H:=ht_ H;cases tn
         ·replace H:=hf_ H;obtain rfl:=si_ H;obtain⟨tV,tW,tX,uk,ul,um⟩:=dz Zn.out;go_wp2_with (first | ((with_reducible refine gt_ 25 ?_);refine gD_ 25 Tryz.func108 (aT.calls tm ((ay l0 Z8).f0) true _ tC.out) ?_;intro nd;obtain⟨uT,uW,uE⟩:=Kd.R_slice Z6.out;subst uE)|(go_at_call 92;(with_reducible refine(aA.calls tm _ _ tg ((ay l0 Z8).f0) false _ (kR_ Z6) ?side2 tL.out).mono ?_);(case side2=>exact(Kd.R_reads' Z6.out).2.1);rintro e w' ⟨rfl,⟨nd,rfl⟩⟩)|(go_at_call 64;(with_reducible refine(bd.calls ((ay l0 Z8).f1) 1 3 true _ uv.out).mono ?_);rintro e w' ⟨rfl,⟨nd,rfl⟩⟩))
          go_ret
          exact⟨u1_,bw_ HB⟩
         ·replace H:=ht_ H;obtain⟨tF,H⟩:=gl_ H;generalize tu:((tg ++ [((ay l0 Z8).f0)]):List ByteArray)=uM at H;have tG:=am_ tu.symm;clear tu;have H':=am_ H;clear H;obtain⟨tS,tT,tU,uh,ui,uj⟩:=dz Zn.out;go_wp2_with (first | ((with_reducible refine gt_ 25 ?_);refine gD_ 25 Tryz.func108 (aT.calls tm ((ay l0 Z8).f0) true _ tC.out) ?_;intro nd;obtain⟨uw,uA,uD⟩:=Kd.R_slice Z6.out;subst uD)|(go_at_call 92;(with_reducible refine(aA.calls tm _ _ tg ((ay l0 Z8).f0) false _ (kR_ Z6) ?side2 tL.out).mono ?_);(case side2=>exact(Kd.R_reads' Z6.out).2.1);rintro e w' ⟨rfl,⟨nd,rfl⟩⟩)|(go_at_call 64;(with_reducible refine(bd.calls ((ay l0 Z8).f1) 1 3 true _ uv.out).mono ?_);rintro e w' ⟨rfl,⟨nd,rfl⟩⟩)|((with_reducible refine a7 (b:=.append) (xs:=#[.tmp 43,.tmp 46]) rfl ?_);at_builtin;refine Kd.R_append Kd.string (w0:=w) w.heap.size rfl (.tmp 43) (.tmp 46) 30 9 (.string ⟨#[]⟩) 16 rfl Tryz.underlying30 e6 rfl am au (.slice uw tg.length uA) tg ((ay l0 Z8).f0) [.string ((ay l0 Z8).f0)] (fun _=>True) (fun _=>False) rfl rfl ?aP (fun _ hk=>hk.elim) ?aF ?aO ?aB ?aS ?aL ?_;(case aP=>exact rfl);(case aB=>exact fc);(case aF=>exact ie);(case aO=>exact kB);(case aS=>exact fi);(case aL=>have:=tF.out;omega);intro u6 vl ho hb hg hat;rw[← tG.out] at ho;replace HB:=am_ (hb);have tE:=am_ (ho);clear Z6 ho hb hg hat))
          go_roundg tm
          case measure=>have:=HK1.out;have:=uO.out;omega
          case rel=>exact⟨(uM),(wrap64 (Z8+1)),u3_,H',⟨by have:=HK1.out;have:=uO.out;omega⟩,⟨aR_ tE.out⟩,⟨bw_ HB⟩⟩
       ·replace H:=ht_ H;obtain rfl:=si_ H;obtain⟨tP,tQ,tR,ue,uf,ug⟩:=dz Zn.out;go_wp2_with (first | ((with_reducible refine gt_ 25 ?_);refine gD_ 25 Tryz.func108 (aT.calls tm ((ay l0 Z8).f0) true _ tC.out) ?_;intro nd;obtain⟨uS,uV,uC⟩:=Kd.R_slice Z6.out;subst uC)|(go_at_call 92;(with_reducible refine(aA.calls tm _ _ tg ((ay l0 Z8).f0) true _ (kR_ Z6) ?side2 tL.out).mono ?_);(case side2=>exact(Kd.R_reads' Z6.out).2.1);rintro e w' ⟨rfl,⟨nd,rfl⟩⟩))
        go_ret
        exact⟨u1_,bw_ HB⟩
   ·rw[if_neg c4] at H;have tI:=decide_eq_false c4;clear c4;obtain⟨uI,uR,H⟩:=bi_ H;obtain rfl:=si_ H;go_wp2_with (first | ((with_reducible refine gt_ 51 ?_);refine gD_ 51 Tryz.func64 (bd.calls (l0.length:Int) 1 4 uI _ uR.out) ?_;intro nd))
    go_ret
    exact⟨u1_,bw_ HB⟩
def cV.l0:Nat→ByteArray→Int→Int→Int→Option (Bool)
 | 0,_,_,_,_=>none
 | k+1,x0,x1,x7,x8=>if x8<x7 then(if 0≤x8 then(if x8<(x0.size:Int) then((bd.f (wrap64 (bt x0 x8)) 32 126).bind fun tg=>(if tg=true then(cV.l0 k x0 x1 x7 (wrap64 (x8+1))) else(some false))) else(none)) else(none)) else(some (decide ((x0.size:Int)≤x1)))
def cV.f (k:Nat) (a0:ByteArray) (a1:Int):Option (Bool):=cV.l0 k a0 a1 (a0.size:Int) 0
theorem cV.calls (k:Nat) (a0:ByteArray) (a1:Int) (r:Bool) (w:World) (h:cV.f k a0 a1=some r) :
  Calls Tryz.prog 166 #[.string a0,.int .i64 a1] w fun e w'=>e = .returned (.bool r)∧Drawn0 w w':=by
 have H:=h;clear h;unfold cV.f at H
 have H':=am_ H;clear H;go_enter Tryz.func166,Tryz.ntmps166
 go_wp2;go_loopg [8] k (fun kq v8 w'=>∃(tg:Int),v8 = .int .i64 tg∧aa (cV.l0 kq a0 a1 (a0.size:Int) tg=some r)∧aa (kq≤k)∧Drawn0 w w')
 case atStart=>exact⟨(0),u3_,H',⟨Nat.le_refl _⟩,u7_⟩
 case round=>
  clear H';obtain⟨tg,rfl,HA,HK1,⟨m1,rfl⟩⟩:=hrel;cases gk with
  | zero=>exact absurd HA.out (by simp[cV.l0])
  | succ k1=>
   have H:=HA.out;clear HA;simp only[cV.l0] at H;by_cases c3:tg<(a0.size:Int)
   ·rw[if_pos c3] at H;have th:=decide_eq_true c3;clear c3;obtain⟨tj,H⟩:=gd_ H;obtain⟨tk,H⟩:=gd_ H;obtain⟨ti,A7,H⟩:=bi_ H;have HC_:=am_ H;clear H;obtain⟨p6,q6⟩:=pq_ tg a0.size;have tl:=ek a0 tg;obtain⟨p6,q6⟩:=tt_ p6 q6;have H:=HC_.out;clear HC_;cases ti
    ·replace H:=hf_ H;obtain rfl:=si_ H;go_wp2_with (first | ((with_reducible refine gt_ 15 ?_);refine gD_ 15 Tryz.func64 (bd.calls (wrap64 (bt a0 tg)) 32 126 false _ A7.out) ?_;intro nd))
     go_ret
     exact⟨cD,u7_⟩
    ·replace H:=ht_ H;have H':=am_ H;clear H;go_wp2_with (first | ((with_reducible refine gt_ 15 ?_);refine gD_ 15 Tryz.func64 (bd.calls (wrap64 (bt a0 tg)) 32 126 true _ A7.out) ?_;intro nd))
     go_roundg k1
     case measure=>have:=HK1.out;omega
     case rel=>exact⟨(wrap64 (tg+1)),u3_,H',⟨dV⟩,u7_⟩
   ·rw[if_neg c3] at H;have th:=decide_eq_false c3;clear c3;obtain rfl:=si_ H;go_wp2;go_ret
    exact⟨cD,u7_⟩
def cX.f (k:Nat) (a0:ByteArray):Option (Bool):=(cV.f k a0 60).bind fun tg=>(some tg)
theorem cX.calls (k:Nat) (a0:ByteArray) (r:Bool) (w:World) (h:cX.f k a0=some r) :
  Calls Tryz.prog 147 #[.string a0] w fun e w'=>e = .returned (.bool r)∧Drawn0 w w':=by
 have H:=h;clear h;unfold cX.f at H
 obtain⟨tg,A2,H⟩:=bi_ H;obtain rfl:=si_ H;go_enter Tryz.func147,Tryz.ntmps147
 go_wp2_with (first | ((with_reducible refine gt_ 4 ?_);refine gD_ 4 Tryz.func166 (cV.calls k a0 60 tg _ A2.out) ?_;intro nd))
 go_ret
 exact⟨cD,u7_⟩
def bz.l0:Nat→List (S86)→Int→Int→ByteArray→List (S86)→Option (Bool)
 | 0,_,_,_,_,_=>none
 | k+1,x6,x7,x8,th,tg=>if x8<x7 then(if 0≤x8 then(if x8<(x6.length:Int) then((aT.f k ((ap x6 x8).f0)).bind fun tj=>(if tj=true then((cX.f k ((ap x6 x8).f1)).bind fun tk=>(if tk=true then(if x8>0 then(if 0≤(wrap64 (x8 - 1)) then(if(wrap64 (x8 - 1))<(tg.length:Int) then(if((Op.bytesLess (((ap tg (wrap64 (x8 - 1))).f0).toList) (((ap x6 x8).f0).toList))=true) then(bz.l0 k x6 x7 (wrap64 (x8+1)) th tg) else(some false)) else(none)) else(none)) else(bz.l0 k x6 x7 (wrap64 (x8+1)) th tg)) else(some false))) else(some false))) else(none)) else(none)) else((aT.f k th).bind fun ti=>(if ti=true then(some (decide ((tg.length:Int)≤4))) else(some false)))
def bz.f (k:Nat) (a0_0:ByteArray) (l0_1:List (S86)):Option (Bool):=bz.l0 k l0_1 (l0_1.length:Int) 0 a0_0 l0_1
theorem bz.calls (k:Nat) (a0_0:ByteArray) (A0_1:Option Addr) (c0_1:Nat) (l0_1:List (S86)) (r:Bool) (w:World) (hr0_1:Kd.C k86 w A0_1 l0_1.length l0_1) (hc0_1:l0_1.length≤c0_1) (h:bz.f k a0_0 l0_1=some r) :
  Calls Tryz.prog 109 #[.agg #[.string a0_0,.slice A0_1 l0_1.length c0_1]] w fun e w'=>e = .returned (.bool r)∧Below w.heap.size w w':=by
 have hu44:=Tryz.underlying44;have hu86:=Tryz.underlying86;have tC:=am_ hr0_1;have uR:=am_ hc0_1;clear hr0_1 hc0_1;have HB:=am_ (Below.refl w.heap.size w);have H:=h;clear h;unfold bz.f at H
 have H':=am_ H;clear H;go_enter Tryz.func109,Tryz.ntmps109
 go_wp2_with (first | ((with_reducible refine aH (N:=1) rfl ?_);(try (refine bF cB ?_;dsimp only));refine bV ?hg (N:=1) ?hd (cs:=#[.string a0_0,.slice A0_1 l0_1.length c0_1]) (t:=44) ?hr ?_;(case hd=>rfl);(case hg=>rfl);(case hr=>exact bM);intro tM hg w2 hbox hb;have th:=am_ (hbox);have um:=gw_ HB hg;replace HB:=bs_ HB hb;clear hb hbox hg;obtain⟨tG,tH,tI,tJ⟩:=bZ th.out))
 repeat (go_quiet (first | ((with_reducible refine aH (N:=1) rfl ?_);(try (refine bF cB ?_;dsimp only));refine bV ?hg (N:=1) ?hd (cs:=#[.string a0_0,.slice A0_1 l0_1.length c0_1]) (t:=44) ?hr ?_;(case hd=>rfl);(case hg=>rfl);(case hr=>exact bM);intro tM hg w2 hbox hb;have th:=am_ (hbox);have um:=gw_ HB hg;replace HB:=bs_ HB hb;clear hb hbox hg;obtain⟨tG,tH,tI,tJ⟩:=bZ th.out));try go_wp2_with (first | ((with_reducible refine aH (N:=1) rfl ?_);(try (refine bF cB ?_;dsimp only));refine bV ?hg (N:=1) ?hd (cs:=#[.string a0_0,.slice A0_1 l0_1.length c0_1]) (t:=44) ?hr ?_;(case hd=>rfl);(case hg=>rfl);(case hr=>exact bM);intro tM hg w2 hbox hb;have th:=am_ (hbox);have um:=gw_ HB hg;replace HB:=bs_ HB hb;clear hb hbox hg;obtain⟨tG,tH,tI,tJ⟩:=bZ th.out)))
 go_loopg [8] k (fun kq v8 w'=>∃(tl:Int),v8 = .int .i64 tl∧aa (bz.l0 kq l0_1 (l0_1.length:Int) tl a0_0 l0_1=some r)∧aa (kq≤k)∧aa (w'.heap[tM]? = some (.cells #[.string a0_0,(.slice A0_1 l0_1.length c0_1)] 44 (0,0)))∧aa (Below w.heap.size w w'))
 case atStart=>exact⟨(0),u3_,H',⟨Nat.le_refl _⟩,⟨pb_ th⟩,⟨bw_ HB⟩⟩
 case round=>
  clear H';try clear tG tH tI tJ
  obtain⟨tl,rfl,HA,HK1,th,HB⟩:=hrel;cases gk with
  | zero=>exact absurd HA.out (by simp[bz.l0])
  | succ k1=>
   have H:=HA.out;clear HA;simp only[bz.l0] at H;by_cases c4:tl<(l0_1.length:Int)
   ·rw[if_pos c4] at H;have uM:=decide_eq_true c4;clear c4;obtain⟨uU,H⟩:=gd_ H;obtain⟨uV,H⟩:=gd_ H;obtain⟨uP,A7,H⟩:=bi_ H;have HC_:=am_ H;clear H;obtain⟨tq,uN,tK,tL⟩:=dZ tC.out tl od_ od_;cases uN;replace tK:=cb_ HB tK;replace tL:=cb_ HB tL;obtain⟨uW,uX⟩:=pt_ tl l0_1.length;have H:=HC_.out;clear HC_;cases uP
    ·replace H:=hf_ H;obtain rfl:=si_ H;go_wp2_with (first | ((with_reducible refine aH (N:=4) rfl ?_);(try (refine bF cB ?_;dsimp only));refine bV ?hg (N:=4) ?hd (cs:=#[.string (⟨#[]⟩:ByteArray),.string (⟨#[]⟩:ByteArray)]) (t:=86) ?hr ?_;(case hd=>rfl);(case hg=>rfl);(case hr=>exact bM);intro ti hg u6 hbox hb;have tn:=am_ (hbox);have tm:=gw_ HB hg;have tx:=tm;replace HB:=bs_ HB hb;have tj:=nl_ th hg;have tk:=ng_ th hg;replace th:=bb_ th hb;clear hb hbox hg;have uw:=tk.out;have uB:=tj.out;obtain⟨tZ,t6,uk,ul⟩:=bZ tn.out)|(go_at_call 108;(with_reducible refine(aT.calls k1 ((ap l0_1 tl).f0) false _ A7.out).mono ?_);rintro e w' ⟨rfl,⟨nd,rfl⟩⟩;(try first | exact⟨rfl,_,World.drewN_drewN _ _ _⟩ | exact⟨rfl,_,Eq.trans (World.drewN_drewN _ _ _) (congrArg (World.drewN _) (Nat.add_assoc _ _ _))⟩)))
     repeat (go_quiet (first | ((with_reducible refine aH (N:=4) rfl ?_);(try (refine bF cB ?_;dsimp only));refine bV ?hg (N:=4) ?hd (cs:=#[.string (⟨#[]⟩:ByteArray),.string (⟨#[]⟩:ByteArray)]) (t:=86) ?hr ?_;(case hd=>rfl);(case hg=>rfl);(case hr=>exact bM);intro ti hg u6 hbox hb;have tn:=am_ (hbox);have tm:=gw_ HB hg;have tx:=tm;replace HB:=bs_ HB hb;have tj:=nl_ th hg;have tk:=ng_ th hg;clear hb hbox hg;have uw:=tk.out;have uB:=tj.out;obtain⟨tZ,t6,uk,ul⟩:=bZ tn.out)|(go_at_call 108;(with_reducible refine(aT.calls k1 ((ap l0_1 tl).f0) false _ A7.out).mono ?_);rintro e w' ⟨rfl,⟨nd,rfl⟩⟩;(try first | exact⟨rfl,_,World.drewN_drewN _ _ _⟩ | exact⟨rfl,_,Eq.trans (World.drewN_drewN _ _ _) (congrArg (World.drewN _) (Nat.add_assoc _ _ _))⟩)));try go_wp2)
     go_ret
     exact⟨u1_,bw_ HB⟩
    ·replace H:=ht_ H;obtain⟨uQ,A9,H⟩:=bi_ H;have HC_:=am_ H;clear H;have H:=HC_.out;clear HC_;cases uQ
     ·replace H:=hf_ H;obtain rfl:=si_ H;go_wp2_with (first | ((with_reducible refine aH (N:=4) rfl ?_);(try (refine bF cB ?_;dsimp only));refine bV ?hg (N:=4) ?hd (cs:=#[.string (⟨#[]⟩:ByteArray),.string (⟨#[]⟩:ByteArray)]) (t:=86) ?hr ?_;(case hd=>rfl);(case hg=>rfl);(case hr=>exact bM);intro ti hg uZ hbox hb;have tn:=am_ (hbox);have tm:=gw_ HB hg;have tx:=tm;replace HB:=bs_ HB hb;have tj:=nl_ th hg;have tk:=ng_ th hg;replace th:=bb_ th hb;clear hb hbox hg;have uv:=tk.out;have uA:=tj.out;obtain⟨tX,tY,ui,uj⟩:=bZ tn.out)|(go_at_call 108;(with_reducible refine(aT.calls k1 ((ap l0_1 tl).f0) true _ A7.out).mono ?_);rintro e w' ⟨rfl,⟨nd,rfl⟩⟩;(try first | exact⟨rfl,_,World.drewN_drewN _ _ _⟩ | exact⟨rfl,_,Eq.trans (World.drewN_drewN _ _ _) (congrArg (World.drewN _) (Nat.add_assoc _ _ _))⟩))|(go_at_call 147;(with_reducible refine(cX.calls k1 ((ap l0_1 tl).f1) false _ A9.out).mono ?_);rintro e w' ⟨rfl,⟨nd,rfl⟩⟩;(try first | exact⟨rfl,_,World.drewN_drewN _ _ _⟩ | exact⟨rfl,_,Eq.trans (World.drewN_drewN _ _ _) (congrArg (World.drewN _) (Nat.add_assoc _ _ _))⟩)))
      repeat (go_quiet (first | ((with_reducible refine aH (N:=4) rfl ?_);(try (refine bF cB ?_;dsimp only));refine bV ?hg (N:=4) ?hd (cs:=#[.string (⟨#[]⟩:ByteArray),.string (⟨#[]⟩:ByteArray)]) (t:=86) ?hr ?_;(case hd=>rfl);(case hg=>rfl);(case hr=>exact bM);intro ti hg uZ hbox hb;have tn:=am_ (hbox);have tm:=gw_ HB hg;have tx:=tm;replace HB:=bs_ HB hb;have tj:=nl_ th hg;have tk:=ng_ th hg;clear hb hbox hg;have uv:=tk.out;have uA:=tj.out;obtain⟨tX,tY,ui,uj⟩:=bZ tn.out)|(go_at_call 108;(with_reducible refine(aT.calls k1 ((ap l0_1 tl).f0) true _ A7.out).mono ?_);rintro e w' ⟨rfl,⟨nd,rfl⟩⟩;(try first | exact⟨rfl,_,World.drewN_drewN _ _ _⟩ | exact⟨rfl,_,Eq.trans (World.drewN_drewN _ _ _) (congrArg (World.drewN _) (Nat.add_assoc _ _ _))⟩))|(go_at_call 147;(with_reducible refine(cX.calls k1 ((ap l0_1 tl).f1) false _ A9.out).mono ?_);rintro e w' ⟨rfl,⟨nd,rfl⟩⟩;(try first | exact⟨rfl,_,World.drewN_drewN _ _ _⟩ | exact⟨rfl,_,Eq.trans (World.drewN_drewN _ _ _) (congrArg (World.drewN _) (Nat.add_assoc _ _ _))⟩)));try go_wp2)
      go_ret
      exact⟨u1_,bw_ HB⟩
     ·replace H:=ht_ H;have HC_:=am_ H;clear H;have H:=HC_.out;clear HC_;by_cases uo:tl>0
      ·rw[if_pos uo] at H;have tD:decide (0<tl)=true:=decide_eq_true uo;clear uo;obtain⟨tu,Zr⟩:∃j_:Int,(wrap64 (tl - 1))=j_:=⟨_,rfl⟩;replace H:(if 0≤(tu) then(if(tu)<(l0_1.length:Int) then(if((Op.bytesLess (((ap l0_1 (tu)).f0).toList) (((ap l0_1 tl).f0).toList))=true) then(bz.l0 k1 l0_1 (l0_1.length:Int) (wrap64 (tl+1)) a0_0 l0_1) else(some false)) else(none)) else(none))=some r:=by first | (rw[Zr] at H;exact H)|(simp only[Zr] at H ⊢;exact H)
       (try rw[Zr] at A7)
       (try rw[Zr] at A9)
       have hji12w:(IntKind.i64.wrap (tl - 1))=tu:=(aC _).trans Zr;obtain⟨uS,H⟩:=gd_ H;obtain⟨uT,H⟩:=gd_ H;have HC_:=am_ H;clear H;(first | rw[tD] | (simp only[aC,aG];rw[tD]) | skip)
       have H:=HC_.out;clear HC_;by_cases uq:((Op.bytesLess (((ap l0_1 (tu)).f0).toList) (((ap l0_1 tl).f0).toList))=true)
       ·rw[if_pos uq] at H;have tE:(Op.bytesLess (((ap l0_1 (tu)).f0).toList) (((ap l0_1 tl).f0).toList))=true:=uq;clear uq;have H':=am_ H;clear H;(first | rw[tE] | (simp only[aC,aG];rw[tE]) | skip)
        go_wp2_with (first | ((with_reducible refine aH (N:=4) rfl ?_);(try (refine bF cB ?_;dsimp only));refine bV ?hg (N:=4) ?hd (cs:=#[.string (⟨#[]⟩:ByteArray),.string (⟨#[]⟩:ByteArray)]) (t:=86) ?hr ?_;(case hd=>rfl);(case hg=>rfl);(case hr=>exact bM);intro ti hg uC hbox hb;have tn:=am_ (hbox);have tm:=gw_ HB hg;have tx:=tm;replace HB:=bs_ HB hb;have tj:=nl_ th hg;have tk:=ng_ th hg;replace th:=bb_ th hb;clear hb hbox hg;have ur:=tk.out;have ux:=tj.out;obtain⟨tN,tO,t7,t8⟩:=bZ tn.out)|(go_at_call 108;(with_reducible refine(aT.calls k1 ((ap l0_1 tl).f0) true _ A7.out).mono ?_);rintro e w' ⟨rfl,⟨nd,rfl⟩⟩;(try first | exact⟨rfl,_,World.drewN_drewN _ _ _⟩ | exact⟨rfl,_,Eq.trans (World.drewN_drewN _ _ _) (congrArg (World.drewN _) (Nat.add_assoc _ _ _))⟩))|(go_at_call 147;(with_reducible refine(cX.calls k1 ((ap l0_1 tl).f1) true _ A9.out).mono ?_);rintro e w' ⟨rfl,⟨nd,rfl⟩⟩;(try first | exact⟨rfl,_,World.drewN_drewN _ _ _⟩ | exact⟨rfl,_,Eq.trans (World.drewN_drewN _ _ _) (congrArg (World.drewN _) (Nat.add_assoc _ _ _))⟩);obtain⟨tP,tQ,ua,ub⟩:=bZ th.out;obtain⟨tv,tw⟩:=pq_ (tu) l0_1.length;obtain⟨tz,tF,Z3,tg⟩:=dZ tC.out (tu) tv tw;obtain rfl:tq=tz:=(by injection tF);have hn127_0:tq.block≠ti:=Nat.ne_of_lt (Nat.lt_of_lt_of_le pb tm.out);have hn127_1:tq.block≠ti:=Nat.ne_of_lt (Nat.lt_of_lt_of_le pb tm.out);replace Z3:=cb_ HB Z3;replace tg:=cb_ HB tg;replace Z3:=(bl (p:=⟨ti,0,none⟩) pf (.string ((ap l0_1 tl).f0))).trans Z3;replace tg:=(bl (p:=⟨ti,0,none⟩) pf (.string ((ap l0_1 tl).f0))).trans tg;replace Z3:=(bl (p:=⟨ti,1,none⟩) pu (.string ((ap l0_1 tl).f1))).trans Z3;replace tg:=(bl (p:=⟨ti,1,none⟩) pu (.string ((ap l0_1 tl).f1))).trans tg;(try have tA:=fun (n_:Nat)=>(show ((((uC.drewN n_).setCell ⟨ti,0,none⟩ (.string ((ap l0_1 tl).f0))).setCell ⟨ti,1,none⟩ (.string ((ap l0_1 tl).f1)))).cell? _=some _ from Z3));(try have tB:=fun (n_:Nat)=>(show ((((uC.drewN n_).setCell ⟨ti,0,none⟩ (.string ((ap l0_1 tl).f0))).setCell ⟨ti,1,none⟩ (.string ((ap l0_1 tl).f1)))).cell? _=some _ from tg));clear hn127_0 hn127_1;obtain⟨tv,tw⟩:=tt_ tv tw))
        repeat (go_quiet (first | ((with_reducible refine aH (N:=4) rfl ?_);(try (refine bF cB ?_;dsimp only));refine bV ?hg (N:=4) ?hd (cs:=#[.string (⟨#[]⟩:ByteArray),.string (⟨#[]⟩:ByteArray)]) (t:=86) ?hr ?_;(case hd=>rfl);(case hg=>rfl);(case hr=>exact bM);intro ti hg uC hbox hb;have tn:=am_ (hbox);have tm:=gw_ HB hg;have tx:=tm;replace HB:=bs_ HB hb;have tj:=nl_ th hg;have tk:=ng_ th hg;replace th:=bb_ th hb;clear hb hbox hg;have ur:=tk.out;have ux:=tj.out;obtain⟨tN,tO,t7,t8⟩:=bZ tn.out)|(go_at_call 108;(with_reducible refine(aT.calls k1 ((ap l0_1 tl).f0) true _ A7.out).mono ?_);rintro e w' ⟨rfl,⟨nd,rfl⟩⟩;(try first | exact⟨rfl,_,World.drewN_drewN _ _ _⟩ | exact⟨rfl,_,Eq.trans (World.drewN_drewN _ _ _) (congrArg (World.drewN _) (Nat.add_assoc _ _ _))⟩))|(go_at_call 147;(with_reducible refine(cX.calls k1 ((ap l0_1 tl).f1) true _ A9.out).mono ?_);rintro e w' ⟨rfl,⟨nd,rfl⟩⟩;(try first | exact⟨rfl,_,World.drewN_drewN _ _ _⟩ | exact⟨rfl,_,Eq.trans (World.drewN_drewN _ _ _) (congrArg (World.drewN _) (Nat.add_assoc _ _ _))⟩);obtain⟨tP,tQ,ua,ub⟩:=bZ th.out;obtain⟨tv,tw⟩:=pq_ (tu) l0_1.length;obtain⟨tz,tF,Z3,tg⟩:=dZ tC.out (tu) tv tw;obtain rfl:tq=tz:=(by injection tF);have hn127_0:tq.block≠ti:=Nat.ne_of_lt (Nat.lt_of_lt_of_le pb tm.out);have hn127_1:tq.block≠ti:=Nat.ne_of_lt (Nat.lt_of_lt_of_le pb tm.out);replace Z3:=cb_ HB Z3;replace tg:=cb_ HB tg;replace Z3:=(bl (p:=⟨ti,0,none⟩) pf (.string ((ap l0_1 tl).f0))).trans Z3;replace tg:=(bl (p:=⟨ti,0,none⟩) pf (.string ((ap l0_1 tl).f0))).trans tg;replace Z3:=(bl (p:=⟨ti,1,none⟩) pu (.string ((ap l0_1 tl).f1))).trans Z3;replace tg:=(bl (p:=⟨ti,1,none⟩) pu (.string ((ap l0_1 tl).f1))).trans tg;(try have tA:=fun (n_:Nat)=>(show ((((uC.drewN n_).setCell ⟨ti,0,none⟩ (.string ((ap l0_1 tl).f0))).setCell ⟨ti,1,none⟩ (.string ((ap l0_1 tl).f1)))).cell? _=some _ from Z3));(try have tB:=fun (n_:Nat)=>(show ((((uC.drewN n_).setCell ⟨ti,0,none⟩ (.string ((ap l0_1 tl).f0))).setCell ⟨ti,1,none⟩ (.string ((ap l0_1 tl).f1)))).cell? _=some _ from tg));clear hn127_0 hn127_1;obtain⟨tv,tw⟩:=tt_ tv tw));try go_wp2)
        go_roundg k1
        case measure=>have:=HK1.out;omega
        case rel=>exact⟨(wrap64 (tl+1)),u3_,H',⟨dV⟩,⟨pb_ th⟩,⟨bw_ HB⟩⟩
       ·rw[if_neg uq] at H;have tE:(Op.bytesLess (((ap l0_1 (tu)).f0).toList) (((ap l0_1 tl).f0).toList))=false:=by simpa using uq
        clear uq;obtain rfl:=si_ H;(first | rw[tE] | (simp only[aC,aG];rw[tE]) | skip)
        go_wp2_with (first | ((with_reducible refine aH (N:=4) rfl ?_);(try (refine bF cB ?_;dsimp only));refine bV ?hg (N:=4) ?hd (cs:=#[.string (⟨#[]⟩:ByteArray),.string (⟨#[]⟩:ByteArray)]) (t:=86) ?hr ?_;(case hd=>rfl);(case hg=>rfl);(case hr=>exact bM);intro ti hg uD hbox hb;have tn:=am_ (hbox);have tm:=gw_ HB hg;have tx:=tm;replace HB:=bs_ HB hb;have tj:=nl_ th hg;have tk:=ng_ th hg;replace th:=bb_ th hb;clear hb hbox hg;have ut:=tk.out;have uy:=tj.out;obtain⟨tR,tS,uc,ud⟩:=bZ tn.out)|(go_at_call 108;(with_reducible refine(aT.calls k1 ((ap l0_1 tl).f0) true _ A7.out).mono ?_);rintro e w' ⟨rfl,⟨nd,rfl⟩⟩;(try first | exact⟨rfl,_,World.drewN_drewN _ _ _⟩ | exact⟨rfl,_,Eq.trans (World.drewN_drewN _ _ _) (congrArg (World.drewN _) (Nat.add_assoc _ _ _))⟩))|(go_at_call 147;(with_reducible refine(cX.calls k1 ((ap l0_1 tl).f1) true _ A9.out).mono ?_);rintro e w' ⟨rfl,⟨nd,rfl⟩⟩;(try first | exact⟨rfl,_,World.drewN_drewN _ _ _⟩ | exact⟨rfl,_,Eq.trans (World.drewN_drewN _ _ _) (congrArg (World.drewN _) (Nat.add_assoc _ _ _))⟩);obtain⟨tT,tU,ue,uf⟩:=bZ th.out;obtain⟨tv,tw⟩:=pq_ (tu) l0_1.length;obtain⟨tz,tF,Z3,tg⟩:=dZ tC.out (tu) tv tw;obtain rfl:tq=tz:=(by injection tF);have hn127_0:tq.block≠ti:=Nat.ne_of_lt (Nat.lt_of_lt_of_le pb tm.out);have hn127_1:tq.block≠ti:=Nat.ne_of_lt (Nat.lt_of_lt_of_le pb tm.out);replace Z3:=cb_ HB Z3;replace tg:=cb_ HB tg;replace Z3:=(bl (p:=⟨ti,0,none⟩) pf (.string ((ap l0_1 tl).f0))).trans Z3;replace tg:=(bl (p:=⟨ti,0,none⟩) pf (.string ((ap l0_1 tl).f0))).trans tg;replace Z3:=(bl (p:=⟨ti,1,none⟩) pu (.string ((ap l0_1 tl).f1))).trans Z3;replace tg:=(bl (p:=⟨ti,1,none⟩) pu (.string ((ap l0_1 tl).f1))).trans tg;(try have tA:=fun (n_:Nat)=>(show ((((uD.drewN n_).setCell ⟨ti,0,none⟩ (.string ((ap l0_1 tl).f0))).setCell ⟨ti,1,none⟩ (.string ((ap l0_1 tl).f1)))).cell? _=some _ from Z3));(try have tB:=fun (n_:Nat)=>(show ((((uD.drewN n_).setCell ⟨ti,0,none⟩ (.string ((ap l0_1 tl).f0))).setCell ⟨ti,1,none⟩ (.string ((ap l0_1 tl).f1)))).cell? _=some _ from tg));clear hn127_0 hn127_1;obtain⟨tv,tw⟩:=tt_ tv tw))
        repeat (go_quiet (first | ((with_reducible refine aH (N:=4) rfl ?_);(try (refine bF cB ?_;dsimp only));refine bV ?hg (N:=4) ?hd (cs:=#[.string (⟨#[]⟩:ByteArray),.string (⟨#[]⟩:ByteArray)]) (t:=86) ?hr ?_;(case hd=>rfl);(case hg=>rfl);(case hr=>exact bM);intro ti hg uD hbox hb;have tn:=am_ (hbox);have tm:=gw_ HB hg;have tx:=tm;replace HB:=bs_ HB hb;have tj:=nl_ th hg;have tk:=ng_ th hg;replace th:=bb_ th hb;clear hb hbox hg;have ut:=tk.out;have uy:=tj.out;obtain⟨tR,tS,uc,ud⟩:=bZ tn.out)|(go_at_call 108;(with_reducible refine(aT.calls k1 ((ap l0_1 tl).f0) true _ A7.out).mono ?_);rintro e w' ⟨rfl,⟨nd,rfl⟩⟩;(try first | exact⟨rfl,_,World.drewN_drewN _ _ _⟩ | exact⟨rfl,_,Eq.trans (World.drewN_drewN _ _ _) (congrArg (World.drewN _) (Nat.add_assoc _ _ _))⟩))|(go_at_call 147;(with_reducible refine(cX.calls k1 ((ap l0_1 tl).f1) true _ A9.out).mono ?_);rintro e w' ⟨rfl,⟨nd,rfl⟩⟩;(try first | exact⟨rfl,_,World.drewN_drewN _ _ _⟩ | exact⟨rfl,_,Eq.trans (World.drewN_drewN _ _ _) (congrArg (World.drewN _) (Nat.add_assoc _ _ _))⟩);obtain⟨tT,tU,ue,uf⟩:=bZ th.out;obtain⟨tv,tw⟩:=pq_ (tu) l0_1.length;obtain⟨tz,tF,Z3,tg⟩:=dZ tC.out (tu) tv tw;obtain rfl:tq=tz:=(by injection tF);have hn127_0:tq.block≠ti:=Nat.ne_of_lt (Nat.lt_of_lt_of_le pb tm.out);have hn127_1:tq.block≠ti:=Nat.ne_of_lt (Nat.lt_of_lt_of_le pb tm.out);replace Z3:=cb_ HB Z3;replace tg:=cb_ HB tg;replace Z3:=(bl (p:=⟨ti,0,none⟩) pf (.string ((ap l0_1 tl).f0))).trans Z3;replace tg:=(bl (p:=⟨ti,0,none⟩) pf (.string ((ap l0_1 tl).f0))).trans tg;replace Z3:=(bl (p:=⟨ti,1,none⟩) pu (.string ((ap l0_1 tl).f1))).trans Z3;replace tg:=(bl (p:=⟨ti,1,none⟩) pu (.string ((ap l0_1 tl).f1))).trans tg;(try have tA:=fun (n_:Nat)=>(show ((((uD.drewN n_).setCell ⟨ti,0,none⟩ (.string ((ap l0_1 tl).f0))).setCell ⟨ti,1,none⟩ (.string ((ap l0_1 tl).f1)))).cell? _=some _ from Z3));(try have tB:=fun (n_:Nat)=>(show ((((uD.drewN n_).setCell ⟨ti,0,none⟩ (.string ((ap l0_1 tl).f0))).setCell ⟨ti,1,none⟩ (.string ((ap l0_1 tl).f1)))).cell? _=some _ from tg));clear hn127_0 hn127_1;obtain⟨tv,tw⟩:=tt_ tv tw));try go_wp2)
        go_ret
        exact⟨u106_,bw_ HB⟩
      ·rw[if_neg uo] at H;have tD:decide (0<tl)=false:=decide_eq_false uo;clear uo;have H':=am_ H;clear H;(first | rw[tD] | (simp only[aC,aG];rw[tD]) | skip)
       go_wp2_with (first | ((with_reducible refine aH (N:=4) rfl ?_);(try (refine bF cB ?_;dsimp only));refine bV ?hg (N:=4) ?hd (cs:=#[.string (⟨#[]⟩:ByteArray),.string (⟨#[]⟩:ByteArray)]) (t:=86) ?hr ?_;(case hd=>rfl);(case hg=>rfl);(case hr=>exact bM);intro ti hg uY hbox hb;have tn:=am_ (hbox);have tm:=gw_ HB hg;have tx:=tm;replace HB:=bs_ HB hb;have tj:=nl_ th hg;have tk:=ng_ th hg;replace th:=bb_ th hb;clear hb hbox hg;have uu:=tk.out;have uz:=tj.out;obtain⟨tV,tW,ug,uh⟩:=bZ tn.out)|(go_at_call 108;(with_reducible refine(aT.calls k1 ((ap l0_1 tl).f0) true _ A7.out).mono ?_);rintro e w' ⟨rfl,⟨nd,rfl⟩⟩;(try first | exact⟨rfl,_,World.drewN_drewN _ _ _⟩ | exact⟨rfl,_,Eq.trans (World.drewN_drewN _ _ _) (congrArg (World.drewN _) (Nat.add_assoc _ _ _))⟩))|(go_at_call 147;(with_reducible refine(cX.calls k1 ((ap l0_1 tl).f1) true _ A9.out).mono ?_);rintro e w' ⟨rfl,⟨nd,rfl⟩⟩;(try first | exact⟨rfl,_,World.drewN_drewN _ _ _⟩ | exact⟨rfl,_,Eq.trans (World.drewN_drewN _ _ _) (congrArg (World.drewN _) (Nat.add_assoc _ _ _))⟩)))
       repeat (go_quiet (first | ((with_reducible refine aH (N:=4) rfl ?_);(try (refine bF cB ?_;dsimp only));refine bV ?hg (N:=4) ?hd (cs:=#[.string (⟨#[]⟩:ByteArray),.string (⟨#[]⟩:ByteArray)]) (t:=86) ?hr ?_;(case hd=>rfl);(case hg=>rfl);(case hr=>exact bM);intro ti hg uY hbox hb;have tn:=am_ (hbox);have tm:=gw_ HB hg;have tx:=tm;replace HB:=bs_ HB hb;have tj:=nl_ th hg;have tk:=ng_ th hg;replace th:=bb_ th hb;clear hb hbox hg;have uu:=tk.out;have uz:=tj.out;obtain⟨tV,tW,ug,uh⟩:=bZ tn.out)|(go_at_call 108;(with_reducible refine(aT.calls k1 ((ap l0_1 tl).f0) true _ A7.out).mono ?_);rintro e w' ⟨rfl,⟨nd,rfl⟩⟩;(try first | exact⟨rfl,_,World.drewN_drewN _ _ _⟩ | exact⟨rfl,_,Eq.trans (World.drewN_drewN _ _ _) (congrArg (World.drewN _) (Nat.add_assoc _ _ _))⟩))|(go_at_call 147;(with_reducible refine(cX.calls k1 ((ap l0_1 tl).f1) true _ A9.out).mono ?_);rintro e w' ⟨rfl,⟨nd,rfl⟩⟩;(try first | exact⟨rfl,_,World.drewN_drewN _ _ _⟩ | exact⟨rfl,_,Eq.trans (World.drewN_drewN _ _ _) (congrArg (World.drewN _) (Nat.add_assoc _ _ _))⟩)));try go_wp2)
       go_roundg k1
       case measure=>have:=HK1.out;omega
       case rel=>exact⟨(wrap64 (tl+1)),u3_,H',⟨dV⟩,⟨pb_ th⟩,⟨bw_ HB⟩⟩
   ·rw[if_neg c4] at H;have uM:=decide_eq_false c4;clear c4;obtain⟨uO,un,H⟩:=bi_ H;cases uO
    ·replace H:=hf_ H;obtain rfl:=si_ H;obtain⟨uG,uH,uK,uL⟩:=bZ th.out;go_wp2_with (first | (go_at_call 108;(with_reducible refine(aT.calls k1 a0_0 false _ un.out).mono ?_);rintro e w' ⟨rfl,⟨nd,rfl⟩⟩;(try first | exact⟨rfl,_,World.drewN_drewN _ _ _⟩ | exact⟨rfl,_,Eq.trans (World.drewN_drewN _ _ _) (congrArg (World.drewN _) (Nat.add_assoc _ _ _))⟩)))
     repeat (go_quiet (first | (go_at_call 108;(with_reducible refine(aT.calls k1 a0_0 false _ un.out).mono ?_);rintro e w' ⟨rfl,⟨nd,rfl⟩⟩;(try first | exact⟨rfl,_,World.drewN_drewN _ _ _⟩ | exact⟨rfl,_,Eq.trans (World.drewN_drewN _ _ _) (congrArg (World.drewN _) (Nat.add_assoc _ _ _))⟩)));try go_wp2_with (first | (go_at_call 108;(with_reducible refine(aT.calls k1 a0_0 false _ un.out).mono ?_);rintro e w' ⟨rfl,⟨nd,rfl⟩⟩;(try first | exact⟨rfl,_,World.drewN_drewN _ _ _⟩ | exact⟨rfl,_,Eq.trans (World.drewN_drewN _ _ _) (congrArg (World.drewN _) (Nat.add_assoc _ _ _))⟩))))
     go_ret
     exact⟨u1_,bw_ HB⟩
    ·replace H:=ht_ H;obtain rfl:=si_ H;obtain⟨uE,uF,uI,uJ⟩:=bZ th.out;go_wp2_with (first | (go_at_call 108;(with_reducible refine(aT.calls k1 a0_0 true _ un.out).mono ?_);rintro e w' ⟨rfl,⟨nd,rfl⟩⟩;(try first | exact⟨rfl,_,World.drewN_drewN _ _ _⟩ | exact⟨rfl,_,Eq.trans (World.drewN_drewN _ _ _) (congrArg (World.drewN _) (Nat.add_assoc _ _ _))⟩)))
     repeat (go_quiet (first | (go_at_call 108;(with_reducible refine(aT.calls k1 a0_0 true _ un.out).mono ?_);rintro e w' ⟨rfl,⟨nd,rfl⟩⟩;(try first | exact⟨rfl,_,World.drewN_drewN _ _ _⟩ | exact⟨rfl,_,Eq.trans (World.drewN_drewN _ _ _) (congrArg (World.drewN _) (Nat.add_assoc _ _ _))⟩)));try go_wp2_with (first | (go_at_call 108;(with_reducible refine(aT.calls k1 a0_0 true _ un.out).mono ?_);rintro e w' ⟨rfl,⟨nd,rfl⟩⟩;(try first | exact⟨rfl,_,World.drewN_drewN _ _ _⟩ | exact⟨rfl,_,Eq.trans (World.drewN_drewN _ _ _) (congrArg (World.drewN _) (Nat.add_assoc _ _ _))⟩))))
     go_ret
     exact⟨u1_,bw_ HB⟩
def bs.l0:Nat→ByteArray→List (S92)→Int→Int→Option (ByteArray × Int × Int)
 | 0,_,_,_,_=>none
 | k+1,x1,x7,x8,x9=>if x9<x8 then(if 0≤x9 then(if x9<(x7.length:Int) then(if((ay x7 x9).f0).toList=x1.toList then(some ((ay x7 x9).f0,(ay x7 x9).f1,(ay x7 x9).f2)) else(bs.l0 k x1 x7 x8 (wrap64 (x9+1)))) else(none)) else(none)) else(some ((⟨#[]⟩:ByteArray),0,0))
def bs.f (k:Nat) (l0:List (S92)) (a1:ByteArray):Option (ByteArray × Int × Int):=bs.l0 k a1 l0 (l0.length:Int) 0
theorem bs.calls (k:Nat) (A0:Option Addr) (c0:Nat) (l0:List (S92)) (a1:ByteArray) (r1:ByteArray) (r2:Int) (r3:Int) (w:World) (hr0:Kd.C k92 w A0 l0.length l0) (hc0:l0.length≤c0) (h:bs.f k l0 a1=some (r1,r2,r3)) :
  Calls Tryz.prog 110 #[.slice A0 l0.length c0,.string a1] w fun e w'=>e = .returned (.agg #[.string r1,.int .i64 r2,.int .i64 r3])∧Below w.heap.size w w':=by
 have hu92:=Tryz.underlying92;have ZI:=am_ hr0;have uj:=am_ hc0;clear hr0 hc0;have HB:=am_ (Below.refl w.heap.size w);have H:=h;clear h;unfold bs.f at H
 have H':=am_ H;clear H;go_enter Tryz.func110,Tryz.ntmps110
 go_wp2_with (first | ((with_reducible refine gt_ 4 ?_);refine bx_ 4 #[.string (⟨#[]⟩:ByteArray),.int .i64 0,.int .i64 0] 92 ?_;intro tx hg w3 hbox hb;have tg:=am_ (hbox);have t8:=gw_ HB hg;replace HB:=bs_ HB hb;clear hb hbox hg))
 go_loopg [9] k (fun kq v9 w'=>∃(tm:Int) (tj:ByteArray) (tk:Int) (tl:Int),v9 = .int .i64 tm∧aa (bs.l0 kq a1 l0 (l0.length:Int) tm=some (r1,r2,r3))∧aa (kq≤k)∧aa (w'.heap[tx]? = some (.cells #[.string tj,.int .i64 tk,.int .i64 tl] 92 (0,0)))∧aa (Below w.heap.size w w'))
 case atStart=>exact⟨(0),((⟨#[]⟩:ByteArray)),(0),(0),u3_,H',⟨Nat.le_refl _⟩,⟨pb_ tg⟩,⟨bw_ HB⟩⟩
 case round=>
  clear H';obtain⟨tm,tj,tk,tl,rfl,HA,HK1,tg,HB⟩:=hrel;cases gk with
  | zero=>exact absurd HA.out (by simp[bs.l0])
  | succ k1=>
   have H:=HA.out;clear HA;simp only[bs.l0] at H;by_cases c4:tm<(l0.length:Int)
   ·rw[if_pos c4] at H;have tZ:=decide_eq_true c4;clear c4;obtain⟨ud,H⟩:=gd_ H;obtain⟨ue,H⟩:=gd_ H;have HC_:=am_ H;clear H;obtain⟨ua,t7,tn,tq,tu⟩:=gN ZI.out tm od_ od_;cases t7;replace tn:=cb_ HB tn;replace tq:=cb_ HB tq;replace tu:=cb_ HB tu;obtain⟨uh,ui⟩:=pt_ tm l0.length;have H:=HC_.out;clear HC_;by_cases c7:((ay l0 tm).f0).toList=a1.toList
    ·rw[if_pos c7] at H;have tw:=cP c7;have t6:=cN c7;clear c7;simp only[Option.some.injEq,Prod.mk.injEq] at H;obtain⟨rfl,rfl,rfl⟩:=H;(first | rw[tw] | (simp only[aC,aG];rw[tw]) | skip)
     go_wp2_with (first | ((with_reducible refine gt_ 6 ?_);refine bx_ 6 #[.string (⟨#[]⟩:ByteArray),.int .i64 0,.int .i64 0] 92 ?_;intro tA hg w8 hbox hb;have tv:=am_ (hbox);have tz:=gw_ HB hg;replace HB:=bs_ HB hb;have th:=nl_ tg hg;have ti:=ng_ tg hg;replace tg:=bb_ tg hb;clear hb hbox hg;have uf:=ti.out;have ug:=th.out;obtain⟨tB,tC,tD,tN,tO,tP⟩:=dz tv.out;obtain⟨tE,tF,tG,tQ,tR,tS⟩:=dz tg.out))
     refine bodyPost_ret (results_cell_row rfl _ _ tx 92 #[.string ((ay l0 tm).f0),.int .i64 ((ay l0 tm).f1),.int .i64 ((ay l0 tm).f2)] (0,0) _ rfl (pb_ tg) Tryz.underlying92 rfl bW) rfl ?_;exact⟨u1_,bw_ HB⟩
    ·rw[if_neg c7] at H;have tw:=cE c7;have t6:=cG c7;have H':=am_ H;clear H;(first | rw[tw] | (simp only[aC,aG];rw[tw]) | skip)
     go_wp2_with (first | ((with_reducible refine gt_ 6 ?_);refine bx_ 6 #[.string (⟨#[]⟩:ByteArray),.int .i64 0,.int .i64 0] 92 ?_;intro tA hg uk hbox hb;have tv:=am_ (hbox);have tz:=gw_ HB hg;replace HB:=bs_ HB hb;have th:=nl_ tg hg;have ti:=ng_ tg hg;replace tg:=bb_ tg hb;clear hb hbox hg;have ub:=ti.out;have uc:=th.out;obtain⟨tH,tI,tJ,tT,tU,tV⟩:=dz tv.out))
     go_roundg k1
     case measure=>have:=HK1.out;omega
     case rel=>exact⟨(wrap64 (tm+1)),(tj),(tk),(tl),u3_,H',⟨dV⟩,⟨pb_ tg⟩,⟨bw_ HB⟩⟩
   ·rw[if_neg c4] at H;have tZ:=decide_eq_false c4;clear c4;simp only[Option.some.injEq,Prod.mk.injEq] at H;obtain⟨rfl,rfl,rfl⟩:=H;obtain⟨tK,tL,tM,tW,tX,tY⟩:=dz tg.out;go_wp2;refine bodyPost_ret (results_cell_row rfl _ _ tx 92 #[.string (⟨#[]⟩:ByteArray),.int .i64 0,.int .i64 0] (0,0) _ rfl (pb_ tg) Tryz.underlying92 rfl bW) rfl ?_;exact⟨u1_,bw_ HB⟩
def strconv_Itoa.f (a0:Int):Option ByteArray:=if -9223372036854775808≤a0∧a0≤9223372036854775807 then some ⟨(Lib.itoa a0).toArray⟩ else none
theorem strconv_Itoa.below (w:World) (k:Nat) (os:Array Obj):Below w.heap.size w (Go.Sort.grow (w.drewN k) os):=
 ⟨rfl,rfl,rfl,by rw[Go.Sort.size_grow];exact Nat.le_add_right _ _,fun i hi=>Go.Sort.heap_grow_old (w.drewN k) os hi⟩
theorem strconv_Itoa.calls (a0:Int) (r:ByteArray) (w:World) (hG:StopsIn w) (h:strconv_Itoa.f a0=some r) :
  Calls Tryz.prog 149 #[.int .i64 a0] w fun e w'=>e = .returned (.string r)∧Below w.heap.size w w':=by
 unfold strconv_Itoa.f at h
 by_cases hs : -9223372036854775808≤a0∧a0≤9223372036854775807
 case neg=>rw[if_neg hs] at h;exact absurd h bb
 rw[if_pos hs] at h;have h:=Option.some.inj h;subst h;refine(Go.Proofs.Tryz.strconv_Itoa a0 hs.1 hs.2 w hG.tab).mono ?_;rintro e w' ⟨rfl,k,os,rfl⟩;exact⟨rfl,strconv_Itoa.below w k os⟩
def ce.v (s:ByteArray):Int × Bool:=match Lib.atoiAll s.data.toList with
 | .ok n=>if -999999999≤n∧n≤999999999∧Lib.itoa n=s.data.toList then(n,true) else(0,false)
 | _=>(0,false)
def ce.f (a0:ByteArray):Option (Int × Bool):=if a0.size≤140737488355328 then some (ce.v a0) else none
theorem ce.atoi_ok (s:ByteArray) (hs:s.size≤140737488355328) (n:Int) (h:Lib.atoiAll s.data.toList = .ok n) (w:World) :
  Calls Tryz.prog 148 #[.string s] w fun e w'=>e = .returned (.tuple #[.int .i64 n,.nilIface])∧Below w.heap.size w w':=by
 refine(Go.Proofs.Tryz.strconv_Atoi_ok s au n h w).mono ?_;rintro e w' ⟨rfl,h1⟩;rcases h1 with rfl | ⟨t,rfl⟩
 ·exact⟨rfl,Below.refl _ _⟩
 ·exact⟨rfl,kF (Below.refl _ _) (Nat.le_refl _) _ _⟩
theorem ce.atoi_no (s:ByteArray) (hs:s.size≤140737488355328) (h:∀n,Lib.atoiAll s.data.toList ≠ .ok n) (w:World) (hG:StopsIn w) :
  Calls Tryz.prog 148 #[.string s] w fun e w'=>∃n t p,e = .returned (.tuple #[.int .i64 n,.iface t p])∧Below w.heap.size w w':=by
 obtain⟨⟨u1,v1,h1⟩,⟨u2,v2,h2⟩⟩:=hG.errs;rcases hA:Lib.atoiAll s.data.toList with n | _ | _
 ·exact absurd hA (h n)
 ·refine(Go.Proofs.Tryz.strconv_Atoi_syntax_var s au hA u1 v1 w h1).mono ?_;rintro e w' ⟨N,rfl,_,_,hb⟩;exact⟨_,_,_,rfl,hb⟩
 ·refine(Go.Proofs.Tryz.strconv_Atoi_range_var s au hA u2 v2 w h2).mono ?_;rintro e w' ⟨N,rfl,_,_,hb⟩;exact⟨_,_,_,rfl,hb⟩
theorem ce.calls (a0:ByteArray) (r1:Int) (r2:Bool) (w:World) (hG:StopsIn w) (h:ce.f a0=some (r1,r2)) :
  Calls Tryz.prog 111 #[.string a0] w fun e w'=>e = .returned (.tuple #[.int .i64 r1,.bool r2])∧Below w.heap.size w w':=by
 unfold ce.f at h
 by_cases hs:a0.size≤140737488355328
 case neg=>rw[if_neg hs] at h;exact absurd h bb
 rw[if_pos hs] at h;have h:=Option.some.inj h;have hG:=am_ hG;rcases hA:Lib.atoiAll a0.data.toList with n | _ | _
 ·have hbd:=Lib.atoiAll_bounds hA;have hok:=ce.atoi_ok a0 hs n hA;have hit:aa (strconv_Itoa.f n=some ⟨(Lib.itoa n).toArray⟩):=⟨if_pos hbd⟩;unfold ce.v at h
  rw[hA] at h;clear hA;by_cases hw : -999999999≤n∧n≤999999999
  ·have hwi:aa (bd.f n (-999999999) 999999999=some true):=⟨by unfold bd.f;rw[if_pos (show n ≥ -999999999 from hw.1),decide_eq_true hw.2]⟩;by_cases he:Lib.itoa n=a0.data.toList
   ·have heq:(⟨(Lib.itoa n).toArray⟩:ByteArray)=a0:=by rw[he]
    have h2:(n,true)=(r1,r2):=by rw[← h];simp only[if_pos (show -999999999≤n∧n≤999999999∧Lib.itoa n=a0.data.toList from ⟨hw.1,hw.2,he⟩)]
    obtain⟨rfl,rfl⟩:=Prod.mk.inj h2;rw[heq] at hit;clear h h2 he heq hw hbd;go_enter Tryz.func111,Tryz.ntmps111
    go_wp2_with (first | (go_at_call 148;refine(hok _).mono ?_;rintro e w1 ⟨rfl,hb1⟩)|(go_at_call 64;refine(bd.calls _ _ _ _ _ hwi.out).mono ?_;rintro e w2 ⟨rfl,⟨⟨q,rfl⟩⟩⟩)|(go_at_call 149;refine(strconv_Itoa.calls _ _ _ (StopsIn.below hG.out (al hb1 q)) hit.out).mono ?_;rintro e w3 ⟨rfl,hb3⟩))
    go_ret2
    exact⟨rfl,eR (al hb1 q) hb1.size hb3⟩
   ·have heq:¬(⟨(Lib.itoa n).toArray⟩:ByteArray).toList=a0.toList:=fun e=>he (by rw[ByteArray.toList_eq,ByteArray.toList_eq] at e;simpa using e)
    have h2:(0,false)=(r1,r2):=by rw[← h];simp only[if_neg (show ¬(-999999999≤n∧n≤999999999∧Lib.itoa n=a0.data.toList) from fun hh=>he hh.2.2)]
    obtain⟨rfl,rfl⟩:=Prod.mk.inj h2;obtain⟨y,hy⟩:∃y:ByteArray,(⟨(Lib.itoa n).toArray⟩:ByteArray)=y:=⟨_,rfl⟩;rw[hy] at hit heq;have hb0:(y.toList != a0.toList)=true:=by simpa using heq
    have hb1_:(y.toList == a0.toList)=false:=by simpa using heq
    clear h h2 he hw hbd hy;go_enter Tryz.func111,Tryz.ntmps111
    go_wp2_with (first | (go_at_call 148;refine(hok _).mono ?_;rintro e w1 ⟨rfl,hb1⟩)|(go_at_call 64;refine(bd.calls _ _ _ _ _ hwi.out).mono ?_;rintro e w2 ⟨rfl,⟨⟨q,rfl⟩⟩⟩)|(go_at_call 149;refine(strconv_Itoa.calls _ _ _ (StopsIn.below hG.out (al hb1 q)) hit.out).mono ?_;rintro e w3 ⟨rfl,hb3⟩))
    go_ret2
    exact⟨rfl,eR (al hb1 q) hb1.size hb3⟩
  ·have hwi:aa (bd.f n (-999999999) 999999999=some false):=⟨by
    unfold bd.f
    by_cases h1:n ≥ -999999999
    ·rw[if_pos h1,decide_eq_false au]
    ·rw[if_neg h1]⟩
   have h2:(0,false)=(r1,r2):=by rw[← h];simp only[if_neg (show ¬(-999999999≤n∧n≤999999999∧Lib.itoa n=a0.data.toList) from fun hh=>hw ⟨hh.1,hh.2.1⟩)]
   obtain⟨rfl,rfl⟩:=Prod.mk.inj h2;clear h h2 hw hbd;go_enter Tryz.func111,Tryz.ntmps111
   go_wp2_with (first | (go_at_call 148;refine(hok _).mono ?_;rintro e w1 ⟨rfl,hb1⟩)|(go_at_call 64;refine(bd.calls _ _ _ _ _ hwi.out).mono ?_;rintro e w2 ⟨rfl,⟨⟨q,rfl⟩⟩⟩)|(go_at_call 149;refine(strconv_Itoa.calls _ _ _ (StopsIn.below hG.out (al hb1 q)) hit.out).mono ?_;rintro e w3 ⟨rfl,hb3⟩))
   go_ret2
   exact⟨rfl,al hb1 q⟩
 ·have hno:=ce.atoi_no a0 hs (fun n e=>by rw[hA] at e;cases e);have h2:(0,false)=(r1,r2):=by rw[← h];unfold ce.v;rw[hA]
  obtain⟨rfl,rfl⟩:=Prod.mk.inj h2;clear h h2 hA;go_enter Tryz.func111,Tryz.ntmps111
  go_wp2_with (first | (go_at_call 148;refine(hno _ hG.out).mono ?_;rintro e w1 ⟨n,t,p,rfl,hb1⟩))
  go_ret2
  exact⟨rfl,hb1⟩
 ·have hno:=ce.atoi_no a0 hs (fun n e=>by rw[hA] at e;cases e);have h2:(0,false)=(r1,r2):=by rw[← h];unfold ce.v;rw[hA]
  obtain⟨rfl,rfl⟩:=Prod.mk.inj h2;clear h h2 hA;go_enter Tryz.func111,Tryz.ntmps111
  go_wp2_with (first | (go_at_call 148;refine(hno _ hG.out).mono ?_;rintro e w1 ⟨n,t,p,rfl,hb1⟩))
  go_ret2
  exact⟨rfl,hb1⟩
def strings_Split.f (a0 a1:ByteArray):Option (List ByteArray):=if a0.size<4294967281∧1≤a1.size then some (Lib.splitB a1 0 (Lib.countB a0 a1) a0) else none
theorem strings_Split.calls (a0 a1:ByteArray) (r:List ByteArray) (w:World) (hG:StopsIn w) (h:strings_Split.f a0 a1=some r) :
  Calls Tryz.prog 150 #[.string a0,.string a1] w fun e w'=>∃v0_:Value,e = .returned (v0_)∧Kd.R Kd.string 9 w' w.heap.size (fun _=>True) v0_ r∧Below w.heap.size w w':=by
 unfold strings_Split.f at h
 by_cases hs:a0.size<4294967281∧1≤a1.size
 case neg=>rw[if_neg hs] at h;exact absurd h bb
 rw[if_pos hs] at h;have h:=Option.some.inj h;obtain⟨m,hm⟩:=hG.max;have hle:=Lib.countB_le a1 hs.2 a0.size a0 (Nat.le_refl _);have hlen:=Lib.splitB_all a1 hs.2 0 _ a0 rfl;rw[h] at hlen;refine(Go.Proofs.Tryz.strings_Split a0 a1 m w hs.1 hm hs.2).mono ?_;rintro e w' ⟨rfl,rfl⟩;rw[h];refine⟨_,rfl,?_,aE (Below.refl _ _) _⟩;have hh:(w.alloc (.cells (r.map Value.string).toArray 9)).heap[w.heap.size]? = some (.cells (r.map Value.string).toArray 9 (0,0)):=by
  unfold World.alloc
  simp
 have hx:=row_mk (enc:=Value.string) (h1:=fun _=>rfl) (ok:=fun _=>True) (xs:=r) (cap:=Lib.countB a0 a1+1) (Nat.le_refl _) hh au (by have:maxLen=9223372036854775807:=rfl;omega) (by simp[hlen]) trivial (fun j x hj=>by simp[hj]);rw[hlen] at hx;exact hx
def cr.l0:Nat→List ByteArray→List ByteArray→Int→Int→Option (Bool)
 | 0,_,_,_,_=>none
 | k+1,x3,x8,x9,tg=>if tg<x9 then(if 0≤tg then(if tg<(x8.length:Int) then((aT.f k (cZ ByteArray.empty x8 tg)).bind fun th=>(if th=true then(cr.l0 k x3 x8 x9 (wrap64 (tg+1))) else(some false))) else(none)) else(none)) else(some (decide ((x3.length:Int)≤4)))
def cr.f (k:Nat) (a0:ByteArray):Option (Bool):=(strings_Split.f a0 (⟨#[44]⟩:ByteArray)).bind fun tg=>(cr.l0 k tg tg (tg.length:Int) 0)
theorem cr.calls (k:Nat) (a0:ByteArray) (r:Bool) (w:World) (hG:StopsIn w) (h:cr.f k a0=some r) :
  Calls Tryz.prog 112 #[.string a0] w fun e w'=>e = .returned (.bool r)∧Below w.heap.size w w':=by
 have HG_:=am_ hG;clear hG;have HB:=am_ (Below.refl w.heap.size w);have H:=h;clear h;unfold cr.f at H
 obtain⟨tg,A2,H⟩:=bi_ H;have H':=am_ H;clear H;go_enter Tryz.func112,Tryz.ntmps112
 go_wp2_with (first | ((with_reducible refine gt_ 7 ?_);refine gf_ 7 Tryz.func150 (strings_Split.calls a0 (⟨#[44]⟩:ByteArray) tg _ ?side1 A2.out) ?_;(case side1=>exact jZ);rintro e w3 ⟨tC,rfl,ho0,hb⟩;refine⟨_,rfl,?_⟩;have th:=am_ (Kd.R_lower ho0 (av (bw_ HB)));replace HB:=bs_ HB hb;(try clear hb);(try clear ho0);obtain⟨tn,tu,tx⟩:=Kd.R_slice th.out;subst tx))
 go_loopg [10] k (fun kq tB w'=>∃(Z8:Int),tB = .int .i64 Z8∧aa (cr.l0 kq tg tg (tg.length:Int) Z8=some r)∧aa (kq≤k)∧aa (Kd.R Kd.string 9 w' w.heap.size (fun _=>True) (.slice tn tg.length tu) tg)∧aa (Kd.R Kd.string 9 w' w.heap.size (fun _=>True) (.slice tn tg.length tu) tg)∧aa (Below w.heap.size w w'))
 case atStart=>exact⟨(0),u3_,H',⟨Nat.le_refl _⟩,⟨aR_ th.out⟩,⟨aR_ th.out⟩,⟨bw_ HB⟩⟩
 case round=>
  clear H';obtain⟨Z8,rfl,HA,HK1,Z6,ti,HB⟩:=hrel;cases gk with
  | zero=>exact absurd HA.out (by simp[cr.l0])
  | succ k1=>
   have H:=HA.out;clear HA;simp only[cr.l0] at H;by_cases c5:Z8<(tg.length:Int)
   ·rw[if_pos c5] at H;have tk:=decide_eq_true c5;clear c5;obtain⟨tv,H⟩:=gd_ H;obtain⟨tw,H⟩:=gd_ H;obtain⟨tm,A8,H⟩:=bi_ H;have HC_:=am_ H;clear H;obtain⟨tq,tl,tj⟩:=Kd.at_string (Kd.R_reads' ti.out).2.2 Z8 od_ od_;cases tl;obtain⟨tz,tA⟩:=pt_ Z8 tg.length;have H:=HC_.out;clear HC_;cases tm
    ·replace H:=hf_ H;obtain rfl:=si_ H;go_wp2_with (first | ((with_reducible refine gt_ 15 ?_);refine gD_ 15 Tryz.func108 (aT.calls k1 (cZ ByteArray.empty tg Z8) false _ A8.out) ?_;intro nd))
     go_ret
     exact⟨u1_,bw_ HB⟩
    ·replace H:=ht_ H;have H':=am_ H;clear H;go_wp2_with (first | ((with_reducible refine gt_ 15 ?_);refine gD_ 15 Tryz.func108 (aT.calls k1 (cZ ByteArray.empty tg Z8) true _ A8.out) ?_;intro nd))
     go_roundg k1
     case measure=>have:=HK1.out;omega
     case rel=>exact⟨(wrap64 (Z8+1)),u3_,H',⟨dV⟩,⟨aR_ Z6.out⟩,⟨aR_ ti.out⟩,⟨bw_ HB⟩⟩
   ·rw[if_neg c5] at H;have tk:=decide_eq_false c5;clear c5;obtain rfl:=si_ H;go_wp2;go_ret
    exact⟨u1_,bw_ HB⟩
theorem bj.fld92_1 (x0:ByteArray) (x1:Int) (x2:Int) (w:World):(Instr.field 92 (Value.agg #[Value.string x0,Value.int .i64 x1,Value.int .i64 x2]) 1).run Tryz.prog w = .ok (Value.int .i64 x1) w:=by kernel_rfl
attribute [local go_sem] bj.fld92_1
mutual
def bj.j0:Nat→List (S92)→Bool→ByteArray→List (S86)→Option (Bool)
 | 0,_,_,_,_=>none
 | k+1,x0,ti,th,tg=>if ti=true then(some false) else(bj.l0 k x0 tg (tg.length:Int) 0)
def bj.l0:Nat→List (S92)→List (S86)→Int→Int→Option (Bool)
 | 0,_,_,_,_=>none
 | k+1,x0,ti,tk,th=>if th<tk then(if 0≤th then(if th<(ti.length:Int) then((bs.f k x0 ((ap ti th).f0)).bind fun tg=>(if tg.2.1=1 then(bj.l0 k x0 ti tk (wrap64 (th+1))) else(if tg.2.1=2 then((ce.f ((ap ti th).f1)).bind fun tj=>(if tj.2=true then(bj.l0 k x0 ti tk (wrap64 (th+1))) else(some false))) else(if tg.2.1=3 then((cr.f k ((ap ti th).f1)).bind fun tl=>(if tl=true then(bj.l0 k x0 ti tk (wrap64 (th+1))) else(some false))) else(some false))))) else(none)) else(none)) else(some true)
end
def bj.f (k:Nat) (l0:List (S92)) (a1_0:ByteArray) (l1_1:List (S86)):Option (Bool):=(aU.f k l0).bind fun tg=>(if tg=true then((bz.f k a1_0 l1_1).bind fun th=>(bj.j0 k l0 (!th) a1_0 l1_1)) else(bj.j0 k l0 true a1_0 l1_1))
theorem bj.calls (k:Nat) (A0:Option Addr) (c0:Nat) (l0:List (S92)) (a1_0:ByteArray) (A1_1:Option Addr) (c1_1:Nat) (l1_1:List (S86)) (r:Bool) (w:World) (hG:StopsIn w) (hr0:Kd.C k92 w A0 l0.length l0) (hc0:l0.length≤c0) (hr1_1:Kd.C k86 w A1_1 l1_1.length l1_1) (hc1_1:l1_1.length≤c1_1) (h:bj.f k l0 a1_0 l1_1=some r) :
  Calls Tryz.prog 65 #[.slice A0 l0.length c0,.agg #[.string a1_0,.slice A1_1 l1_1.length c1_1]] w fun e w'=>e = .returned (.bool r)∧Below w.heap.size w w':=by
 have hu44:=Tryz.underlying44;have hu86:=Tryz.underlying86;have HG_:=am_ hG;clear hG;have ZI:=am_ hr0;have tG:=am_ hc0;clear hr0 hc0;have tH:=am_ hr1_1;have tO:=am_ hc1_1;clear hr1_1 hc1_1;have HB:=am_ (Below.refl w.heap.size w);have H:=h;clear h;unfold bj.f at H
 have uI:=am_ H;clear H;go_enter Tryz.func65,Tryz.ntmps65
 go_upto_region 1 with (first | ((with_reducible refine gt_ 3 ?_);refine bx_ 3 #[.string a1_0,.slice A1_1 l1_1.length c1_1] 44 ?_;intro tI hg w4 hbox hb;have tg:=am_ (hbox);have uT:=gw_ HB hg;replace HB:=bs_ HB hb;clear hb hbox hg))
 (try simp only[Act.put,List.setIfInBounds_toArray,List.set_cons_zero,List.set_cons_succ])
 go_cut [16] (fun vx wc=>∃(kq:Nat) (tz:Bool),vx = .bool tz∧aa (bj.j0 kq l0 tz a1_0 l1_1=some r)∧aa (kq≤k)∧aa (wc.heap[tI]? = some (.cells #[.string a1_0,(.slice A1_1 l1_1.length c1_1)] 44 (0,0)))∧aa (Below w.heap.size w wc))
 case first=>
  have H:=uI.out;clear uI;obtain⟨uO,A5,H⟩:=bi_ H;cases uO
  ·replace H:=hf_ H;have H':=am_ H;clear H;go_wp2_with (first | ((with_reducible refine gt_ 10 ?_);refine gB_ 10 Tryz.func63 (aU.calls k _ _ l0 false _ (kc_ ZI HB) tG.out A5.out) ?_;intro vA hb;replace tg:=bb_ tg hb;replace HB:=bs_ HB hb;(try clear hb)))
   go_meet
   case rel=>exact⟨_,(true),u3_,H',⟨iL⟩,⟨pb_ tg⟩,⟨bw_ HB⟩⟩
  ·replace H:=ht_ H;obtain⟨tT,A7,H⟩:=bi_ H;have H':=am_ H;clear H;go_wp2_with (first | ((with_reducible refine gt_ 10 ?_);refine gB_ 10 Tryz.func63 (aU.calls k _ _ l0 true _ (kc_ ZI HB) tG.out A5.out) ?_;intro w8 hb;replace tg:=bb_ tg hb;replace HB:=bs_ HB hb;(try clear hb);obtain⟨uK,uL,uM,uN⟩:=bZ tg.out)|(go_at_call 109;(with_reducible refine(bz.calls k a1_0 _ _ l1_1 tT _ (kc_ tH HB) tO.out A7.out).mono ?_);rintro e vz ⟨rfl,hb⟩;replace tg:=bb_ tg hb;replace HB:=bs_ HB hb;(try clear hb)))
   go_meet
   case rel=>exact⟨_,(!tT),u3_,H',⟨iL⟩,⟨pb_ tg⟩,⟨bw_ HB⟩⟩
 case rest=>
  clear uI;obtain⟨kq,tz,rfl,HA,YL,tg,HB⟩:=hcut;cases kq with
  | zero=>exact absurd HA.out (by simp[bj.j0])
  | succ vu=>
   have H:=HA.out;clear HA;simp only[bj.j0] at H;cases tz
   ·replace H:=hf_ H;have H':=am_ H;clear H;obtain⟨tC,tD,tE,tF⟩:=bZ tg.out;go_wp2;go_loopg [20] vu (fun kq vy w'=>∃(tj:Int),vy = .int .i64 tj∧aa (bj.l0 kq l0 l1_1 (l1_1.length:Int) tj=some r)∧aa (kq≤vu)∧aa (w'.heap[tI]? = some (.cells #[.string a1_0,(.slice A1_1 l1_1.length c1_1)] 44 (0,0)))∧aa (Below w.heap.size w w'))
    case atStart=>exact⟨(0),u3_,H',⟨Nat.le_refl _⟩,⟨pb_ tg⟩,⟨bw_ HB⟩⟩
    case round=>
     clear H';try clear tC tD tE tF
     obtain⟨tj,rfl,HA,HK2,tg,HB⟩:=hrel;cases gk with
     | zero=>exact absurd HA.out (by simp[bj.l0])
     | succ k2=>
      have H:=HA.out;clear HA;simp only[bj.l0] at H;by_cases tN:tj<(l1_1.length:Int)
      ·rw[if_pos tN] at H;have tP:=decide_eq_true tN;clear tN;obtain⟨uV,H⟩:=gd_ H;obtain⟨uW,H⟩:=gd_ H;obtain⟨⟨tA,tm,tB⟩,tM,H⟩:=bi_ H;dsimp only at H;have HC_:=am_ H;clear H;obtain⟨uU,uJ,tw,tx⟩:=dZ tH.out tj od_ od_;cases uJ;replace tw:=cb_ HB tw;replace tx:=cb_ HB tx;obtain⟨vv,vw⟩:=pt_ tj l1_1.length;have H:=HC_.out;clear HC_;by_cases tJ:tm=1
       ·rw[if_pos tJ] at H;have tq:=cP tJ;have tQ:=cN tJ;clear tJ;have H':=am_ H;clear H;(first | rw[tq] | (simp only[aC,aG];rw[tq]) | skip)
        go_wp2_with (first | ((with_reducible refine gt_ 6 ?_);refine bx_ 6 #[.string (⟨#[]⟩:ByteArray),.string (⟨#[]⟩:ByteArray)] 86 ?_;intro tl hg vB hbox hb;have tk:=am_ (hbox);have tn:=gw_ HB hg;replace HB:=bs_ HB hb;have th:=nl_ tg hg;have ti:=ng_ tg hg;replace tg:=bb_ tg hb;clear hb hbox hg;have uX:=ti.out;have vm:=th.out;obtain⟨tV,tW,um,un⟩:=bZ tk.out)|((with_reducible refine gt_ 27 ?_);refine gB_ 27 Tryz.func110 (bs.calls k2 _ _ l0 ((ap l1_1 tj).f0) tA tm tB _ (kc_ ZI HB) tG.out tM.out) ?_;intro vD hb;replace tg:=bb_ tg hb;replace HB:=bs_ HB hb;(try clear hb)))
        go_roundg k2
        case measure=>have:=YL.out;have:=HK2.out;omega
        case rel=>exact⟨(wrap64 (tj+1)),u3_,H',⟨by have:=YL.out;have:=HK2.out;omega⟩,⟨pb_ tg⟩,⟨bw_ HB⟩⟩
       ·rw[if_neg tJ] at H;have tq:=cE tJ;have tQ:=cG tJ;have HC_:=am_ H;clear H;(first | rw[tq] | (simp only[aC,aG];rw[tq]) | skip)
        have H:=HC_.out;clear HC_;by_cases tK:tm=2
        ·rw[if_pos tK] at H;have tu:=cP tK;have tR:=cN tK;clear tK;obtain⟨⟨tU,uP⟩,uR,H⟩:=bi_ H;dsimp only at H;have HC_:=am_ H;clear H;(first | rw[tu] | (simp only[aC,aG];rw[tu]) | skip)
         have H:=HC_.out;clear HC_;cases uP
         ·replace H:=hf_ H;obtain rfl:=si_ H;go_wp2_with (first | ((with_reducible refine gt_ 6 ?_);refine bx_ 6 #[.string (⟨#[]⟩:ByteArray),.string (⟨#[]⟩:ByteArray)] 86 ?_;intro tl hg vI hbox hb;have tk:=am_ (hbox);have tn:=gw_ HB hg;replace HB:=bs_ HB hb;have th:=nl_ tg hg;have ti:=ng_ tg hg;clear hb hbox hg;have uZ:=ti.out;have vo:=th.out;obtain⟨t7,t8,uu,uv⟩:=bZ tk.out)|((with_reducible refine gt_ 27 ?_);refine gB_ 27 Tryz.func110 (bs.calls k2 _ _ l0 ((ap l1_1 tj).f0) tA tm tB _ (kc_ ZI HB) tG.out tM.out) ?_;intro vJ hb;replace tk:=am_ (bE (g:=tl) (o:=.cells #[.string ((ap l1_1 tj).f0),.string ((ap l1_1 tj).f1)] 86 (0,0)) (pb_ tk) hb);replace HB:=bs_ HB hb;(try clear hb);obtain⟨ua,ub,uw,ux⟩:=bZ tk.out)|((with_reducible refine gt_ 36 ?_);refine gB_ 36 Tryz.func111 (ce.calls ((ap l1_1 tj).f1) tU false _ ?side1 uR.out) ?_;(case side1=>exact jZ);intro vK hb;replace HB:=bs_ HB hb;(try clear hb)))
          go_ret
          exact⟨u1_,bw_ HB⟩
         ·replace H:=ht_ H;have H':=am_ H;clear H;go_wp2_with (first | ((with_reducible refine gt_ 6 ?_);refine bx_ 6 #[.string (⟨#[]⟩:ByteArray),.string (⟨#[]⟩:ByteArray)] 86 ?_;intro tl hg vE hbox hb;have tk:=am_ (hbox);have tn:=gw_ HB hg;replace HB:=bs_ HB hb;have th:=nl_ tg hg;have ti:=ng_ tg hg;replace tg:=bb_ tg hb;clear hb hbox hg;have uY:=ti.out;have vn:=th.out;obtain⟨tX,tY,uo,uq⟩:=bZ tk.out)|((with_reducible refine gt_ 27 ?_);refine gB_ 27 Tryz.func110 (bs.calls k2 _ _ l0 ((ap l1_1 tj).f0) tA tm tB _ (kc_ ZI HB) tG.out tM.out) ?_;intro vG hb;replace tg:=bb_ tg hb;replace tk:=am_ (bE (g:=tl) (o:=.cells #[.string ((ap l1_1 tj).f0),.string ((ap l1_1 tj).f1)] 86 (0,0)) (pb_ tk) hb);replace HB:=bs_ HB hb;(try clear hb);obtain⟨tZ,t6,ur,ut⟩:=bZ tk.out)|((with_reducible refine gt_ 36 ?_);refine gB_ 36 Tryz.func111 (ce.calls ((ap l1_1 tj).f1) tU true _ ?side1 uR.out) ?_;(case side1=>exact jZ);intro vH hb;replace tg:=bb_ tg hb;replace HB:=bs_ HB hb;(try clear hb)))
          go_roundg k2
          case measure=>have:=YL.out;have:=HK2.out;omega
          case rel=>exact⟨(wrap64 (tj+1)),u3_,H',⟨by have:=YL.out;have:=HK2.out;omega⟩,⟨pb_ tg⟩,⟨bw_ HB⟩⟩
        ·rw[if_neg tK] at H;have tu:=cE tK;have tR:=cG tK;have HC_:=am_ H;clear H;(first | rw[tu] | (simp only[aC,aG];rw[tu]) | skip)
         have H:=HC_.out;clear HC_;by_cases tL:tm=3
         ·rw[if_pos tL] at H;have tv:=cP tL;have tS:=cN tL;clear tL;obtain⟨uQ,uS,H⟩:=bi_ H;have HC_:=am_ H;clear H;(first | rw[tv] | (simp only[aC,aG];rw[tv]) | skip)
          have H:=HC_.out;clear HC_;cases uQ
          ·replace H:=hf_ H;obtain rfl:=si_ H;go_wp2_with (first | ((with_reducible refine gt_ 6 ?_);refine bx_ 6 #[.string (⟨#[]⟩:ByteArray),.string (⟨#[]⟩:ByteArray)] 86 ?_;intro tl hg vP hbox hb;have tk:=am_ (hbox);have tn:=gw_ HB hg;replace HB:=bs_ HB hb;have th:=nl_ tg hg;have ti:=ng_ tg hg;clear hb hbox hg;have vk:=ti.out;have vq:=th.out;obtain⟨ug,uh,uC,uD⟩:=bZ tk.out)|((with_reducible refine gt_ 27 ?_);refine gB_ 27 Tryz.func110 (bs.calls k2 _ _ l0 ((ap l1_1 tj).f0) tA tm tB _ (kc_ ZI HB) tG.out tM.out) ?_;intro vQ hb;replace tk:=am_ (bE (g:=tl) (o:=.cells #[.string ((ap l1_1 tj).f0),.string ((ap l1_1 tj).f1)] 86 (0,0)) (pb_ tk) hb);replace HB:=bs_ HB hb;(try clear hb);obtain⟨ui,uj,uE,uF⟩:=bZ tk.out)|((with_reducible refine gt_ 45 ?_);refine gB_ 45 Tryz.func112 (cr.calls k2 ((ap l1_1 tj).f1) false _ ?side1 uS.out) ?_;(case side1=>exact jZ);intro vS hb;replace HB:=bs_ HB hb;(try clear hb)))
           go_ret
           exact⟨u1_,bw_ HB⟩
          ·replace H:=ht_ H;have H':=am_ H;clear H;go_wp2_with (first | ((with_reducible refine gt_ 6 ?_);refine bx_ 6 #[.string (⟨#[]⟩:ByteArray),.string (⟨#[]⟩:ByteArray)] 86 ?_;intro tl hg vM hbox hb;have tk:=am_ (hbox);have tn:=gw_ HB hg;replace HB:=bs_ HB hb;have th:=nl_ tg hg;have ti:=ng_ tg hg;replace tg:=bb_ tg hb;clear hb hbox hg;have u6:=ti.out;have vp:=th.out;obtain⟨uc,ud,uy,uz⟩:=bZ tk.out)|((with_reducible refine gt_ 27 ?_);refine gB_ 27 Tryz.func110 (bs.calls k2 _ _ l0 ((ap l1_1 tj).f0) tA tm tB _ (kc_ ZI HB) tG.out tM.out) ?_;intro vN hb;replace tg:=bb_ tg hb;replace tk:=am_ (bE (g:=tl) (o:=.cells #[.string ((ap l1_1 tj).f0),.string ((ap l1_1 tj).f1)] 86 (0,0)) (pb_ tk) hb);replace HB:=bs_ HB hb;(try clear hb);obtain⟨ue,uf,uA,uB⟩:=bZ tk.out)|((with_reducible refine gt_ 45 ?_);refine gB_ 45 Tryz.func112 (cr.calls k2 ((ap l1_1 tj).f1) true _ ?side1 uS.out) ?_;(case side1=>exact jZ);intro vO hb;replace tg:=bb_ tg hb;replace HB:=bs_ HB hb;(try clear hb)))
           go_roundg k2
           case measure=>have:=YL.out;have:=HK2.out;omega
           case rel=>exact⟨(wrap64 (tj+1)),u3_,H',⟨by have:=YL.out;have:=HK2.out;omega⟩,⟨pb_ tg⟩,⟨bw_ HB⟩⟩
         ·rw[if_neg tL] at H;have tv:=cE tL;have tS:=cG tL;obtain rfl:=si_ H;(first | rw[tv] | (simp only[aC,aG];rw[tv]) | skip)
          go_wp2_with (first | ((with_reducible refine gt_ 6 ?_);refine bx_ 6 #[.string (⟨#[]⟩:ByteArray),.string (⟨#[]⟩:ByteArray)] 86 ?_;intro tl hg vT hbox hb;have tk:=am_ (hbox);have tn:=gw_ HB hg;replace HB:=bs_ HB hb;have th:=nl_ tg hg;have ti:=ng_ tg hg;clear hb hbox hg;have vl:=ti.out;have vr:=th.out;obtain⟨uk,ul,uG,uH⟩:=bZ tk.out)|((with_reducible refine gt_ 27 ?_);refine gB_ 27 Tryz.func110 (bs.calls k2 _ _ l0 ((ap l1_1 tj).f0) tA tm tB _ (kc_ ZI HB) tG.out tM.out) ?_;intro vU hb;replace HB:=bs_ HB hb;(try clear hb)))
          go_ret
          exact⟨u1_,bw_ HB⟩
      ·rw[if_neg tN] at H;have tP:=decide_eq_false tN;clear tN;obtain rfl:=si_ H;go_wp2;go_ret
       exact⟨u1_,bw_ HB⟩
   ·replace H:=ht_ H;obtain rfl:=si_ H;go_wp2;go_ret
    exact⟨u1_,bw_ HB⟩
def ej (key:ByteArray):Nat→List S46→Int
 | _,[]=>-1
 | i,x :: l=>if(x.f1.f0.toList == key.toList)=true then(i:Int) else ej key (i+1) l
theorem sH {P : Program} {ops : Array Oper} {Q : Exit → Act → World → Prop} {rest : List Oper} {oi : Oper} {a : Act} {w : World} (N : Option Tmp) (hd : oi.dst = N) (hg : oi.guard = none) {f : FuncId} {n : Tmp} {cb : Array Value} (hv : a.eval (.tmp n) = .func (.func f) #[] cb) {fn : Func} {ags : Array Operand} {ts : Array TypeId} (hf : P.funcs[f]? = some fn) (hname : (fn.name == "runtime.NumGoroutine") = false) (hb : fn.body.isSome = true) (args : Array Value)
  (hop:oi.op = .call { callee:=.value (.tmp n),args:=ags,argTypes:=ts }) (hargs:ags.map a.eval ++ cb=args)
  (h:Calls P f args w fun e w'=>∃v,e = .returned v∧wpList P ops Q rest (a.put N v) w'):wpList P ops Q (oi :: rest) a w:=by
 refine wpList_plain hg fun K hK=>?_
 have he:=Go.Proofs.YtnjjdojonflckaaGreatDoorW.PrintLast.enters_ hf hname hb args w;have hrun:(execOp a.eval oi).run P w = .ok (.enter f args) w:=by
  unfold execOp
  simp[hop,hv,resolve,Deferred.ofValue,invoke,hargs,he]
 unfold Oper.wp
 rw[hrun,Oper.upon_enter];refine h.mono fun e w'' hh=>?_
 obtain⟨v,rfl,hk⟩:=hh;subst hd;exact hK _ _ hk
theorem se (id:Int) (k0:ByteArray) (A:Option Addr) (n c g:Nat) (key:ByteArray) (w:World) (hk:w.cell? ⟨g,0,none⟩=some (.string key)) :
  Calls Tryz.prog 114 #[.agg #[.int .i64 id,.string k0,.slice A n c],.pointer (some ⟨g,0,none⟩)] w fun e w'=>e = .returned (.bool (k0.toList == key.toList))∧Below w.heap.size w w':=by
 have hu0_:=Tryz.underlying46;have HB:=am_ (Below.refl w.heap.size w);go_enter Tryz.func114,Tryz.ntmps114
 go_wp2_with (first | ((with_reducible refine gt_ 2 ?_);refine bx_ 2 #[.int .i64 id,.string k0,.slice A n c] 46 ?_;intro gb hg w2 hbox hb;have BK:=am_ hbox;have hk2:=(hb.cell (World.block_lt_of_cell? _ _ hk)).trans hk;replace HB:=am_ (aw HB.out hb);clear hb hbox hg hk;have hcz_0:w2.cell? ⟨gb,0,none⟩=some (.int .i64 id):=(aV BK.out 0).trans rfl;have hcz_1:w2.cell? ⟨gb,1,none⟩=some (.string k0):=(aV BK.out 1).trans rfl))
 go_ret
 exact⟨rfl,HB.out⟩
theorem rowIdx (A:Option Addr) (c:Nat) (l:List S46) (g:Nat) (key:ByteArray) (w:World) (hr:Kd.C k46 w A l.length l) (hk:w.cell? ⟨g,0,none⟩=some (.string key)) (hn:l.length≤9223372036854775807) :
  Calls Tryz.prog 113 #[.slice A l.length c,.func (.func 114) #[] #[.pointer (some ⟨g,0,none⟩)]] w fun e w'=>e = .returned (.int .i64 (ej key 0 l))∧Below w.heap.size w w':=by
 have hu0_:=Tryz.underlying46;have HB:=am_ (Below.refl w.heap.size w);have HR:=am_ hr;have HK:=am_ hk;clear hr hk;go_enter Tryz.func113,Tryz.ntmps113
 go_wp2;go_loopw [8] (fun v wr=>∃i:Nat,v = .int .i64 (i:Int)∧i≤l.length∧aa (ej key 0 l=ej key i (l.drop i))∧aa (Below w.heap.size w wr)) (fun v _=>match v with | .int _ i=>l.length - i.toNat | _=>0)
 case atStart=>exact⟨0,rfl,Nat.zero_le _,⟨rfl⟩,HB⟩
 case round=>
  clear HB;obtain⟨i,rfl,hi,HE,HB⟩:=hrel;rcases Nat.lt_or_ge i l.length with hlt | hge
  ·obtain⟨ad,A2,c2,e,tg,th,ti,_,_⟩:=fa HR.out (i:Int) au au;cases e;replace tg:=cb_ HB tg;replace th:=cb_ HB th;replace ti:=cb_ HB ti;simp only[Int.toNat_natCast] at tg th ti;have hkr:=(HB.out.cell (World.block_lt_of_cell? w _ HK.out)).trans HK.out;have hrd:ab l (i:Int)=l[i]:=by
    unfold ab;simp[List.getD_eq_getElem?_getD,List.getElem?_eq_getElem hlt]
   have hst:ej key i (l.drop i)=if((ab l (i:Int)).f1.f0.toList == key.toList)=true then(i:Int) else ej key (i+1) (l.drop (i+1)):=by
    rw[List.drop_eq_getElem_cons hlt,hrd];rfl
   have HS:=am_ hst;clear hst hrd;have p1:((i:Int)<(l.length:Int))=True:=eq_true au;have p0:(0≤(i:Int))=True:=eq_true au;have HX:=am_ hkr;clear hkr;generalize hm_:((ab l (i:Int)).f1.f0.toList == key.toList)=mm at HS;have HM:=am_ hm_;clear hm_;cases mm
   ·go_wp2_with (first | ((with_reducible refine fl (_f:=114) rfl ?_);refine sH (some 16) rfl rfl cB Tryz.func114 bW rfl #[.agg #[.int .i64 (ab l (i:Int)).f0,.string (ab l (i:Int)).f1.f0,.slice A2 (ab l (i:Int)).f1.f1.length c2],.pointer (some ⟨g,0,none⟩)] rfl u144_ ?_;(with_reducible refine(se _ _ _ _ _ g key _ HX.out).mono ?_);rintro e w3 ⟨rfl,hb⟩;refine⟨_,rfl,?_⟩;replace HB:=am_ (aw HB.out hb);clear hb;rw[HM.out]))
    go_roundw
    case rel=>exact⟨i+1,fF,au,⟨HE.out.trans (HS.out.trans (if_neg am))⟩,HB⟩
    case measure=>simp;omega
   ·go_wp2_with (first | ((with_reducible refine fl (_f:=114) rfl ?_);refine sH (some 16) rfl rfl cB Tryz.func114 bW rfl #[.agg #[.int .i64 (ab l (i:Int)).f0,.string (ab l (i:Int)).f1.f0,.slice A2 (ab l (i:Int)).f1.f1.length c2],.pointer (some ⟨g,0,none⟩)] rfl u144_ ?_;(with_reducible refine(se _ _ _ _ _ g key _ HX.out).mono ?_);rintro e w3 ⟨rfl,hb⟩;refine⟨_,rfl,?_⟩;replace HB:=am_ (aw HB.out hb);clear hb;rw[HM.out]))
    go_ret
    exact⟨by rw[HE.out,HS.out];rfl,HB.out⟩
  ·have hil:i=l.length:=by omega
   subst hil;have p1:(((l.length:Nat):Int)<(l.length:Int))=False:=eq_false au;go_wp2;go_ret
   refine⟨?_,HB.out⟩;rw[HE.out,List.drop_eq_nil_of_le (Nat.le_refl _)];rfl
def de.f (_a0_0:List (S92)) (a0_1:List (S46)) (_a0_2:List (S76)) (_a0_3:Int) (a1:ByteArray):Option Int:=some (ej a1 0 a0_1)
theorem de.calls (A0_0:Option Addr) (c0_0:Nat) (l0_0:List (S92)) (A0_1:Option Addr) (c0_1:Nat) (l0_1:List (S46)) (A0_2:Option Addr) (c0_2:Nat) (l0_2:List (S76)) (a0_3:Int) (a1:ByteArray) (r:Int) (w:World) (hr0_0:Kd.C k92 w A0_0 l0_0.length l0_0) (hc0_0:l0_0.length≤c0_0) (hr0_1:Kd.C k46 w A0_1 l0_1.length l0_1) (hc0_1:l0_1.length≤c0_1) (hr0_2:Kd.C k76 w A0_2 l0_2.length l0_2) (hc0_2:l0_2.length≤c0_2) (h:de.f l0_0 l0_1 l0_2 a0_3 a1=some r) :
  Calls Tryz.prog 66 #[.agg #[.slice A0_0 l0_0.length c0_0,.slice A0_1 l0_1.length c0_1,.slice A0_2 l0_2.length c0_2,.int .i64 a0_3],.string a1] w fun e w'=>e = .returned (.int .i64 r)∧Below w.heap.size w w':=by
 obtain rfl:=Option.some.inj h;have hu0_:=Tryz.underlying27;have hu1_:=Tryz.underlying9;have hlen:=hr0_1.2.1;have HB:=am_ (Below.refl w.heap.size w);have HR:=am_ hr0_1;clear hr0_0 hc0_0 hr0_1 hc0_1 hr0_2 hc0_2 h;go_enter Tryz.func66,Tryz.ntmps66
 go_wp2_with (first | ((with_reducible refine gt_ 2 ?_);refine bx_ 2 #[.slice A0_0 l0_0.length c0_0,.slice A0_1 l0_1.length c0_1,.slice A0_2 l0_2.length c0_2,.int .i64 a0_3] 27 ?_;intro gb hg w2 hbox hb;have BK:=am_ hbox;replace HB:=am_ (aw HB.out hb);clear hb hbox hg)|((with_reducible refine gt_ 3 ?_);refine bx_ 3 #[.string a1] 9 ?_;intro gk hg w3 hbox hb;replace BK:=am_ (bE (g:=gb) (o:=.cells #[.slice A0_0 l0_0.length c0_0,.slice A0_1 l0_1.length c0_1,.slice A0_2 l0_2.length c0_2,.int .i64 a0_3] 27 (0,0)) BK.out hb);have BQ:=am_ hbox;replace HB:=am_ (aw HB.out hb);clear hb hbox hg;have hcz_1:w3.cell? ⟨gb,1,none⟩=some (.slice A0_1 l0_1.length c0_1):=(aV BK.out 1).trans rfl;have HKK:=am_ (show w3.cell? ⟨gk,0,none⟩=some (.string a1) from (aV BQ.out 0).trans rfl))|((with_reducible refine eq (f:=113) rfl ?_);refine hJ (some 8) rfl rfl Tryz.func113 bW rfl #[.slice A0_1 l0_1.length c0_1,.func (.func 114) #[] #[.pointer (some ⟨gk,0,none⟩)]] rfl (by first | rfl | (simp only[List.map_toArray,List.map_cons,List.map_nil];rfl)) ?_;(with_reducible refine(rowIdx A0_1 c0_1 l0_1 gk a1 _ (Kd.C_below HR.out HB.out) HKK.out hlen).mono ?_);rintro e w4 ⟨rfl,hb⟩;refine⟨_,rfl,?_⟩;replace HB:=am_ (aw HB.out hb);clear hb))
 go_ret
 exact⟨rfl,HB.out⟩
def aZ.l0:Nat→List Int→List Int→Int→Int→Option (Bool)
 | 0,_,_,_,_=>none
 | k+1,x0,x1,th,tg=>if tg<th then(if 0≤tg then(if tg<(x0.length:Int) then(if tg<(x1.length:Int) then(if(rd x0 tg)=(rd x1 tg) then(aZ.l0 k x0 x1 th (wrap64 (tg+1))) else(some false)) else(none)) else(none)) else(none)) else(some true)
def aZ.f (k:Nat) (l0:List Int) (l1:List Int):Option (Bool):=if(l0.length:Int)=(l1.length:Int) then(aZ.l0 k l0 l1 (l0.length:Int) 0) else(some false)
theorem aZ.calls (k:Nat) (A0:Option Addr) (c0:Nat) (l0:List Int) (A1:Option Addr) (c1:Nat) (l1:List Int) (r:Bool) (w:World) (hr0:Kd.C (Kd.int .i64) w A0 l0.length l0) (hc0:l0.length≤c0) (hr1:Kd.C (Kd.int .i64) w A1 l1.length l1) (hc1:l1.length≤c1) (h:aZ.f k l0 l1=some r) :
  Calls Tryz.prog 154 #[.slice A0 l0.length c0,.slice A1 l1.length c1] w fun e w'=>e = .returned (.bool r)∧Drawn0 w w':=by
 have ZI:=am_ hr0;have tH:=am_ hc0;clear hr0 hc0;have Zh:=am_ hr1;have tI:=am_ hc1;clear hr1 hc1;have H:=h;clear h;unfold aZ.f at H
 by_cases c3:(l0.length:Int)=(l1.length:Int)
 ·rw[if_pos c3] at H;have ti:=cP c3;have tj:=cN c3;have tk:(l0.length == l1.length)=true:=by first | simpa using c3 | (simp at c3 ⊢;omega)
  clear c3;have H':=am_ H;clear H;go_enter Tryz.func154,Tryz.ntmps154
  go_wp2;repeat (go_quiet (fail);try go_wp2)
  go_loopg [13] k (fun kq tG w'=>∃(tg:Int),tG = .int .i64 tg∧aa (aZ.l0 kq l0 l1 (l0.length:Int) tg=some r)∧aa (kq≤k)∧Drawn0 w w')
  case atStart=>exact⟨(0),u3_,H',⟨Nat.le_refl _⟩,u7_⟩
  case round=>
   clear H';try clear c1
   try clear c3
   try clear ti
   try clear tj
   try clear tk
   obtain⟨tg,rfl,HA,HK1,⟨m1,rfl⟩⟩:=hrel;cases gk with
   | zero=>exact absurd HA.out (by simp[aZ.l0])
   | succ k1=>
    have H:=HA.out;clear HA;simp only[aZ.l0] at H;by_cases c4:tg<(l0.length:Int)
    ·rw[if_pos c4] at H;have tn:=decide_eq_true c4;clear c4;obtain⟨tz,H⟩:=gd_ H;obtain⟨tA,H⟩:=gd_ H;obtain⟨tB,H⟩:=gd_ H;have HC_:=am_ H;clear H;obtain⟨tw,tu,tl⟩:=Kd.at_int ZI.out tg od_ od_;cases tu;obtain⟨tC,tE⟩:=pt_ tg l0.length;obtain⟨tx,tv,tm⟩:=Kd.at_int Zh.out tg od_ od_;cases tv;obtain⟨tD,tF⟩:=pt_ tg l1.length;have H:=HC_.out;clear HC_;by_cases c8:(rd l0 tg)=(rd l1 tg)
     ·rw[if_pos c8] at H;have th:=cP c8;have tq:=cN c8;clear c8;have H':=am_ H;clear H;(first | rw[th] | (simp only[aC,aG];rw[th]) | skip)
      go_wp2;repeat (go_quiet (fail);try go_wp2)
      go_roundg k1
      case measure=>have:=HK1.out;omega
      case rel=>exact⟨(wrap64 (tg+1)),u3_,H',⟨dV⟩,u7_⟩
     ·rw[if_neg c8] at H;have th:=cE c8;have tq:=cG c8;obtain rfl:=si_ H;(first | rw[th] | (simp only[aC,aG];rw[th]) | skip)
      go_wp2;repeat (go_quiet (fail);try go_wp2)
      go_ret
      exact⟨cD,u7_⟩
    ·rw[if_neg c4] at H;have tn:=decide_eq_false c4;clear c4;obtain rfl:=si_ H;go_wp2;repeat (go_quiet (fail);try go_wp2)
     go_ret
     exact⟨cD,u7_⟩
 ·rw[if_neg c3] at H;have ti:=cE c3;have tj:=cG c3;have tk:(l0.length == l1.length)=false:=by first | simpa using c3 | (simp at c3 ⊢;omega)
  obtain rfl:=si_ H;go_enter Tryz.func154,Tryz.ntmps154
  go_wp2;repeat (go_quiet (fail);try go_wp2)
  go_ret
  exact⟨cD,u7_⟩
def dE.f (k:Nat) (a0_0:Int) (l0_1:List Int) (a1_0:Int) (l1_1:List Int):Option (Bool):=if a0_0=a1_0 then((aZ.f k l0_1 l1_1).bind fun tg=>(some tg)) else(some false)
theorem dE.calls (k:Nat) (a0_0:Int) (A0_1:Option Addr) (c0_1:Nat) (l0_1:List Int) (a1_0:Int) (A1_1:Option Addr) (c1_1:Nat) (l1_1:List Int) (r:Bool) (w:World) (hr0_1:Kd.C (Kd.int .i64) w A0_1 l0_1.length l0_1) (hc0_1:l0_1.length≤c0_1) (hr1_1:Kd.C (Kd.int .i64) w A1_1 l1_1.length l1_1) (hc1_1:l1_1.length≤c1_1) (h:dE.f k a0_0 l0_1 a1_0 l1_1=some r) :
  Calls Tryz.prog 120 #[.agg #[.int .i64 a0_0,.slice A0_1 l0_1.length c0_1],.agg #[.int .i64 a1_0,.slice A1_1 l1_1.length c1_1]] w fun e w'=>e = .returned (.bool r)∧Below w.heap.size w w':=by
 have hu50:=Tryz.underlying50;have tq:=am_ hr0_1;have tm:=am_ hc0_1;clear hr0_1 hc0_1;have tu:=am_ hr1_1;have tn:=am_ hc1_1;clear hr1_1 hc1_1;have HB:=am_ (Below.refl w.heap.size w);have H:=h;clear h;unfold dE.f at H
 by_cases c3:a0_0=a1_0
 ·rw[if_pos c3] at H;have tG:=cP c3;have tH:=cN c3;clear c3;obtain⟨tQ,A4,H⟩:=bi_ H;obtain rfl:=si_ H;go_enter Tryz.func120,Tryz.ntmps120
  go_wp2_with (first | ((with_reducible refine gt_ 2 ?_);refine bx_ 2 #[.int .i64 a0_0,.slice A0_1 l0_1.length c0_1] 50 ?_;intro tv hg w5 hbox hb;have tg:=am_ (hbox);have tk:=gw_ HB hg;replace HB:=bs_ HB hb;clear hb hbox hg)|((with_reducible refine gt_ 3 ?_);refine bx_ 3 #[.int .i64 a1_0,.slice A1_1 l1_1.length c1_1] 50 ?_;intro tw hg w6 hbox hb;have tj:=am_ (hbox);have tl:=gw_ HB hg;replace HB:=bs_ HB hb;have th:=nl_ tg hg;have ti:=ng_ tg hg;replace tg:=bb_ tg hb;clear hb hbox hg;have tT:=th.out;have tU:=ti.out;obtain⟨tI,tJ,tM,tN⟩:=bZ tg.out;obtain⟨tK,tL,tO,tP⟩:=bZ tj.out)|(go_at_call 154;(with_reducible refine(aZ.calls k _ _ l0_1 _ _ l1_1 tQ _ (kc_ tq HB) tm.out (kc_ tu HB) tn.out A4.out).mono ?_);rintro e w' ⟨rfl,⟨nd,rfl⟩⟩))
  go_ret
  exact⟨u1_,bw_ HB⟩
 ·rw[if_neg c3] at H;have tG:=cE c3;have tH:=cG c3;obtain rfl:=si_ H;go_enter Tryz.func120,Tryz.ntmps120
  go_wp2_with (first | ((with_reducible refine gt_ 2 ?_);refine bx_ 2 #[.int .i64 a0_0,.slice A0_1 l0_1.length c0_1] 50 ?_;intro tv hg tV hbox hb;have tg:=am_ (hbox);have tk:=gw_ HB hg;replace HB:=bs_ HB hb;clear hb hbox hg)|((with_reducible refine gt_ 3 ?_);refine bx_ 3 #[.int .i64 a1_0,.slice A1_1 l1_1.length c1_1] 50 ?_;intro tw hg tW hbox hb;have tj:=am_ (hbox);have tl:=gw_ HB hg;replace HB:=bs_ HB hb;have th:=nl_ tg hg;have ti:=ng_ tg hg;replace tg:=bb_ tg hb;clear hb hbox hg;have tR:=th.out;have tS:=ti.out;obtain⟨tx,tz,tC,tD⟩:=bZ tg.out;obtain⟨tA,tB,tE,tF⟩:=bZ tj.out))
  go_ret
  exact⟨u1_,bw_ HB⟩
def dk.l0:Nat→List (S50)→List (S50)→Int→Int→Option (Bool)
 | 0,_,_,_,_=>none
 | k+1,x1,th,tj,tg=>if tg<tj then(if 0≤tg then(if tg<(th.length:Int) then(if tg<(x1.length:Int) then((dE.f k ((ao th tg).f0) ((ao th tg).f1) ((ao x1 tg).f0) ((ao x1 tg).f1)).bind fun ti=>(if ti=true then(dk.l0 k x1 th tj (wrap64 (tg+1))) else(some false))) else(none)) else(none)) else(none)) else(some true)
def dk.f (k:Nat) (l0:List (S50)) (l1:List (S50)):Option (Bool):=if(l0.length:Int)=(l1.length:Int) then(dk.l0 k l1 l0 (l0.length:Int) 0) else(some false)
theorem dk.calls (k:Nat) (A0:Option Addr) (c0:Nat) (l0:List (S50)) (A1:Option Addr) (c1:Nat) (l1:List (S50)) (r:Bool) (w:World) (hr0:Kd.C k50 w A0 l0.length l0) (hc0:l0.length≤c0) (hr1:Kd.C k50 w A1 l1.length l1) (hc1:l1.length≤c1) (h:dk.f k l0 l1=some r) :
  Calls Tryz.prog 119 #[.slice A0 l0.length c0,.slice A1 l1.length c1,.func (.func 120) #[] #[]] w fun e w'=>e = .returned (.bool r)∧Below w.heap.size w w':=by
 have hu50:=Tryz.underlying50;have ZI:=am_ hr0;have uD:=am_ hc0;clear hr0 hc0;have Zh:=am_ hr1;have uE:=am_ hc1;clear hr1 hc1;have HB:=am_ (Below.refl w.heap.size w);have H:=h;clear h;unfold dk.f at H
 by_cases c3:(l0.length:Int)=(l1.length:Int)
 ·rw[if_pos c3] at H;have tP:=cP c3;have tQ:=cN c3;have tR:(l0.length == l1.length)=true:=by first | simpa using c3 | (simp at c3 ⊢;omega)
  clear c3;have H':=am_ H;clear H;go_enter Tryz.func119,Tryz.ntmps119
  go_wp2;go_loopg [17] k (fun kq uC w'=>∃(tg:Int),uC = .int .i64 tg∧aa (dk.l0 kq l1 l0 (l0.length:Int) tg=some r)∧aa (kq≤k)∧aa (Below w.heap.size w w'))
  case atStart=>exact⟨(0),u3_,H',⟨Nat.le_refl _⟩,⟨bw_ HB⟩⟩
  case round=>
   clear H';try clear c1
   try clear c3
   try clear tP
   try clear tQ
   try clear tR
   obtain⟨tg,rfl,HA,HK1,HB⟩:=hrel;cases gk with
   | zero=>exact absurd HA.out (by simp[dk.l0])
   | succ k1=>
    have H:=HA.out;clear HA;simp only[dk.l0] at H;by_cases c4:tg<(l0.length:Int)
    ·rw[if_pos c4] at H;have un:=decide_eq_true c4;clear c4;obtain⟨ux,H⟩:=gd_ H;obtain⟨uy,H⟩:=gd_ H;obtain⟨uz,H⟩:=gd_ H;obtain⟨uq,A8,H⟩:=bi_ H;have HC_:=am_ H;clear H;obtain⟨ur,tj,tk,uo,tJ,tK,tI,tH⟩:=ft ZI.out tg od_ od_;cases uo;replace tJ:=cb_ HB tJ;replace tK:=cb_ HB tK;have tG:=am_ tH;have tF:=am_ tI;clear tH tI;obtain⟨uA,uB⟩:=pt_ tg l0.length;have H:=HC_.out;clear HC_;cases uq
     ·replace H:=hf_ H;obtain rfl:=si_ H;go_wp2_with (first | ((with_reducible refine gt_ 8 ?_);refine bx_ 8 #[.int .i64 0,.slice none 0 0] 50 ?_;intro th hg uI hbox hb;have tl:=am_ (hbox);have tv:=gw_ HB hg;have tN:=tv;replace HB:=bs_ HB hb;clear hb hbox hg;obtain⟨tY,tZ,uh,ui⟩:=bZ tl.out;obtain⟨tD,tE⟩:=pq_ tg l1.length;obtain⟨tz,tB,tC,tM,ZO,ti,tn,tm⟩:=ft Zh.out tg tD tE;cases tM;have hn154_0:tz.block≠th:=Nat.ne_of_lt (Nat.lt_of_lt_of_le u95_ tv.out);have hn154_1:tz.block≠th:=Nat.ne_of_lt (Nat.lt_of_lt_of_le u95_ tv.out);replace ZO:=cb_ HB ZO;replace ti:=cb_ HB ti;have tx:=am_ tm;have tw:=am_ tn;clear tm tn;replace ZO:=(bl (p:=⟨th,0,none⟩) u87_ (.int .i64 ((ao l0 tg).f0))).trans ZO;replace ti:=(bl (p:=⟨th,0,none⟩) u87_ (.int .i64 ((ao l0 tg).f0))).trans ti;replace ZO:=(bl (p:=⟨th,1,none⟩) u88_ (.slice tj ((ao l0 tg).f1).length tk)).trans ZO;replace ti:=(bl (p:=⟨th,1,none⟩) u88_ (.slice tj ((ao l0 tg).f1).length tk)).trans ti;clear hn154_0 hn154_1;obtain⟨tD,tE⟩:=tt_ tD tE)|((with_reducible refine gt_ 9 ?_);refine bx_ 9 #[.int .i64 0,.slice none 0 0] 50 ?_;intro tA hg uJ hbox hb;have tL:=am_ (hbox);have tO:=gw_ HB hg;replace HB:=bs_ HB hb;have tq:=Nb.mk ((by rw[hg];exact Nat.ne_of_lt (dI (g:=th) (o:=.cells #[.int .i64 ((ao l0 tg).f0),.slice tj ((ao l0 tg).f1).length tk] 50 (0,0)) (pb_ tl)):th≠tA));have tu:=Nb.mk ((by rw[hg];exact Nat.ne_of_gt (dI (g:=th) (o:=.cells #[.int .i64 ((ao l0 tg).f0),.slice tj ((ao l0 tg).f1).length tk] 50 (0,0)) (pb_ tl)):tA≠th));replace tl:=am_ (bE (g:=th) (o:=.cells #[.int .i64 ((ao l0 tg).f0),.slice tj ((ao l0 tg).f1).length tk] 50 (0,0)) (pb_ tl) hb);clear hb hbox hg;have uu:=tu.out;have uw:=tq.out;obtain⟨t6,t7,uj,uk⟩:=bZ tL.out;obtain⟨t8,ua,ul,um⟩:=bZ tl.out)|((with_reducible refine fl (_f:=120) rfl ?_);refine oJ (some 29) rfl rfl cB Tryz.func120 bW rfl #[.agg #[.int .i64 ((ao l0 tg).f0),.slice tj ((ao l0 tg).f1).length tk],.agg #[.int .i64 ((ao l1 tg).f0),.slice tB ((ao l1 tg).f1).length tC]] rfl u76_ ?_;(with_reducible refine(dE.calls k1 ((ao l0 tg).f0) _ _ ((ao l0 tg).f1) ((ao l1 tg).f0) _ _ ((ao l1 tg).f1) false _ (kc_ tG HB) tF.out (kc_ tx HB) tw.out A8.out).mono ?_);rintro e uK ⟨rfl,hb⟩;refine⟨_,rfl,?_⟩;replace HB:=bs_ HB hb;(try clear hb)))
      go_ret
      exact⟨u1_,bw_ HB⟩
     ·replace H:=ht_ H;have H':=am_ H;clear H;go_wp2_with (first | ((with_reducible refine gt_ 8 ?_);refine bx_ 8 #[.int .i64 0,.slice none 0 0] 50 ?_;intro th hg uF hbox hb;have tl:=am_ (hbox);have tv:=gw_ HB hg;have tN:=tv;replace HB:=bs_ HB hb;clear hb hbox hg;obtain⟨tS,tT,ub,uc⟩:=bZ tl.out;obtain⟨tD,tE⟩:=pq_ tg l1.length;obtain⟨tz,tB,tC,tM,ZO,ti,tn,tm⟩:=ft Zh.out tg tD tE;cases tM;have hn154_0:tz.block≠th:=Nat.ne_of_lt (Nat.lt_of_lt_of_le u95_ tv.out);have hn154_1:tz.block≠th:=Nat.ne_of_lt (Nat.lt_of_lt_of_le u95_ tv.out);replace ZO:=cb_ HB ZO;replace ti:=cb_ HB ti;have tx:=am_ tm;have tw:=am_ tn;clear tm tn;replace ZO:=(bl (p:=⟨th,0,none⟩) u87_ (.int .i64 ((ao l0 tg).f0))).trans ZO;replace ti:=(bl (p:=⟨th,0,none⟩) u87_ (.int .i64 ((ao l0 tg).f0))).trans ti;replace ZO:=(bl (p:=⟨th,1,none⟩) u88_ (.slice tj ((ao l0 tg).f1).length tk)).trans ZO;replace ti:=(bl (p:=⟨th,1,none⟩) u88_ (.slice tj ((ao l0 tg).f1).length tk)).trans ti;clear hn154_0 hn154_1;obtain⟨tD,tE⟩:=tt_ tD tE)|((with_reducible refine gt_ 9 ?_);refine bx_ 9 #[.int .i64 0,.slice none 0 0] 50 ?_;intro tA hg uG hbox hb;have tL:=am_ (hbox);have tO:=gw_ HB hg;replace HB:=bs_ HB hb;have tq:=Nb.mk ((by rw[hg];exact Nat.ne_of_lt (dI (g:=th) (o:=.cells #[.int .i64 ((ao l0 tg).f0),.slice tj ((ao l0 tg).f1).length tk] 50 (0,0)) (pb_ tl)):th≠tA));have tu:=Nb.mk ((by rw[hg];exact Nat.ne_of_gt (dI (g:=th) (o:=.cells #[.int .i64 ((ao l0 tg).f0),.slice tj ((ao l0 tg).f1).length tk] 50 (0,0)) (pb_ tl)):tA≠th));replace tl:=am_ (bE (g:=th) (o:=.cells #[.int .i64 ((ao l0 tg).f0),.slice tj ((ao l0 tg).f1).length tk] 50 (0,0)) (pb_ tl) hb);clear hb hbox hg;have ut:=tu.out;have uv:=tq.out;obtain⟨tU,tV,ud,ue⟩:=bZ tL.out;obtain⟨tW,tX,uf,ug⟩:=bZ tl.out)|((with_reducible refine fl (_f:=120) rfl ?_);refine oJ (some 29) rfl rfl cB Tryz.func120 bW rfl #[.agg #[.int .i64 ((ao l0 tg).f0),.slice tj ((ao l0 tg).f1).length tk],.agg #[.int .i64 ((ao l1 tg).f0),.slice tB ((ao l1 tg).f1).length tC]] rfl u76_ ?_;(with_reducible refine(dE.calls k1 ((ao l0 tg).f0) _ _ ((ao l0 tg).f1) ((ao l1 tg).f0) _ _ ((ao l1 tg).f1) true _ (kc_ tG HB) tF.out (kc_ tx HB) tw.out A8.out).mono ?_);rintro e uH ⟨rfl,hb⟩;refine⟨_,rfl,?_⟩;replace HB:=bs_ HB hb;(try clear hb)))
      go_roundg k1
      case measure=>have:=HK1.out;omega
      case rel=>exact⟨(wrap64 (tg+1)),u3_,H',⟨dV⟩,⟨bw_ HB⟩⟩
    ·rw[if_neg c4] at H;have un:=decide_eq_false c4;clear c4;obtain rfl:=si_ H;go_wp2;go_ret
     exact⟨u1_,bw_ HB⟩
 ·rw[if_neg c3] at H;have tP:=cE c3;have tQ:=cG c3;have tR:(l0.length == l1.length)=false:=by first | simpa using c3 | (simp at c3 ⊢;omega)
  obtain rfl:=si_ H;go_enter Tryz.func119,Tryz.ntmps119
  go_wp2;go_ret
  exact⟨u1_,bw_ HB⟩
def dy.f (k:Nat) (a0_0:ByteArray) (a0_1:ByteArray) (l0_2:List (S50)) (a1_0:ByteArray) (a1_1:ByteArray) (l1_2:List (S50)):Option (Bool):=if a0_0.toList=a1_0.toList then(if a0_1.toList=a1_1.toList then((dk.f k l0_2 l1_2).bind fun tg=>(some tg)) else(some false)) else(some false)
theorem dy.calls (k:Nat) (a0_0:ByteArray) (a0_1:ByteArray) (A0_2:Option Addr) (c0_2:Nat) (l0_2:List (S50)) (a1_0:ByteArray) (a1_1:ByteArray) (A1_2:Option Addr) (c1_2:Nat) (l1_2:List (S50)) (r:Bool) (w:World) (hr0_2:Kd.C k50 w A0_2 l0_2.length l0_2) (hc0_2:l0_2.length≤c0_2) (hr1_2:Kd.C k50 w A1_2 l1_2.length l1_2) (hc1_2:l1_2.length≤c1_2) (h:dy.f k a0_0 a0_1 l0_2 a1_0 a1_1 l1_2=some r) :
  Calls Tryz.prog 69 #[.agg #[.string a0_0,.string a0_1,.slice A0_2 l0_2.length c0_2],.agg #[.string a1_0,.string a1_1,.slice A1_2 l1_2.length c1_2]] w fun e w'=>e = .returned (.bool r)∧Below w.heap.size w w':=by
 have hu76:=Tryz.underlying76;have tv:=am_ hr0_2;have tq:=am_ hc0_2;clear hr0_2 hc0_2;have tw:=am_ hr1_2;have tu:=am_ hc1_2;clear hr1_2 hc1_2;have HB:=am_ (Below.refl w.heap.size w);have H:=h;clear h;unfold dy.f at H
 by_cases c3:a0_0.toList=a1_0.toList
 ·rw[if_pos c3] at H;have t8:=cP c3;have ua:=cN c3;clear c3;by_cases c4:a0_1.toList=a1_1.toList
  ·rw[if_pos c4] at H;have ub:=cP c4;have uc:=cN c4;clear c4;obtain⟨uj,A5,H⟩:=bi_ H;obtain rfl:=si_ H;go_enter Tryz.func69,Tryz.ntmps69
   go_wp2_with (first | ((with_reducible refine gt_ 2 ?_);refine bx_ 2 #[.string a0_0,.string a0_1,.slice A0_2 l0_2.length c0_2] 76 ?_;intro tm hg w6 hbox hb;have tg:=am_ (hbox);have tk:=gw_ HB hg;replace HB:=bs_ HB hb;clear hb hbox hg)|((with_reducible refine gt_ 3 ?_);refine bx_ 3 #[.string a1_0,.string a1_1,.slice A1_2 l1_2.length c1_2] 76 ?_;intro tn hg w7 hbox hb;have tj:=am_ (hbox);have tl:=gw_ HB hg;replace HB:=bs_ HB hb;have th:=nl_ tg hg;have ti:=ng_ tg hg;replace tg:=bb_ tg hb;clear hb hbox hg;have uo:=th.out;have uq:=ti.out;obtain⟨ud,ue,uf,ug,uh,ui⟩:=dz tg.out;obtain⟨tx,tz,tA,tN,tO,tP⟩:=dz tj.out)|(go_at_call 119;(with_reducible refine(dk.calls k _ _ l0_2 _ _ l1_2 uj _ (kc_ tv HB) tq.out (kc_ tw HB) tu.out A5.out).mono ?_);rintro e ur ⟨rfl,hb⟩;replace HB:=bs_ HB hb;(try clear hb)))
   go_ret
   exact⟨u1_,bw_ HB⟩
  ·rw[if_neg c4] at H;have ub:=cE c4;have uc:=cG c4;obtain rfl:=si_ H;go_enter Tryz.func69,Tryz.ntmps69
   go_wp2_with (first | ((with_reducible refine gt_ 2 ?_);refine bx_ 2 #[.string a0_0,.string a0_1,.slice A0_2 l0_2.length c0_2] 76 ?_;intro tm hg ut hbox hb;have tg:=am_ (hbox);have tk:=gw_ HB hg;replace HB:=bs_ HB hb;clear hb hbox hg)|((with_reducible refine gt_ 3 ?_);refine bx_ 3 #[.string a1_0,.string a1_1,.slice A1_2 l1_2.length c1_2] 76 ?_;intro tn hg uu hbox hb;have tj:=am_ (hbox);have tl:=gw_ HB hg;replace HB:=bs_ HB hb;have th:=nl_ tg hg;have ti:=ng_ tg hg;replace tg:=bb_ tg hb;clear hb hbox hg;have uk:=th.out;have um:=ti.out;obtain⟨tB,tC,tD,tQ,tR,tS⟩:=dz tg.out;obtain⟨tE,tF,tG,tT,tU,tV⟩:=dz tj.out))
   go_ret
   exact⟨u1_,bw_ HB⟩
 ·rw[if_neg c3] at H;have t8:=cE c3;have ua:=cG c3;obtain rfl:=si_ H;go_enter Tryz.func69,Tryz.ntmps69
  go_wp2_with (first | ((with_reducible refine gt_ 2 ?_);refine bx_ 2 #[.string a0_0,.string a0_1,.slice A0_2 l0_2.length c0_2] 76 ?_;intro tm hg uv hbox hb;have tg:=am_ (hbox);have tk:=gw_ HB hg;replace HB:=bs_ HB hb;clear hb hbox hg)|((with_reducible refine gt_ 3 ?_);refine bx_ 3 #[.string a1_0,.string a1_1,.slice A1_2 l1_2.length c1_2] 76 ?_;intro tn hg uw hbox hb;have tj:=am_ (hbox);have tl:=gw_ HB hg;replace HB:=bs_ HB hb;have th:=nl_ tg hg;have ti:=ng_ tg hg;replace tg:=bb_ tg hb;clear hb hbox hg;have ul:=th.out;have un:=ti.out;obtain⟨tH,tI,tJ,tW,tX,tY⟩:=dz tg.out;obtain⟨tK,tL,tM,tZ,t6,t7⟩:=dz tj.out))
  go_ret
  exact⟨u1_,bw_ HB⟩
def cW.l0:Nat→List (S76)→List (S76)→Int→Int→Option (Bool)
 | 0,_,_,_,_=>none
 | k+1,x1,th,tj,tg=>if tg<tj then(if 0≤tg then(if tg<(th.length:Int) then(if tg<(x1.length:Int) then((dy.f k ((aj th tg).f0) ((aj th tg).f1) ((aj th tg).f2) ((aj x1 tg).f0) ((aj x1 tg).f1) ((aj x1 tg).f2)).bind fun ti=>(if ti=true then(cW.l0 k x1 th tj (wrap64 (tg+1))) else(some false))) else(none)) else(none)) else(none)) else(some true)
def cW.f (k:Nat) (l0:List (S76)) (l1:List (S76)):Option (Bool):=if(l0.length:Int)=(l1.length:Int) then(cW.l0 k l1 l0 (l0.length:Int) 0) else(some false)
theorem cW.calls (k:Nat) (A0:Option Addr) (c0:Nat) (l0:List (S76)) (A1:Option Addr) (c1:Nat) (l1:List (S76)) (r:Bool) (w:World) (hr0:Kd.C k76 w A0 l0.length l0) (hc0:l0.length≤c0) (hr1:Kd.C k76 w A1 l1.length l1) (hc1:l1.length≤c1) (h:cW.f k l0 l1=some r) :
  Calls Tryz.prog 67 #[.slice A0 l0.length c0,.slice A1 l1.length c1,.func (.func 69) #[] #[]] w fun e w'=>e = .returned (.bool r)∧Below w.heap.size w w':=by
 have hu76:=Tryz.underlying76;have ZI:=am_ hr0;have uR:=am_ hc0;clear hr0 hc0;have Zh:=am_ hr1;have uS:=am_ hc1;clear hr1 hc1;have HB:=am_ (Below.refl w.heap.size w);have H:=h;clear h;unfold cW.f at H
 by_cases c3:(l0.length:Int)=(l1.length:Int)
 ·rw[if_pos c3] at H;have tR:=cP c3;have tS:=cN c3;have tT:(l0.length == l1.length)=true:=by first | simpa using c3 | (simp at c3 ⊢;omega)
  clear c3;have H':=am_ H;clear H;go_enter Tryz.func67,Tryz.ntmps67
  go_wp2;go_loopg [17] k (fun kq uQ w'=>∃(tg:Int),uQ = .int .i64 tg∧aa (cW.l0 kq l1 l0 (l0.length:Int) tg=some r)∧aa (kq≤k)∧aa (Below w.heap.size w w'))
  case atStart=>exact⟨(0),u3_,H',⟨Nat.le_refl _⟩,⟨bw_ HB⟩⟩
  case round=>
   clear H';try clear c1
   try clear c3
   try clear tR
   try clear tS
   try clear tT
   obtain⟨tg,rfl,HA,HK1,HB⟩:=hrel;cases gk with
   | zero=>exact absurd HA.out (by simp[cW.l0])
   | succ k1=>
    have H:=HA.out;clear HA;simp only[cW.l0] at H;by_cases c4:tg<(l0.length:Int)
    ·rw[if_pos c4] at H;have uD:=decide_eq_true c4;clear c4;obtain⟨uL,H⟩:=gd_ H;obtain⟨uM,H⟩:=gd_ H;obtain⟨uN,H⟩:=gd_ H;obtain⟨uF,A8,H⟩:=bi_ H;have HC_:=am_ H;clear H;obtain⟨uG,tk,tl,uE,tK,tL,tM,tJ,tI⟩:=fe ZI.out tg od_ od_;cases uE;replace tK:=cb_ HB tK;replace tL:=cb_ HB tL;replace tM:=cb_ HB tM;have tH:=am_ tI;have tG:=am_ tJ;clear tI tJ;obtain⟨uO,uP⟩:=pt_ tg l0.length;have H:=HC_.out;clear HC_;cases uF
     ·replace H:=hf_ H;obtain rfl:=si_ H;go_wp2_with (first | ((with_reducible refine gt_ 8 ?_);refine bx_ 8 #[.string (⟨#[]⟩:ByteArray),.string (⟨#[]⟩:ByteArray),.slice none 0 0] 76 ?_;intro th hg uW hbox hb;have tm:=am_ (hbox);have tn:=gw_ HB hg;have tP:=tn;replace HB:=bs_ HB hb;clear hb hbox hg;obtain⟨ua,ub,uc,uu,uv,uw⟩:=dz tm.out;obtain⟨tE,tF⟩:=pq_ tg l1.length;obtain⟨tx,tC,tD,tO,ZT,ti,tj,tu,tq⟩:=fe Zh.out tg tE tF;cases tO;have hn162_0:tx.block≠th:=Nat.ne_of_lt (Nat.lt_of_lt_of_le u73_ tn.out);have hn162_1:tx.block≠th:=Nat.ne_of_lt (Nat.lt_of_lt_of_le u73_ tn.out);have hn162_2:tx.block≠th:=Nat.ne_of_lt (Nat.lt_of_lt_of_le u73_ tn.out);replace ZT:=cb_ HB ZT;replace ti:=cb_ HB ti;replace tj:=cb_ HB tj;have tA:=am_ tq;have tz:=am_ tu;clear tq tu;replace ZT:=(bl (p:=⟨th,0,none⟩) u60_ (.string ((aj l0 tg).f0))).trans ZT;replace ti:=(bl (p:=⟨th,0,none⟩) u60_ (.string ((aj l0 tg).f0))).trans ti;replace tj:=(bl (p:=⟨th,0,none⟩) u60_ (.string ((aj l0 tg).f0))).trans tj;replace ZT:=(bl (p:=⟨th,1,none⟩) u61_ (.string ((aj l0 tg).f1))).trans ZT;replace ti:=(bl (p:=⟨th,1,none⟩) u61_ (.string ((aj l0 tg).f1))).trans ti;replace tj:=(bl (p:=⟨th,1,none⟩) u61_ (.string ((aj l0 tg).f1))).trans tj;replace ZT:=(bl (p:=⟨th,2,none⟩) u62_ (.slice tk ((aj l0 tg).f2).length tl)).trans ZT;replace ti:=(bl (p:=⟨th,2,none⟩) u62_ (.slice tk ((aj l0 tg).f2).length tl)).trans ti;replace tj:=(bl (p:=⟨th,2,none⟩) u62_ (.slice tk ((aj l0 tg).f2).length tl)).trans tj;clear hn162_0 hn162_1 hn162_2;obtain⟨tE,tF⟩:=tt_ tE tF)|((with_reducible refine gt_ 9 ?_);refine bx_ 9 #[.string (⟨#[]⟩:ByteArray),.string (⟨#[]⟩:ByteArray),.slice none 0 0] 76 ?_;intro tB hg uX hbox hb;have tN:=am_ (hbox);have tQ:=gw_ HB hg;replace HB:=bs_ HB hb;have tv:=Nb.mk ((by rw[hg];exact Nat.ne_of_lt (dI (g:=th) (o:=.cells #[.string ((aj l0 tg).f0),.string ((aj l0 tg).f1),.slice tk ((aj l0 tg).f2).length tl] 76 (0,0)) (pb_ tm)):th≠tB));have tw:=Nb.mk ((by rw[hg];exact Nat.ne_of_gt (dI (g:=th) (o:=.cells #[.string ((aj l0 tg).f0),.string ((aj l0 tg).f1),.slice tk ((aj l0 tg).f2).length tl] 76 (0,0)) (pb_ tm)):tB≠th));replace tm:=am_ (bE (g:=th) (o:=.cells #[.string ((aj l0 tg).f0),.string ((aj l0 tg).f1),.slice tk ((aj l0 tg).f2).length tl] 76 (0,0)) (pb_ tm) hb);clear hb hbox hg;have uI:=tw.out;have uK:=tv.out;obtain⟨ud,ue,uf,ux,uy,uz⟩:=dz tN.out;obtain⟨ug,uh,ui,uA,uB,uC⟩:=dz tm.out)|((with_reducible refine fl (_f:=69) rfl ?_);refine oJ (some 29) rfl rfl cB Tryz.func69 bW rfl #[.agg #[.string ((aj l0 tg).f0),.string ((aj l0 tg).f1),.slice tk ((aj l0 tg).f2).length tl],.agg #[.string ((aj l1 tg).f0),.string ((aj l1 tg).f1),.slice tC ((aj l1 tg).f2).length tD]] rfl u76_ ?_;(with_reducible refine(dy.calls k1 ((aj l0 tg).f0) ((aj l0 tg).f1) _ _ ((aj l0 tg).f2) ((aj l1 tg).f0) ((aj l1 tg).f1) _ _ ((aj l1 tg).f2) false _ (kc_ tH HB) tG.out (kc_ tA HB) tz.out A8.out).mono ?_);rintro e uY ⟨rfl,hb⟩;refine⟨_,rfl,?_⟩;replace HB:=bs_ HB hb;(try clear hb)))
      go_ret
      exact⟨u1_,bw_ HB⟩
     ·replace H:=ht_ H;have H':=am_ H;clear H;go_wp2_with (first | ((with_reducible refine gt_ 8 ?_);refine bx_ 8 #[.string (⟨#[]⟩:ByteArray),.string (⟨#[]⟩:ByteArray),.slice none 0 0] 76 ?_;intro th hg uT hbox hb;have tm:=am_ (hbox);have tn:=gw_ HB hg;have tP:=tn;replace HB:=bs_ HB hb;clear hb hbox hg;obtain⟨tU,tV,tW,uj,uk,ul⟩:=dz tm.out;obtain⟨tE,tF⟩:=pq_ tg l1.length;obtain⟨tx,tC,tD,tO,ZT,ti,tj,tu,tq⟩:=fe Zh.out tg tE tF;cases tO;have hn162_0:tx.block≠th:=Nat.ne_of_lt (Nat.lt_of_lt_of_le u73_ tn.out);have hn162_1:tx.block≠th:=Nat.ne_of_lt (Nat.lt_of_lt_of_le u73_ tn.out);have hn162_2:tx.block≠th:=Nat.ne_of_lt (Nat.lt_of_lt_of_le u73_ tn.out);replace ZT:=cb_ HB ZT;replace ti:=cb_ HB ti;replace tj:=cb_ HB tj;have tA:=am_ tq;have tz:=am_ tu;clear tq tu;replace ZT:=(bl (p:=⟨th,0,none⟩) u60_ (.string ((aj l0 tg).f0))).trans ZT;replace ti:=(bl (p:=⟨th,0,none⟩) u60_ (.string ((aj l0 tg).f0))).trans ti;replace tj:=(bl (p:=⟨th,0,none⟩) u60_ (.string ((aj l0 tg).f0))).trans tj;replace ZT:=(bl (p:=⟨th,1,none⟩) u61_ (.string ((aj l0 tg).f1))).trans ZT;replace ti:=(bl (p:=⟨th,1,none⟩) u61_ (.string ((aj l0 tg).f1))).trans ti;replace tj:=(bl (p:=⟨th,1,none⟩) u61_ (.string ((aj l0 tg).f1))).trans tj;replace ZT:=(bl (p:=⟨th,2,none⟩) u62_ (.slice tk ((aj l0 tg).f2).length tl)).trans ZT;replace ti:=(bl (p:=⟨th,2,none⟩) u62_ (.slice tk ((aj l0 tg).f2).length tl)).trans ti;replace tj:=(bl (p:=⟨th,2,none⟩) u62_ (.slice tk ((aj l0 tg).f2).length tl)).trans tj;clear hn162_0 hn162_1 hn162_2;obtain⟨tE,tF⟩:=tt_ tE tF)|((with_reducible refine gt_ 9 ?_);refine bx_ 9 #[.string (⟨#[]⟩:ByteArray),.string (⟨#[]⟩:ByteArray),.slice none 0 0] 76 ?_;intro tB hg uU hbox hb;have tN:=am_ (hbox);have tQ:=gw_ HB hg;replace HB:=bs_ HB hb;have tv:=Nb.mk ((by rw[hg];exact Nat.ne_of_lt (dI (g:=th) (o:=.cells #[.string ((aj l0 tg).f0),.string ((aj l0 tg).f1),.slice tk ((aj l0 tg).f2).length tl] 76 (0,0)) (pb_ tm)):th≠tB));have tw:=Nb.mk ((by rw[hg];exact Nat.ne_of_gt (dI (g:=th) (o:=.cells #[.string ((aj l0 tg).f0),.string ((aj l0 tg).f1),.slice tk ((aj l0 tg).f2).length tl] 76 (0,0)) (pb_ tm)):tB≠th));replace tm:=am_ (bE (g:=th) (o:=.cells #[.string ((aj l0 tg).f0),.string ((aj l0 tg).f1),.slice tk ((aj l0 tg).f2).length tl] 76 (0,0)) (pb_ tm) hb);clear hb hbox hg;have uH:=tw.out;have uJ:=tv.out;obtain⟨tX,tY,tZ,um,un,uo⟩:=dz tN.out;obtain⟨t6,t7,t8,uq,ur,ut⟩:=dz tm.out)|((with_reducible refine fl (_f:=69) rfl ?_);refine oJ (some 29) rfl rfl cB Tryz.func69 bW rfl #[.agg #[.string ((aj l0 tg).f0),.string ((aj l0 tg).f1),.slice tk ((aj l0 tg).f2).length tl],.agg #[.string ((aj l1 tg).f0),.string ((aj l1 tg).f1),.slice tC ((aj l1 tg).f2).length tD]] rfl u76_ ?_;(with_reducible refine(dy.calls k1 ((aj l0 tg).f0) ((aj l0 tg).f1) _ _ ((aj l0 tg).f2) ((aj l1 tg).f0) ((aj l1 tg).f1) _ _ ((aj l1 tg).f2) true _ (kc_ tH HB) tG.out (kc_ tA HB) tz.out A8.out).mono ?_);rintro e uV ⟨rfl,hb⟩;refine⟨_,rfl,?_⟩;replace HB:=bs_ HB hb;(try clear hb)))
      go_roundg k1
      case measure=>have:=HK1.out;omega
      case rel=>exact⟨(wrap64 (tg+1)),u3_,H',⟨dV⟩,⟨bw_ HB⟩⟩
    ·rw[if_neg c4] at H;have uD:=decide_eq_false c4;clear c4;obtain rfl:=si_ H;go_wp2;go_ret
     exact⟨u1_,bw_ HB⟩
 ·rw[if_neg c3] at H;have tR:=cE c3;have tS:=cG c3;have tT:(l0.length == l1.length)=false:=by first | simpa using c3 | (simp at c3 ⊢;omega)
  obtain rfl:=si_ H;go_enter Tryz.func67,Tryz.ntmps67
  go_wp2;go_ret
  exact⟨u1_,bw_ HB⟩
def dr.f (a0:Int):Option (Bool):=if a0≥65 then(some (decide (a0≤90))) else(some false)
theorem dr.calls (a0:Int) (r:Bool) (w:World) (h:dr.f a0=some r) :
  Calls Tryz.prog 132 #[.int .u8 a0] w fun e w'=>e = .returned (.bool r)∧Drawn0 w w':=by
 have H:=h;clear h;unfold dr.f at H
 by_cases c2:a0≥65
 ·rw[if_pos c2] at H;have tg:decide (65≤a0)=true:=decide_eq_true c2;clear c2;obtain rfl:=si_ H;go_enter Tryz.func132,Tryz.ntmps132
  go_wp2;go_ret
  exact⟨cD,u7_⟩
 ·rw[if_neg c2] at H;have tg:decide (65≤a0)=false:=decide_eq_false c2;clear c2;obtain rfl:=si_ H;go_enter Tryz.func132,Tryz.ntmps132
  go_wp2;go_ret
  exact⟨cD,u7_⟩
def dN (c:Int):Int:=if 65≤c∧c≤90 then c+32 else c
def fj.f (a0:ByteArray):Option (ByteArray):=if a0.size≤70368744177664 then some (strOfNums ((ar a0).map dN)) else none
def Buf8 (W:World) (B:Nat) (xs:List Int):Prop:=∀j,j<xs.length→W.cell? ⟨B,j,none⟩=some (.int .u8 (xs.getD j 0))∧W.frozen? ⟨B,j,none⟩=false
theorem Buf8.set {W:World} {B:Nat} {xs:List Int} (h:Buf8 W B xs) (i:Nat) (v:Int):Buf8 (W.setCell ⟨B,i,none⟩ (.int .u8 v)) B (xs.set i v):=by
 intro j hj;rw[List.length_set] at hj;have hc:=h j hj;refine⟨?_,by rw[World.frozen?_setCell];exact hc.2⟩;by_cases e:i=j
 ·subst e;rw[World.cell?_setCell_same _ _ _ hc.1];simp[List.getD_eq_getElem?_getD,hj]
 ·rw[World.cell?_setCell_other _ _ _ _ (by simp[e]),hc.1];simp[List.getD_eq_getElem?_getD,List.getElem?_set_ne e]
theorem Buf8.drewN {W:World} {B:Nat} {xs:List Int} (h:Buf8 W B xs) (n:Nat):Buf8 (W.drewN n) B xs:=h
theorem rK (W:World) (e:TypeId) (s:ByteArray):Buf8 (Lib.bytesWorld W e s) W.heap.size (ar s):=by
 intro j hj;rw[bX] at hj;constructor
 ·rw[Lib.bytesWorld_cell W e s j hj];have h':j<s.data.toList.length:=by rw[f9];exact hj
  simp[ar,List.getD_eq_getElem?_getD,List.getElem?_eq_getElem h']
 ·unfold World.frozen?
  rw[Lib.bytesWorld_at_new];have h1:s.size≤(Lib.bytesCells W e s).size:=by
   unfold Lib.bytesCells
   rw[Array.size_append,Array.size_map];exact Nat.le_add_right _ _
  show (decide ((Lib.bytesCells W e s).size≤j) && decide (j<(Lib.bytesCells W e s).size+1))=false
  rw[decide_eq_false au];rfl
theorem nv (l:List Int) (k:Nat) (h:k<l.length):(l.take (k+1)).map dN=(l.take k).map dN ++ [dN l[k]]:=by
 rw[List.take_add_one,List.getElem?_eq_getElem h,List.map_append];rfl
theorem g8 (l:List Int) (k:Nat) (h:k≤l.length):((l.take k).map dN).length=k:=by
 rw[List.length_map,List.length_take];omega
theorem rT (l:List Int) (k:Nat) (h:k<l.length):((l.take k).map dN ++ l.drop k).getD k 0=l[k]:=by
 rw[List.getD_eq_getElem?_getD,List.getElem?_append_right (by rw[g8 l k au];exact Nat.le_refl _),g8 l k au,Nat.sub_self,List.drop_eq_getElem_cons h];rfl
theorem rU (l:List Int) (k:Nat) (h:k<l.length) (v:Int) (hv:dN l[k] = v):((l.take k).map dN ++ l.drop k).set k v=(l.take (k+1)).map dN ++ l.drop (k+1):=by
 rw[List.set_append_right _ _ (by rw[g8 l k au];exact Nat.le_refl _),g8 l k au,Nat.sub_self,nv l k h,List.drop_eq_getElem_cons h,List.append_assoc,hv];rfl
theorem rc (l:List Int) (k:Nat) (h:k<l.length) (hv:dN l[k] = l[k]):(l.take k).map dN ++ l.drop k=(l.take (k+1)).map dN ++ l.drop (k+1):=by
 rw[nv l k h,List.drop_eq_getElem_cons h,List.append_assoc,hv];rfl
theorem rO (l:List Int):(l.take l.length).map dN ++ l.drop l.length=l.map dN:=by
 rw[List.take_length,List.drop_length,List.append_nil]
theorem pt (c:Int):dr.f c=some (decide (65≤c∧c≤90)):=by
 unfold dr.f
 by_cases h:c≥65
 ·rw[if_pos h];congr 1;exact decide_eq_decide.2 au
 ·rw[if_neg h];congr 1;symm;exact decide_eq_false au
set_option maxHeartbeats 2000000 in
theorem fj.calls (a0:ByteArray) (r:ByteArray) (w:World) (h:fj.f a0=some r) :
  Calls Tryz.prog 91 #[.string a0] w fun e w'=>e = .returned (.string r)∧Below w.heap.size w w':=by
 unfold fj.f at h
 by_cases hs:a0.size≤70368744177664
 case neg=>rw[if_neg hs] at h;exact absurd h bb
 rw[if_pos hs] at h;have HR:=am_ (Option.some.inj h);clear h;have hlen:=bX a0;have HL:=am_ hlen;clear hlen;have kb:=oZ (P:=Tryz.prog) 9 22 5 Tryz.underlying9 Tryz.underlying22 Tryz.underlying5 a0 w;go_enter Tryz.func91,Tryz.ntmps91
 go_wp2;go_loopw [10] (fun i wr=>∃k:Nat,k≤a0.size∧i = .int .i64 k∧aa (Buf8 wr w.heap.size (((ar a0).take k).map dN ++ (ar a0).drop k))∧aa (Below w.heap.size w wr)) (fun i _=>a0.size - (intOf i).toNat)
 case atStart=>exact⟨0,Nat.zero_le _,rfl,⟨rK w 5 a0⟩,⟨kF (Below.refl _ _) (Nat.le_refl _) 5 a0⟩⟩
 case round=>
  obtain⟨k,hk,rfl,HF,HB⟩:=hrel;clear kb;by_cases hlt:k<a0.size
  ·have hkl:k<(ar a0).length:=by have:=HL.out;omega
   have hbl:(((ar a0).take k).map dN ++ (ar a0).drop k).length=a0.size:=by
    rw[List.length_append,g8 _ _ au,List.length_drop];have:=HL.out;omega
   obtain⟨hc0,hf0⟩:=HF.out k (by rw[hbl];exact hlt);rw[rT _ k hkl] at hc0;have hrange:=sG a0 (k:Int);rw[← ml,show rd (ar a0) (k:Int)=(ar a0)[k] by unfold rd;simp[List.getD_eq_getElem?_getD,List.getElem?_eq_getElem hkl]] at hrange;obtain⟨h0,h1⟩:=hrange;clear hbl;obtain⟨c,hc⟩:∃c,(ar a0)[k] = c:=⟨_,rfl⟩;rw[hc] at hc0 h0 h1;have HC:=am_ hc;clear hc;by_cases hu:65≤c∧c≤90
   ·have hf:=pt c;rw[decide_eq_true hu] at hf;have HU:=am_ hf;clear hf;have HV:aa (dN (ar a0)[k] = c+97 - 65):=⟨by rw[HC.out];unfold dN;rw[if_pos hu];omega⟩;obtain⟨hu0,hu1⟩:=hu;go_wp2_with (first | (go_at_call 132;(with_reducible refine(dr.calls c true _ HU.out).mono ?_);rintro e w' ⟨rfl,⟨nd,rfl⟩⟩))
    go_roundw
    case rel=>exact⟨k+1,au,fF,⟨by rw[← rU _ k hkl _ HV.out];exact Buf8.drewN (Buf8.set HF.out k (c+97 - 65)) _⟩,⟨by first | exact al (aN HB.out (Nat.le_refl _)) _ | exact aN (al HB.out _) (Nat.le_refl _)⟩⟩
    case measure=>simp[intOf];omega
   ·have hf:=pt c;rw[decide_eq_false hu] at hf;have HU:=am_ hf;clear hf;have HV:aa (dN (ar a0)[k] = (ar a0)[k]):=⟨by rw[HC.out];unfold dN;rw[if_neg hu]⟩;clear hu;go_wp2_with (first | (go_at_call 132;(with_reducible refine(dr.calls c false _ HU.out).mono ?_);rintro e w' ⟨rfl,⟨nd,rfl⟩⟩))
    go_roundw
    case rel=>exact⟨k+1,au,fF,⟨by rw[← rc _ k hkl HV.out];exact Buf8.drewN HF.out _⟩,⟨al HB.out _⟩⟩
    case measure=>simp[intOf];omega
  ·obtain rfl:k=a0.size:=by omega
   have hx:=HF.out;rw[← HL.out,rO] at hx;have kr:=run_convert_bytes_arg (P:=Tryz.prog) wr 22 5 Tryz.underlying22 Tryz.underlying5 w.heap.size 0 a0.size (grownCap w a0.size 0 5) ((ar a0).map dN) (by rw[List.length_map,HL.out]) (fun i hi=>by rw[Nat.zero_add];exact(hx i (by rw[List.length_map,HL.out];exact hi)).1) 9 Tryz.underlying9;clear hx HF hk hlt;go_wp2;go_ret
   exact⟨congrArg (fun s=>Ending.returned (Value.string s)) HR.out,by first | exact HB.out | exact al HB.out _⟩
def cl.j0:Nat→ByteArray→Int→Bool→Option (ByteArray)
 | 0,_,_,_=>none
 | k+1,x0,x3,ti=>if ti=true then(if 0≤(wrap64 (x3 - 1)) then(if(wrap64 (x3 - 1))≤(x0.size:Int) then((aA.f k cQ (x0.extract 0 ((wrap64 (x3 - 1)):Int).toNat)).bind fun tg=>(if tg=true then(some (⟨#[]⟩:ByteArray)) else(some (x0.extract 0 ((wrap64 (x3 - 1)):Int).toNat)))) else(none)) else(none)) else((aA.f k cQ x0).bind fun th=>(if th=true then(some (⟨#[]⟩:ByteArray)) else(some x0)))
def cl.f (k:Nat) (a0:ByteArray):Option (ByteArray):=(fj.f a0).bind fun tg=>(if 0≤(mn (tg.size:Int) 12) then(if(mn (tg.size:Int) 12)≤(tg.size:Int) then(if((tg.extract 0 ((mn (tg.size:Int) 12):Int).toNat).size:Int)>3 then(if 0≤(wrap64 (((tg.extract 0 ((mn (tg.size:Int) 12):Int).toNat).size:Int) - 1)) then(if(wrap64 (((tg.extract 0 ((mn (tg.size:Int) 12):Int).toNat).size:Int) - 1))<((tg.extract 0 ((mn (tg.size:Int) 12):Int).toNat).size:Int) then(if(bt (tg.extract 0 ((mn (tg.size:Int) 12):Int).toNat) (wrap64 (((tg.extract 0 ((mn (tg.size:Int) 12):Int).toNat).size:Int) - 1)))=115 then(if 0≤(wrap64 (((tg.extract 0 ((mn (tg.size:Int) 12):Int).toNat).size:Int) - 2)) then(if(wrap64 (((tg.extract 0 ((mn (tg.size:Int) 12):Int).toNat).size:Int) - 2))<((tg.extract 0 ((mn (tg.size:Int) 12):Int).toNat).size:Int) then(cl.j0 k (tg.extract 0 ((mn (tg.size:Int) 12):Int).toNat) ((tg.extract 0 ((mn (tg.size:Int) 12):Int).toNat).size:Int) ((bt (tg.extract 0 ((mn (tg.size:Int) 12):Int).toNat) (wrap64 (((tg.extract 0 ((mn (tg.size:Int) 12):Int).toNat).size:Int) - 2))) != 115)) else(none)) else(none)) else(cl.j0 k (tg.extract 0 ((mn (tg.size:Int) 12):Int).toNat) ((tg.extract 0 ((mn (tg.size:Int) 12):Int).toNat).size:Int) false)) else(none)) else(none)) else(cl.j0 k (tg.extract 0 ((mn (tg.size:Int) 12):Int).toNat) ((tg.extract 0 ((mn (tg.size:Int) 12):Int).toNat).size:Int) false)) else(none)) else(none))
theorem cl.calls (k:Nat) (a0:ByteArray) (r:ByteArray) (w:World) (hG:StopsIn w) (h:cl.f k a0=some r) :
  Calls Tryz.prog 46 #[.string a0] w fun e w'=>e = .returned (.string r)∧Below w.heap.size w w':=by
 have HG_:=am_ hG;clear hG;obtain⟨AG_,cG_,hg1_,hg2_,hg3_⟩:=HG_.out.stops;have HG1_:=am_ hg1_;have HG2_:=am_ hg2_;have HG3_:=am_ hg3_;clear hg1_ hg2_ hg3_;have HB:=am_ (Below.refl w.heap.size w);have H:=h;clear h;unfold cl.f at H
 obtain⟨tg,A2,H⟩:=bi_ H;obtain⟨th,Y8⟩:∃j_:Int,(mn (tg.size:Int) 12)=j_:=⟨_,rfl⟩;replace H:(if 0≤(th) then(if(th)≤(tg.size:Int) then(if((tg.extract 0 ((th):Int).toNat).size:Int)>3 then(if 0≤(wrap64 (((tg.extract 0 ((th):Int).toNat).size:Int) - 1)) then(if(wrap64 (((tg.extract 0 ((th):Int).toNat).size:Int) - 1))<((tg.extract 0 ((th):Int).toNat).size:Int) then(if(bt (tg.extract 0 ((th):Int).toNat) (wrap64 (((tg.extract 0 ((th):Int).toNat).size:Int) - 1)))=115 then(if 0≤(wrap64 (((tg.extract 0 ((th):Int).toNat).size:Int) - 2)) then(if(wrap64 (((tg.extract 0 ((th):Int).toNat).size:Int) - 2))<((tg.extract 0 ((th):Int).toNat).size:Int) then(cl.j0 k (tg.extract 0 ((th):Int).toNat) ((tg.extract 0 ((th):Int).toNat).size:Int) ((bt (tg.extract 0 ((th):Int).toNat) (wrap64 (((tg.extract 0 ((th):Int).toNat).size:Int) - 2))) != 115)) else(none)) else(none)) else(cl.j0 k (tg.extract 0 ((th):Int).toNat) ((tg.extract 0 ((th):Int).toNat).size:Int) false)) else(none)) else(none)) else(cl.j0 k (tg.extract 0 ((th):Int).toNat) ((tg.extract 0 ((th):Int).toNat).size:Int) false)) else(none)) else(none))=some r:=by first | (rw[Y8] at H;exact H)|(simp only[Y8] at H ⊢;exact H)
 (try rw[Y8] at A2)
 (try (have hji3h:th≤12:=by(rw[← Y8];unfold mn;(repeat' split) <;> omega)))
 (try (have hji3g:th≤64:=by omega))
 (try (have hji3l:0≤th:=by(rw[← Y8];unfold mn;(repeat' split) <;> omega)))
 (try (have hji3m:0≤th:=by omega))
 have tR:(if 12<(tg.size:Int) then 12 else(tg.size:Int))=th:=Y8;obtain⟨tB,tC,H⟩:=ge_ H;obtain⟨tD,tE,H⟩:=ge_ H;have tA:=am_ H;clear H;go_enter Tryz.func46,Tryz.ntmps46
 go_upto_region 3 with (first | ((with_reducible refine gt_ 5 ?_);refine gB_ 5 Tryz.func91 (fj.calls a0 tg _ A2.out) ?_;intro w7 hb;replace HB:=bs_ HB hb;(try clear hb)))
 (try simp only[Act.put,List.setIfInBounds_toArray,List.set_cons_zero,List.set_cons_succ])
 obtain⟨y_,hy_⟩:∃y_:ByteArray,tg.extract 0 ((th):Int).toNat=y_:=⟨_,rfl⟩;simp only[hy_] at tA ⊢;clear hy_;go_upto_region 4 with (fail)
 (try simp only[Act.put,List.setIfInBounds_toArray,List.set_cons_zero,List.set_cons_succ])
 go_cut [28] (fun tY wc=>∃(kq:Nat) (tm:Bool),tY = .bool tm∧aa (cl.j0 kq y_ (y_.size:Int) tm=some r)∧aa (kq≤k)∧aa (Below w.heap.size w wc))
 case first=>
  have H:=tA.out;clear tA;by_cases c8:(y_.size:Int)>3
  ·rw[if_pos c8] at H;have tn:decide (3<(y_.size:Int))=true:=decide_eq_true c8;have tF:decide (3<y_.size)=true:=decide_eq_true au;clear c8;(first | rw[tn] | (simp only[aC,aG];rw[tn]) | skip)
   obtain⟨tv,tu⟩:∃j_:Int,(wrap64 ((y_.size:Int) - 1))=j_:=⟨_,rfl⟩;replace H:(if 0≤(tv) then(if(tv)<(y_.size:Int) then(if(bt y_ (tv))=115 then(if 0≤(wrap64 ((y_.size:Int) - 2)) then(if(wrap64 ((y_.size:Int) - 2))<(y_.size:Int) then(cl.j0 k y_ (y_.size:Int) ((bt y_ (wrap64 ((y_.size:Int) - 2))) != 115)) else(none)) else(none)) else(cl.j0 k y_ (y_.size:Int) false)) else(none)) else(none))=some r:=by first | (rw[tu] at H;exact H)|(simp only[tu] at H ⊢;exact H)
   have hji9w:(IntKind.i64.wrap ((y_.size:Int) - 1))=tv:=(aC _).trans tu;obtain⟨tJ,H⟩:=gd_ H;obtain⟨tK,H⟩:=gd_ H;have HC_:=am_ H;clear H;obtain⟨tS,tU⟩:=pq_ (tv) y_.size;have tW:=ek y_ (tv);obtain⟨tS,tU⟩:=tt_ tS tU;have H:=HC_.out;clear HC_;by_cases tq:(bt y_ (tv))=115
   ·rw[if_pos tq] at H;have tj:=cP tq;have tx:=cN tq;clear tq;obtain⟨tk,tl⟩:∃j_:Int,(wrap64 ((y_.size:Int) - 2))=j_:=⟨_,rfl⟩;replace H:(if 0≤(tk) then(if(tk)<(y_.size:Int) then(cl.j0 k y_ (y_.size:Int) ((bt y_ (tk)) != 115)) else(none)) else(none))=some r:=by first | (rw[tl] at H;exact H)|(simp only[tl] at H ⊢;exact H)
    have hji14w:(IntKind.i64.wrap ((y_.size:Int) - 2))=tk:=(aC _).trans tl;obtain⟨tL,H⟩:=gd_ H;obtain⟨tM,H⟩:=gd_ H;have H':=am_ H;clear H;(first | rw[tj] | (simp only[aC,aG];rw[tj]) | skip)
    obtain⟨tT,tV⟩:=pq_ (tk) y_.size;have tX:=ek y_ (tk);obtain⟨tT,tV⟩:=tt_ tT tV;go_wp2;go_meet
    case rel=>exact⟨_,(((bt y_ (tk)) != 115)),(by first | rfl | (simp;done)|(simp only[← Y8,← tl] <;> (first | rfl | simp))|(simp[*];done)),H',⟨iL⟩,⟨bw_ HB⟩⟩
   ·rw[if_neg tq] at H;have tj:=cE tq;have tx:=cG tq;have H':=am_ H;clear H;(first | rw[tj] | (simp only[aC,aG];rw[tj]) | skip)
    go_wp2;go_meet
    case rel=>exact⟨_,(false),u3_,H',⟨iL⟩,⟨bw_ HB⟩⟩
  ·rw[if_neg c8] at H;have tn:decide (3<(y_.size:Int))=false:=decide_eq_false c8;have tF:decide (3<y_.size)=false:=decide_eq_false au;clear c8;(first | rw[tn] | (simp only[aC,aG];rw[tn]) | skip)
   have H':=am_ H;clear H;go_wp2;go_meet
   case rel=>exact⟨_,(false),u3_,H',⟨iL⟩,⟨bw_ HB⟩⟩
 case rest=>
  clear tA;try clear tB
  try clear tC
  try clear tD
  try clear tE
  obtain⟨kq,tm,rfl,HA,tZ,HB⟩:=hcut;cases kq with
  | zero=>exact absurd HA.out (by simp[cl.j0])
  | succ tz=>
   have H:=HA.out;clear HA;simp only[cl.j0] at H;cases tm
   ·replace H:=hf_ H;obtain⟨tG,tI,H⟩:=bi_ H;cases tG
    ·replace H:=hf_ H;obtain rfl:=si_ H;have hgx_:=(HB.out.cell (World.block_lt_of_cell? w _ HG1_.out)).trans HG1_.out;go_wp2_with (first | ((with_reducible refine eq (f:=92) rfl ?_);refine hJ (some 35) rfl rfl Tryz.func92 bW rfl #[.slice AG_ cQ.length cG_,.string y_] rfl u118_ ?_;(refine(aA.calls tz _ _ cQ y_ false _ ?side1 ?side2 tI.out).mono ?_);(case side1=>exact u68_);(case side2=>exact HG2_.out);rintro e w' ⟨rfl,⟨nd,rfl⟩⟩;refine⟨_,rfl,?_⟩))
     go_ret
     exact⟨u108_,bw_ HB⟩
    ·replace H:=ht_ H;obtain rfl:=si_ H;have hgx_:=(HB.out.cell (World.block_lt_of_cell? w _ HG1_.out)).trans HG1_.out;go_wp2_with (first | ((with_reducible refine eq (f:=92) rfl ?_);refine hJ (some 35) rfl rfl Tryz.func92 bW rfl #[.slice AG_ cQ.length cG_,.string y_] rfl u118_ ?_;(refine(aA.calls tz _ _ cQ y_ true _ ?side1 ?side2 tI.out).mono ?_);(case side1=>exact u68_);(case side2=>exact HG2_.out);rintro e w' ⟨rfl,⟨nd,rfl⟩⟩;refine⟨_,rfl,?_⟩))
     go_ret
     exact⟨u108_,bw_ HB⟩
   ·replace H:=ht_ H;obtain⟨ti,YZ⟩:∃j_:Int,(wrap64 ((y_.size:Int) - 1))=j_:=⟨_,rfl⟩;replace H:(if 0≤(ti) then(if(ti)≤(y_.size:Int) then((aA.f tz cQ (y_.extract 0 ((ti):Int).toNat)).bind fun tw=>(if tw=true then(some (⟨#[]⟩:ByteArray)) else(some (y_.extract 0 ((ti):Int).toNat)))) else(none)) else(none))=some r:=by first | (rw[YZ] at H;exact H)|(simp only[YZ] at H ⊢;exact H)
    have hji19w:(IntKind.i64.wrap ((y_.size:Int) - 1))=ti:=(aC _).trans YZ;obtain⟨tN,tO,H⟩:=ge_ H;obtain⟨tP,tQ,H⟩:=ge_ H;obtain⟨tw,tH,H⟩:=bi_ H;cases tw
    ·replace H:=hf_ H;obtain rfl:=si_ H;have hgx_:=(HB.out.cell (World.block_lt_of_cell? w _ HG1_.out)).trans HG1_.out;go_wp2_with (first | ((with_reducible refine eq (f:=92) rfl ?_);refine hJ (some 35) rfl rfl Tryz.func92 bW rfl #[.slice AG_ cQ.length cG_,.string (y_.extract 0 ((ti):Int).toNat)] rfl u112_ ?_;(refine(aA.calls tz _ _ cQ (y_.extract 0 ((ti):Int).toNat) false _ ?side1 ?side2 tH.out).mono ?_);(case side1=>exact u68_);(case side2=>exact HG2_.out);rintro e w' ⟨rfl,⟨nd,rfl⟩⟩;refine⟨_,rfl,?_⟩))
     go_ret
     exact⟨u100_,bw_ HB⟩
    ·replace H:=ht_ H;obtain rfl:=si_ H;have hgx_:=(HB.out.cell (World.block_lt_of_cell? w _ HG1_.out)).trans HG1_.out;go_wp2_with (first | ((with_reducible refine eq (f:=92) rfl ?_);refine hJ (some 35) rfl rfl Tryz.func92 bW rfl #[.slice AG_ cQ.length cG_,.string (y_.extract 0 ((ti):Int).toNat)] rfl u112_ ?_;(refine(aA.calls tz _ _ cQ (y_.extract 0 ((ti):Int).toNat) true _ ?side1 ?side2 tH.out).mono ?_);(case side1=>exact u68_);(case side2=>exact HG2_.out);rintro e w' ⟨rfl,⟨nd,rfl⟩⟩;refine⟨_,rfl,?_⟩))
     go_ret
     exact⟨u100_,bw_ HB⟩
def du.f (a0:Int):Option (Bool):=(dr.f a0).bind fun tg=>(if tg=true then(some true) else((dt.f a0).bind fun th=>(if th=true then(some true) else((dX.f a0).bind fun ti=>(some ti)))))
theorem du.calls (a0:Int) (r:Bool) (w:World) (h:du.f a0=some r) :
  Calls Tryz.prog 90 #[.int .u8 a0] w fun e w'=>e = .returned (.bool r)∧Drawn0 w w':=by
 have H:=h;clear h;unfold du.f at H
 obtain⟨tg,A2,H⟩:=bi_ H;cases tg
 ·replace H:=hf_ H;obtain⟨th,A4,H⟩:=bi_ H;cases th
  ·replace H:=hf_ H;obtain⟨ti,A6,H⟩:=bi_ H;obtain rfl:=si_ H;go_enter Tryz.func90,Tryz.ntmps90
   go_wp2_with (first | ((with_reducible refine gt_ 4 ?_);refine gD_ 4 Tryz.func132 (dr.calls a0 false _ A2.out) ?_;intro nd)|(go_at_call 133;(with_reducible refine(dt.calls a0 false _ A4.out).mono ?_);rintro e w' ⟨rfl,⟨nd,rfl⟩⟩)|(go_at_call 134;(with_reducible refine(dX.calls a0 ti _ A6.out).mono ?_);rintro e w' ⟨rfl,⟨nd,rfl⟩⟩))
   go_ret
   exact⟨cD,u7_⟩
  ·replace H:=ht_ H;obtain rfl:=si_ H;go_enter Tryz.func90,Tryz.ntmps90
   go_wp2_with (first | ((with_reducible refine gt_ 4 ?_);refine gD_ 4 Tryz.func132 (dr.calls a0 false _ A2.out) ?_;intro nd)|(go_at_call 133;(with_reducible refine(dt.calls a0 true _ A4.out).mono ?_);rintro e w' ⟨rfl,⟨nd,rfl⟩⟩))
   go_ret
   exact⟨cD,u7_⟩
 ·replace H:=ht_ H;obtain rfl:=si_ H;go_enter Tryz.func90,Tryz.ntmps90
  go_wp2_with (first | ((with_reducible refine gt_ 4 ?_);refine gD_ 4 Tryz.func132 (dr.calls a0 true _ A2.out) ?_;intro nd))
  go_ret
  exact⟨cD,u7_⟩
mutual
def bp.l0:Nat→ByteArray→List (S90)→Int→Option ((List (S90)))
 | 0,_,_,_=>none
 | k+1,x0,x3,x4=>if x4<(x0.size:Int) then(bp.l1 k x0 x3 x4 x4) else(some x3)
def bp.l1:Nat→ByteArray→List (S90)→Int→Int→Option ((List (S90)))
 | 0,_,_,_,_=>none
 | k+1,x0,x3,x4,x5=>if x4<(x0.size:Int) then(if 0≤x4 then((du.f (bt x0 x4)).bind fun tg=>(if tg=true then(bp.l1 k x0 x3 (wrap64 (x4+1)) x5) else(if x4>x5 then(if 0≤x5 then(if x5≤x4 then(if x4≤(x0.size:Int) then(if x3.length<4398046511104 then(bp.l0 k x0 (x3 ++ [(⟨x0.extract (x5:Int).toNat (x4:Int).toNat,x5,x4⟩:S90)]) (wrap64 (x4+1))) else(none)) else(none)) else(none)) else(none)) else(bp.l0 k x0 x3 (wrap64 (x4+1)))))) else(none)) else(if x4>x5 then(if 0≤x5 then(if x5≤x4 then(if x4≤(x0.size:Int) then(if x3.length<4398046511104 then(bp.l0 k x0 (x3 ++ [(⟨x0.extract (x5:Int).toNat (x4:Int).toNat,x5,x4⟩:S90)]) (wrap64 (x4+1))) else(none)) else(none)) else(none)) else(none)) else(bp.l0 k x0 x3 (wrap64 (x4+1))))
end
def bp.f (k:Nat) (a0:ByteArray):Option ((List (S90))):=bp.l0 k a0 (([] : List (S90))) 0
theorem bp.calls (k:Nat) (a0:ByteArray) (r:List (S90)) (w:World) (h:bp.f k a0=some r) :
  Calls Tryz.prog 56 #[.string a0] w fun e w'=>∃v0_:Value,e = .returned (v0_)∧Kd.R k90 90 w' w.heap.size (fun _=>True) v0_ r∧Below w.heap.size w w':=by
 have hu90:=Tryz.underlying90;have HB:=am_ (Below.refl w.heap.size w);have H:=h;clear h;unfold bp.f at H
 obtain⟨tE,tk⟩:∃y_:List (S90),y_=(([] : List (S90))):=⟨_,rfl⟩;replace H:(bp.l0 k a0 tE 0)=some r:=by first | (rw[tk];with_reducible exact H)|(have H2_:=(Option.bind_some _ _).symm.trans H;rw[tk];with_reducible exact H2_)|(have H2_:=(Option.bind_some _ _).symm.trans H;with_reducible exact H2_) | with_reducible exact H | (rw[tk];exact H) | exact H
 have tl:=am_ tk;clear tk;have H':=am_ H;clear H;go_enter Tryz.func56,Tryz.ntmps56
 go_wp2_with (first | ((with_reducible refine aH (N:=6) rfl ?_);refine Kd.R_lit k90 _ 90 ?hg (N:=6) ?hd (xs:=([] : List (S90))) (inner:=[]) (ok:=fun _=>True) (okp:=fun _=>True) ?hr ?hp (fun _ hk=>hk) trivial (Below.refl _ _) (Nat.le_refl _) bb ?_;(case hd=>rfl);(case hg=>rfl);(case hr=>exact bM);(case hp=>exact eY);intro tW w2 ho3 hb hg_ hnew_;clear hg_ hnew_;(first | rw[← tl.out] at ho3 | (simp only[Int.reduceToNat] at ho3;rw[← tl.out] at ho3));have tu:=am_ (Kd.R_lower ho3 (av (bw_ HB)));replace HB:=bs_ HB hb;clear hb ho3))
 go_loopg [3,4] k (fun kq v3 v4 w'=>∃(ti:List (S90)) (th:Int),v4 = .int .i64 th∧aa (bp.l0 kq a0 ti th=some r)∧aa (kq≤k)∧aa (Kd.R k90 90 w' w.heap.size (fun _=>True) v3 ti)∧aa (Below w.heap.size w w'))
 case atStart=>exact⟨(tE),(0),u3_,H',⟨Nat.le_refl _⟩,⟨aR_ tu.out⟩,⟨bw_ HB⟩⟩
 case round=>
  clear H';obtain⟨ti,th,rfl,HA,HK1,Z6,HB⟩:=hrel;cases gk with
  | zero=>exact absurd HA.out (by simp[bp.l0])
  | succ k1=>
   have H:=HA.out;clear HA;simp only[bp.l0] at H;by_cases c4:th<(a0.size:Int)
   ·rw[if_pos c4] at H;have tD:=decide_eq_true c4;clear c4;have H':=am_ H;clear H;go_wp2;go_loopg [4] k1 (fun kq v4 w'=>∃(tg:Int),v4 = .int .i64 tg∧aa (bp.l1 kq a0 ti tg th=some r)∧aa (kq≤k1)∧aa (Kd.R k90 90 w' w.heap.size (fun _=>True) u3 ti)∧aa (Below w.heap.size w w'))
    case atStart=>exact⟨(th),u3_,H',⟨Nat.le_refl _⟩,⟨aR_ Z6.out⟩,⟨bw_ HB⟩⟩
    case round=>
     clear H';try clear c4
     try clear tD
     obtain⟨tg,rfl,HA,HK2,Z6,HB⟩:=hrel;cases gk with
     | zero=>exact absurd HA.out (by simp[bp.l1])
     | succ k2=>
      have H:=HA.out;clear HA;simp only[bp.l1] at H;by_cases c5:tg<(a0.size:Int)
      ·rw[if_pos c5] at H;have tF:=decide_eq_true c5;clear c5;obtain⟨tV,H⟩:=gd_ H;obtain⟨tG,A8,H⟩:=bi_ H;have HC_:=am_ H;clear H;obtain⟨p7,q7⟩:=pq_ tg a0.size;have tZ:=ek a0 tg;obtain⟨p7,q7⟩:=tt_ p7 q7;have H:=HC_.out;clear HC_;cases tG
       ·replace H:=hf_ H;have HC_:=am_ H;clear H;have H:=HC_.out;clear HC_;by_cases c10:tg>th
        ·rw[if_pos c10] at H;have tj:decide (th<tg)=true:=decide_eq_true c10;clear c10;obtain⟨tJ,tK,H⟩:=ge_ H;obtain⟨tL,tM,H⟩:=ge_ H;obtain⟨tN,tO,H⟩:=ge_ H;obtain⟨tx,H⟩:=gl_ H;generalize tm:((ti ++ [(⟨a0.extract (th:Int).toNat (tg:Int).toNat,th,tg⟩:S90)]):List (S90))=tH at H;have tA:=am_ tm.symm;clear tm;have H':=am_ H;clear H;(first | rw[tj] | (simp only[aC,aG];rw[tj]) | skip)
         go_wp2_with (first | (go_at_call 90;(with_reducible refine(du.calls (bt a0 tg) false _ A8.out).mono ?_);rintro e w' ⟨rfl,⟨nd,rfl⟩⟩)|((with_reducible refine a7 (b:=.append) (xs:=#[.tmp 29,.tmp 37]) rfl ?_);at_builtin;refine Kd.R_append k90 (w0:=w) w.heap.size rfl (.tmp 29) (.tmp 37) 87 90 (.agg #[(.string ⟨#[]⟩),(.int .i64 0),(.int .i64 0)]) 32 rfl Tryz.underlying87 n7 rfl am au u3 ti (⟨a0.extract (th:Int).toNat (tg:Int).toNat,th,tg⟩:S90) [.string (a0.extract (th:Int).toNat (tg:Int).toNat),.int .i64 th,.int .i64 tg] (fun _=>True) (fun _=>False) rfl rfl ?aP (fun _ hk=>hk.elim) ?aF ?aO ?aB ?aS ?aL ?_;(case aP=>exact le _ _ _ (⟨a0.extract (th:Int).toNat (tg:Int).toNat,th,tg⟩:S90));(case aB=>exact fc);(case aF=>exact ie);(case aO=>exact kB);(case aS=>exact fi);(case aL=>have:=tx.out;omega);intro tX t6 ho hb hg hat;rw[← tA.out] at ho;replace HB:=am_ (hb);have tv:=am_ (ho);clear Z6 ho hb hg hat))
         go_roundg k2
         case measure=>have:=HK1.out;have:=HK2.out;omega
         case rel=>exact⟨(tH),(wrap64 (tg+1)),u3_,H',⟨l5⟩,⟨aR_ tv.out⟩,⟨bw_ HB⟩⟩
        ·rw[if_neg c10] at H;have tj:decide (th<tg)=false:=decide_eq_false c10;clear c10;have H':=am_ H;clear H;(first | rw[tj] | (simp only[aC,aG];rw[tj]) | skip)
         go_wp2_with (first | (go_at_call 90;(with_reducible refine(du.calls (bt a0 tg) false _ A8.out).mono ?_);rintro e w' ⟨rfl,⟨nd,rfl⟩⟩))
         go_roundg k2
         case measure=>have:=HK1.out;have:=HK2.out;omega
         case rel=>exact⟨(ti),(wrap64 (tg+1)),u3_,H',⟨l5⟩,⟨aR_ Z6.out⟩,⟨bw_ HB⟩⟩
       ·replace H:=ht_ H;have H':=am_ H;clear H;go_wp2_with (first | (go_at_call 90;(with_reducible refine(du.calls (bt a0 tg) true _ A8.out).mono ?_);rintro e w' ⟨rfl,⟨nd,rfl⟩⟩))
        go_roundg k2
        case measure=>have:=HK1.out;have:=HK2.out;omega
        case rel=>exact⟨(wrap64 (tg+1)),u3_,H',⟨l5⟩,⟨aR_ Z6.out⟩,⟨bw_ HB⟩⟩
      ·rw[if_neg c5] at H;have tF:=decide_eq_false c5;clear c5;by_cases tq:tg>th
       ·rw[if_pos tq] at H;have tC:decide (th<tg)=true:=decide_eq_true tq;clear tq;obtain⟨tP,tQ,H⟩:=ge_ H;obtain⟨tR,tS,H⟩:=ge_ H;obtain⟨tT,tU,H⟩:=ge_ H;obtain⟨tz,H⟩:=gl_ H;generalize tn:((ti ++ [(⟨a0.extract (th:Int).toNat (tg:Int).toNat,th,tg⟩:S90)]):List (S90))=tI at H;have tB:=am_ tn.symm;clear tn;have H':=am_ H;clear H;go_wp2_with (first | ((with_reducible refine a7 (b:=.append) (xs:=#[.tmp 29,.tmp 37]) rfl ?_);at_builtin;refine Kd.R_append k90 (w0:=w) w.heap.size rfl (.tmp 29) (.tmp 37) 87 90 (.agg #[(.string ⟨#[]⟩),(.int .i64 0),(.int .i64 0)]) 32 rfl Tryz.underlying87 n7 rfl am au u3 ti (⟨a0.extract (th:Int).toNat (tg:Int).toNat,th,tg⟩:S90) [.string (a0.extract (th:Int).toNat (tg:Int).toNat),.int .i64 th,.int .i64 tg] (fun _=>True) (fun _=>False) rfl rfl ?aP (fun _ hk=>hk.elim) ?aF ?aO ?aB ?aS ?aL ?_;(case aP=>exact le _ _ _ (⟨a0.extract (th:Int).toNat (tg:Int).toNat,th,tg⟩:S90));(case aB=>exact fc);(case aF=>exact ie);(case aO=>exact kB);(case aS=>exact fi);(case aL=>have:=tz.out;omega);intro tY t7 ho hb hg hat;rw[← tB.out] at ho;replace HB:=am_ (hb);have tw:=am_ (ho);clear Z6 ho hb hg hat))
        go_roundg k2
        case measure=>have:=HK1.out;have:=HK2.out;omega
        case rel=>exact⟨(tI),(wrap64 (tg+1)),u3_,H',⟨l5⟩,⟨aR_ tw.out⟩,⟨bw_ HB⟩⟩
       ·rw[if_neg tq] at H;have tC:decide (th<tg)=false:=decide_eq_false tq;clear tq;have H':=am_ H;clear H;go_wp2;go_roundg k2
        case measure=>have:=HK1.out;have:=HK2.out;omega
        case rel=>exact⟨(ti),(wrap64 (tg+1)),u3_,H',⟨l5⟩,⟨aR_ Z6.out⟩,⟨bw_ HB⟩⟩
   ·rw[if_neg c4] at H;have tD:=decide_eq_false c4;clear c4;obtain rfl:=si_ H;go_wp2;go_ret
    exact⟨_,u1_,aR_ Z6.out,bw_ HB⟩
def ck.l0:Nat→List ByteArray→List (S90)→Int→Int→Option (List ByteArray)
 | 0,_,_,_,_=>none
 | k+1,x3,x8,x9,tg=>if tg<x9 then(if 0≤tg then(if tg<(x8.length:Int) then((cl.f k ((eQ x8 tg).f0)).bind fun th=>(if x3.length<8796093022208 then(ck.l0 k (x3 ++ [th]) x8 x9 (wrap64 (tg+1))) else(none))) else(none)) else(none)) else(some x3)
def ck.f (k:Nat) (a0:ByteArray):Option (List ByteArray):=(bp.f k a0).bind fun tg=>(ck.l0 k (([] : List ByteArray)) tg (tg.length:Int) 0)
theorem ck.calls (k:Nat) (a0:ByteArray) (r:List ByteArray) (w:World) (hG:StopsIn w) (h:ck.f k a0=some r) :
  Calls Tryz.prog 20 #[.string a0] w fun e w'=>∃v0_:Value,e = .returned (v0_)∧Kd.R Kd.string 9 w' w.heap.size (fun _=>True) v0_ r∧Below w.heap.size w w':=by
 have hu90:=Tryz.underlying90;have HG_:=am_ hG;clear hG;have HB:=am_ (Below.refl w.heap.size w);have H:=h;clear h;unfold ck.f at H
 obtain⟨tA,tj⟩:∃y_:List ByteArray,y_=(([] : List ByteArray)):=⟨_,rfl⟩;replace H:((bp.f k a0).bind fun tg=>(ck.l0 k tA tg (tg.length:Int) 0))=some r:=by first | (rw[tj];with_reducible exact H)|(have H2_:=(Option.bind_some _ _).symm.trans H;rw[tj];with_reducible exact H2_)|(have H2_:=(Option.bind_some _ _).symm.trans H;with_reducible exact H2_) | with_reducible exact H | (rw[tj];exact H) | exact H
 have tu:=am_ tj;clear tj;obtain⟨tg,A2,H⟩:=bi_ H;have H':=am_ H;clear H;go_enter Tryz.func20,Tryz.ntmps20
 go_wp2_with (first | ((with_reducible refine aH (N:=6) rfl ?_);refine Kd.R_lit Kd.string _ 9 ?hg (N:=6) ?hd (xs:=([] : List ByteArray)) (inner:=[]) (ok:=fun _=>True) (okp:=fun _=>True) ?hr ?hp (fun _ hk=>hk) trivial (Below.refl _ _) (Nat.le_refl _) bb ?_;(case hd=>rfl);(case hg=>rfl);(case hr=>exact bM);(case hp=>exact eY);intro tY w3 ho4 hb hg_ hnew_;clear hg_ hnew_;(first | rw[← tu.out] at ho4 | (simp only[Int.reduceToNat] at ho4;rw[← tu.out] at ho4));have tk:=am_ (Kd.R_lower ho4 (av (bw_ HB)));replace HB:=bs_ HB hb;clear hb ho4)|((with_reducible refine gt_ 8 ?_);refine gf_ 8 Tryz.func56 (bp.calls k a0 tg _ A2.out) ?_;rintro e w5 ⟨tZ,rfl,ho0,hb⟩;refine⟨_,rfl,?_⟩;replace tk:=am_ (Kd.R_below (aR_ tk.out) hb);have tq:=am_ (Kd.R_lower ho0 (av (bw_ HB)));replace HB:=bs_ HB hb;(try clear hb);(try clear ho0);obtain⟨tQ,tT,tU⟩:=Kd.R_slice tq.out;subst tU))
 go_loopg [3,10] k (fun kq v3 tX w'=>∃(tl:List ByteArray) (Z8:Int),tX = .int .i64 Z8∧aa (ck.l0 kq tl tg (tg.length:Int) Z8=some r)∧aa (kq≤k)∧aa (Kd.R Kd.string 9 w' w.heap.size (fun _=>True) v3 tl)∧aa (Kd.R k90 90 w' w.heap.size (fun _=>True) (.slice tQ tg.length tT) tg)∧aa (Below w.heap.size w w'))
 case atStart=>exact⟨(tA),(0),u3_,H',⟨Nat.le_refl _⟩,⟨aR_ tk.out⟩,⟨aR_ tq.out⟩,⟨bw_ HB⟩⟩
 case round=>
  clear H';obtain⟨tl,Z8,rfl,HA,HK1,Z6,ti,HB⟩:=hrel;cases gk with
  | zero=>exact absurd HA.out (by simp[ck.l0])
  | succ k1=>
   have H:=HA.out;clear HA;simp only[ck.l0] at H;by_cases c7:Z8<(tg.length:Int)
   ·rw[if_pos c7] at H;have tK:=decide_eq_true c7;clear c7;obtain⟨tR,H⟩:=gd_ H;obtain⟨tS,H⟩:=gd_ H;obtain⟨tm,tP,H⟩:=bi_ H;obtain⟨tx,H⟩:=gl_ H;generalize tv:((tl ++ [tm]):List ByteArray)=tM at H;have tz:=am_ tv.symm;clear tv;have H':=am_ H;clear H;obtain⟨tO,tL,tH,tI,tJ⟩:=ss (Kd.R_reads' ti.out).2.2 Z8 od_ od_;cases tL;obtain⟨tV,tW⟩:=pt_ Z8 tg.length;go_wp2_with (first | ((with_reducible refine gt_ 5 ?_);refine bx_ 5 #[.string (⟨#[]⟩:ByteArray),.int .i64 0,.int .i64 0] 90 ?_;intro th hg t7 hbox hb;replace Z6:=am_ (Kd.R_below (aR_ Z6.out) hb);replace ti:=am_ (Kd.R_below (Kd.R_elderB (aR_ ti.out) th (Nat.le_of_eq hg.symm)) hb);have tn:=am_ (hbox);have tN:=gw_ HB hg;replace HB:=bs_ HB hb;clear hb hbox hg;obtain⟨tB,tC,tD,tE,tF,tG⟩:=dz tn.out)|((with_reducible refine gt_ 17 ?_);refine gB_ 17 Tryz.func46 (cl.calls k1 ((eQ tg Z8).f0) tm _ ?side1 tP.out) ?_;(case side1=>exact jZ);intro t8 hb;replace Z6:=am_ (Kd.R_below (aR_ (Kd.R_mono (Kd.R_far (p:=⟨th,2,none⟩) (Kd.R_far (p:=⟨th,1,none⟩) (Kd.R_far (p:=⟨th,0,none⟩) (Kd.R_types Z6.out tn.out am) (fun _ hk=>hk.2) (.string ((eQ tg Z8).f0))) (fun _ hk=>hk.2) (.int .i64 ((eQ tg Z8).f1))) (fun _ hk=>hk.2) (.int .i64 ((eQ tg Z8).f2))) (fun _ h_=>h_.1))) hb);replace ti:=am_ (Kd.R_below (aR_ (Kd.R_mono (Kd.R_far (p:=⟨th,2,none⟩) (Kd.R_far (p:=⟨th,1,none⟩) (Kd.R_far (p:=⟨th,0,none⟩) (Kd.R_mono ti.out (fun k_ hk=>(⟨hk,hk.2⟩:_∧k_≠th))) (fun _ hk=>hk.2) (.string ((eQ tg Z8).f0))) (fun _ hk=>hk.2) (.int .i64 ((eQ tg Z8).f1))) (fun _ hk=>hk.2) (.int .i64 ((eQ tg Z8).f2))) (fun _ h_=>h_.1))) hb);replace HB:=bs_ HB hb;(try clear hb))|((with_reducible refine a7 (b:=.append) (xs:=#[.tmp 14,.tmp 18]) rfl ?_);at_builtin;refine Kd.R_append Kd.string (w0:=w) w.heap.size rfl (.tmp 14) (.tmp 18) 30 9 (.string ⟨#[]⟩) 16 rfl Tryz.underlying30 e6 rfl am au u3 tl tm [.string tm] (fun _=>True) (fun _=>False) rfl rfl ?aP (fun _ hk=>hk.elim) ?aF ?aO ?aB ?aS ?aL ?_;(case aP=>exact rfl);(case aB=>exact fc);(case aF=>exact ie);(case aO=>exact kB);(case aS=>exact fi);(case aL=>have:=tx.out;omega);intro t6 ua ho hb hg hat;rw[← tz.out] at ho;replace ti:=am_ (Kd.R_over' (aR_ ti.out) (Kd.R_typed (aR_ Z6.out)) am hg);replace HB:=am_ (hb);have tw:=am_ (ho);clear Z6 ho hb hg hat))
    go_roundg k1
    case measure=>have:=HK1.out;omega
    case rel=>exact⟨(tM),(wrap64 (Z8+1)),u3_,H',⟨dV⟩,⟨aR_ tw.out⟩,⟨by(with_reducible repeat (first | apply Kd.R_alloc | apply Kd.R_drewN | apply Kd.R_drew));exact Kd.R_mono ti.out (fun _ hk=>trivial)⟩,⟨bw_ HB⟩⟩
   ·rw[if_neg c7] at H;have tK:=decide_eq_false c7;clear c7;obtain rfl:=si_ H;go_wp2;go_ret
    exact⟨_,u1_,aR_ Z6.out,bw_ HB⟩
def bg.l0:Nat→List (S76)→ByteArray→ByteArray→Int→Option (Int × Bool)
 | 0,_,_,_,_=>none
 | k+1,x0,x1,x2,x8=>if x8<(x0.length:Int) then(if 0≤x8 then(if(Op.bytesLess (((aj x0 x8).f0).toList) x1.toList)=true then(bg.l0 k x0 x1 x2 (wrap64 (x8+1))) else(if((aj x0 x8).f0).toList=x1.toList then(if(Op.bytesLess (((aj x0 x8).f1).toList) x2.toList)=true then(bg.l0 k x0 x1 x2 (wrap64 (x8+1))) else(some (x8,(((aj x0 x8).f1).toList == x2.toList)))) else(some (x8,false)))) else(none)) else(some (x8,false))
def bg.f (k:Nat) (l0:List (S76)) (a1:ByteArray) (a2:ByteArray):Option (Int × Bool):=bg.l0 k l0 a1 a2 0
theorem bg.calls (k:Nat) (A0:Option Addr) (c0:Nat) (l0:List (S76)) (a1:ByteArray) (a2:ByteArray) (r1:Int) (r2:Bool) (w:World) (hr0:Kd.C k76 w A0 l0.length l0) (hc0:l0.length≤c0) (h:bg.f k l0 a1 a2=some (r1,r2)) :
  Calls Tryz.prog 95 #[.slice A0 l0.length c0,.string a1,.string a2] w fun e w'=>e = .returned (.tuple #[.int .i64 r1,.bool r2])∧Drawn0 w w':=by
 have ZI:=am_ hr0;have uS:=am_ hc0;clear hr0 hc0;have H:=h;clear h;unfold bg.f at H
 have H':=am_ H;clear H;go_enter Tryz.func95,Tryz.ntmps95
 go_wp2;repeat (go_quiet (fail);try go_wp2)
 go_loopg [8] k (fun kq v8 w'=>∃(tg:Int),v8 = .int .i64 tg∧aa (bg.l0 kq l0 a1 a2 tg=some (r1,r2))∧aa (kq≤k)∧Drawn0 w w')
 case atStart=>exact⟨(0),u3_,H',⟨Nat.le_refl _⟩,u7_⟩
 case round=>
  clear H';obtain⟨tg,rfl,HA,HK1,⟨m1,rfl⟩⟩:=hrel;cases gk with
  | zero=>exact absurd HA.out (by simp[bg.l0])
  | succ k1=>
   have H:=HA.out;clear HA;simp only[bg.l0] at H;by_cases c4:tg<(l0.length:Int)
   ·rw[if_pos c4] at H;have ux:=decide_eq_true c4;clear c4;obtain⟨uF,H⟩:=gd_ H;have HC_:=am_ H;clear H;obtain⟨ti,uj,uq,uz,t6,t7,th,tu,tj⟩:=fe ZI.out tg od_ od_;cases uz;have tU:=am_ tj;have tO:=am_ tu;clear tj tu;obtain⟨uG,uM⟩:=pt_ tg l0.length;have H:=HC_.out;clear HC_;by_cases c6:(Op.bytesLess (((aj l0 tg).f0).toList) a1.toList)=true
    ·rw[if_pos c6] at H;have tB:(Op.bytesLess (((aj l0 tg).f0).toList) a1.toList)=true:=c6;clear c6;have H':=am_ H;clear H;(first | rw[tB] | (simp only[aC,aG];rw[tB]) | skip)
     go_wp2;repeat (go_quiet (fail);try go_wp2)
     go_roundg k1
     case measure=>have:=HK1.out;omega
     case rel=>exact⟨(wrap64 (tg+1)),u3_,H',⟨dV⟩,u7_⟩
    ·rw[if_neg c6] at H;have tB:(Op.bytesLess (((aj l0 tg).f0).toList) a1.toList)=false:=by simpa using c6
     clear c6;have HC_:=am_ H;clear H;(first | rw[tB] | (simp only[aC,aG];rw[tB]) | skip)
     obtain⟨tJ,uk,ur,uA,t8,ua,tE,tv,tk⟩:=fe ZI.out tg od_ od_;obtain rfl:ti=tJ:=(by injection uA);have tV:=am_ tk;have tP:=am_ tv;clear tk tv;obtain⟨uH,uN⟩:=pt_ tg l0.length;have ea_:=Option.some.inj (th.symm.trans tE);injection ea_ with ea_ en_ ec_
     subst ea_;subst ec_;clear en_;have H:=HC_.out;clear HC_;by_cases c7:((aj l0 tg).f0).toList=a1.toList
     ·rw[if_pos c7] at H;have tC:=cP c7;have uy:=cN c7;clear c7;have HC_:=am_ H;clear H;(first | rw[tC] | (simp only[aC,aG];rw[tC]) | skip)
      obtain⟨tK,ul,ut,uB,ub,uc,tF,tw,tl⟩:=fe ZI.out tg od_ od_;obtain rfl:ti=tK:=(by injection uB);have tW:=am_ tl;have tQ:=am_ tw;clear tl tw;obtain⟨uI,uO⟩:=pt_ tg l0.length;have ea_:=Option.some.inj (th.symm.trans tF);injection ea_ with ea_ en_ ec_
      subst ea_;subst ec_;clear en_;have H:=HC_.out;clear HC_;by_cases c8:(Op.bytesLess (((aj l0 tg).f1).toList) a2.toList)=true
      ·rw[if_pos c8] at H;have tD:(Op.bytesLess (((aj l0 tg).f1).toList) a2.toList)=true:=c8;clear c8;have H':=am_ H;clear H;(first | rw[tD] | (simp only[aC,aG];rw[tD]) | skip)
       go_wp2;repeat (go_quiet (fail);try go_wp2)
       go_roundg k1
       case measure=>have:=HK1.out;omega
       case rel=>exact⟨(wrap64 (tg+1)),u3_,H',⟨dV⟩,u7_⟩
      ·rw[if_neg c8] at H;have tD:(Op.bytesLess (((aj l0 tg).f1).toList) a2.toList)=false:=by simpa using c8
       clear c8;simp only[Option.some.injEq,Prod.mk.injEq] at H;obtain⟨rfl,rfl⟩:=H;(first | rw[tD] | (simp only[aC,aG];rw[tD]) | skip)
       obtain⟨tL,um,uu,uC,ud,ue,tG,tx,tm⟩:=fe ZI.out tg od_ od_;obtain rfl:ti=tL:=(by injection uC);have tX:=am_ tm;have tR:=am_ tx;clear tm tx;obtain⟨uJ,uP⟩:=pt_ tg l0.length;have ea_:=Option.some.inj (th.symm.trans tG);injection ea_ with ea_ en_ ec_
       subst ea_;subst ec_;clear en_;obtain⟨tM,un,uv,uD,uf,ug,tH,tz,tn⟩:=fe ZI.out tg od_ od_;obtain rfl:ti=tM:=(by injection uD);have tY:=am_ tn;have tS:=am_ tz;clear tn tz;obtain⟨uK,uQ⟩:=pt_ tg l0.length;have ea_:=Option.some.inj (th.symm.trans tH);injection ea_ with ea_ en_ ec_
       subst ea_;subst ec_;clear en_;go_wp2;repeat (go_quiet (fail);try go_wp2)
       go_ret2
       exact⟨cD,u7_⟩
     ·rw[if_neg c7] at H;have tC:=cE c7;have uy:=cG c7;simp only[Option.some.injEq,Prod.mk.injEq] at H;obtain⟨rfl,rfl⟩:=H;(first | rw[tC] | (simp only[aC,aG];rw[tC]) | skip)
      obtain⟨tN,uo,uw,uE,uh,ui,tI,tA,tq⟩:=fe ZI.out tg od_ od_;obtain rfl:ti=tN:=(by injection uE);have tZ:=am_ tq;have tT:=am_ tA;clear tq tA;obtain⟨uL,uR⟩:=pt_ tg l0.length;have ea_:=Option.some.inj (th.symm.trans tI);injection ea_ with ea_ en_ ec_
      subst ea_;subst ec_;clear en_;go_wp2;repeat (go_quiet (fail);try go_wp2)
      go_ret2
      exact⟨cD,u7_⟩
   ·rw[if_neg c4] at H;have ux:=decide_eq_false c4;clear c4;simp only[Option.some.injEq,Prod.mk.injEq] at H;obtain⟨rfl,rfl⟩:=H;go_wp2;repeat (go_quiet (fail);try go_wp2)
    go_ret2
    exact⟨cD,u7_⟩
def bh.l0:Nat→List (S92)→ByteArray→Int→Option (Int)
 | 0,_,_,_=>none
 | k+1,x0,x1,x5=>if x5<(x0.length:Int) then(if 0≤x5 then(if((ay x0 x5).f0).toList=x1.toList then(some x5) else(bh.l0 k x0 x1 (wrap64 (x5+1)))) else(none)) else(some (-1))
def bh.f (k:Nat) (l0:List (S92)) (a1:ByteArray):Option (Int):=bh.l0 k l0 a1 0
theorem bh.calls (k:Nat) (A0:Option Addr) (c0:Nat) (l0:List (S92)) (a1:ByteArray) (r:Int) (w:World) (hr0:Kd.C k92 w A0 l0.length l0) (hc0:l0.length≤c0) (h:bh.f k l0 a1=some r) :
  Calls Tryz.prog 96 #[.slice A0 l0.length c0,.string a1] w fun e w'=>e = .returned (.int .i64 r)∧Drawn0 w w':=by
 have ZI:=am_ hr0;have tx:=am_ hc0;clear hr0 hc0;have H:=h;clear h;unfold bh.f at H
 have H':=am_ H;clear H;go_enter Tryz.func96,Tryz.ntmps96
 go_wp2;go_loopg [5] k (fun kq v5 w'=>∃(tg:Int),v5 = .int .i64 tg∧aa (bh.l0 kq l0 a1 tg=some r)∧aa (kq≤k)∧Drawn0 w w')
 case atStart=>exact⟨(0),u3_,H',⟨Nat.le_refl _⟩,u7_⟩
 case round=>
  clear H';obtain⟨tg,rfl,HA,HK1,⟨m1,rfl⟩⟩:=hrel;cases gk with
  | zero=>exact absurd HA.out (by simp[bh.l0])
  | succ k1=>
   have H:=HA.out;clear HA;simp only[bh.l0] at H;by_cases c3:tg<(l0.length:Int)
   ·rw[if_pos c3] at H;have tl:=decide_eq_true c3;clear c3;obtain⟨tu,H⟩:=gd_ H;have HC_:=am_ H;clear H;obtain⟨tq,tn,ti,tj,tk⟩:=gN ZI.out tg od_ od_;cases tn;obtain⟨tv,tw⟩:=pt_ tg l0.length;have H:=HC_.out;clear HC_;by_cases c5:((ay l0 tg).f0).toList=a1.toList
    ·rw[if_pos c5] at H;have th:=cP c5;have tm:=cN c5;clear c5;obtain rfl:=si_ H;(first | rw[th] | (simp only[aC,aG];rw[th]) | skip)
     go_wp2;go_ret
     exact⟨cD,u7_⟩
    ·rw[if_neg c5] at H;have th:=cE c5;have tm:=cG c5;have H':=am_ H;clear H;(first | rw[th] | (simp only[aC,aG];rw[th]) | skip)
     go_wp2;go_roundg k1
     case measure=>have:=HK1.out;omega
     case rel=>exact⟨(wrap64 (tg+1)),u3_,H',⟨dV⟩,u7_⟩
   ·rw[if_neg c3] at H;have tl:=decide_eq_false c3;clear c3;obtain rfl:=si_ H;go_wp2;go_ret
    exact⟨cD,u7_⟩
def d6.f (k:Nat) (l0:List (S92)) (a1:ByteArray) (a2:Int):Option (Bool):=(bh.f k l0 a1).bind fun tg=>(if tg≥0 then(if 0≤tg then(if tg<(l0.length:Int) then(some (((ay l0 tg).f1) == a2)) else(none)) else(none)) else(some false))
theorem d6.calls (k:Nat) (A0:Option Addr) (c0:Nat) (l0:List (S92)) (a1:ByteArray) (a2:Int) (r:Bool) (w:World) (hr0:Kd.C k92 w A0 l0.length l0) (hc0:l0.length≤c0) (h:d6.f k l0 a1 a2=some r) :
  Calls Tryz.prog 140 #[.slice A0 l0.length c0,.string a1,.int .i64 a2] w fun e w'=>e = .returned (.bool r)∧Drawn0 w w':=by
 have ZI:=am_ hr0;have tq:=am_ hc0;clear hr0 hc0;have H:=h;clear h;unfold d6.f at H
 obtain⟨tg,A4,H⟩:=bi_ H;by_cases c5:tg≥0
 ·rw[if_pos c5] at H;have tm:decide (0≤tg)=true:=decide_eq_true c5;clear c5;obtain⟨tv,H⟩:=gd_ H;obtain⟨tw,H⟩:=gd_ H;obtain rfl:=si_ H;go_enter Tryz.func140,Tryz.ntmps140
  go_wp2_with (first | ((with_reducible refine gt_ 10 ?_);refine gD_ 10 Tryz.func96 (bh.calls k _ _ l0 a1 tg _ ?side1 tq.out A4.out) ?_;(case side1=>exact u75_);intro nd;obtain⟨th,ti⟩:=pq_ tg l0.length;obtain⟨tu,tn,tj,tk,tl⟩:=gN ZI.out tg th ti;cases tn;obtain⟨th,ti⟩:=tt_ th ti))
  go_ret
  exact⟨cD,u7_⟩
 ·rw[if_neg c5] at H;have tm:decide (0≤tg)=false:=decide_eq_false c5;clear c5;obtain rfl:=si_ H;go_enter Tryz.func140,Tryz.ntmps140
  go_wp2_with (first | ((with_reducible refine gt_ 10 ?_);refine gD_ 10 Tryz.func96 (bh.calls k _ _ l0 a1 tg _ ?side1 tq.out A4.out) ?_;(case side1=>exact u75_);intro nd))
  go_ret
  exact⟨cD,u7_⟩
def cO.f (a0:Int):Option (Int):=if a0≥65 then(if a0≤90 then(some ((a0+32) % 256)) else(some a0)) else(some a0)
theorem cO.calls (a0:Int) (r:Int) (w:World) (h:cO.f a0=some r) :
  Calls Tryz.prog 136 #[.int .u8 a0] w fun e w'=>e = .returned (.int .u8 r)∧Drawn0 w w':=by
 have H:=h;clear h;unfold cO.f at H
 by_cases c2:a0≥65
 ·rw[if_pos c2] at H;have tg:decide (65≤a0)=true:=decide_eq_true c2;clear c2;by_cases c3:a0≤90
  ·rw[if_pos c3] at H;have th:=decide_eq_true c3;clear c3;obtain rfl:=si_ H;go_enter Tryz.func136,Tryz.ntmps136
   go_wp2;go_ret
   exact⟨cD,u7_⟩
  ·rw[if_neg c3] at H;have th:=decide_eq_false c3;clear c3;obtain rfl:=si_ H;go_enter Tryz.func136,Tryz.ntmps136
   go_wp2;go_ret
   exact⟨cD,u7_⟩
 ·rw[if_neg c2] at H;have tg:decide (65≤a0)=false:=decide_eq_false c2;clear c2;obtain rfl:=si_ H;go_enter Tryz.func136,Tryz.ntmps136
  go_wp2;go_ret
  exact⟨cD,u7_⟩
def dl.l0:Nat→ByteArray→List Int→Int→Option (ByteArray)
 | 0,_,_,_=>none
 | k+1,x0,x3,x4=>if x4<(x0.size:Int) then(if 0≤x4 then((cO.f (bt x0 x4)).bind fun tg=>(if x3.length<140737488355328 then(dl.l0 k x0 (x3 ++ [tg]) (wrap64 (x4+1))) else(none))) else(none)) else(some (strOfNums x3))
def dl.f (k:Nat) (a0:ByteArray):Option (ByteArray):=dl.l0 k a0 (([] : List Int)) 0
theorem dl.calls (k:Nat) (a0:ByteArray) (r:ByteArray) (w:World) (h:dl.f k a0=some r) :
  Calls Tryz.prog 93 #[.string a0] w fun e w'=>e = .returned (.string r)∧Below w.heap.size w w':=by
 have HB:=am_ (Below.refl w.heap.size w);have H:=h;clear h;unfold dl.f at H
 obtain⟨tu,tg⟩:∃y_:List Int,y_=(([] : List Int)):=⟨_,rfl⟩;replace H:(dl.l0 k a0 tu 0)=some r:=by first | (rw[tg];with_reducible exact H)|(have H2_:=(Option.bind_some _ _).symm.trans H;rw[tg];with_reducible exact H2_)|(have H2_:=(Option.bind_some _ _).symm.trans H;with_reducible exact H2_) | with_reducible exact H | (rw[tg];exact H) | exact H
 have tk:=am_ tg;clear tg;have H':=am_ H;clear H;go_enter Tryz.func93,Tryz.ntmps93
 go_wp2_with (first | ((with_reducible refine aH (N:=5) rfl ?_);refine Kd.R_lit (Kd.int .u8) _ 5 ?hg (N:=5) ?hd (xs:=([] : List Int)) (inner:=[]) (ok:=fun _=>True) (okp:=fun _=>True) ?hr ?hp (fun _ hk=>hk) trivial (Below.refl _ _) (Nat.le_refl _) bb ?_;(case hd=>rfl);(case hg=>rfl);(case hr=>exact bM);(case hp=>exact eY);intro tA w2 ho3 hb hg_ hnew_;clear hg_ hnew_;(first | rw[← tk.out] at ho3 | (simp only[Int.reduceToNat] at ho3;rw[← tk.out] at ho3));have tm:=am_ (Kd.R_lower ho3 (av (bw_ HB)));replace HB:=bs_ HB hb;clear hb ho3))
 go_loopg [3,4] k (fun kq v3 v4 w'=>∃(ti:List Int) (th:Int),v4 = .int .i64 th∧aa (dl.l0 kq a0 ti th=some r)∧aa (kq≤k)∧aa (Kd.R (Kd.int .u8) 5 w' w.heap.size (fun _=>True) v3 ti)∧aa (Below w.heap.size w w'))
 case atStart=>exact⟨(tu),(0),u3_,H',⟨Nat.le_refl _⟩,⟨aR_ tm.out⟩,⟨bw_ HB⟩⟩
 case round=>
  clear H';obtain⟨ti,th,rfl,HA,HK1,Z6,HB⟩:=hrel;cases gk with
  | zero=>exact absurd HA.out (by simp[dl.l0])
  | succ k1=>
   have H:=HA.out;clear HA;simp only[dl.l0] at H;by_cases c4:th<(a0.size:Int)
   ·rw[if_pos c4] at H;have tw:=decide_eq_true c4;clear c4;obtain⟨tz,H⟩:=gd_ H;obtain⟨tj,A7,H⟩:=bi_ H;obtain⟨tv,H⟩:=gl_ H;generalize tl:((ti ++ [tj]):List Int)=tx at H;have tq:=am_ tl.symm;clear tl;have H':=am_ H;clear H;obtain⟨p6,q6⟩:=pq_ th a0.size;have tC:=ek a0 th;obtain⟨p6,q6⟩:=tt_ p6 q6;go_wp2_with (first | ((with_reducible refine gt_ 16 ?_);refine gD_ 16 Tryz.func136 (cO.calls (bt a0 th) tj _ A7.out) ?_;intro nd)|((with_reducible refine a7 (b:=.append) (xs:=#[.tmp 12,.tmp 17]) rfl ?_);at_builtin;refine Kd.R_append (Kd.int .u8) (w0:=w) w.heap.size rfl (.tmp 12) (.tmp 17) 22 5 (.int .u8 0) 1 rfl Tryz.underlying22 info5 rfl am au u3 ti tj [.int .u8 tj] (fun _=>True) (fun _=>False) rfl rfl ?aP (fun _ hk=>hk.elim) ?aF ?aO ?aB ?aS ?aL ?_;(case aP=>exact rfl);(case aB=>exact fc);(case aF=>exact ie);(case aO=>exact kB);(case aS=>exact fi);(case aL=>have:=tv.out;omega);intro tB w9 ho hb hg hat;rw[← tq.out] at ho;replace HB:=am_ (hb);have tn:=am_ (ho);clear Z6 ho hb hg hat))
    go_roundg k1
    case measure=>have:=HK1.out;omega
    case rel=>exact⟨(tx),(wrap64 (th+1)),u3_,H',⟨dV⟩,⟨aR_ tn.out⟩,⟨bw_ HB⟩⟩
   ·rw[if_neg c4] at H;have tw:=decide_eq_false c4;clear c4;obtain rfl:=si_ H;have hcv10:=fP (P:=Tryz.prog) Tryz.underlying22 Tryz.underlying5 Tryz.underlying9 (Kd.own_of_R Z6.out);go_wp2;go_ret
    exact⟨u1_,bw_ HB⟩
def bP.l0:Nat→ByteArray→List ByteArray→Int→Option (Bool)
 | 0,_,_,_=>none
 | k+1,x0,x3,x4=>if x4<(x3.length:Int) then(if 0≤x4 then(if(cZ ByteArray.empty x3 x4).toList=x0.toList then(some true) else(bP.l0 k x0 x3 (wrap64 (x4+1)))) else(none)) else(some false)
def bP.f (k:Nat) (a0:ByteArray):Option (Bool):=bP.l0 k a0 (([(⟨#[97]⟩:ByteArray),(⟨#[97,110]⟩:ByteArray),(⟨#[97,110,100]⟩:ByteArray),(⟨#[111,102]⟩:ByteArray),(⟨#[116,104,101]⟩:ByteArray),(⟨#[116,111]⟩:ByteArray)] : List ByteArray)) 0
theorem bP.calls (k:Nat) (a0:ByteArray) (r:Bool) (w:World) (h:bP.f k a0=some r) :
  Calls Tryz.prog 94 #[.string a0] w fun e w'=>e = .returned (.bool r)∧Below w.heap.size w w':=by
 have HB:=am_ (Below.refl w.heap.size w);have H:=h;clear h;unfold bP.f at H
 generalize tk:((([(⟨#[97]⟩:ByteArray),(⟨#[97,110]⟩:ByteArray),(⟨#[97,110,100]⟩:ByteArray),(⟨#[111,102]⟩:ByteArray),(⟨#[116,104,101]⟩:ByteArray),(⟨#[116,111]⟩:ByteArray)] : List ByteArray)):List ByteArray)=ti at H;have tj:=am_ tk.symm;clear tk;have H':=am_ H;clear H;go_enter Tryz.func94,Tryz.ntmps94
 go_wp2_with (first | ((with_reducible refine aH (N:=5) rfl ?_);refine Kd.R_lit Kd.string _ 9 ?hg (N:=5) ?hd (xs:=([(⟨#[97]⟩:ByteArray),(⟨#[97,110]⟩:ByteArray),(⟨#[97,110,100]⟩:ByteArray),(⟨#[111,102]⟩:ByteArray),(⟨#[116,104,101]⟩:ByteArray),(⟨#[116,111]⟩:ByteArray)] : List ByteArray)) (inner:=[.string (⟨#[97]⟩:ByteArray),.string (⟨#[97,110]⟩:ByteArray),.string (⟨#[97,110,100]⟩:ByteArray),.string (⟨#[111,102]⟩:ByteArray),.string (⟨#[116,104,101]⟩:ByteArray),.string (⟨#[116,111]⟩:ByteArray)]) (ok:=fun _=>True) (okp:=fun _=>True) ?hr ?hp (fun _ hk=>hk) trivial (Below.refl _ _) (Nat.le_refl _) bb ?_;(case hd=>rfl);(case hg=>rfl);(case hr=>exact bM);(case hp=>exact(Reps.one (show Kd.M Kd.string _ _ _ (⟨#[97]⟩:ByteArray) [.string (⟨#[97]⟩:ByteArray)] from rfl) (Reps.one (show Kd.M Kd.string _ _ _ (⟨#[97,110]⟩:ByteArray) [.string (⟨#[97,110]⟩:ByteArray)] from rfl) (Reps.one (show Kd.M Kd.string _ _ _ (⟨#[97,110,100]⟩:ByteArray) [.string (⟨#[97,110,100]⟩:ByteArray)] from rfl) (Reps.one (show Kd.M Kd.string _ _ _ (⟨#[111,102]⟩:ByteArray) [.string (⟨#[111,102]⟩:ByteArray)] from rfl) (Reps.one (show Kd.M Kd.string _ _ _ (⟨#[116,104,101]⟩:ByteArray) [.string (⟨#[116,104,101]⟩:ByteArray)] from rfl) (Reps.one (show Kd.M Kd.string _ _ _ (⟨#[116,111]⟩:ByteArray) [.string (⟨#[116,111]⟩:ByteArray)] from rfl) (Reps.none _ _))))))));intro tv w2 ho3 hb hg_ hnew_;clear hg_ hnew_;(first | rw[← tj.out] at ho3 | (simp only[Int.reduceToNat] at ho3;rw[← tj.out] at ho3));have tl:=am_ (Kd.R_lower ho3 (av (bw_ HB)));replace HB:=bs_ HB hb;clear hb ho3))
 go_loopg [4] k (fun kq v4 w'=>∃(tg:Int),v4 = .int .i64 tg∧aa (bP.l0 kq a0 ti tg=some r)∧aa (kq≤k)∧aa (Kd.R Kd.string 9 w' w.heap.size (fun _=>True) tv ti)∧aa (Below w.heap.size w w'))
 case atStart=>exact⟨(0),u3_,H',⟨Nat.le_refl _⟩,⟨aR_ tl.out⟩,⟨bw_ HB⟩⟩
 case round=>
  clear H';obtain⟨tg,rfl,HA,HK1,Z6,HB⟩:=hrel;cases gk with
  | zero=>exact absurd HA.out (by simp[bP.l0])
  | succ k1=>
   have H:=HA.out;clear HA;simp only[bP.l0] at H;by_cases c4:tg<(ti.length:Int)
   ·rw[if_pos c4] at H;have tn:=decide_eq_true c4;clear c4;obtain⟨tx,H⟩:=gd_ H;have HC_:=am_ H;clear H;obtain⟨tD,tF,tz⟩:=Kd.R_slice Z6.out;subst tz;obtain⟨tw,tu,tm⟩:=Kd.at_string (Kd.R_reads' Z6.out).2.2 tg od_ od_;cases tu;obtain⟨tB,tC⟩:=pt_ tg ti.length;have H:=HC_.out;clear HC_;by_cases c6:(cZ ByteArray.empty ti tg).toList=a0.toList
    ·rw[if_pos c6] at H;have th:=cP c6;have tq:=cN c6;clear c6;obtain rfl:=si_ H;(first | rw[th] | (simp only[aC,aG];rw[th]) | skip)
     go_wp2;go_ret
     exact⟨u1_,bw_ HB⟩
    ·rw[if_neg c6] at H;have th:=cE c6;have tq:=cG c6;have H':=am_ H;clear H;(first | rw[th] | (simp only[aC,aG];rw[th]) | skip)
     go_wp2;go_roundg k1
     case measure=>have:=HK1.out;omega
     case rel=>exact⟨(wrap64 (tg+1)),u3_,H',⟨dV⟩,⟨aR_ Z6.out⟩,⟨bw_ HB⟩⟩
   ·rw[if_neg c4] at H;have tn:=decide_eq_false c4;clear c4;obtain rfl:=si_ H;obtain⟨tE,tG,tA⟩:=Kd.R_slice Z6.out;subst tA;go_wp2;go_ret
    exact⟨u1_,bw_ HB⟩
mutual
def bJ.j0:Nat→ByteArray→Option (ByteArray)
 | 0,_=>none
 | k+1,x3=>if(x3.size:Int)>3 then(if 0≤(wrap64 ((x3.size:Int) - 1)) then(if(wrap64 ((x3.size:Int) - 1))<(x3.size:Int) then(if(bt x3 (wrap64 ((x3.size:Int) - 1)))=115 then(if 0≤(wrap64 ((x3.size:Int) - 2)) then(if(wrap64 ((x3.size:Int) - 2))<(x3.size:Int) then(bJ.j1 k x3 (x3.size:Int) ((bt x3 (wrap64 ((x3.size:Int) - 2))) != 115)) else(none)) else(none)) else(bJ.j1 k x3 (x3.size:Int) false)) else(none)) else(none)) else(bJ.j1 k x3 (x3.size:Int) false)
def bJ.j1:Nat→ByteArray→Int→Bool→Option (ByteArray)
 | 0,_,_,_=>none
 | k+1,x3,x4,ti=>if ti=true then(if 0≤(wrap64 (x4 - 1)) then(if(wrap64 (x4 - 1))≤(x3.size:Int) then((bP.f k (x3.extract 0 ((wrap64 (x4 - 1)):Int).toNat)).bind fun tg=>(if tg=true then(some (⟨#[]⟩:ByteArray)) else(some (x3.extract 0 ((wrap64 (x4 - 1)):Int).toNat)))) else(none)) else(none)) else((bP.f k x3).bind fun th=>(if th=true then(some (⟨#[]⟩:ByteArray)) else(some x3)))
end
def bJ.f (k:Nat) (a0:ByteArray):Option (ByteArray):=(dl.f k a0).bind fun tg=>(if(tg.size:Int)>12 then(if 0≤12 then(if 12≤(tg.size:Int) then(bJ.j0 k (tg.extract 0 12)) else(none)) else(none)) else(bJ.j0 k tg))
theorem bJ.calls (k:Nat) (a0:ByteArray) (r:ByteArray) (w:World) (h:bJ.f k a0=some r) :
  Calls Tryz.prog 47 #[.string a0] w fun e w'=>e = .returned (.string r)∧Below w.heap.size w w':=by
 have HB:=am_ (Below.refl w.heap.size w);have H:=h;clear h;unfold bJ.f at H
 obtain⟨tj,A2,H⟩:=bi_ H;have tC:=am_ H;clear H;go_enter Tryz.func47,Tryz.ntmps47
 go_upto_if 9 with (first | ((with_reducible refine gt_ 6 ?_);refine gB_ 6 Tryz.func93 (dl.calls k a0 tj _ A2.out) ?_;intro w4 hb;replace HB:=bs_ HB hb;(try clear hb)))
 (try simp only[Act.put,List.setIfInBounds_toArray,List.set_cons_zero,List.set_cons_succ])
 go_cut [3] (fun v3 wc=>∃(kq:Nat) (tg:ByteArray),v3 = .string tg∧aa (bJ.j0 kq tg=some r)∧aa (kq≤k)∧aa (Below w.heap.size w wc))
 case first=>
  have H:=tC.out;clear tC;by_cases c5:(tj.size:Int)>12
  ·rw[if_pos c5] at H;have tq:decide (12<(tj.size:Int))=true:=decide_eq_true c5;have tE:decide (12<tj.size)=true:=decide_eq_true au;clear c5;(first | rw[tq] | (simp only[aC,aG];rw[tq]) | skip)
   obtain⟨tV,tW,H⟩:=ge_ H;obtain⟨tX,tY,H⟩:=ge_ H;have H':=am_ H;clear H;go_wp2;go_meet
   case rel=>exact⟨_,(tj.extract 0 12),u3_,H',⟨iL⟩,⟨bw_ HB⟩⟩
  ·rw[if_neg c5] at H;have tq:decide (12<(tj.size:Int))=false:=decide_eq_false c5;have tE:decide (12<tj.size)=false:=decide_eq_false au;clear c5;(first | rw[tq] | (simp only[aC,aG];rw[tq]) | skip)
   have H':=am_ H;clear H;go_wp2;go_meet
   case rel=>exact⟨_,(tj),u3_,H',⟨iL⟩,⟨bw_ HB⟩⟩
 case rest=>
  clear tC;obtain⟨kq,tg,rfl,HA,YL,HB⟩:=hcut;cases kq with
  | zero=>exact absurd HA.out (by simp[bJ.j0])
  | succ tB=>
   have H:=HA.out;clear HA;simp only[bJ.j0] at H;have tD:=am_ H;clear H;go_upto_region 5 with (fail)
   go_cut [29] (fun t7 wc=>∃(kq:Nat) (tn:Bool),t7 = .bool tn∧aa (bJ.j1 kq tg (tg.size:Int) tn=some r)∧aa (kq≤tB)∧aa (Below w.heap.size w wc))
   case first=>
    have H:=tD.out;clear tD;by_cases c9:(tg.size:Int)>3
    ·rw[if_pos c9] at H;have tu:decide (3<(tg.size:Int))=true:=decide_eq_true c9;have tF:decide (3<tg.size)=true:=decide_eq_true au;clear c9;(first | rw[tu] | (simp only[aC,aG];rw[tu]) | skip)
     obtain⟨tk,tv⟩:∃j_:Int,(wrap64 ((tg.size:Int) - 1))=j_:=⟨_,rfl⟩;replace H:(if 0≤(tk) then(if(tk)<(tg.size:Int) then(if(bt tg (tk))=115 then(if 0≤(wrap64 ((tg.size:Int) - 2)) then(if(wrap64 ((tg.size:Int) - 2))<(tg.size:Int) then(bJ.j1 tB tg (tg.size:Int) ((bt tg (wrap64 ((tg.size:Int) - 2))) != 115)) else(none)) else(none)) else(bJ.j1 tB tg (tg.size:Int) false)) else(none)) else(none))=some r:=by first | (rw[tv] at H;exact H)|(simp only[tv] at H ⊢;exact H)
     have hji10w:(IntKind.i64.wrap ((tg.size:Int) - 1))=tk:=(aC _).trans tv;obtain⟨tJ,H⟩:=gd_ H;obtain⟨tK,H⟩:=gd_ H;have HC_:=am_ H;clear H;obtain⟨tR,tT⟩:=pq_ (tk) tg.size;have tZ:=ek tg (tk);obtain⟨tR,tT⟩:=tt_ tR tT;have H:=HC_.out;clear HC_;by_cases tw:(bt tg (tk))=115
     ·rw[if_pos tw] at H;have ti:=cP tw;have tz:=cN tw;clear tw;obtain⟨tl,tm⟩:∃j_:Int,(wrap64 ((tg.size:Int) - 2))=j_:=⟨_,rfl⟩;replace H:(if 0≤(tl) then(if(tl)<(tg.size:Int) then(bJ.j1 tB tg (tg.size:Int) ((bt tg (tl)) != 115)) else(none)) else(none))=some r:=by first | (rw[tm] at H;exact H)|(simp only[tm] at H ⊢;exact H)
      have hji15w:(IntKind.i64.wrap ((tg.size:Int) - 2))=tl:=(aC _).trans tm;obtain⟨tL,H⟩:=gd_ H;obtain⟨tM,H⟩:=gd_ H;have H':=am_ H;clear H;(first | rw[ti] | (simp only[aC,aG];rw[ti]) | skip)
      obtain⟨tS,tU⟩:=pq_ (tl) tg.size;have t6:=ek tg (tl);obtain⟨tS,tU⟩:=tt_ tS tU;go_wp2;go_meet
      case rel=>exact⟨_,(((bt tg (tl)) != 115)),(by first | rfl | (simp;done)|(simp only[← tm] <;> (first | rfl | simp))|(simp[*];done)),H',⟨sy⟩,⟨bw_ HB⟩⟩
     ·rw[if_neg tw] at H;have ti:=cE tw;have tz:=cG tw;have H':=am_ H;clear H;(first | rw[ti] | (simp only[aC,aG];rw[ti]) | skip)
      go_wp2;go_meet
      case rel=>exact⟨_,(false),u3_,H',⟨sy⟩,⟨bw_ HB⟩⟩
    ·rw[if_neg c9] at H;have tu:decide (3<(tg.size:Int))=false:=decide_eq_false c9;have tF:decide (3<tg.size)=false:=decide_eq_false au;clear c9;(first | rw[tu] | (simp only[aC,aG];rw[tu]) | skip)
     have H':=am_ H;clear H;go_wp2;go_meet
     case rel=>exact⟨_,(false),u3_,H',⟨sy⟩,⟨bw_ HB⟩⟩
   case rest=>
    clear tD;obtain⟨kq,tn,rfl,HA,t8,HB⟩:=hcut;cases kq with
    | zero=>exact absurd HA.out (by simp[bJ.j1])
    | succ tA=>
     have H:=HA.out;clear HA;simp only[bJ.j1] at H;cases tn
     ·replace H:=hf_ H;obtain⟨tG,tI,H⟩:=bi_ H;cases tG
      ·replace H:=hf_ H;obtain rfl:=si_ H;go_wp2_with (first | ((with_reducible refine gt_ 35 ?_);refine gB_ 35 Tryz.func94 (bP.calls tA tg false _ tI.out) ?_;intro ud hb;replace HB:=bs_ HB hb;(try clear hb)))
       go_ret
       exact⟨u1_,bw_ HB⟩
      ·replace H:=ht_ H;obtain rfl:=si_ H;go_wp2_with (first | ((with_reducible refine gt_ 35 ?_);refine gB_ 35 Tryz.func94 (bP.calls tA tg true _ tI.out) ?_;intro uc hb;replace HB:=bs_ HB hb;(try clear hb)))
       go_ret
       exact⟨u1_,bw_ HB⟩
     ·replace H:=ht_ H;obtain⟨th,YY⟩:∃j_:Int,(wrap64 ((tg.size:Int) - 1))=j_:=⟨_,rfl⟩;replace H:(if 0≤(th) then(if(th)≤(tg.size:Int) then((bP.f tA (tg.extract 0 ((th):Int).toNat)).bind fun tx=>(if tx=true then(some (⟨#[]⟩:ByteArray)) else(some (tg.extract 0 ((th):Int).toNat)))) else(none)) else(none))=some r:=by first | (rw[YY] at H;exact H)|(simp only[YY] at H ⊢;exact H)
      have hji20w:(IntKind.i64.wrap ((tg.size:Int) - 1))=th:=(aC _).trans YY;obtain⟨tN,tO,H⟩:=ge_ H;obtain⟨tP,tQ,H⟩:=ge_ H;obtain⟨tx,tH,H⟩:=bi_ H;cases tx
      ·replace H:=hf_ H;obtain rfl:=si_ H;go_wp2_with (first | ((with_reducible refine eq (f:=94) rfl ?_);refine hJ (some 35) rfl rfl Tryz.func94 bW rfl #[.string (tg.extract 0 ((th):Int).toNat)] rfl u117_ ?_;(with_reducible refine(bP.calls tA (tg.extract 0 ((th):Int).toNat) false _ tH.out).mono ?_);rintro e ub ⟨rfl,hb⟩;refine⟨_,rfl,?_⟩;replace HB:=bs_ HB hb;(try clear hb)))
       go_ret
       exact⟨u107_,bw_ HB⟩
      ·replace H:=ht_ H;obtain rfl:=si_ H;go_wp2_with (first | ((with_reducible refine eq (f:=94) rfl ?_);refine hJ (some 35) rfl rfl Tryz.func94 bW rfl #[.string (tg.extract 0 ((th):Int).toNat)] rfl u117_ ?_;(with_reducible refine(bP.calls tA (tg.extract 0 ((th):Int).toNat) true _ tH.out).mono ?_);rintro e ua ⟨rfl,hb⟩;refine⟨_,rfl,?_⟩;replace HB:=bs_ HB hb;(try clear hb)))
       go_ret
       exact⟨u107_,bw_ HB⟩
def dT.f (a0:Int):Option (Bool):=(cO.f a0).bind fun tg=>(if tg≥97 then(if tg≤122 then(some true) else(if tg≥48 then(some (decide (tg≤57))) else(some false))) else(if tg≥48 then(some (decide (tg≤57))) else(some false)))
theorem dT.calls (a0:Int) (r:Bool) (w:World) (h:dT.f a0=some r) :
  Calls Tryz.prog 181 #[.int .u8 a0] w fun e w'=>e = .returned (.bool r)∧Drawn0 w w':=by
 have H:=h;clear h;unfold dT.f at H
 obtain⟨tg,A2,H⟩:=bi_ H;by_cases c3:tg≥97
 ·rw[if_pos c3] at H;have th:decide (97≤tg)=true:=decide_eq_true c3;clear c3;by_cases c4:tg≤122
  ·rw[if_pos c4] at H;have ti:=decide_eq_true c4;clear c4;obtain rfl:=si_ H;go_enter Tryz.func181,Tryz.ntmps181
   go_wp2_with (first | ((with_reducible refine gt_ 5 ?_);refine gD_ 5 Tryz.func136 (cO.calls a0 tg _ A2.out) ?_;intro nd))
   go_ret
   exact⟨cD,u7_⟩
  ·rw[if_neg c4] at H;have ti:=decide_eq_false c4;clear c4;by_cases c5:tg≥48
   ·rw[if_pos c5] at H;have tj:decide (48≤tg)=true:=decide_eq_true c5;clear c5;obtain rfl:=si_ H;go_enter Tryz.func181,Tryz.ntmps181
    go_wp2_with (first | ((with_reducible refine gt_ 5 ?_);refine gD_ 5 Tryz.func136 (cO.calls a0 tg _ A2.out) ?_;intro nd))
    go_ret
    exact⟨cD,u7_⟩
   ·rw[if_neg c5] at H;have tj:decide (48≤tg)=false:=decide_eq_false c5;clear c5;obtain rfl:=si_ H;go_enter Tryz.func181,Tryz.ntmps181
    go_wp2_with (first | ((with_reducible refine gt_ 5 ?_);refine gD_ 5 Tryz.func136 (cO.calls a0 tg _ A2.out) ?_;intro nd))
    go_ret
    exact⟨cD,u7_⟩
 ·rw[if_neg c3] at H;have th:decide (97≤tg)=false:=decide_eq_false c3;clear c3;by_cases c6:tg≥48
  ·rw[if_pos c6] at H;have tk:decide (48≤tg)=true:=decide_eq_true c6;clear c6;obtain rfl:=si_ H;go_enter Tryz.func181,Tryz.ntmps181
   go_wp2_with (first | ((with_reducible refine gt_ 5 ?_);refine gD_ 5 Tryz.func136 (cO.calls a0 tg _ A2.out) ?_;intro nd))
   go_ret
   exact⟨cD,u7_⟩
  ·rw[if_neg c6] at H;have tk:decide (48≤tg)=false:=decide_eq_false c6;clear c6;obtain rfl:=si_ H;go_enter Tryz.func181,Tryz.ntmps181
   go_wp2_with (first | ((with_reducible refine gt_ 5 ?_);refine gD_ 5 Tryz.func136 (cO.calls a0 tg _ A2.out) ?_;intro nd))
   go_ret
   exact⟨cD,u7_⟩
mutual
def bm.l0:Nat→ByteArray→List (S90)→Int→Option ((List (S90)))
 | 0,_,_,_=>none
 | k+1,x0,x3,x4=>if x4<(x0.size:Int) then(bm.l1 k x0 x3 x4 x4) else(some x3)
def bm.l1:Nat→ByteArray→List (S90)→Int→Int→Option ((List (S90)))
 | 0,_,_,_,_=>none
 | k+1,x0,x3,x4,x5=>if x5<(x0.size:Int) then(if 0≤x5 then((dT.f (bt x0 x5)).bind fun tg=>(if tg=true then(bm.l1 k x0 x3 x4 (wrap64 (x5+1))) else(if x5=x4 then(bm.l0 k x0 x3 (wrap64 (x4+1))) else(if 0≤x4 then(if x4≤x5 then(if x5≤(x0.size:Int) then(if x3.length<4398046511104 then(bm.l0 k x0 (x3 ++ [(⟨x0.extract (x4:Int).toNat (x5:Int).toNat,x4,x5⟩:S90)]) x5) else(none)) else(none)) else(none)) else(none))))) else(none)) else(if x5=x4 then(bm.l0 k x0 x3 (wrap64 (x4+1))) else(if 0≤x4 then(if x4≤x5 then(if x5≤(x0.size:Int) then(if x3.length<4398046511104 then(bm.l0 k x0 (x3 ++ [(⟨x0.extract (x4:Int).toNat (x5:Int).toNat,x4,x5⟩:S90)]) x5) else(none)) else(none)) else(none)) else(none)))
end
def bm.f (k:Nat) (a0:ByteArray):Option ((List (S90))):=bm.l0 k a0 (([] : List (S90))) 0
theorem bm.calls (k:Nat) (a0:ByteArray) (r:List (S90)) (w:World) (h:bm.f k a0=some r) :
  Calls Tryz.prog 161 #[.string a0] w fun e w'=>∃v0_:Value,e = .returned (v0_)∧Kd.R k90 90 w' w.heap.size (fun _=>True) v0_ r∧Below w.heap.size w w':=by
 have hu90:=Tryz.underlying90;have HB:=am_ (Below.refl w.heap.size w);have H:=h;clear h;unfold bm.f at H
 obtain⟨tG,tk⟩:∃y_:List (S90),y_=(([] : List (S90))):=⟨_,rfl⟩;replace H:(bm.l0 k a0 tG 0)=some r:=by first | (rw[tk];with_reducible exact H)|(have H2_:=(Option.bind_some _ _).symm.trans H;rw[tk];with_reducible exact H2_)|(have H2_:=(Option.bind_some _ _).symm.trans H;with_reducible exact H2_) | with_reducible exact H | (rw[tk];exact H) | exact H
 have tl:=am_ tk;clear tk;have H':=am_ H;clear H;go_enter Tryz.func161,Tryz.ntmps161
 go_wp2_with (first | ((with_reducible refine aH (N:=6) rfl ?_);refine Kd.R_lit k90 _ 90 ?hg (N:=6) ?hd (xs:=([] : List (S90))) (inner:=[]) (ok:=fun _=>True) (okp:=fun _=>True) ?hr ?hp (fun _ hk=>hk) trivial (Below.refl _ _) (Nat.le_refl _) bb ?_;(case hd=>rfl);(case hg=>rfl);(case hr=>exact bM);(case hp=>exact eY);intro tY w2 ho3 hb hg_ hnew_;clear hg_ hnew_;(first | rw[← tl.out] at ho3 | (simp only[Int.reduceToNat] at ho3;rw[← tl.out] at ho3));have tu:=am_ (Kd.R_lower ho3 (av (bw_ HB)));replace HB:=bs_ HB hb;clear hb ho3))
 go_loopg [3,4] k (fun kq v3 v4 w'=>∃(ti:List (S90)) (th:Int),v4 = .int .i64 th∧aa (bm.l0 kq a0 ti th=some r)∧aa (kq≤k)∧aa (Kd.R k90 90 w' w.heap.size (fun _=>True) v3 ti)∧aa (Below w.heap.size w w'))
 case atStart=>exact⟨(tG),(0),u3_,H',⟨Nat.le_refl _⟩,⟨aR_ tu.out⟩,⟨bw_ HB⟩⟩
 case round=>
  clear H';obtain⟨ti,th,rfl,HA,HK1,Z6,HB⟩:=hrel;cases gk with
  | zero=>exact absurd HA.out (by simp[bm.l0])
  | succ k1=>
   have H:=HA.out;clear HA;simp only[bm.l0] at H;by_cases c4:th<(a0.size:Int)
   ·rw[if_pos c4] at H;have tF:=decide_eq_true c4;clear c4;have H':=am_ H;clear H;go_wp2;go_loopg [5] k1 (fun kq v5 w'=>∃(tg:Int),v5 = .int .i64 tg∧aa (bm.l1 kq a0 ti th tg=some r)∧aa (kq≤k1)∧aa (Kd.R k90 90 w' w.heap.size (fun _=>True) u3 ti)∧aa (Below w.heap.size w w'))
    case atStart=>exact⟨(th),u3_,H',⟨Nat.le_refl _⟩,⟨aR_ Z6.out⟩,⟨bw_ HB⟩⟩
    case round=>
     clear H';try clear c4
     try clear tF
     obtain⟨tg,rfl,HA,HK2,Z6,HB⟩:=hrel;cases gk with
     | zero=>exact absurd HA.out (by simp[bm.l1])
     | succ k2=>
      have H:=HA.out;clear HA;simp only[bm.l1] at H;by_cases c5:tg<(a0.size:Int)
      ·rw[if_pos c5] at H;have tH:=decide_eq_true c5;clear c5;obtain⟨tX,H⟩:=gd_ H;obtain⟨tI,A8,H⟩:=bi_ H;have HC_:=am_ H;clear H;obtain⟨p7,q7⟩:=pq_ tg a0.size;have t7:=ek a0 tg;obtain⟨p7,q7⟩:=tt_ p7 q7;have H:=HC_.out;clear HC_;cases tI
       ·replace H:=hf_ H;have HC_:=am_ H;clear H;have H:=HC_.out;clear HC_;by_cases c10:tg=th
        ·rw[if_pos c10] at H;have tj:=cP c10;have tC:=cN c10;clear c10;have H':=am_ H;clear H;(first | rw[tj] | (simp only[aC,aG];rw[tj]) | skip)
         go_wp2_with (first | (go_at_call 181;(with_reducible refine(dT.calls (bt a0 tg) false _ A8.out).mono ?_);rintro e w' ⟨rfl,⟨nd,rfl⟩⟩))
         go_roundg k2
         case measure=>have:=HK1.out;have:=HK2.out;omega
         case rel=>exact⟨(ti),(wrap64 (th+1)),u3_,H',⟨l5⟩,⟨aR_ Z6.out⟩,⟨bw_ HB⟩⟩
        ·rw[if_neg c10] at H;have tj:=cE c10;have tC:=cG c10;obtain⟨tL,tM,H⟩:=ge_ H;obtain⟨tN,tO,H⟩:=ge_ H;obtain⟨tP,tQ,H⟩:=ge_ H;obtain⟨tx,H⟩:=gl_ H;generalize tm:((ti ++ [(⟨a0.extract (th:Int).toNat (tg:Int).toNat,th,tg⟩:S90)]):List (S90))=tJ at H;have tA:=am_ tm.symm;clear tm;have H':=am_ H;clear H;(first | rw[tj] | (simp only[aC,aG];rw[tj]) | skip)
         go_wp2_with (first | (go_at_call 181;(with_reducible refine(dT.calls (bt a0 tg) false _ A8.out).mono ?_);rintro e w' ⟨rfl,⟨nd,rfl⟩⟩)|((with_reducible refine a7 (b:=.append) (xs:=#[.tmp 29,.tmp 37]) rfl ?_);at_builtin;refine Kd.R_append k90 (w0:=w) w.heap.size rfl (.tmp 29) (.tmp 37) 87 90 (.agg #[(.string ⟨#[]⟩),(.int .i64 0),(.int .i64 0)]) 32 rfl Tryz.underlying87 n7 rfl am au u3 ti (⟨a0.extract (th:Int).toNat (tg:Int).toNat,th,tg⟩:S90) [.string (a0.extract (th:Int).toNat (tg:Int).toNat),.int .i64 th,.int .i64 tg] (fun _=>True) (fun _=>False) rfl rfl ?aP (fun _ hk=>hk.elim) ?aF ?aO ?aB ?aS ?aL ?_;(case aP=>exact le _ _ _ (⟨a0.extract (th:Int).toNat (tg:Int).toNat,th,tg⟩:S90));(case aB=>exact fc);(case aF=>exact ie);(case aO=>exact kB);(case aS=>exact fi);(case aL=>have:=tx.out;omega);intro tZ t8 ho hb hg hat;rw[← tA.out] at ho;replace HB:=am_ (hb);have tv:=am_ (ho);clear Z6 ho hb hg hat))
         go_roundg k2
         case measure=>have:=HK1.out;have:=HK2.out;omega
         case rel=>exact⟨(tJ),(tg),u3_,H',⟨l5⟩,⟨aR_ tv.out⟩,⟨bw_ HB⟩⟩
       ·replace H:=ht_ H;have H':=am_ H;clear H;go_wp2_with (first | (go_at_call 181;(with_reducible refine(dT.calls (bt a0 tg) true _ A8.out).mono ?_);rintro e w' ⟨rfl,⟨nd,rfl⟩⟩))
        go_roundg k2
        case measure=>have:=HK1.out;have:=HK2.out;omega
        case rel=>exact⟨(wrap64 (tg+1)),u3_,H',⟨l5⟩,⟨aR_ Z6.out⟩,⟨bw_ HB⟩⟩
      ·rw[if_neg c5] at H;have tH:=decide_eq_false c5;clear c5;by_cases tq:tg=th
       ·rw[if_pos tq] at H;have tD:=cP tq;have tE:=cN tq;clear tq;have H':=am_ H;clear H;go_wp2;go_roundg k2
        case measure=>have:=HK1.out;have:=HK2.out;omega
        case rel=>exact⟨(ti),(wrap64 (th+1)),u3_,H',⟨l5⟩,⟨aR_ Z6.out⟩,⟨bw_ HB⟩⟩
       ·rw[if_neg tq] at H;have tD:=cE tq;have tE:=cG tq;obtain⟨tR,tS,H⟩:=ge_ H;obtain⟨tT,tU,H⟩:=ge_ H;obtain⟨tV,tW,H⟩:=ge_ H;obtain⟨tz,H⟩:=gl_ H;generalize tn:((ti ++ [(⟨a0.extract (th:Int).toNat (tg:Int).toNat,th,tg⟩:S90)]):List (S90))=tK at H;have tB:=am_ tn.symm;clear tn;have H':=am_ H;clear H;go_wp2_with (first | ((with_reducible refine a7 (b:=.append) (xs:=#[.tmp 29,.tmp 37]) rfl ?_);at_builtin;refine Kd.R_append k90 (w0:=w) w.heap.size rfl (.tmp 29) (.tmp 37) 87 90 (.agg #[(.string ⟨#[]⟩),(.int .i64 0),(.int .i64 0)]) 32 rfl Tryz.underlying87 n7 rfl am au u3 ti (⟨a0.extract (th:Int).toNat (tg:Int).toNat,th,tg⟩:S90) [.string (a0.extract (th:Int).toNat (tg:Int).toNat),.int .i64 th,.int .i64 tg] (fun _=>True) (fun _=>False) rfl rfl ?aP (fun _ hk=>hk.elim) ?aF ?aO ?aB ?aS ?aL ?_;(case aP=>exact le _ _ _ (⟨a0.extract (th:Int).toNat (tg:Int).toNat,th,tg⟩:S90));(case aB=>exact fc);(case aF=>exact ie);(case aO=>exact kB);(case aS=>exact fi);(case aL=>have:=tz.out;omega);intro t6 ua ho hb hg hat;rw[← tB.out] at ho;replace HB:=am_ (hb);have tw:=am_ (ho);clear Z6 ho hb hg hat))
        go_roundg k2
        case measure=>have:=HK1.out;have:=HK2.out;omega
        case rel=>exact⟨(tK),(tg),u3_,H',⟨l5⟩,⟨aR_ tw.out⟩,⟨bw_ HB⟩⟩
   ·rw[if_neg c4] at H;have tF:=decide_eq_false c4;clear c4;obtain rfl:=si_ H;go_wp2;go_ret
    exact⟨_,u1_,aR_ Z6.out,bw_ HB⟩
def cI.l0:Nat→List ByteArray→List (S90)→Int→Option (List ByteArray)
 | 0,_,_,_=>none
 | k+1,x3,x4,x5=>if x5<(x4.length:Int) then(if 0≤x5 then((bJ.f k ((eQ x4 x5).f0)).bind fun tg=>(if x3.length<8796093022208 then(cI.l0 k (x3 ++ [tg]) x4 (wrap64 (x5+1))) else(none))) else(none)) else(some x3)
def cI.f (k:Nat) (a0:ByteArray):Option (List ByteArray):=(bm.f k a0).bind fun tg=>(cI.l0 k (([] : List ByteArray)) tg 0)
theorem cI.calls (k:Nat) (a0:ByteArray) (r:List ByteArray) (w:World) (h:cI.f k a0=some r) :
  Calls Tryz.prog 141 #[.string a0] w fun e w'=>∃v0_:Value,e = .returned (v0_)∧Kd.R Kd.string 9 w' w.heap.size (fun _=>True) v0_ r∧Below w.heap.size w w':=by
 have HB:=am_ (Below.refl w.heap.size w);have H:=h;clear h;unfold cI.f at H
 obtain⟨tw,tg⟩:∃y_:List ByteArray,y_=(([] : List ByteArray)):=⟨_,rfl⟩;replace H:((bm.f k a0).bind fun th=>(cI.l0 k tw th 0))=some r:=by first | (rw[tg];with_reducible exact H)|(have H2_:=(Option.bind_some _ _).symm.trans H;rw[tg];with_reducible exact H2_)|(have H2_:=(Option.bind_some _ _).symm.trans H;with_reducible exact H2_) | with_reducible exact H | (rw[tg];exact H) | exact H
 have tm:=am_ tg;clear tg;obtain⟨th,A2,H⟩:=bi_ H;have H':=am_ H;clear H;go_enter Tryz.func141,Tryz.ntmps141
 go_wp2_with (first | ((with_reducible refine aH (N:=6) rfl ?_);refine Kd.R_lit Kd.string _ 9 ?hg (N:=6) ?hd (xs:=([] : List ByteArray)) (inner:=[]) (ok:=fun _=>True) (okp:=fun _=>True) ?hr ?hp (fun _ hk=>hk) trivial (Below.refl _ _) (Nat.le_refl _) bb ?_;(case hd=>rfl);(case hg=>rfl);(case hr=>exact bM);(case hp=>exact eY);intro tO w3 ho4 hb hg_ hnew_;clear hg_ hnew_;(first | rw[← tm.out] at ho4 | (simp only[Int.reduceToNat] at ho4;rw[← tm.out] at ho4));have tj:=am_ (Kd.R_lower ho4 (av (bw_ HB)));replace HB:=bs_ HB hb;clear hb ho4)|((with_reducible refine gt_ 8 ?_);refine gf_ 8 Tryz.func161 (bm.calls k a0 th _ A2.out) ?_;rintro e w5 ⟨tG,rfl,ho0,hb⟩;refine⟨_,rfl,?_⟩;replace tj:=am_ (Kd.R_below (aR_ tj.out) hb);have tq:=am_ (Kd.R_lower ho0 (av (bw_ HB)));replace HB:=bs_ HB hb;(try clear hb);(try clear ho0)))
 go_loopg [3,5] k (fun kq v3 v5 w'=>∃(tk:List ByteArray) (ti:Int),v5 = .int .i64 ti∧aa (cI.l0 kq tk th ti=some r)∧aa (kq≤k)∧aa (Kd.R Kd.string 9 w' w.heap.size (fun _=>True) v3 tk)∧aa (Kd.R k90 90 w' w.heap.size (fun _=>True) tG th)∧aa (Below w.heap.size w w'))
 case atStart=>exact⟨(tw),(0),u3_,H',⟨Nat.le_refl _⟩,⟨aR_ tj.out⟩,⟨aR_ tq.out⟩,⟨bw_ HB⟩⟩
 case round=>
  clear H';obtain⟨tk,ti,rfl,HA,HK1,Z6,ZW,HB⟩:=hrel;cases gk with
  | zero=>exact absurd HA.out (by simp[cI.l0])
  | succ k1=>
   have H:=HA.out;clear HA;simp only[cI.l0] at H;by_cases c6:ti<(th.length:Int)
   ·rw[if_pos c6] at H;have tC:=decide_eq_true c6;clear c6;obtain⟨tK,H⟩:=gd_ H;obtain⟨tl,A8,H⟩:=bi_ H;obtain⟨tB,H⟩:=gl_ H;generalize tn:((tk ++ [tl]):List ByteArray)=tH at H;have tv:=am_ tn.symm;clear tn;have H':=am_ H;clear H;obtain⟨ZE,ZQ,tE⟩:=Kd.R_slice ZW.out;subst tE;obtain⟨tI,tD,tx,tz,tA⟩:=ss (Kd.R_reads' ZW.out).2.2 ti od_ od_;cases tD;obtain⟨tM,tN⟩:=pt_ ti th.length;go_wp2_with (first | ((with_reducible refine gt_ 21 ?_);refine gB_ 21 Tryz.func47 (bJ.calls k1 ((eQ th ti).f0) tl _ A8.out) ?_;intro tQ hb;replace Z6:=am_ (Kd.R_below (aR_ Z6.out) hb);replace ZW:=am_ (Kd.R_below (aR_ ZW.out) hb);replace HB:=bs_ HB hb;(try clear hb))|((with_reducible refine a7 (b:=.append) (xs:=#[.tmp 15,.tmp 22]) rfl ?_);at_builtin;refine Kd.R_append Kd.string (w0:=w) w.heap.size rfl (.tmp 15) (.tmp 22) 30 9 (.string ⟨#[]⟩) 16 rfl Tryz.underlying30 e6 rfl am au u3 tk tl [.string tl] (fun _=>True) (fun _=>False) rfl rfl ?aP (fun _ hk=>hk.elim) ?aF ?aO ?aB ?aS ?aL ?_;(case aP=>exact rfl);(case aB=>exact fc);(case aF=>exact ie);(case aO=>exact kB);(case aS=>exact fi);(case aL=>have:=tB.out;omega);intro tP tR ho hb hg hat;rw[← tv.out] at ho;replace ZW:=am_ (Kd.R_over' (aR_ ZW.out) (Kd.R_typed (aR_ Z6.out)) am hg);replace HB:=am_ (hb);have tu:=am_ (ho);clear Z6 ho hb hg hat))
    go_roundg k1
    case measure=>have:=HK1.out;omega
    case rel=>exact⟨(tH),(wrap64 (ti+1)),u3_,H',⟨dV⟩,⟨aR_ tu.out⟩,⟨aR_ ZW.out⟩,⟨bw_ HB⟩⟩
   ·rw[if_neg c6] at H;have tC:=decide_eq_false c6;clear c6;obtain rfl:=si_ H;obtain⟨tJ,tL,tF⟩:=Kd.R_slice ZW.out;subst tF;go_wp2;go_ret
    exact⟨_,u1_,aR_ Z6.out,bw_ HB⟩
end Go.Proofs.YtnjjdojonflckaaGreatDoor.PFnIndexPosts
