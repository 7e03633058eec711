/- Contracts of Go functions, each told as a plain Lean function. -/
import Derived.Test.YtnjjdojonflckaaGreatDoorYPFnIndexTermsx23
namespace Go.Proofs.YtnjjdojonflckaaGreatDoor.PFnIndexTerms
open Go.RowKit Go.Proofs.YtnjjdojonflckaaGreatDoorW.PrintWords Go.Proofs.YtnjjdojonflckaaGreatDoorW.PrintLast Go.Proofs.YtnjjdojonflckaaGreatDoorW.PrintMore
attribute [local go_sem] bg bh bV bU cy cx bJ bI bX bW
set_option linter.unusedVariables false
set_option linter.unusedSimpArgs false
set_option maxHeartbeats 8000000
set_option maxRecDepth 100000
def bc.l0:Nat→Int→ByteArray→List (S86)→Option (Bool)
 | 0,_,_,_=>none
 | k+1,x3,tl,tk=>if x3<(tk.length:Int) then(if 0≤x3 then((a6.f k ((an tk x3).f0)).bind fun tn=>(if tn=true then((bw.f k ((an tk x3).f1)).bind fun tq=>(if tq=true then(if x3>0 then(if 0≤(wrap64 (x3 - 1)) then(if(wrap64 (x3 - 1))<(tk.length:Int) then(if((Op.bytesLess (((an tk (wrap64 (x3 - 1))).f0).toList) (((an tk x3).f0).toList))=true) then(bc.l0 k (wrap64 (x3+1)) tl tk) else(some false)) else(none)) else(none)) else(bc.l0 k (wrap64 (x3+1)) tl tk)) else(some false))) else(some false))) else(none)) else((a6.f k tl).bind fun tm=>(if tm=true then(some (decide ((tk.length:Int)≤4))) else(some false)))
def bc.f (k:Nat) (a0_0:ByteArray) (l0_1:List (S86)):Option (Bool):=bc.l0 k 0 a0_0 l0_1
def bc.T4:Bool × List (List Nat × List Nat):=(true,[([],[]),([0],[0]),([],[]),([1,2],[1,2]),([3],[3]),([4],[4]),([5],[5]),([6],[6]),([7,6],[7]),([8],[8]),([9,8],[8,9]),([8],[8]),([10,11,8],[8,10,11]),([12,8],[8,12]),([13,8],[8,13]),([14,8,8],[8,14]),([15,8],[8,15]),([8,16],[8,16]),([17,15],[17]),([18],[18]),([19,18],[18,19]),([20,18,18],[18,20]),([21],[21]),([22,21],[21,22]),([21],[21]),([24,21],[21,24]),([23,25,21],[21,23,25]),([26,21],[21,26]),([27,21],[21,27]),([21],[21]),([29,21],[21,29]),([21],[21]),([30,31,21],[21,30,31]),([32,21],[21,32]),([33,21],[21,33]),([28,34,21],[21,28,34]),([21,35,18],[18,21,35]),([18,36],[18,36])])
def bc.B4:List Nat:=[0,1,0,7,15,31,63,127,255,511,1023,511,4095,8191,16383,32767,65535,131071,262143,524287,1048575,2097151,4194303,8388607,4194303,20971519,67108863,134217727,268435455,4194303,541065215,4194303,3762290687,8057257983,16647192575,34359738367,68719476735,137438953471]
theorem bc.tab4:dC .any (fk Tryz.f98 4)=bc.T4:=by kernel_rfl
theorem bc.bits4:dc bc.T4.2 bc.B4=true:=by kernel_rfl
theorem bc.calls (k:Nat) (a0_0:ByteArray) (A0_1:Option Addr) (c0_1:Nat) (l0_1:List (S86)) (r:Bool) (w:World) (hr0_1:Kd.C k86 w A0_1 l0_1.length l0_1) (hc0_1:l0_1.length≤c0_1) (h:bc.f k a0_0 l0_1=some r) :
  Calls Tryz.prog 98 #[.agg #[.string a0_0,.slice A0_1 l0_1.length c0_1]] w fun e w'=>e = .returned (.bool r)∧Below w.heap.size w w':=by
 have hu44:=Tryz.underlying44;have tA:=am_ hr0_1;have uC:=am_ hc0_1;clear hr0_1 hc0_1;have HB:=am_ (Below.refl w.heap.size w);have H:=h;clear h;unfold bc.f at H
 have H':=am_ H;clear H;go_enter Tryz.func98,Tryz.ntmps98
 go_wp2_with (first | ((with_reducible refine aA (N:=1) rfl ?_);(try (refine bj ct ?_;dsimp only));refine bF ?hg (N:=1) ?hd (cs:=#[.string a0_0,.slice A0_1 l0_1.length c0_1]) (t:=44) ?hr ?_;(case hd=>rfl);(case hg=>rfl);(case hr=>exact bL);intro tB hg w2 hbox hb;have tl:=am_ (hbox);have uB:=gw_ HB hg;replace HB:=bs_ HB hb;clear hb hbox hg))
 go_loopg [3] k (fun kq v3 w'=>∃(tk:Int),v3 = .int .i64 tk∧aa (bc.l0 kq tk a0_0 l0_1=some r)∧aa (kq≤k)∧aa (w'.heap[tB]? = some (.cells #[.string a0_0,(.slice A0_1 l0_1.length c0_1)] 44 (0,0)))∧aa (Below w.heap.size w w'))
 case atStart=>exact⟨(0),u4_,H',⟨Nat.le_refl _⟩,⟨pb_ tl⟩,⟨bw_ HB⟩⟩
 case round=>
  clear H';obtain⟨tk,rfl,HA,HK1,tl,HB⟩:=hrel;cases gk with
  | zero=>exact absurd HA.out (by simp[bc.l0])
  | succ k1=>
   have H:=HA.out;clear HA;simp only[bc.l0] at H;by_cases c3:tk<(l0_1.length:Int)
   ·rw[if_pos c3] at H;have ut:=decide_eq_true c3;clear c3;obtain⟨uF,H⟩:=gd_ H;obtain⟨uy,A5,H⟩:=bi_ H;cases uy
    ·replace H:=hf_ H;obtain rfl:=si_ H;obtain⟨ua,ub,um,un⟩:=b6 tl.out;try go_wp2
     replace tl:=am_ (bf tl.out);replace HB:=am_ (au HB.out);obtain⟨tm,tO,tn,tq⟩:=dK tA.out tk od_ od_;have tu:=tq;have tr:=tn;cases tO;replace tn:=cb_ HB tn;replace tq:=cb_ HB tq;obtain⟨tQ,tR⟩:=pt_ tk l0_1.length;refine cN (n:=38) (S:=fun w'=>w'.cell? ⟨tB,0,none⟩=some (.string a0_0)∧w'.cell? ⟨tB,1,none⟩=some (.slice (some tm) l0_1.length c0_1)∧w'.cell? (tm.add ((tk).toNat*2))=some (.string ((an l0_1 tk).f0))∧w'.cell? ⟨(tm.add ((tk).toNat*2)).block,(tm.add ((tk).toNat*2)).off+1,none⟩=some (.string ((an l0_1 tk).f1))) (ds:=[]) (bm_ 38 0) bT rfl rfl ⟨bc_ tl 0,bc_ tl 1,(cc_ HB tr),(cc_ HB tu)⟩ (fun hHeld=>?_);refine bu bc.tab4 bc.bits4 (fun HT_ HW_=>?_);generalize wr.drew=uN at tl HB tn tq hHeld ⊢;refine pv_ 0 11 ?_;refine pv_ 2 13 ?_;refine tv_ 1 12 ?_;refine pv_ 3 14 ?_;refine pv_ 4 15 ?_;refine tv_ 5 16 ?_;refine ov_ 6 17 (fun K hK=>?_);refine oD_ Tryz.func99 (a6.calls k1 ((an l0_1 tk).f0) false _ A5.out) ?_;intro nd;refine hK.out _ _ ⟨bc_ tl 0,bc_ tl 1,(cc_ HB tr),(cc_ HB tu)⟩ (fun hHeld=>?_);clear hK K;refine nm_ ?_;refine pv_ 7 18 ?_;refine pv_ 8 19 ?_;refine sv_ 9 20 ?_;refine sv_ 10 21 ?_;refine sv_ 11 22 ?_;refine sv_ 12 23 ?_;refine sv_ 13 24 ?_;refine sv_ 14 25 ?_;refine sv_ 15 26 ?_;refine sv_ 16 27 ?_;refine pv_ 17 28 ?_;refine pv_ 18 29 ?_;refine sv_ 19 30 ?_;refine sv_ 20 31 ?_;refine sv_ 21 32 ?_;refine sv_ 22 33 ?_;refine sv_ 23 34 ?_;refine sv_ 24 35 ?_;refine sv_ 25 36 ?_;refine sv_ 26 37 ?_;refine sv_ 27 38 ?_;refine sv_ 28 39 ?_;refine sv_ 29 40 ?_;refine sv_ 30 41 ?_;refine sv_ 31 42 ?_;refine sv_ 32 43 ?_;refine sv_ 33 44 ?_;refine sv_ 34 45 ?_;refine sv_ 35 46 ?_;refine sv_ 36 47 ?_;refine pv_ 37 48 ?_;refine dn_ HT_ ?_;try go_wp2
     go_ret
     exact⟨u1_,bw_ HB⟩
    ·replace H:=ht_ H;obtain⟨uz,A7,H⟩:=bi_ H;cases uz
     ·replace H:=hf_ H;obtain rfl:=si_ H;obtain⟨t7,t8,uk,ul⟩:=b6 tl.out;try go_wp2
      replace tl:=am_ (bf tl.out);replace HB:=am_ (au HB.out);obtain⟨tm,tO,tn,tq⟩:=dK tA.out tk od_ od_;have tu:=tq;have tr:=tn;cases tO;replace tn:=cb_ HB tn;replace tq:=cb_ HB tq;obtain⟨tQ,tR⟩:=pt_ tk l0_1.length;obtain⟨tM,tP,tv,tw⟩:=dK tA.out tk od_ od_;have tz:=tw;have tx:=tv;obtain rfl:tm=tM:=(by injection tP);replace tv:=cb_ HB tv;replace tw:=cb_ HB tw;obtain⟨tV,tW⟩:=pt_ tk l0_1.length;refine cN (n:=38) (S:=fun w'=>w'.cell? ⟨tB,0,none⟩=some (.string a0_0)∧w'.cell? ⟨tB,1,none⟩=some (.slice (some tm) l0_1.length c0_1)∧w'.cell? (tm.add ((tk).toNat*2))=some (.string ((an l0_1 tk).f0))∧w'.cell? ⟨(tm.add ((tk).toNat*2)).block,(tm.add ((tk).toNat*2)).off+1,none⟩=some (.string ((an l0_1 tk).f1))∧w'.cell? (tm.add ((tk).toNat*2))=some (.string ((an l0_1 tk).f0))∧w'.cell? ⟨(tm.add ((tk).toNat*2)).block,(tm.add ((tk).toNat*2)).off+1,none⟩=some (.string ((an l0_1 tk).f1))) (ds:=[]) (bm_ 38 0) bT rfl rfl ⟨bc_ tl 0,bc_ tl 1,(cc_ HB tr),(cc_ HB tu),(cc_ HB tx),(cc_ HB tz)⟩ (fun hHeld=>?_);refine bu bc.tab4 bc.bits4 (fun HT_ HW_=>?_);generalize wr.drew=uM at tl HB tn tq tv tw hHeld ⊢;refine pv_ 0 11 ?_;refine pv_ 2 13 ?_;refine tv_ 1 12 ?_;refine pv_ 3 14 ?_;refine pv_ 4 15 ?_;refine tv_ 5 16 ?_;refine ov_ 6 17 (fun K hK=>?_);refine oD_ Tryz.func99 (a6.calls k1 ((an l0_1 tk).f0) true _ A5.out) ?_;intro nd;refine hK.out _ _ ⟨bc_ tl 0,bc_ tl 1,(cc_ HB tr),(cc_ HB tu),(cc_ HB tx),(cc_ HB tz)⟩ (fun hHeld=>?_);clear hK K;refine nm_ ?_;refine pv_ 7 18 ?_;refine pv_ 8 19 ?_;refine pv_ 9 20 ?_;refine pv_ 11 22 ?_;refine tv_ 10 21 ?_;refine pv_ 12 23 ?_;refine pv_ 13 24 ?_;refine tv_ 14 25 ?_;refine ov_ 15 26 (fun K hK=>?_);refine oD_ Tryz.func139 (bw.calls k1 ((an l0_1 tk).f1) false _ A7.out) ?_;intro nd;refine hK.out _ _ ⟨bc_ tl 0,bc_ tl 1,(cc_ HB tr),(cc_ HB tu),(cc_ HB tx),(cc_ HB tz)⟩ (fun hHeld=>?_);clear hK K;refine nm_ ?_;refine pv_ 16 27 ?_;refine pv_ 17 28 ?_;refine pv_ 18 29 ?_;refine sv_ 19 30 ?_;refine sv_ 20 31 ?_;refine sv_ 21 32 ?_;refine sv_ 22 33 ?_;refine sv_ 23 34 ?_;refine sv_ 24 35 ?_;refine sv_ 25 36 ?_;refine sv_ 26 37 ?_;refine sv_ 27 38 ?_;refine sv_ 28 39 ?_;refine sv_ 29 40 ?_;refine sv_ 30 41 ?_;refine sv_ 31 42 ?_;refine sv_ 32 43 ?_;refine sv_ 33 44 ?_;refine sv_ 34 45 ?_;refine sv_ 35 46 ?_;refine sv_ 36 47 ?_;refine pv_ 37 48 ?_;refine dn_ HT_ ?_;try go_wp2
      go_ret
      exact⟨u1_,bw_ HB⟩
     ·replace H:=ht_ H;by_cases c9:tk>0
      ·rw[if_pos c9] at H;have uu:decide (0<tk)=true:=decide_eq_true c9;clear c9;obtain⟨tC,tH⟩:∃j_:Int,(wrap64 (tk - 1))=j_:=⟨_,rfl⟩;replace H:(if 0≤(tC) then(if(tC)<(l0_1.length:Int) then(if((Op.bytesLess (((an l0_1 (tC)).f0).toList) (((an l0_1 tk).f0).toList))=true) then(bc.l0 k1 (wrap64 (tk+1)) a0_0 l0_1) else(some false)) else(none)) else(none))=some r:=by first | (rw[tH] at H;exact H)|(simp only[tH] at H ⊢;exact H)
       (try rw[tH] at A5)
       (try rw[tH] at A7)
       have hji10w:(IntKind.i64.wrap (tk - 1))=tC:=(aC _).trans tH;obtain⟨uD,H⟩:=gd_ H;obtain⟨uE,H⟩:=gd_ H;have HC_:=am_ H;clear H;obtain⟨tX,tY,ug,uh⟩:=b6 tl.out;try go_wp2
       replace tl:=am_ (bf tl.out);replace HB:=am_ (au HB.out);obtain⟨tm,tO,tn,tq⟩:=dK tA.out tk od_ od_;have tu:=tq;have tr:=tn;cases tO;replace tn:=cb_ HB tn;replace tq:=cb_ HB tq;obtain⟨tQ,tR⟩:=pt_ tk l0_1.length;obtain⟨tM,tP,tv,tw⟩:=dK tA.out tk od_ od_;have tz:=tw;have tx:=tv;obtain rfl:tm=tM:=(by injection tP);replace tv:=cb_ HB tv;replace tw:=cb_ HB tw;obtain⟨tV,tW⟩:=pt_ tk l0_1.length;obtain⟨tT,uv,tD,tE⟩:=dK tA.out (tC) od_ od_;have tJ:=tE;have tI:=tD;obtain rfl:tm=tT:=(by injection uv);replace tD:=cb_ HB tD;replace tE:=cb_ HB tE;obtain⟨uG,uI⟩:=pt_ (tC) l0_1.length;obtain⟨tU,uw,tF,tG⟩:=dK tA.out tk od_ od_;have tL:=tG;have tK:=tF;obtain rfl:tm=tU:=(by injection uw);replace tF:=cb_ HB tF;replace tG:=cb_ HB tG;obtain⟨uH,uJ⟩:=pt_ tk l0_1.length;refine cN (n:=38) (S:=fun w'=>w'.cell? ⟨tB,0,none⟩=some (.string a0_0)∧w'.cell? ⟨tB,1,none⟩=some (.slice (some tm) l0_1.length c0_1)∧w'.cell? (tm.add ((tk).toNat*2))=some (.string ((an l0_1 tk).f0))∧w'.cell? ⟨(tm.add ((tk).toNat*2)).block,(tm.add ((tk).toNat*2)).off+1,none⟩=some (.string ((an l0_1 tk).f1))∧w'.cell? (tm.add ((tk).toNat*2))=some (.string ((an l0_1 tk).f0))∧w'.cell? ⟨(tm.add ((tk).toNat*2)).block,(tm.add ((tk).toNat*2)).off+1,none⟩=some (.string ((an l0_1 tk).f1))∧w'.cell? (tm.add (((tC)).toNat*2))=some (.string ((an l0_1 (tC)).f0))∧w'.cell? ⟨(tm.add (((tC)).toNat*2)).block,(tm.add (((tC)).toNat*2)).off+1,none⟩=some (.string ((an l0_1 (tC)).f1))∧w'.cell? (tm.add ((tk).toNat*2))=some (.string ((an l0_1 tk).f0))∧w'.cell? ⟨(tm.add ((tk).toNat*2)).block,(tm.add ((tk).toNat*2)).off+1,none⟩=some (.string ((an l0_1 tk).f1))) (ds:=[]) (bm_ 38 0) bT rfl rfl ⟨bc_ tl 0,bc_ tl 1,(cc_ HB tr),(cc_ HB tu),(cc_ HB tx),(cc_ HB tz),(cc_ HB tI),(cc_ HB tJ),(cc_ HB tK),(cc_ HB tL)⟩ (fun hHeld=>?_);refine bu bc.tab4 bc.bits4 (fun HT_ HW_=>?_);generalize wr.drew=uK at tl HB tn tq tv tw tD tE tF tG hHeld ⊢;refine pv_ 0 11 ?_;refine pv_ 2 13 ?_;refine tv_ 1 12 ?_;refine pv_ 3 14 ?_;refine pv_ 4 15 ?_;refine tv_ 5 16 ?_;refine ov_ 6 17 (fun K hK=>?_);refine oD_ Tryz.func99 (a6.calls k1 ((an l0_1 tk).f0) true _ A5.out) ?_;intro nd;refine hK.out _ _ ⟨bc_ tl 0,bc_ tl 1,(cc_ HB tr),(cc_ HB tu),(cc_ HB tx),(cc_ HB tz),(cc_ HB tI),(cc_ HB tJ),(cc_ HB tK),(cc_ HB tL)⟩ (fun hHeld=>?_);clear hK K;refine nm_ ?_;refine pv_ 7 18 ?_;refine pv_ 8 19 ?_;refine pv_ 9 20 ?_;refine pv_ 11 22 ?_;refine tv_ 10 21 ?_;refine pv_ 12 23 ?_;refine pv_ 13 24 ?_;refine tv_ 14 25 ?_;refine ov_ 15 26 (fun K hK=>?_);refine oD_ Tryz.func139 (bw.calls k1 ((an l0_1 tk).f1) true _ A7.out) ?_;intro nd;refine hK.out _ _ ⟨bc_ tl 0,bc_ tl 1,(cc_ HB tr),(cc_ HB tu),(cc_ HB tx),(cc_ HB tz),(cc_ HB tI),(cc_ HB tJ),(cc_ HB tK),(cc_ HB tL)⟩ (fun hHeld=>?_);clear hK K;refine nm_ ?_;refine pv_ 16 27 ?_;refine pv_ 17 28 ?_;refine pv_ 18 29 ?_;refine pv_ 19 30 ?_;refine pv_ 20 31 ?_;refine pv_ 21 32 ?_;refine pv_ 22 33 ?_;refine pv_ 24 35 ?_;refine pv_ 25 36 ?_;refine pv_ 29 40 ?_;refine pv_ 31 42 ?_;refine tv_ 23 34 ?_;refine pv_ 26 37 ?_;refine pv_ 27 38 ?_;refine tv_ 28 39 ?_;refine tv_ 30 41 ?_;refine pv_ 32 43 ?_;refine pv_ 33 44 ?_;refine tv_ 34 45 ?_;refine pv_ 35 46 ?_;refine pv_ 36 47 ?_;refine pv_ 37 48 ?_;refine dn_ HT_ ?_;have H:=HC_.out;clear HC_;by_cases tS:((Op.bytesLess (((an l0_1 (tC)).f0).toList) (((an l0_1 tk).f0).toList))=true)
       ·rw[if_pos tS] at H;have tN:(Op.bytesLess (((an l0_1 (tC)).f0).toList) (((an l0_1 tk).f0).toList))=true:=tS;clear tS;have H':=am_ H;clear H;(first | rw[tN] | (simp only[aC,aG];rw[tN]) | skip)
        try go_wp2
        go_roundg k1
        case measure=>have:=HK1.out;omega
        case rel=>exact⟨(wrap64 (tk+1)),u4_,H',⟨dH⟩,⟨pb_ tl⟩,⟨bw_ HB⟩⟩
       ·rw[if_neg tS] at H;have tN:(Op.bytesLess (((an l0_1 (tC)).f0).toList) (((an l0_1 tk).f0).toList))=false:=by simpa using tS
        clear tS;obtain rfl:=si_ H;(first | rw[tN] | (simp only[aC,aG];rw[tN]) | skip)
        try go_wp2
        go_ret
        exact⟨by first | rfl | (simp[bA,bz] <;> rfl)|(simp only[← tH];first | rfl | (simp[bA,bz] <;> rfl))|(simp[*,bA,bz] <;> rfl)|(simp;exact du _),bw_ HB⟩
      ·rw[if_neg c9] at H;have uu:decide (0<tk)=false:=decide_eq_false c9;clear c9;have H':=am_ H;clear H;obtain⟨tZ,t6,ui,uj⟩:=b6 tl.out;try go_wp2
       replace tl:=am_ (bf tl.out);replace HB:=am_ (au HB.out);obtain⟨tm,tO,tn,tq⟩:=dK tA.out tk od_ od_;have tu:=tq;have tr:=tn;cases tO;replace tn:=cb_ HB tn;replace tq:=cb_ HB tq;obtain⟨tQ,tR⟩:=pt_ tk l0_1.length;obtain⟨tM,tP,tv,tw⟩:=dK tA.out tk od_ od_;have tz:=tw;have tx:=tv;obtain rfl:tm=tM:=(by injection tP);replace tv:=cb_ HB tv;replace tw:=cb_ HB tw;obtain⟨tV,tW⟩:=pt_ tk l0_1.length;refine cN (n:=38) (S:=fun w'=>w'.cell? ⟨tB,0,none⟩=some (.string a0_0)∧w'.cell? ⟨tB,1,none⟩=some (.slice (some tm) l0_1.length c0_1)∧w'.cell? (tm.add ((tk).toNat*2))=some (.string ((an l0_1 tk).f0))∧w'.cell? ⟨(tm.add ((tk).toNat*2)).block,(tm.add ((tk).toNat*2)).off+1,none⟩=some (.string ((an l0_1 tk).f1))∧w'.cell? (tm.add ((tk).toNat*2))=some (.string ((an l0_1 tk).f0))∧w'.cell? ⟨(tm.add ((tk).toNat*2)).block,(tm.add ((tk).toNat*2)).off+1,none⟩=some (.string ((an l0_1 tk).f1))) (ds:=[]) (bm_ 38 0) bT rfl rfl ⟨bc_ tl 0,bc_ tl 1,(cc_ HB tr),(cc_ HB tu),(cc_ HB tx),(cc_ HB tz)⟩ (fun hHeld=>?_);refine bu bc.tab4 bc.bits4 (fun HT_ HW_=>?_);generalize wr.drew=uL at tl HB tn tq tv tw hHeld ⊢;refine pv_ 0 11 ?_;refine pv_ 2 13 ?_;refine tv_ 1 12 ?_;refine pv_ 3 14 ?_;refine pv_ 4 15 ?_;refine tv_ 5 16 ?_;refine ov_ 6 17 (fun K hK=>?_);refine oD_ Tryz.func99 (a6.calls k1 ((an l0_1 tk).f0) true _ A5.out) ?_;intro nd;refine hK.out _ _ ⟨bc_ tl 0,bc_ tl 1,(cc_ HB tr),(cc_ HB tu),(cc_ HB tx),(cc_ HB tz)⟩ (fun hHeld=>?_);clear hK K;refine nm_ ?_;refine pv_ 7 18 ?_;refine pv_ 8 19 ?_;refine pv_ 9 20 ?_;refine pv_ 11 22 ?_;refine tv_ 10 21 ?_;refine pv_ 12 23 ?_;refine pv_ 13 24 ?_;refine tv_ 14 25 ?_;refine ov_ 15 26 (fun K hK=>?_);refine oD_ Tryz.func139 (bw.calls k1 ((an l0_1 tk).f1) true _ A7.out) ?_;intro nd;refine hK.out _ _ ⟨bc_ tl 0,bc_ tl 1,(cc_ HB tr),(cc_ HB tu),(cc_ HB tx),(cc_ HB tz)⟩ (fun hHeld=>?_);clear hK K;refine nm_ ?_;refine pv_ 16 27 ?_;refine pv_ 17 28 ?_;refine pv_ 18 29 ?_;refine pv_ 19 30 ?_;refine pv_ 20 31 ?_;refine pv_ 21 32 ?_;refine sv_ 22 33 ?_;refine sv_ 23 34 ?_;refine sv_ 24 35 ?_;refine sv_ 25 36 ?_;refine sv_ 26 37 ?_;refine sv_ 27 38 ?_;refine sv_ 28 39 ?_;refine sv_ 29 40 ?_;refine sv_ 30 41 ?_;refine sv_ 31 42 ?_;refine sv_ 32 43 ?_;refine sv_ 33 44 ?_;refine sv_ 34 45 ?_;refine sv_ 35 46 ?_;refine pv_ 36 47 ?_;refine pv_ 37 48 ?_;refine dn_ HT_ ?_;try go_wp2
       go_roundg k1
       case measure=>have:=HK1.out;omega
       case rel=>exact⟨(wrap64 (tk+1)),u4_,H',⟨dH⟩,⟨pb_ tl⟩,⟨bw_ HB⟩⟩
   ·rw[if_neg c3] at H;have ut:=decide_eq_false c3;clear c3;obtain⟨ux,uA,H⟩:=bi_ H;cases ux
    ·replace H:=hf_ H;obtain rfl:=si_ H;obtain⟨ue,uf,ur,us⟩:=b6 tl.out;go_wp2_with (first | ((with_reducible refine gt_ 51 ?_);refine gD_ 51 Tryz.func99 (a6.calls k1 a0_0 false _ uA.out) ?_;intro nd))
     go_ret
     exact⟨u1_,bw_ HB⟩
    ·replace H:=ht_ H;obtain rfl:=si_ H;obtain⟨uc,ud,uo,uq⟩:=b6 tl.out;go_wp2_with (first | ((with_reducible refine gt_ 51 ?_);refine gD_ 51 Tryz.func99 (a6.calls k1 a0_0 true _ uA.out) ?_;intro nd))
     go_ret
     exact⟨u1_,bw_ HB⟩
def bo.l0:Nat→List (S92)→Int→ByteArray→List (S86)→Option (Bool)
 | 0,_,_,_,_=>none
 | k+1,x0,x5,tl,tk=>if x5<(tk.length:Int) then(if 0≤x5 then((bk.f k x0 ((an tk x5).f0)).bind fun tm=>(if tm<0 then(some false) else(if 0≤tm then(if tm<(x0.length:Int) then((el.f k ((az x0 tm).f0) ((az x0 tm).f1) ((az x0 tm).f2) ((an tk x5).f1)).bind fun tr=>(if tr=true then(bo.l0 k x0 (wrap64 (x5+1)) tl tk) else(some false))) else(none)) else(none)))) else(none)) else((aJ.f k x0).bind fun tn=>(if tn=true then((bc.f k tl tk).bind fun tq=>(some tq)) else(some false)))
def bo.f (k:Nat) (l0:List (S92)) (a1_0:ByteArray) (l1_1:List (S86)):Option (Bool):=bo.l0 k l0 0 a1_0 l1_1
def bo.T5:Bool × List (List Nat × List Nat):=(true,[([],[]),([0],[0]),([1],[1]),([2],[2]),([2],[2]),([3,4,2],[2,3,4]),([5,2],[2,5]),([2],[2]),([7,2],[2,7]),([2],[2]),([8,9,2],[2,8,9]),([10,2],[2,10]),([11,2],[2,11]),([6,12,2,2],[2,6,12]),([13,2],[2,13]),([2,14],[2,14])])
def bo.B5:List Nat:=[0,1,3,7,7,31,63,7,135,7,903,1927,3975,8191,16383,32767]
theorem bo.tab5:dC .any (fk Tryz.f50 5)=bo.T5:=by kernel_rfl
theorem bo.bits5:dc bo.T5.2 bo.B5=true:=by kernel_rfl
theorem bo.calls (k:Nat) (A0:Option Addr) (c0:Nat) (l0:List (S92)) (a1_0:ByteArray) (A1_1:Option Addr) (c1_1:Nat) (l1_1:List (S86)) (r:Bool) (w:World) (hr0:Kd.C k92 w A0 l0.length l0) (hc0:l0.length≤c0) (hr1_1:Kd.C k86 w A1_1 l1_1.length l1_1) (hc1_1:l1_1.length≤c1_1) (h:bo.f k l0 a1_0 l1_1=some r) :
  Calls Tryz.prog 50 #[.slice A0 l0.length c0,.agg #[.string a1_0,.slice A1_1 l1_1.length c1_1]] w fun e w'=>e = .returned (.bool r)∧Below w.heap.size w w':=by
 have hu44:=Tryz.underlying44;have hu92:=Tryz.underlying92;have ZD:=am_ hr0;have tM:=am_ hc0;clear hr0 hc0;have tH:=am_ hr1_1;have tJ:=am_ hc1_1;clear hr1_1 hc1_1;have HB:=am_ (Below.refl w.heap.size w);have H:=h;clear h;unfold bo.f at H
 have H':=am_ H;clear H;go_enter Tryz.func50,Tryz.ntmps50
 go_wp2_with (first | ((with_reducible refine gt_ 3 ?_);refine bx_ 3 #[.string a1_0,.slice A1_1 l1_1.length c1_1] 44 ?_;intro tz hg w3 hbox hb;have tk:=am_ (hbox);have uh:=gw_ HB hg;replace HB:=bs_ HB hb;clear hb hbox hg))
 go_loopg [5] k (fun kq v5 w'=>∃(tl:Int),v5 = .int .i64 tl∧aa (bo.l0 kq l0 tl a1_0 l1_1=some r)∧aa (kq≤k)∧aa (w'.heap[tz]? = some (.cells #[.string a1_0,(.slice A1_1 l1_1.length c1_1)] 44 (0,0)))∧aa (Below w.heap.size w w'))
 case atStart=>exact⟨(0),u4_,H',⟨Nat.le_refl _⟩,⟨pb_ tk⟩,⟨bw_ HB⟩⟩
 case round=>
  clear H';obtain⟨tl,rfl,HA,HK1,tk,HB⟩:=hrel;cases gk with
  | zero=>exact absurd HA.out (by simp[bo.l0])
  | succ k1=>
   have H:=HA.out;clear HA;simp only[bo.l0] at H;by_cases c4:tl<(l1_1.length:Int)
   ·rw[if_pos c4] at H;have tZ:=decide_eq_true c4;clear c4;obtain⟨um,H⟩:=gd_ H;obtain⟨tm,A6,H⟩:=bi_ H;have HC_:=am_ H;clear H;obtain⟨ua,ub,uc,ud⟩:=b6 tk.out;obtain⟨tw,t6,tF,tG⟩:=dK tH.out tl od_ od_;cases t6;replace tF:=cb_ HB tF;replace tG:=cb_ HB tG;obtain⟨un,ur⟩:=pt_ tl l1_1.length;have H:=HC_.out;clear HC_;by_cases c7:tm<0
    ·rw[if_pos c7] at H;have tI:=decide_eq_true c7;clear c7;obtain rfl:=si_ H;(first | rw[tI] | (simp only[aC,aG];rw[tI]) | skip)
     try go_wp2_with (first | ((with_reducible refine gt_ 21 ?_);refine gD_ 21 Tryz.func96 (bk.calls k1 _ _ l0 ((an l1_1 tl).f0) tm _ (kc_ ZD HB) tM.out A6.out) ?_;intro nd))
     (try (rw[lV wr];generalize hq_:World.drewN wr _=wr;have n0_:aa (wr.heap[tz]? = some (.cells #[.string a1_0,.slice (some tw) l1_1.length c1_1] 44 (0,0))):=⟨by rw[← hq_];exact(pb_ tk)⟩;have n1_:aa (Below w.heap.size w wr):=⟨by rw[← hq_];exact(bw_ HB)⟩;clear tk HB hq_;have HB:=n1_;clear n0_ n1_))
     replace HB:=am_ (au HB.out);refine cN (n:=16) (S:=fun w'=>True) (ds:=[]) (bm_ 16 0) bT rfl rfl trivial (fun hHeld=>?_);refine bu bo.tab5 bo.bits5 (fun HT_ HW_=>?_);generalize wr.drew=w9 at HB hHeld ⊢;refine pv_ 0 22 ?_;refine pv_ 1 23 ?_;refine pv_ 2 24 ?_;refine sv_ 3 25 ?_;refine sv_ 4 26 ?_;refine sv_ 5 27 ?_;refine sv_ 6 28 ?_;refine sv_ 7 29 ?_;refine sv_ 8 30 ?_;refine sv_ 9 31 ?_;refine sv_ 10 32 ?_;refine sv_ 11 33 ?_;refine sv_ 12 34 ?_;refine sv_ 13 35 ?_;refine sv_ 14 36 ?_;refine pv_ 15 37 ?_;refine dn_ HT_ ?_;try go_wp2
     go_ret
     exact⟨u1_,bw_ HB⟩
    ·rw[if_neg c7] at H;have tI:=decide_eq_false c7;clear c7;obtain⟨ui,H⟩:=gd_ H;obtain⟨uj,H⟩:=gd_ H;obtain⟨tL,uk,H⟩:=bi_ H;have HC_:=am_ H;clear H;(first | rw[tI] | (simp only[aC,aG];rw[tI]) | skip)
     try go_wp2_with (first | ((with_reducible refine gt_ 21 ?_);refine gD_ 21 Tryz.func96 (bk.calls k1 _ _ l0 ((an l1_1 tl).f0) tm _ (kc_ ZD HB) tM.out A6.out) ?_;intro nd))
     (try (rw[lV wr];generalize hq_:World.drewN wr _=wr;have n0_:aa (wr.heap[tz]? = some (.cells #[.string a1_0,.slice (some tw) l1_1.length c1_1] 44 (0,0))):=⟨by rw[← hq_];exact(pb_ tk)⟩;have n1_:aa (Below w.heap.size w wr):=⟨by rw[← hq_];exact(bw_ HB)⟩;clear tk HB hq_;have tk:=n0_;have HB:=n1_;clear n0_ n1_))
     replace tk:=am_ (bf tk.out);replace HB:=am_ (au HB.out);obtain⟨tx,t7,tn,tq,tr⟩:=jb ZD.out tm od_ od_;have tC:=tr;have tB:=tq;have tA:=tn;cases t7;replace tn:=cb_ HB tn;replace tq:=cb_ HB tq;replace tr:=cb_ HB tr;obtain⟨uo,us⟩:=pt_ tm l0.length;obtain⟨tK,t8,tu,tv⟩:=dK tH.out tl od_ od_;have tE:=tv;have tD:=tu;obtain rfl:tw=tK:=(by injection t8);replace tu:=cb_ HB tu;replace tv:=cb_ HB tv;obtain⟨uq,ut⟩:=pt_ tl l1_1.length;refine cN (n:=16) (S:=fun w'=>w'.cell? ⟨tz,0,none⟩=some (.string a1_0)∧w'.cell? ⟨tz,1,none⟩=some (.slice (some tw) l1_1.length c1_1)∧w'.cell? (tx.add ((tm).toNat*3))=some (.string ((az l0 tm).f0))∧w'.cell? ⟨(tx.add ((tm).toNat*3)).block,(tx.add ((tm).toNat*3)).off+1,none⟩=some (.int .i64 ((az l0 tm).f1))∧w'.cell? ⟨(tx.add ((tm).toNat*3)).block,(tx.add ((tm).toNat*3)).off+2,none⟩=some (.int .i64 ((az l0 tm).f2))∧w'.cell? (tw.add ((tl).toNat*2))=some (.string ((an l1_1 tl).f0))∧w'.cell? ⟨(tw.add ((tl).toNat*2)).block,(tw.add ((tl).toNat*2)).off+1,none⟩=some (.string ((an l1_1 tl).f1))) (ds:=[]) (bm_ 16 0) bT rfl rfl ⟨bc_ tk 0,bc_ tk 1,(cc_ HB tA),(cc_ HB tB),(cc_ HB tC),(cc_ HB tD),(cc_ HB tE)⟩ (fun hHeld=>?_);refine bu bo.tab5 bo.bits5 (fun HT_ HW_=>?_);generalize wr.drew=uu at tk HB tn tq tr tu tv hHeld ⊢;refine pv_ 0 22 ?_;refine pv_ 1 23 ?_;refine pv_ 2 24 ?_;refine pv_ 3 25 ?_;refine pv_ 4 26 ?_;refine pv_ 5 27 ?_;refine pv_ 7 29 ?_;refine pv_ 9 31 ?_;refine tv_ 6 28 ?_;refine tv_ 8 30 ?_;refine pv_ 10 32 ?_;refine pv_ 11 33 ?_;refine tv_ 12 34 ?_;refine ov_ 13 35 (fun K hK=>?_);refine oB_ Tryz.func97 (el.calls k1 ((az l0 tm).f0) ((az l0 tm).f1) ((az l0 tm).f2) ((an l1_1 tl).f1) tL _ uk.out) ?_;intro uv hb;replace tk:=bb_ tk hb;replace HB:=bs_ HB hb;(try clear hb)
     refine hK.out _ _ ⟨bc_ tk 0,bc_ tk 1,(cc_ HB tA),(cc_ HB tB),(cc_ HB tC),(cc_ HB tD),(cc_ HB tE)⟩ (fun hHeld=>?_);clear hK K;refine nm_ ?_;refine pv_ 14 36 ?_;refine pv_ 15 37 ?_;refine dn_ HT_ ?_;have H:=HC_.out;clear HC_;cases tL
     ·replace H:=hf_ H;obtain rfl:=si_ H;try go_wp2
      go_ret
      exact⟨u1_,bw_ HB⟩
     ·replace H:=ht_ H;have H':=am_ H;clear H;try go_wp2
      go_roundg k1
      case measure=>have:=HK1.out;omega
      case rel=>exact⟨(wrap64 (tl+1)),u4_,H',⟨dH⟩,⟨pb_ tk⟩,⟨bw_ HB⟩⟩
   ·rw[if_neg c4] at H;have tZ:=decide_eq_false c4;clear c4;obtain⟨ue,ug,H⟩:=bi_ H;cases ue
    ·replace H:=hf_ H;obtain rfl:=si_ H;obtain⟨tR,tS,tX,tY⟩:=b6 tk.out;go_wp2_with (first | ((with_reducible refine gt_ 39 ?_);refine gB_ 39 Tryz.func53 (aJ.calls k1 _ _ l0 false _ (kc_ ZD HB) tM.out ug.out) ?_;intro uy hb;replace HB:=bs_ HB hb;(try clear hb)))
     go_ret
     exact⟨u1_,bw_ HB⟩
    ·replace H:=ht_ H;obtain⟨uf,ul,H⟩:=bi_ H;obtain rfl:=si_ H;obtain⟨tN,tO,tT,tU⟩:=b6 tk.out;go_wp2_with (first | ((with_reducible refine gt_ 39 ?_);refine gB_ 39 Tryz.func53 (aJ.calls k1 _ _ l0 true _ (kc_ ZD HB) tM.out ug.out) ?_;intro uw hb;replace tk:=bb_ tk hb;replace HB:=bs_ HB hb;(try clear hb);obtain⟨tP,tQ,tV,tW⟩:=b6 tk.out)|(go_at_call 98;(with_reducible refine(bc.calls k1 a1_0 _ _ l1_1 uf _ (kc_ tH HB) tJ.out ul.out).mono ?_);rintro e ux ⟨rfl,hb⟩;replace HB:=bs_ HB hb;(try clear hb)))
     go_ret
     exact⟨u1_,bw_ HB⟩
def cw.l0:Nat→List (S46)→ByteArray→Int→Option (Int)
 | 0,_,_,_=>none
 | k+1,x0,x1,x5=>if x5<(x0.length:Int) then(if 0≤x5 then(if((ah x0 x5).f1.f0).toList=x1.toList then(some x5) else(cw.l0 k x0 x1 (wrap64 (x5+1)))) else(none)) else(some (-1))
def cw.f (k:Nat) (l0:List (S46)) (a1:ByteArray):Option (Int):=cw.l0 k l0 a1 0
theorem cw.calls (k:Nat) (A0:Option Addr) (c0:Nat) (l0:List (S46)) (a1:ByteArray) (r:Int) (w:World) (hr0:Kd.C k46 w A0 l0.length l0) (hc0:l0.length≤c0) (h:cw.f k l0 a1=some r) :
  Calls Tryz.prog 51 #[.slice A0 l0.length c0,.string a1] w fun e w'=>e = .returned (.int .i64 r)∧Drawn0 w w':=by
 have ZD:=am_ hr0;have tH:=am_ hc0;clear hr0 hc0;have H:=h;clear h;unfold cw.f at H
 have H':=am_ H;clear H;go_enter Tryz.func51,Tryz.ntmps51
 go_wp2;go_loopg [5] k (fun kq v5 w'=>∃(tk:Int),v5 = .int .i64 tk∧aa (cw.l0 kq l0 a1 tk=some r)∧aa (kq≤k)∧Drawn0 w w')
 case atStart=>exact⟨(0),u4_,H',⟨Nat.le_refl _⟩,u7_⟩
 case round=>
  clear H';obtain⟨tk,rfl,HA,HK1,⟨m1,rfl⟩⟩:=hrel;cases gk with
  | zero=>exact absurd HA.out (by simp[cw.l0])
  | succ k1=>
   have H:=HA.out;clear HA;simp only[cw.l0] at H;by_cases c3:tk<(l0.length:Int)
   ·rw[if_pos c3] at H;have tz:=decide_eq_true c3;clear c3;obtain⟨tE,H⟩:=gd_ H;have HC_:=am_ H;clear H;obtain⟨tD,tx,tB,tC,tu,tv,tw,tm,tl⟩:=fB ZD.out tk od_ od_;cases tC;have tr:=am_ tl;have tq:=am_ tm;clear tl tm;obtain⟨tF,tG⟩:=pt_ tk l0.length;have H:=HC_.out;clear HC_;by_cases c5:((ah l0 tk).f1.f0).toList=a1.toList
    ·rw[if_pos c5] at H;have tn:=cW c5;have tA:=cX c5;clear c5;obtain rfl:=si_ H;(first | rw[tn] | (simp only[aC,aG];rw[tn]) | skip)
     go_wp2;go_ret
     exact⟨u9_,u7_⟩
    ·rw[if_neg c5] at H;have tn:=cO c5;have tA:=cQ c5;have H':=am_ H;clear H;(first | rw[tn] | (simp only[aC,aG];rw[tn]) | skip)
     go_wp2;go_roundg k1
     case measure=>have:=HK1.out;omega
     case rel=>exact⟨(wrap64 (tk+1)),u4_,H',⟨dH⟩,u7_⟩
   ·rw[if_neg c3] at H;have tz:=decide_eq_false c3;clear c3;obtain rfl:=si_ H;go_wp2;go_ret
    exact⟨u9_,u7_⟩
def cB.l0:Nat→List Int→List Int→Int→Option (Bool)
 | 0,_,_,_=>none
 | k+1,x0,x1,x5=>if x5<(x0.length:Int) then(if 0≤x5 then(if x5<(x1.length:Int) then(if(rd x0 x5)=(rd x1 x5) then(cB.l0 k x0 x1 (wrap64 (x5+1))) else(some false)) else(none)) else(none)) else(some true)
def cB.f (k:Nat) (l0:List Int) (l1:List Int):Option (Bool):=if(l0.length:Int)=(l1.length:Int) then(cB.l0 k l0 l1 0) else(some false)
theorem cB.calls (k:Nat) (A0:Option Addr) (c0:Nat) (l0:List Int) (A1:Option Addr) (c1:Nat) (l1:List Int) (r:Bool) (w:World) (hr0:Kd.C (Kd.int .i64) w A0 l0.length l0) (hc0:l0.length≤c0) (hr1:Kd.C (Kd.int .i64) w A1 l1.length l1) (hc1:l1.length≤c1) (h:cB.f k l0 l1=some r) :
  Calls Tryz.prog 100 #[.slice A0 l0.length c0,.slice A1 l1.length c1] w fun e w'=>e = .returned (.bool r)∧Drawn0 w w':=by
 have ZD:=am_ hr0;have tI:=am_ hc0;clear hr0 hc0;have Zc:=am_ hr1;have tJ:=am_ hc1;clear hr1 hc1;have H:=h;clear h;unfold cB.f at H
 by_cases c3:(l0.length:Int)=(l1.length:Int)
 ·rw[if_pos c3] at H;have tm:=cW c3;have tn:=cX c3;have tq:(l0.length == l1.length)=true:=by first | simpa using c3 | (simp at c3 ⊢;omega)
  clear c3;have H':=am_ H;clear H;go_enter Tryz.func100,Tryz.ntmps100
  go_wp2;repeat (go_quiet (fail);try go_wp2)
  go_loopg [5] k (fun kq v5 w'=>∃(tk:Int),v5 = .int .i64 tk∧aa (cB.l0 kq l0 l1 tk=some r)∧aa (kq≤k)∧Drawn0 w w')
  case atStart=>exact⟨(0),u4_,H',⟨Nat.le_refl _⟩,u7_⟩
  case round=>
   clear H';try clear c1
   try clear c3
   try clear tm
   try clear tn
   try clear tq
   obtain⟨tk,rfl,HA,HK1,⟨m1,rfl⟩⟩:=hrel;cases gk with
   | zero=>exact absurd HA.out (by simp[cB.l0])
   | succ k1=>
    have H:=HA.out;clear HA;simp only[cB.l0] at H;by_cases c4:tk<(l0.length:Int)
    ·rw[if_pos c4] at H;have tv:=decide_eq_true c4;clear c4;obtain⟨tC,H⟩:=gd_ H;obtain⟨tD,H⟩:=gd_ H;have HC_:=am_ H;clear H;obtain⟨tA,tx,tr⟩:=Kd.at_int ZD.out tk od_ od_;cases tx;obtain⟨tE,tG⟩:=pt_ tk l0.length;obtain⟨tB,tz,tu⟩:=Kd.at_int Zc.out tk od_ od_;cases tz;obtain⟨tF,tH⟩:=pt_ tk l1.length;have H:=HC_.out;clear HC_;by_cases c7:(rd l0 tk)=(rd l1 tk)
     ·rw[if_pos c7] at H;have tl:=cW c7;have tw:=cX c7;clear c7;have H':=am_ H;clear H;(first | rw[tl] | (simp only[aC,aG];rw[tl]) | skip)
      go_wp2;repeat (go_quiet (fail);try go_wp2)
      go_roundg k1
      case measure=>have:=HK1.out;omega
      case rel=>exact⟨(wrap64 (tk+1)),u4_,H',⟨dH⟩,u7_⟩
     ·rw[if_neg c7] at H;have tl:=cO c7;have tw:=cQ c7;obtain rfl:=si_ H;(first | rw[tl] | (simp only[aC,aG];rw[tl]) | skip)
      go_wp2;repeat (go_quiet (fail);try go_wp2)
      go_ret
      exact⟨u9_,u7_⟩
    ·rw[if_neg c4] at H;have tv:=decide_eq_false c4;clear c4;obtain rfl:=si_ H;go_wp2;repeat (go_quiet (fail);try go_wp2)
     go_ret
     exact⟨u9_,u7_⟩
 ·rw[if_neg c3] at H;have tm:=cO c3;have tn:=cQ c3;have tq:(l0.length == l1.length)=false:=by first | simpa using c3 | (simp at c3 ⊢;omega)
  obtain rfl:=si_ H;go_enter Tryz.func100,Tryz.ntmps100
  go_wp2;repeat (go_quiet (fail);try go_wp2)
  go_ret
  exact⟨u9_,u7_⟩
section
open Go Go.RowKit Go.Proofs.YtnjjdojonflckaaGreatDoorW.PrintWords Go.Proofs.YtnjjdojonflckaaGreatDoorW.PrintLast Go.Proofs.YtnjjdojonflckaaGreatDoorW.PrintMore
def bd.ps (k:Nat):List S50→List S50→Option Bool
 | p :: ps,q :: qs=>if p.f0=q.f0 then(cB.f k p.f1 q.f1).bind fun b=>if b=true then bd.ps k ps qs else some false else some false
 | _,_=>some true
def bd.es (k:Nat):List S76→List S76→Option Bool
 | x :: xs,y :: ys=>if x.f0.toList=y.f0.toList then if x.f1.toList=y.f1.toList then if x.f2.length=y.f2.length then(bd.ps k x.f2 y.f2).bind fun b=>if b=true then bd.es k xs ys else some false else some false else some false else some false
 | _,_=>some true
def bd.f (k:Nat) (l0 l1:List S76):Option Bool:=if l0.length=l1.length then bd.es k l0 l1 else some false
theorem bd.rd76 {xs:List S76} {i:Nat} (h:i<xs.length):aj xs (i:Int)=xs[i]:=by unfold aj;simp[List.getD_eq_getElem?_getD,List.getElem?_eq_getElem h]
theorem bd.rd50 {xs:List S50} {i:Nat} (h:i<xs.length):aT xs (i:Int)=xs[i]:=by unfold aT;simp[List.getD_eq_getElem?_getD,List.getElem?_eq_getElem h]
theorem bd.calls (k:Nat) (A0:Option Addr) (c0:Nat) (l0:List (S76)) (A1:Option Addr) (c1:Nat) (l1:List (S76)) (r:Bool) (w:World) (hr0:Kd.C k76 w A0 l0.length l0) (hc0:l0.length≤c0) (hr1:Kd.C k76 w A1 l1.length l1) (hc1:l1.length≤c1) (h:bd.f k l0 l1=some r) :
  Calls Tryz.prog 54 #[.slice A0 l0.length c0,.slice A1 l1.length c1] w fun e w'=>e = .returned (.bool r)∧Below w.heap.size w w':=by
 have hlen:=hr0.2.1;have HB:=am_ (Below.refl w.heap.size w);have ZD:=am_ hr0;have Zc:=am_ hr1;unfold bd.f at h
 clear hr0 hr1;by_cases hl:l0.length=l1.length
 ·rw[if_pos hl] at h;have H:=am_ h;have HL:=am_ hl;have hlb:((l0.length:Int) != (l1.length:Int))=false:=by rw[hl];simp
  clear h hl;go_enter Tryz.func54,Tryz.ntmps54
  go_wp2;go_loopw [5] (fun v5 wr=>∃i:Nat,v5 = .int .i64 (i:Int)∧i≤l0.length∧aa (bd.es k (l0.drop i) (l1.drop i)=some r)∧aa (Below w.heap.size w wr)) (fun v _=>match v with | .int _ i=>l0.length - i.toNat | _=>0)
  case atStart=>exact⟨0,rfl,Nat.zero_le _,H,HB⟩
  case round=>
   clear H HB;obtain⟨i,rfl,hi,H,HB⟩:=hrel;rcases Nat.lt_or_ge i l0.length with hlt | hge
   ·have hlt1:i<l1.length:=by rw[← HL.out];exact hlt
    obtain⟨ad,Ap,cp,e,tk,tl,tm,_,hpc⟩:=eB (Kd.C_below ZD.out HB.out) (i:Int) aw aw;obtain⟨ae,Aq,cq,e',tn,tq,tr,_,hqc⟩:=eB (Kd.C_below Zc.out HB.out) (i:Int) aw aw;subst e;subst e';rw[bd.rd76 hlt] at tk tl tm hpc;rw[bd.rd76 hlt1] at tn tq tr hqc;simp only[Int.toNat_natCast] at tk tl tm tn tq tr;have h:=H.out;rw[List.drop_eq_getElem_cons hlt,List.drop_eq_getElem_cons hlt1,bd.es] at h;generalize l0[i] = x at tk tl tm hpc h;generalize l1[i] = y at tn tq tr hqc h;have p1:((i:Int)<(l0.length:Int))=True:=eq_true aw;have p2:((i:Int)<(l1.length:Int))=True:=eq_true aw;have p0:(0≤(i:Int))=True:=eq_true aw;have hplen:=hpc.2.1;have HPC:=am_ hpc;have HQC:=am_ hqc;clear hpc hqc H;by_cases h0:x.f0.toList=y.f0.toList
    ·rw[if_pos h0] at h;have b0:(x.f0.toList == y.f0.toList)=true:=by simpa using h0
     have b0':(x.f0.toList != y.f0.toList)=false:=by simpa using h0
     by_cases h1:x.f1.toList=y.f1.toList
     ·rw[if_pos h1] at h;have b1:(x.f1.toList == y.f1.toList)=true:=by simpa using h1
      have b1':(x.f1.toList != y.f1.toList)=false:=by simpa using h1
      by_cases h2:x.f2.length=y.f2.length
      ·rw[if_pos h2] at h;have H2:=am_ h2;have H:=am_ h;have b2:((x.f2.length:Int) != (y.f2.length:Int))=false:=by rw[h2];simp
       clear h h0 h1 h2;go_wp2;go_quiet (fail)
       replace HB:=am_ (al HB.out nq);have HW:aa (Below wr.heap.size wr (wr.drewN nq)):=am_ (al (Below.refl _ _) nq);generalize wr.drewN nq=w5 at HB HW ⊢;go_wp2;go_loopw [6] (fun v6 ws=>∃j:Nat,v6 = .int .i64 (j:Int)∧j≤x.f2.length∧aa (((bd.ps k (x.f2.drop j) (y.f2.drop j)).bind fun b=>if b=true then bd.es k (l0.drop (i+1)) (l1.drop (i+1)) else some false)=some r)∧aa (Below w.heap.size w ws)∧aa (Below wr.heap.size wr ws)) (fun v _=>match v with | .int _ j=>x.f2.length - j.toNat | _=>0)
       case atStart=>exact⟨0,rfl,Nat.zero_le _,H,HB,HW⟩
       case round=>
        clear H HB HW;obtain⟨j,rfl,hj,H,HB,HW⟩:=hrel;have cx0:=ai HW.out tk;have cx1:=ai HW.out tl;have cx2:=ai HW.out tm;have cy0:=ai HW.out tn;have cy1:=ai HW.out tq;have cy2:=ai HW.out tr;have hj0:(0≤(j:Int))=True:=eq_true aw;rcases Nat.lt_or_ge j x.f2.length with hjl | hjg
        ·have hjl1:j<y.f2.length:=by rw[← H2.out];exact hjl
         have q1:((j:Int)<(x.f2.length:Int))=True:=eq_true aw;have q2:((j:Int)<(y.f2.length:Int))=True:=eq_true aw;obtain⟨af,Ai,ci,e,hu0,hu1,hui,huc⟩:=kj (Kd.C_below HPC.out HW.out) (j:Int) aw aw;subst e;obtain⟨ag,Aj,cj,e,hv0,hv1,hvi,hvc⟩:=kj (Kd.C_below HQC.out HW.out) (j:Int) aw aw;subst e;rw[bd.rd50 hjl] at hu0 hu1 hui huc;rw[bd.rd50 hjl1] at hv0 hv1 hvi hvc;simp only[Int.toNat_natCast] at hu0 hu1 hv0 hv1;have h:=H.out;rw[List.drop_eq_getElem_cons hjl,List.drop_eq_getElem_cons hjl1,bd.ps] at h;generalize x.f2[j] = p at hu0 hu1 hui huc h;generalize y.f2[j] = q at hv0 hv1 hvi hvc h;by_cases hd:p.f0=q.f0
         ·have hdb:(p.f0 != q.f0)=false:=by rw[hd];simp
          have hdb':(p.f0 == q.f0)=true:=by rw[hd];simp
          rw[if_pos hd] at h;rw[Option.bind_assoc] at h;obtain⟨b,hb,h⟩:=Option.bind_eq_some_iff.1 h;clear hd H;go_wp2;go_quiet ((go_at_call 100;exact Calls.quiet_of ((cB.calls k _ _ _ _ _ _ b _ (Kd.C_drewN huc _) hui (Kd.C_drewN hvc _) hvi hb).mono fun e w' ⟨he,hw⟩=>⟨he,hw.out⟩)))
          cases b with
          | true=>
           rw[if_pos rfl] at h;go_wp2;go_roundw
           case rel=>exact⟨j+1,fz,hjl,⟨h⟩,⟨al HB.out nq⟩,⟨al HW.out nq⟩⟩
           case measure=>(simp;omega)
          | false=>
           simp at h
           obtain rfl:=h;go_wp2;go_ret
           exact⟨rfl,al HB.out nq⟩
         ·rw[if_neg hd] at h;simp at h
          obtain rfl:=h;have hdb:(p.f0 != q.f0)=true:=bne_iff_ne.2 hd;have hdb':(p.f0 == q.f0)=false:=by simpa using hd
          clear hd H;go_wp2;go_quiet (fail)
          go_wp2;go_ret
          exact⟨rfl,al HB.out _⟩
        ·obtain rfl:j=x.f2.length:=by omega
         have h:=H.out;have q1:(((x.f2.length:Nat):Int)<(x.f2.length:Int))=False:=eq_false aw;rw[List.drop_eq_nil_of_le (Nat.le_refl _),bd.ps] at h
         ·simp only[Option.bind_some,if_true] at h;clear H;go_wp2;go_roundw
          case rel=>exact⟨i+1,fz,hlt,⟨h⟩,HB⟩
          case measure=>(simp;omega)
         ·intro _ _ _ _ he;cases he
      ·rw[if_neg h2] at h;obtain rfl:=Option.some.inj h;have b2:((x.f2.length:Int) != (y.f2.length:Int))=true:=bne_iff_ne.2 aw;clear h h0 h1 h2;go_wp2;go_quiet (fail)
       go_wp2;go_ret
       exact⟨rfl,al HB.out _⟩
     ·rw[if_neg h1] at h;obtain rfl:=Option.some.inj h;have b1:(x.f1.toList == y.f1.toList)=false:=by simpa using h1
      have b1':(x.f1.toList != y.f1.toList)=true:=by simpa using h1
      clear h h0 h1;go_wp2;go_quiet (fail)
      go_wp2;go_ret
      exact⟨rfl,al HB.out _⟩
    ·rw[if_neg h0] at h;obtain rfl:=Option.some.inj h;have b0:(x.f0.toList == y.f0.toList)=false:=by simpa using h0
     have b0':(x.f0.toList != y.f0.toList)=true:=by simpa using h0
     clear h h0;go_wp2;go_quiet (fail)
     go_wp2;go_ret
     exact⟨rfl,al HB.out _⟩
   ·obtain rfl:i=l0.length:=by omega
    have h:=H.out;rw[List.drop_eq_nil_of_le (Nat.le_refl _),bd.es] at h
    ·obtain rfl:=Option.some.inj h;have p1:(((l0.length:Nat):Int)<(l0.length:Int))=False:=eq_false aw;clear h H;go_wp2;go_ret
     exact⟨rfl,HB.out⟩
    ·intro _ _ _ _ he;cases he
 ·rw[if_neg hl] at h;obtain rfl:=Option.some.inj h;have hlb:((l0.length:Int) != (l1.length:Int))=true:=bne_iff_ne.2 aw;clear h hl;go_enter Tryz.func54,Tryz.ntmps54
  go_wp2;go_ret
  exact⟨rfl,HB.out⟩
end
def ay.l0:Nat→Int→List (S92)→List (S46)→List (S76)→Int→Option (Bool)
 | 0,_,_,_,_,_=>none
 | k+1,x3,tl,tk,tn,tm=>if x3<(tk.length:Int) then(if 0≤x3 then((bo.f k tl ((ah tk x3).f1.f0) ((ah tk x3).f1.f1)).bind fun tq=>(if tq=true then((cw.f k tk ((ah tk x3).f1.f0)).bind fun tr=>(if tr=x3 then((ck.f ((ah tk x3).f0) 0 (wrap64 (tm - 1))).bind fun tu=>(if tu=true then(if x3>0 then(if 0≤(wrap64 (x3 - 1)) then(if(wrap64 (x3 - 1))<(tk.length:Int) then(if((ah tk (wrap64 (x3 - 1))).f0)≥((ah tk x3).f0) then(some false) else(ay.l0 k (wrap64 (x3+1)) tl tk tn tm)) else(none)) else(none)) else(ay.l0 k (wrap64 (x3+1)) tl tk tn tm)) else(some false))) else(some false))) else(some false))) else(none)) else((aJ.f k tl).bind fun tv=>(if tv=true then(if(tk.length:Int)≤8 then((ck.f tm 0 999999999).bind fun tw=>(if tw=true then((bn.f k tl tk).bind fun tx=>((bd.f k tx tn).bind fun tz=>(some tz))) else(some false))) else(some false)) else(some false)))
def ay.f (k:Nat) (l0_0:List (S92)) (l0_1:List (S46)) (l0_2:List (S76)) (a0_3:Int):Option (Bool):=ay.l0 k 0 l0_0 l0_1 l0_2 a0_3
def ay.T5:Bool × List (List Nat × List Nat):=(true,[([],[]),([0],[0]),([],[]),([2],[2]),([1,3],[1,3]),([4],[4]),([5,4],[5]),([6],[6]),([7,6],[6,7]),([6],[6]),([9,6],[6,9]),([10,6],[6,10]),([8,11,6,6],[6,8,11]),([6],[6]),([12,13,6],[6,12,13]),([6,14],[6,14]),([15,12],[15]),([16],[16]),([17,16],[16,17]),([16],[16]),([19,16],[16,19]),([20,16],[16,20]),([18,21,16,16],[16,18,21]),([22,16],[16,22]),([16,23],[16,23]),([24,22],[24]),([25],[25]),([26,25],[25,26]),([27,25,25],[25,27]),([28],[28]),([29,28],[28,29]),([28],[28]),([31,28],[28,31]),([30,32,28],[28,30,32]),([33,28],[28,33]),([34,28],[28,34]),([28],[28]),([36,28],[28,36]),([35,37,28],[28,35,37]),([28,38,25],[25,28,38]),([25,39],[25,39])])
def ay.B5:List Nat:=[0,1,0,4,15,31,63,127,255,127,639,1663,4095,127,16383,32767,65535,131071,262143,131071,655359,1703935,4194303,8388607,16777215,33554431,67108863,134217727,268435455,536870911,1073741823,536870911,2684354559,8589934591,17179869183,34359738367,536870911,69256347647,274877906943,549755813887,1099511627775]
theorem ay.tab5:dC .any (fk Tryz.f18 5)=ay.T5:=by kernel_rfl
theorem ay.bits5:dc ay.T5.2 ay.B5=true:=by kernel_rfl
def ay.T7:Bool × List (List Nat × List Nat):=(true,[([],[]),([0],[0]),([1],[1]),([2,2],[2]),([3],[3]),([4,3],[3,4]),([5,3],[3,5]),([6,3],[3,6]),([3,7],[3,7]),([8,3],[8]),([9],[9]),([10,9],[9,10]),([11,9,9],[9,11]),([9,12],[9,12]),([13,12],[13]),([14],[14]),([15,14],[14,15]),([14],[14]),([17,14],[14,17]),([16,18,14,14],[14,16,18]),([14],[14]),([20,14],[14,20]),([19,21,19,14],[14,19,21]),([14,22],[14,22]),([23,22,0,1,2,3,4,5,6,7,8,9,10,11,12,13,14,15,16,17,18,19,20,21,22,23],[23])])
def ay.B7:List Nat:=[0,1,3,7,15,31,63,127,255,511,1023,2047,4095,8191,16383,32767,65535,32767,163839,524287,32767,1081343,4194303,8388607,16777215]
theorem ay.tab7:dC .any (fk Tryz.f18 7)=ay.T7:=by kernel_rfl
theorem ay.bits7:dc ay.T7.2 ay.B7=true:=by kernel_rfl
theorem ay.calls (k:Nat) (A0_0:Option Addr) (c0_0:Nat) (l0_0:List (S92)) (A0_1:Option Addr) (c0_1:Nat) (l0_1:List (S46)) (A0_2:Option Addr) (c0_2:Nat) (l0_2:List (S76)) (a0_3:Int) (r:Bool) (w:World) (hr0_0:Kd.C k92 w A0_0 l0_0.length l0_0) (hc0_0:l0_0.length≤c0_0) (hr0_1:Kd.C k46 w A0_1 l0_1.length l0_1) (hc0_1:l0_1.length≤c0_1) (hr0_2:Kd.C k76 w A0_2 l0_2.length l0_2) (hc0_2:l0_2.length≤c0_2) (h:ay.f k l0_0 l0_1 l0_2 a0_3=some r) :
  Calls Tryz.prog 18 #[.agg #[.slice A0_0 l0_0.length c0_0,.slice A0_1 l0_1.length c0_1,.slice A0_2 l0_2.length c0_2,.int .i64 a0_3]] w fun e w'=>e = .returned (.bool r)∧Below w.heap.size w w':=by
 have hu27:=Tryz.underlying27;have hu46:=Tryz.underlying46;have hu44:=Tryz.underlying44;have tJ:=am_ hr0_0;have tI:=am_ hc0_0;clear hr0_0 hc0_0;have tK:=am_ hr0_1;have tL:=am_ hc0_1;clear hr0_1 hc0_1;have ue:=am_ hr0_2;have ud:=am_ hc0_2;clear hr0_2 hc0_2;have HB:=am_ (Below.refl w.heap.size w);have H:=h;clear h;unfold ay.f at H
 have H':=am_ H;clear H;go_enter Tryz.func18,Tryz.ntmps18
 go_wp2_with (first | ((with_reducible refine aA (N:=1) rfl ?_);(try (refine bj ct ?_;dsimp only));refine bF ?hg (N:=1) ?hd (cs:=#[.slice A0_0 l0_0.length c0_0,.slice A0_1 l0_1.length c0_1,.slice A0_2 l0_2.length c0_2,.int .i64 a0_3]) (t:=27) ?hr ?_;(case hd=>rfl);(case hg=>rfl);(case hr=>exact bL);intro tq hg w2 hbox hb;have tk:=am_ (hbox);have vy:=gw_ HB hg;replace HB:=bs_ HB hb;clear hb hbox hg))
 go_loopg [3] k (fun kq v3 w'=>∃(tm:Int),v3 = .int .i64 tm∧aa (ay.l0 kq tm l0_0 l0_1 l0_2 a0_3=some r)∧aa (kq≤k)∧aa (w'.heap[tq]? = some (.cells #[(.slice A0_0 l0_0.length c0_0),(.slice A0_1 l0_1.length c0_1),(.slice A0_2 l0_2.length c0_2),.int .i64 a0_3] 27 (0,0)))∧aa (Below w.heap.size w w'))
 case atStart=>exact⟨(0),u4_,H',⟨Nat.le_refl _⟩,⟨pb_ tk⟩,⟨bw_ HB⟩⟩
 case round=>
  clear H';obtain⟨tm,rfl,HA,HK1,tk,HB⟩:=hrel;cases gk with
  | zero=>exact absurd HA.out (by simp[ay.l0])
  | succ k1=>
   have H:=HA.out;clear HA;simp only[ay.l0] at H;by_cases c3:tm<(l0_1.length:Int)
   ·rw[if_pos c3] at H;have vp:=decide_eq_true c3;clear c3;obtain⟨vU,H⟩:=gd_ H;obtain⟨vv,A5,H⟩:=bi_ H;have HC_:=am_ H;clear H;obtain⟨uz,uA,uB,uC,uW,uX,uY,uZ⟩:=dx tk.out;obtain⟨tx,tv,tw,vr,tU,tV,tW,tS,tQ⟩:=fB tK.out tm od_ od_;cases vr;replace tU:=cb_ HB tU;replace tV:=cb_ HB tV;replace tW:=cb_ HB tW;have tB:=am_ tQ;have tA:=am_ tS;clear tQ tS;obtain⟨vW,vY⟩:=pt_ tm l0_1.length;have H:=HC_.out;clear HC_;cases vv
    ·replace H:=hf_ H;obtain rfl:=si_ H;try go_wp2_with (first | ((with_reducible refine aA (N:=4) rfl ?_);(try (refine bj ct ?_;dsimp only));refine bF ?hg (N:=4) ?hd (cs:=#[.int .i64 0,.string (⟨#[]⟩:ByteArray),.slice none 0 0]) (t:=46) ?hr ?_;(case hd=>rfl);(case hg=>rfl);(case hr=>exact bL);intro tn hg wl hbox hb;have tl:=am_ (hbox);have tP:=gw_ HB hg;replace HB:=bs_ HB hb;have tr:=nl_ tk hg;have tu:=ng_ tk hg;replace tk:=bb_ tk hb;clear hb hbox hg;have vH:=tu.out;have vN:=tr.out;obtain⟨uD,uE,uF,u6,u9,vk⟩:=dm tl.out))
     generalize hW_:(((wl.setCell ⟨tn,0,none⟩ (.int .i64 ((ah l0_1 tm).f0))).setCell ⟨tn,1,none⟩ (.string ((ah l0_1 tm).f1.f0))).setCell ⟨tn,2,none⟩ (.slice tv ((ah l0_1 tm).f1.f1).length tw))=wm;replace tk:=gk_ hW_ #[.slice A0_0 l0_0.length c0_0,.slice (some tx) l0_1.length c0_1,.slice A0_2 l0_2.length c0_2,.int .i64 a0_3] tk;replace tl:=gk_ hW_ #[.int .i64 ((ah l0_1 tm).f0),.string ((ah l0_1 tm).f1.f0),.slice tv ((ah l0_1 tm).f1.f1).length tw] tl;replace HB:=gb_ hW_ HB;clear hW_;replace tk:=am_ (bf tk.out);replace tl:=am_ (bf tl.out);replace HB:=am_ (au HB.out);refine cN (n:=41) (S:=fun w'=>w'.cell? ⟨tq,0,none⟩=some (.slice A0_0 l0_0.length c0_0)∧w'.cell? ⟨tq,1,none⟩=some (.slice (some tx) l0_1.length c0_1)∧w'.cell? ⟨tq,2,none⟩=some (.slice A0_2 l0_2.length c0_2)∧w'.cell? ⟨tq,3,none⟩=some (.int .i64 a0_3)∧w'.cell? ⟨tn,0,none⟩=some (.int .i64 ((ah l0_1 tm).f0))∧w'.cell? ⟨tn,1,none⟩=some (.string ((ah l0_1 tm).f1.f0))∧w'.cell? ⟨tn,2,none⟩=some (.slice tv ((ah l0_1 tm).f1.f1).length tw)) (ds:=[]) (bm_ 41 0) bT rfl rfl ⟨bc_ tk 0,bc_ tk 1,bc_ tk 2,bc_ tk 3,bc_ tl 0,bc_ tl 1,bc_ tl 2⟩ (fun hHeld=>?_);refine bu ay.tab5 ay.bits5 (fun HT_ HW_=>?_);generalize wm.drew=wA at tk tl HB hHeld ⊢;refine pv_ 0 17 ?_;refine pv_ 2 19 ?_;refine tv_ 1 18 ?_;refine tv_ 3 20 ?_;refine ov_ 4 21 (fun K hK=>?_);refine oB_ Tryz.func50 (bo.calls k1 _ _ l0_0 ((ah l0_1 tm).f1.f0) _ _ ((ah l0_1 tm).f1.f1) false _ (kc_ tJ HB) tI.out (kc_ tB HB) tA.out A5.out) ?_;intro wC hb;replace tk:=bb_ tk hb;replace tl:=bb_ tl hb;replace HB:=bs_ HB hb;(try clear hb)
     refine hK.out _ _ ⟨bc_ tk 0,bc_ tk 1,bc_ tk 2,bc_ tk 3,bc_ tl 0,bc_ tl 1,bc_ tl 2⟩ (fun hHeld=>?_);clear hK K;refine nm_ ?_;refine pv_ 5 22 ?_;refine pv_ 6 23 ?_;refine sv_ 7 24 ?_;refine sv_ 8 25 ?_;refine sv_ 9 26 ?_;refine sv_ 10 27 ?_;refine sv_ 11 28 ?_;refine sv_ 12 29 ?_;refine sv_ 13 30 ?_;refine sv_ 14 31 ?_;refine pv_ 15 32 ?_;refine pv_ 16 33 ?_;refine sv_ 17 34 ?_;refine sv_ 18 35 ?_;refine sv_ 19 36 ?_;refine sv_ 20 37 ?_;refine sv_ 21 38 ?_;refine sv_ 22 39 ?_;refine sv_ 23 40 ?_;refine pv_ 24 41 ?_;refine pv_ 25 42 ?_;refine sv_ 26 43 ?_;refine sv_ 27 44 ?_;refine sv_ 28 45 ?_;refine sv_ 29 46 ?_;refine sv_ 30 47 ?_;refine sv_ 31 48 ?_;refine sv_ 32 49 ?_;refine sv_ 33 50 ?_;refine sv_ 34 51 ?_;refine sv_ 35 52 ?_;refine sv_ 36 53 ?_;refine sv_ 37 54 ?_;refine sv_ 38 55 ?_;refine sv_ 39 56 ?_;refine pv_ 40 57 ?_;refine dn_ HT_ ?_;try go_wp2
     go_ret
     exact⟨u1_,bw_ HB⟩
    ·replace H:=ht_ H;obtain⟨tZ,A7,H⟩:=bi_ H;have HC_:=am_ H;clear H;have H:=HC_.out;clear HC_;by_cases c8:tZ=tm
     ·rw[if_pos c8] at H;have tY:=cW c8;have vq:=cX c8;clear c8;obtain⟨vw,A9,H⟩:=bi_ H;have HC_:=am_ H;clear H;(first | rw[tY] | (simp only[aC,aG];rw[tY]) | skip)
      have H:=HC_.out;clear HC_;cases vw
      ·replace H:=hf_ H;obtain rfl:=si_ H;try go_wp2_with (first | ((with_reducible refine aA (N:=4) rfl ?_);(try (refine bj ct ?_;dsimp only));refine bF ?hg (N:=4) ?hd (cs:=#[.int .i64 0,.string (⟨#[]⟩:ByteArray),.slice none 0 0]) (t:=46) ?hr ?_;(case hd=>rfl);(case hg=>rfl);(case hr=>exact bL);intro tn hg wh hbox hb;have tl:=am_ (hbox);have tP:=gw_ HB hg;replace HB:=bs_ HB hb;have tr:=nl_ tk hg;have tu:=ng_ tk hg;replace tk:=bb_ tk hb;clear hb hbox hg;have vE:=tu.out;have vK:=tr.out;obtain⟨ut,uu,uv,uQ,uR,uS⟩:=dm tl.out))
       generalize hW_:(((wh.setCell ⟨tn,0,none⟩ (.int .i64 ((ah l0_1 tm).f0))).setCell ⟨tn,1,none⟩ (.string ((ah l0_1 tm).f1.f0))).setCell ⟨tn,2,none⟩ (.slice tv ((ah l0_1 tm).f1.f1).length tw))=wi;replace tk:=gk_ hW_ #[.slice A0_0 l0_0.length c0_0,.slice (some tx) l0_1.length c0_1,.slice A0_2 l0_2.length c0_2,.int .i64 a0_3] tk;replace tl:=gk_ hW_ #[.int .i64 ((ah l0_1 tm).f0),.string ((ah l0_1 tm).f1.f0),.slice tv ((ah l0_1 tm).f1.f1).length tw] tl;replace HB:=gb_ hW_ HB;clear hW_;replace tk:=am_ (bf tk.out);replace tl:=am_ (bf tl.out);replace HB:=am_ (au HB.out);refine cN (n:=41) (S:=fun w'=>w'.cell? ⟨tq,0,none⟩=some (.slice A0_0 l0_0.length c0_0)∧w'.cell? ⟨tq,1,none⟩=some (.slice (some tx) l0_1.length c0_1)∧w'.cell? ⟨tq,2,none⟩=some (.slice A0_2 l0_2.length c0_2)∧w'.cell? ⟨tq,3,none⟩=some (.int .i64 a0_3)∧w'.cell? ⟨tn,0,none⟩=some (.int .i64 ((ah l0_1 tm).f0))∧w'.cell? ⟨tn,1,none⟩=some (.string ((ah l0_1 tm).f1.f0))∧w'.cell? ⟨tn,2,none⟩=some (.slice tv ((ah l0_1 tm).f1.f1).length tw)) (ds:=[]) (bm_ 41 0) bT rfl rfl ⟨bc_ tk 0,bc_ tk 1,bc_ tk 2,bc_ tk 3,bc_ tl 0,bc_ tl 1,bc_ tl 2⟩ (fun hHeld=>?_);refine bu ay.tab5 ay.bits5 (fun HT_ HW_=>?_);generalize wi.drew=wv at tk tl HB hHeld ⊢;refine pv_ 0 17 ?_;refine pv_ 2 19 ?_;refine tv_ 1 18 ?_;refine tv_ 3 20 ?_;refine ov_ 4 21 (fun K hK=>?_);refine oB_ Tryz.func50 (bo.calls k1 _ _ l0_0 ((ah l0_1 tm).f1.f0) _ _ ((ah l0_1 tm).f1.f1) true _ (kc_ tJ HB) tI.out (kc_ tB HB) tA.out A5.out) ?_;intro ww hb;replace tk:=bb_ tk hb;replace tl:=bb_ tl hb;replace HB:=bs_ HB hb;(try clear hb)
       refine hK.out _ _ ⟨bc_ tk 0,bc_ tk 1,bc_ tk 2,bc_ tk 3,bc_ tl 0,bc_ tl 1,bc_ tl 2⟩ (fun hHeld=>?_);clear hK K;refine nm_ ?_;refine pv_ 5 22 ?_;refine pv_ 6 23 ?_;refine pv_ 7 24 ?_;refine pv_ 9 26 ?_;refine pv_ 10 27 ?_;refine pv_ 13 30 ?_;refine tv_ 8 25 ?_;refine tv_ 11 28 ?_;refine ov_ 12 29 (fun K hK=>?_);refine oD_ Tryz.func51 (cw.calls k1 _ _ l0_1 ((ah l0_1 tm).f1.f0) tZ _ (kc_ tK HB) tL.out A7.out) ?_;intro nd;refine hK.out _ _ ⟨bc_ tk 0,bc_ tk 1,bc_ tk 2,bc_ tk 3,bc_ tl 0,bc_ tl 1,bc_ tl 2⟩ (fun hHeld=>?_);clear hK K;refine nm_ ?_;refine pv_ 14 31 ?_;refine pv_ 15 32 ?_;refine pv_ 16 33 ?_;refine pv_ 17 34 ?_;refine pv_ 19 36 ?_;refine tv_ 18 35 ?_;refine tv_ 20 37 ?_;refine pv_ 21 38 ?_;refine ov_ 22 39 (fun K hK=>?_);refine oD_ Tryz.func52 (ck.calls ((ah l0_1 tm).f0) 0 (wrap64 (a0_3 - 1)) false _ A9.out) ?_;intro nd;refine hK.out _ _ ⟨bc_ tk 0,bc_ tk 1,bc_ tk 2,bc_ tk 3,bc_ tl 0,bc_ tl 1,bc_ tl 2⟩ (fun hHeld=>?_);clear hK K;refine nm_ ?_;refine pv_ 23 40 ?_;refine pv_ 24 41 ?_;refine pv_ 25 42 ?_;refine sv_ 26 43 ?_;refine sv_ 27 44 ?_;refine sv_ 28 45 ?_;refine sv_ 29 46 ?_;refine sv_ 30 47 ?_;refine sv_ 31 48 ?_;refine sv_ 32 49 ?_;refine sv_ 33 50 ?_;refine sv_ 34 51 ?_;refine sv_ 35 52 ?_;refine sv_ 36 53 ?_;refine sv_ 37 54 ?_;refine sv_ 38 55 ?_;refine sv_ 39 56 ?_;refine pv_ 40 57 ?_;refine dn_ HT_ ?_;try go_wp2
       go_ret
       exact⟨u1_,bw_ HB⟩
      ·replace H:=ht_ H;have HC_:=am_ H;clear H;have H:=HC_.out;clear HC_;by_cases ua:tm>0
       ·rw[if_pos ua] at H;have tM:decide (0<tm)=true:=decide_eq_true ua;clear ua;obtain⟨tz,Zq⟩:∃j_:Int,(wrap64 (tm - 1))=j_:=⟨_,rfl⟩;replace H:(if 0≤(tz) then(if(tz)<(l0_1.length:Int) then(if((ah l0_1 (tz)).f0)≥((ah l0_1 tm).f0) then(some false) else(ay.l0 k1 (wrap64 (tm+1)) l0_0 l0_1 l0_2 a0_3)) else(none)) else(none))=some r:=by first | (rw[Zq] at H;exact H)|(simp only[Zq] at H ⊢;exact H)
        (try rw[Zq] at A5)
        (try rw[Zq] at A7)
        (try rw[Zq] at A9)
        have hji12w:(IntKind.i64.wrap (tm - 1))=tz:=(aC _).trans Zq;obtain⟨vz,H⟩:=gd_ H;obtain⟨vA,H⟩:=gd_ H;have HC_:=am_ H;clear H;(first | rw[tM] | (simp only[aC,aG];rw[tM]) | skip)
        try go_wp2_with (first | ((with_reducible refine aA (N:=4) rfl ?_);(try (refine bj ct ?_;dsimp only));refine bF ?hg (N:=4) ?hd (cs:=#[.int .i64 0,.string (⟨#[]⟩:ByteArray),.slice none 0 0]) (t:=46) ?hr ?_;(case hd=>rfl);(case hg=>rfl);(case hr=>exact bL);intro tn hg wb hbox hb;have tl:=am_ (hbox);have tP:=gw_ HB hg;replace HB:=bs_ HB hb;have tr:=nl_ tk hg;have tu:=ng_ tk hg;replace tk:=bb_ tk hb;clear hb hbox hg;have vB:=tu.out;have vI:=tr.out;obtain⟨um,un,uo,uK,uL,uM⟩:=dm tl.out))
        generalize hW_:(((wb.setCell ⟨tn,0,none⟩ (.int .i64 ((ah l0_1 tm).f0))).setCell ⟨tn,1,none⟩ (.string ((ah l0_1 tm).f1.f0))).setCell ⟨tn,2,none⟩ (.slice tv ((ah l0_1 tm).f1.f1).length tw))=wd;replace tk:=gk_ hW_ #[.slice A0_0 l0_0.length c0_0,.slice (some tx) l0_1.length c0_1,.slice A0_2 l0_2.length c0_2,.int .i64 a0_3] tk;replace tl:=gk_ hW_ #[.int .i64 ((ah l0_1 tm).f0),.string ((ah l0_1 tm).f1.f0),.slice tv ((ah l0_1 tm).f1.f1).length tw] tl;replace HB:=gb_ hW_ HB;clear hW_;replace tk:=am_ (bf tk.out);replace tl:=am_ (bf tl.out);replace HB:=am_ (au HB.out);obtain⟨uf,t7,t8,vu,tF,tG,tH,tT,tR⟩:=fB tK.out (tz) od_ od_;have tE:=tH;have tD:=tG;have tC:=tF;obtain rfl:tx=uf:=(by injection vu);replace tF:=cb_ HB tF;replace tG:=cb_ HB tG;replace tH:=cb_ HB tH;have t6:=am_ tR;have ul:=am_ tT;clear tR tT;obtain⟨vX,vZ⟩:=pt_ (tz) l0_1.length;refine cN (n:=41) (S:=fun w'=>w'.cell? ⟨tq,0,none⟩=some (.slice A0_0 l0_0.length c0_0)∧w'.cell? ⟨tq,1,none⟩=some (.slice (some tx) l0_1.length c0_1)∧w'.cell? ⟨tq,2,none⟩=some (.slice A0_2 l0_2.length c0_2)∧w'.cell? ⟨tq,3,none⟩=some (.int .i64 a0_3)∧w'.cell? ⟨tn,0,none⟩=some (.int .i64 ((ah l0_1 tm).f0))∧w'.cell? ⟨tn,1,none⟩=some (.string ((ah l0_1 tm).f1.f0))∧w'.cell? ⟨tn,2,none⟩=some (.slice tv ((ah l0_1 tm).f1.f1).length tw)∧w'.cell? (tx.add (((tz)).toNat*3))=some (.int .i64 ((ah l0_1 (tz)).f0))∧w'.cell? ⟨(tx.add (((tz)).toNat*3)).block,(tx.add (((tz)).toNat*3)).off+1,none⟩=some (.string ((ah l0_1 (tz)).f1.f0))∧w'.cell? ⟨(tx.add (((tz)).toNat*3)).block,(tx.add (((tz)).toNat*3)).off+2,none⟩=some (.slice t7 ((ah l0_1 (tz)).f1.f1).length t8)) (ds:=[]) (bm_ 41 0) bT rfl rfl ⟨bc_ tk 0,bc_ tk 1,bc_ tk 2,bc_ tk 3,bc_ tl 0,bc_ tl 1,bc_ tl 2,(cc_ HB tC),(cc_ HB tD),(cc_ HB tE)⟩ (fun hHeld=>?_);refine bu ay.tab5 ay.bits5 (fun HT_ HW_=>?_);generalize wd.drew=wn at tk tl HB t6 tF tG tH hHeld ⊢;refine pv_ 0 17 ?_;refine pv_ 2 19 ?_;refine tv_ 1 18 ?_;refine tv_ 3 20 ?_;refine ov_ 4 21 (fun K hK=>?_);refine oB_ Tryz.func50 (bo.calls k1 _ _ l0_0 ((ah l0_1 tm).f1.f0) _ _ ((ah l0_1 tm).f1.f1) true _ (kc_ tJ HB) tI.out (kc_ tB HB) tA.out A5.out) ?_;intro wo hb;replace tk:=bb_ tk hb;replace tl:=bb_ tl hb;replace HB:=bs_ HB hb;(try clear hb)
        refine hK.out _ _ ⟨bc_ tk 0,bc_ tk 1,bc_ tk 2,bc_ tk 3,bc_ tl 0,bc_ tl 1,bc_ tl 2,(cc_ HB tC),(cc_ HB tD),(cc_ HB tE)⟩ (fun hHeld=>?_);clear hK K;refine nm_ ?_;refine pv_ 5 22 ?_;refine pv_ 6 23 ?_;refine pv_ 7 24 ?_;refine pv_ 9 26 ?_;refine pv_ 10 27 ?_;refine pv_ 13 30 ?_;refine tv_ 8 25 ?_;refine tv_ 11 28 ?_;refine ov_ 12 29 (fun K hK=>?_);refine oD_ Tryz.func51 (cw.calls k1 _ _ l0_1 ((ah l0_1 tm).f1.f0) tZ _ (kc_ tK HB) tL.out A7.out) ?_;intro nd;refine hK.out _ _ ⟨bc_ tk 0,bc_ tk 1,bc_ tk 2,bc_ tk 3,bc_ tl 0,bc_ tl 1,bc_ tl 2,(cc_ HB tC),(cc_ HB tD),(cc_ HB tE)⟩ (fun hHeld=>?_);clear hK K;refine nm_ ?_;refine pv_ 14 31 ?_;refine pv_ 15 32 ?_;refine pv_ 16 33 ?_;refine pv_ 17 34 ?_;refine pv_ 19 36 ?_;refine tv_ 18 35 ?_;refine tv_ 20 37 ?_;refine pv_ 21 38 ?_;refine ov_ 22 39 (fun K hK=>?_);refine oD_ Tryz.func52 (ck.calls ((ah l0_1 tm).f0) 0 (wrap64 (a0_3 - 1)) true _ A9.out) ?_;intro nd;refine hK.out _ _ ⟨bc_ tk 0,bc_ tk 1,bc_ tk 2,bc_ tk 3,bc_ tl 0,bc_ tl 1,bc_ tl 2,(cc_ HB tC),(cc_ HB tD),(cc_ HB tE)⟩ (fun hHeld=>?_);clear hK K;refine nm_ ?_;refine pv_ 23 40 ?_;refine pv_ 24 41 ?_;refine pv_ 25 42 ?_;refine pv_ 26 43 ?_;refine pv_ 27 44 ?_;refine pv_ 28 45 ?_;refine pv_ 29 46 ?_;refine pv_ 31 48 ?_;refine pv_ 32 49 ?_;refine pv_ 36 53 ?_;refine tv_ 30 47 ?_;refine pv_ 33 50 ?_;refine pv_ 34 51 ?_;refine tv_ 35 52 ?_;refine tv_ 37 54 ?_;refine pv_ 38 55 ?_;refine pv_ 39 56 ?_;refine pv_ 40 57 ?_;refine dn_ HT_ ?_;have H:=HC_.out;clear HC_;by_cases ub:((ah l0_1 (tz)).f0)≥((ah l0_1 tm).f0)
        ·rw[if_pos ub] at H;have tN:decide (((ah l0_1 tm).f0)≤((ah l0_1 (tz)).f0))=true:=decide_eq_true ub;clear ub;obtain rfl:=si_ H;(first | rw[tN] | (simp only[aC,aG];rw[tN]) | skip)
         try go_wp2
         go_ret
         exact⟨u103_,bw_ HB⟩
        ·rw[if_neg ub] at H;have tN:decide (((ah l0_1 tm).f0)≤((ah l0_1 (tz)).f0))=false:=decide_eq_false ub;clear ub;have H':=am_ H;clear H;(first | rw[tN] | (simp only[aC,aG];rw[tN]) | skip)
         try go_wp2
         go_roundg k1
         case measure=>have:=HK1.out;omega
         case rel=>exact⟨(wrap64 (tm+1)),u4_,H',⟨dH⟩,⟨pb_ tk⟩,⟨bw_ HB⟩⟩
       ·rw[if_neg ua] at H;have tM:decide (0<tm)=false:=decide_eq_false ua;clear ua;have H':=am_ H;clear H;(first | rw[tM] | (simp only[aC,aG];rw[tM]) | skip)
        try go_wp2_with (first | ((with_reducible refine aA (N:=4) rfl ?_);(try (refine bj ct ?_;dsimp only));refine bF ?hg (N:=4) ?hd (cs:=#[.int .i64 0,.string (⟨#[]⟩:ByteArray),.slice none 0 0]) (t:=46) ?hr ?_;(case hd=>rfl);(case hg=>rfl);(case hr=>exact bL);intro tn hg we hbox hb;have tl:=am_ (hbox);have tP:=gw_ HB hg;replace HB:=bs_ HB hb;have tr:=nl_ tk hg;have tu:=ng_ tk hg;replace tk:=bb_ tk hb;clear hb hbox hg;have vD:=tu.out;have vJ:=tr.out;obtain⟨uq,ur,us,uN,uO,uP⟩:=dm tl.out))
        generalize hW_:(((we.setCell ⟨tn,0,none⟩ (.int .i64 ((ah l0_1 tm).f0))).setCell ⟨tn,1,none⟩ (.string ((ah l0_1 tm).f1.f0))).setCell ⟨tn,2,none⟩ (.slice tv ((ah l0_1 tm).f1.f1).length tw))=wg;replace tk:=gk_ hW_ #[.slice A0_0 l0_0.length c0_0,.slice (some tx) l0_1.length c0_1,.slice A0_2 l0_2.length c0_2,.int .i64 a0_3] tk;replace tl:=gk_ hW_ #[.int .i64 ((ah l0_1 tm).f0),.string ((ah l0_1 tm).f1.f0),.slice tv ((ah l0_1 tm).f1.f1).length tw] tl;replace HB:=gb_ hW_ HB;clear hW_;replace tk:=am_ (bf tk.out);replace tl:=am_ (bf tl.out);replace HB:=am_ (au HB.out);refine cN (n:=41) (S:=fun w'=>w'.cell? ⟨tq,0,none⟩=some (.slice A0_0 l0_0.length c0_0)∧w'.cell? ⟨tq,1,none⟩=some (.slice (some tx) l0_1.length c0_1)∧w'.cell? ⟨tq,2,none⟩=some (.slice A0_2 l0_2.length c0_2)∧w'.cell? ⟨tq,3,none⟩=some (.int .i64 a0_3)∧w'.cell? ⟨tn,0,none⟩=some (.int .i64 ((ah l0_1 tm).f0))∧w'.cell? ⟨tn,1,none⟩=some (.string ((ah l0_1 tm).f1.f0))∧w'.cell? ⟨tn,2,none⟩=some (.slice tv ((ah l0_1 tm).f1.f1).length tw)) (ds:=[]) (bm_ 41 0) bT rfl rfl ⟨bc_ tk 0,bc_ tk 1,bc_ tk 2,bc_ tk 3,bc_ tl 0,bc_ tl 1,bc_ tl 2⟩ (fun hHeld=>?_);refine bu ay.tab5 ay.bits5 (fun HT_ HW_=>?_);generalize wg.drew=wt at tk tl HB hHeld ⊢;refine pv_ 0 17 ?_;refine pv_ 2 19 ?_;refine tv_ 1 18 ?_;refine tv_ 3 20 ?_;refine ov_ 4 21 (fun K hK=>?_);refine oB_ Tryz.func50 (bo.calls k1 _ _ l0_0 ((ah l0_1 tm).f1.f0) _ _ ((ah l0_1 tm).f1.f1) true _ (kc_ tJ HB) tI.out (kc_ tB HB) tA.out A5.out) ?_;intro wu hb;replace tk:=bb_ tk hb;replace tl:=bb_ tl hb;replace HB:=bs_ HB hb;(try clear hb)
        refine hK.out _ _ ⟨bc_ tk 0,bc_ tk 1,bc_ tk 2,bc_ tk 3,bc_ tl 0,bc_ tl 1,bc_ tl 2⟩ (fun hHeld=>?_);clear hK K;refine nm_ ?_;refine pv_ 5 22 ?_;refine pv_ 6 23 ?_;refine pv_ 7 24 ?_;refine pv_ 9 26 ?_;refine pv_ 10 27 ?_;refine pv_ 13 30 ?_;refine tv_ 8 25 ?_;refine tv_ 11 28 ?_;refine ov_ 12 29 (fun K hK=>?_);refine oD_ Tryz.func51 (cw.calls k1 _ _ l0_1 ((ah l0_1 tm).f1.f0) tZ _ (kc_ tK HB) tL.out A7.out) ?_;intro nd;refine hK.out _ _ ⟨bc_ tk 0,bc_ tk 1,bc_ tk 2,bc_ tk 3,bc_ tl 0,bc_ tl 1,bc_ tl 2⟩ (fun hHeld=>?_);clear hK K;refine nm_ ?_;refine pv_ 14 31 ?_;refine pv_ 15 32 ?_;refine pv_ 16 33 ?_;refine pv_ 17 34 ?_;refine pv_ 19 36 ?_;refine tv_ 18 35 ?_;refine tv_ 20 37 ?_;refine pv_ 21 38 ?_;refine ov_ 22 39 (fun K hK=>?_);refine oD_ Tryz.func52 (ck.calls ((ah l0_1 tm).f0) 0 (wrap64 (a0_3 - 1)) true _ A9.out) ?_;intro nd;refine hK.out _ _ ⟨bc_ tk 0,bc_ tk 1,bc_ tk 2,bc_ tk 3,bc_ tl 0,bc_ tl 1,bc_ tl 2⟩ (fun hHeld=>?_);clear hK K;refine nm_ ?_;refine pv_ 23 40 ?_;refine pv_ 24 41 ?_;refine pv_ 25 42 ?_;refine pv_ 26 43 ?_;refine pv_ 27 44 ?_;refine pv_ 28 45 ?_;refine sv_ 29 46 ?_;refine sv_ 30 47 ?_;refine sv_ 31 48 ?_;refine sv_ 32 49 ?_;refine sv_ 33 50 ?_;refine sv_ 34 51 ?_;refine sv_ 35 52 ?_;refine sv_ 36 53 ?_;refine sv_ 37 54 ?_;refine sv_ 38 55 ?_;refine pv_ 39 56 ?_;refine pv_ 40 57 ?_;refine dn_ HT_ ?_;try go_wp2
        go_roundg k1
        case measure=>have:=HK1.out;omega
        case rel=>exact⟨(wrap64 (tm+1)),u4_,H',⟨dH⟩,⟨pb_ tk⟩,⟨bw_ HB⟩⟩
     ·rw[if_neg c8] at H;have tY:=cO c8;have vq:=cQ c8;obtain rfl:=si_ H;(first | rw[tY] | (simp only[aC,aG];rw[tY]) | skip)
      try go_wp2_with (first | ((with_reducible refine aA (N:=4) rfl ?_);(try (refine bj ct ?_;dsimp only));refine bF ?hg (N:=4) ?hd (cs:=#[.int .i64 0,.string (⟨#[]⟩:ByteArray),.slice none 0 0]) (t:=46) ?hr ?_;(case hd=>rfl);(case hg=>rfl);(case hr=>exact bL);intro tn hg wj hbox hb;have tl:=am_ (hbox);have tP:=gw_ HB hg;replace HB:=bs_ HB hb;have tr:=nl_ tk hg;have tu:=ng_ tk hg;replace tk:=bb_ tk hb;clear hb hbox hg;have vG:=tu.out;have vM:=tr.out;obtain⟨uw,ux,uy,uT,uU,uV⟩:=dm tl.out))
      generalize hW_:(((wj.setCell ⟨tn,0,none⟩ (.int .i64 ((ah l0_1 tm).f0))).setCell ⟨tn,1,none⟩ (.string ((ah l0_1 tm).f1.f0))).setCell ⟨tn,2,none⟩ (.slice tv ((ah l0_1 tm).f1.f1).length tw))=wk;replace tk:=gk_ hW_ #[.slice A0_0 l0_0.length c0_0,.slice (some tx) l0_1.length c0_1,.slice A0_2 l0_2.length c0_2,.int .i64 a0_3] tk;replace tl:=gk_ hW_ #[.int .i64 ((ah l0_1 tm).f0),.string ((ah l0_1 tm).f1.f0),.slice tv ((ah l0_1 tm).f1.f1).length tw] tl;replace HB:=gb_ hW_ HB;clear hW_;replace tk:=am_ (bf tk.out);replace tl:=am_ (bf tl.out);replace HB:=am_ (au HB.out);refine cN (n:=41) (S:=fun w'=>w'.cell? ⟨tq,0,none⟩=some (.slice A0_0 l0_0.length c0_0)∧w'.cell? ⟨tq,1,none⟩=some (.slice (some tx) l0_1.length c0_1)∧w'.cell? ⟨tq,2,none⟩=some (.slice A0_2 l0_2.length c0_2)∧w'.cell? ⟨tq,3,none⟩=some (.int .i64 a0_3)∧w'.cell? ⟨tn,0,none⟩=some (.int .i64 ((ah l0_1 tm).f0))∧w'.cell? ⟨tn,1,none⟩=some (.string ((ah l0_1 tm).f1.f0))∧w'.cell? ⟨tn,2,none⟩=some (.slice tv ((ah l0_1 tm).f1.f1).length tw)) (ds:=[]) (bm_ 41 0) bT rfl rfl ⟨bc_ tk 0,bc_ tk 1,bc_ tk 2,bc_ tk 3,bc_ tl 0,bc_ tl 1,bc_ tl 2⟩ (fun hHeld=>?_);refine bu ay.tab5 ay.bits5 (fun HT_ HW_=>?_);generalize wk.drew=wy at tk tl HB hHeld ⊢;refine pv_ 0 17 ?_;refine pv_ 2 19 ?_;refine tv_ 1 18 ?_;refine tv_ 3 20 ?_;refine ov_ 4 21 (fun K hK=>?_);refine oB_ Tryz.func50 (bo.calls k1 _ _ l0_0 ((ah l0_1 tm).f1.f0) _ _ ((ah l0_1 tm).f1.f1) true _ (kc_ tJ HB) tI.out (kc_ tB HB) tA.out A5.out) ?_;intro wz hb;replace tk:=bb_ tk hb;replace tl:=bb_ tl hb;replace HB:=bs_ HB hb;(try clear hb)
      refine hK.out _ _ ⟨bc_ tk 0,bc_ tk 1,bc_ tk 2,bc_ tk 3,bc_ tl 0,bc_ tl 1,bc_ tl 2⟩ (fun hHeld=>?_);clear hK K;refine nm_ ?_;refine pv_ 5 22 ?_;refine pv_ 6 23 ?_;refine pv_ 7 24 ?_;refine pv_ 9 26 ?_;refine pv_ 10 27 ?_;refine pv_ 13 30 ?_;refine tv_ 8 25 ?_;refine tv_ 11 28 ?_;refine ov_ 12 29 (fun K hK=>?_);refine oD_ Tryz.func51 (cw.calls k1 _ _ l0_1 ((ah l0_1 tm).f1.f0) tZ _ (kc_ tK HB) tL.out A7.out) ?_;intro nd;refine hK.out _ _ ⟨bc_ tk 0,bc_ tk 1,bc_ tk 2,bc_ tk 3,bc_ tl 0,bc_ tl 1,bc_ tl 2⟩ (fun hHeld=>?_);clear hK K;refine nm_ ?_;refine pv_ 14 31 ?_;refine pv_ 15 32 ?_;refine pv_ 16 33 ?_;refine sv_ 17 34 ?_;refine sv_ 18 35 ?_;refine sv_ 19 36 ?_;refine sv_ 20 37 ?_;refine sv_ 21 38 ?_;refine sv_ 22 39 ?_;refine sv_ 23 40 ?_;refine pv_ 24 41 ?_;refine pv_ 25 42 ?_;refine sv_ 26 43 ?_;refine sv_ 27 44 ?_;refine sv_ 28 45 ?_;refine sv_ 29 46 ?_;refine sv_ 30 47 ?_;refine sv_ 31 48 ?_;refine sv_ 32 49 ?_;refine sv_ 33 50 ?_;refine sv_ 34 51 ?_;refine sv_ 35 52 ?_;refine sv_ 36 53 ?_;refine sv_ 37 54 ?_;refine sv_ 38 55 ?_;refine sv_ 39 56 ?_;refine pv_ 40 57 ?_;refine dn_ HT_ ?_;try go_wp2
      go_ret
      exact⟨u1_,bw_ HB⟩
   ·rw[if_neg c3] at H;have vp:=decide_eq_false c3;clear c3;obtain⟨ui,vO,H⟩:=bi_ H;have HC_:=am_ H;clear H;obtain⟨uG,uH,uI,uJ,vl,vm,vn,vo⟩:=dx tk.out;try go_wp2
    replace tk:=am_ (bf tk.out);replace HB:=am_ (au HB.out);refine cN (n:=25) (S:=fun w'=>w'.cell? ⟨tq,0,none⟩=some (.slice A0_0 l0_0.length c0_0)∧w'.cell? ⟨tq,1,none⟩=some (.slice A0_1 l0_1.length c0_1)∧w'.cell? ⟨tq,2,none⟩=some (.slice A0_2 l0_2.length c0_2)∧w'.cell? ⟨tq,3,none⟩=some (.int .i64 a0_3)) (ds:=[]) (bm_ 25 0) bT rfl rfl ⟨bc_ tk 0,bc_ tk 1,bc_ tk 2,bc_ tk 3⟩ (fun hHeld=>?_);refine bu ay.tab7 ay.bits7 (fun HT_ HW_=>?_);generalize wr.drew=wF at tk HB hHeld ⊢;refine pv_ 0 58 ?_;refine tv_ 1 59 ?_;refine ov_ 2 60 (fun K hK=>?_);refine oB_ Tryz.func53 (aJ.calls k1 _ _ l0_0 ui _ (kc_ tJ HB) tI.out vO.out) ?_;intro wG hb;replace tk:=bb_ tk hb;replace HB:=bs_ HB hb;(try clear hb)
    refine hK.out _ _ ⟨bc_ tk 0,bc_ tk 1,bc_ tk 2,bc_ tk 3⟩ (fun hHeld=>?_);clear hK K;refine nm_ ?_;refine pv_ 3 61 ?_;have H:=HC_.out;clear HC_;cases ui
    ·replace H:=hf_ H;obtain rfl:=si_ H;refine sv_ 4 62 ?_;refine sv_ 5 63 ?_;refine sv_ 6 64 ?_;refine sv_ 7 65 ?_;refine pv_ 8 66 ?_;refine pv_ 9 67 ?_;refine sv_ 10 68 ?_;refine sv_ 11 69 ?_;refine sv_ 12 70 ?_;refine pv_ 13 71 ?_;refine pv_ 14 72 ?_;refine sv_ 15 73 ?_;refine sv_ 16 74 ?_;refine sv_ 17 75 ?_;refine sv_ 18 76 ?_;refine sv_ 19 77 ?_;refine sv_ 20 78 ?_;refine sv_ 21 79 ?_;refine sv_ 22 80 ?_;refine pv_ 23 81 ?_;refine pv_ 24 2 ?_;refine dn_ HT_ ?_;try go_wp2
     go_ret
     exact⟨u1_,bw_ HB⟩
    ·replace H:=ht_ H;have HC_:=am_ H;clear H;refine pv_ 4 62 ?_;refine tv_ 5 63 ?_;refine pv_ 6 64 ?_;refine pv_ 7 65 ?_;refine pv_ 8 66 ?_;refine pv_ 9 67 ?_;have H:=HC_.out;clear HC_;by_cases uc:(l0_1.length:Int)≤8
     ·rw[if_pos uc] at H;have tO:=decide_eq_true uc;have ug:decide (l0_1.length≤8)=true:=decide_eq_true aw;clear uc;obtain⟨uj,vP,H⟩:=bi_ H;have HC_:=am_ H;clear H;(first | rw[tO] | (simp only[aC,aG];rw[tO]) | skip)
      refine pv_ 10 68 ?_;refine tv_ 11 69 ?_;refine ov_ 12 70 (fun K hK=>?_);refine oD_ Tryz.func52 (ck.calls a0_3 0 999999999 uj _ vP.out) ?_;intro nd;refine hK.out _ _ ⟨bc_ tk 0,bc_ tk 1,bc_ tk 2,bc_ tk 3⟩ (fun hHeld=>?_);clear hK K;refine nm_ ?_;refine pv_ 13 71 ?_;refine pv_ 14 72 ?_;have H:=HC_.out;clear HC_;cases uj
      ·replace H:=hf_ H;obtain rfl:=si_ H;refine sv_ 15 73 ?_;refine sv_ 16 74 ?_;refine sv_ 17 75 ?_;refine sv_ 18 76 ?_;refine sv_ 19 77 ?_;refine sv_ 20 78 ?_;refine sv_ 21 79 ?_;refine sv_ 22 80 ?_;refine pv_ 23 81 ?_;refine pv_ 24 2 ?_;refine dn_ HT_ ?_;try go_wp2
       go_ret
       exact⟨u1_,bw_ HB⟩
      ·replace H:=ht_ H;obtain⟨uk,vQ,H⟩:=bi_ H;obtain⟨vx,vS,H⟩:=bi_ H;obtain rfl:=si_ H;refine pv_ 15 73 ?_;refine pv_ 17 75 ?_;refine pv_ 20 78 ?_;refine tv_ 16 74 ?_;refine tv_ 18 76 ?_;refine tv_ 21 79 ?_;refine ov_ 19 77 (fun K hK=>?_);refine go_ Tryz.func55 (bn.calls k1 _ _ l0_0 _ _ l0_1 uk _ (kc_ tJ HB) tI.out (kc_ tK HB) tL.out vQ.out) ?_;rintro e wD ⟨wa,rfl,ho0,hb⟩;refine⟨_,rfl,?_⟩;have tX:=am_ (Kd.R_lower ho0 (ar (bw_ HB)));replace tk:=bb_ tk hb;replace HB:=bs_ HB hb;(try clear hb)
       (try clear ho0)
       obtain⟨vT,vV,uh⟩:=Kd.R_slice tX.out;(first | subst uh | (injection uh with f1_ f2_ f3_;have f4_:=f1_.symm;have f5_:=f3_.symm;clear f1_ f2_ f3_;subst f4_;subst f5_))
       refine hK.out _ _ ⟨bc_ tk 0,bc_ tk 1,bc_ tk 2,bc_ tk 3⟩ (fun hHeld=>?_);clear hK K;refine nm_ ?_;refine ov_ 22 80 (fun K hK=>?_);refine go_ Tryz.func54 (bd.calls k1 _ _ uk _ _ l0_2 vx _ (kR_ tX) ?side2 (kc_ ue HB) ud.out vS.out) ?_;(case side2=>exact(Kd.R_reads' tX.out).2.1)
       rintro e wE ⟨rfl,hb⟩;refine⟨_,rfl,?_⟩;replace tk:=bb_ tk hb;replace HB:=bs_ HB hb;(try clear hb)
       refine hK.out _ _ ⟨bc_ tk 0,bc_ tk 1,bc_ tk 2,bc_ tk 3⟩ (fun hHeld=>?_);clear hK K;refine nm_ ?_;refine pv_ 23 81 ?_;refine pv_ 24 2 ?_;refine dn_ HT_ ?_;try go_wp2
       go_ret
       exact⟨u1_,bw_ HB⟩
     ·rw[if_neg uc] at H;have tO:=decide_eq_false uc;have ug:decide (l0_1.length≤8)=false:=decide_eq_false aw;clear uc;obtain rfl:=si_ H;(first | rw[tO] | (simp only[aC,aG];rw[tO]) | skip)
      refine sv_ 10 68 ?_;refine sv_ 11 69 ?_;refine sv_ 12 70 ?_;refine pv_ 13 71 ?_;refine pv_ 14 72 ?_;refine sv_ 15 73 ?_;refine sv_ 16 74 ?_;refine sv_ 17 75 ?_;refine sv_ 18 76 ?_;refine sv_ 19 77 ?_;refine sv_ 20 78 ?_;refine sv_ 21 79 ?_;refine sv_ 22 80 ?_;refine pv_ 23 81 ?_;refine pv_ 24 2 ?_;refine dn_ HT_ ?_;try go_wp2
      go_ret
      exact⟨u1_,bw_ HB⟩
def dz.f (a0:ByteArray) (a1:ByteArray):Option (Bool):=if(a0.size:Int)≥(a1.size:Int) then(if 0≤(a1.size:Int) then(if(a1.size:Int)≤(a0.size:Int) then(some ((a0.extract 0 ((a1.size:Int):Int).toNat).toList == a1.toList)) else(none)) else(none)) else(some false)
theorem dz.calls (a0:ByteArray) (a1:ByteArray) (r:Bool) (w:World) (h:dz.f a0 a1=some r) :
  Calls Tryz.prog 44 #[.string a0,.string a1] w fun e w'=>e = .returned (.bool r)∧Drawn0 w w':=by
 have H:=h;clear h;unfold dz.f at H
 by_cases c3:(a0.size:Int)≥(a1.size:Int)
 ·rw[if_pos c3] at H;have tk:decide ((a1.size:Int)≤(a0.size:Int))=true:=decide_eq_true c3;have tl:decide (a1.size≤a0.size)=true:=decide_eq_true (Int.ofNat_le.mp c3);clear c3;obtain⟨tm,tn,H⟩:=ge_ H;obtain⟨tq,tr,H⟩:=ge_ H;obtain rfl:=si_ H;go_enter Tryz.func44,Tryz.ntmps44
  go_wp2;go_ret
  exact⟨u9_,u7_⟩
 ·rw[if_neg c3] at H;have tk:decide ((a1.size:Int)≤(a0.size:Int))=false:=decide_eq_false c3;have tl:decide (a1.size≤a0.size)=false:=decide_eq_false (fun h=>c3 (Int.ofNat_le.mpr h));clear c3;obtain rfl:=si_ H;go_enter Tryz.func44,Tryz.ntmps44
  go_wp2;go_ret
  exact⟨u9_,u7_⟩
def bl.l0:Nat→ByteArray→ByteArray→List ByteArray→Int→List (S92)→List (S46)→List (S76)→Int→Option (List ByteArray)
 | 0,_,_,_,_,_,_,_,_=>none
 | k+1,x1,x2,x7,x8,tl,tm,tk,tn=>if x8<(tk.length:Int) then(if 0≤x8 then(if((aj tk x8).f0).toList=x1.toList then((dz.f ((aj tk x8).f1) x2).bind fun tq=>(if tq=true then(if x7.length<8796093022208 then(bl.l0 k x1 x2 (x7 ++ [(aj tk x8).f1]) (wrap64 (x8+1)) tl tm tk tn) else(none)) else(bl.l0 k x1 x2 x7 (wrap64 (x8+1)) tl tm tk tn))) else(bl.l0 k x1 x2 x7 (wrap64 (x8+1)) tl tm tk tn)) else(none)) else(some x7)
def bl.f (k:Nat) (l0_0:List (S92)) (l0_1:List (S46)) (l0_2:List (S76)) (a0_3:Int) (a1:ByteArray) (a2:ByteArray):Option (List ByteArray):=(some (([] : List ByteArray):List ByteArray)).bind fun tk=>((ay.f k l0_0 l0_1 l0_2 a0_3).bind fun tl=>(if tl=true then(bl.l0 k a1 a2 tk 0 l0_0 l0_1 l0_2 a0_3) else(some tk)))
theorem bl.calls (k:Nat) (A0_0:Option Addr) (c0_0:Nat) (l0_0:List (S92)) (A0_1:Option Addr) (c0_1:Nat) (l0_1:List (S46)) (A0_2:Option Addr) (c0_2:Nat) (l0_2:List (S76)) (a0_3:Int) (a1:ByteArray) (a2:ByteArray) (r:List ByteArray) (w:World) (hr0_0:Kd.C k92 w A0_0 l0_0.length l0_0) (hc0_0:l0_0.length≤c0_0) (hr0_1:Kd.C k46 w A0_1 l0_1.length l0_1) (hc0_1:l0_1.length≤c0_1) (hr0_2:Kd.C k76 w A0_2 l0_2.length l0_2) (hc0_2:l0_2.length≤c0_2) (h:bl.f k l0_0 l0_1 l0_2 a0_3 a1 a2=some r) :
  Calls Tryz.prog 12 #[.agg #[.slice A0_0 l0_0.length c0_0,.slice A0_1 l0_1.length c0_1,.slice A0_2 l0_2.length c0_2,.int .i64 a0_3],.string a1,.string a2] w fun e w'=>∃v0_:Value,e = .returned (v0_)∧Kd.R Kd.string 9 w' w.heap.size (fun _=>True) v0_ r∧Below w.heap.size w w':=by
 have hu27:=Tryz.underlying27;have tR:=am_ hr0_0;have tO:=am_ hc0_0;clear hr0_0 hc0_0;have tS:=am_ hr0_1;have tP:=am_ hc0_1;clear hr0_1 hc0_1;have tu:=am_ hr0_2;have tQ:=am_ hc0_2;clear hr0_2 hc0_2;have HB:=am_ (Below.refl w.heap.size w);have H:=h;clear h;unfold bl.f at H
 obtain⟨ud,tw⟩:∃y_:List ByteArray,y_=(([] : List ByteArray)):=⟨_,rfl⟩;replace H:((ay.f k l0_0 l0_1 l0_2 a0_3).bind fun uc=>(if uc=true then(bl.l0 k a1 a2 ud 0 l0_0 l0_1 l0_2 a0_3) else(some ud)))=some r:=by first | (rw[tw];with_reducible exact H)|(have H2_:=(Option.bind_some _ _).symm.trans H;rw[tw];with_reducible exact H2_)|(have H2_:=(Option.bind_some _ _).symm.trans H;with_reducible exact H2_) | with_reducible exact H | (rw[tw];exact H) | exact H
 have tz:=am_ tw;clear tw;obtain⟨uc,A4,H⟩:=bi_ H;cases uc
 ·replace H:=hf_ H;obtain rfl:=si_ H;go_enter Tryz.func12,Tryz.ntmps12
  go_wp2_with (first | ((with_reducible refine gt_ 3 ?_);refine bx_ 3 #[.slice A0_0 l0_0.length c0_0,.slice A0_1 l0_1.length c0_1,.slice A0_2 l0_2.length c0_2,.int .i64 a0_3] 27 ?_;intro tN hg vx hbox hb;have tk:=am_ (hbox);have uf:=gw_ HB hg;replace HB:=bs_ HB hb;clear hb hbox hg)|((with_reducible refine aA (N:=9) rfl ?_);refine Kd.R_lit Kd.string _ 9 ?hg (N:=9) ?hd (xs:=([] : List ByteArray)) (inner:=[]) (ok:=fun _=>True) (okp:=fun _=>True) ?hr ?hp (fun _ hk=>hk) trivial (Below.refl _ _) (Nat.le_refl _) bb ?_;(case hd=>rfl);(case hg=>rfl);(case hr=>exact bL);(case hp=>exact fj);intro vk vy ho24 hb hg_ hnew_;clear hg_ hnew_;(first | rw[← tz.out] at ho24 | (simp only[Int.reduceToNat] at ho24;rw[← tz.out] at ho24));have tn:=am_ (Kd.R_lower ho24 (ar (bw_ HB)));replace tk:=bb_ tk hb;replace HB:=bs_ HB hb;clear hb ho24;obtain⟨uC,uD,uE,uF,uO,uP,uQ,uR⟩:=dx tk.out)|((with_reducible refine gt_ 11 ?_);refine gB_ 11 Tryz.func18 (ay.calls k _ _ l0_0 _ _ l0_1 _ _ l0_2 a0_3 false _ (kc_ tR HB) tO.out (kc_ tS HB) tP.out (kc_ tu HB) tQ.out A4.out) ?_;intro vz hb;replace tn:=am_ (Kd.R_below (aR_ tn.out) hb);replace HB:=bs_ HB hb;(try clear hb)))
  go_ret
  exact⟨_,u1_,aR_ tn.out,bw_ HB⟩
 ·replace H:=ht_ H;have H':=am_ H;clear H;go_enter Tryz.func12,Tryz.ntmps12
  go_wp2_with (first | ((with_reducible refine gt_ 3 ?_);refine bx_ 3 #[.slice A0_0 l0_0.length c0_0,.slice A0_1 l0_1.length c0_1,.slice A0_2 l0_2.length c0_2,.int .i64 a0_3] 27 ?_;intro tN hg w6 hbox hb;have tk:=am_ (hbox);have uf:=gw_ HB hg;replace HB:=bs_ HB hb;clear hb hbox hg)|((with_reducible refine aA (N:=9) rfl ?_);refine Kd.R_lit Kd.string _ 9 ?hg (N:=9) ?hd (xs:=([] : List ByteArray)) (inner:=[]) (ok:=fun _=>True) (okp:=fun _=>True) ?hr ?hp (fun _ hk=>hk) trivial (Below.refl _ _) (Nat.le_refl _) bb ?_;(case hd=>rfl);(case hg=>rfl);(case hr=>exact bL);(case hp=>exact fj);intro vk w7 ho8 hb hg_ hnew_;clear hg_ hnew_;(first | rw[← tz.out] at ho8 | (simp only[Int.reduceToNat] at ho8;rw[← tz.out] at ho8));have tn:=am_ (Kd.R_lower ho8 (ar (bw_ HB)));replace tk:=bb_ tk hb;replace HB:=bs_ HB hb;clear hb ho8;obtain⟨tV,tW,tX,tY,tZ,t6,t7,t8⟩:=dx tk.out)|((with_reducible refine gt_ 11 ?_);refine gB_ 11 Tryz.func18 (ay.calls k _ _ l0_0 _ _ l0_1 _ _ l0_2 a0_3 true _ (kc_ tR HB) tO.out (kc_ tS HB) tP.out (kc_ tu HB) tQ.out A4.out) ?_;intro vv hb;replace tn:=am_ (Kd.R_below (aR_ tn.out) hb);replace tk:=bb_ tk hb;replace HB:=bs_ HB hb;(try clear hb)))
  go_loopg [7,8] k (fun kq v7 v8 w'=>∃(tx:List ByteArray) (tl:Int),v8 = .int .i64 tl∧aa (bl.l0 kq a1 a2 tx tl l0_0 l0_1 l0_2 a0_3=some r)∧aa (kq≤k)∧aa (Kd.R Kd.string 9 w' w.heap.size (fun _=>True) v7 tx)∧aa (w'.heap[tN]? = some (.cells #[(.slice A0_0 l0_0.length c0_0),(.slice A0_1 l0_1.length c0_1),(.slice A0_2 l0_2.length c0_2),.int .i64 a0_3] 27 (0,0)))∧aa (Below w.heap.size w w'))
  case atStart=>exact⟨(ud),(0),u4_,H',⟨Nat.le_refl _⟩,⟨aR_ tn.out⟩,⟨pb_ tk⟩,⟨bw_ HB⟩⟩
  case round=>
   clear H';try clear tV tW tX tY tZ t6 t7 t8
   obtain⟨tx,tl,rfl,HA,HK1,Z5,tk,HB⟩:=hrel;cases gk with
   | zero=>exact absurd HA.out (by simp[bl.l0])
   | succ k1=>
    have H:=HA.out;clear HA;simp only[bl.l0] at H;by_cases ue:tl<(l0_2.length:Int)
    ·rw[if_pos ue] at H;have ul:=decide_eq_true ue;clear ue;obtain⟨vn,H⟩:=gd_ H;have HC_:=am_ H;clear H;obtain⟨uu,uv,uw,ux,uG,uH,uI,uJ⟩:=dx tk.out;obtain⟨tM,uS,uV,uY,tG,tH,tm,tD,tA⟩:=eB tu.out tl od_ od_;cases uY;replace tG:=cb_ HB tG;replace tH:=cb_ HB tH;replace tm:=cb_ HB tm;have ur:=am_ tA;have un:=am_ tD;clear tA tD;obtain⟨vo,vq⟩:=pt_ tl l0_2.length;have H:=HC_.out;clear HC_;by_cases tU:((aj l0_2 tl).f0).toList=a1.toList
     ·rw[if_pos tU] at H;have tv:=cW tU;have um:=cX tU;clear tU;obtain⟨u9,vm,H⟩:=bi_ H;have HC_:=am_ H;clear H;(first | rw[tv] | (simp only[aC,aG];rw[tv]) | skip)
      obtain⟨uj,uT,uW,uZ,tI,tJ,tq,tE,tB⟩:=eB tu.out tl od_ od_;obtain rfl:tM=uj:=(by injection uZ);replace tI:=cb_ HB tI;replace tJ:=cb_ HB tJ;replace tq:=cb_ HB tq;have us:=am_ tB;have uo:=am_ tE;clear tB tE;obtain⟨vp,vr⟩:=pt_ tl l0_2.length;have ea_:=Option.some.inj (tm.symm.trans tq);injection ea_ with ea_ en_ ec_
      subst ea_;subst ec_;clear en_;have H:=HC_.out;clear HC_;cases u9
      ·replace H:=hf_ H;have H':=am_ H;clear H;go_wp2_with (first | (go_at_call 44;(with_reducible refine(dz.calls ((aj l0_2 tl).f1) a2 false _ vm.out).mono ?_);rintro e w' ⟨rfl,⟨nd,rfl⟩⟩))
       go_roundg k1
       case measure=>have:=HK1.out;omega
       case rel=>exact⟨(tx),(wrap64 (tl+1)),u4_,H',⟨dH⟩,⟨aR_ Z5.out⟩,⟨pb_ tk⟩,⟨bw_ HB⟩⟩
      ·replace H:=ht_ H;obtain⟨uh,H⟩:=gl_ H;generalize tT:((tx ++ [(aj l0_2 tl).f1]):List ByteArray)=vl at H;have ui:=am_ tT.symm;clear tT;have H':=am_ H;clear H;go_wp2_with (first | (go_at_call 44;(with_reducible refine(dz.calls ((aj l0_2 tl).f1) a2 true _ vm.out).mono ?_);rintro e w' ⟨rfl,⟨nd,rfl⟩⟩;obtain⟨ua,ub⟩:=pq_ tl l0_2.length;obtain⟨uk,uU,uX,u6,tK,tL,tr,tF,tC⟩:=eB tu.out tl ua ub;obtain rfl:tM=uk:=(by injection u6);replace tK:=cb_ HB tK;replace tL:=cb_ HB tL;replace tr:=cb_ HB tr;have ut:=am_ tC;have uq:=am_ tF;clear tC tF;obtain⟨ua,ub⟩:=tt_ ua ub;have ea_:=Option.some.inj (tm.symm.trans tr);injection ea_ with ea_ en_ ec_;subst ea_;subst ec_;clear en_)|((with_reducible refine aY (b:=.append) (xs:=#[.tmp 39,.tmp 46]) rfl ?_);at_builtin;refine Kd.R_append Kd.string (w0:=w) w.heap.size rfl (.tmp 39) (.tmp 46) 30 9 (.string ⟨#[]⟩) 16 rfl Tryz.underlying30 eE rfl ap aw u7 tx ((aj l0_2 tl).f1) [.string ((aj l0_2 tl).f1)] (fun _=>True) (fun _=>False) rfl rfl ?aP (fun _ hk=>hk.elim) ?aF ?aO ?aB ?aS ?aL ?_;(case aP=>exact rfl);(case aB=>exact fi);(case aF=>exact gU);(case aO=>exact(aR_ Z5.out));(case aS=>exact fh);(case aL=>have:=uh.out;omega);intro vu vw ho hb hg hat;rw[← ui.out] at ho;replace tk:=am_ (bP (g:=tN) (o:=.cells #[.slice A0_0 l0_0.length c0_0,.slice A0_1 l0_1.length c0_1,.slice (some tM) l0_2.length c0_2,.int .i64 a0_3] 27 (0,0)) (pb_ tk) hg (Kd.R_ne Z5.out tk.out ap));replace HB:=am_ (hb);have ug:=am_ (ho);clear Z5 ho hb hg hat))
       go_roundg k1
       case measure=>have:=HK1.out;omega
       case rel=>exact⟨(vl),(wrap64 (tl+1)),u4_,H',⟨dH⟩,⟨aR_ ug.out⟩,⟨pb_ tk⟩,⟨bw_ HB⟩⟩
     ·rw[if_neg tU] at H;have tv:=cO tU;have um:=cQ tU;have H':=am_ H;clear H;(first | rw[tv] | (simp only[aC,aG];rw[tv]) | skip)
      go_wp2;go_roundg k1
      case measure=>have:=HK1.out;omega
      case rel=>exact⟨(tx),(wrap64 (tl+1)),u4_,H',⟨dH⟩,⟨aR_ Z5.out⟩,⟨pb_ tk⟩,⟨bw_ HB⟩⟩
    ·rw[if_neg ue] at H;have ul:=decide_eq_false ue;clear ue;obtain rfl:=si_ H;obtain⟨uy,uz,uA,uB,uK,uL,uM,uN⟩:=dx tk.out;go_wp2;go_ret
     exact⟨_,u1_,aR_ Z5.out,bw_ HB⟩
def cm.l0:Nat→ByteArray→Int→Int→Option (Bool)
 | 0,_,_,_=>none
 | k+1,x0,x5,x6=>if x6<x5 then(if 0≤x6 then(if x6<(x0.size:Int) then((cM.f (bt x0 x6)).bind fun tk=>(if tk=true then(cm.l0 k x0 x5 (wrap64 (x6+1))) else(some false))) else(none)) else(none)) else(some (x0.toList != ([] : List UInt8)))
def cm.f (k:Nat) (a0:ByteArray):Option (Bool):=cm.l0 k a0 (a0.size:Int) 0
theorem cm.calls (k:Nat) (a0:ByteArray) (r:Bool) (w:World) (h:cm.f k a0=some r) :
  Calls Tryz.prog 45 #[.string a0] w fun e w'=>e = .returned (.bool r)∧Drawn0 w w':=by
 have H:=h;clear h;unfold cm.f at H
 have H':=am_ H;clear H;go_enter Tryz.func45,Tryz.ntmps45
 go_wp2;go_loopg [6] k (fun kq v6 w'=>∃(tk:Int),v6 = .int .i64 tk∧aa (cm.l0 kq a0 (a0.size:Int) tk=some r)∧aa (kq≤k)∧Drawn0 w w')
 case atStart=>exact⟨(0),u4_,H',⟨Nat.le_refl _⟩,u7_⟩
 case round=>
  clear H';obtain⟨tk,rfl,HA,HK1,⟨m1,rfl⟩⟩:=hrel;cases gk with
  | zero=>exact absurd HA.out (by simp[cm.l0])
  | succ k1=>
   have H:=HA.out;clear HA;simp only[cm.l0] at H;by_cases c2:tk<(a0.size:Int)
   ·rw[if_pos c2] at H;have tl:=decide_eq_true c2;clear c2;obtain⟨tn,H⟩:=gd_ H;obtain⟨tq,H⟩:=gd_ H;obtain⟨tm,A6,H⟩:=bi_ H;have HC_:=am_ H;clear H;obtain⟨p5,q5⟩:=pq_ tk a0.size;have tr:=d8 a0 tk;obtain⟨p5,q5⟩:=tt_ p5 q5;have H:=HC_.out;clear HC_;cases tm
    ·replace H:=hf_ H;obtain rfl:=si_ H;go_wp2_with (first | ((with_reducible refine gt_ 12 ?_);refine gD_ 12 Tryz.func90 (cM.calls (bt a0 tk) false _ A6.out) ?_;intro nd))
     go_ret
     exact⟨u9_,u7_⟩
    ·replace H:=ht_ H;have H':=am_ H;clear H;go_wp2_with (first | ((with_reducible refine gt_ 12 ?_);refine gD_ 12 Tryz.func90 (cM.calls (bt a0 tk) true _ A6.out) ?_;intro nd))
     go_roundg k1
     case measure=>have:=HK1.out;omega
     case rel=>exact⟨(wrap64 (tk+1)),u4_,H',⟨dH⟩,u7_⟩
   ·rw[if_neg c2] at H;have tl:=decide_eq_false c2;clear c2;obtain rfl:=si_ H;go_wp2;go_ret
    exact⟨u9_,u7_⟩
def da.f (k:Nat) (a0:ByteArray):Option (Bool):=(cm.f k a0).bind fun tk=>(if tk=true then((b7.f k a0).bind fun tl=>(some (tl.toList == a0.toList))) else(some false))
theorem da.calls (k:Nat) (a0:ByteArray) (r:Bool) (w:World) (hG:StopsIn w) (h:da.f k a0=some r) :
  Calls Tryz.prog 13 #[.string a0] w fun e w'=>e = .returned (.bool r)∧Below w.heap.size w w':=by
 have HG_:=am_ hG;clear hG;have HB:=am_ (Below.refl w.heap.size w);have H:=h;clear h;unfold da.f at H
 obtain⟨tk,A2,H⟩:=bi_ H;cases tk
 ·replace H:=hf_ H;obtain rfl:=si_ H;go_enter Tryz.func13,Tryz.ntmps13
  go_wp2_with (first | ((with_reducible refine gt_ 4 ?_);refine gD_ 4 Tryz.func45 (cm.calls k a0 false _ A2.out) ?_;intro nd))
  go_ret
  exact⟨u1_,bw_ HB⟩
 ·replace H:=ht_ H;obtain⟨tl,A4,H⟩:=bi_ H;obtain rfl:=si_ H;go_enter Tryz.func13,Tryz.ntmps13
  go_wp2_with (first | ((with_reducible refine gt_ 4 ?_);refine gD_ 4 Tryz.func45 (cm.calls k a0 true _ A2.out) ?_;intro nd)|(go_at_call 46;(with_reducible refine(b7.calls k a0 tl _ ?side1 A4.out).mono ?_);(case side1=>exact fQ);rintro e w5 ⟨rfl,hb⟩;replace HB:=bs_ HB hb;(try clear hb)))
  go_ret
  exact⟨u1_,bw_ HB⟩
mutual
def am.l0:Nat→ByteArray→ByteArray→List (S50)→List (S76)→Int→Int→Option ((List (S50)))
 | 0,_,_,_,_,_,_=>none
 | k+1,x1,x2,x7,tl,tm,tk=>if tk<tm then(if 0≤tk then(if tk<(tl.length:Int) then(if((aj tl tk).f0).toList=x1.toList then(am.j1 k x1 x2 x7 tl tm tk (((aj tl tk).f1).toList != x2.toList) ((aj tl tk).f0) ((aj tl tk).f1) ((aj tl tk).f2)) else(am.j1 k x1 x2 x7 tl tm tk true ((aj tl tk).f0) ((aj tl tk).f1) ((aj tl tk).f2))) else(none)) else(none)) else(some x7)
def am.j1:Nat→ByteArray→ByteArray→List (S50)→List (S76)→Int→Int→Bool→ByteArray→ByteArray→List (S50)→Option ((List (S50)))
 | 0,_,_,_,_,_,_,_,_,_,_=>none
 | k+1,x1,x2,x7,tn,tq,tr,tu,tl,tm,tk=>if tu=true then(am.l0 k x1 x2 x7 tn tq (wrap64 (tr+1))) else(am.l1 k x1 x2 x7 tn tq tr tk (tk.length:Int) 0)
def am.l1:Nat→ByteArray→ByteArray→List (S50)→List (S76)→Int→Int→List (S50)→Int→Int→Option ((List (S50)))
 | 0,_,_,_,_,_,_,_,_,_=>none
 | k+1,x1,x2,x7,tn,tq,tr,tl,tu,tk=>if tk<tu then(if 0≤tk then(if tk<(tl.length:Int) then((some (([] : List Int):List Int)).bind fun tm=>(if tm.length+((aT tl tk).f1).length<17592186044416 then(if x7.length<4398046511104 then(am.l1 k x1 x2 (x7 ++ [(⟨(aT tl tk).f0,(tm ++ ((aT tl tk).f1))⟩:S50)]) tn tq tr tl tu (wrap64 (tk+1))) else(none)) else(none))) else(none)) else(none)) else(am.l0 k x1 x2 x7 tn tq (wrap64 (tr+1)))
end
def am.f (k:Nat) (l0_0:List (S92)) (l0_1:List (S46)) (l0_2:List (S76)) (a0_3:Int) (a1:ByteArray) (a2:ByteArray):Option ((List (S50))):=(some (([] : List (S50)):List (S50))).bind fun tk=>((aq.f k l0_0 l0_1 l0_2 a0_3).bind fun tl=>(if tl=true then(am.l0 k a1 a2 tk l0_2 (l0_2.length:Int) 0) else(some tk)))
def am.T11:Bool × List (List Nat × List Nat):=(true,[([],[]),([],[]),([1],[1]),([],[]),([],[]),([4],[4]),([3,5],[3,5]),([2,6],[2,6]),([7],[7]),([0,8,6],[0,8]),([9,9,0,1,2,3,4,5,6,7,8,9],[0,9])])
def am.B11:List Nat:=[0,0,2,0,0,16,56,126,254,511,1023]
theorem am.tab11:dC .any (fk Tryz.f14 11)=am.T11:=by kernel_rfl
theorem am.bits11:dc am.T11.2 am.B11=true:=by kernel_rfl
theorem am.calls (k:Nat) (A0_0:Option Addr) (c0_0:Nat) (l0_0:List (S92)) (A0_1:Option Addr) (c0_1:Nat) (l0_1:List (S46)) (A0_2:Option Addr) (c0_2:Nat) (l0_2:List (S76)) (a0_3:Int) (a1:ByteArray) (a2:ByteArray) (r:List (S50)) (w:World) (hG:StopsIn w) (hr0_0:Kd.C k92 w A0_0 l0_0.length l0_0) (hc0_0:l0_0.length≤c0_0) (hr0_1:Kd.C k46 w A0_1 l0_1.length l0_1) (hc0_1:l0_1.length≤c0_1) (hr0_2:Kd.C k76 w A0_2 l0_2.length l0_2) (hc0_2:l0_2.length≤c0_2) (h:am.f k l0_0 l0_1 l0_2 a0_3 a1 a2=some r) :
  Calls Tryz.prog 14 #[.agg #[.slice A0_0 l0_0.length c0_0,.slice A0_1 l0_1.length c0_1,.slice A0_2 l0_2.length c0_2,.int .i64 a0_3],.string a1,.string a2] w fun e w'=>∃v0_:Value,e = .returned (v0_)∧Kd.S k50 50 w' w.heap.size (fun _=>True) v0_ r∧Below w.heap.size w w':=by
 have hu27:=Tryz.underlying27;have hu76:=Tryz.underlying76;have hu50:=Tryz.underlying50;have HG_:=am_ hG;clear hG;have uH:=am_ hr0_0;have uE:=am_ hc0_0;clear hr0_0 hc0_0;have uI:=am_ hr0_1;have uF:=am_ hc0_1;clear hr0_1 hc0_1;have ur:=am_ hr0_2;have uG:=am_ hc0_2;clear hr0_2 hc0_2;have HB:=am_ (Below.refl w.heap.size w);have H:=h;clear h;unfold am.f at H
 obtain⟨uV,tP⟩:∃y_:List (S50),y_=(([] : List (S50))):=⟨_,rfl⟩;replace H:((aq.f k l0_0 l0_1 l0_2 a0_3).bind fun uU=>(if uU=true then(am.l0 k a1 a2 uV l0_2 (l0_2.length:Int) 0) else(some uV)))=some r:=by first | (rw[tP];with_reducible exact H)|(have H2_:=(Option.bind_some _ _).symm.trans H;rw[tP];with_reducible exact H2_)|(have H2_:=(Option.bind_some _ _).symm.trans H;with_reducible exact H2_) | with_reducible exact H | (rw[tP];exact H) | exact H
 have t7:=am_ tP;clear tP;obtain⟨uU,A4,H⟩:=bi_ H;cases uU
 ·replace H:=hf_ H;obtain rfl:=si_ H;go_enter Tryz.func14,Tryz.ntmps14
  go_wp2_with (first | ((with_reducible refine gt_ 3 ?_);refine bx_ 3 #[.slice A0_0 l0_0.length c0_0,.slice A0_1 l0_1.length c0_1,.slice A0_2 l0_2.length c0_2,.int .i64 a0_3] 27 ?_;intro tB hg wO hbox hb;have tk:=am_ (hbox);have uZ:=gw_ HB hg;replace HB:=bs_ HB hb;clear hb hbox hg)|((with_reducible refine aA (N:=12) rfl ?_);refine Kd.S_lit k50 _ 50 ?hg (N:=12) ?hd (xs:=([] : List (S50))) (inner:=[]) (ok:=fun _=>True) (okp:=fun _=>True) ?hr ?hp (fun _ hk=>hk) trivial (Below.refl _ _) (Nat.le_refl _) bb ?_;(case hd=>rfl);(case hg=>rfl);(case hr=>exact bL);(case hp=>exact fj);intro wb wP ho45 hb hg_ hnew_;clear hg_ hnew_;(first | rw[← t7.out] at ho45 | (simp only[Int.reduceToNat] at ho45;rw[← t7.out] at ho45));have tA:=am_ (Kd.S_lower ho45 (ar (bw_ HB)));replace tk:=bb_ tk hb;replace HB:=bs_ HB hb;clear hb ho45;obtain⟨vH,vI,vJ,vK,vV,vW,vX,vY⟩:=dx tk.out)|((with_reducible refine gt_ 14 ?_);refine gB_ 14 Tryz.func25 (aq.calls k _ _ l0_0 _ _ l0_1 _ _ l0_2 a0_3 false _ ?side1 (kc_ uH HB) uE.out (kc_ uI HB) uF.out (kc_ ur HB) uG.out A4.out) ?_;(case side1=>exact fQ);intro wQ hb;replace tA:=am_ (Kd.S_below (aS_ tA.out) hb);replace HB:=bs_ HB hb;(try clear hb)))
  go_ret
  exact⟨_,u1_,aS_ tA.out,bw_ HB⟩
 ·replace H:=ht_ H;have H':=am_ H;clear H;go_enter Tryz.func14,Tryz.ntmps14
  go_wp2_with (first | ((with_reducible refine gt_ 3 ?_);refine bx_ 3 #[.slice A0_0 l0_0.length c0_0,.slice A0_1 l0_1.length c0_1,.slice A0_2 l0_2.length c0_2,.int .i64 a0_3] 27 ?_;intro tB hg w6 hbox hb;have tk:=am_ (hbox);have uZ:=gw_ HB hg;replace HB:=bs_ HB hb;clear hb hbox hg)|((with_reducible refine aA (N:=12) rfl ?_);refine Kd.S_lit k50 _ 50 ?hg (N:=12) ?hd (xs:=([] : List (S50))) (inner:=[]) (ok:=fun _=>True) (okp:=fun _=>True) ?hr ?hp (fun _ hk=>hk) trivial (Below.refl _ _) (Nat.le_refl _) bb ?_;(case hd=>rfl);(case hg=>rfl);(case hr=>exact bL);(case hp=>exact fj);intro wb w7 ho8 hb hg_ hnew_;clear hg_ hnew_;(first | rw[← t7.out] at ho8 | (simp only[Int.reduceToNat] at ho8;rw[← t7.out] at ho8));have tA:=am_ (Kd.S_lower ho8 (ar (bw_ HB)));replace tk:=bb_ tk hb;replace HB:=bs_ HB hb;clear hb ho8;obtain⟨tR,tS,tT,tU,tV,tW,tX,tY⟩:=dx tk.out)|((with_reducible refine gt_ 14 ?_);refine gB_ 14 Tryz.func25 (aq.calls k _ _ l0_0 _ _ l0_1 _ _ l0_2 a0_3 true _ ?side1 (kc_ uH HB) uE.out (kc_ uI HB) uF.out (kc_ ur HB) uG.out A4.out) ?_;(case side1=>exact fQ);intro wI hb;replace tA:=am_ (Kd.S_below (aS_ tA.out) hb);replace tk:=bb_ tk hb;replace HB:=bs_ HB hb;(try clear hb);obtain⟨tC,tD,tE,tF,tG,tH,tI,tJ⟩:=dx tk.out))
  go_loopg [7,20] k (fun kq v7 wC w'=>∃(tZ:List (S50)) (Z6:Int),wC = .int .i64 Z6∧aa (am.l0 kq a1 a2 tZ l0_2 (l0_2.length:Int) Z6=some r)∧aa (kq≤k)∧aa (Kd.S k50 50 w' w.heap.size (fun _=>True) v7 tZ)∧aa (w'.heap[tB]? = some (.cells #[(.slice A0_0 l0_0.length c0_0),(.slice A0_1 l0_1.length c0_1),(.slice A0_2 l0_2.length c0_2),.int .i64 a0_3] 27 (0,0)))∧aa (Below w.heap.size w w'))
  case atStart=>exact⟨(uV),(0),u4_,H',⟨Nat.le_refl _⟩,⟨aS_ tA.out⟩,⟨pb_ tk⟩,⟨bw_ HB⟩⟩
  case round=>
   clear H';try clear tC tD tE tF tG tH tI tJ
   try clear tR tS tT tU tV tW tX tY
   obtain⟨tZ,Z6,rfl,HA,HK1,Z5,tk,HB⟩:=hrel;cases gk with
   | zero=>exact absurd HA.out (by simp[am.l0])
   | succ k1=>
    have H:=HA.out;clear HA;simp only[am.l0] at H;by_cases uK:Z6<(l0_2.length:Int)
    ·rw[if_pos uK] at H;have ut:=decide_eq_true uK;clear uK;obtain⟨uL,H⟩:=gd_ H;obtain⟨uM,H⟩:=gd_ H;have uP:=am_ H;clear H;obtain⟨tN,YT,Zf,vZ,tw,tx,tz,uh,uf⟩:=eB ur.out Z6 od_ od_;cases vZ;replace tw:=cb_ HB tw;replace tx:=cb_ HB tx;replace tz:=cb_ HB tz;have uv:=am_ uf;have vv:=am_ uh;clear uf uh;obtain⟨vr,vu⟩:=pt_ Z6 l0_2.length;go_upto_region 7 with (first | ((with_reducible refine gt_ 9 ?_);refine bx_ 9 #[.string (⟨#[]⟩:ByteArray),.string (⟨#[]⟩:ByteArray),.slice none 0 0] 76 ?_;intro Zd hg wJ hbox hb;replace Z5:=am_ (Kd.S_below (aS_ Z5.out) hb);have ZS:=am_ (hbox);have wg:=gw_ HB hg;replace HB:=bs_ HB hb;have tu:=nl_ tk hg;have tv:=ng_ tk hg;replace tk:=bb_ tk hb;clear hb hbox hg;have wk:=tv.out;have wu:=tu.out;obtain⟨t8,ua,ub,uc,ud,ue⟩:=dm ZS.out))
     (try simp only[Act.put,List.setIfInBounds_toArray,List.set_cons_zero,List.set_cons_succ])
     go_cut [33] (fun wD wc=>∃(kq:Nat) (tK:Bool),wD = .bool tK∧aa (am.j1 kq a1 a2 tZ l0_2 (l0_2.length:Int) Z6 tK ((aj l0_2 Z6).f0) ((aj l0_2 Z6).f1) ((aj l0_2 Z6).f2)=some r)∧aa (kq≤k1)∧aa (Kd.S k50 50 wc w.heap.size (fun _=>True) u7 tZ)∧aa (wc.heap[tB]? = some (.cells #[(.slice A0_0 l0_0.length c0_0),(.slice A0_1 l0_1.length c0_1),(.slice (some tN) l0_2.length c0_2),.int .i64 a0_3] 27 (0,0)))∧aa (wc.heap[Zd]? = some (.cells #[.string ((aj l0_2 Z6).f0),.string ((aj l0_2 Z6).f1),(.slice YT ((aj l0_2 Z6).f2).length Zf)] 76 (0,0)))∧aa (Below w.heap.size w wc))
     case first=>
      have H:=uP.out;clear uP;by_cases uQ:((aj l0_2 Z6).f0).toList=a1.toList
      ·rw[if_pos uQ] at H;have tO:=cW uQ;have vn:=cX uQ;clear uQ;(first | rw[tO] | (simp only[aC,aG];rw[tO]) | skip)
       have H':=am_ H;clear H;have wl:=tv.out;have wv:=tu.out;obtain⟨vx,vy,vz,vM,vN,vO⟩:=dm ZS.out;go_wp2;go_meet
       case rel=>exact⟨_,((((aj l0_2 Z6).f1).toList != a2.toList)),u4_,H',⟨kL⟩,⟨u150_⟩,⟨pb_ tk⟩,⟨pb_ ZS⟩,⟨bw_ HB⟩⟩
      ·rw[if_neg uQ] at H;have tO:=cO uQ;have vn:=cQ uQ;(first | rw[tO] | (simp only[aC,aG];rw[tO]) | skip)
       have H':=am_ H;clear H;have wm:=tv.out;have ww:=tu.out;obtain⟨vA,vB,vD,vP,vQ,vS⟩:=dm ZS.out;go_wp2;go_meet
       case rel=>exact⟨_,(true),u4_,H',⟨kL⟩,⟨u150_⟩,⟨pb_ tk⟩,⟨pb_ ZS⟩,⟨bw_ HB⟩⟩
     case rest=>
      clear uP;try clear uK
      try clear ut
      try clear uL
      try clear uM
      try clear tC tD tE tF tG tH tI tJ
      try clear t8 ua ub uc ud ue
      try clear tR tS tT tU tV tW tX tY
      try clear tw
      try clear tx
      try clear tz
      try clear vr
      try clear vu
      obtain⟨kq,tK,rfl,HA,ul,Z5,tk,ZS,HB⟩:=hcut;cases kq with
      | zero=>exact absurd HA.out (by simp[am.j1])
      | succ uR=>
       have H:=HA.out;clear HA;simp only[am.j1] at H;cases tK
       ·replace H:=hf_ H;have H':=am_ H;clear H;have wn:=tv.out;have wy:=tu.out;obtain⟨ux,uy,uz,uA,uB,uC⟩:=dm ZS.out;go_wp2;go_loopg [7,37] uR (fun kq v7 wE w'=>∃(tL:List (S50)) (tl:Int),wE = .int .i64 tl∧aa (am.l1 kq a1 a2 tL l0_2 (l0_2.length:Int) Z6 ((aj l0_2 Z6).f2) (((aj l0_2 Z6).f2).length:Int) tl=some r)∧aa (kq≤uR)∧aa (Kd.S k50 50 w' w.heap.size (fun _=>True) v7 tL)∧aa (w'.heap[tB]? = some (.cells #[(.slice A0_0 l0_0.length c0_0),(.slice A0_1 l0_1.length c0_1),(.slice (some tN) l0_2.length c0_2),.int .i64 a0_3] 27 (0,0)))∧aa (w'.heap[Zd]? = some (.cells #[.string ((aj l0_2 Z6).f0),.string ((aj l0_2 Z6).f1),(.slice YT ((aj l0_2 Z6).f2).length Zf)] 76 (0,0)))∧aa (Below w.heap.size w w'))
        case atStart=>exact⟨(tZ),(0),u4_,H',⟨Nat.le_refl _⟩,⟨aS_ Z5.out⟩,⟨pb_ tk⟩,⟨pb_ ZS⟩,⟨bw_ HB⟩⟩
        case round=>
         clear H';try clear uK
         try clear ut
         try clear uL
         try clear uM
         try clear tC tD tE tF tG tH tI tJ
         try clear t8 ua ub uc ud ue
         try clear ux uy uz uA uB uC
         try clear tR tS tT tU tV tW tX tY
         try clear tw
         try clear tx
         try clear tz
         try clear vr
         try clear vu
         obtain⟨tL,tl,rfl,HA,HK3,Z5,tk,ZS,HB⟩:=hrel;cases gk with
         | zero=>exact absurd HA.out (by simp[am.l1])
         | succ k3=>
          have H:=HA.out;clear HA;simp only[am.l1] at H;by_cases uW:tl<(((aj l0_2 Z6).f2).length:Int)
          ·rw[if_pos uW] at H;have vo:=decide_eq_true uW;clear uW;obtain⟨wi,H⟩:=gd_ H;obtain⟨wj,H⟩:=gd_ H;obtain⟨uD,tQ⟩:∃y_:List Int,y_=(([] : List Int)):=⟨_,rfl⟩;replace H:(if uD.length+((aT ((aj l0_2 Z6).f2) tl).f1).length<17592186044416 then(if tL.length<4398046511104 then(am.l1 k3 a1 a2 (tL ++ [(⟨(aT ((aj l0_2 Z6).f2) tl).f0,(uD ++ ((aT ((aj l0_2 Z6).f2) tl).f1))⟩:S50)]) l0_2 (l0_2.length:Int) Z6 ((aj l0_2 Z6).f2) (((aj l0_2 Z6).f2).length:Int) (wrap64 (tl+1))) else(none)) else(none))=some r:=by first | (rw[tQ];with_reducible exact H)|(have H2_:=(Option.bind_some _ _).symm.trans H;rw[tQ];with_reducible exact H2_)|(have H2_:=(Option.bind_some _ _).symm.trans H;with_reducible exact H2_) | with_reducible exact H | (rw[tQ];exact H) | exact H
           have uJ:=am_ tQ;clear tQ;obtain⟨u9,H⟩:=gl_ H;generalize uN:((uD ++ ((aT ((aj l0_2 Z6).f2) tl).f1)):List Int)=uu at H;have vl:=am_ uN.symm;clear uN;obtain⟨vk,H⟩:=gl_ H;generalize uO:((tL ++ [(⟨(aT ((aj l0_2 Z6).f2) tl).f0,uu⟩:S50)]):List (S50))=we at H;have vm:=am_ uO.symm;clear uO;have H':=am_ H;clear H;have uS:0≤(tl:Int):=od_;have uT:tl<(((aj l0_2 Z6).f2).length:Int):=od_;obtain⟨us,tq,tr,wa,uj,uk,ui,ug⟩:=kj uv.out tl uS uT;cases wa;replace uj:=cb_ HB uj;replace uk:=cb_ HB uk;have uw:=am_ ug;have vw:=am_ ui;clear ug ui;obtain⟨uS,uT⟩:=tt_ uS uT;try go_wp2_with (first | ((with_reducible refine gt_ 11 ?_);refine bx_ 11 #[.int .i64 0,.slice none 0 0] 50 ?_;intro tn hg uX hbox hb;replace Z5:=am_ (Kd.S_below (Kd.S_elderB (aS_ Z5.out) tn (Nat.le_of_eq hg.symm)) hb);have tm:=am_ (hbox);have wh:=gw_ HB hg;replace HB:=bs_ HB hb;have um:=nl_ tk hg;have uo:=ng_ tk hg;replace tk:=bb_ tk hb;have un:=nl_ ZS hg;have uq:=ng_ ZS hg;replace ZS:=bb_ ZS hb;clear hb hbox hg;have wo:=uo.out;have wz:=um.out;have wt:=uq.out;have wA:=un.out;obtain⟨vE,vG,vT,vU⟩:=b6 tm.out))
           have n0_:aa (Kd.S k50 50 ((uX.setCell ⟨tn,0,none⟩ (.int .i64 ((aT ((aj l0_2 Z6).f2) tl).f0))).setCell ⟨tn,1,none⟩ (.slice tq ((aT ((aj l0_2 Z6).f2) tl).f1).length tr)) w.heap.size (fun k_=>k_≠tn) u7 tL):=⟨by(with_reducible repeat (first | apply Kd.S_alloc | apply Kd.S_drewN | apply Kd.S_drew));exact Kd.S_mono (Kd.S_far (p:=⟨tn,1,none⟩) (Kd.S_far (p:=⟨tn,0,none⟩) (Kd.S_mono Z5.out (fun k_ hk=>(⟨hk,hk.2⟩:_∧k_≠tn))) (fun _ hk=>hk.2) (.int .i64 ((aT ((aj l0_2 Z6).f2) tl).f0))) (fun _ hk=>hk.2) (.slice tq ((aT ((aj l0_2 Z6).f2) tl).f1).length tr)) (fun _ hk=>hk.1.2)⟩;have n1_:aa (((uX.setCell ⟨tn,0,none⟩ (.int .i64 ((aT ((aj l0_2 Z6).f2) tl).f0))).setCell ⟨tn,1,none⟩ (.slice tq ((aT ((aj l0_2 Z6).f2) tl).f1).length tr)).heap[tB]? = some (.cells #[.slice A0_0 l0_0.length c0_0,.slice A0_1 l0_1.length c0_1,.slice (some tN) l0_2.length c0_2,.int .i64 a0_3] 27 (0,0))):=⟨pb_ tk⟩;have n2_:aa (((uX.setCell ⟨tn,0,none⟩ (.int .i64 ((aT ((aj l0_2 Z6).f2) tl).f0))).setCell ⟨tn,1,none⟩ (.slice tq ((aT ((aj l0_2 Z6).f2) tl).f1).length tr)).heap[Zd]? = some (.cells #[.string ((aj l0_2 Z6).f0),.string ((aj l0_2 Z6).f1),.slice (some us) ((aj l0_2 Z6).f2).length Zf] 76 (0,0))):=⟨pb_ ZS⟩;have n3_:aa (((uX.setCell ⟨tn,0,none⟩ (.int .i64 ((aT ((aj l0_2 Z6).f2) tl).f0))).setCell ⟨tn,1,none⟩ (.slice tq ((aT ((aj l0_2 Z6).f2) tl).f1).length tr)).heap[tn]? = some (.cells #[.int .i64 ((aT ((aj l0_2 Z6).f2) tl).f0),.slice tq ((aT ((aj l0_2 Z6).f2) tl).f1).length tr] 50 (0,0))):=⟨pb_ tm⟩;have n4_:aa (Below w.heap.size w ((uX.setCell ⟨tn,0,none⟩ (.int .i64 ((aT ((aj l0_2 Z6).f2) tl).f0))).setCell ⟨tn,1,none⟩ (.slice tq ((aT ((aj l0_2 Z6).f2) tl).f1).length tr))):=⟨bw_ HB⟩;(try clear Z5)
           (try clear tk)
           (try clear ZS)
           (try clear tm)
           (try clear HB)
           generalize ((uX.setCell ⟨tn,0,none⟩ (.int .i64 ((aT ((aj l0_2 Z6).f2) tl).f0))).setCell ⟨tn,1,none⟩ (.slice tq ((aT ((aj l0_2 Z6).f2) tl).f1).length tr))=wH at n0_ n1_ n2_ n3_ n4_ ⊢;have Z5:=n0_;have tk:=n1_;have ZS:=n2_;have tm:=n3_;have HB:=n4_;clear n0_ n1_ n2_ n3_ n4_;replace Z5:=am_ (Kd.S_drew Z5.out);replace tk:=am_ (bf tk.out);replace ZS:=am_ (bf ZS.out);replace tm:=am_ (bf tm.out);replace HB:=am_ (au HB.out);refine cN (n:=11) (S:=fun w'=>w'.cell? ⟨tn,0,none⟩=some (.int .i64 ((aT ((aj l0_2 Z6).f2) tl).f0))∧w'.cell? ⟨tn,1,none⟩=some (.slice tq ((aT ((aj l0_2 Z6).f2) tl).f1).length tr)) (ds:=[]) (bm_ 11 0) bT rfl rfl ⟨bc_ tm 0,bc_ tm 1⟩ (fun hHeld=>?_);refine bu am.tab11 am.bits11 (fun HT_ HW_=>?_);generalize wH.drew=wK at Z5 tk ZS tm HB hHeld ⊢;refine pv_ 0 41 ?_;refine pv_ 1 42 ?_;refine pv_ 4 45 ?_;refine tv_ 2 43 ?_;refine tv_ 5 46 ?_;refine ov_ 3 44 (fun K hK=>?_);refine Kd.R_lit_step (Kd.int .i64) _ 3 ?hg (N:=44) ?hd (xs:=([] : List Int)) (inner:=[]) (ok:=fun _=>True) (okp:=fun _=>True) ?hr ?hp (fun _ hk=>hk) trivial (Below.refl _ _) (Nat.le_refl _) bb ?_;(case hd=>rfl);(case hg=>rfl);(case hr=>exact bL);(case hp=>exact fj);intro wd wL ho39 hb hg_ hnew_;clear hg_ hnew_;(first | rw[← uJ.out] at ho39 | (simp only[Int.reduceToNat] at ho39;rw[← uJ.out] at ho39))
           replace Z5:=am_ (Kd.S_elder' (aS_ Z5.out) (Kd.R_base ho39) hb);have tM:=am_ (Kd.R_lower ho39 (ar (bw_ HB)));replace tk:=bb_ tk hb;replace ZS:=bb_ ZS hb;replace tm:=bb_ tm hb;replace HB:=bs_ HB hb;clear hb ho39;refine hK.out _ _ ⟨bc_ tm 0,bc_ tm 1⟩ (fun hHeld=>?_);clear hK K;refine nm_ ?_;refine ov_ 6 47 (fun K hK=>?_);refine Kd.R_append_rows_step (Kd.int .i64) (w0:=w) w.heap.size ct (.tmp 44) (.tmp 46) 39 3 (.int .i64 0) 8 rfl Tryz.underlying39 rY rfl ap aw wd uD ((aT ((aj l0_2 Z6).f2) tl).f1) _ _ _ (fun _=>True) (fun _=>False) rfl rfl ?aO ?aR (fun _ _ h=>h) (fun _ h=>h.elim) ?aF ?aB ?aS ?aL ?_;(case aR=>exact(kc_ uw HB))
           (case aB=>exact fi)
           (case aF=>exact gU)
           (case aO=>exact(aR_ tM.out))
           (case aS=>exact fh)
           (case aL=>have:=u9.out;omega)
           intro wF wM ho hb hg hat;rw[← vl.out] at ho;replace Z5:=am_ (Kd.S_after (ok:=(fun k_=>k_≠tn)) (aS_ Z5.out) hg hat);replace tk:=am_ (bP (g:=tB) (o:=.cells #[.slice A0_0 l0_0.length c0_0,.slice A0_1 l0_1.length c0_1,.slice (some tN) l0_2.length c0_2,.int .i64 a0_3] 27 (0,0)) (pb_ tk) hg (Kd.R_ne tM.out tk.out ap));replace ZS:=am_ (bP (g:=Zd) (o:=.cells #[.string ((aj l0_2 Z6).f0),.string ((aj l0_2 Z6).f1),.slice (some us) ((aj l0_2 Z6).f2).length Zf] 76 (0,0)) (pb_ ZS) hg (Kd.R_ne tM.out ZS.out ap));replace tm:=am_ (bP (g:=tn) (o:=.cells #[.int .i64 ((aT ((aj l0_2 Z6).f2) tl).f0),.slice tq ((aT ((aj l0_2 Z6).f2) tl).f1).length tr] 50 (0,0)) (pb_ tm) hg (Kd.R_ne tM.out tm.out ap));replace HB:=am_ (hb);have t6:=am_ (ho);clear tM ho hb hg hat;obtain⟨uY,vp,vq⟩:=Kd.R_slice t6.out;(first | subst vq | (injection vq with f1_ f2_ f3_;have f4_:=f1_.symm;have f5_:=f3_.symm;clear f1_ f2_ f3_;subst f4_;subst f5_))
           refine hK.out _ _ ⟨bc_ tm 0,bc_ tm 1⟩ (fun hHeld=>?_);clear hK K;refine nm_ ?_;refine pv_ 7 48 ?_;refine ov_ 8 49 (fun K hK=>?_);refine jm (w1:=?_) (v:=?_) ct rfl ?_ ?_;rotate_left 2
           ·go_simp;constructor
            ·rfl
            ·rfl
           refine hK.out _ _ ⟨(a7 (cH tm.out _) 0).trans rfl,(a7 (cH tm.out _) 1).trans rfl⟩ (fun hHeld=>?_);clear hK K;refine nm_ ?_;refine ov_ 9 50 (fun K hK=>?_);refine Kd.S_append_step k50 (w0:=w) w.heap.size ct (.tmp 41) (.tmp 49) 34 50 (.agg #[(.int .i64 0),(.slice none 0 0)]) 32 rfl Tryz.underlying34 ou rfl ap aw u7 tL (⟨(aT ((aj l0_2 Z6).f2) tl).f0,uu⟩:S50) [.int .i64 ((aT ((aj l0_2 Z6).f2) tl).f0),.slice uY uu.length vp] (fun k_=>k_≠tn) (fun k_=>some k_=(.slice uY uu.length vp:Value).ownBlock) rfl rfl ?aP (fun k_ hk_=>((Kd.R_mono (ok':=fun k_=>((fun k_=>k_≠tn)) k_∧some k_≠(u7:Value).ownBlock) (Kd.R_types (Kd.R_apart' (t6.out) (Kd.S_typed Z5.out) ap) tm.out ap) (fun k_ hk=>⟨hk.2,hk.1.2⟩))).1 k_ hk_.symm) ?aF ?aO ?aB ?aS ?aL ?_;(case aP=>exact k7 _ _ _ (⟨(aT ((aj l0_2 Z6).f2) tl).f0,uu⟩:S50) (Kd.R_mono (Kd.R_tight rfl (Kd.R_mono (ok':=fun k_=>((fun k_=>k_≠tn)) k_∧some k_≠(u7:Value).ownBlock) (Kd.R_types (Kd.R_apart' (t6.out) (Kd.S_typed Z5.out) ap) tm.out ap) (fun k_ hk=>⟨hk.2,hk.1.2⟩))) (fun _ h_=>h_)))
           (case aB=>exact fi)
           (case aF=>exact(fun k_ hk=>Kd.freshB (g:=tn) (o:=.cells #[.int .i64 ((aT ((aj l0_2 Z6).f2) tl).f0),.slice tq ((aT ((aj l0_2 Z6).f2) tl).f1).length tr] 50 (0,0)) (pb_ tm) k_ hk))
           (case aO=>exact(by(with_reducible repeat (first | apply Kd.S_alloc | apply Kd.S_drewN | apply Kd.S_drew));exact Kd.S_mono Z5.out (fun k_ hk=>⟨hk.1,fun e_=>hk.2 e_⟩)))
           (case aS=>exact fh)
           (case aL=>have:=vk.out;omega)
           intro wG wN ho hb hg hat;rw[← vm.out] at ho;replace tk:=am_ (bP (g:=tB) (o:=.cells #[.slice A0_0 l0_0.length c0_0,.slice A0_1 l0_1.length c0_1,.slice (some tN) l0_2.length c0_2,.int .i64 a0_3] 27 (0,0)) (pb_ tk) hg (Kd.S_ne Z5.out tk.out ap));replace ZS:=am_ (bP (g:=Zd) (o:=.cells #[.string ((aj l0_2 Z6).f0),.string ((aj l0_2 Z6).f1),.slice (some us) ((aj l0_2 Z6).f2).length Zf] 76 (0,0)) (pb_ ZS) hg (Kd.S_ne Z5.out ZS.out ap));replace tm:=am_ (bP (g:=tn) (o:=.cells #[.int .i64 ((aT ((aj l0_2 Z6).f2) tl).f0),.slice tq ((aT ((aj l0_2 Z6).f2) tl).f1).length tr] 50 (0,0)) (pb_ tm) hg (Kd.S_away Z5.out (fun _ hk=>hk.1)));replace HB:=am_ (hb);have u6:=am_ (ho);clear Z5 t6 ho hb hg hat;refine hK.out _ _ ⟨bc_ tm 0,bc_ tm 1⟩ (fun hHeld=>?_);clear hK K;refine nm_ ?_;refine pv_ 10 7 ?_;refine dn_ HT_ ?_;try go_wp2
           go_roundg k3
           case measure=>have:=HK1.out;have:=ul.out;have:=HK3.out;omega
           case rel=>exact⟨(we),(wrap64 (tl+1)),u4_,H',⟨by have:=HK1.out;have:=ul.out;have:=HK3.out;omega⟩,⟨by(with_reducible repeat (first | apply Kd.S_alloc | apply Kd.S_drewN | apply Kd.S_drew));exact Kd.S_mono u6.out (fun _ hk=>trivial)⟩,⟨pb_ tk⟩,⟨pb_ ZS⟩,⟨bw_ HB⟩⟩
          ·rw[if_neg uW] at H;have vo:=decide_eq_false uW;clear uW;have H':=am_ H;clear H;go_wp2;go_roundg k3
           case measure=>have:=HK1.out;have:=ul.out;have:=HK3.out;omega
           case rel=>exact⟨(tL),(wrap64 (Z6+1)),u4_,H',⟨by have:=HK1.out;have:=ul.out;have:=HK3.out;omega⟩,⟨aS_ Z5.out⟩,⟨pb_ tk⟩,⟨bw_ HB⟩⟩
       ·replace H:=ht_ H;have H':=am_ H;clear H;go_wp2;go_roundg uR
        case measure=>have:=HK1.out;have:=ul.out;omega
        case rel=>exact⟨(tZ),(wrap64 (Z6+1)),u4_,H',⟨by have:=HK1.out;have:=ul.out;omega⟩,⟨aS_ Z5.out⟩,⟨pb_ tk⟩,⟨bw_ HB⟩⟩
    ·rw[if_neg uK] at H;have ut:=decide_eq_false uK;clear uK;obtain rfl:=si_ H;go_wp2;go_ret
     exact⟨_,u1_,aS_ Z5.out,bw_ HB⟩
mutual
def ab.l0:Nat→ByteArray→ByteArray→List ByteArray→List ByteArray→Int→Int→List (S92)→List (S46)→List (S76)→Int→Option (Bool)
 | 0,_,_,_,_,_,_,_,_,_,_=>none
 | k+1,x4,x5,x6,x7,x8,x9,tk,tl,tm,tn=>if x9<(x7.length:Int) then(if 0≤x9 then(if((bC ByteArray.empty x7 x9).size:Int)≥(x5.size:Int) then(if 0≤(x5.size:Int) then(if(x5.size:Int)≤((bC ByteArray.empty x7 x9).size:Int) then(ab.j1 k x4 x5 x6 x7 x8 x9 (((bC ByteArray.empty x7 x9).extract 0 ((x5.size:Int):Int).toNat).toList == x5.toList) tk tl tm tn) else(none)) else(none)) else(ab.j1 k x4 x5 x6 x7 x8 x9 false tk tl tm tn)) else(none)) else(some (x8 == (x6.length:Int)))
def ab.j1:Nat→ByteArray→ByteArray→List ByteArray→List ByteArray→Int→Int→Bool→List (S92)→List (S46)→List (S76)→Int→Option (Bool)
 | 0,_,_,_,_,_,_,_,_,_,_,_=>none
 | k+1,x4,x5,x6,x7,x8,x9,tq,tk,tl,tm,tn=>if tq=true then(if x8≥(x6.length:Int) then(some false) else(if 0≤x8 then(if x8<(x6.length:Int) then(if 0≤x9 then(if x9<(x7.length:Int) then(if(bC ByteArray.empty x6 x8).toList=(bC ByteArray.empty x7 x9).toList then(ab.j2 k x4 x5 x6 x7 (wrap64 (x8+1)) x9 tk tl tm tn) else(some false)) else(none)) else(none)) else(none)) else(none))) else(ab.j2 k x4 x5 x6 x7 x8 x9 tk tl tm tn)
def ab.j2:Nat→ByteArray→ByteArray→List ByteArray→List ByteArray→Int→Int→List (S92)→List (S46)→List (S76)→Int→Option (Bool)
 | 0,_,_,_,_,_,_,_,_,_,_=>none
 | k+1,x4,x5,x6,x7,x8,x9,tk,tl,tm,tn=>if x9>0 then(if 0≤(wrap64 (x9 - 1)) then(if(wrap64 (x9 - 1))<(x7.length:Int) then(if 0≤x9 then(if x9<(x7.length:Int) then(if((Op.bytesLess ((bC ByteArray.empty x7 (wrap64 (x9 - 1))).toList) ((bC ByteArray.empty x7 x9).toList))=true) then((da.f k (bC ByteArray.empty x7 x9)).bind fun tq=>(if tq=true then((am.f k tk tl tm tn x4 (bC ByteArray.empty x7 x9)).bind fun tr=>(if(tr.length:Int)=0 then(some false) else(ab.l0 k x4 x5 x6 x7 x8 (wrap64 (x9+1)) tk tl tm tn))) else(some false))) else(some false)) else(none)) else(none)) else(none)) else(none)) else(if 0≤x9 then(if x9<(x7.length:Int) then((da.f k (bC ByteArray.empty x7 x9)).bind fun tu=>(if tu=true then((am.f k tk tl tm tn x4 (bC ByteArray.empty x7 x9)).bind fun tv=>(if(tv.length:Int)=0 then(some false) else(ab.l0 k x4 x5 x6 x7 x8 (wrap64 (x9+1)) tk tl tm tn))) else(some false))) else(none)) else(none))
end
def ab.f (k:Nat) (l0:List Int):Option (Bool):=if(l0.length:Int)>1048576 then(some true) else((cA.f k l0).bind fun tk=>((ba.f k tk.1 tk.2.1 tk.2.2.1 tk.2.2.2.1 tk.2.2.2.2.1 tk.2.2.2.2.2).bind fun tl=>((bl.f k tk.1 tk.2.1 tk.2.2.1 tk.2.2.2.1 tk.2.2.2.2.1 tk.2.2.2.2.2).bind fun tm=>((bY.f k tl tm).bind fun tn=>(if tn=true then((ba.f k tk.1 tk.2.1 tk.2.2.1 tk.2.2.2.1 tk.2.2.2.2.1 (⟨#[]⟩:ByteArray)).bind fun tq=>(ab.l0 k tk.2.2.2.2.1 tk.2.2.2.2.2 tl tq 0 0 tk.1 tk.2.1 tk.2.2.1 tk.2.2.2.1)) else(some false))))))
def ab.T13:Bool × List (List Nat × List Nat):=(true,[([],[]),([],[]),([1],[1]),([0,2],[0,2]),([3],[3]),([4],[4]),([4],[4]),([5,6,4],[4,5,6]),([7,4],[4,7]),([4],[4]),([4],[4]),([9,10,4],[4,9,10]),([11,4],[4,11]),([8,12,4],[4,8,12]),([4,13],[4,13])])
def ab.B13:List Nat:=[0,0,2,7,15,31,31,127,255,31,31,1567,3615,8191,16383]
theorem ab.tab13:dC .any (fk Tryz.f3 13)=ab.T13:=by kernel_rfl
theorem ab.bits13:dc ab.T13.2 ab.B13=true:=by kernel_rfl
def ab.T16:Bool × List (List Nat × List Nat):=(true,[([],[]),([0],[0]),([1],[1]),([2],[2]),([2],[2]),([4,2],[2,4]),([3,5,2],[2,3,5]),([6,2],[2,6]),([2],[2]),([2],[2]),([8,9,2],[2,8,9]),([10,2],[2,10]),([7,11,2],[2,7,11]),([2,12],[2,12]),([13,2],[13]),([14],[14]),([14],[14]),([15,16,14],[14,15,16]),([17,14],[14,17]),([18,14,14],[14,18]),([19,14],[14,19]),([14,20],[14,20]),([21,19],[21]),([22],[22]),([22],[22]),([22],[22]),([22],[22]),([25,26,22],[22,25,26]),([27,22],[22,27]),([23,24,28,22,22],[22,23,24,28]),([29,22],[22,29]),([30,22],[22,30]),([22,31],[22,31])])
def ab.B16:List Nat:=[0,1,3,7,7,23,63,127,7,7,775,1799,4095,8191,16383,32767,32767,131071,262143,524287,1048575,2097151,4194303,8388607,8388607,8388607,8388607,109051903,243269631,536870911,1073741823,2147483647,4294967295]
theorem ab.tab16:dC .any (fk Tryz.f3 16)=ab.T16:=by kernel_rfl
theorem ab.bits16:dc ab.T16.2 ab.B16=true:=by kernel_rfl
theorem ab.calls (k:Nat) (A0:Option Addr) (c0:Nat) (l0:List Int) (r:Bool) (w:World) (hG:StopsIn w) (hr0:Kd.C (Kd.int .u8) w A0 l0.length l0) (hc0:l0.length≤c0) (h:ab.f k l0=some r) :
  Calls Tryz.prog 3 #[.slice A0 l0.length c0] w fun e w'=>e = .returned (.bool r)∧Below w.heap.size w w':=by
 have hu27:=Tryz.underlying27;have HG_:=am_ hG;clear hG;have ZD:=am_ hr0;have wQ:=am_ hc0;clear hr0 hc0;have HB:=am_ (Below.refl w.heap.size w);have H:=h;clear h;unfold ab.f at H
 by_cases c2:(l0.length:Int)>1048576
 ·rw[if_pos c2] at H;have uD:decide (1048576<(l0.length:Int))=true:=decide_eq_true c2;have uE:decide (1048576<l0.length)=true:=decide_eq_true aw;clear c2;obtain rfl:=si_ H;go_enter Tryz.func3,Tryz.ntmps3
  go_wp2;go_ret
  exact⟨u1_,bw_ HB⟩
 ·rw[if_neg c2] at H;have uD:decide (1048576<(l0.length:Int))=false:=decide_eq_false c2;have uE:decide (1048576<l0.length)=false:=decide_eq_false aw;clear c2;obtain⟨⟨ZX,ZU,ZQ,ZH,tE,tz⟩,A3,H⟩:=bi_ H;dsimp only at H;obtain⟨tq,A4,H⟩:=bi_ H;obtain⟨uF,A5,H⟩:=bi_ H;obtain⟨wJ,A6,H⟩:=bi_ H;cases wJ
  ·replace H:=hf_ H;obtain rfl:=si_ H;go_enter Tryz.func3,Tryz.ntmps3
   go_wp2_with (first | ((with_reducible refine gt_ 15 ?_);refine gf_ 15 Tryz.func9 (cA.calls k _ _ l0 ZX ZU ZQ ZH tE tz _ ?side1 wQ.out A3.out) ?_;(case side1=>exact u59_);rintro e yc ⟨uB,uW,wL,rfl,ho0,ho1,ho2,hb⟩;refine⟨_,rfl,?_⟩;have ZJ:=am_ (Kd.R_lower (Kd.R_mono (ok':=fun k_=>True) ho0 (fun _ hk_=>trivial)) (ar (bw_ HB)));have Zs:=am_ (Kd.N_lower (Kd.N_mono (ok':=fun k_=>some k_≠(uB:Value).ownBlock) ho1 (fun k_ hk_=>hk_.2)) (ar (bw_ HB)));have ZI:=am_ (Kd.V_lower (Kd.V_mono (ok':=fun k_=>some k_≠(uB:Value).ownBlock∧some k_≠(uW:Value).ownBlock) ho2 (fun k_ hk_=>⟨hk_.2.1,hk_.2.2⟩)) (ar (bw_ HB)));replace HB:=bs_ HB hb;(try clear hb);(try clear ho0);(try clear ho1);(try clear ho2))|((with_reducible refine aA (N:=3) rfl ?_);(try (refine bj ct ?_;dsimp only));refine bF ?hg (N:=3) ?hd (cs:=#[.slice none 0 0,.slice none 0 0,.slice none 0 0,.int .i64 0]) (t:=27) ?hr ?_;(case hd=>rfl);(case hg=>rfl);(case hr=>exact bL);intro Z7 hg yd hbox hb;replace ZJ:=am_ (Kd.R_below (aR_ ZJ.out) hb);replace Zs:=am_ (Kd.N_below (Kd.N_elderB u89_ Z7 (Nat.le_of_eq hg.symm)) hb);replace ZI:=am_ (Kd.V_below (Kd.V_elderB (aV_ ZI.out) Z7 (Nat.le_of_eq hg.symm)) hb);have tl:=am_ (hbox);have u6:=gw_ HB hg;replace HB:=bs_ HB hb;clear hb hbox hg;obtain⟨Y1,Y2,wy⟩:=Kd.R_slice ZJ.out;subst wy;obtain⟨vI,vJ,vK,vM,vS,vT,vU,vV⟩:=dx tl.out;obtain⟨YS,YY,wz⟩:=Kd.N_slice Zs.out;subst wz;obtain⟨YL,YR,wA⟩:=Kd.V_slice ZI.out;subst wA)|((with_reducible refine gt_ 22 ?_);refine gf_ 22 Tryz.func10 (ba.calls k _ _ ZX _ _ ZU _ _ ZQ ZH tE tz tq _ ?side1 ?side2 ?side3 ?side4 ?side5 ?side6 ?side7 A4.out) ?_;(case side1=>exact fQ);(case side2=>refine(Kd.R_reads' (e:=92) (base:=w.heap.size) (ok:=fun k_=>True) (n:=ZX.length) (c:=Y2) ?_).2.2;exact(aR_ (Kd.R_mono (Kd.R_far (p:=⟨Z7,3,none⟩) (Kd.R_far (p:=⟨Z7,2,none⟩) (Kd.R_far (p:=⟨Z7,1,none⟩) (Kd.R_far (p:=⟨Z7,0,none⟩) (Kd.R_types ZJ.out tl.out ap) (fun _ hk=>hk.2) (.slice Y1 ZX.length Y2)) (fun _ hk=>hk.2) (.slice YS ZU.length YY)) (fun _ hk=>hk.2) (.slice YL ZQ.length YR)) (fun _ hk=>hk.2) (.int .i64 ZH)) (fun _ h_=>h_.1))));(case side3=>exact oU);(case side4=>refine(Kd.N_reads' (e:=46) (base:=w.heap.size) (ok:=fun k_=>(some k_≠(.slice Y1 ZX.length Y2:Value).ownBlock∧k_≠Z7)) (n:=ZU.length) (c:=YY) ?_).2.2;exact u61_);(case side5=>exact oP);(case side6=>refine(Kd.V_reads' (e:=76) (base:=w.heap.size) (ok:=fun k_=>((some k_≠(.slice Y1 ZX.length Y2:Value).ownBlock∧some k_≠(.slice YS ZU.length YY:Value).ownBlock)∧k_≠Z7)) (n:=ZQ.length) (c:=YR) ?_).2.2;exact(aV_ (Kd.V_mono (Kd.V_far (p:=⟨Z7,3,none⟩) (Kd.V_far (p:=⟨Z7,2,none⟩) (Kd.V_far (p:=⟨Z7,1,none⟩) (Kd.V_far (p:=⟨Z7,0,none⟩) (Kd.V_mono ZI.out (fun k_ hk=>(⟨hk,hk.2⟩:_∧k_≠Z7))) (fun _ hk=>hk.2) (.slice Y1 ZX.length Y2)) (fun _ hk=>hk.2) (.slice YS ZU.length YY)) (fun _ hk=>hk.2) (.slice YL ZQ.length YR)) (fun _ hk=>hk.2) (.int .i64 ZH)) (fun _ h_=>h_.1))));(case side7=>exact o7);rintro e ye ⟨wM,rfl,ho0,hb⟩;refine⟨_,rfl,?_⟩;replace ZJ:=am_ (Kd.R_below (aR_ (Kd.R_mono (Kd.R_far (p:=⟨Z7,3,none⟩) (Kd.R_far (p:=⟨Z7,2,none⟩) (Kd.R_far (p:=⟨Z7,1,none⟩) (Kd.R_far (p:=⟨Z7,0,none⟩) (Kd.R_types ZJ.out tl.out ap) (fun _ hk=>hk.2) (.slice Y1 ZX.length Y2)) (fun _ hk=>hk.2) (.slice YS ZU.length YY)) (fun _ hk=>hk.2) (.slice YL ZQ.length YR)) (fun _ hk=>hk.2) (.int .i64 ZH)) (fun _ h_=>h_.1))) hb);replace Zs:=am_ (Kd.N_elder' u61_ (Kd.R_base ho0) hb);replace ZI:=am_ (Kd.V_elder' (aV_ (Kd.V_mono (Kd.V_far (p:=⟨Z7,3,none⟩) (Kd.V_far (p:=⟨Z7,2,none⟩) (Kd.V_far (p:=⟨Z7,1,none⟩) (Kd.V_far (p:=⟨Z7,0,none⟩) (Kd.V_mono ZI.out (fun k_ hk=>(⟨hk,hk.2⟩:_∧k_≠Z7))) (fun _ hk=>hk.2) (.slice Y1 ZX.length Y2)) (fun _ hk=>hk.2) (.slice YS ZU.length YY)) (fun _ hk=>hk.2) (.slice YL ZQ.length YR)) (fun _ hk=>hk.2) (.int .i64 ZH)) (fun _ h_=>h_.1))) (Kd.R_base ho0) hb);have tu:=am_ (Kd.R_lower ho0 (ar (bw_ HB)));replace tl:=am_ (bE (g:=Z7) (o:=.cells #[.slice Y1 ZX.length Y2,.slice YS ZU.length YY,.slice YL ZQ.length YR,.int .i64 ZH] 27 (0,0)) (pb_ tl) hb);replace HB:=bs_ HB hb;(try clear hb);(try clear ho0);obtain⟨vN,vO,vP,vQ,vW,vX,vY,vZ⟩:=dx tl.out)|((with_reducible refine gt_ 27 ?_);refine gf_ 27 Tryz.func12 (bl.calls k _ _ ZX _ _ ZU _ _ ZQ ZH tE tz uF _ (kR_ ZJ) ?side2 ?side3 ?side4 (kV_ ZI) ?side6 A5.out) ?_;(case side2=>exact oU);(case side3=>exact u85_);(case side4=>exact oP);(case side6=>exact o7);rintro e yf ⟨wN,rfl,ho0,hb⟩;refine⟨_,rfl,?_⟩;have tG:=am_ (Kd.R_lower (Kd.R_new' ho0 (Kd.R_lt (aR_ tu.out))) (ar (bw_ HB)));replace tu:=am_ (Kd.R_elder' (aR_ tu.out) (Kd.R_base ho0) hb);replace HB:=bs_ HB hb;(try clear hb);(try clear ho0);obtain⟨xn,xu,wC⟩:=Kd.R_slice tu.out;subst wC;obtain⟨xo,xv,wD⟩:=Kd.R_slice tG.out;subst wD)|((with_reducible refine gt_ 28 ?_);refine gD_ 28 Tryz.func11 (bY.calls k _ _ tq _ _ uF false _ (kR_ tu) ?side2 (kR_ tG) ?side4 A6.out) ?_;(case side2=>exact(Kd.R_reads' tu.out).2.1);(case side4=>exact(Kd.R_reads' tG.out).2.1);intro nd))
   go_ret
   exact⟨u1_,bw_ HB⟩
  ·replace H:=ht_ H;obtain⟨tn,A8,H⟩:=bi_ H;have H':=am_ H;clear H;go_enter Tryz.func3,Tryz.ntmps3
   go_wp2_with (first | ((with_reducible refine gt_ 15 ?_);refine gf_ 15 Tryz.func9 (cA.calls k _ _ l0 ZX ZU ZQ ZH tE tz _ ?side1 wQ.out A3.out) ?_;(case side1=>exact u59_);rintro e w9 ⟨uB,uW,wL,rfl,ho0,ho1,ho2,hb⟩;refine⟨_,rfl,?_⟩;have ZJ:=am_ (Kd.R_lower (Kd.R_mono (ok':=fun k_=>True) ho0 (fun _ hk_=>trivial)) (ar (bw_ HB)));have Zs:=am_ (Kd.N_lower (Kd.N_mono (ok':=fun k_=>some k_≠(uB:Value).ownBlock) ho1 (fun k_ hk_=>hk_.2)) (ar (bw_ HB)));have ZI:=am_ (Kd.V_lower (Kd.V_mono (ok':=fun k_=>some k_≠(uB:Value).ownBlock∧some k_≠(uW:Value).ownBlock) ho2 (fun k_ hk_=>⟨hk_.2.1,hk_.2.2⟩)) (ar (bw_ HB)));replace HB:=bs_ HB hb;(try clear hb);(try clear ho0);(try clear ho1);(try clear ho2))|((with_reducible refine aA (N:=3) rfl ?_);(try (refine bj ct ?_;dsimp only));refine bF ?hg (N:=3) ?hd (cs:=#[.slice none 0 0,.slice none 0 0,.slice none 0 0,.int .i64 0]) (t:=27) ?hr ?_;(case hd=>rfl);(case hg=>rfl);(case hr=>exact bL);intro Z7 hg xL hbox hb;replace ZJ:=am_ (Kd.R_below (aR_ ZJ.out) hb);replace Zs:=am_ (Kd.N_below (Kd.N_elderB u89_ Z7 (Nat.le_of_eq hg.symm)) hb);replace ZI:=am_ (Kd.V_below (Kd.V_elderB (aV_ ZI.out) Z7 (Nat.le_of_eq hg.symm)) hb);have tl:=am_ (hbox);have u6:=gw_ HB hg;replace HB:=bs_ HB hb;clear hb hbox hg;obtain⟨Zy,Zz,wm⟩:=Kd.R_slice ZJ.out;subst wm;obtain⟨tL,tM,tN,tO,tX,tY,tZ,t6⟩:=dx tl.out;obtain⟨ZB,ZC,wn⟩:=Kd.N_slice Zs.out;subst wn;obtain⟨ZE,ZG,wo⟩:=Kd.V_slice ZI.out;subst wo)|((with_reducible refine gt_ 22 ?_);refine gf_ 22 Tryz.func10 (ba.calls k _ _ ZX _ _ ZU _ _ ZQ ZH tE tz tq _ ?side1 ?side2 ?side3 ?side4 ?side5 ?side6 ?side7 A4.out) ?_;(case side1=>exact fQ);(case side2=>refine(Kd.R_reads' (e:=92) (base:=w.heap.size) (ok:=fun k_=>True) (n:=ZX.length) (c:=Zz) ?_).2.2;exact(aR_ (Kd.R_mono (Kd.R_far (p:=⟨Z7,3,none⟩) (Kd.R_far (p:=⟨Z7,2,none⟩) (Kd.R_far (p:=⟨Z7,1,none⟩) (Kd.R_far (p:=⟨Z7,0,none⟩) (Kd.R_types ZJ.out tl.out ap) (fun _ hk=>hk.2) (.slice Zy ZX.length Zz)) (fun _ hk=>hk.2) (.slice ZB ZU.length ZC)) (fun _ hk=>hk.2) (.slice ZE ZQ.length ZG)) (fun _ hk=>hk.2) (.int .i64 ZH)) (fun _ h_=>h_.1))));(case side3=>exact oU);(case side4=>refine(Kd.N_reads' (e:=46) (base:=w.heap.size) (ok:=fun k_=>(some k_≠(.slice Zy ZX.length Zz:Value).ownBlock∧k_≠Z7)) (n:=ZU.length) (c:=ZC) ?_).2.2;exact u62_);(case side5=>exact oP);(case side6=>refine(Kd.V_reads' (e:=76) (base:=w.heap.size) (ok:=fun k_=>((some k_≠(.slice Zy ZX.length Zz:Value).ownBlock∧some k_≠(.slice ZB ZU.length ZC:Value).ownBlock)∧k_≠Z7)) (n:=ZQ.length) (c:=ZG) ?_).2.2;exact(aV_ (Kd.V_mono (Kd.V_far (p:=⟨Z7,3,none⟩) (Kd.V_far (p:=⟨Z7,2,none⟩) (Kd.V_far (p:=⟨Z7,1,none⟩) (Kd.V_far (p:=⟨Z7,0,none⟩) (Kd.V_mono ZI.out (fun k_ hk=>(⟨hk,hk.2⟩:_∧k_≠Z7))) (fun _ hk=>hk.2) (.slice Zy ZX.length Zz)) (fun _ hk=>hk.2) (.slice ZB ZU.length ZC)) (fun _ hk=>hk.2) (.slice ZE ZQ.length ZG)) (fun _ hk=>hk.2) (.int .i64 ZH)) (fun _ h_=>h_.1))));(case side7=>exact o7);rintro e xM ⟨wM,rfl,ho0,hb⟩;refine⟨_,rfl,?_⟩;replace ZJ:=am_ (Kd.R_below (aR_ (Kd.R_mono (Kd.R_far (p:=⟨Z7,3,none⟩) (Kd.R_far (p:=⟨Z7,2,none⟩) (Kd.R_far (p:=⟨Z7,1,none⟩) (Kd.R_far (p:=⟨Z7,0,none⟩) (Kd.R_types ZJ.out tl.out ap) (fun _ hk=>hk.2) (.slice Zy ZX.length Zz)) (fun _ hk=>hk.2) (.slice ZB ZU.length ZC)) (fun _ hk=>hk.2) (.slice ZE ZQ.length ZG)) (fun _ hk=>hk.2) (.int .i64 ZH)) (fun _ h_=>h_.1))) hb);replace Zs:=am_ (Kd.N_elder' u62_ (Kd.R_base ho0) hb);replace ZI:=am_ (Kd.V_elder' (aV_ (Kd.V_mono (Kd.V_far (p:=⟨Z7,3,none⟩) (Kd.V_far (p:=⟨Z7,2,none⟩) (Kd.V_far (p:=⟨Z7,1,none⟩) (Kd.V_far (p:=⟨Z7,0,none⟩) (Kd.V_mono ZI.out (fun k_ hk=>(⟨hk,hk.2⟩:_∧k_≠Z7))) (fun _ hk=>hk.2) (.slice Zy ZX.length Zz)) (fun _ hk=>hk.2) (.slice ZB ZU.length ZC)) (fun _ hk=>hk.2) (.slice ZE ZQ.length ZG)) (fun _ hk=>hk.2) (.int .i64 ZH)) (fun _ h_=>h_.1))) (Kd.R_base ho0) hb);have tu:=am_ (Kd.R_lower ho0 (ar (bw_ HB)));replace tl:=am_ (bE (g:=Z7) (o:=.cells #[.slice Zy ZX.length Zz,.slice ZB ZU.length ZC,.slice ZE ZQ.length ZG,.int .i64 ZH] 27 (0,0)) (pb_ tl) hb);replace HB:=bs_ HB hb;(try clear hb);(try clear ho0);obtain⟨tP,tQ,tR,tS,t7,t8,ua,ub⟩:=dx tl.out)|((with_reducible refine gt_ 27 ?_);refine gf_ 27 Tryz.func12 (bl.calls k _ _ ZX _ _ ZU _ _ ZQ ZH tE tz uF _ (kR_ ZJ) ?side2 ?side3 ?side4 (kV_ ZI) ?side6 A5.out) ?_;(case side2=>exact oU);(case side3=>exact u85_);(case side4=>exact oP);(case side6=>exact o7);rintro e xN ⟨wN,rfl,ho0,hb⟩;refine⟨_,rfl,?_⟩;replace ZJ:=am_ (Kd.R_below (aR_ ZJ.out) hb);replace Zs:=am_ (Kd.N_elder' u89_ (Kd.R_base ho0) hb);replace ZI:=am_ (Kd.V_elder' (aV_ ZI.out) (Kd.R_base ho0) hb);have tG:=am_ (Kd.R_lower (Kd.R_new' ho0 (Kd.R_lt (aR_ tu.out))) (ar (bw_ HB)));replace tu:=am_ (Kd.R_elder' (aR_ tu.out) (Kd.R_base ho0) hb);replace tl:=bb_ tl hb;replace HB:=bs_ HB hb;(try clear hb);(try clear ho0);obtain⟨tA,tB,wt⟩:=Kd.R_slice tu.out;subst wt;obtain⟨xj,xp,wu⟩:=Kd.R_slice tG.out;subst wu)|((with_reducible refine gt_ 28 ?_);refine gD_ 28 Tryz.func11 (bY.calls k _ _ tq _ _ uF true _ (kR_ tu) ?side2 (kR_ tG) ?side4 A6.out) ?_;(case side2=>exact(Kd.R_reads' tu.out).2.1);(case side4=>exact(Kd.R_reads' tG.out).2.1);intro nd;obtain⟨tT,tU,tV,tW,uc,ud,ue,uf⟩:=dx tl.out)|((with_reducible refine gt_ 32 ?_);refine gf_ 32 Tryz.func10 (ba.calls k _ _ ZX _ _ ZU _ _ ZQ ZH tE (⟨#[]⟩:ByteArray) tn _ ?side1 (kR_ ZJ) ?side3 ?side4 ?side5 (kV_ ZI) ?side7 A8.out) ?_;(case side1=>exact fQ);(case side3=>exact oU);(case side4=>exact u85_);(case side5=>exact oP);(case side7=>exact o7);rintro e xO ⟨uG,rfl,ho0,hb⟩;refine⟨_,rfl,?_⟩;replace ZJ:=am_ (Kd.R_below (aR_ ZJ.out) hb);replace Zs:=am_ (Kd.N_elder' u89_ (Kd.R_base ho0) hb);replace ZI:=am_ (Kd.V_elder' (aV_ ZI.out) (Kd.R_base ho0) hb);have u9:=am_ (Kd.R_lower (Kd.R_new' (Kd.R_new' ho0 (Kd.R_lt (aR_ tu.out))) (Kd.R_lt (aR_ tG.out))) (ar (bw_ HB)));replace tu:=am_ (Kd.R_elder' (aR_ tu.out) (Kd.R_base ho0) hb);replace tl:=bb_ tl hb;replace HB:=bs_ HB hb;(try clear hb);(try clear ho0)))
   go_loopg [8,9] k (fun kq v8 v9 w'=>∃(tF:Int) (tm:Int),v8 = .int .i64 tF∧v9 = .int .i64 tm∧aa (ab.l0 kq tE tz tq tn tF tm ZX ZU ZQ ZH=some r)∧aa (kq≤k)∧aa (Kd.R Kd.string 9 w' w.heap.size (fun k_=>some k_≠(uG:Value).ownBlock) (.slice tA tq.length tB) tq)∧aa (Kd.R Kd.string 9 w' w.heap.size (fun k_=>some k_≠((.slice tA tq.length tB):Value).ownBlock) uG tn)∧aa (Kd.R k92 92 w' w.heap.size (fun _=>True) (.slice Zy ZX.length Zz) ZX)∧aa (Kd.N k46 46 w' w.heap.size (fun k_=>some k_≠((.slice tA tq.length tB):Value).ownBlock∧some k_≠(uG:Value).ownBlock∧some k_≠((.slice Zy ZX.length Zz):Value).ownBlock∧k_≠Z7) (.slice ZB ZU.length ZC) ZU)∧aa (Kd.V k76 76 w' w.heap.size (fun k_=>some k_≠((.slice tA tq.length tB):Value).ownBlock∧some k_≠(uG:Value).ownBlock∧some k_≠((.slice Zy ZX.length Zz):Value).ownBlock∧some k_≠((.slice ZB ZU.length ZC):Value).ownBlock∧k_≠Z7) (.slice ZE ZQ.length ZG) ZQ)∧aa (w'.heap[Z7]? = some (.cells #[(.slice Zy ZX.length Zz),(.slice ZB ZU.length ZC),(.slice ZE ZQ.length ZG),.int .i64 ZH] 27 (0,0)))∧aa (Below w.heap.size w w'))
   case atStart=>exact⟨(0),(0),u4_,u4_,H',⟨Nat.le_refl _⟩,⟨by(with_reducible repeat (first | apply Kd.R_alloc | apply Kd.R_drewN | apply Kd.R_drew));exact Kd.R_mono tu.out (fun _ hk=>hk.2)⟩,⟨by(with_reducible repeat (first | apply Kd.R_alloc | apply Kd.R_drewN | apply Kd.R_drew));exact Kd.R_mono u9.out (fun _ hk=>hk.1.2)⟩,⟨aR_ ZJ.out⟩,⟨by(with_reducible repeat (first | apply Kd.N_alloc | apply Kd.N_drewN | apply Kd.N_drew));exact Kd.N_mono Zs.out (fun _ hk=>⟨hk.1.1.2,⟨hk.2,⟨hk.1.1.1.1,hk.1.1.1.2⟩⟩⟩)⟩,⟨by(with_reducible repeat (first | apply Kd.V_alloc | apply Kd.V_drewN | apply Kd.V_drew));exact Kd.V_mono ZI.out (fun _ hk=>⟨hk.1.1.2,⟨hk.2,⟨hk.1.1.1.1.1,⟨hk.1.1.1.1.2,hk.1.1.1.2⟩⟩⟩⟩)⟩,⟨pb_ tl⟩,⟨bw_ HB⟩⟩
   case round=>
    clear H';try clear c2
    try clear uD
    try clear uE
    try clear tL tM tN tO tX tY tZ t6
    try clear tP tQ tR tS t7 t8 ua ub
    try clear tT tU tV tW uc ud ue uf
    obtain⟨tF,tm,rfl,rfl,HA,HK1,Z0,Z5,tk,ZZ,Z4,tl,HB⟩:=hrel;cases gk with
    | zero=>exact absurd HA.out (by simp[ab.l0])
    | succ k1=>
     have H:=HA.out;clear HA;simp only[ab.l0] at H;by_cases uH:tm<(tn.length:Int)
     ·rw[if_pos uH] at H;have ux:=decide_eq_true uH;clear uH;have uM:=am_ H;clear H;obtain⟨uh,tI,wv⟩:=Kd.R_slice Z5.out;subst wv;go_upto_region 12 with (fail)
      go_cut [57] (fun xI wc=>∃(kq:Nat) (ug:Bool),xI = .bool ug∧aa (ab.j1 kq tE tz tq tn tF tm ug ZX ZU ZQ ZH=some r)∧aa (kq≤k1)∧aa (Kd.R Kd.string 9 wc w.heap.size (fun k_=>some k_≠((.slice uh tn.length tI):Value).ownBlock) (.slice tA tq.length tB) tq)∧aa (Kd.R Kd.string 9 wc w.heap.size (fun k_=>some k_≠((.slice tA tq.length tB):Value).ownBlock) (.slice uh tn.length tI) tn)∧aa (Kd.R k92 92 wc w.heap.size (fun _=>True) (.slice Zy ZX.length Zz) ZX)∧aa (Kd.N k46 46 wc w.heap.size (fun k_=>some k_≠((.slice tA tq.length tB):Value).ownBlock∧some k_≠((.slice uh tn.length tI):Value).ownBlock∧some k_≠((.slice Zy ZX.length Zz):Value).ownBlock∧k_≠Z7) (.slice ZB ZU.length ZC) ZU)∧aa (Kd.V k76 76 wc w.heap.size (fun k_=>some k_≠((.slice tA tq.length tB):Value).ownBlock∧some k_≠((.slice uh tn.length tI):Value).ownBlock∧some k_≠((.slice Zy ZX.length Zz):Value).ownBlock∧some k_≠((.slice ZB ZU.length ZC):Value).ownBlock∧k_≠Z7) (.slice ZE ZQ.length ZG) ZQ)∧aa (wc.heap[Z7]? = some (.cells #[(.slice Zy ZX.length Zz),(.slice ZB ZU.length ZC),(.slice ZE ZQ.length ZG),.int .i64 ZH] 27 (0,0)))∧aa (Below w.heap.size w wc))
      case first=>
       have H:=uM.out;clear uM;obtain⟨uI,H⟩:=gd_ H;(first | rw[uI] | (simp only[aC,aG];rw[uI]) | skip)
       have HC_:=am_ H;clear H;obtain⟨vm,wg,wa⟩:=Kd.at_string (Kd.R_reads' Z5.out).2.2 tm od_ od_;cases wg;obtain⟨xw,xC⟩:=pt_ tm tn.length;have H:=HC_.out;clear HC_;by_cases uJ:((bC ByteArray.empty tn tm).size:Int)≥(tz.size:Int)
       ·rw[if_pos uJ] at H;have uj:decide ((tz.size:Int)≤((bC ByteArray.empty tn tm).size:Int))=true:=decide_eq_true uJ;have vu:decide (tz.size≤(bC ByteArray.empty tn tm).size)=true:=decide_eq_true (Int.ofNat_le.mp uJ);clear uJ;obtain⟨wR,wS,H⟩:=ge_ H;obtain⟨wT,wU,H⟩:=ge_ H;have H':=am_ H;clear H;(first | rw[uj] | (simp only[aC,aG];rw[uj]) | skip)
        obtain⟨vn,wh,wb⟩:=Kd.at_string (Kd.R_reads' Z5.out).2.2 tm od_ od_;obtain rfl:vm=vn:=(by injection wh);obtain⟨xx,xD⟩:=pt_ tm tn.length;go_wp2;go_meet
        case rel=>exact⟨_,((((bC ByteArray.empty tn tm).extract 0 ((tz.size:Int):Int).toNat).toList == tz.toList)),u4_,H',⟨kL⟩,⟨aR_ Z0.out⟩,⟨aR_ Z5.out⟩,⟨aR_ tk.out⟩,⟨m6⟩,⟨aV_ Z4.out⟩,⟨pb_ tl⟩,⟨bw_ HB⟩⟩
       ·rw[if_neg uJ] at H;have uj:decide ((tz.size:Int)≤((bC ByteArray.empty tn tm).size:Int))=false:=decide_eq_false uJ;have vu:decide (tz.size≤(bC ByteArray.empty tn tm).size)=false:=decide_eq_false (fun h=>uJ (Int.ofNat_le.mpr h));clear uJ;have H':=am_ H;clear H;(first | rw[uj] | (simp only[aC,aG];rw[uj]) | skip)
        go_wp2;go_meet
        case rel=>exact⟨_,(false),u4_,H',⟨kL⟩,⟨aR_ Z0.out⟩,⟨aR_ Z5.out⟩,⟨aR_ tk.out⟩,⟨m6⟩,⟨aV_ Z4.out⟩,⟨pb_ tl⟩,⟨bw_ HB⟩⟩
      case rest=>
       clear uM;try clear c2
       try clear uD
       try clear uE
       try clear uH
       try clear ux
       try clear tL tM tN tO tX tY tZ t6
       try clear tP tQ tR tS t7 t8 ua ub
       try clear tT tU tV tW uc ud ue uf
       obtain⟨kq,ug,rfl,HA,uv,Z0,Z5,tk,ZZ,Z4,tl,HB⟩:=hcut;cases kq with
       | zero=>exact absurd HA.out (by simp[ab.j1])
       | succ wE=>
        have H:=HA.out;clear HA;simp only[ab.j1] at H;have uN:=am_ H;clear H;go_upto_if 57 with (fail)
        go_cut [8] (fun v8 wc=>∃(kq:Nat) (tK:Int),v8 = .int .i64 tK∧aa (ab.j2 kq tE tz tq tn tK tm ZX ZU ZQ ZH=some r)∧aa (kq≤wE)∧aa (Kd.R Kd.string 9 wc w.heap.size (fun k_=>some k_≠((.slice uh tn.length tI):Value).ownBlock) (.slice tA tq.length tB) tq)∧aa (Kd.R Kd.string 9 wc w.heap.size (fun k_=>some k_≠((.slice tA tq.length tB):Value).ownBlock) (.slice uh tn.length tI) tn)∧aa (Kd.R k92 92 wc w.heap.size (fun _=>True) (.slice Zy ZX.length Zz) ZX)∧aa (Kd.N k46 46 wc w.heap.size (fun k_=>some k_≠((.slice tA tq.length tB):Value).ownBlock∧some k_≠((.slice uh tn.length tI):Value).ownBlock∧some k_≠((.slice Zy ZX.length Zz):Value).ownBlock∧k_≠Z7) (.slice ZB ZU.length ZC) ZU)∧aa (Kd.V k76 76 wc w.heap.size (fun k_=>some k_≠((.slice tA tq.length tB):Value).ownBlock∧some k_≠((.slice uh tn.length tI):Value).ownBlock∧some k_≠((.slice Zy ZX.length Zz):Value).ownBlock∧some k_≠((.slice ZB ZU.length ZC):Value).ownBlock∧k_≠Z7) (.slice ZE ZQ.length ZG) ZQ)∧aa (wc.heap[Z7]? = some (.cells #[(.slice Zy ZX.length Zz),(.slice ZB ZU.length ZC),(.slice ZE ZQ.length ZG),.int .i64 ZH] 27 (0,0)))∧aa (Below w.heap.size w wc))
        case first=>
         have H:=uN.out;clear uN;cases ug
         ·replace H:=hf_ H;have H':=am_ H;clear H;go_wp2;go_meet
          case rel=>exact⟨_,(tF),u4_,H',⟨by have:=HK1.out;have:=uv.out;first | omega | exact Nat.le_refl _⟩,⟨aR_ Z0.out⟩,⟨aR_ Z5.out⟩,⟨aR_ tk.out⟩,⟨m6⟩,⟨aV_ Z4.out⟩,⟨pb_ tl⟩,⟨bw_ HB⟩⟩
         ·replace H:=ht_ H;by_cases uX:tF≥(tq.length:Int)
          ·rw[if_pos uX] at H;have uk:decide ((tq.length:Int)≤tF)=true:=decide_eq_true uX;clear uX;(first | rw[uk] | (simp only[aC,aG];rw[uk]) | skip)
           obtain rfl:=si_ H;try go_wp2
           replace HB:=am_ (au HB.out);refine cN (n:=15) (S:=fun w'=>True) (ds:=[]) (bm_ 15 0) bT rfl rfl trivial (fun hHeld=>?_);refine bu ab.tab13 ab.bits13 (fun HT_ HW_=>?_);generalize wc.drew=xP at HB hHeld ⊢;refine pv_ 0 58 ?_;refine pv_ 1 59 ?_;refine pv_ 2 60 ?_;refine pv_ 3 61 ?_;refine pv_ 4 62 ?_;refine sv_ 5 63 ?_;refine sv_ 6 64 ?_;refine sv_ 7 65 ?_;refine sv_ 8 66 ?_;refine sv_ 9 67 ?_;refine sv_ 10 68 ?_;refine sv_ 11 69 ?_;refine sv_ 12 70 ?_;refine sv_ 13 71 ?_;refine pv_ 14 72 ?_;refine dn_ HT_ ?_;try go_wp2
           go_ret
           exact⟨u1_,bw_ HB⟩
          ·rw[if_neg uX] at H;have uk:decide ((tq.length:Int)≤tF)=false:=decide_eq_false uX;clear uX;(first | rw[uk] | (simp only[aC,aG];rw[uk]) | skip)
           obtain⟨wV,H⟩:=gd_ H;obtain⟨wW,H⟩:=gd_ H;obtain⟨wX,H⟩:=gd_ H;obtain⟨wY,H⟩:=gd_ H;have HC_:=am_ H;clear H;try go_wp2
           replace Z0:=am_ (Kd.R_drew Z0.out);replace Z5:=am_ (Kd.R_drew Z5.out);replace tk:=am_ (Kd.R_drew tk.out);replace ZZ:=am_ (Kd.N_drew ZZ.out);replace Z4:=am_ (Kd.V_drew Z4.out);replace tl:=am_ (bf tl.out);replace HB:=am_ (au HB.out);obtain⟨vo,wi,ur⟩:=Kd.at_string (Kd.R_reads' Z0.out).2.2 tF od_ od_;cases wi;obtain⟨xy,xE⟩:=pt_ tF tq.length;obtain⟨vp,wj,us⟩:=Kd.at_string (Kd.R_reads' Z5.out).2.2 tm od_ od_;cases wj;obtain⟨xz,xF⟩:=pt_ tm tn.length;refine cN (n:=15) (S:=fun w'=>w'.cell? (vo.add (tF).toNat)=some (.string (bC ByteArray.empty tq tF))∧w'.cell? (vp.add (tm).toNat)=some (.string (bC ByteArray.empty tn tm))) (ds:=[]) (bm_ 15 0) bT rfl rfl ⟨ur,us⟩ (fun hHeld=>?_);refine bu ab.tab13 ab.bits13 (fun HT_ HW_=>?_);generalize wc.drew=xQ at Z0 Z5 tk ZZ Z4 tl HB ur us hHeld ⊢;refine pv_ 0 58 ?_;refine pv_ 1 59 ?_;refine pv_ 2 60 ?_;refine pv_ 3 61 ?_;refine pv_ 4 62 ?_;refine pv_ 5 63 ?_;refine pv_ 6 64 ?_;refine pv_ 7 65 ?_;refine pv_ 9 67 ?_;refine pv_ 10 68 ?_;refine pv_ 11 69 ?_;refine tv_ 8 66 ?_;refine tv_ 12 70 ?_;refine pv_ 13 71 ?_;refine pv_ 14 72 ?_;refine dn_ HT_ ?_;have H:=HC_.out;clear HC_;by_cases uR:(bC ByteArray.empty tq tF).toList=(bC ByteArray.empty tn tm).toList
           ·rw[if_pos uR] at H;have ul:=cW uR;have vv:=cX uR;clear uR;have H':=am_ H;clear H;(first | rw[ul] | (simp only[aC,aG];rw[ul]) | skip)
            try go_wp2
            go_meet
            case rel=>exact⟨_,(wrap64 (tF+1)),u4_,H',⟨by have:=HK1.out;have:=uv.out;first | omega | exact Nat.le_refl _⟩,⟨aR_ Z0.out⟩,⟨aR_ Z5.out⟩,⟨aR_ tk.out⟩,⟨m6⟩,⟨aV_ Z4.out⟩,⟨pb_ tl⟩,⟨bw_ HB⟩⟩
           ·rw[if_neg uR] at H;have ul:=cO uR;have vv:=cQ uR;obtain rfl:=si_ H;(first | rw[ul] | (simp only[aC,aG];rw[ul]) | skip)
            try go_wp2
            go_ret
            exact⟨u1_,bw_ HB⟩
        case rest=>
         clear uN;try clear c2
         try clear uD
         try clear uE
         try clear uH
         try clear ux
         try clear tL tM tN tO tX tY tZ t6
         try clear tP tQ tR tS t7 t8 ua ub
         try clear tT tU tV tW uc ud ue uf
         obtain⟨kq,tK,rfl,HA,uC,Z0,Z5,tk,ZZ,Z4,tl,HB⟩:=hcut;cases kq with
         | zero=>exact absurd HA.out (by simp[ab.j2])
         | succ tH=>
          have H:=HA.out;clear HA;simp only[ab.j2] at H;by_cases uY:tm>0
          ·rw[if_pos uY] at H;have vw:decide (0<tm)=true:=decide_eq_true uY;clear uY;obtain⟨tx,YM⟩:∃j_:Int,(wrap64 (tm - 1))=j_:=⟨_,rfl⟩;replace H:(if 0≤(tx) then(if(tx)<(tn.length:Int) then(if 0≤tm then(if tm<(tn.length:Int) then(if((Op.bytesLess ((bC ByteArray.empty tn (tx)).toList) ((bC ByteArray.empty tn tm).toList))=true) then((da.f tH (bC ByteArray.empty tn tm)).bind fun uU=>(if uU=true then((am.f tH ZX ZU ZQ ZH tE (bC ByteArray.empty tn tm)).bind fun uA=>(if(uA.length:Int)=0 then(some false) else(ab.l0 tH tE tz tq tn tK (wrap64 (tm+1)) ZX ZU ZQ ZH))) else(some false))) else(some false)) else(none)) else(none)) else(none)) else(none))=some r:=by first | (rw[YM] at H;exact H)|(simp only[YM] at H ⊢;exact H)
           have hji41w:(IntKind.i64.wrap (tm - 1))=tx:=(aC _).trans YM;obtain⟨wZ,H⟩:=gd_ H;obtain⟨xa,H⟩:=gd_ H;obtain⟨xb,H⟩:=gd_ H;obtain⟨xc,H⟩:=gd_ H;by_cases uZ:((Op.bytesLess ((bC ByteArray.empty tn (tx)).toList) ((bC ByteArray.empty tn tm).toList))=true)
           ·rw[if_pos uZ] at H;have vx:(Op.bytesLess ((bC ByteArray.empty tn (tx)).toList) ((bC ByteArray.empty tn tm).toList))=true:=uZ;clear uZ;obtain⟨uU,wO,H⟩:=bi_ H;cases uU
            ·replace H:=hf_ H;obtain rfl:=si_ H;try go_wp2
             replace Z5:=am_ (Kd.R_drew Z5.out);replace HB:=am_ (au HB.out);obtain⟨tr,uy,tv⟩:=Kd.at_string (Kd.R_reads' Z5.out).2.2 (tx) od_ od_;cases uy;obtain⟨vD,vG⟩:=pt_ (tx) tn.length;obtain⟨ui,uz,tw⟩:=Kd.at_string (Kd.R_reads' Z5.out).2.2 tm od_ od_;obtain rfl:tr=ui:=(by injection uz);obtain⟨vE,vH⟩:=pt_ tm tn.length;obtain⟨uw,uS,tC⟩:=Kd.at_string (Kd.R_reads' Z5.out).2.2 tm od_ od_;obtain rfl:tr=uw:=(by injection uS);obtain⟨wF,wH⟩:=pt_ tm tn.length;refine cN (n:=33) (S:=fun w'=>w'.cell? (tr.add ((tx)).toNat)=some (.string (bC ByteArray.empty tn (tx)))∧w'.cell? (tr.add (tm).toNat)=some (.string (bC ByteArray.empty tn tm))∧w'.cell? (tr.add (tm).toNat)=some (.string (bC ByteArray.empty tn tm))) (ds:=[]) (bm_ 33 0) bT rfl rfl ⟨tv,tw,tC⟩ (fun hHeld=>?_);refine bu ab.tab16 ab.bits16 (fun HT_ HW_=>?_);generalize wc.drew=xU at Z5 HB tv tw tC hHeld ⊢;refine pv_ 0 75 ?_;refine pv_ 1 76 ?_;refine pv_ 2 77 ?_;refine pv_ 3 78 ?_;refine pv_ 4 79 ?_;refine pv_ 5 80 ?_;refine pv_ 6 81 ?_;refine pv_ 8 83 ?_;refine pv_ 9 84 ?_;refine pv_ 10 85 ?_;refine tv_ 7 82 ?_;refine tv_ 11 86 ?_;refine pv_ 12 87 ?_;refine pv_ 13 88 ?_;refine pv_ 14 89 ?_;refine pv_ 15 90 ?_;refine pv_ 16 91 ?_;refine pv_ 17 92 ?_;refine tv_ 18 93 ?_;refine ov_ 19 94 (fun K hK=>?_);refine go_ Tryz.func13 (da.calls tH (bC ByteArray.empty tn tm) false _ ?side1 wO.out) ?_;(case side1=>exact fQ)
             rintro e xV ⟨rfl,hb⟩;have uO:=(hb.cell (World.block_lt_of_cell? _ _ (hHeld.1))).trans (hHeld.1);have wd:=(hb.cell (World.block_lt_of_cell? _ _ (hHeld.2.1))).trans (hHeld.2.1);have we:=(hb.cell (World.block_lt_of_cell? _ _ (hHeld.2.2))).trans (hHeld.2.2);refine⟨_,rfl,?_⟩;replace HB:=bs_ HB hb;(try clear hb)
             refine hK.out _ _ ⟨uO,wd,we⟩ (fun hHeld=>?_);clear hK K;refine nm_ ?_;refine pv_ 20 95 ?_;refine pv_ 21 96 ?_;refine pv_ 22 97 ?_;refine sv_ 23 98 ?_;refine sv_ 24 99 ?_;refine sv_ 25 100 ?_;refine sv_ 26 101 ?_;refine sv_ 27 102 ?_;refine sv_ 28 103 ?_;refine sv_ 29 104 ?_;refine sv_ 30 105 ?_;refine sv_ 31 106 ?_;refine pv_ 32 107 ?_;refine dn_ HT_ ?_;try go_wp2
             go_ret
             exact⟨u75_,bw_ HB⟩
            ·replace H:=ht_ H;obtain⟨uA,xh,H⟩:=bi_ H;have HC_:=am_ H;clear H;try go_wp2
             replace Z0:=am_ (Kd.R_drew Z0.out);replace Z5:=am_ (Kd.R_drew Z5.out);replace tk:=am_ (Kd.R_drew tk.out);replace ZZ:=am_ (Kd.N_drew ZZ.out);replace Z4:=am_ (Kd.V_drew Z4.out);replace tl:=am_ (bf tl.out);replace HB:=am_ (au HB.out);obtain⟨tr,uy,tv⟩:=Kd.at_string (Kd.R_reads' Z5.out).2.2 (tx) od_ od_;cases uy;obtain⟨vD,vG⟩:=pt_ (tx) tn.length;obtain⟨ui,uz,tw⟩:=Kd.at_string (Kd.R_reads' Z5.out).2.2 tm od_ od_;obtain rfl:tr=ui:=(by injection uz);obtain⟨vE,vH⟩:=pt_ tm tn.length;obtain⟨uw,uS,tC⟩:=Kd.at_string (Kd.R_reads' Z5.out).2.2 tm od_ od_;obtain rfl:tr=uw:=(by injection uS);obtain⟨wF,wH⟩:=pt_ tm tn.length;obtain⟨vq,wk,ut⟩:=Kd.at_string (Kd.R_reads' Z5.out).2.2 tm od_ od_;obtain rfl:tr=vq:=(by injection wk);obtain⟨xA,xG⟩:=pt_ tm tn.length;refine cN (n:=33) (S:=fun w'=>w'.cell? ⟨Z7,0,none⟩=some (.slice Zy ZX.length Zz)∧w'.cell? ⟨Z7,1,none⟩=some (.slice ZB ZU.length ZC)∧w'.cell? ⟨Z7,2,none⟩=some (.slice ZE ZQ.length ZG)∧w'.cell? ⟨Z7,3,none⟩=some (.int .i64 ZH)∧w'.cell? (tr.add ((tx)).toNat)=some (.string (bC ByteArray.empty tn (tx)))∧w'.cell? (tr.add (tm).toNat)=some (.string (bC ByteArray.empty tn tm))∧w'.cell? (tr.add (tm).toNat)=some (.string (bC ByteArray.empty tn tm))∧w'.cell? (tr.add (tm).toNat)=some (.string (bC ByteArray.empty tn tm))) (ds:=[]) (bm_ 33 0) bT rfl rfl ⟨bc_ tl 0,bc_ tl 1,bc_ tl 2,bc_ tl 3,tv,tw,tC,ut⟩ (fun hHeld=>?_);refine bu ab.tab16 ab.bits16 (fun HT_ HW_=>?_);generalize wc.drew=xR at Z0 Z5 tk ZZ Z4 tl HB tv tw tC ut hHeld ⊢;refine pv_ 0 75 ?_;refine pv_ 1 76 ?_;refine pv_ 2 77 ?_;refine pv_ 3 78 ?_;refine pv_ 4 79 ?_;refine pv_ 5 80 ?_;refine pv_ 6 81 ?_;refine pv_ 8 83 ?_;refine pv_ 9 84 ?_;refine pv_ 10 85 ?_;refine tv_ 7 82 ?_;refine tv_ 11 86 ?_;refine pv_ 12 87 ?_;refine pv_ 13 88 ?_;refine pv_ 14 89 ?_;refine pv_ 15 90 ?_;refine pv_ 16 91 ?_;refine pv_ 17 92 ?_;refine tv_ 18 93 ?_;refine ov_ 19 94 (fun K hK=>?_);refine go_ Tryz.func13 (da.calls tH (bC ByteArray.empty tn tm) true _ ?side1 wO.out) ?_;(case side1=>exact fQ)
             rintro e xS ⟨rfl,hb⟩;have uo:=(hb.cell (World.block_lt_of_cell? _ _ (hHeld.2.2.2.2.1))).trans (hHeld.2.2.2.2.1);have uq:=(hb.cell (World.block_lt_of_cell? _ _ (hHeld.2.2.2.2.2.1))).trans (hHeld.2.2.2.2.2.1);have uP:=(hb.cell (World.block_lt_of_cell? _ _ (hHeld.2.2.2.2.2.2.1))).trans (hHeld.2.2.2.2.2.2.1);have uQ:=(hb.cell (World.block_lt_of_cell? _ _ (hHeld.2.2.2.2.2.2.2))).trans (hHeld.2.2.2.2.2.2.2);refine⟨_,rfl,?_⟩;replace Z0:=am_ (Kd.R_below (aR_ Z0.out) hb);replace Z5:=am_ (Kd.R_below (aR_ Z5.out) hb);replace tk:=am_ (Kd.R_below (aR_ tk.out) hb);replace ZZ:=am_ (Kd.N_below m6 hb);replace Z4:=am_ (Kd.V_below (aV_ Z4.out) hb);replace tl:=bb_ tl hb;replace HB:=bs_ HB hb;(try clear hb)
             refine hK.out _ _ ⟨bc_ tl 0,bc_ tl 1,bc_ tl 2,bc_ tl 3,uo,uq,uP,uQ⟩ (fun hHeld=>?_);clear hK K;refine nm_ ?_;refine pv_ 20 95 ?_;refine pv_ 21 96 ?_;refine pv_ 22 97 ?_;refine pv_ 24 99 ?_;refine pv_ 25 100 ?_;refine pv_ 26 101 ?_;refine pv_ 27 102 ?_;refine tv_ 23 98 ?_;refine tv_ 28 103 ?_;refine ov_ 29 104 (fun K hK=>?_);refine go_ Tryz.func14 (am.calls tH _ _ ZX _ _ ZU _ _ ZQ ZH tE (bC ByteArray.empty tn tm) uA _ ?side1 (kR_ tk) ?side3 ?side4 ?side5 (kV_ Z4) ?side7 xh.out) ?_;(case side1=>exact fQ)
             (case side3=>exact(Kd.R_reads' tk.out).2.1)
             (case side4=>exact u108_)
             (case side5=>exact(Kd.N_reads' ZZ.out).2.1)
             (case side7=>exact(Kd.V_reads' Z4.out).2.1)
             rintro e xT ⟨xJ,rfl,ho0,hb⟩;have uo:=(hb.cell (World.block_lt_of_cell? _ _ (hHeld.2.2.2.2.1))).trans (hHeld.2.2.2.2.1);have uq:=(hb.cell (World.block_lt_of_cell? _ _ (hHeld.2.2.2.2.2.1))).trans (hHeld.2.2.2.2.2.1);have uP:=(hb.cell (World.block_lt_of_cell? _ _ (hHeld.2.2.2.2.2.2.1))).trans (hHeld.2.2.2.2.2.2.1);have uQ:=(hb.cell (World.block_lt_of_cell? _ _ (hHeld.2.2.2.2.2.2.2))).trans (hHeld.2.2.2.2.2.2.2);refine⟨_,rfl,?_⟩;replace Z4:=am_ (Kd.V_elder' (aV_ Z4.out) qd hb);have vk:=am_ (Kd.N_lower (Kd.N_mono (ok':=fun k_=>some k_≠(.slice tA tq.length tB:Value).ownBlock∧some k_≠(.slice (some tr) tn.length tI:Value).ownBlock∧some k_≠(.slice Zy ZX.length Zz:Value).ownBlock∧some k_≠(.slice ZB ZU.length ZC:Value).ownBlock∧k_≠Z7) (Kd.S_N (Kd.S_bound ho0)) (fun k_ hk_=>⟨(Kd.fresh' (Kd.R_lt (aR_ Z0.out)) k_ hk_.2.1),(Kd.fresh' (Kd.R_lt (aR_ Z5.out)) k_ hk_.2.1),(Kd.fresh' (Kd.R_lt (aR_ tk.out)) k_ hk_.2.1),(Kd.fresh' (Kd.N_lt m6) k_ hk_.2.1),(Kd.freshB (g:=Z7) (o:=.cells #[.slice Zy ZX.length Zz,.slice ZB ZU.length ZC,.slice ZE ZQ.length ZG,.int .i64 ZH] 27 (0,0)) (pb_ tl) k_ hk_.2.1)⟩)) (ar (bw_ HB)));replace Z0:=am_ (Kd.R_below (aR_ Z0.out) hb);replace Z5:=am_ (Kd.R_below (aR_ Z5.out) hb);replace tk:=am_ (Kd.R_below (aR_ tk.out) hb);replace ZZ:=am_ (Kd.N_elder' m6 qd hb);replace tl:=bb_ tl hb;replace HB:=bs_ HB hb;(try clear hb)
             (try clear ho0)
             obtain⟨xk,xq,vA⟩:=Kd.N_slice vk.out;(first | subst vA | (injection vA with f1_ f2_ f3_;have f4_:=f1_.symm;have f5_:=f3_.symm;clear f1_ f2_ f3_;subst f4_;subst f5_))
             refine hK.out _ _ ⟨bc_ tl 0,bc_ tl 1,bc_ tl 2,bc_ tl 3,uo,uq,uP,uQ⟩ (fun hHeld=>?_);clear hK K;refine nm_ ?_;refine pv_ 30 105 ?_;refine pv_ 31 106 ?_;refine pv_ 32 107 ?_;refine dn_ HT_ ?_;have H:=HC_.out;clear HC_;by_cases uK:(uA.length:Int)=0
             ·rw[if_pos uK] at H;have um:=cW uK;have vy:=cX uK;clear uK;obtain rfl:=si_ H;(first | rw[um] | (simp only[aC,aG];rw[um]) | skip)
              try go_wp2
              go_ret
              exact⟨u75_,bw_ HB⟩
             ·rw[if_neg uK] at H;have um:=cO uK;have vy:=cQ uK;have xd:¬(uA = []):=fun h_=>uK (by rw[h_];rfl)
              have H':=am_ H;clear H;(first | rw[um] | (simp only[aC,aG];rw[um]) | skip)
              try go_wp2
              go_roundg tH
              case measure=>have:=HK1.out;have:=uv.out;have:=uC.out;omega
              case rel=>exact⟨(tK),(wrap64 (tm+1)),u4_,u4_,H',⟨by have:=HK1.out;have:=uv.out;have:=uC.out;omega⟩,⟨aR_ Z0.out⟩,⟨aR_ Z5.out⟩,⟨aR_ tk.out⟩,⟨u105_⟩,⟨u96_⟩,⟨pb_ tl⟩,⟨bw_ HB⟩⟩
           ·rw[if_neg uZ] at H;have vx:(Op.bytesLess ((bC ByteArray.empty tn (tx)).toList) ((bC ByteArray.empty tn tm).toList))=false:=by simpa using uZ
            clear uZ;obtain rfl:=si_ H;try go_wp2
            replace Z5:=am_ (Kd.R_drew Z5.out);replace HB:=am_ (au HB.out);obtain⟨tr,uy,tv⟩:=Kd.at_string (Kd.R_reads' Z5.out).2.2 (tx) od_ od_;cases uy;obtain⟨vD,vG⟩:=pt_ (tx) tn.length;obtain⟨ui,uz,tw⟩:=Kd.at_string (Kd.R_reads' Z5.out).2.2 tm od_ od_;obtain rfl:tr=ui:=(by injection uz);obtain⟨vE,vH⟩:=pt_ tm tn.length;refine cN (n:=33) (S:=fun w'=>w'.cell? (tr.add ((tx)).toNat)=some (.string (bC ByteArray.empty tn (tx)))∧w'.cell? (tr.add (tm).toNat)=some (.string (bC ByteArray.empty tn tm))) (ds:=[]) (bm_ 33 0) bT rfl rfl ⟨tv,tw⟩ (fun hHeld=>?_);refine bu ab.tab16 ab.bits16 (fun HT_ HW_=>?_);generalize wc.drew=xW at Z5 HB tv tw hHeld ⊢;refine pv_ 0 75 ?_;refine pv_ 1 76 ?_;refine pv_ 2 77 ?_;refine pv_ 3 78 ?_;refine pv_ 4 79 ?_;refine pv_ 5 80 ?_;refine pv_ 6 81 ?_;refine pv_ 8 83 ?_;refine pv_ 9 84 ?_;refine pv_ 10 85 ?_;refine tv_ 7 82 ?_;refine tv_ 11 86 ?_;refine pv_ 12 87 ?_;refine pv_ 13 88 ?_;refine pv_ 14 89 ?_;refine sv_ 15 90 ?_;refine sv_ 16 91 ?_;refine sv_ 17 92 ?_;refine sv_ 18 93 ?_;refine sv_ 19 94 ?_;refine sv_ 20 95 ?_;refine pv_ 21 96 ?_;refine pv_ 22 97 ?_;refine sv_ 23 98 ?_;refine sv_ 24 99 ?_;refine sv_ 25 100 ?_;refine sv_ 26 101 ?_;refine sv_ 27 102 ?_;refine sv_ 28 103 ?_;refine sv_ 29 104 ?_;refine sv_ 30 105 ?_;refine sv_ 31 106 ?_;refine pv_ 32 107 ?_;refine dn_ HT_ ?_;try go_wp2
            go_ret
            exact⟨u75_,bw_ HB⟩
          ·rw[if_neg uY] at H;have vw:decide (0<tm)=false:=decide_eq_false uY;clear uY;obtain⟨xe,H⟩:=gd_ H;obtain⟨xf,H⟩:=gd_ H;obtain⟨wK,wP,H⟩:=bi_ H;cases wK
           ·replace H:=hf_ H;obtain rfl:=si_ H;try go_wp2
            replace Z5:=am_ (Kd.R_drew Z5.out);replace HB:=am_ (au HB.out);obtain⟨tJ,uT,tD⟩:=Kd.at_string (Kd.R_reads' Z5.out).2.2 tm od_ od_;cases uT;obtain⟨wG,wI⟩:=pt_ tm tn.length;refine cN (n:=33) (S:=fun w'=>w'.cell? (tJ.add (tm).toNat)=some (.string (bC ByteArray.empty tn tm))) (ds:=[]) (bm_ 33 0) bT rfl rfl (tD) (fun hHeld=>?_);refine bu ab.tab16 ab.bits16 (fun HT_ HW_=>?_);generalize wc.drew=ya at Z5 HB tD hHeld ⊢;refine pv_ 0 75 ?_;refine pv_ 1 76 ?_;refine pv_ 2 77 ?_;refine sv_ 3 78 ?_;refine sv_ 4 79 ?_;refine sv_ 5 80 ?_;refine sv_ 6 81 ?_;refine sv_ 7 82 ?_;refine sv_ 8 83 ?_;refine sv_ 9 84 ?_;refine sv_ 10 85 ?_;refine sv_ 11 86 ?_;refine sv_ 12 87 ?_;refine pv_ 13 88 ?_;refine pv_ 14 89 ?_;refine pv_ 15 90 ?_;refine pv_ 16 91 ?_;refine pv_ 17 92 ?_;refine take_ (i:=18) (N:=some 93) (v:=?_) (a':=?_) (bm_ 33 524287) rfl rfl (ms HT_.out HW_.out bT) (fun _ _ _ h=>h) (Or.inl ⟨ct,?_⟩) hHeld ?_ ?_;rotate_left
            ·intro w' s0;go_simp;with_reducible rfl
            rotate_left
            ·simp only[Act.put,List.setIfInBounds_toArray,List.set_cons_zero,List.set_cons_succ,aC,aG];rfl
            refine ov_ 19 94 (fun K hK=>?_);refine go_ Tryz.func13 (da.calls tH (bC ByteArray.empty tn tm) false _ ?side1 wP.out) ?_;(case side1=>exact fQ)
            rintro e yb ⟨rfl,hb⟩;have uO:=(hb.cell (World.block_lt_of_cell? _ _ (hHeld))).trans (hHeld);refine⟨_,rfl,?_⟩;replace HB:=bs_ HB hb;(try clear hb)
            refine hK.out _ _ (uO) (fun hHeld=>?_);clear hK K;refine nm_ ?_;refine pv_ 20 95 ?_;refine pv_ 21 96 ?_;refine pv_ 22 97 ?_;refine sv_ 23 98 ?_;refine sv_ 24 99 ?_;refine sv_ 25 100 ?_;refine sv_ 26 101 ?_;refine sv_ 27 102 ?_;refine sv_ 28 103 ?_;refine sv_ 29 104 ?_;refine sv_ 30 105 ?_;refine sv_ 31 106 ?_;refine pv_ 32 107 ?_;refine dn_ HT_ ?_;try go_wp2
            go_ret
            exact⟨u1_,bw_ HB⟩
           ·replace H:=ht_ H;obtain⟨uV,xi,H⟩:=bi_ H;have HC_:=am_ H;clear H;try go_wp2
            replace Z0:=am_ (Kd.R_drew Z0.out);replace Z5:=am_ (Kd.R_drew Z5.out);replace tk:=am_ (Kd.R_drew tk.out);replace ZZ:=am_ (Kd.N_drew ZZ.out);replace Z4:=am_ (Kd.V_drew Z4.out);replace tl:=am_ (bf tl.out);replace HB:=am_ (au HB.out);obtain⟨tJ,uT,tD⟩:=Kd.at_string (Kd.R_reads' Z5.out).2.2 tm od_ od_;cases uT;obtain⟨wG,wI⟩:=pt_ tm tn.length;obtain⟨vr,wl,uu⟩:=Kd.at_string (Kd.R_reads' Z5.out).2.2 tm od_ od_;obtain rfl:tJ=vr:=(by injection wl);obtain⟨xB,xH⟩:=pt_ tm tn.length;refine cN (n:=33) (S:=fun w'=>w'.cell? ⟨Z7,0,none⟩=some (.slice Zy ZX.length Zz)∧w'.cell? ⟨Z7,1,none⟩=some (.slice ZB ZU.length ZC)∧w'.cell? ⟨Z7,2,none⟩=some (.slice ZE ZQ.length ZG)∧w'.cell? ⟨Z7,3,none⟩=some (.int .i64 ZH)∧w'.cell? (tJ.add (tm).toNat)=some (.string (bC ByteArray.empty tn tm))∧w'.cell? (tJ.add (tm).toNat)=some (.string (bC ByteArray.empty tn tm))) (ds:=[]) (bm_ 33 0) bT rfl rfl ⟨bc_ tl 0,bc_ tl 1,bc_ tl 2,bc_ tl 3,tD,uu⟩ (fun hHeld=>?_);refine bu ab.tab16 ab.bits16 (fun HT_ HW_=>?_);generalize wc.drew=xX at Z0 Z5 tk ZZ Z4 tl HB tD uu hHeld ⊢;refine pv_ 0 75 ?_;refine pv_ 1 76 ?_;refine pv_ 2 77 ?_;refine sv_ 3 78 ?_;refine sv_ 4 79 ?_;refine sv_ 5 80 ?_;refine sv_ 6 81 ?_;refine sv_ 7 82 ?_;refine sv_ 8 83 ?_;refine sv_ 9 84 ?_;refine sv_ 10 85 ?_;refine sv_ 11 86 ?_;refine sv_ 12 87 ?_;refine pv_ 13 88 ?_;refine pv_ 14 89 ?_;refine pv_ 15 90 ?_;refine pv_ 16 91 ?_;refine pv_ 17 92 ?_;refine tv_ 18 93 ?_;refine ov_ 19 94 (fun K hK=>?_);refine go_ Tryz.func13 (da.calls tH (bC ByteArray.empty tn tm) true _ ?side1 wP.out) ?_;(case side1=>exact fQ)
            rintro e xY ⟨rfl,hb⟩;have uo:=(hb.cell (World.block_lt_of_cell? _ _ (hHeld.2.2.2.2.1))).trans (hHeld.2.2.2.2.1);have uq:=(hb.cell (World.block_lt_of_cell? _ _ (hHeld.2.2.2.2.2))).trans (hHeld.2.2.2.2.2);refine⟨_,rfl,?_⟩;replace Z0:=am_ (Kd.R_below (aR_ Z0.out) hb);replace Z5:=am_ (Kd.R_below (aR_ Z5.out) hb);replace tk:=am_ (Kd.R_below (aR_ tk.out) hb);replace ZZ:=am_ (Kd.N_below m6 hb);replace Z4:=am_ (Kd.V_below (aV_ Z4.out) hb);replace tl:=bb_ tl hb;replace HB:=bs_ HB hb;(try clear hb)
            refine hK.out _ _ ⟨bc_ tl 0,bc_ tl 1,bc_ tl 2,bc_ tl 3,uo,uq⟩ (fun hHeld=>?_);clear hK K;refine nm_ ?_;refine pv_ 20 95 ?_;refine pv_ 21 96 ?_;refine pv_ 22 97 ?_;refine pv_ 24 99 ?_;refine pv_ 25 100 ?_;refine pv_ 26 101 ?_;refine pv_ 27 102 ?_;refine tv_ 23 98 ?_;refine tv_ 28 103 ?_;refine ov_ 29 104 (fun K hK=>?_);refine go_ Tryz.func14 (am.calls tH _ _ ZX _ _ ZU _ _ ZQ ZH tE (bC ByteArray.empty tn tm) uV _ ?side1 (kR_ tk) ?side3 ?side4 ?side5 (kV_ Z4) ?side7 xi.out) ?_;(case side1=>exact fQ)
            (case side3=>exact(Kd.R_reads' tk.out).2.1)
            (case side4=>exact u108_)
            (case side5=>exact(Kd.N_reads' ZZ.out).2.1)
            (case side7=>exact(Kd.V_reads' Z4.out).2.1)
            rintro e xZ ⟨xK,rfl,ho0,hb⟩;have uo:=(hb.cell (World.block_lt_of_cell? _ _ (hHeld.2.2.2.2.1))).trans (hHeld.2.2.2.2.1);have uq:=(hb.cell (World.block_lt_of_cell? _ _ (hHeld.2.2.2.2.2))).trans (hHeld.2.2.2.2.2);refine⟨_,rfl,?_⟩;replace Z4:=am_ (Kd.V_elder' (aV_ Z4.out) qd hb);have vl:=am_ (Kd.N_lower (Kd.N_mono (ok':=fun k_=>some k_≠(.slice tA tq.length tB:Value).ownBlock∧some k_≠(.slice (some tJ) tn.length tI:Value).ownBlock∧some k_≠(.slice Zy ZX.length Zz:Value).ownBlock∧some k_≠(.slice ZB ZU.length ZC:Value).ownBlock∧k_≠Z7) (Kd.S_N (Kd.S_bound ho0)) (fun k_ hk_=>⟨(Kd.fresh' (Kd.R_lt (aR_ Z0.out)) k_ hk_.2.1),(Kd.fresh' (Kd.R_lt (aR_ Z5.out)) k_ hk_.2.1),(Kd.fresh' (Kd.R_lt (aR_ tk.out)) k_ hk_.2.1),(Kd.fresh' (Kd.N_lt m6) k_ hk_.2.1),(Kd.freshB (g:=Z7) (o:=.cells #[.slice Zy ZX.length Zz,.slice ZB ZU.length ZC,.slice ZE ZQ.length ZG,.int .i64 ZH] 27 (0,0)) (pb_ tl) k_ hk_.2.1)⟩)) (ar (bw_ HB)));replace Z0:=am_ (Kd.R_below (aR_ Z0.out) hb);replace Z5:=am_ (Kd.R_below (aR_ Z5.out) hb);replace tk:=am_ (Kd.R_below (aR_ tk.out) hb);replace ZZ:=am_ (Kd.N_elder' m6 qd hb);replace tl:=bb_ tl hb;replace HB:=bs_ HB hb;(try clear hb)
            (try clear ho0)
            obtain⟨xl,xr,vB⟩:=Kd.N_slice vl.out;(first | subst vB | (injection vB with f1_ f2_ f3_;have f4_:=f1_.symm;have f5_:=f3_.symm;clear f1_ f2_ f3_;subst f4_;subst f5_))
            refine hK.out _ _ ⟨bc_ tl 0,bc_ tl 1,bc_ tl 2,bc_ tl 3,uo,uq⟩ (fun hHeld=>?_);clear hK K;refine nm_ ?_;refine pv_ 30 105 ?_;refine pv_ 31 106 ?_;refine pv_ 32 107 ?_;refine dn_ HT_ ?_;have H:=HC_.out;clear HC_;by_cases uL:(uV.length:Int)=0
            ·rw[if_pos uL] at H;have un:=cW uL;have vz:=cX uL;clear uL;obtain rfl:=si_ H;(first | rw[un] | (simp only[aC,aG];rw[un]) | skip)
             try go_wp2
             go_ret
             exact⟨u1_,bw_ HB⟩
            ·rw[if_neg uL] at H;have un:=cO uL;have vz:=cQ uL;have xg:¬(uV = []):=fun h_=>uL (by rw[h_];rfl)
             have H':=am_ H;clear H;(first | rw[un] | (simp only[aC,aG];rw[un]) | skip)
             try go_wp2
             go_roundg tH
             case measure=>have:=HK1.out;have:=uv.out;have:=uC.out;omega
             case rel=>exact⟨(tK),(wrap64 (tm+1)),u4_,u4_,H',⟨by have:=HK1.out;have:=uv.out;have:=uC.out;omega⟩,⟨aR_ Z0.out⟩,⟨aR_ Z5.out⟩,⟨aR_ tk.out⟩,⟨u105_⟩,⟨u96_⟩,⟨pb_ tl⟩,⟨bw_ HB⟩⟩
     ·rw[if_neg uH] at H;have ux:=decide_eq_false uH;clear uH;obtain rfl:=si_ H;obtain⟨xm,xt,ww⟩:=Kd.R_slice Z5.out;subst ww;go_wp2;go_ret
      exact⟨u1_,bw_ HB⟩
end Go.Proofs.YtnjjdojonflckaaGreatDoor.PFnIndexTerms
