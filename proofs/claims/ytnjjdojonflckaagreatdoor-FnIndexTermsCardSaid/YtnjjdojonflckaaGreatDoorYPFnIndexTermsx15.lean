/- Contracts of Go functions, each told as a plain Lean function. -/
import Derived.Test.YtnjjdojonflckaaGreatDoorYPFnIndexTermsx10
namespace Go.Proofs.YtnjjdojonflckaaGreatDoor.PFnIndexTerms
open Go.RowKit Go.Proofs.YtnjjdojonflckaaGreatDoorW.PrintWords Go.Proofs.YtnjjdojonflckaaGreatDoorW.PrintLast Go.Proofs.YtnjjdojonflckaaGreatDoorW.PrintMore
attribute [local go_sem] bg bh bV bU cy cx bJ bI bX bW
set_option linter.unusedVariables false
set_option linter.unusedSimpArgs false
set_option maxHeartbeats 8000000
set_option maxRecDepth 100000
def df.f (k:Nat) (s0_0:List Int) (s0_1:Int):Option ((List (S92)) × Int):=(some (([] : List (S92)):List (S92))).bind fun tv=>((b8.f k s0_0 s0_1).bind fun tm=>(if tv.length+tm.1.length<4398046511104 then((some (tv ++ tm.1:List (S92))).bind fun tl=>((ac.f k s0_0 tm.2 12).bind fun tk=>(if tk.1=0 then((aV.f k s0_0 tk.2 (([(⟨#[116,105,116,108,101]⟩:ByteArray),(⟨#[122]⟩:ByteArray),(⟨#[]⟩:ByteArray)] : List ByteArray))).bind fun tn=>((ac.f k s0_0 tn.2 5).bind fun tq=>((ac.f k s0_0 tq.2 11).bind fun tr=>(if tl.length<4398046511104 then(some ((tl ++ [(⟨tn.1,tq.1,tr.1⟩:S92)]),tr.2)) else(none))))) else(if tk.1=1 then((cK.f k s0_0 tk.2 (([0,9,10] : List Int))).bind fun tu=>(if 0<(tl.length:Int) then(some ((tl.set (0:Int).toNat (⟨(az tl 0).f0,(az tl 0).f1,tu.1⟩:S92)),tu.2)) else(none))) else(if tk.1=2 then(some (([] : List (S92)),tk.2)) else(some (tl,tk.2))))))) else(none)))
theorem df.calls (k:Nat) (g:Nat) (s0_0:List Int) (s0_1:Int) (r1:List (S92)) (r2:Int) (w0 w:World) (hI:IsS114 w0 w g s0_0 s0_1) (hB:Below w0.heap.size w0 w) (h:df.f k s0_0 s0_1=some (r1,r2)) :
  Calls Tryz.prog 88 #[.pointer (some ⟨g,0,none⟩)] w fun e w'=>∃v0_:Value,e = .returned (v0_)∧Kd.R k92 92 w' w.heap.size (fun _=>True) v0_ r1∧IsS114 w0 w' g s0_0 r2∧Below w0.heap.size w0 w'∧KeepBut w w' g none:=by
 have hu92:=Tryz.underlying92;have HI0:=am_ hI;have HK:=am_ (KeepBut.refl w g none);have HL:=am_ hB.size;clear hI;have HW0:=am_ hB.size;have HB:=am_ hB;clear hB;have H:=h;clear h;unfold df.f at H
 obtain⟨tz,tu⟩:∃y_:List (S92),y_=(([] : List (S92))):=⟨_,rfl⟩;replace H:((b8.f k s0_0 s0_1).bind fun tE=>(if tz.length+tE.1.length<4398046511104 then((some (tz ++ tE.1:List (S92))).bind fun tk=>((ac.f k s0_0 tE.2 12).bind fun tq=>(if tq.1=0 then((aV.f k s0_0 tq.2 (([(⟨#[116,105,116,108,101]⟩:ByteArray),(⟨#[122]⟩:ByteArray),(⟨#[]⟩:ByteArray)] : List ByteArray))).bind fun tS=>((ac.f k s0_0 tS.2 5).bind fun tT=>((ac.f k s0_0 tT.2 11).bind fun tU=>(if tk.length<4398046511104 then(some ((tk ++ [(⟨tS.1,tT.1,tU.1⟩:S92)]),tU.2)) else(none))))) else(if tq.1=1 then((cK.f k s0_0 tq.2 (([0,9,10] : List Int))).bind fun tV=>(if 0<(tk.length:Int) then(some ((tk.set (0:Int).toNat (⟨(az tk 0).f0,(az tk 0).f1,tV.1⟩:S92)),tV.2)) else(none))) else(if tq.1=2 then(some (([] : List (S92)),tq.2)) else(some (tk,tq.2))))))) else(none)))=some (r1,r2):=by first | (rw[tu];with_reducible exact H)|(have H2_:=(Option.bind_some _ _).symm.trans H;rw[tu];with_reducible exact H2_)|(have H2_:=(Option.bind_some _ _).symm.trans H;with_reducible exact H2_) | with_reducible exact H | (rw[tu];exact H) | exact H
 have tn:=am_ tu;clear tu;obtain⟨⟨tl,tm⟩,A2,H⟩:=bi_ H;dsimp only at H;obtain⟨tL,H⟩:=gl_ H;generalize tW:((tz ++ tl):List (S92))=tk at H;replace H:=(Option.bind_some _ _).symm.trans H;have tC:=am_ tW.symm;clear tW;obtain⟨⟨tw,tr⟩,A4,H⟩:=bi_ H;dsimp only at H;by_cases c5:tw=0
 ·rw[if_pos c5] at H;have ut:=cW c5;have uu:=cX c5;clear c5;generalize tX:((([(⟨#[116,105,116,108,101]⟩:ByteArray),(⟨#[122]⟩:ByteArray),(⟨#[]⟩:ByteArray)] : List ByteArray)):List ByteArray)=uG at H;have tQ:=am_ tX.symm;clear tX;obtain⟨⟨tI,tM⟩,A6,H⟩:=bi_ H;dsimp only at H;obtain⟨⟨tJ,tN⟩,A7,H⟩:=bi_ H;dsimp only at H;obtain⟨⟨tK,un⟩,A8,H⟩:=bi_ H;dsimp only at H;obtain⟨us,H⟩:=gl_ H;generalize tY:((tk ++ [(⟨tI,tJ,tK⟩:S92)]):List (S92))=uU at H;have ue:=am_ tY.symm;clear tY;simp only[Option.some.injEq,Prod.mk.injEq] at H;obtain⟨rfl,rfl⟩:=H;go_enter Tryz.func88,Tryz.ntmps88
  go_wp2_with (first | ((with_reducible refine aA (N:=4) rfl ?_);refine Kd.R_lit k92 _ 92 ?hg (N:=4) ?hd (xs:=([] : List (S92))) (inner:=[]) (ok:=fun _=>True) (okp:=fun _=>True) ?hr ?hp (fun _ hk=>hk) trivial (Below.refl _ _) (Nat.le_refl _) bb ?_;(case hd=>rfl);(case hg=>rfl);(case hr=>exact bL);(case hp=>exact fj);intro tx uV ho11 hb hg_ hnew_;clear hg_ hnew_;(first | rw[← tn.out] at ho11 | (simp only[Int.reduceToNat] at ho11;rw[← tn.out] at ho11));have ZR:=am_ (Kd.R_lower ho11 (ak (w:=w) (g:=g) (row:=none) u0_));replace HK:=am_ (KeepBut.trans u0_ (KeepBut.of_below hb g none) (.inl rfl));replace HB:=am_ (av u3_ hb);replace HI0:=am_ (IsS114.below u2_ hb);clear hb ho11)|((with_reducible refine gt_ 6 ?_);refine gf_ 6 Tryz.func126 (b8.calls k g s0_0 s0_1 tl tm w0 _ ?side1 ?side2 A2.out) ?_;(case side1=>exact fc);(case side2=>exact e6);rintro e uW ⟨uc,rfl,ho0,hi,hb,hk⟩;refine⟨_,rfl,?_⟩;have Zt:=am_ (Kd.Q_lower (Kd.Q_new' ho0 (Kd.R_lt (aR_ ZR.out))) (ak (w:=w) (g:=g) (row:=none) u0_));replace ZR:=am_ (Kd.R_mono (Kd.R_told (Kd.R_oldK (IsS114.apart (show IsS114 w0 _ g s0_0 s0_1 from u2_) (aR_ ZR.out) ap) hk) (Kd.Q_base ho0)) (fun _ h_=>h_.1));replace HK:=am_ (KeepBut.trans u0_ hk (.inl rfl));replace HB:=am_ (hb);replace HI0:=am_ (hi);(try clear hb);(try clear hk);(try clear hi);(try clear ho0);obtain⟨ZE,ZG,ux,_⟩:=Kd.Q_slice Zt.out;subst ux)|((with_reducible refine aY (b:=.append) (xs:=#[.tmp 4,.tmp 6]) rfl ?_);at_builtin;refine Kd.R_append_rows k92 w.heap.size rfl (.tmp 4) (.tmp 6) 23 92 (.agg #[(.string ⟨#[]⟩),(.int .i64 0),(.int .i64 0)]) 32 rfl Tryz.underlying23 hZ rfl ap aw tx tz tl _ _ _ (fun k_=>some k_≠(.slice ZE tl.length ZG:Value).ownBlock) (fun _=>False) rfl rfl ?aO ?aR (fun _ _ h=>h) (fun _ h=>h.elim) ?aF (Below.refl _ _) ?aS ?aL ?_;(case aR=>exact u66_);(case aF=>exact pw);(case aO=>exact u78_);(case aS=>exact pn);(case aL=>have:=tL.out;omega);intro tO uX ho hb hg hat;rw[← tC.out] at ho;replace Zt:=am_ (Kd.Q_after (ok:=(fun _=>True)) qg hg hat);replace HB:=am_ (dg u3_ HL.out hb);replace HI0:=am_ (IsS114.grown (show IsS114 w0 _ g s0_0 tm from u2_) hg (IsS114.own_ne HI0.out ZR.out ap));replace HK:=am_ (KeepBut.trans u0_ (KeepBut.of_grown hg g) (Kd.R_base2 ZR.out));have ZW:=am_ (ho);clear ZR ho hb hg hat)|((with_reducible refine gt_ 9 ?_);refine gf_ 9 Tryz.func85 (ac.calls k g s0_0 tm 12 tw tr w0 _ ?side1 ?side2 A4.out) ?_;(case side1=>exact fc);(case side2=>exact e6);rintro e uY ⟨rfl,hi,hb,hk⟩;refine⟨_,rfl,?_⟩;replace Zt:=am_ (Kd.Q_mono (Kd.Q_keep (IsS114.apartQ (show IsS114 w0 _ g s0_0 tm from u2_) qg ap) hk (fun _ h=>h.2)) (fun _ h=>h.1));replace ZW:=am_ (Kd.R_mono (Kd.R_keep (IsS114.apart (show IsS114 w0 _ g s0_0 tm from u2_) (aR_ ZW.out) ap) hk (fun _ h=>h.2)) (fun _ h=>h.1));replace HK:=am_ (KeepBut.trans u0_ hk (.inl rfl));replace HB:=am_ (hb);replace HI0:=am_ (hi);(try clear hb);(try clear hk);(try clear hi))|((with_reducible refine aA (N:=14) rfl ?_);refine Kd.R_lit Kd.string _ 9 ?hg (N:=14) ?hd (xs:=([(⟨#[116,105,116,108,101]⟩:ByteArray),(⟨#[122]⟩:ByteArray),(⟨#[]⟩:ByteArray)] : List ByteArray)) (inner:=[.string (⟨#[116,105,116,108,101]⟩:ByteArray),.string (⟨#[122]⟩:ByteArray),.string (⟨#[]⟩:ByteArray)]) (ok:=fun _=>True) (okp:=fun _=>True) ?hr ?hp (fun _ hk=>hk) trivial (Below.refl _ _) (Nat.le_refl _) bb ?_;(case hd=>rfl);(case hg=>rfl);(case hr=>exact bL);(case hp=>exact(Reps.one (show Kd.M Kd.string _ _ _ (⟨#[116,105,116,108,101]⟩:ByteArray) [.string (⟨#[116,105,116,108,101]⟩:ByteArray)] from rfl) (Reps.one (show Kd.M Kd.string _ _ _ (⟨#[122]⟩:ByteArray) [.string (⟨#[122]⟩:ByteArray)] from rfl) (Reps.one (show Kd.M Kd.string _ _ _ (⟨#[]⟩:ByteArray) [.string (⟨#[]⟩:ByteArray)] from rfl) (Reps.none _ _)))));intro uR uZ ho17 hb hg_ hnew_;clear hg_ hnew_;(first | rw[← tQ.out] at ho17 | (simp only[Int.reduceToNat] at ho17;rw[← tQ.out] at ho17));replace Zt:=am_ (Kd.Q_below qg hb);replace ZW:=am_ (Kd.R_below (aR_ ZW.out) hb);have tA:=am_ (Kd.R_lower ho17 (ak (w:=w) (g:=g) (row:=none) u0_));replace HK:=am_ (KeepBut.trans u0_ (KeepBut.of_below hb g none) (.inl rfl));replace HB:=am_ (av u3_ hb);replace HI0:=am_ (IsS114.below u2_ hb);clear hb ho17;obtain⟨uN,uP,uy⟩:=Kd.R_slice tA.out;subst uy)|((with_reducible refine gt_ 15 ?_);refine gf_ 15 Tryz.func42 (aV.calls k g s0_0 tr _ _ uG tI tM w0 _ ?side1 ?side2 (kR_ tA) ?side4 ?side5 A6.out) ?_;(case side1=>exact fc);(case side2=>exact e6);(case side4=>exact(Kd.R_reads' tA.out).2.1);(case side5=>exact dv (IsS114.own_ne HI0.out tA.out ap));rintro e u6 ⟨rfl,hi,hb,hk⟩;refine⟨_,rfl,?_⟩;replace Zt:=am_ (Kd.Q_mono (Kd.Q_keep (IsS114.apartQ (show IsS114 w0 _ g s0_0 tr from u2_) qg ap) hk (fun _ h=>h.2)) (fun _ h=>h.1));replace ZW:=am_ (Kd.R_mono (Kd.R_keep (IsS114.apart (show IsS114 w0 _ g s0_0 tr from u2_) (aR_ ZW.out) ap) hk (fun _ h=>h.2)) (fun _ h=>h.1));replace HK:=am_ (KeepBut.trans u0_ hk (.inl rfl));replace HB:=am_ (hb);replace HI0:=am_ (hi);(try clear hb);(try clear hk);(try clear hi))|((with_reducible refine gt_ 17 ?_);refine gf_ 17 Tryz.func85 (ac.calls k g s0_0 tM 5 tJ tN w0 _ ?side1 ?side2 A7.out) ?_;(case side1=>exact fc);(case side2=>exact e6);rintro e u9 ⟨rfl,hi,hb,hk⟩;refine⟨_,rfl,?_⟩;replace Zt:=am_ (Kd.Q_mono (Kd.Q_keep (IsS114.apartQ (show IsS114 w0 _ g s0_0 tM from u2_) qg ap) hk (fun _ h=>h.2)) (fun _ h=>h.1));replace ZW:=am_ (Kd.R_mono (Kd.R_keep (IsS114.apart (show IsS114 w0 _ g s0_0 tM from u2_) (aR_ ZW.out) ap) hk (fun _ h=>h.2)) (fun _ h=>h.1));replace HK:=am_ (KeepBut.trans u0_ hk (.inl rfl));replace HB:=am_ (hb);replace HI0:=am_ (hi);(try clear hb);(try clear hk);(try clear hi))|((with_reducible refine gt_ 19 ?_);refine gf_ 19 Tryz.func85 (ac.calls k g s0_0 tN 11 tK un w0 _ ?side1 ?side2 A8.out) ?_;(case side1=>exact fc);(case side2=>exact e6);rintro e vk ⟨rfl,hi,hb,hk⟩;refine⟨_,rfl,?_⟩;replace Zt:=am_ (Kd.Q_mono (Kd.Q_keep (IsS114.apartQ (show IsS114 w0 _ g s0_0 tN from u2_) qg ap) hk (fun _ h=>h.2)) (fun _ h=>h.1));replace ZW:=am_ (Kd.R_mono (Kd.R_keep (IsS114.apart (show IsS114 w0 _ g s0_0 tN from u2_) (aR_ ZW.out) ap) hk (fun _ h=>h.2)) (fun _ h=>h.1));replace HK:=am_ (KeepBut.trans u0_ hk (.inl rfl));replace HB:=am_ (hb);replace HI0:=am_ (hi);(try clear hb);(try clear hk);(try clear hi))|((with_reducible refine aY (b:=.append) (xs:=#[.tmp 12,.tmp 21]) rfl ?_);at_builtin;refine Kd.R_append k92 w.heap.size rfl (.tmp 12) (.tmp 21) 23 92 (.agg #[(.string ⟨#[]⟩),(.int .i64 0),(.int .i64 0)]) 32 rfl Tryz.underlying23 hZ rfl ap aw tO tk (⟨tI,tJ,tK⟩:S92) [.string tI,.int .i64 tJ,.int .i64 tK] (fun k_=>some k_≠(.slice ZE tl.length ZG:Value).ownBlock) (fun _=>False) rfl rfl ?aP (fun _ hk=>hk.elim) ?aF ?aO (Below.refl _ _) ?aS ?aL ?_;(case aP=>exact ii _ _ _ (⟨tI,tJ,tK⟩:S92));(case aF=>exact pw);(case aO=>exact(aR_ ZW.out));(case aS=>exact pn);(case aL=>have:=us.out;omega);intro uS vl ho hb hg hat;rw[← ue.out] at ho;replace HB:=am_ (dg u3_ HL.out hb);replace HI0:=am_ (IsS114.grown (show IsS114 w0 _ g s0_0 un from u2_) hg (IsS114.own_ne HI0.out ZW.out ap));replace HK:=am_ (KeepBut.trans u0_ (KeepBut.of_grown hg g) (Kd.R_base2 ZW.out));have ud:=am_ (ho);clear ZW ho hb hg hat))
  go_ret
  exact⟨_,u1_,by(with_reducible repeat (first | apply Kd.R_alloc | apply Kd.R_drewN | apply Kd.R_drew));exact Kd.R_mono ud.out (fun _ hk=>trivial),u2_,u3_,u0_⟩
 ·rw[if_neg c5] at H;have ut:=cO c5;have uu:=cQ c5;by_cases t8:tw=1
  ·rw[if_pos t8] at H;have ug:=cW t8;have uh:=cX t8;clear t8;generalize tZ:((([0,9,10] : List Int)):List Int)=uH at H;have tR:=am_ tZ.symm;clear tZ;obtain⟨⟨tD,uo⟩,uM,H⟩:=bi_ H;dsimp only at H;obtain⟨uJ,H⟩:=gn_ H;have uK:=decide_eq_true uJ;have uL:decide (0<tk.length)=true:=decide_eq_true aw;clear uJ;generalize t6:((tk.set (0:Int).toNat (⟨(az tk 0).f0,(az tk 0).f1,tD⟩:S92)):List (S92))=uI at H;have uf:=am_ t6.symm;clear t6;simp only[Option.some.injEq,Prod.mk.injEq] at H;obtain⟨rfl,rfl⟩:=H;go_enter Tryz.func88,Tryz.ntmps88
   go_wp2_with (first | ((with_reducible refine aA (N:=4) rfl ?_);refine Kd.R_lit k92 _ 92 ?hg (N:=4) ?hd (xs:=([] : List (S92))) (inner:=[]) (ok:=fun _=>True) (okp:=fun _=>True) ?hr ?hp (fun _ hk=>hk) trivial (Below.refl _ _) (Nat.le_refl _) bb ?_;(case hd=>rfl);(case hg=>rfl);(case hr=>exact bL);(case hp=>exact fj);intro tx vm ho28 hb hg_ hnew_;clear hg_ hnew_;(first | rw[← tn.out] at ho28 | (simp only[Int.reduceToNat] at ho28;rw[← tn.out] at ho28));have ZR:=am_ (Kd.R_lower ho28 (ak (w:=w) (g:=g) (row:=none) u0_));replace HK:=am_ (KeepBut.trans u0_ (KeepBut.of_below hb g none) (.inl rfl));replace HB:=am_ (av u3_ hb);replace HI0:=am_ (IsS114.below u2_ hb);clear hb ho28)|((with_reducible refine gt_ 6 ?_);refine gf_ 6 Tryz.func126 (b8.calls k g s0_0 s0_1 tl tm w0 _ ?side1 ?side2 A2.out) ?_;(case side1=>exact fc);(case side2=>exact e6);rintro e vn ⟨uc,rfl,ho0,hi,hb,hk⟩;refine⟨_,rfl,?_⟩;have Zt:=am_ (Kd.Q_lower (Kd.Q_new' ho0 (Kd.R_lt (aR_ ZR.out))) (ak (w:=w) (g:=g) (row:=none) u0_));replace ZR:=am_ (Kd.R_mono (Kd.R_told (Kd.R_oldK (IsS114.apart (show IsS114 w0 _ g s0_0 s0_1 from u2_) (aR_ ZR.out) ap) hk) (Kd.Q_base ho0)) (fun _ h_=>h_.1));replace HK:=am_ (KeepBut.trans u0_ hk (.inl rfl));replace HB:=am_ (hb);replace HI0:=am_ (hi);(try clear hb);(try clear hk);(try clear hi);(try clear ho0);obtain⟨t7,ub,uz,_⟩:=Kd.Q_slice Zt.out;subst uz)|((with_reducible refine aY (b:=.append) (xs:=#[.tmp 4,.tmp 6]) rfl ?_);at_builtin;refine Kd.R_append_rows k92 w.heap.size rfl (.tmp 4) (.tmp 6) 23 92 (.agg #[(.string ⟨#[]⟩),(.int .i64 0),(.int .i64 0)]) 32 rfl Tryz.underlying23 hZ rfl ap aw tx tz tl _ _ _ (fun k_=>some k_≠(.slice t7 tl.length ub:Value).ownBlock) (fun _=>False) rfl rfl ?aO ?aR (fun _ _ h=>h) (fun _ h=>h.elim) ?aF (Below.refl _ _) ?aS ?aL ?_;(case aR=>exact u66_);(case aF=>exact pw);(case aO=>exact u78_);(case aS=>exact pn);(case aL=>have:=tL.out;omega);intro tO vo ho hb hg hat;rw[← tC.out] at ho;replace HB:=am_ (dg u3_ HL.out hb);replace HI0:=am_ (IsS114.grown (show IsS114 w0 _ g s0_0 tm from u2_) hg (IsS114.own_ne HI0.out ZR.out ap));replace HK:=am_ (KeepBut.trans u0_ (KeepBut.of_grown hg g) (Kd.R_base2 ZR.out));have ZW:=am_ (ho);clear ZR ho hb hg hat)|((with_reducible refine gt_ 9 ?_);refine gf_ 9 Tryz.func85 (ac.calls k g s0_0 tm 12 tw tr w0 _ ?side1 ?side2 A4.out) ?_;(case side1=>exact fc);(case side2=>exact e6);rintro e vp ⟨rfl,hi,hb,hk⟩;refine⟨_,rfl,?_⟩;replace ZW:=am_ (Kd.R_mono (Kd.R_keep (IsS114.apart (show IsS114 w0 _ g s0_0 tm from u2_) (aR_ ZW.out) ap) hk (fun _ h=>h.2)) (fun _ h=>h.1));replace HK:=am_ (KeepBut.trans u0_ hk (.inl rfl));replace HB:=am_ (hb);replace HI0:=am_ (hi);(try clear hb);(try clear hk);(try clear hi))|((with_reducible refine aA (N:=27) rfl ?_);refine Kd.R_lit (Kd.int .i64) _ 3 ?hg (N:=27) ?hd (xs:=([0,9,10] : List Int)) (inner:=[.int .i64 0,.int .i64 9,.int .i64 10]) (ok:=fun _=>True) (okp:=fun _=>True) ?hr ?hp (fun _ hk=>hk) trivial (Below.refl _ _) (Nat.le_refl _) bb ?_;(case hd=>rfl);(case hg=>rfl);(case hr=>exact bL);(case hp=>exact(Reps.one (show Kd.M (Kd.int .i64) _ _ _ 0 [.int .i64 0] from rfl) (Reps.one (show Kd.M (Kd.int .i64) _ _ _ 9 [.int .i64 9] from rfl) (Reps.one (show Kd.M (Kd.int .i64) _ _ _ 10 [.int .i64 10] from rfl) (Reps.none _ _)))));intro uT vq ho34 hb hg_ hnew_;clear hg_ hnew_;(first | rw[← tR.out] at ho34 | (simp only[Int.reduceToNat] at ho34;rw[← tR.out] at ho34));replace ZW:=am_ (Kd.R_below (aR_ ZW.out) hb);have tB:=am_ (Kd.R_lower ho34 (ak (w:=w) (g:=g) (row:=none) u0_));replace HK:=am_ (KeepBut.trans u0_ (KeepBut.of_below hb g none) (.inl rfl));replace HB:=am_ (av u3_ hb);replace HI0:=am_ (IsS114.below u2_ hb);clear hb ho34;obtain⟨uO,uQ,uA⟩:=Kd.R_slice tB.out;subst uA)|((with_reducible refine gt_ 28 ?_);refine gf_ 28 Tryz.func86 (cK.calls k g s0_0 tr _ _ uH tD uo w0 _ ?side1 ?side2 (kR_ tB) ?side4 ?side5 uM.out) ?_;(case side1=>exact fc);(case side2=>exact e6);(case side4=>exact(Kd.R_reads' tB.out).2.1);(case side5=>exact dv (IsS114.own_ne HI0.out tB.out ap));rintro e tP ⟨rfl,hi,hb,hk⟩;refine⟨_,rfl,?_⟩;replace ZW:=am_ (Kd.R_mono (Kd.R_keep (IsS114.apart (show IsS114 w0 _ g s0_0 tr from u2_) (aR_ ZW.out) ap) hk (fun _ h=>h.2)) (fun _ h=>h.1));replace HK:=am_ (KeepBut.trans u0_ hk (.inl rfl));replace HB:=am_ (hb);replace HI0:=am_ (hi);(try clear hb);(try clear hk);(try clear hi);have uD:0≤(0:Int):=aw;have uE:(0:Int)<((tk.length:Int):Int):=od_;have qi26:(0<tk.length)=True:=eq_true aw;obtain⟨go26,uk,ul,um,gl26,cl26,HG26⟩:=Kd.R_form ZW.out aw;(first | cases ul | (injection ul with ea_ en_ ec_;(first | subst ea_ | (injection ea_ with ea_;subst ea_));subst ec_;clear en_));have GB26:=am_ um;have GG26:=am_ HG26;clear um gl26 HG26;obtain⟨ce26,hcl26,hM26,hcc26,hfr26⟩:=Kd.R_elem ZW.out z92 (0:Int) uD uE;obtain rfl:=nE hM26;have tF:tP.cell? ⟨go26,(0:Int).toNat*3,none⟩=some (.string ((az tk 0).f0)):=hcc26 0 _ rfl;have tG:tP.cell? ⟨go26,(0:Int).toNat*3+1,none⟩=some (.int .i64 ((az tk 0).f1)):=hcc26 1 _ rfl;have tH:tP.cell? ⟨go26,(0:Int).toNat*3+2,none⟩=some (.int .i64 ((az tk 0).f2)):=hcc26 2 _ rfl;have hf26_0:tP.frozen? ⟨go26,(0:Int).toNat*3,none⟩=false:=hfr26 0;have hf26_1:tP.frozen? ⟨go26,(0:Int).toNat*3+1,none⟩=false:=hfr26 1;have hf26_2:tP.frozen? ⟨go26,(0:Int).toNat*3+2,none⟩=false:=hfr26 2;clear hcl26 hcc26 hfr26 hM26;(try rw[show ((0:Int)).toNat=0 from rfl] at tF);(try simp only[Nat.reduceMul,Nat.zero_mul,Nat.zero_add,Nat.reduceAdd] at tF);(try rw[show ((0:Int)).toNat=0 from rfl] at hf26_0);(try simp only[Nat.reduceMul,Nat.zero_mul,Nat.zero_add,Nat.reduceAdd] at hf26_0);(try rw[show ((0:Int)).toNat=0 from rfl] at tG);(try simp only[Nat.reduceMul,Nat.zero_mul,Nat.zero_add,Nat.reduceAdd] at tG);(try rw[show ((0:Int)).toNat=0 from rfl] at hf26_1);(try simp only[Nat.reduceMul,Nat.zero_mul,Nat.zero_add,Nat.reduceAdd] at hf26_1);(try rw[show ((0:Int)).toNat=0 from rfl] at tH);(try simp only[Nat.reduceMul,Nat.zero_mul,Nat.zero_add,Nat.reduceAdd] at tH);(try rw[show ((0:Int)).toNat=0 from rfl] at hf26_2);(try simp only[Nat.reduceMul,Nat.zero_mul,Nat.zero_add,Nat.reduceAdd] at hf26_2);obtain⟨uD,uE⟩:=tt_ uD uE;have HX37:=am_ (show Kd.R k92 92 tP w.heap.size (fun k_=>some k_≠(.slice t7 tl.length ub:Value).ownBlock) (.slice (some ⟨go26,0,none⟩) tk.length uk) tk from (aR_ ZW.out));obtain⟨ce37,hcl37,hM37,hcc37,hfr37⟩:=Kd.R_elem HX37.out z92 (0:Int) aw (by have h_:(0:Int)<((tk.length:Int):Int):=od_;first | exact h_ | (have e_:=(Kd.R_reads' ZW.out).1;omega) | simpa using h_);obtain rfl:=nE hM37;have HP37:=Kd.R_seg HX37.out (0:Int) aw (by have h_:(0:Int)<((tk.length:Int):Int):=od_;first | exact h_ | (have e_:=(Kd.R_reads' ZW.out).1;omega) | simpa using h_) (seg:=[.int .i64 tD]) (j:=2) hcl37 hcc37 (show 3≤3 from ap) (x':=(⟨(az tk 0).f0,(az tk 0).f1,tD⟩:S92)) (ii _ _ _ (⟨(az tk 0).f0,(az tk 0).f1,tD⟩:S92) ) (fun _ hk=>hk);have tv:=hcc37 2 _ rfl;(try simp only[show (k92).sz=3 from rfl,Nat.mul_one,Nat.add_zero] at tv);(try rw[show ((0:Int)).toNat=0 from rfl] at tv);(try simp only[Nat.reduceMul,Nat.zero_mul,Nat.zero_add,Nat.reduceAdd] at tv);have hf37_2:=hfr37 2;(try simp only[show (k92).sz=3 from rfl,Nat.mul_one,Nat.add_zero] at hf37_2);(try rw[show ((0:Int)).toNat=0 from rfl] at hf37_2);(try simp only[Nat.reduceMul,Nat.zero_mul,Nat.zero_add,Nat.reduceAdd] at hf37_2);clear hcl37 hcc37 hfr37 hM37)|((with_reducible refine qk (t:=3) (p:=30) rfl ?_);refine pk (t:=3) (p:=30) (v:=?vo_w38) (w1:=(tP.setCell ⟨go26,2,none⟩ (.int .i64 tD))) ?hg ?ho ?hn ?hr ?_;(case ho=>rfl);(case hg=>rfl);(case hn=>rfl);(case hr=>exact bL);intro uF hw;have hg:tP.grownBy uF (some go26):=(by rw[hw];exact HP37.2);have hp_:Kd.R k92 92 uF w.heap.size (fun k_=>some k_≠(.slice t7 tl.length ub:Value).ownBlock) (.slice (some ⟨go26,0,none⟩) tk.length uk) uI:=(by rw[hw,uf.out];exact HP37.1);clear HP37;replace HI0:=am_ (IsS114.grown (show IsS114 w0 _ g s0_0 uo from u2_) hg (IsS114.own_ne HI0.out ZW.out ap));replace HB:=am_ ((by rw[hw];exact aN (HB.out) (Nat.le_trans HL.out GB26.out):Below w0.heap.size w0 uF));replace HK:=am_ (KeepBut.trans u0_ (KeepBut.of_grown hg g) (Kd.R_base2 ZW.out));replace ZW:=am_ (hp_);clear hg hw hp_))
   go_ret
   exact⟨_,u1_,u129_,u2_,u3_,u0_⟩
  ·rw[if_neg t8] at H;have ug:=cO t8;have uh:=cQ t8;by_cases ua:tw=2
   ·rw[if_pos ua] at H;have ui:=cW ua;have uj:=cX ua;clear ua;simp only[Option.some.injEq,Prod.mk.injEq] at H;obtain⟨rfl,rfl⟩:=H;go_enter Tryz.func88,Tryz.ntmps88
    go_wp2_with (first | ((with_reducible refine aA (N:=4) rfl ?_);refine Kd.R_lit k92 _ 92 ?hg (N:=4) ?hd (xs:=([] : List (S92))) (inner:=[]) (ok:=fun _=>True) (okp:=fun _=>True) ?hr ?hp (fun _ hk=>hk) trivial (Below.refl _ _) (Nat.le_refl _) bb ?_;(case hd=>rfl);(case hg=>rfl);(case hr=>exact bL);(case hp=>exact fj);intro tx vr ho41 hb hg_ hnew_;clear hg_ hnew_;(first | rw[← tn.out] at ho41 | (simp only[Int.reduceToNat] at ho41;rw[← tn.out] at ho41));have ZR:=am_ (Kd.R_lower ho41 (ak (w:=w) (g:=g) (row:=none) u0_));replace HK:=am_ (KeepBut.trans u0_ (KeepBut.of_below hb g none) (.inl rfl));replace HB:=am_ (av u3_ hb);replace HI0:=am_ (IsS114.below u2_ hb);clear hb ho41)|((with_reducible refine gt_ 6 ?_);refine gf_ 6 Tryz.func126 (b8.calls k g s0_0 s0_1 tl tm w0 _ ?side1 ?side2 A2.out) ?_;(case side1=>exact fc);(case side2=>exact e6);rintro e vu ⟨uc,rfl,ho0,hi,hb,hk⟩;refine⟨_,rfl,?_⟩;have Zt:=am_ (Kd.Q_lower (Kd.Q_new' ho0 (Kd.R_lt (aR_ ZR.out))) (ak (w:=w) (g:=g) (row:=none) u0_));replace ZR:=am_ (Kd.R_mono (Kd.R_told (Kd.R_oldK (IsS114.apart (show IsS114 w0 _ g s0_0 s0_1 from u2_) (aR_ ZR.out) ap) hk) (Kd.Q_base ho0)) (fun _ h_=>h_.1));replace HK:=am_ (KeepBut.trans u0_ hk (.inl rfl));replace HB:=am_ (hb);replace HI0:=am_ (hi);(try clear hb);(try clear hk);(try clear hi);(try clear ho0);obtain⟨uq,uv,uB,_⟩:=Kd.Q_slice Zt.out;subst uB)|((with_reducible refine aY (b:=.append) (xs:=#[.tmp 4,.tmp 6]) rfl ?_);at_builtin;refine Kd.R_append_rows k92 w.heap.size rfl (.tmp 4) (.tmp 6) 23 92 (.agg #[(.string ⟨#[]⟩),(.int .i64 0),(.int .i64 0)]) 32 rfl Tryz.underlying23 hZ rfl ap aw tx tz tl _ _ _ (fun k_=>some k_≠(.slice uq tl.length uv:Value).ownBlock) (fun _=>False) rfl rfl ?aO ?aR (fun _ _ h=>h) (fun _ h=>h.elim) ?aF (Below.refl _ _) ?aS ?aL ?_;(case aR=>exact u66_);(case aF=>exact pw);(case aO=>exact u78_);(case aS=>exact pn);(case aL=>have:=tL.out;omega);intro tO vv ho hb hg hat;rw[← tC.out] at ho;replace HB:=am_ (dg u3_ HL.out hb);replace HI0:=am_ (IsS114.grown (show IsS114 w0 _ g s0_0 tm from u2_) hg (IsS114.own_ne HI0.out ZR.out ap));replace HK:=am_ (KeepBut.trans u0_ (KeepBut.of_grown hg g) (Kd.R_base2 ZR.out));clear ZR ho hb hg hat)|((with_reducible refine gt_ 9 ?_);refine gf_ 9 Tryz.func85 (ac.calls k g s0_0 tm 12 tw tr w0 _ ?side1 ?side2 A4.out) ?_;(case side1=>exact fc);(case side2=>exact e6);rintro e vw ⟨rfl,hi,hb,hk⟩;refine⟨_,rfl,?_⟩;replace HK:=am_ (KeepBut.trans u0_ hk (.inl rfl));replace HB:=am_ (hb);replace HI0:=am_ (hi);(try clear hb);(try clear hk);(try clear hi)))
    go_ret
    exact⟨_,u1_,u127_,u2_,u3_,u0_⟩
   ·rw[if_neg ua] at H;have ui:=cO ua;have uj:=cQ ua;simp only[Option.some.injEq,Prod.mk.injEq] at H;obtain⟨rfl,rfl⟩:=H;go_enter Tryz.func88,Tryz.ntmps88
    go_wp2_with (first | ((with_reducible refine aA (N:=4) rfl ?_);refine Kd.R_lit k92 _ 92 ?hg (N:=4) ?hd (xs:=([] : List (S92))) (inner:=[]) (ok:=fun _=>True) (okp:=fun _=>True) ?hr ?hp (fun _ hk=>hk) trivial (Below.refl _ _) (Nat.le_refl _) bb ?_;(case hd=>rfl);(case hg=>rfl);(case hr=>exact bL);(case hp=>exact fj);intro tx vx ho47 hb hg_ hnew_;clear hg_ hnew_;(first | rw[← tn.out] at ho47 | (simp only[Int.reduceToNat] at ho47;rw[← tn.out] at ho47));have ZR:=am_ (Kd.R_lower ho47 (ak (w:=w) (g:=g) (row:=none) u0_));replace HK:=am_ (KeepBut.trans u0_ (KeepBut.of_below hb g none) (.inl rfl));replace HB:=am_ (av u3_ hb);replace HI0:=am_ (IsS114.below u2_ hb);clear hb ho47)|((with_reducible refine gt_ 6 ?_);refine gf_ 6 Tryz.func126 (b8.calls k g s0_0 s0_1 tl tm w0 _ ?side1 ?side2 A2.out) ?_;(case side1=>exact fc);(case side2=>exact e6);rintro e vy ⟨uc,rfl,ho0,hi,hb,hk⟩;refine⟨_,rfl,?_⟩;have Zt:=am_ (Kd.Q_lower (Kd.Q_new' ho0 (Kd.R_lt (aR_ ZR.out))) (ak (w:=w) (g:=g) (row:=none) u0_));replace ZR:=am_ (Kd.R_mono (Kd.R_told (Kd.R_oldK (IsS114.apart (show IsS114 w0 _ g s0_0 s0_1 from u2_) (aR_ ZR.out) ap) hk) (Kd.Q_base ho0)) (fun _ h_=>h_.1));replace HK:=am_ (KeepBut.trans u0_ hk (.inl rfl));replace HB:=am_ (hb);replace HI0:=am_ (hi);(try clear hb);(try clear hk);(try clear hi);(try clear ho0);obtain⟨ur,uw,uC,_⟩:=Kd.Q_slice Zt.out;subst uC)|((with_reducible refine aY (b:=.append) (xs:=#[.tmp 4,.tmp 6]) rfl ?_);at_builtin;refine Kd.R_append_rows k92 w.heap.size rfl (.tmp 4) (.tmp 6) 23 92 (.agg #[(.string ⟨#[]⟩),(.int .i64 0),(.int .i64 0)]) 32 rfl Tryz.underlying23 hZ rfl ap aw tx tz tl _ _ _ (fun k_=>some k_≠(.slice ur tl.length uw:Value).ownBlock) (fun _=>False) rfl rfl ?aO ?aR (fun _ _ h=>h) (fun _ h=>h.elim) ?aF (Below.refl _ _) ?aS ?aL ?_;(case aR=>exact u66_);(case aF=>exact pw);(case aO=>exact u78_);(case aS=>exact pn);(case aL=>have:=tL.out;omega);intro tO vz ho hb hg hat;rw[← tC.out] at ho;replace HB:=am_ (dg u3_ HL.out hb);replace HI0:=am_ (IsS114.grown (show IsS114 w0 _ g s0_0 tm from u2_) hg (IsS114.own_ne HI0.out ZR.out ap));replace HK:=am_ (KeepBut.trans u0_ (KeepBut.of_grown hg g) (Kd.R_base2 ZR.out));have ZW:=am_ (ho);clear ZR ho hb hg hat)|((with_reducible refine gt_ 9 ?_);refine gf_ 9 Tryz.func85 (ac.calls k g s0_0 tm 12 tw tr w0 _ ?side1 ?side2 A4.out) ?_;(case side1=>exact fc);(case side2=>exact e6);rintro e vA ⟨rfl,hi,hb,hk⟩;refine⟨_,rfl,?_⟩;replace ZW:=am_ (Kd.R_mono (Kd.R_keep (IsS114.apart (show IsS114 w0 _ g s0_0 tm from u2_) (aR_ ZW.out) ap) hk (fun _ h=>h.2)) (fun _ h=>h.1));replace HK:=am_ (KeepBut.trans u0_ hk (.inl rfl));replace HB:=am_ (hb);replace HI0:=am_ (hi);(try clear hb);(try clear hk);(try clear hi)))
    go_ret
    exact⟨_,u1_,u129_,u2_,u3_,u0_⟩
structure Dx (w0 w wx:World) (g g2 g3 B:Nat) (s:List Int) (p:Int) (c2 c3:Array Value) (W:World):Prop where
 i:IsS114 w0 W g s p
 b:Below w0.heap.size w0 W
 k:KeepBut w W g none
 h:Kept wx W (fun k=>k<B∨k=g3)
 b2:W.heap[g2]? = some (.cells c2 27 (0,0))
 b3:W.heap[g3]? = some (.cells c3 27 (0,0))
structure Dc (w0 w:World) (g g2 g3 B:Nat):Prop where
 a:w0.heap.size≤w.heap.size
 gB:g<B
 g2B:g2<B
 Bg3:B≤g3
 wB:w.heap.size≤B
 wg2:w.heap.size≤g2
 ne:g≠g2
section
variable {w0 w wx W W':World} {g g2 g3 B:Nat} {s:List Int} {p q:Int} {c2 c3:Array Value}
theorem Dx.call (D:Dx w0 w wx g g2 g3 B s p c2 c3 W) (c:Dc w0 w g g2 g3 B) (hi:IsS114 w0 W' g s q) (hb:Below w0.heap.size w0 W') (hk:KeepBut W W' g none):Dx w0 w wx g g2 g3 B s q c2 c3 W':=
 ⟨hi,hb,KeepBut.trans D.k hk (.inl rfl),D.h.then_ (S2:=fun k=>k=g) ⟨hk.1,fun k hl hn=>hk.2 k hl hn bb⟩ (fun k e=>.inl (.inl (e ▸ c.gB))),KeepBut.blk hk D.b2 c.ne.symm bb,KeepBut.blk hk D.b3 (by have:=c.gB;have:=c.Bg3;omega) bb⟩
theorem Dx.below (D:Dx w0 w wx g g2 g3 B s p c2 c3 W) (hb:Below W.heap.size W W'):Dx w0 w wx g g2 g3 B s p c2 c3 W':=
 ⟨D.i.below hb,D.b.trans (hb.mono D.b.size),KeepBut.trans D.k (KeepBut.of_below hb g none) (.inl rfl),D.h.below hb,bE D.b2 hb,bE D.b3 hb⟩
theorem Dx.put3 (D:Dx w0 w wx g g2 g3 B s p c2 c3 W) (c:Dc w0 w g g2 g3 B) (j:Nat) (u:Value) {c':Array Value} (e:c3.setIfInBounds j u=c':=by rfl):Dx w0 w wx g g2 g3 B s p c2 c' (W.setCell ⟨g3,j,none⟩ u):=by
 subst e;obtain⟨_,h1,h2,h3,h4,h5,_⟩:=c;exact⟨D.i.far (p:=⟨g3,j,none⟩) (by show g≠g3;omega) u,D.b.setCell (p:=⟨g3,j,none⟩) (by show _≤g3;omega) u,dt D.k (p:=⟨g3,j,none⟩) (by show _≤g3;omega) u,D.h.setCell (p:=⟨g3,j,none⟩) (.inl (.inr rfl)) u,(Below.heap_setCell W ⟨g3,j,none⟩ u g2 (by show g2≠g3;omega)).trans D.b2,nP D.b3 j u rfl⟩
theorem Dx.put2 (D:Dx w0 w wx g g2 g3 B s p c2 c3 W) (c:Dc w0 w g g2 g3 B) (j:Nat) (u:Value) {c':Array Value} (e:c2.setIfInBounds j u=c':=by rfl):Dx w0 w wx g g2 g3 B s p c' c3 (W.setCell ⟨g2,j,none⟩ u):=by
 subst e;obtain⟨_,h1,h2,h3,h4,h5,h6⟩:=c;exact⟨D.i.far (p:=⟨g2,j,none⟩) h6 u,D.b.setCell (p:=⟨g2,j,none⟩) (by show _≤g2;omega) u,dt D.k (p:=⟨g2,j,none⟩) h5 u,D.h.setCell (p:=⟨g2,j,none⟩) (.inl (.inl h2)) u,nP D.b2 j u rfl,(Below.heap_setCell W ⟨g2,j,none⟩ u g3 (by show g3≠g2;omega)).trans D.b3⟩
theorem Dx.R {α : Type} {d:Kd α} {e b:Nat} {ok:Nat→Prop} {v:Value} {xs:List α} (D:Dx w0 w wx g g2 g3 B s p c2 c3 W) (h:Kd.R d e wx b ok v xs) (hS:∀k,ok k→B≤k∧k≠g3):Kd.R d e W b ok v xs:=
 Kd.R_step h (fun k ho hl=>D.h.2 k hl (fun h2=>by have:=hS k ho;omega))
theorem Dx.N {α : Type} {d:Kd α} {e b:Nat} {ok:Nat→Prop} {v:Value} {xs:List α} (D:Dx w0 w wx g g2 g3 B s p c2 c3 W) (h:Kd.N d e wx b ok v xs) (hS:∀k,ok k→B≤k∧k≠g3):Kd.N d e W b ok v xs:=
 Kd.N_step h (fun k ho hl=>D.h.2 k hl (fun h2=>by have:=hS k ho;omega))
theorem Dx.in4 {a b d f u0 u1 u2 u3:Value} (D:Dx w0 w wx g g2 g3 B s p c2 #[a,b,d,f] W) (c:Dc w0 w g g2 g3 B):Dx w0 w wx g g2 g3 B s p c2 #[u0,u1,u2,u3] ((((W.setCell ⟨g3,0,none⟩ u0).setCell ⟨g3,1,none⟩ u1).setCell ⟨g3,2,none⟩ u2).setCell ⟨g3,3,none⟩ u3):=
 (((D.put3 c 0 u0 (c':=#[u0,b,d,f])).put3 c 1 u1 (c':=#[u0,u1,d,f])).put3 c 2 u2 (c':=#[u0,u1,u2,f])).put3 c 3 u3 (c':=#[u0,u1,u2,u3])
theorem Dx.out4 {a b d f u0 u1 u2 u3:Value} (D:Dx w0 w wx g g2 g3 B s p #[a,b,d,f] c3 W) (c:Dc w0 w g g2 g3 B):Dx w0 w wx g g2 g3 B s p #[u0,u1,u2,u3] c3 ((((W.setCell ⟨g2,0,none⟩ u0).setCell ⟨g2,1,none⟩ u1).setCell ⟨g2,2,none⟩ u2).setCell ⟨g2,3,none⟩ u3):=
 (((D.put2 c 0 u0 (c':=#[u0,b,d,f])).put2 c 1 u1 (c':=#[u0,u1,d,f])).put2 c 2 u2 (c':=#[u0,u1,u2,f])).put2 c 3 u3 (c':=#[u0,u1,u2,u3])
theorem Dx.fin {f:List S92} {r:List S46} {x:List S76} {b0 b1 b2:Nat} {o0 o1 o2:Nat→Prop} {v0 v1 v2:Value} (D:Dx w0 w wx g g2 g3 B s p c2 c3 W) (c:Dc w0 w g g2 g3 B)
  (h0:Kd.R k92 92 wx b0 o0 v0 f) (h1:Kd.N k46 46 wx b1 o1 v1 r) (h2:Kd.V k76 76 wx b2 o2 v2 x) (q0:w.heap.size≤b0) (q1:w.heap.size≤b1)
  (s0:∀k,o0 k→B≤k∧k≠g3) (s1:∀k,o1 k→B≤k∧k≠g3∧some k≠v0.ownBlock) (s2:∀k,o2 k→B≤k∧k≠g3∧some k≠v0.ownBlock∧some k≠v1.ownBlock) :
  Kd.R k92 92 W w.heap.size (fun k_=>w.heap.size≤k_) v0 f∧Kd.N k46 46 W w.heap.size (fun k_=>(w.heap.size≤k_)∧some k_≠v0.ownBlock) v1 r∧Kd.V k76 76 W w.heap.size (fun k_=>(w.heap.size≤k_)∧some k_≠v0.ownBlock∧some k_≠v1.ownBlock) v2 x∧IsS114 w0 W g s p∧Below w0.heap.size w0 W∧KeepBut w W g none:=by
 refine⟨Kd.R_mono (Kd.R_lower (D.R h0 s0) q0) fun k hk=>?_,Kd.N_mono (Kd.N_lower (D.N h1 fun k hk=>⟨(s1 k hk).1,(s1 k hk).2.1⟩) q1) fun k hk=>⟨?_,(s1 k hk).2.2⟩,Kd.V_mono (ok:=o2) (Kd.V_kept h2 D.h fun k ho e=>?_) fun k hk=>⟨?_,(s2 k hk).2.2⟩,D.i,D.b,D.k⟩
 ·exact Nat.le_trans c.wB (s0 k hk).1
 ·exact Nat.le_trans c.wB (s1 k hk).1
 ·have:=s2 k ho;omega
 ·exact Nat.le_trans c.wB (s2 k hk).1
theorem Dx.std {f:List S92} {r:List S46} {x:List S76} {v0 v1 v2:Value} (D:Dx w0 w wx g g2 g3 B s p c2 c3 W) (c:Dc w0 w g g2 g3 B) (G:wx.heap.size≤g3) {o:Nat→Prop}
  (h0:Kd.R k92 92 wx B (fun k=>B≤k) v0 f) (h1:Kd.N k46 46 wx B (fun k=>B≤k∧some k≠v0.ownBlock∧o k) v1 r) (h2:Kd.V k76 76 wx B (fun k=>B≤k∧some k≠v0.ownBlock∧some k≠v1.ownBlock) v2 x) :
  Kd.R k92 92 W w.heap.size (fun k_=>w.heap.size≤k_) v0 f∧Kd.N k46 46 W w.heap.size (fun k_=>(w.heap.size≤k_)∧some k_≠v0.ownBlock) v1 r∧Kd.V k76 76 W w.heap.size (fun k_=>(w.heap.size≤k_)∧some k_≠v0.ownBlock∧some k_≠v1.ownBlock) v2 x∧IsS114 w0 W g s p∧Below w0.heap.size w0 W∧KeepBut w W g none:=
 D.fin c (Kd.R_bound h0) (Kd.N_bound h1) (Kd.V_bound h2) c.wB c.wB (fun k hk=>⟨hk.1,nf⟩) (fun k hk=>⟨hk.1.1,by have:=hk.2;omega,hk.1.2.1⟩) (fun k hk=>⟨hk.1.1,by have:=hk.2;omega,hk.1.2⟩)
end
def bB.f (k:Nat) (s0_0:List Int) (s0_1:Int):Option ((List (S92)) × (List (S46)) × (List (S76)) × Int × Int):=(aI.f k s0_0 s0_1).bind fun tk=>((ac.f k s0_0 tk.2.2.2.2 16).bind fun tl=>(if tl.1=0 then((cK.f k s0_0 tl.2 (([0,(-1),999999999] : List Int))).bind fun tn=>(some (tk.1,tk.2.1,tk.2.2.1,tn.1,tn.2))) else(if tl.1=1 then(if(tk.2.2.1.length:Int)>0 then(if 1≤(tk.2.2.1.length:Int) then(some (tk.1,tk.2.1,(tk.2.2.1.drop 1),tk.2.2.2.1,tl.2)) else(none)) else(some (tk.1,tk.2.1,tk.2.2.1,tk.2.2.2.1,tl.2))) else(if tl.1=2 then((aX.f k s0_0 tl.2 tk.1).bind fun tm=>(if tk.2.1.length<2932031007402 then(some (tk.1,(tk.2.1 ++ [(⟨tk.2.2.2.1,(⟨tm.1,tm.2.1⟩:S44)⟩:S46)]),tk.2.2.1,tk.2.2.2.1,tm.2.2)) else(none))) else(if tl.1=3 then((df.f k s0_0 tl.2).bind fun tq=>(some (tq.1,tk.2.1,tk.2.2.1,tk.2.2.2.1,tq.2))) else(some (tk.1,tk.2.1,tk.2.2.1,tk.2.2.2.1,tl.2)))))))
def bB.T9:Bool × List (List Nat × List Nat):=(true,[([],[]),([0],[0]),([],[]),([2],[2]),([],[]),([],[]),([5],[5]),([4,6],[4,6]),([3,7],[3,7]),([8],[8]),([1,9,7],[1,9]),([0,1,2,3,4,5,6,7,8,9,10],[]),([11,10,10,0,1,2,3,4,5,6,7,8,9,10],[10,11])])
def bB.B9:List Nat:=[0,1,0,4,0,0,32,112,252,508,1023,2047,4095]
theorem bB.tab9:dC .any (fk Tryz.f40 9)=bB.T9:=by kernel_rfl
theorem bB.bits9:dc bB.T9.2 bB.B9=true:=by kernel_rfl
theorem bB.calls (k:Nat) (g:Nat) (s0_0:List Int) (s0_1:Int) (r1:List (S92)) (r2:List (S46)) (r3:List (S76)) (r4:Int) (r5:Int) (w0 w:World) (hI:IsS114 w0 w g s0_0 s0_1) (hB:Below w0.heap.size w0 w) (h:bB.f k s0_0 s0_1=some (r1,r2,r3,r4,r5)) :
  Calls Tryz.prog 40 #[.pointer (some ⟨g,0,none⟩)] w fun e w'=>∃v0_ v1_ v2_:Value,e = .returned (.agg #[v0_,v1_,v2_,.int .i64 r4])∧Kd.R k92 92 w' w.heap.size (fun k_=>(w.heap.size≤k_)) v0_ r1∧Kd.N k46 46 w' w.heap.size (fun k_=>(w.heap.size≤k_)∧some k_≠(v0_:Value).ownBlock) v1_ r2∧Kd.V k76 76 w' w.heap.size (fun k_=>(w.heap.size≤k_)∧some k_≠(v0_:Value).ownBlock∧some k_≠(v1_:Value).ownBlock) v2_ r3∧IsS114 w0 w' g s0_0 r5∧Below w0.heap.size w0 w'∧KeepBut w w' g none:=by
 have hu27:=Tryz.underlying27;have hu46:=Tryz.underlying46;have HA:=am_ hB.size;unfold bB.f at h
 obtain⟨⟨f1,x1,e1,n1,p1⟩,A1,h⟩:=bi_ h;dsimp only at h;obtain⟨⟨t,p2⟩,A2,h⟩:=bi_ h;dsimp only at h;have HH:=am_ h;have HI:=am_ hI;have HB:=am_ hB;clear h hI hB;go_enter Tryz.func40,Tryz.ntmps40
 go_upto_region 2 with (first | ((with_reducible refine gt_ 2 ?_);refine bx_ 2 #[.slice none 0 0,.slice none 0 0,.slice none 0 0,.int .i64 0] 27 ?_;intro g2 hg w1 hbox hb;have HC:=am_ (And.intro hg hb);have B2:=am_ hbox;clear hbox hb hg)|((with_reducible refine gt_ 5 ?_);refine gf_ 5 Tryz.func84 (aI.calls k g s0_0 s0_1 f1 x1 e1 n1 p1 w0 _ (HI.out.below HC.out.2) (HB.out.trans (HC.out.2.mono HA.out)) A1.out) ?_;rintro e w5 ⟨v0,v1,v2,rfl,ho0,ho1,ho2,hi,hb,hk⟩;refine⟨_,rfl,?_⟩;obtain⟨X0,d0,rfl⟩:=Kd.R_slice ho0;obtain⟨X1,d1,rfl⟩:=Kd.N_slice ho1;obtain⟨X2,d2,rfl⟩:=Kd.N_slice ho2;have H0:=am_ ho0;have H1:=am_ ho1;have H2:=am_ ho2;have HS:=am_ (And.intro hi (And.intro hb hk));clear ho0 ho1 ho2 hi hb hk)|((with_reducible refine gt_ 3 ?_);refine bx_ 3 #[.slice none 0 0,.slice none 0 0,.slice none 0 0,.int .i64 0] 27 ?_;intro g3 hg w6 hbox hb;have HD:=am_ (And.intro hg (And.intro hbox hb));obtain⟨z0,z1,z2,z3,y0,y1,y2,y3⟩:=dx hbox;clear hbox hb hg))
 have c:Dc w0 w g g2 g3 w1.heap.size:=by
  have:=HI.out.lt;have:=HC.out.2.size;have:=dE B2.out;have:=HS.out.2.2.1;have:=HC.out.1;have:=HD.out.1;exact⟨HA.out,aw,aw,aw,aw,aw,aw⟩
 have D:aa (Dx w0 w w5 g g2 g3 w1.heap.size s0_0 p1 #[.slice none 0 0,.slice none 0 0,.slice none 0 0,.int .i64 0] #[.slice X0 f1.length d0,.slice X1 x1.length d1,.slice X2 e1.length d2,.int .i64 n1] ((((w6.setCell ⟨g3,0,none⟩ (.slice X0 f1.length d0)).setCell ⟨g3,1,none⟩ (.slice X1 x1.length d1)).setCell ⟨g3,2,none⟩ (.slice X2 e1.length d2)).setCell ⟨g3,3,none⟩ (.int .i64 n1))):=
  ⟨Dx.in4 (a:=.slice none 0 0) (b:=.slice none 0 0) (d:=.slice none 0 0) (f:=.int .i64 0) ⟨HS.out.1.below HD.out.2.2,HS.out.2.1.trans (HD.out.2.2.mono HS.out.2.1.size),KeepBut.trans (KeepBut.trans (KeepBut.of_below HC.out.2 g none) HS.out.2.2 (.inl rfl)) (KeepBut.of_below HD.out.2.2 g none) (.inl rfl),Kept.of_below HD.out.2.2 _,bE (KeepBut.blk HS.out.2.2 B2.out c.ne.symm bb) HD.out.2.2,HD.out.2.1⟩ c⟩
 have C:=am_ c;clear z0 z1 z2 z3 y0 y1 y2 y3 c HI HB HA;generalize ((((w6.setCell ⟨g3,0,none⟩ (.slice X0 f1.length d0)).setCell ⟨g3,1,none⟩ (.slice X1 x1.length d1)).setCell ⟨g3,2,none⟩ (.slice X2 e1.length d2)).setCell ⟨g3,3,none⟩ (.int .i64 n1))=w7 at D ⊢;go_upto_region 3 with (first | ((with_reducible refine gt_ 7 ?_);refine gf_ 7 Tryz.func85 (ac.calls k g s0_0 p1 16 t p2 w0 _ D.out.i D.out.b A2.out) ?_;rintro e w8 ⟨rfl,hi,hb,hk⟩;refine⟨_,rfl,?_⟩;replace D:=am_ (D.out.call C.out hi hb hk);clear hi hb hk))
 have G:=am_ (Nat.le_of_eq HD.out.1.symm);have h:=HH.out;clear HH HD HS HC B2;by_cases c0:t=0
 ·rw[if_pos c0] at h;have c0a:=cW c0;have c0b:=cX c0;clear c0;obtain⟨⟨m,p3⟩,A3,h⟩:=bi_ h;simp only[Option.some.injEq,Prod.mk.injEq] at h;obtain⟨rfl,rfl,rfl,rfl,rfl⟩:=h;go_upto_region 12 with (first | ((with_reducible refine aA (N:=11) rfl ?_);refine Kd.R_lit (Kd.int .i64) _ 3 ?hg (N:=11) ?hd (xs:=([0,(-1),999999999] : List Int)) (inner:=[.int .i64 0,.int .i64 (-1),.int .i64 999999999]) (ok:=fun _=>True) (okp:=fun _=>True) ?hr ?hp (fun _ hk=>hk) trivial (Below.refl _ _) (Nat.le_refl _) bb ?_;(case hd=>rfl);(case hg=>rfl);(case hr=>exact bL);(case hp=>exact(Reps.one (show Kd.M (Kd.int .i64) _ _ _ 0 [.int .i64 0] from rfl) (Reps.one (show Kd.M (Kd.int .i64) _ _ _ (-1) [.int .i64 (-1)] from rfl) (Reps.one (show Kd.M (Kd.int .i64) _ _ _ 999999999 [.int .i64 999999999] from rfl) (Reps.none _ _)))));intro vL w9 ho hb hg_ hnew_;obtain⟨AL,cL,rfl⟩:=Kd.R_slice ho;have HL:=am_ ho;replace D:=am_ (D.out.below hb);clear hg_ hnew_ ho hb)|((with_reducible refine gt_ 12 ?_);refine gf_ 12 Tryz.func86 (cK.calls k g s0_0 p2 _ _ [0,(-1),999999999] m p3 w0 _ D.out.i D.out.b (Kd.R_reads' HL.out).2.2 (Kd.R_reads' HL.out).2.1 (dv (IsS114.own_ne D.out.i HL.out ap)) A3.out) ?_;rintro e tk ⟨rfl,hi,hb,hk⟩;refine⟨_,rfl,?_⟩;replace D:=am_ (D.out.call C.out hi hb hk);obtain⟨z0,z1,z2,z3,y0,y1,y2,y3⟩:=dx D.out.b3;clear hi hb hk HL))
  replace D:=am_ (D.out.put3 C.out 3 (.int .i64 m) (c':=#[.slice X0 f1.length d0,.slice X1 x1.length d1,.slice X2 e1.length d2,.int .i64 m]));clear z0 z1 z2 z3 y0 y1 y2 y3;generalize tk.setCell ⟨g3,3,none⟩ (.int .i64 m)=tl at D ⊢;obtain⟨z0,z1,z2,z3,y0,y1,y2,y3⟩:=dx D.out.b3;obtain⟨o0,o1,o2,o3,j0,j1,j2,j3⟩:=dx D.out.b2;go_wp2;refine bodyPost_ret (results_cell_row rfl _ _ g2 27 #[.slice X0 f1.length d0,.slice X1 x1.length d1,.slice X2 e1.length d2,.int .i64 m] (0,0) _ rfl (D.out.out4 C.out).b2 Tryz.underlying27 rfl bT) rfl ?_;exact⟨_,_,_,rfl,(D.out.out4 C.out).std C.out G.out H0.out H1.out (Kd.N_V H2.out)⟩
 rw[if_neg c0] at h;have c0a:=cO c0;have c0b:=cQ c0;clear c0;by_cases c1:t=1
 ·rw[if_pos c1] at h;have c1a:=cW c1;have c1b:=cX c1;clear c1;obtain⟨z0,z1,z2,z3,y0,y1,y2,y3⟩:=dx D.out.b3;by_cases c2:(e1.length:Int)>0
  ·rw[if_pos c2] at h;have c2a:decide (0<(e1.length:Int))=true:=decide_eq_true c2;have c2b:decide (0<e1.length)=true:=decide_eq_true aw;clear c2;obtain⟨c3a,c3b,h⟩:=ge_ h;simp only[Option.some.injEq,Prod.mk.injEq] at h;obtain⟨rfl,rfl,rfl,rfl,rfl⟩:=h;have q:=(show (1:Int)≤((e1.length:Int):Int) by have:=of_decide_eq_true c2a;omega);obtain⟨i0,tm,_,hsz,_⟩:=info_parts jS;have hroom:e1.length≤d2:=(Kd.N_reads' H2.out).2.1;have hcut:=g9 (P:=Tryz.prog) 25 76 .i64 Tryz.underlying25 tm 3 hsz X2 e1.length d2 1 aw q;obtain⟨AY,hAY⟩:∃A1,A1=(if d2=(1:Int).toNat then X2 else(X2:Option Addr).map (·.add ((1:Int).toNat*3))):=⟨_,rfl⟩;obtain⟨cY,hcY⟩:∃c1,c1=d2 - (1:Int).toNat:=⟨_,rfl⟩;obtain⟨y,hyy⟩:∃y_,y_=e1.drop 1:=⟨_,rfl⟩;have hy:y.length=e1.length - (1:Int).toNat:=by rw[hyy,List.length_drop] <;> rfl
   have hr:=Kd.F_cut (m:=(1:Int).toNat) (c:=d2) (Kd.V_at (Kd.N_V (base':=w1.heap.size) H2.out)).2.2 aw hroom;rw[show e1.drop (1:Int).toNat=y from hyy.symm] at hr;rw[← hy,← hAY,← hcY] at hcut;have HV:=am_ (show Kd.V k76 76 w5 w1.heap.size _ (.slice AY y.length cY) y from Kd.V_mk (by rw[hy,hcY];exact Nat.sub_le_sub_right hroom _) (by rw[hAY];exact hr));have HY:=am_ hyy;clear hr hroom tm hsz hcY hy hAY hyy;replace q:=eq_true q;go_upto_region 12 with (fail)
   replace D:=am_ (D.out.put3 C.out 2 (.slice AY y.length cY) (c':=#[.slice X0 f1.length d0,.slice X1 x1.length d1,.slice AY y.length cY,.int .i64 n1]));clear z0 z1 z2 z3 y0 y1 y2 y3 hcut q;generalize w8.setCell ⟨g3,2,none⟩ (.slice AY y.length cY)=tl at D ⊢;obtain⟨z0,z1,z2,z3,y0,y1,y2,y3⟩:=dx D.out.b3;obtain⟨o0,o1,o2,o3,j0,j1,j2,j3⟩:=dx D.out.b2;go_wp2;have hY:=HY.out;subst hY;refine bodyPost_ret (results_cell_row rfl _ _ g2 27 #[.slice X0 f1.length d0,.slice X1 x1.length d1,.slice AY (e1.drop 1).length cY,.int .i64 n1] (0,0) _ rfl (D.out.out4 C.out).b2 Tryz.underlying27 rfl bT) rfl ?_;exact⟨_,_,_,rfl,(D.out.out4 C.out).std C.out G.out H0.out H1.out HV.out⟩
  ·rw[if_neg c2] at h;have c2a:decide (0<(e1.length:Int))=false:=decide_eq_false c2;have c2b:decide (0<e1.length)=false:=decide_eq_false aw;clear c2;simp only[Option.some.injEq,Prod.mk.injEq] at h;obtain⟨rfl,rfl,rfl,rfl,rfl⟩:=h;go_upto_region 12 with (fail)
   clear z0 z1 z2 z3 y0 y1 y2 y3;obtain⟨z0,z1,z2,z3,y0,y1,y2,y3⟩:=dx D.out.b3;obtain⟨o0,o1,o2,o3,j0,j1,j2,j3⟩:=dx D.out.b2;go_wp2;refine bodyPost_ret (results_cell_row rfl _ _ g2 27 #[.slice X0 f1.length d0,.slice X1 x1.length d1,.slice X2 e1.length d2,.int .i64 n1] (0,0) _ rfl (D.out.out4 C.out).b2 Tryz.underlying27 rfl bT) rfl ?_;exact⟨_,_,_,rfl,(D.out.out4 C.out).std C.out G.out H0.out H1.out (Kd.N_V H2.out)⟩
 rw[if_neg c1] at h;have c1a:=cO c1;have c1b:=cQ c1;clear c1;by_cases c4:t=2
 ·rw[if_pos c4] at h;have c4a:=cW c4;have c4b:=cX c4;clear c4;obtain⟨⟨key,cs,p3⟩,A3,h⟩:=bi_ h;dsimp only at h;obtain⟨LM,h⟩:=gl_ h;generalize hy:(x1 ++ [(⟨n1,(⟨key,cs⟩:S44)⟩:S46)])=y at h;have HY:=am_ hy;clear hy;simp only[Option.some.injEq,Prod.mk.injEq] at h;obtain⟨rfl,rfl,rfl,rfl,rfl⟩:=h;go_upto_region 9 with (fail)
  replace D:=am_ (D.out.below (au (Below.refl _ _)));obtain⟨z0,z1,z2,z3,y0,y1,y2,y3⟩:=dx D.out.b3;refine cN (n:=13) (S:=fun w'=>w'.cell? ⟨g3,0,none⟩=some (.slice X0 f1.length d0)∧w'.cell? ⟨g3,1,none⟩=some (.slice X1 x1.length d1)∧w'.cell? ⟨g3,2,none⟩=some (.slice X2 e1.length d2)∧w'.cell? ⟨g3,3,none⟩=some (.int .i64 n1)) (ds:=[12]) (bm_ 13 0) bT rfl rfl ⟨z0,z1,z2,z3⟩ (fun hHeld=>?_);refine bu bB.tab9 bB.bits9 (fun HT_ HW_=>?_);clear z0 z1 z2 z3 y0 y1 y2 y3;generalize w8.drew=w9 at D hHeld ⊢;refine pv_ 0 26 ?_;refine pv_ 2 28 ?_;refine pv_ 4 30 ?_;refine pv_ 5 31 ?_;refine tv_ 1 27 ?_;refine tv_ 3 29 ?_;refine tv_ 6 32 ?_;refine ov_ 7 33 (fun K hK=>?_);refine go_ Tryz.func87 (aX.calls k g s0_0 p2 _ _ f1 key cs p3 w0 _ D.out.i D.out.b (Kd.C_foot_own (D.out.R (Kd.R_bound H0.out) (fun k_ h_=>⟨h_.1,by have:=G.out;have:=h_.2.2.1;omega⟩)) (fun k_ h_=>by have:=C.out.gB;have:=h_.1;omega)) (Kd.R_reads' H0.out).2.1 A3.out) ?_;rintro e tk ⟨vC,rfl,ho,hi,hb,hk⟩;refine⟨_,rfl,?_⟩;obtain⟨AC,cC,rfl⟩:=Kd.R_slice ho;have HE:=am_ ho;have LW:=am_ (And.intro (dE D.out.b3) (And.intro D.out.h.1 hk.1));replace D:=am_ (D.out.call C.out hi hb hk);clear hi hb hk ho hHeld;have LX:aa (∀k,w9.heap.size≤k→w1.heap.size≤k∧k≠g3∧some k≠(.slice X0 f1.length d0:Value).ownBlock∧some k≠(.slice X2 e1.length d2:Value).ownBlock):=⟨fun k h_=>by
   have h1:=LW.out;have h2:=C.out.Bg3;exact⟨aw,aw,fun e_=>by have:=Kd.R_lt H0.out k e_.symm;omega,fun e_=>by have:=Kd.N_lt H2.out k e_.symm;omega⟩⟩
  obtain⟨z0,z1,z2,z3,-⟩:=dx D.out.b3;refine hK.out _ _ ⟨z0,z1,z2,z3⟩ (fun hHeld=>?_);clear hK K z0 z1 z2 z3;refine nm_ ?_;refine pv_ 8 34 ?_;refine ov_ 9 35 (fun K hK=>?_);refine jm (w1:=?_) (v:=?_) ct rfl ?_ ?_;rotate_left 2
  ·go_simp;constructor
   ·rfl
   ·rfl
  refine hK.out _ _ ⟨(a7 (cH D.out.b3 _) 0).trans rfl,(a7 (cH D.out.b3 _) 1).trans rfl,(a7 (cH D.out.b3 _) 2).trans rfl,(a7 (cH D.out.b3 _) 3).trans rfl⟩ (fun hHeld=>?_);clear hK K;refine nm_ ?_;refine ov_ 10 36 (fun K hK=>?_);refine Kd.N_append_step k46 w1.heap.size ct (.tmp 27) (.tmp 35) 24 46 (.agg #[(.int .i64 0),(.string ⟨#[]⟩),(.slice none 0 0)]) 48 rfl Tryz.underlying24 lx rfl ap aw (.slice X1 x1.length d1) x1 (⟨n1,(⟨key,cs⟩:S44)⟩:S46) [.int .i64 n1,.string key,.slice AC cs.length cC] (fun k_=>w1.heap.size≤k_∧k_≠g3∧some k_≠(.slice X0 f1.length d0:Value).ownBlock∧some k_≠(.slice X2 e1.length d2:Value).ownBlock) (fun k_=>w9.heap.size≤k_) rfl rfl ?aP ?aK ?aF ?aO (Below.refl _ _) ?aS ?aL ?_
  case aP=>exact jK _ _ (⟨n1,(⟨key,cs⟩:S44)⟩:S46) (Kd.R_reads' HE.out).2.1 (Kd.R_F (Kd.R_mono (Kd.R_bound HE.out) (fun k_ h_=>h_.2.1)))
  case aK=>exact fun k_ h_=>⟨LX.out k_ h_,fun e_=>by have:=Kd.N_lt H1.out k_ e_.symm;have:=LW.out;omega⟩
  case aF=>exact fun k_ h_=>LX.out k_ (Nat.le_trans LW.out.2.2 h_)
  case aO=>exact Kd.N_mono (D.out.N (Kd.N_bound H1.out) (fun k_ h_=>⟨h_.1.1,qL⟩)) (fun k_ h_=>⟨h_.1.1,qL,h_.1.2.1,h_.1.2.2⟩)
  case aS=>have:=LW.out;have:=C.out.Bg3;omega
  case aL=>have:=LM.out;omega
  intro vR tl ho hb hg hat;rw[HY.out] at ho;obtain⟨AR,cR,rfl⟩:=Kd.N_slice ho;have hL:=LW.out;have hC:=C.out;have hG:=G.out;have n1_:∀k,(Value.slice X1 x1.length d1).ownBlock=some k→w1.heap.size≤k∧k<w5.heap.size:=fun k e=>⟨Kd.N_base H1.out k e,Kd.N_lt H1.out k e⟩
  have R0:=am_ (Kd.R_grown (Kd.R_tight rfl (D.out.R (Kd.R_bound H0.out) (fun k_ h_=>⟨h_.1,by have:=h_.2.2.1;omega⟩))) hg (fun k_ e_ f_=>(H1.out.1 k_ f_.symm).2.1 e_));have N2:=am_ (Kd.N_grown (D.out.N (Kd.N_bound H2.out) (fun k_ h_=>⟨h_.1.1,by have:=h_.2;omega⟩)) hg (fun k_ h_=>h_.1.2.2));have D':aa (Dx w0 w tl g g2 g3 w1.heap.size s0_0 p3 _ _ tl):=⟨⟨IsS114.grown D.out.i hg (fun e_=>by have:=n1_ g e_.symm;have:=hC.gB;omega),D.out.b.trans (hb.mono (Nat.le_trans hC.a hC.wB)),KeepBut.trans D.out.k (KeepBut.of_grown hg g) ((Kd.N_base2 H1.out).imp id fun ⟨k,e,q⟩=>⟨k,e,Nat.le_trans hC.wB q⟩),Kept.refl _ _,bP D.out.b2 hg (fun e_=>by have:=n1_ g2 e_.symm;have:=hC.g2B;omega),bP D.out.b3 hg (fun e_=>by have:=n1_ g3 e_.symm;omega)⟩⟩;have N1:=am_ ho;have LR:aa (∀k,k<w5.heap.size→some k≠(Value.slice X1 x1.length d1).ownBlock→some k≠(Value.slice AR y.length cR).ownBlock):=⟨fun k q1 q2 e=>by
   rcases hat with h1 | ⟨b,h1,h2⟩
   ·exact q2 (e.trans h1)
   ·rw[h1] at e;injection e with e
    omega⟩
  clear D ho hb hg hat n1_ hL hC hG hHeld;have D:=D';clear D';obtain⟨z0,z1,z2,z3,-⟩:=dx D.out.b3;refine hK.out _ _ ⟨z0,z1,z2,z3⟩ (fun hHeld=>?_);clear hK K z0 z1 z2 z3 hHeld;refine nm_ ?_;refine pv_ 11 37 ?_;refine qF (i:=12) (N:=none) (bm_ 13 8191) rfl rfl (jT HT_.out bT) ap (fun K hK=>?_);obtain⟨z0,z1,z2,z3,y0,y1,y2,y3⟩:=dx D.out.b3;refine pu (w1:=?_) ct rfl ?_ ?_;rotate_left
  ·go_simp;rfl
  refine hK.out _ _ ?_;clear hK K z0 z1 z2 z3 y0 y1 y2 y3;refine dn_ HT_ ?_;replace D:=am_ (D.out.put3 C.out 1 (.slice AR y.length cR) (c':=#[.slice X0 f1.length d0,.slice AR y.length cR,.slice X2 e1.length d2,.int .i64 n1]));generalize tl.setCell ⟨g3,1,none⟩ (.slice AR y.length cR)=tn at D ⊢;have hC:=C.out;have hG:=G.out;clear HT_ HW_;obtain⟨z0,z1,z2,z3,y0,y1,y2,y3⟩:=dx D.out.b3;obtain⟨o0,o1,o2,o3,j0,j1,j2,j3⟩:=dx D.out.b2;go_wp2;refine bodyPost_ret (results_cell_row rfl _ _ g2 27 #[.slice X0 f1.length d0,.slice AR y.length cR,.slice X2 e1.length d2,.int .i64 n1] (0,0) _ rfl (D.out.out4 C.out).b2 Tryz.underlying27 rfl bT) rfl ?_;exact⟨_,_,_,rfl,(D.out.out4 C.out).fin hC R0.out N1.out (Kd.N_V N2.out) (b1:=w1.heap.size) (b2:=w1.heap.size) hC.wB hC.wB (fun k_ e_=>⟨Kd.R_base H0.out k_ e_.symm,by have:=Kd.R_lt H0.out k_ e_.symm;omega⟩) (fun k_ h_=>⟨h_.1,h_.2.1,h_.2.2.1⟩) (fun k_ h_=>⟨h_.1.1,by have:=h_.2;omega,h_.1.2.1,LR.out k_ h_.2 h_.1.2.2⟩)⟩
 rw[if_neg c4] at h;have c4a:=cO c4;have c4b:=cQ c4;clear c4;by_cases c5:t=3
 ·rw[if_pos c5] at h;have c5a:=cW c5;have c5b:=cX c5;clear c5;obtain⟨⟨f2,p3⟩,A3,h⟩:=bi_ h;simp only[Option.some.injEq,Prod.mk.injEq] at h;obtain⟨rfl,rfl,rfl,rfl,rfl⟩:=h;have LW:=am_ (And.intro (dE D.out.b3) D.out.h.1);have M1:=am_ (D.out.N (Kd.N_bound H1.out) (fun k_ h_=>⟨h_.1.1,qL⟩));have M2:=am_ (D.out.N (Kd.N_bound H2.out) (fun k_ h_=>⟨h_.1.1,qL⟩));go_upto_region 12 with (first | ((with_reducible refine gt_ 41 ?_);refine gf_ 41 Tryz.func88 (df.calls k g s0_0 p2 f2 p3 w0 _ D.out.i D.out.b A3.out) ?_;rintro e tk ⟨vF,rfl,ho,hi,hb,hk⟩;refine⟨_,rfl,?_⟩;obtain⟨AF,cF,rfl⟩:=Kd.R_slice ho;have H3:=am_ ho;have N1:=am_ (Kd.N_keep M1.out hk (fun k_ h_=>by have:=C.out.gB;have:=h_.1.1;omega));have N2:=am_ (Kd.N_keep M2.out hk (fun k_ h_=>by have:=C.out.gB;have:=h_.1.1;omega));replace D:=am_ (D.out.call C.out hi hb hk);have D':aa (Dx w0 w tk g g2 g3 w1.heap.size s0_0 p3 _ _ tk):=⟨⟨D.out.i,D.out.b,D.out.k,Kept.refl _ _,D.out.b2,D.out.b3⟩⟩;clear D;have D:=D';obtain⟨z0,z1,z2,z3,y0,y1,y2,y3⟩:=dx D.out.b3;clear D' hi hb hk ho M1 M2))
  replace D:=am_ (D.out.put3 C.out 0 (.slice AF f2.length cF) (c':=#[.slice AF f2.length cF,.slice X1 x1.length d1,.slice X2 e1.length d2,.int .i64 n1]));clear z0 z1 z2 z3 y0 y1 y2 y3;generalize tk.setCell ⟨g3,0,none⟩ (.slice AF f2.length cF)=tl at D ⊢;have hL:=LW.out;have hC:=C.out;have hG:=G.out;obtain⟨z0,z1,z2,z3,y0,y1,y2,y3⟩:=dx D.out.b3;obtain⟨o0,o1,o2,o3,j0,j1,j2,j3⟩:=dx D.out.b2;go_wp2;refine bodyPost_ret (results_cell_row rfl _ _ g2 27 #[.slice AF f2.length cF,.slice X1 x1.length d1,.slice X2 e1.length d2,.int .i64 n1] (0,0) _ rfl (D.out.out4 C.out).b2 Tryz.underlying27 rfl bT) rfl ?_;exact⟨_,_,_,rfl,(D.out.out4 C.out).fin hC (Kd.R_bound H3.out) N1.out (Kd.N_V N2.out) (b1:=w1.heap.size) (b2:=w1.heap.size) (by have:=hC.wB;have:=hL.2;have:=hC.Bg3;omega) hC.wB (fun k_ h_=>by have:=h_.2.1;have:=hC.Bg3;exact⟨aw,aw⟩) (fun k_ h_=>⟨h_.1.1,by have:=h_.2;omega,fun e_=>by have:=Kd.R_base H3.out k_ e_.symm;have:=h_.2;omega⟩) (fun k_ h_=>⟨h_.1.1,by have:=h_.2;omega,fun e_=>by have:=Kd.R_base H3.out k_ e_.symm;have:=h_.2;omega,h_.1.2.2⟩)⟩
 rw[if_neg c5] at h;have c5a:=cO c5;have c5b:=cQ c5;clear c5;simp only[Option.some.injEq,Prod.mk.injEq] at h;obtain⟨rfl,rfl,rfl,rfl,rfl⟩:=h;go_upto_region 12 with (fail)
 obtain⟨z0,z1,z2,z3,y0,y1,y2,y3⟩:=dx D.out.b3;obtain⟨o0,o1,o2,o3,j0,j1,j2,j3⟩:=dx D.out.b2;go_wp2;refine bodyPost_ret (results_cell_row rfl _ _ g2 27 #[.slice X0 f1.length d0,.slice X1 x1.length d1,.slice X2 e1.length d2,.int .i64 n1] (0,0) _ rfl (D.out.out4 C.out).b2 Tryz.underlying27 rfl bT) rfl ?_;exact⟨_,_,_,rfl,(D.out.out4 C.out).std C.out G.out H0.out H1.out (Kd.N_V H2.out)⟩
def dY.f (k:Nat) (s0_0:List Int) (s0_1:Int):Option (ByteArray × Int):=(aV.f k s0_0 s0_1 (([(⟨#[116,105,116,108,101]⟩:ByteArray),(⟨#[98,111,100,121]⟩:ByteArray),(⟨#[112,114,105,99,101]⟩:ByteArray),(⟨#[99,111,108,111,114]⟩:ByteArray),(⟨#[110,111,110,101]⟩:ByteArray)] : List ByteArray))).bind fun tk=>(some (tk.1,tk.2))
theorem dY.calls (k:Nat) (g:Nat) (s0_0:List Int) (s0_1:Int) (r1:ByteArray) (r2:Int) (w0 w:World) (hI:IsS114 w0 w g s0_0 s0_1) (hB:Below w0.heap.size w0 w) (h:dY.f k s0_0 s0_1=some (r1,r2)) :
  Calls Tryz.prog 41 #[.pointer (some ⟨g,0,none⟩)] w fun e w'=>e = .returned (.string r1)∧IsS114 w0 w' g s0_0 r2∧Below w0.heap.size w0 w'∧KeepBut w w' g none:=by
 have HI0:=am_ hI;have HK:=am_ (KeepBut.refl w g none);have HL:=am_ hB.size;clear hI;have HW0:=am_ hB.size;have HB:=am_ hB;clear hB;have H:=h;clear h;unfold dY.f at H
 generalize tm:((([(⟨#[116,105,116,108,101]⟩:ByteArray),(⟨#[98,111,100,121]⟩:ByteArray),(⟨#[112,114,105,99,101]⟩:ByteArray),(⟨#[99,111,108,111,114]⟩:ByteArray),(⟨#[110,111,110,101]⟩:ByteArray)] : List ByteArray)):List ByteArray)=tr at H;have tl:=am_ tm.symm;clear tm;obtain⟨⟨tn,tq⟩,A2,H⟩:=bi_ H;dsimp only at H;simp only[Option.some.injEq,Prod.mk.injEq] at H;obtain⟨rfl,rfl⟩:=H;go_enter Tryz.func41,Tryz.ntmps41
 go_wp2_with (first | ((with_reducible refine aA (N:=4) rfl ?_);refine Kd.R_lit Kd.string _ 9 ?hg (N:=4) ?hd (xs:=([(⟨#[116,105,116,108,101]⟩:ByteArray),(⟨#[98,111,100,121]⟩:ByteArray),(⟨#[112,114,105,99,101]⟩:ByteArray),(⟨#[99,111,108,111,114]⟩:ByteArray),(⟨#[110,111,110,101]⟩:ByteArray)] : List ByteArray)) (inner:=[.string (⟨#[116,105,116,108,101]⟩:ByteArray),.string (⟨#[98,111,100,121]⟩:ByteArray),.string (⟨#[112,114,105,99,101]⟩:ByteArray),.string (⟨#[99,111,108,111,114]⟩:ByteArray),.string (⟨#[110,111,110,101]⟩:ByteArray)]) (ok:=fun _=>True) (okp:=fun _=>True) ?hr ?hp (fun _ hk=>hk) trivial (Below.refl _ _) (Nat.le_refl _) bb ?_;(case hd=>rfl);(case hg=>rfl);(case hr=>exact bL);(case hp=>exact(Reps.one (show Kd.M Kd.string _ _ _ (⟨#[116,105,116,108,101]⟩:ByteArray) [.string (⟨#[116,105,116,108,101]⟩:ByteArray)] from rfl) (Reps.one (show Kd.M Kd.string _ _ _ (⟨#[98,111,100,121]⟩:ByteArray) [.string (⟨#[98,111,100,121]⟩:ByteArray)] from rfl) (Reps.one (show Kd.M Kd.string _ _ _ (⟨#[112,114,105,99,101]⟩:ByteArray) [.string (⟨#[112,114,105,99,101]⟩:ByteArray)] from rfl) (Reps.one (show Kd.M Kd.string _ _ _ (⟨#[99,111,108,111,114]⟩:ByteArray) [.string (⟨#[99,111,108,111,114]⟩:ByteArray)] from rfl) (Reps.one (show Kd.M Kd.string _ _ _ (⟨#[110,111,110,101]⟩:ByteArray) [.string (⟨#[110,111,110,101]⟩:ByteArray)] from rfl) (Reps.none _ _)))))));intro tv w3 ho4 hb hg_ hnew_;clear hg_ hnew_;(first | rw[← tl.out] at ho4 | (simp only[Int.reduceToNat] at ho4;rw[← tl.out] at ho4));have tk:=am_ (Kd.R_lower ho4 (ak (w:=w) (g:=g) (row:=none) u0_));replace HK:=am_ (KeepBut.trans u0_ (KeepBut.of_below hb g none) (.inl rfl));replace HB:=am_ (av u3_ hb);replace HI0:=am_ (IsS114.below u2_ hb);clear hb ho4;obtain⟨tw,tx,tu⟩:=Kd.R_slice tk.out;subst tu)|((with_reducible refine gt_ 5 ?_);refine gf_ 5 Tryz.func42 (aV.calls k g s0_0 s0_1 _ _ tr tn tq w0 _ ?side1 ?side2 (kR_ tk) ?side4 ?side5 A2.out) ?_;(case side1=>exact fc);(case side2=>exact e6);(case side4=>exact(Kd.R_reads' tk.out).2.1);(case side5=>exact dv (IsS114.own_ne HI0.out tk.out ap));rintro e w6 ⟨rfl,hi,hb,hk⟩;refine⟨_,rfl,?_⟩;replace HK:=am_ (KeepBut.trans u0_ hk (.inl rfl));replace HB:=am_ (hb);replace HI0:=am_ (hi);(try clear hb);(try clear hk);(try clear hi)))
 go_ret
 exact⟨u1_,u2_,u3_,u0_⟩
def cA.f (k:Nat) (l0:List Int):Option ((List (S92)) × (List (S46)) × (List (S76)) × Int × ByteArray × ByteArray):=(ei.f l0).bind fun tl=>((bB.f k tl.1 tl.2).bind fun tk=>((dY.f k tl.1 tk.2.2.2.2).bind fun tm=>((aV.f k tl.1 tm.2 (([(⟨#[]⟩:ByteArray),(⟨#[]⟩:ByteArray),(⟨#[97]⟩:ByteArray),(⟨#[116,114]⟩:ByteArray),(⟨#[114,101,100]⟩:ByteArray)] : List ByteArray))).bind fun tn=>(some (tk.1,tk.2.1,tk.2.2.1,tk.2.2.2.1,tm.1,tn.1)))))
theorem cA.calls (k:Nat) (A0:Option Addr) (c0:Nat) (l0:List Int) (r1:List (S92)) (r2:List (S46)) (r3:List (S76)) (r4:Int) (r5:ByteArray) (r6:ByteArray) (w:World) (hr0:Kd.C (Kd.int .u8) w A0 l0.length l0) (hc0:l0.length≤c0) (h:cA.f k l0=some (r1,r2,r3,r4,r5,r6)) :
  Calls Tryz.prog 9 #[.slice A0 l0.length c0] w fun e w'=>∃v0_ v1_ v2_:Value,e = .returned (.tuple #[.agg #[v0_,v1_,v2_,.int .i64 r4],.string r5,.string r6])∧Kd.R k92 92 w' w.heap.size (fun k_=>(w.heap.size≤k_)) v0_ r1∧Kd.N k46 46 w' w.heap.size (fun k_=>(w.heap.size≤k_)∧some k_≠(v0_:Value).ownBlock) v1_ r2∧Kd.V k76 76 w' w.heap.size (fun k_=>(w.heap.size≤k_)∧some k_≠(v0_:Value).ownBlock∧some k_≠(v1_:Value).ownBlock) v2_ r3∧Below w.heap.size w w':=by
 have hu27:=Tryz.underlying27;have ZD:=am_ hr0;have uc:=am_ hc0;clear hr0 hc0;have HB:=am_ (Below.refl w.heap.size w);have H:=h;clear h;unfold cA.f at H
 obtain⟨⟨tu,tN⟩,A2,H⟩:=bi_ H;dsimp only at H;obtain⟨⟨tw,tx,tz,tA,tH⟩,A3,H⟩:=bi_ H;dsimp only at H;obtain⟨⟨t6,tI⟩,A4,H⟩:=bi_ H;dsimp only at H;generalize tG:((([(⟨#[]⟩:ByteArray),(⟨#[]⟩:ByteArray),(⟨#[97]⟩:ByteArray),(⟨#[116,114]⟩:ByteArray),(⟨#[114,101,100]⟩:ByteArray)] : List ByteArray)):List ByteArray)=tK at H;have tF:=am_ tG.symm;clear tG;obtain⟨⟨t7,t8⟩,A5,H⟩:=bi_ H;dsimp only at H;simp only[Option.some.injEq,Prod.mk.injEq] at H;obtain⟨rfl,rfl,rfl,rfl,rfl,rfl⟩:=H;go_enter Tryz.func9,Tryz.ntmps9
 go_wp2_with (first | ((with_reducible refine gt_ 2 ?_);refine bx_ 2 #[.slice none 0 0,.slice none 0 0,.slice none 0 0,.int .i64 0] 27 ?_;intro tk hg w6 hbox hb;have tl:=am_ (hbox);have YK:=gw_ HB hg;replace HB:=bs_ HB hb;clear hb hbox hg)|((with_reducible refine gt_ 7 ?_);refine gf_ 7 Tryz.func39 (ei.calls _ _ l0 tu tN w _ ?side1 ZD.out uc.out A2.out) ?_;(case side1=>repeat (first | (with_reducible first | exact HB.out | apply aE | apply al | apply au | refine aN ?_ YK.out) | exact HB.out));rintro e w7 ⟨g442,rfl,hi,hb,hb2⟩;refine⟨_,rfl,?_⟩;replace HB:=am_ (hb);have HI442:=am_ (hi);have Zg:=Nb.mk (IsS114.ne_blk hi (bE (g:=tk) (o:=.cells #[.slice none 0 0,.slice none 0 0,.slice none 0 0,.int .i64 0] 27 (0,0)) (pb_ tl) hb2) ap);have tm:=Nb.mk (Ne.symm (IsS114.ne_blk hi (bE (g:=tk) (o:=.cells #[.slice none 0 0,.slice none 0 0,.slice none 0 0,.int .i64 0] 27 (0,0)) (pb_ tl) hb2) ap));replace tl:=am_ (bE (g:=tk) (o:=.cells #[.slice none 0 0,.slice none 0 0,.slice none 0 0,.int .i64 0] 27 (0,0)) (pb_ tl) hb2);(try clear hb);(try clear hb2);(try clear hi))|((with_reducible refine gt_ 9 ?_);refine gf_ 9 Tryz.func40 (bB.calls k g442 tu tN tw tx tz tA tH w _ ?side1 ?side2 A3.out) ?_;(case side1=>exact u81_);(case side2=>exact u77_);rintro e w8 ⟨tv,tJ,ud,rfl,ho0,ho1,ho2,hi,hb,hk⟩;refine⟨_,rfl,?_⟩;have tn:=am_ (Kd.R_lower (Kd.R_newM (M:=fun k_=>(w.heap.size≤k_)) (Kd.R_mono (ok':=fun k_=>True) ho0 (fun _ hk_=>trivial)) (ar na) (fun k_ h_=>h_)) (ar na));have Y4:=am_ (Kd.N_lower (Kd.N_mono (ok':=fun k_=>(w.heap.size≤k_)∧some k_≠(tv:Value).ownBlock∧k_≠tk∧k_≠g442) ho1 (fun k_ hk_=>⟨(Nat.le_trans (ar na) hk_.1),hk_.2,(Kd.freshB (g:=tk) (o:=.cells #[.slice none 0 0,.slice none 0 0,.slice none 0 0,.int .i64 0] 27 (0,0)) (pb_ tl) k_ hk_.1),(IsS114.fresh u50_ k_ hk_.1)⟩)) (ar na));have tq:=am_ (Kd.V_lower (Kd.V_mono (ok':=fun k_=>(w.heap.size≤k_)∧some k_≠(tv:Value).ownBlock∧some k_≠(tJ:Value).ownBlock∧k_≠tk∧k_≠g442) ho2 (fun k_ hk_=>⟨(Nat.le_trans (ar na) hk_.1),hk_.2.1,hk_.2.2,(Kd.freshB (g:=tk) (o:=.cells #[.slice none 0 0,.slice none 0 0,.slice none 0 0,.int .i64 0] 27 (0,0)) (pb_ tl) k_ hk_.1),(IsS114.fresh u50_ k_ hk_.1)⟩)) (ar na));replace tl:=am_ (KeepBut.blk hk (g':=tk) (o:=.cells #[.slice none 0 0,.slice none 0 0,.slice none 0 0,.int .i64 0] 27 (0,0)) (pb_ tl) tm.out bb);replace HB:=am_ (hb);replace HI442:=am_ (hi);(try clear hb);(try clear hk);(try clear hi);(try clear ho0);(try clear ho1);(try clear ho2))|((with_reducible refine gt_ 11 ?_);refine gf_ 11 Tryz.func41 (dY.calls k g442 tu tH t6 tI w _ ?side1 ?side2 A4.out) ?_;(case side1=>exact u81_);(case side2=>exact u77_);rintro e w9 ⟨rfl,hi,hb,hk⟩;refine⟨_,rfl,?_⟩;replace tl:=am_ (KeepBut.blk hk (g':=tk) (o:=.cells #[.slice none 0 0,.slice none 0 0,.slice none 0 0,.int .i64 0] 27 (0,0)) (pb_ tl) tm.out bb);replace tn:=am_ (Kd.R_mono (Kd.R_keep (IsS114.apart (show IsS114 w _ g442 tu tH from u50_) (aR_ tn.out) ap) hk (fun _ h=>h.2)) (fun _ h=>h.1));replace Y4:=am_ (Kd.N_mono (Kd.N_keep (Kd.N_mono (ok:=fun k_=>(((w.heap.size≤k_))∧(some k_≠(tv:Value).ownBlock∧(k_≠tk∧k_≠g442)))) u99_ (fun k_ hk_=>(⟨hk_,hk_.2.2.2⟩:_∧k_≠g442))) hk (fun _ h=>h.2)) (fun _ h=>h.1));replace tq:=am_ (Kd.V_mono (Kd.V_keep (Kd.V_mono (ok:=fun k_=>(((w.heap.size≤k_))∧(some k_≠(tv:Value).ownBlock∧(some k_≠(tJ:Value).ownBlock∧(k_≠tk∧k_≠g442))))) (aV_ tq.out) (fun k_ hk_=>(⟨hk_,hk_.2.2.2.2⟩:_∧k_≠g442))) hk (fun _ h=>h.2)) (fun _ h=>h.1));replace HB:=am_ (hb);replace HI442:=am_ (hi);(try clear hb);(try clear hk);(try clear hi))|((with_reducible refine aA (N:=13) rfl ?_);refine Kd.R_lit Kd.string _ 9 ?hg (N:=13) ?hd (xs:=([(⟨#[]⟩:ByteArray),(⟨#[]⟩:ByteArray),(⟨#[97]⟩:ByteArray),(⟨#[116,114]⟩:ByteArray),(⟨#[114,101,100]⟩:ByteArray)] : List ByteArray)) (inner:=[.string (⟨#[]⟩:ByteArray),.string (⟨#[]⟩:ByteArray),.string (⟨#[97]⟩:ByteArray),.string (⟨#[116,114]⟩:ByteArray),.string (⟨#[114,101,100]⟩:ByteArray)]) (ok:=fun _=>True) (okp:=fun _=>True) ?hr ?hp (fun _ hk=>hk) trivial (Below.refl _ _) (Nat.le_refl _) bb ?_;(case hd=>rfl);(case hg=>rfl);(case hr=>exact bL);(case hp=>exact(Reps.one (show Kd.M Kd.string _ _ _ (⟨#[]⟩:ByteArray) [.string (⟨#[]⟩:ByteArray)] from rfl) (Reps.one (show Kd.M Kd.string _ _ _ (⟨#[]⟩:ByteArray) [.string (⟨#[]⟩:ByteArray)] from rfl) (Reps.one (show Kd.M Kd.string _ _ _ (⟨#[97]⟩:ByteArray) [.string (⟨#[97]⟩:ByteArray)] from rfl) (Reps.one (show Kd.M Kd.string _ _ _ (⟨#[116,114]⟩:ByteArray) [.string (⟨#[116,114]⟩:ByteArray)] from rfl) (Reps.one (show Kd.M Kd.string _ _ _ (⟨#[114,101,100]⟩:ByteArray) [.string (⟨#[114,101,100]⟩:ByteArray)] from rfl) (Reps.none _ _)))))));intro ue uf ho11 hb hg_ hnew_;clear hg_ hnew_;(first | rw[← tF.out] at ho11 | (simp only[Int.reduceToNat] at ho11;rw[← tF.out] at ho11));replace tn:=am_ (Kd.R_below (aR_ tn.out) hb);replace Y4:=am_ (Kd.N_elder' u99_ (Kd.R_base ho11) hb);replace tq:=am_ (Kd.V_elder' (aV_ tq.out) (Kd.R_base ho11) hb);have tr:=am_ (Kd.R_lower (Kd.R_newM (M:=fun k_=>(w.heap.size≤k_)) ho11 (ar na) (fun k_ h_=>h_)) (ar na));replace tl:=bb_ tl hb;replace HB:=am_ (av na hb);replace HI442:=am_ (IsS114.below u50_ hb);clear hb ho11;obtain⟨tL,tM,tW⟩:=Kd.R_slice tr.out;subst tW)|((with_reducible refine gt_ 14 ?_);refine gf_ 14 Tryz.func42 (aV.calls k g442 tu tI _ _ tK t7 t8 w _ ?side1 ?side2 (kR_ tr) ?side4 ?side5 A5.out) ?_;(case side1=>exact u81_);(case side2=>exact u77_);(case side4=>exact(Kd.R_reads' tr.out).2.1);(case side5=>exact dv (IsS114.own_ne HI442.out tr.out ap));rintro e ug ⟨rfl,hi,hb,hk⟩;refine⟨_,rfl,?_⟩;replace tl:=am_ (KeepBut.blk hk (g':=tk) (o:=.cells #[.slice none 0 0,.slice none 0 0,.slice none 0 0,.int .i64 0] 27 (0,0)) (pb_ tl) tm.out bb);replace tn:=am_ (Kd.R_mono (Kd.R_keep (IsS114.apart (show IsS114 w _ g442 tu tI from u50_) (aR_ tn.out) ap) hk (fun _ h=>h.2)) (fun _ h=>h.1));replace Y4:=am_ (Kd.N_mono (Kd.N_keep (Kd.N_mono (ok:=fun k_=>((((w.heap.size≤k_))∧(some k_≠(tv:Value).ownBlock∧(k_≠tk∧k_≠g442)))∧some k_≠(.slice tL tK.length tM:Value).ownBlock)) u99_ (fun k_ hk_=>(⟨hk_,hk_.1.2.2.2⟩:_∧k_≠g442))) hk (fun _ h=>h.2)) (fun _ h=>h.1));replace tq:=am_ (Kd.V_mono (Kd.V_keep (Kd.V_mono (ok:=fun k_=>((((w.heap.size≤k_))∧(some k_≠(tv:Value).ownBlock∧(some k_≠(tJ:Value).ownBlock∧(k_≠tk∧k_≠g442))))∧some k_≠(.slice tL tK.length tM:Value).ownBlock)) (aV_ tq.out) (fun k_ hk_=>(⟨hk_,hk_.1.2.2.2.2⟩:_∧k_≠g442))) hk (fun _ h=>h.2)) (fun _ h=>h.1));replace HB:=am_ (hb);replace HI442:=am_ (hi);(try clear hb);(try clear hk);(try clear hi);obtain⟨ZE,ZG,tX⟩:=Kd.R_slice tn.out;subst tX;have ua:=tm.out;have ub:=Zg.out;obtain⟨tO,tP,tQ,tR,tS,tT,tU,tV⟩:=dx tl.out;obtain⟨tB,tD,tY⟩:=Kd.N_slice Y4.out;subst tY;obtain⟨tC,tE,tZ⟩:=Kd.V_slice tq.out;subst tZ))
 refine bodyPost_ret (pt rfl _ _ tk 27 #[.slice ZE tw.length ZG,.slice tB tx.length tD,.slice tC tz.length tE,.int .i64 tA] (0,0) _ rfl (pb_ tl) Tryz.underlying27 rfl bT) rfl ?_;exact⟨_,_,_,u1_,by(with_reducible repeat (first | apply Kd.R_alloc | apply Kd.R_drewN | apply Kd.R_drew));exact Kd.R_mono (Kd.R_far (p:=⟨tk,3,none⟩) (Kd.R_far (p:=⟨tk,2,none⟩) (Kd.R_far (p:=⟨tk,1,none⟩) (Kd.R_far (p:=⟨tk,0,none⟩) (Kd.R_types tn.out tl.out ap) (fun _ hk=>hk.2) (.slice ZE tw.length ZG)) (fun _ hk=>hk.2) (.slice tB tx.length tD)) (fun _ hk=>hk.2) (.slice tC tz.length tE)) (fun _ hk=>hk.2) (.int .i64 tA)) (fun _ hk=>hk.1.1),by(with_reducible repeat (first | apply Kd.N_alloc | apply Kd.N_drewN | apply Kd.N_drew));exact Kd.N_mono (Kd.N_far (p:=⟨tk,3,none⟩) (Kd.N_far (p:=⟨tk,2,none⟩) (Kd.N_far (p:=⟨tk,1,none⟩) (Kd.N_far (p:=⟨tk,0,none⟩) (Kd.N_mono Y4.out (fun k_ hk=>(⟨hk,hk.1.2.2.1⟩:_∧k_≠tk))) (fun _ hk=>hk.2) (.slice ZE tw.length ZG)) (fun _ hk=>hk.2) (.slice tB tx.length tD)) (fun _ hk=>hk.2) (.slice tC tz.length tE)) (fun _ hk=>hk.2) (.int .i64 tA)) (fun _ hk=>⟨hk.1.1.1,hk.1.1.2.1⟩),by(with_reducible repeat (first | apply Kd.V_alloc | apply Kd.V_drewN | apply Kd.V_drew));exact Kd.V_mono (Kd.V_far (p:=⟨tk,3,none⟩) (Kd.V_far (p:=⟨tk,2,none⟩) (Kd.V_far (p:=⟨tk,1,none⟩) (Kd.V_far (p:=⟨tk,0,none⟩) (Kd.V_mono tq.out (fun k_ hk=>(⟨hk,hk.1.2.2.2.1⟩:_∧k_≠tk))) (fun _ hk=>hk.2) (.slice ZE tw.length ZG)) (fun _ hk=>hk.2) (.slice tB tx.length tD)) (fun _ hk=>hk.2) (.slice tC tz.length tE)) (fun _ hk=>hk.2) (.int .i64 tA)) (fun _ hk=>⟨hk.1.1.1,⟨hk.1.1.2.1,hk.1.1.2.2.1⟩⟩),na⟩
def be.f (a0:Int) (a1:Int) (a2:Int):Option (Bool):=if a0≥a1 then(some (decide (a0≤a2))) else(some false)
theorem be.calls (a0:Int) (a1:Int) (a2:Int) (r:Bool) (w:World) (h:be.f a0 a1 a2=some r) :
  Calls Tryz.prog 64 #[.int .i64 a0,.int .i64 a1,.int .i64 a2] w fun e w'=>e = .returned (.bool r)∧Drawn0 w w':=by
 have H:=h;clear h;unfold be.f at H
 by_cases c4:a0≥a1
 ·rw[if_pos c4] at H;have tk:decide (a1≤a0)=true:=decide_eq_true c4;clear c4;obtain rfl:=si_ H;go_enter Tryz.func64,Tryz.ntmps64
  go_wp2;go_ret
  exact⟨u9_,u7_⟩
 ·rw[if_neg c4] at H;have tk:decide (a1≤a0)=false:=decide_eq_false c4;clear c4;obtain rfl:=si_ H;go_enter Tryz.func64,Tryz.ntmps64
  go_wp2;go_ret
  exact⟨u9_,u7_⟩
def aQ.l0:Nat→List ByteArray→ByteArray→Int→Int→Option (Int)
 | 0,_,_,_,_=>none
 | k+1,x0,x1,x7,x8=>if x8<x7 then(if 0≤x8 then(if x8<(x0.length:Int) then(if x1.toList=(bC ByteArray.empty x0 x8).toList then(some x8) else(aQ.l0 k x0 x1 x7 (wrap64 (x8+1)))) else(none)) else(none)) else(some (-1))
def aQ.f (k:Nat) (l0:List ByteArray) (a1:ByteArray):Option (Int):=aQ.l0 k l0 a1 (l0.length:Int) 0
theorem aQ.calls (k:Nat) (A0:Option Addr) (c0:Nat) (l0:List ByteArray) (a1:ByteArray) (r:Int) (w:World) (hr0:Kd.C Kd.string w A0 l0.length l0) (hc0:l0.length≤c0) (h:aQ.f k l0 a1=some r) :
  Calls Tryz.prog 135 #[.slice A0 l0.length c0,.string a1] w fun e w'=>e = .returned (.int .i64 r)∧Drawn0 w w':=by
 have ZD:=am_ hr0;have tA:=am_ hc0;clear hr0 hc0;have H:=h;clear h;unfold aQ.f at H
 have H':=am_ H;clear H;go_enter Tryz.func135,Tryz.ntmps135
 go_wp2;go_loopg [8] k (fun kq v8 w'=>∃(tk:Int),v8 = .int .i64 tk∧aa (aQ.l0 kq l0 a1 (l0.length:Int) tk=some r)∧aa (kq≤k)∧Drawn0 w w')
 case atStart=>exact⟨(0),u4_,H',⟨Nat.le_refl _⟩,u7_⟩
 case round=>
  clear H';obtain⟨tk,rfl,HA,HK1,⟨m1,rfl⟩⟩:=hrel;cases gk with
  | zero=>exact absurd HA.out (by simp[aQ.l0])
  | succ k1=>
   have H:=HA.out;clear HA;simp only[aQ.l0] at H;by_cases c3:tk<(l0.length:Int)
   ·rw[if_pos c3] at H;have tn:=decide_eq_true c3;clear c3;obtain⟨tv,H⟩:=gd_ H;obtain⟨tw,H⟩:=gd_ H;have HC_:=am_ H;clear H;obtain⟨tu,tr,tm⟩:=Kd.at_string ZD.out tk od_ od_;cases tr;obtain⟨tx,tz⟩:=pt_ tk l0.length;have H:=HC_.out;clear HC_;by_cases c6:a1.toList=(bC ByteArray.empty l0 tk).toList
    ·rw[if_pos c6] at H;have tl:=cW c6;have tq:=cX c6;clear c6;obtain rfl:=si_ H;(first | rw[tl] | (simp only[aC,aG];rw[tl]) | skip)
     go_wp2;go_ret
     exact⟨u9_,u7_⟩
    ·rw[if_neg c6] at H;have tl:=cO c6;have tq:=cQ c6;have H':=am_ H;clear H;(first | rw[tl] | (simp only[aC,aG];rw[tl]) | skip)
     go_wp2;go_roundg k1
     case measure=>have:=HK1.out;omega
     case rel=>exact⟨(wrap64 (tk+1)),u4_,H',⟨dH⟩,u7_⟩
   ·rw[if_neg c3] at H;have tn:=decide_eq_false c3;clear c3;obtain rfl:=si_ H;go_wp2;go_ret
    exact⟨u9_,u7_⟩
def ax.f (k:Nat) (l0:List ByteArray) (a1:ByteArray):Option (Bool):=(aQ.f k l0 a1).bind fun tk=>(some (decide (tk≥0)))
theorem ax.calls (k:Nat) (A0:Option Addr) (c0:Nat) (l0:List ByteArray) (a1:ByteArray) (r:Bool) (w:World) (hr0:Kd.C Kd.string w A0 l0.length l0) (hc0:l0.length≤c0) (h:ax.f k l0 a1=some r) :
  Calls Tryz.prog 92 #[.slice A0 l0.length c0,.string a1] w fun e w'=>e = .returned (.bool r)∧Drawn0 w w':=by
 have ZD:=am_ hr0;have tl:=am_ hc0;clear hr0 hc0;have H:=h;clear h;unfold ax.f at H
 obtain⟨tk,A3,H⟩:=bi_ H;obtain rfl:=si_ H;go_enter Tryz.func92,Tryz.ntmps92
 go_wp2_with (first | ((with_reducible refine gt_ 7 ?_);refine gD_ 7 Tryz.func135 (aQ.calls k _ _ l0 a1 tk _ ?side1 tl.out A3.out) ?_;(case side1=>exact u59_);intro nd))
 go_ret
 exact⟨u9_,u7_⟩
def dk.f (a0:Int):Option (Bool):=if a0≥97 then(some (decide (a0≤122))) else(some false)
theorem dk.calls (a0:Int) (r:Bool) (w:World) (h:dk.f a0=some r) :
  Calls Tryz.prog 133 #[.int .u8 a0] w fun e w'=>e = .returned (.bool r)∧Drawn0 w w':=by
 have H:=h;clear h;unfold dk.f at H
 by_cases c2:a0≥97
 ·rw[if_pos c2] at H;have tk:decide (97≤a0)=true:=decide_eq_true c2;clear c2;obtain rfl:=si_ H;go_enter Tryz.func133,Tryz.ntmps133
  go_wp2;go_ret
  exact⟨u9_,u7_⟩
 ·rw[if_neg c2] at H;have tk:decide (97≤a0)=false:=decide_eq_false c2;clear c2;obtain rfl:=si_ H;go_enter Tryz.func133,Tryz.ntmps133
  go_wp2;go_ret
  exact⟨u9_,u7_⟩
def dU.f (a0:Int):Option (Bool):=if a0≥48 then(some (decide (a0≤57))) else(some false)
theorem dU.calls (a0:Int) (r:Bool) (w:World) (h:dU.f a0=some r) :
  Calls Tryz.prog 134 #[.int .u8 a0] w fun e w'=>e = .returned (.bool r)∧Drawn0 w w':=by
 have H:=h;clear h;unfold dU.f at H
 by_cases c2:a0≥48
 ·rw[if_pos c2] at H;have tk:decide (48≤a0)=true:=decide_eq_true c2;clear c2;obtain rfl:=si_ H;go_enter Tryz.func134,Tryz.ntmps134
  go_wp2;go_ret
  exact⟨u9_,u7_⟩
 ·rw[if_neg c2] at H;have tk:decide (48≤a0)=false:=decide_eq_false c2;clear c2;obtain rfl:=si_ H;go_enter Tryz.func134,Tryz.ntmps134
  go_wp2;go_ret
  exact⟨u9_,u7_⟩
def aH.l0:Nat→ByteArray→Int→Int→Option (Bool)
 | 0,_,_,_=>none
 | k+1,x0,x5,x6=>if x6<x5 then(if 0≤x6 then(if x6<(x0.size:Int) then((dk.f (bt x0 x6)).bind fun tl=>(if tl=true then(aH.l0 k x0 x5 (wrap64 (x6+1))) else(if x6=0 then(some false) else((dU.f (bt x0 x6)).bind fun tm=>(if tm=true then(aH.l0 k x0 x5 (wrap64 (x6+1))) else(some false)))))) else(none)) else(none)) else((be.f (x0.size:Int) 1 8).bind fun tk=>(some tk))
def aH.f (k:Nat) (a0:ByteArray):Option (Bool):=aH.l0 k a0 (a0.size:Int) 0
theorem aH.calls (k:Nat) (a0:ByteArray) (r:Bool) (w:World) (h:aH.f k a0=some r) :
  Calls Tryz.prog 108 #[.string a0] w fun e w'=>e = .returned (.bool r)∧Drawn0 w w':=by
 have H:=h;clear h;unfold aH.f at H
 have H':=am_ H;clear H;go_enter Tryz.func108,Tryz.ntmps108
 go_wp2;go_loopg [6] k (fun kq v6 w'=>∃(tk:Int),v6 = .int .i64 tk∧aa (aH.l0 kq a0 (a0.size:Int) tk=some r)∧aa (kq≤k)∧Drawn0 w w')
 case atStart=>exact⟨(0),u4_,H',⟨Nat.le_refl _⟩,u7_⟩
 case round=>
  clear H';obtain⟨tk,rfl,HA,HK1,⟨m1,rfl⟩⟩:=hrel;cases gk with
  | zero=>exact absurd HA.out (by simp[aH.l0])
  | succ k1=>
   have H:=HA.out;clear HA;simp only[aH.l0] at H;by_cases c2:tk<(a0.size:Int)
   ·rw[if_pos c2] at H;have tm:=decide_eq_true c2;clear c2;obtain⟨tx,H⟩:=gd_ H;obtain⟨tz,H⟩:=gd_ H;obtain⟨tr,A6,H⟩:=bi_ H;have HC_:=am_ H;clear H;obtain⟨p5,q5⟩:=pq_ tk a0.size;have tB:=d8 a0 tk;obtain⟨p5,q5⟩:=tt_ p5 q5;have H:=HC_.out;clear HC_;cases tr
    ·replace H:=hf_ H;have HC_:=am_ H;clear H;have H:=HC_.out;clear HC_;by_cases c8:tk=0
     ·rw[if_pos c8] at H;have tl:=cW c8;have tn:=cX c8;clear c8;obtain rfl:=si_ H;(first | rw[tl] | (simp only[aC,aG];rw[tl]) | skip)
      go_wp2_with (first | ((with_reducible refine gt_ 12 ?_);refine gD_ 12 Tryz.func133 (dk.calls (bt a0 tk) false _ A6.out) ?_;intro nd))
      go_ret
      exact⟨u9_,u7_⟩
     ·rw[if_neg c8] at H;have tl:=cO c8;have tn:=cQ c8;obtain⟨tu,tv,H⟩:=bi_ H;have HC_:=am_ H;clear H;(first | rw[tl] | (simp only[aC,aG];rw[tl]) | skip)
      have H:=HC_.out;clear HC_;cases tu
      ·replace H:=hf_ H;obtain rfl:=si_ H;go_wp2_with (first | ((with_reducible refine gt_ 12 ?_);refine gD_ 12 Tryz.func133 (dk.calls (bt a0 tk) false _ A6.out) ?_;intro nd;obtain⟨p9,q9⟩:=pq_ tk a0.size;have tA:=d8 a0 tk;obtain⟨p9,q9⟩:=tt_ p9 q9)|(go_at_call 134;(with_reducible refine(dU.calls (bt a0 tk) false _ tv.out).mono ?_);rintro e w' ⟨rfl,⟨nd,rfl⟩⟩))
       go_ret
       exact⟨u9_,u7_⟩
      ·replace H:=ht_ H;have H':=am_ H;clear H;go_wp2_with (first | ((with_reducible refine gt_ 12 ?_);refine gD_ 12 Tryz.func133 (dk.calls (bt a0 tk) false _ A6.out) ?_;intro nd;obtain⟨p9,q9⟩:=pq_ tk a0.size;have tA:=d8 a0 tk;obtain⟨p9,q9⟩:=tt_ p9 q9)|(go_at_call 134;(with_reducible refine(dU.calls (bt a0 tk) true _ tv.out).mono ?_);rintro e w' ⟨rfl,⟨nd,rfl⟩⟩))
       go_roundg k1
       case measure=>have:=HK1.out;omega
       case rel=>exact⟨(wrap64 (tk+1)),u4_,H',⟨dH⟩,u7_⟩
    ·replace H:=ht_ H;have H':=am_ H;clear H;go_wp2_with (first | ((with_reducible refine gt_ 12 ?_);refine gD_ 12 Tryz.func133 (dk.calls (bt a0 tk) true _ A6.out) ?_;intro nd))
     go_roundg k1
     case measure=>have:=HK1.out;omega
     case rel=>exact⟨(wrap64 (tk+1)),u4_,H',⟨dH⟩,u7_⟩
   ·rw[if_neg c2] at H;have tm:=decide_eq_false c2;clear c2;obtain⟨tq,tw,H⟩:=bi_ H;obtain rfl:=si_ H;go_wp2_with (first | ((with_reducible refine gt_ 28 ?_);refine gD_ 28 Tryz.func64 (be.calls (a0.size:Int) 1 8 tq _ tw.out) ?_;intro nd))
    go_ret
    exact⟨u9_,u7_⟩
mutual
def aU.l0:Nat→List (S92)→List ByteArray→List (S92)→Int→Int→Option (Bool)
 | 0,_,_,_,_,_=>none
 | k+1,x0,x3,x8,x9,tk=>if tk<x9 then(if 0≤tk then(if tk<(x8.length:Int) then(if((az x8 tk).f1)=1 then((be.f ((az x8 tk).f2) 1 9).bind fun tm=>(aU.j1 k x0 x3 tm x8 x9 tk ((az x8 tk).f0) ((az x8 tk).f1) ((az x8 tk).f2))) else(aU.j1 k x0 x3 (((az x8 tk).f2) == 0) x8 x9 tk ((az x8 tk).f0) ((az x8 tk).f1) ((az x8 tk).f2))) else(none)) else(none)) else((be.f (x0.length:Int) 1 4).bind fun tl=>(some tl))
def aU.j1:Nat→List (S92)→List ByteArray→Bool→List (S92)→Int→Int→ByteArray→Int→Int→Option (Bool)
 | 0,_,_,_,_,_,_,_,_,_=>none
 | k+1,x0,x3,x6,x8,x9,tu,tk,tl,tm=>(aH.f k tk).bind fun tn=>(if tn=true then((ax.f k x3 tk).bind fun tq=>(if tq=true then(some false) else((be.f tl 1 3).bind fun tr=>(if tr=true then(if x6=true then(if x3.length<8796093022208 then(aU.l0 k x0 (x3 ++ [tk]) x8 x9 (wrap64 (tu+1))) else(none)) else(some false)) else(some false))))) else(some false))
end
def aU.f (k:Nat) (l0:List (S92)):Option (Bool):=aU.l0 k l0 (([] : List ByteArray)) l0 (l0.length:Int) 0
theorem aU.calls (k:Nat) (A0:Option Addr) (c0:Nat) (l0:List (S92)) (r:Bool) (w:World) (hr0:Kd.C k92 w A0 l0.length l0) (hc0:l0.length≤c0) (h:aU.f k l0=some r) :
  Calls Tryz.prog 63 #[.slice A0 l0.length c0] w fun e w'=>e = .returned (.bool r)∧Below w.heap.size w w':=by
 have hu92:=Tryz.underlying92;have ZD:=am_ hr0;have vl:=am_ hc0;clear hr0 hc0;have HB:=am_ (Below.refl w.heap.size w);have H:=h;clear h;unfold aU.f at H
 obtain⟨tN,tr⟩:∃y_:List ByteArray,y_=(([] : List ByteArray)):=⟨_,rfl⟩;replace H:(aU.l0 k l0 tN l0 (l0.length:Int) 0)=some r:=by first | (rw[tr];with_reducible exact H)|(have H2_:=(Option.bind_some _ _).symm.trans H;rw[tr];with_reducible exact H2_)|(have H2_:=(Option.bind_some _ _).symm.trans H;with_reducible exact H2_) | with_reducible exact H | (rw[tr];exact H) | exact H
 have tw:=am_ tr;clear tr;have H':=am_ H;clear H;go_enter Tryz.func63,Tryz.ntmps63
 go_wp2_with (first | ((with_reducible refine aA (N:=7) rfl ?_);refine Kd.R_lit Kd.string _ 9 ?hg (N:=7) ?hd (xs:=([] : List ByteArray)) (inner:=[]) (ok:=fun _=>True) (okp:=fun _=>True) ?hr ?hp (fun _ hk=>hk) trivial (Below.refl _ _) (Nat.le_refl _) bb ?_;(case hd=>rfl);(case hg=>rfl);(case hr=>exact bL);(case hp=>exact fj);intro u9 w2 ho3 hb hg_ hnew_;clear hg_ hnew_;(first | rw[← tw.out] at ho3 | (simp only[Int.reduceToNat] at ho3;rw[← tw.out] at ho3));have tG:=am_ (Kd.R_lower ho3 (ar (bw_ HB)));replace HB:=bs_ HB hb;clear hb ho3))
 go_loopg [3,10] k (fun kq v3 u6 w'=>∃(tk:List ByteArray) (Z2:Int),u6 = .int .i64 Z2∧aa (aU.l0 kq l0 tk l0 (l0.length:Int) Z2=some r)∧aa (kq≤k)∧aa (Kd.R Kd.string 9 w' w.heap.size (fun _=>True) v3 tk)∧aa (Below w.heap.size w w'))
 case atStart=>exact⟨(tN),(0),u4_,H',⟨Nat.le_refl _⟩,⟨aR_ tG.out⟩,⟨bw_ HB⟩⟩
 case round=>
  clear H';obtain⟨tk,Z2,rfl,HA,HK1,Z3,HB⟩:=hrel;cases gk with
  | zero=>exact absurd HA.out (by simp[aU.l0])
  | succ k1=>
   have H:=HA.out;clear HA;simp only[aU.l0] at H;by_cases c4:Z2<(l0.length:Int)
   ·rw[if_pos c4] at H;have tL:=decide_eq_true c4;clear c4;obtain⟨uA,H⟩:=gd_ H;obtain⟨uB,H⟩:=gd_ H;have uz:=am_ H;clear H;obtain⟨uR,uD,tl,tm,tn⟩:=jb ZD.out Z2 od_ od_;cases uD;replace tl:=cb_ HB tl;replace tm:=cb_ HB tm;replace tn:=cb_ HB tn;obtain⟨uI,uJ⟩:=pt_ Z2 l0.length;go_upto_if 19 with (first | ((with_reducible refine gt_ 5 ?_);refine bx_ 5 #[.string (⟨#[]⟩:ByteArray),.int .i64 0,.int .i64 0] 92 ?_;intro YN hg w8 hbox hb;replace Z3:=am_ (Kd.R_below (aR_ Z3.out) hb);have Zm:=am_ (hbox);have uP:=gw_ HB hg;replace HB:=bs_ HB hb;clear hb hbox hg;obtain⟨tz,tA,tB,tC,tD,tE⟩:=dm Zm.out))
    (try simp only[Act.put,List.setIfInBounds_toArray,List.set_cons_zero,List.set_cons_succ])
    go_cut [6] (fun v6 wc=>∃(kq:Nat) (tv:Bool),v6 = .bool tv∧aa (aU.j1 kq l0 tk tv l0 (l0.length:Int) Z2 ((az l0 Z2).f0) ((az l0 Z2).f1) ((az l0 Z2).f2)=some r)∧aa (kq≤k1)∧aa (Kd.R Kd.string 9 wc w.heap.size (fun _=>True) u3 tk)∧aa (wc.heap[YN]? = some (.cells #[.string ((az l0 Z2).f0),.int .i64 ((az l0 Z2).f1),.int .i64 ((az l0 Z2).f2)] 92 (0,0)))∧aa (Below w.heap.size w wc))
    case first=>
     have H:=uz.out;clear uz;by_cases c10:((az l0 Z2).f1)=1
     ·rw[if_pos c10] at H;have tq:=cW c10;have tK:=cX c10;clear c10;(first | rw[tq] | (simp only[aC,aG];rw[tq]) | skip)
      obtain⟨tM,uS,H⟩:=bi_ H;have H':=am_ H;clear H;obtain⟨tP,tQ,tR,ue,uf,ug⟩:=dm Zm.out;go_wp2_with (first | ((with_reducible refine gt_ 22 ?_);refine gD_ 22 Tryz.func64 (be.calls ((az l0 Z2).f2) 1 9 tM _ uS.out) ?_;intro nd))
      go_meet
      case rel=>exact⟨_,(tM),u4_,H',⟨kL⟩,⟨u151_⟩,⟨pb_ Zm⟩,⟨bw_ HB⟩⟩
     ·rw[if_neg c10] at H;have tq:=cO c10;have tK:=cQ c10;(first | rw[tq] | (simp only[aC,aG];rw[tq]) | skip)
      have H':=am_ H;clear H;go_wp2;go_meet
      case rel=>exact⟨_,((((az l0 Z2).f2) == 0)),u4_,H',⟨kL⟩,⟨u151_⟩,⟨pb_ Zm⟩,⟨bw_ HB⟩⟩
    case rest=>
     clear uz;try clear c4
     try clear tL
     try clear uA
     try clear uB
     try clear tz tA tB tC tD tE
     try clear tl
     try clear tm
     try clear tn
     try clear uI
     try clear uJ
     obtain⟨kq,tv,rfl,HA,uQ,Z3,Zm,HB⟩:=hcut;cases kq with
     | zero=>exact absurd HA.out (by simp[aU.j1])
     | succ tu=>
      have H:=HA.out;clear HA;simp only[aU.j1] at H;obtain⟨uL,tF,H⟩:=bi_ H;cases uL
      ·replace H:=hf_ H;obtain rfl:=si_ H;obtain⟨ub,uc,ud,uu,uv,uw⟩:=dm Zm.out;go_wp2_with (first | ((with_reducible refine gt_ 25 ?_);refine gD_ 25 Tryz.func108 (aH.calls tu ((az l0 Z2).f0) false _ tF.out) ?_;intro nd))
       go_ret
       exact⟨u1_,bw_ HB⟩
      ·replace H:=ht_ H;obtain⟨uM,tO,H⟩:=bi_ H;cases uM
       ·replace H:=hf_ H;obtain⟨uN,ux,H⟩:=bi_ H;cases uN
        ·replace H:=hf_ H;obtain rfl:=si_ H;obtain⟨t7,t8,ua,ur,us,ut⟩:=dm Zm.out;go_wp2_with (first | ((with_reducible refine gt_ 25 ?_);refine gD_ 25 Tryz.func108 (aH.calls tu ((az l0 Z2).f0) true _ tF.out) ?_;intro nd;obtain⟨uW,uZ,uH⟩:=Kd.R_slice Z3.out;subst uH)|(go_at_call 92;(with_reducible refine(ax.calls tu _ _ tk ((az l0 Z2).f0) false _ (kR_ Z3) ?side2 tO.out).mono ?_);(case side2=>exact(Kd.R_reads' Z3.out).2.1);rintro e w' ⟨rfl,⟨nd,rfl⟩⟩)|(go_at_call 64;(with_reducible refine(be.calls ((az l0 Z2).f1) 1 3 false _ ux.out).mono ?_);rintro e w' ⟨rfl,⟨nd,rfl⟩⟩))
         go_ret
         exact⟨u1_,bw_ HB⟩
        ·replace H:=ht_ H;cases tv
         ·replace H:=hf_ H;obtain rfl:=si_ H;obtain⟨tY,tZ,t6,un,uo,uq⟩:=dm Zm.out;go_wp2_with (first | ((with_reducible refine gt_ 25 ?_);refine gD_ 25 Tryz.func108 (aH.calls tu ((az l0 Z2).f0) true _ tF.out) ?_;intro nd;obtain⟨uV,uY,uG⟩:=Kd.R_slice Z3.out;subst uG)|(go_at_call 92;(with_reducible refine(ax.calls tu _ _ tk ((az l0 Z2).f0) false _ (kR_ Z3) ?side2 tO.out).mono ?_);(case side2=>exact(Kd.R_reads' Z3.out).2.1);rintro e w' ⟨rfl,⟨nd,rfl⟩⟩)|(go_at_call 64;(with_reducible refine(be.calls ((az l0 Z2).f1) 1 3 true _ ux.out).mono ?_);rintro e w' ⟨rfl,⟨nd,rfl⟩⟩))
          go_ret
          exact⟨u1_,bw_ HB⟩
         ·replace H:=ht_ H;obtain⟨tI,H⟩:=gl_ H;generalize tx:((tk ++ [((az l0 Z2).f0)]):List ByteArray)=uO at H;have tJ:=am_ tx.symm;clear tx;have H':=am_ H;clear H;obtain⟨tV,tW,tX,uk,ul,um⟩:=dm Zm.out;go_wp2_with (first | ((with_reducible refine gt_ 25 ?_);refine gD_ 25 Tryz.func108 (aH.calls tu ((az l0 Z2).f0) true _ tF.out) ?_;intro nd;obtain⟨uy,uC,uF⟩:=Kd.R_slice Z3.out;subst uF)|(go_at_call 92;(with_reducible refine(ax.calls tu _ _ tk ((az l0 Z2).f0) false _ (kR_ Z3) ?side2 tO.out).mono ?_);(case side2=>exact(Kd.R_reads' Z3.out).2.1);rintro e w' ⟨rfl,⟨nd,rfl⟩⟩)|(go_at_call 64;(with_reducible refine(be.calls ((az l0 Z2).f1) 1 3 true _ ux.out).mono ?_);rintro e w' ⟨rfl,⟨nd,rfl⟩⟩)|((with_reducible refine aY (b:=.append) (xs:=#[.tmp 43,.tmp 46]) rfl ?_);at_builtin;refine Kd.R_append Kd.string (w0:=w) w.heap.size rfl (.tmp 43) (.tmp 46) 30 9 (.string ⟨#[]⟩) 16 rfl Tryz.underlying30 eE rfl ap aw (.slice uy tk.length uC) tk ((az l0 Z2).f0) [.string ((az l0 Z2).f0)] (fun _=>True) (fun _=>False) rfl rfl ?aP (fun _ hk=>hk.elim) ?aF ?aO ?aB ?aS ?aL ?_;(case aP=>exact rfl);(case aB=>exact fi);(case aF=>exact gU);(case aO=>exact kp);(case aS=>exact fh);(case aL=>have:=tI.out;omega);intro vk vm ho hb hg hat;rw[← tJ.out] at ho;replace HB:=am_ (hb);have tH:=am_ (ho);clear Z3 ho hb hg hat))
          go_roundg tu
          case measure=>have:=HK1.out;have:=uQ.out;omega
          case rel=>exact⟨(uO),(wrap64 (Z2+1)),u4_,H',⟨by have:=HK1.out;have:=uQ.out;omega⟩,⟨aR_ tH.out⟩,⟨bw_ HB⟩⟩
       ·replace H:=ht_ H;obtain rfl:=si_ H;obtain⟨tS,tT,tU,uh,ui,uj⟩:=dm Zm.out;go_wp2_with (first | ((with_reducible refine gt_ 25 ?_);refine gD_ 25 Tryz.func108 (aH.calls tu ((az l0 Z2).f0) true _ tF.out) ?_;intro nd;obtain⟨uU,uX,uE⟩:=Kd.R_slice Z3.out;subst uE)|(go_at_call 92;(with_reducible refine(ax.calls tu _ _ tk ((az l0 Z2).f0) true _ (kR_ Z3) ?side2 tO.out).mono ?_);(case side2=>exact(Kd.R_reads' Z3.out).2.1);rintro e w' ⟨rfl,⟨nd,rfl⟩⟩))
        go_ret
        exact⟨u1_,bw_ HB⟩
   ·rw[if_neg c4] at H;have tL:=decide_eq_false c4;clear c4;obtain⟨uK,uT,H⟩:=bi_ H;obtain rfl:=si_ H;go_wp2_with (first | ((with_reducible refine gt_ 51 ?_);refine gD_ 51 Tryz.func64 (be.calls (l0.length:Int) 1 4 uK _ uT.out) ?_;intro nd))
    go_ret
    exact⟨u1_,bw_ HB⟩
def cS.l0:Nat→ByteArray→Int→Int→Int→Option (Bool)
 | 0,_,_,_,_=>none
 | k+1,x0,x1,x7,x8=>if x8<x7 then(if 0≤x8 then(if x8<(x0.size:Int) then((be.f (wrap64 (bt x0 x8)) 32 126).bind fun tk=>(if tk=true then(cS.l0 k x0 x1 x7 (wrap64 (x8+1))) else(some false))) else(none)) else(none)) else(some (decide ((x0.size:Int)≤x1)))
def cS.f (k:Nat) (a0:ByteArray) (a1:Int):Option (Bool):=cS.l0 k a0 a1 (a0.size:Int) 0
theorem cS.calls (k:Nat) (a0:ByteArray) (a1:Int) (r:Bool) (w:World) (h:cS.f k a0 a1=some r) :
  Calls Tryz.prog 166 #[.string a0,.int .i64 a1] w fun e w'=>e = .returned (.bool r)∧Drawn0 w w':=by
 have H:=h;clear h;unfold cS.f at H
 have H':=am_ H;clear H;go_enter Tryz.func166,Tryz.ntmps166
 go_wp2;go_loopg [8] k (fun kq v8 w'=>∃(tk:Int),v8 = .int .i64 tk∧aa (cS.l0 kq a0 a1 (a0.size:Int) tk=some r)∧aa (kq≤k)∧Drawn0 w w')
 case atStart=>exact⟨(0),u4_,H',⟨Nat.le_refl _⟩,u7_⟩
 case round=>
  clear H';obtain⟨tk,rfl,HA,HK1,⟨m1,rfl⟩⟩:=hrel;cases gk with
  | zero=>exact absurd HA.out (by simp[cS.l0])
  | succ k1=>
   have H:=HA.out;clear HA;simp only[cS.l0] at H;by_cases c3:tk<(a0.size:Int)
   ·rw[if_pos c3] at H;have tl:=decide_eq_true c3;clear c3;obtain⟨tn,H⟩:=gd_ H;obtain⟨tq,H⟩:=gd_ H;obtain⟨tm,A7,H⟩:=bi_ H;have HC_:=am_ H;clear H;obtain⟨p6,q6⟩:=pq_ tk a0.size;have tr:=d8 a0 tk;obtain⟨p6,q6⟩:=tt_ p6 q6;have H:=HC_.out;clear HC_;cases tm
    ·replace H:=hf_ H;obtain rfl:=si_ H;go_wp2_with (first | ((with_reducible refine gt_ 15 ?_);refine gD_ 15 Tryz.func64 (be.calls (wrap64 (bt a0 tk)) 32 126 false _ A7.out) ?_;intro nd))
     go_ret
     exact⟨u9_,u7_⟩
    ·replace H:=ht_ H;have H':=am_ H;clear H;go_wp2_with (first | ((with_reducible refine gt_ 15 ?_);refine gD_ 15 Tryz.func64 (be.calls (wrap64 (bt a0 tk)) 32 126 true _ A7.out) ?_;intro nd))
     go_roundg k1
     case measure=>have:=HK1.out;omega
     case rel=>exact⟨(wrap64 (tk+1)),u4_,H',⟨dH⟩,u7_⟩
   ·rw[if_neg c3] at H;have tl:=decide_eq_false c3;clear c3;obtain rfl:=si_ H;go_wp2;go_ret
    exact⟨u9_,u7_⟩
def ce.f (k:Nat) (a0:ByteArray):Option (Bool):=(cS.f k a0 60).bind fun tk=>(some tk)
theorem ce.calls (k:Nat) (a0:ByteArray) (r:Bool) (w:World) (h:ce.f k a0=some r) :
  Calls Tryz.prog 147 #[.string a0] w fun e w'=>e = .returned (.bool r)∧Drawn0 w w':=by
 have H:=h;clear h;unfold ce.f at H
 obtain⟨tk,A2,H⟩:=bi_ H;obtain rfl:=si_ H;go_enter Tryz.func147,Tryz.ntmps147
 go_wp2_with (first | ((with_reducible refine gt_ 4 ?_);refine gD_ 4 Tryz.func166 (cS.calls k a0 60 tk _ A2.out) ?_;intro nd))
 go_ret
 exact⟨u9_,u7_⟩
def bD.l0:Nat→List (S86)→Int→Int→ByteArray→List (S86)→Option (Bool)
 | 0,_,_,_,_,_=>none
 | k+1,x6,x7,x8,tl,tk=>if x8<x7 then(if 0≤x8 then(if x8<(x6.length:Int) then((aH.f k ((an x6 x8).f0)).bind fun tn=>(if tn=true then((ce.f k ((an x6 x8).f1)).bind fun tq=>(if tq=true then(if x8>0 then(if 0≤(wrap64 (x8 - 1)) then(if(wrap64 (x8 - 1))<(tk.length:Int) then(if((Op.bytesLess (((an tk (wrap64 (x8 - 1))).f0).toList) (((an x6 x8).f0).toList))=true) then(bD.l0 k x6 x7 (wrap64 (x8+1)) tl tk) else(some false)) else(none)) else(none)) else(bD.l0 k x6 x7 (wrap64 (x8+1)) tl tk)) else(some false))) else(some false))) else(none)) else(none)) else((aH.f k tl).bind fun tm=>(if tm=true then(some (decide ((tk.length:Int)≤4))) else(some false)))
def bD.f (k:Nat) (a0_0:ByteArray) (l0_1:List (S86)):Option (Bool):=bD.l0 k l0_1 (l0_1.length:Int) 0 a0_0 l0_1
theorem bD.calls (k:Nat) (a0_0:ByteArray) (A0_1:Option Addr) (c0_1:Nat) (l0_1:List (S86)) (r:Bool) (w:World) (hr0_1:Kd.C k86 w A0_1 l0_1.length l0_1) (hc0_1:l0_1.length≤c0_1) (h:bD.f k a0_0 l0_1=some r) :
  Calls Tryz.prog 109 #[.agg #[.string a0_0,.slice A0_1 l0_1.length c0_1]] w fun e w'=>e = .returned (.bool r)∧Below w.heap.size w w':=by
 have hu44:=Tryz.underlying44;have hu86:=Tryz.underlying86;have tF:=am_ hr0_1;have uT:=am_ hc0_1;clear hr0_1 hc0_1;have HB:=am_ (Below.refl w.heap.size w);have H:=h;clear h;unfold bD.f at H
 have H':=am_ H;clear H;go_enter Tryz.func109,Tryz.ntmps109
 go_wp2_with (first | ((with_reducible refine aA (N:=1) rfl ?_);(try (refine bj ct ?_;dsimp only));refine bF ?hg (N:=1) ?hd (cs:=#[.string a0_0,.slice A0_1 l0_1.length c0_1]) (t:=44) ?hr ?_;(case hd=>rfl);(case hg=>rfl);(case hr=>exact bL);intro uo hg w2 hbox hb;have tm:=am_ (hbox);have uq:=gw_ HB hg;replace HB:=bs_ HB hb;clear hb hbox hg;obtain⟨tJ,tK,tL,tM⟩:=b6 tm.out))
 repeat (go_quiet (first | ((with_reducible refine aA (N:=1) rfl ?_);(try (refine bj ct ?_;dsimp only));refine bF ?hg (N:=1) ?hd (cs:=#[.string a0_0,.slice A0_1 l0_1.length c0_1]) (t:=44) ?hr ?_;(case hd=>rfl);(case hg=>rfl);(case hr=>exact bL);intro uo hg w2 hbox hb;have tm:=am_ (hbox);have uq:=gw_ HB hg;replace HB:=bs_ HB hb;clear hb hbox hg;obtain⟨tJ,tK,tL,tM⟩:=b6 tm.out));try go_wp2_with (first | ((with_reducible refine aA (N:=1) rfl ?_);(try (refine bj ct ?_;dsimp only));refine bF ?hg (N:=1) ?hd (cs:=#[.string a0_0,.slice A0_1 l0_1.length c0_1]) (t:=44) ?hr ?_;(case hd=>rfl);(case hg=>rfl);(case hr=>exact bL);intro uo hg w2 hbox hb;have tm:=am_ (hbox);have uq:=gw_ HB hg;replace HB:=bs_ HB hb;clear hb hbox hg;obtain⟨tJ,tK,tL,tM⟩:=b6 tm.out)))
 go_loopg [8] k (fun kq v8 w'=>∃(tr:Int),v8 = .int .i64 tr∧aa (bD.l0 kq l0_1 (l0_1.length:Int) tr a0_0 l0_1=some r)∧aa (kq≤k)∧aa (w'.heap[uo]? = some (.cells #[.string a0_0,(.slice A0_1 l0_1.length c0_1)] 44 (0,0)))∧aa (Below w.heap.size w w'))
 case atStart=>exact⟨(0),u4_,H',⟨Nat.le_refl _⟩,⟨pb_ tm⟩,⟨bw_ HB⟩⟩
 case round=>
  clear H';try clear tJ tK tL tM
  obtain⟨tr,rfl,HA,HK1,tm,HB⟩:=hrel;cases gk with
  | zero=>exact absurd HA.out (by simp[bD.l0])
  | succ k1=>
   have H:=HA.out;clear HA;simp only[bD.l0] at H;by_cases c4:tr<(l0_1.length:Int)
   ·rw[if_pos c4] at H;have uO:=decide_eq_true c4;clear c4;obtain⟨uZ,H⟩:=gd_ H;obtain⟨u6,H⟩:=gd_ H;obtain⟨uR,A7,H⟩:=bi_ H;have HC_:=am_ H;clear H;obtain⟨tw,uP,um,un⟩:=dK tF.out tr od_ od_;cases uP;replace um:=cb_ HB um;replace un:=cb_ HB un;obtain⟨u9,vk⟩:=pt_ tr l0_1.length;have H:=HC_.out;clear HC_;cases uR
    ·replace H:=hf_ H;obtain rfl:=si_ H;go_wp2_with (first | ((with_reducible refine aA (N:=4) rfl ?_);(try (refine bj ct ?_;dsimp only));refine bF ?hg (N:=4) ?hd (cs:=#[.string (⟨#[]⟩:ByteArray),.string (⟨#[]⟩:ByteArray)]) (t:=86) ?hr ?_;(case hd=>rfl);(case hg=>rfl);(case hr=>exact bL);intro tl hg uY hbox hb;have tv:=am_ (hbox);have tu:=gw_ HB hg;have tA:=tu;replace HB:=bs_ HB hb;have tn:=nl_ tm hg;have tq:=ng_ tm hg;replace tm:=bb_ tm hb;clear hb hbox hg;have uv:=tq.out;have uA:=tn.out;obtain⟨tZ,t6,uk,ul⟩:=b6 tv.out)|(go_at_call 108;(with_reducible refine(aH.calls k1 ((an l0_1 tr).f0) false _ A7.out).mono ?_);rintro e w' ⟨rfl,⟨nd,rfl⟩⟩;(try first | exact⟨rfl,_,World.drewN_drewN _ _ _⟩ | exact⟨rfl,_,Eq.trans (World.drewN_drewN _ _ _) (congrArg (World.drewN _) (Nat.add_assoc _ _ _))⟩)))
     repeat (go_quiet (first | ((with_reducible refine aA (N:=4) rfl ?_);(try (refine bj ct ?_;dsimp only));refine bF ?hg (N:=4) ?hd (cs:=#[.string (⟨#[]⟩:ByteArray),.string (⟨#[]⟩:ByteArray)]) (t:=86) ?hr ?_;(case hd=>rfl);(case hg=>rfl);(case hr=>exact bL);intro tl hg uY hbox hb;have tv:=am_ (hbox);have tu:=gw_ HB hg;have tA:=tu;replace HB:=bs_ HB hb;have tn:=nl_ tm hg;have tq:=ng_ tm hg;replace tm:=bb_ tm hb;clear hb hbox hg;have uv:=tq.out;have uA:=tn.out;obtain⟨tZ,t6,uk,ul⟩:=b6 tv.out)|(go_at_call 108;(with_reducible refine(aH.calls k1 ((an l0_1 tr).f0) false _ A7.out).mono ?_);rintro e w' ⟨rfl,⟨nd,rfl⟩⟩;(try first | exact⟨rfl,_,World.drewN_drewN _ _ _⟩ | exact⟨rfl,_,Eq.trans (World.drewN_drewN _ _ _) (congrArg (World.drewN _) (Nat.add_assoc _ _ _))⟩)));try go_wp2_with (first | ((with_reducible refine aA (N:=4) rfl ?_);(try (refine bj ct ?_;dsimp only));refine bF ?hg (N:=4) ?hd (cs:=#[.string (⟨#[]⟩:ByteArray),.string (⟨#[]⟩:ByteArray)]) (t:=86) ?hr ?_;(case hd=>rfl);(case hg=>rfl);(case hr=>exact bL);intro tl hg uY hbox hb;have tv:=am_ (hbox);have tu:=gw_ HB hg;have tA:=tu;replace HB:=bs_ HB hb;have tn:=nl_ tm hg;have tq:=ng_ tm hg;clear hb hbox hg;have uv:=tq.out;have uA:=tn.out;obtain⟨tZ,t6,uk,ul⟩:=b6 tv.out)|(go_at_call 108;(with_reducible refine(aH.calls k1 ((an l0_1 tr).f0) false _ A7.out).mono ?_);rintro e w' ⟨rfl,⟨nd,rfl⟩⟩;(try first | exact⟨rfl,_,World.drewN_drewN _ _ _⟩ | exact⟨rfl,_,Eq.trans (World.drewN_drewN _ _ _) (congrArg (World.drewN _) (Nat.add_assoc _ _ _))⟩))))
     go_ret
     exact⟨u1_,bw_ HB⟩
    ·replace H:=ht_ H;obtain⟨uS,A9,H⟩:=bi_ H;have HC_:=am_ H;clear H;have H:=HC_.out;clear HC_;cases uS
     ·replace H:=hf_ H;obtain rfl:=si_ H;go_wp2_with (first | ((with_reducible refine aA (N:=4) rfl ?_);(try (refine bj ct ?_;dsimp only));refine bF ?hg (N:=4) ?hd (cs:=#[.string (⟨#[]⟩:ByteArray),.string (⟨#[]⟩:ByteArray)]) (t:=86) ?hr ?_;(case hd=>rfl);(case hg=>rfl);(case hr=>exact bL);intro tl hg uX hbox hb;have tv:=am_ (hbox);have tu:=gw_ HB hg;have tA:=tu;replace HB:=bs_ HB hb;have tn:=nl_ tm hg;have tq:=ng_ tm hg;replace tm:=bb_ tm hb;clear hb hbox hg;have uu:=tq.out;have uz:=tn.out;obtain⟨tX,tY,ui,uj⟩:=b6 tv.out)|(go_at_call 108;(with_reducible refine(aH.calls k1 ((an l0_1 tr).f0) true _ A7.out).mono ?_);rintro e w' ⟨rfl,⟨nd,rfl⟩⟩;(try first | exact⟨rfl,_,World.drewN_drewN _ _ _⟩ | exact⟨rfl,_,Eq.trans (World.drewN_drewN _ _ _) (congrArg (World.drewN _) (Nat.add_assoc _ _ _))⟩))|(go_at_call 147;(with_reducible refine(ce.calls k1 ((an l0_1 tr).f1) false _ A9.out).mono ?_);rintro e w' ⟨rfl,⟨nd,rfl⟩⟩;(try first | exact⟨rfl,_,World.drewN_drewN _ _ _⟩ | exact⟨rfl,_,Eq.trans (World.drewN_drewN _ _ _) (congrArg (World.drewN _) (Nat.add_assoc _ _ _))⟩)))
      repeat (go_quiet (first | ((with_reducible refine aA (N:=4) rfl ?_);(try (refine bj ct ?_;dsimp only));refine bF ?hg (N:=4) ?hd (cs:=#[.string (⟨#[]⟩:ByteArray),.string (⟨#[]⟩:ByteArray)]) (t:=86) ?hr ?_;(case hd=>rfl);(case hg=>rfl);(case hr=>exact bL);intro tl hg uX hbox hb;have tv:=am_ (hbox);have tu:=gw_ HB hg;have tA:=tu;replace HB:=bs_ HB hb;have tn:=nl_ tm hg;have tq:=ng_ tm hg;replace tm:=bb_ tm hb;clear hb hbox hg;have uu:=tq.out;have uz:=tn.out;obtain⟨tX,tY,ui,uj⟩:=b6 tv.out)|(go_at_call 108;(with_reducible refine(aH.calls k1 ((an l0_1 tr).f0) true _ A7.out).mono ?_);rintro e w' ⟨rfl,⟨nd,rfl⟩⟩;(try first | exact⟨rfl,_,World.drewN_drewN _ _ _⟩ | exact⟨rfl,_,Eq.trans (World.drewN_drewN _ _ _) (congrArg (World.drewN _) (Nat.add_assoc _ _ _))⟩))|(go_at_call 147;(with_reducible refine(ce.calls k1 ((an l0_1 tr).f1) false _ A9.out).mono ?_);rintro e w' ⟨rfl,⟨nd,rfl⟩⟩;(try first | exact⟨rfl,_,World.drewN_drewN _ _ _⟩ | exact⟨rfl,_,Eq.trans (World.drewN_drewN _ _ _) (congrArg (World.drewN _) (Nat.add_assoc _ _ _))⟩)));try go_wp2_with (first | ((with_reducible refine aA (N:=4) rfl ?_);(try (refine bj ct ?_;dsimp only));refine bF ?hg (N:=4) ?hd (cs:=#[.string (⟨#[]⟩:ByteArray),.string (⟨#[]⟩:ByteArray)]) (t:=86) ?hr ?_;(case hd=>rfl);(case hg=>rfl);(case hr=>exact bL);intro tl hg uX hbox hb;have tv:=am_ (hbox);have tu:=gw_ HB hg;have tA:=tu;replace HB:=bs_ HB hb;have tn:=nl_ tm hg;have tq:=ng_ tm hg;clear hb hbox hg;have uu:=tq.out;have uz:=tn.out;obtain⟨tX,tY,ui,uj⟩:=b6 tv.out)|(go_at_call 108;(with_reducible refine(aH.calls k1 ((an l0_1 tr).f0) true _ A7.out).mono ?_);rintro e w' ⟨rfl,⟨nd,rfl⟩⟩;(try first | exact⟨rfl,_,World.drewN_drewN _ _ _⟩ | exact⟨rfl,_,Eq.trans (World.drewN_drewN _ _ _) (congrArg (World.drewN _) (Nat.add_assoc _ _ _))⟩))|(go_at_call 147;(with_reducible refine(ce.calls k1 ((an l0_1 tr).f1) false _ A9.out).mono ?_);rintro e w' ⟨rfl,⟨nd,rfl⟩⟩;(try first | exact⟨rfl,_,World.drewN_drewN _ _ _⟩ | exact⟨rfl,_,Eq.trans (World.drewN_drewN _ _ _) (congrArg (World.drewN _) (Nat.add_assoc _ _ _))⟩))))
      go_ret
      exact⟨u1_,bw_ HB⟩
     ·replace H:=ht_ H;have HC_:=am_ H;clear H;have H:=HC_.out;clear HC_;by_cases uE:tr>0
      ·rw[if_pos uE] at H;have tH:decide (0<tr)=true:=decide_eq_true uE;clear uE;obtain⟨tB,Zq⟩:∃j_:Int,(wrap64 (tr - 1))=j_:=⟨_,rfl⟩;replace H:(if 0≤(tB) then(if(tB)<(l0_1.length:Int) then(if((Op.bytesLess (((an l0_1 (tB)).f0).toList) (((an l0_1 tr).f0).toList))=true) then(bD.l0 k1 l0_1 (l0_1.length:Int) (wrap64 (tr+1)) a0_0 l0_1) else(some false)) else(none)) else(none))=some r:=by first | (rw[Zq] at H;exact H)|(simp only[Zq] at H ⊢;exact H)
       (try rw[Zq] at A7)
       (try rw[Zq] at A9)
       have hji12w:(IntKind.i64.wrap (tr - 1))=tB:=(aC _).trans Zq;obtain⟨uU,H⟩:=gd_ H;obtain⟨uV,H⟩:=gd_ H;have HC_:=am_ H;clear H;(first | rw[tH] | (simp only[aC,aG];rw[tH]) | skip)
       have H:=HC_.out;clear HC_;by_cases uF:((Op.bytesLess (((an l0_1 (tB)).f0).toList) (((an l0_1 tr).f0).toList))=true)
       ·rw[if_pos uF] at H;have tI:(Op.bytesLess (((an l0_1 (tB)).f0).toList) (((an l0_1 tr).f0).toList))=true:=uF;clear uF;have H':=am_ H;clear H;(first | rw[tI] | (simp only[aC,aG];rw[tI]) | skip)
        go_wp2_with (first | ((with_reducible refine aA (N:=4) rfl ?_);(try (refine bj ct ?_;dsimp only));refine bF ?hg (N:=4) ?hd (cs:=#[.string (⟨#[]⟩:ByteArray),.string (⟨#[]⟩:ByteArray)]) (t:=86) ?hr ?_;(case hd=>rfl);(case hg=>rfl);(case hr=>exact bL);intro tl hg uB hbox hb;have tv:=am_ (hbox);have tu:=gw_ HB hg;have tA:=tu;replace HB:=bs_ HB hb;have tn:=nl_ tm hg;have tq:=ng_ tm hg;replace tm:=bb_ tm hb;clear hb hbox hg;have ur:=tq.out;have uw:=tn.out;obtain⟨tN,tO,t7,t8⟩:=b6 tv.out)|(go_at_call 108;(with_reducible refine(aH.calls k1 ((an l0_1 tr).f0) true _ A7.out).mono ?_);rintro e w' ⟨rfl,⟨nd,rfl⟩⟩;(try first | exact⟨rfl,_,World.drewN_drewN _ _ _⟩ | exact⟨rfl,_,Eq.trans (World.drewN_drewN _ _ _) (congrArg (World.drewN _) (Nat.add_assoc _ _ _))⟩))|(go_at_call 147;(with_reducible refine(ce.calls k1 ((an l0_1 tr).f1) true _ A9.out).mono ?_);rintro e w' ⟨rfl,⟨nd,rfl⟩⟩;(try first | exact⟨rfl,_,World.drewN_drewN _ _ _⟩ | exact⟨rfl,_,Eq.trans (World.drewN_drewN _ _ _) (congrArg (World.drewN _) (Nat.add_assoc _ _ _))⟩);obtain⟨tP,tQ,ua,ub⟩:=b6 tm.out;obtain⟨tx,tz⟩:=pq_ (tB) l0_1.length;obtain⟨tC,tG,Z8,tk⟩:=dK tF.out (tB) tx tz;obtain rfl:tw=tC:=(by injection tG);have hn487_0:tw.block≠tl:=Nat.ne_of_lt (Nat.lt_of_lt_of_le k4 tu.out);have hn487_1:tw.block≠tl:=Nat.ne_of_lt (Nat.lt_of_lt_of_le k4 tu.out);replace Z8:=cb_ HB Z8;replace tk:=cb_ HB tk;replace Z8:=(aW (p:=⟨tl,0,none⟩) kT (.string ((an l0_1 tr).f0))).trans Z8;replace tk:=(aW (p:=⟨tl,0,none⟩) kT (.string ((an l0_1 tr).f0))).trans tk;replace Z8:=(aW (p:=⟨tl,1,none⟩) kN (.string ((an l0_1 tr).f1))).trans Z8;replace tk:=(aW (p:=⟨tl,1,none⟩) kN (.string ((an l0_1 tr).f1))).trans tk;(try have tD:=fun (n_:Nat)=>(show ((((uB.drewN n_).setCell ⟨tl,0,none⟩ (.string ((an l0_1 tr).f0))).setCell ⟨tl,1,none⟩ (.string ((an l0_1 tr).f1)))).cell? _=some _ from Z8));(try have tE:=fun (n_:Nat)=>(show ((((uB.drewN n_).setCell ⟨tl,0,none⟩ (.string ((an l0_1 tr).f0))).setCell ⟨tl,1,none⟩ (.string ((an l0_1 tr).f1)))).cell? _=some _ from tk));clear hn487_0 hn487_1;obtain⟨tx,tz⟩:=tt_ tx tz))
        repeat (go_quiet (first | ((with_reducible refine aA (N:=4) rfl ?_);(try (refine bj ct ?_;dsimp only));refine bF ?hg (N:=4) ?hd (cs:=#[.string (⟨#[]⟩:ByteArray),.string (⟨#[]⟩:ByteArray)]) (t:=86) ?hr ?_;(case hd=>rfl);(case hg=>rfl);(case hr=>exact bL);intro tl hg uB hbox hb;have tv:=am_ (hbox);have tu:=gw_ HB hg;have tA:=tu;replace HB:=bs_ HB hb;have tn:=nl_ tm hg;have tq:=ng_ tm hg;replace tm:=bb_ tm hb;clear hb hbox hg;have ur:=tq.out;have uw:=tn.out;obtain⟨tN,tO,t7,t8⟩:=b6 tv.out)|(go_at_call 108;(with_reducible refine(aH.calls k1 ((an l0_1 tr).f0) true _ A7.out).mono ?_);rintro e w' ⟨rfl,⟨nd,rfl⟩⟩;(try first | exact⟨rfl,_,World.drewN_drewN _ _ _⟩ | exact⟨rfl,_,Eq.trans (World.drewN_drewN _ _ _) (congrArg (World.drewN _) (Nat.add_assoc _ _ _))⟩))|(go_at_call 147;(with_reducible refine(ce.calls k1 ((an l0_1 tr).f1) true _ A9.out).mono ?_);rintro e w' ⟨rfl,⟨nd,rfl⟩⟩;(try first | exact⟨rfl,_,World.drewN_drewN _ _ _⟩ | exact⟨rfl,_,Eq.trans (World.drewN_drewN _ _ _) (congrArg (World.drewN _) (Nat.add_assoc _ _ _))⟩);obtain⟨tP,tQ,ua,ub⟩:=b6 tm.out;obtain⟨tx,tz⟩:=pq_ (tB) l0_1.length;obtain⟨tC,tG,Z8,tk⟩:=dK tF.out (tB) tx tz;obtain rfl:tw=tC:=(by injection tG);have hn487_0:tw.block≠tl:=Nat.ne_of_lt (Nat.lt_of_lt_of_le k4 tu.out);have hn487_1:tw.block≠tl:=Nat.ne_of_lt (Nat.lt_of_lt_of_le k4 tu.out);replace Z8:=cb_ HB Z8;replace tk:=cb_ HB tk;replace Z8:=(aW (p:=⟨tl,0,none⟩) kT (.string ((an l0_1 tr).f0))).trans Z8;replace tk:=(aW (p:=⟨tl,0,none⟩) kT (.string ((an l0_1 tr).f0))).trans tk;replace Z8:=(aW (p:=⟨tl,1,none⟩) kN (.string ((an l0_1 tr).f1))).trans Z8;replace tk:=(aW (p:=⟨tl,1,none⟩) kN (.string ((an l0_1 tr).f1))).trans tk;(try have tD:=fun (n_:Nat)=>(show ((((uB.drewN n_).setCell ⟨tl,0,none⟩ (.string ((an l0_1 tr).f0))).setCell ⟨tl,1,none⟩ (.string ((an l0_1 tr).f1)))).cell? _=some _ from Z8));(try have tE:=fun (n_:Nat)=>(show ((((uB.drewN n_).setCell ⟨tl,0,none⟩ (.string ((an l0_1 tr).f0))).setCell ⟨tl,1,none⟩ (.string ((an l0_1 tr).f1)))).cell? _=some _ from tk));clear hn487_0 hn487_1;obtain⟨tx,tz⟩:=tt_ tx tz));try go_wp2_with (first | ((with_reducible refine aA (N:=4) rfl ?_);(try (refine bj ct ?_;dsimp only));refine bF ?hg (N:=4) ?hd (cs:=#[.string (⟨#[]⟩:ByteArray),.string (⟨#[]⟩:ByteArray)]) (t:=86) ?hr ?_;(case hd=>rfl);(case hg=>rfl);(case hr=>exact bL);intro tl hg uB hbox hb;have tv:=am_ (hbox);have tu:=gw_ HB hg;have tA:=tu;replace HB:=bs_ HB hb;have tn:=nl_ tm hg;have tq:=ng_ tm hg;replace tm:=bb_ tm hb;clear hb hbox hg;have ur:=tq.out;have uw:=tn.out;obtain⟨tN,tO,t7,t8⟩:=b6 tv.out)|(go_at_call 108;(with_reducible refine(aH.calls k1 ((an l0_1 tr).f0) true _ A7.out).mono ?_);rintro e w' ⟨rfl,⟨nd,rfl⟩⟩;(try first | exact⟨rfl,_,World.drewN_drewN _ _ _⟩ | exact⟨rfl,_,Eq.trans (World.drewN_drewN _ _ _) (congrArg (World.drewN _) (Nat.add_assoc _ _ _))⟩))|(go_at_call 147;(with_reducible refine(ce.calls k1 ((an l0_1 tr).f1) true _ A9.out).mono ?_);rintro e w' ⟨rfl,⟨nd,rfl⟩⟩;(try first | exact⟨rfl,_,World.drewN_drewN _ _ _⟩ | exact⟨rfl,_,Eq.trans (World.drewN_drewN _ _ _) (congrArg (World.drewN _) (Nat.add_assoc _ _ _))⟩);obtain⟨tP,tQ,ua,ub⟩:=b6 tm.out;obtain⟨tx,tz⟩:=pq_ (tB) l0_1.length;obtain⟨tC,tG,Z8,tk⟩:=dK tF.out (tB) tx tz;obtain rfl:tw=tC:=(by injection tG);have hn487_0:tw.block≠tl:=Nat.ne_of_lt (Nat.lt_of_lt_of_le k4 tu.out);have hn487_1:tw.block≠tl:=Nat.ne_of_lt (Nat.lt_of_lt_of_le k4 tu.out);replace Z8:=cb_ HB Z8;replace tk:=cb_ HB tk;replace Z8:=(aW (p:=⟨tl,0,none⟩) kT (.string ((an l0_1 tr).f0))).trans Z8;replace tk:=(aW (p:=⟨tl,0,none⟩) kT (.string ((an l0_1 tr).f0))).trans tk;replace Z8:=(aW (p:=⟨tl,1,none⟩) kN (.string ((an l0_1 tr).f1))).trans Z8;replace tk:=(aW (p:=⟨tl,1,none⟩) kN (.string ((an l0_1 tr).f1))).trans tk;(try have tD:=fun (n_:Nat)=>(show ((((uB.drewN n_).setCell ⟨tl,0,none⟩ (.string ((an l0_1 tr).f0))).setCell ⟨tl,1,none⟩ (.string ((an l0_1 tr).f1)))).cell? _=some _ from Z8));(try have tE:=fun (n_:Nat)=>(show ((((uB.drewN n_).setCell ⟨tl,0,none⟩ (.string ((an l0_1 tr).f0))).setCell ⟨tl,1,none⟩ (.string ((an l0_1 tr).f1)))).cell? _=some _ from tk));clear hn487_0 hn487_1;obtain⟨tx,tz⟩:=tt_ tx tz)))
        go_roundg k1
        case measure=>have:=HK1.out;omega
        case rel=>exact⟨(wrap64 (tr+1)),u4_,H',⟨dH⟩,⟨pb_ tm⟩,⟨bw_ HB⟩⟩
       ·rw[if_neg uF] at H;have tI:(Op.bytesLess (((an l0_1 (tB)).f0).toList) (((an l0_1 tr).f0).toList))=false:=by simpa using uF
        clear uF;obtain rfl:=si_ H;(first | rw[tI] | (simp only[aC,aG];rw[tI]) | skip)
        go_wp2_with (first | ((with_reducible refine aA (N:=4) rfl ?_);(try (refine bj ct ?_;dsimp only));refine bF ?hg (N:=4) ?hd (cs:=#[.string (⟨#[]⟩:ByteArray),.string (⟨#[]⟩:ByteArray)]) (t:=86) ?hr ?_;(case hd=>rfl);(case hg=>rfl);(case hr=>exact bL);intro tl hg uC hbox hb;have tv:=am_ (hbox);have tu:=gw_ HB hg;have tA:=tu;replace HB:=bs_ HB hb;have tn:=nl_ tm hg;have tq:=ng_ tm hg;replace tm:=bb_ tm hb;clear hb hbox hg;have us:=tq.out;have ux:=tn.out;obtain⟨tR,tS,uc,ud⟩:=b6 tv.out)|(go_at_call 108;(with_reducible refine(aH.calls k1 ((an l0_1 tr).f0) true _ A7.out).mono ?_);rintro e w' ⟨rfl,⟨nd,rfl⟩⟩;(try first | exact⟨rfl,_,World.drewN_drewN _ _ _⟩ | exact⟨rfl,_,Eq.trans (World.drewN_drewN _ _ _) (congrArg (World.drewN _) (Nat.add_assoc _ _ _))⟩))|(go_at_call 147;(with_reducible refine(ce.calls k1 ((an l0_1 tr).f1) true _ A9.out).mono ?_);rintro e w' ⟨rfl,⟨nd,rfl⟩⟩;(try first | exact⟨rfl,_,World.drewN_drewN _ _ _⟩ | exact⟨rfl,_,Eq.trans (World.drewN_drewN _ _ _) (congrArg (World.drewN _) (Nat.add_assoc _ _ _))⟩);obtain⟨tT,tU,ue,uf⟩:=b6 tm.out;obtain⟨tx,tz⟩:=pq_ (tB) l0_1.length;obtain⟨tC,tG,Z8,tk⟩:=dK tF.out (tB) tx tz;obtain rfl:tw=tC:=(by injection tG);have hn487_0:tw.block≠tl:=Nat.ne_of_lt (Nat.lt_of_lt_of_le k4 tu.out);have hn487_1:tw.block≠tl:=Nat.ne_of_lt (Nat.lt_of_lt_of_le k4 tu.out);replace Z8:=cb_ HB Z8;replace tk:=cb_ HB tk;replace Z8:=(aW (p:=⟨tl,0,none⟩) kT (.string ((an l0_1 tr).f0))).trans Z8;replace tk:=(aW (p:=⟨tl,0,none⟩) kT (.string ((an l0_1 tr).f0))).trans tk;replace Z8:=(aW (p:=⟨tl,1,none⟩) kN (.string ((an l0_1 tr).f1))).trans Z8;replace tk:=(aW (p:=⟨tl,1,none⟩) kN (.string ((an l0_1 tr).f1))).trans tk;(try have tD:=fun (n_:Nat)=>(show ((((uC.drewN n_).setCell ⟨tl,0,none⟩ (.string ((an l0_1 tr).f0))).setCell ⟨tl,1,none⟩ (.string ((an l0_1 tr).f1)))).cell? _=some _ from Z8));(try have tE:=fun (n_:Nat)=>(show ((((uC.drewN n_).setCell ⟨tl,0,none⟩ (.string ((an l0_1 tr).f0))).setCell ⟨tl,1,none⟩ (.string ((an l0_1 tr).f1)))).cell? _=some _ from tk));clear hn487_0 hn487_1;obtain⟨tx,tz⟩:=tt_ tx tz))
        repeat (go_quiet (first | ((with_reducible refine aA (N:=4) rfl ?_);(try (refine bj ct ?_;dsimp only));refine bF ?hg (N:=4) ?hd (cs:=#[.string (⟨#[]⟩:ByteArray),.string (⟨#[]⟩:ByteArray)]) (t:=86) ?hr ?_;(case hd=>rfl);(case hg=>rfl);(case hr=>exact bL);intro tl hg uC hbox hb;have tv:=am_ (hbox);have tu:=gw_ HB hg;have tA:=tu;replace HB:=bs_ HB hb;have tn:=nl_ tm hg;have tq:=ng_ tm hg;replace tm:=bb_ tm hb;clear hb hbox hg;have us:=tq.out;have ux:=tn.out;obtain⟨tR,tS,uc,ud⟩:=b6 tv.out)|(go_at_call 108;(with_reducible refine(aH.calls k1 ((an l0_1 tr).f0) true _ A7.out).mono ?_);rintro e w' ⟨rfl,⟨nd,rfl⟩⟩;(try first | exact⟨rfl,_,World.drewN_drewN _ _ _⟩ | exact⟨rfl,_,Eq.trans (World.drewN_drewN _ _ _) (congrArg (World.drewN _) (Nat.add_assoc _ _ _))⟩))|(go_at_call 147;(with_reducible refine(ce.calls k1 ((an l0_1 tr).f1) true _ A9.out).mono ?_);rintro e w' ⟨rfl,⟨nd,rfl⟩⟩;(try first | exact⟨rfl,_,World.drewN_drewN _ _ _⟩ | exact⟨rfl,_,Eq.trans (World.drewN_drewN _ _ _) (congrArg (World.drewN _) (Nat.add_assoc _ _ _))⟩);obtain⟨tT,tU,ue,uf⟩:=b6 tm.out;obtain⟨tx,tz⟩:=pq_ (tB) l0_1.length;obtain⟨tC,tG,Z8,tk⟩:=dK tF.out (tB) tx tz;obtain rfl:tw=tC:=(by injection tG);have hn487_0:tw.block≠tl:=Nat.ne_of_lt (Nat.lt_of_lt_of_le k4 tu.out);have hn487_1:tw.block≠tl:=Nat.ne_of_lt (Nat.lt_of_lt_of_le k4 tu.out);replace Z8:=cb_ HB Z8;replace tk:=cb_ HB tk;replace Z8:=(aW (p:=⟨tl,0,none⟩) kT (.string ((an l0_1 tr).f0))).trans Z8;replace tk:=(aW (p:=⟨tl,0,none⟩) kT (.string ((an l0_1 tr).f0))).trans tk;replace Z8:=(aW (p:=⟨tl,1,none⟩) kN (.string ((an l0_1 tr).f1))).trans Z8;replace tk:=(aW (p:=⟨tl,1,none⟩) kN (.string ((an l0_1 tr).f1))).trans tk;(try have tD:=fun (n_:Nat)=>(show ((((uC.drewN n_).setCell ⟨tl,0,none⟩ (.string ((an l0_1 tr).f0))).setCell ⟨tl,1,none⟩ (.string ((an l0_1 tr).f1)))).cell? _=some _ from Z8));(try have tE:=fun (n_:Nat)=>(show ((((uC.drewN n_).setCell ⟨tl,0,none⟩ (.string ((an l0_1 tr).f0))).setCell ⟨tl,1,none⟩ (.string ((an l0_1 tr).f1)))).cell? _=some _ from tk));clear hn487_0 hn487_1;obtain⟨tx,tz⟩:=tt_ tx tz));try go_wp2_with (first | ((with_reducible refine aA (N:=4) rfl ?_);(try (refine bj ct ?_;dsimp only));refine bF ?hg (N:=4) ?hd (cs:=#[.string (⟨#[]⟩:ByteArray),.string (⟨#[]⟩:ByteArray)]) (t:=86) ?hr ?_;(case hd=>rfl);(case hg=>rfl);(case hr=>exact bL);intro tl hg uC hbox hb;have tv:=am_ (hbox);have tu:=gw_ HB hg;have tA:=tu;replace HB:=bs_ HB hb;have tn:=nl_ tm hg;have tq:=ng_ tm hg;replace tm:=bb_ tm hb;clear hb hbox hg;have us:=tq.out;have ux:=tn.out;obtain⟨tR,tS,uc,ud⟩:=b6 tv.out)|(go_at_call 108;(with_reducible refine(aH.calls k1 ((an l0_1 tr).f0) true _ A7.out).mono ?_);rintro e w' ⟨rfl,⟨nd,rfl⟩⟩;(try first | exact⟨rfl,_,World.drewN_drewN _ _ _⟩ | exact⟨rfl,_,Eq.trans (World.drewN_drewN _ _ _) (congrArg (World.drewN _) (Nat.add_assoc _ _ _))⟩))|(go_at_call 147;(with_reducible refine(ce.calls k1 ((an l0_1 tr).f1) true _ A9.out).mono ?_);rintro e w' ⟨rfl,⟨nd,rfl⟩⟩;(try first | exact⟨rfl,_,World.drewN_drewN _ _ _⟩ | exact⟨rfl,_,Eq.trans (World.drewN_drewN _ _ _) (congrArg (World.drewN _) (Nat.add_assoc _ _ _))⟩);obtain⟨tT,tU,ue,uf⟩:=b6 tm.out;obtain⟨tx,tz⟩:=pq_ (tB) l0_1.length;obtain⟨tC,tG,Z8,tk⟩:=dK tF.out (tB) tx tz;obtain rfl:tw=tC:=(by injection tG);have hn487_0:tw.block≠tl:=Nat.ne_of_lt (Nat.lt_of_lt_of_le k4 tu.out);have hn487_1:tw.block≠tl:=Nat.ne_of_lt (Nat.lt_of_lt_of_le k4 tu.out);replace Z8:=cb_ HB Z8;replace tk:=cb_ HB tk;replace Z8:=(aW (p:=⟨tl,0,none⟩) kT (.string ((an l0_1 tr).f0))).trans Z8;replace tk:=(aW (p:=⟨tl,0,none⟩) kT (.string ((an l0_1 tr).f0))).trans tk;replace Z8:=(aW (p:=⟨tl,1,none⟩) kN (.string ((an l0_1 tr).f1))).trans Z8;replace tk:=(aW (p:=⟨tl,1,none⟩) kN (.string ((an l0_1 tr).f1))).trans tk;(try have tD:=fun (n_:Nat)=>(show ((((uC.drewN n_).setCell ⟨tl,0,none⟩ (.string ((an l0_1 tr).f0))).setCell ⟨tl,1,none⟩ (.string ((an l0_1 tr).f1)))).cell? _=some _ from Z8));(try have tE:=fun (n_:Nat)=>(show ((((uC.drewN n_).setCell ⟨tl,0,none⟩ (.string ((an l0_1 tr).f0))).setCell ⟨tl,1,none⟩ (.string ((an l0_1 tr).f1)))).cell? _=some _ from tk));clear hn487_0 hn487_1;obtain⟨tx,tz⟩:=tt_ tx tz)))
        go_ret
        exact⟨u103_,bw_ HB⟩
      ·rw[if_neg uE] at H;have tH:decide (0<tr)=false:=decide_eq_false uE;clear uE;have H':=am_ H;clear H;(first | rw[tH] | (simp only[aC,aG];rw[tH]) | skip)
       go_wp2_with (first | ((with_reducible refine aA (N:=4) rfl ?_);(try (refine bj ct ?_;dsimp only));refine bF ?hg (N:=4) ?hd (cs:=#[.string (⟨#[]⟩:ByteArray),.string (⟨#[]⟩:ByteArray)]) (t:=86) ?hr ?_;(case hd=>rfl);(case hg=>rfl);(case hr=>exact bL);intro tl hg uW hbox hb;have tv:=am_ (hbox);have tu:=gw_ HB hg;have tA:=tu;replace HB:=bs_ HB hb;have tn:=nl_ tm hg;have tq:=ng_ tm hg;replace tm:=bb_ tm hb;clear hb hbox hg;have ut:=tq.out;have uy:=tn.out;obtain⟨tV,tW,ug,uh⟩:=b6 tv.out)|(go_at_call 108;(with_reducible refine(aH.calls k1 ((an l0_1 tr).f0) true _ A7.out).mono ?_);rintro e w' ⟨rfl,⟨nd,rfl⟩⟩;(try first | exact⟨rfl,_,World.drewN_drewN _ _ _⟩ | exact⟨rfl,_,Eq.trans (World.drewN_drewN _ _ _) (congrArg (World.drewN _) (Nat.add_assoc _ _ _))⟩))|(go_at_call 147;(with_reducible refine(ce.calls k1 ((an l0_1 tr).f1) true _ A9.out).mono ?_);rintro e w' ⟨rfl,⟨nd,rfl⟩⟩;(try first | exact⟨rfl,_,World.drewN_drewN _ _ _⟩ | exact⟨rfl,_,Eq.trans (World.drewN_drewN _ _ _) (congrArg (World.drewN _) (Nat.add_assoc _ _ _))⟩)))
       repeat (go_quiet (first | ((with_reducible refine aA (N:=4) rfl ?_);(try (refine bj ct ?_;dsimp only));refine bF ?hg (N:=4) ?hd (cs:=#[.string (⟨#[]⟩:ByteArray),.string (⟨#[]⟩:ByteArray)]) (t:=86) ?hr ?_;(case hd=>rfl);(case hg=>rfl);(case hr=>exact bL);intro tl hg uW hbox hb;have tv:=am_ (hbox);have tu:=gw_ HB hg;have tA:=tu;replace HB:=bs_ HB hb;have tn:=nl_ tm hg;have tq:=ng_ tm hg;replace tm:=bb_ tm hb;clear hb hbox hg;have ut:=tq.out;have uy:=tn.out;obtain⟨tV,tW,ug,uh⟩:=b6 tv.out)|(go_at_call 108;(with_reducible refine(aH.calls k1 ((an l0_1 tr).f0) true _ A7.out).mono ?_);rintro e w' ⟨rfl,⟨nd,rfl⟩⟩;(try first | exact⟨rfl,_,World.drewN_drewN _ _ _⟩ | exact⟨rfl,_,Eq.trans (World.drewN_drewN _ _ _) (congrArg (World.drewN _) (Nat.add_assoc _ _ _))⟩))|(go_at_call 147;(with_reducible refine(ce.calls k1 ((an l0_1 tr).f1) true _ A9.out).mono ?_);rintro e w' ⟨rfl,⟨nd,rfl⟩⟩;(try first | exact⟨rfl,_,World.drewN_drewN _ _ _⟩ | exact⟨rfl,_,Eq.trans (World.drewN_drewN _ _ _) (congrArg (World.drewN _) (Nat.add_assoc _ _ _))⟩)));try go_wp2_with (first | ((with_reducible refine aA (N:=4) rfl ?_);(try (refine bj ct ?_;dsimp only));refine bF ?hg (N:=4) ?hd (cs:=#[.string (⟨#[]⟩:ByteArray),.string (⟨#[]⟩:ByteArray)]) (t:=86) ?hr ?_;(case hd=>rfl);(case hg=>rfl);(case hr=>exact bL);intro tl hg uW hbox hb;have tv:=am_ (hbox);have tu:=gw_ HB hg;have tA:=tu;replace HB:=bs_ HB hb;have tn:=nl_ tm hg;have tq:=ng_ tm hg;replace tm:=bb_ tm hb;clear hb hbox hg;have ut:=tq.out;have uy:=tn.out;obtain⟨tV,tW,ug,uh⟩:=b6 tv.out)|(go_at_call 108;(with_reducible refine(aH.calls k1 ((an l0_1 tr).f0) true _ A7.out).mono ?_);rintro e w' ⟨rfl,⟨nd,rfl⟩⟩;(try first | exact⟨rfl,_,World.drewN_drewN _ _ _⟩ | exact⟨rfl,_,Eq.trans (World.drewN_drewN _ _ _) (congrArg (World.drewN _) (Nat.add_assoc _ _ _))⟩))|(go_at_call 147;(with_reducible refine(ce.calls k1 ((an l0_1 tr).f1) true _ A9.out).mono ?_);rintro e w' ⟨rfl,⟨nd,rfl⟩⟩;(try first | exact⟨rfl,_,World.drewN_drewN _ _ _⟩ | exact⟨rfl,_,Eq.trans (World.drewN_drewN _ _ _) (congrArg (World.drewN _) (Nat.add_assoc _ _ _))⟩))))
       go_roundg k1
       case measure=>have:=HK1.out;omega
       case rel=>exact⟨(wrap64 (tr+1)),u4_,H',⟨dH⟩,⟨pb_ tm⟩,⟨bw_ HB⟩⟩
   ·rw[if_neg c4] at H;have uO:=decide_eq_false c4;clear c4;obtain⟨uQ,uD,H⟩:=bi_ H;cases uQ
    ·replace H:=hf_ H;obtain rfl:=si_ H;obtain⟨uI,uJ,uM,uN⟩:=b6 tm.out;go_wp2_with (first | (go_at_call 108;(with_reducible refine(aH.calls k1 a0_0 false _ uD.out).mono ?_);rintro e w' ⟨rfl,⟨nd,rfl⟩⟩;(try first | exact⟨rfl,_,World.drewN_drewN _ _ _⟩ | exact⟨rfl,_,Eq.trans (World.drewN_drewN _ _ _) (congrArg (World.drewN _) (Nat.add_assoc _ _ _))⟩)))
     repeat (go_quiet (first | (go_at_call 108;(with_reducible refine(aH.calls k1 a0_0 false _ uD.out).mono ?_);rintro e w' ⟨rfl,⟨nd,rfl⟩⟩;(try first | exact⟨rfl,_,World.drewN_drewN _ _ _⟩ | exact⟨rfl,_,Eq.trans (World.drewN_drewN _ _ _) (congrArg (World.drewN _) (Nat.add_assoc _ _ _))⟩)));try go_wp2_with (first | (go_at_call 108;(with_reducible refine(aH.calls k1 a0_0 false _ uD.out).mono ?_);rintro e w' ⟨rfl,⟨nd,rfl⟩⟩;(try first | exact⟨rfl,_,World.drewN_drewN _ _ _⟩ | exact⟨rfl,_,Eq.trans (World.drewN_drewN _ _ _) (congrArg (World.drewN _) (Nat.add_assoc _ _ _))⟩))))
     go_ret
     exact⟨u1_,bw_ HB⟩
    ·replace H:=ht_ H;obtain rfl:=si_ H;obtain⟨uG,uH,uK,uL⟩:=b6 tm.out;go_wp2_with (first | (go_at_call 108;(with_reducible refine(aH.calls k1 a0_0 true _ uD.out).mono ?_);rintro e w' ⟨rfl,⟨nd,rfl⟩⟩;(try first | exact⟨rfl,_,World.drewN_drewN _ _ _⟩ | exact⟨rfl,_,Eq.trans (World.drewN_drewN _ _ _) (congrArg (World.drewN _) (Nat.add_assoc _ _ _))⟩)))
     repeat (go_quiet (first | (go_at_call 108;(with_reducible refine(aH.calls k1 a0_0 true _ uD.out).mono ?_);rintro e w' ⟨rfl,⟨nd,rfl⟩⟩;(try first | exact⟨rfl,_,World.drewN_drewN _ _ _⟩ | exact⟨rfl,_,Eq.trans (World.drewN_drewN _ _ _) (congrArg (World.drewN _) (Nat.add_assoc _ _ _))⟩)));try go_wp2_with (first | (go_at_call 108;(with_reducible refine(aH.calls k1 a0_0 true _ uD.out).mono ?_);rintro e w' ⟨rfl,⟨nd,rfl⟩⟩;(try first | exact⟨rfl,_,World.drewN_drewN _ _ _⟩ | exact⟨rfl,_,Eq.trans (World.drewN_drewN _ _ _) (congrArg (World.drewN _) (Nat.add_assoc _ _ _))⟩))))
     go_ret
     exact⟨u1_,bw_ HB⟩
def bs.l0:Nat→ByteArray→List (S92)→Int→Int→Option (ByteArray × Int × Int)
 | 0,_,_,_,_=>none
 | k+1,x1,x7,x8,x9=>if x9<x8 then(if 0≤x9 then(if x9<(x7.length:Int) then(if((az x7 x9).f0).toList=x1.toList then(some ((az x7 x9).f0,(az x7 x9).f1,(az x7 x9).f2)) else(bs.l0 k x1 x7 x8 (wrap64 (x9+1)))) else(none)) else(none)) else(some ((⟨#[]⟩:ByteArray),0,0))
def bs.f (k:Nat) (l0:List (S92)) (a1:ByteArray):Option (ByteArray × Int × Int):=bs.l0 k a1 l0 (l0.length:Int) 0
theorem bs.calls (k:Nat) (A0:Option Addr) (c0:Nat) (l0:List (S92)) (a1:ByteArray) (r1:ByteArray) (r2:Int) (r3:Int) (w:World) (hr0:Kd.C k92 w A0 l0.length l0) (hc0:l0.length≤c0) (h:bs.f k l0 a1=some (r1,r2,r3)) :
  Calls Tryz.prog 110 #[.slice A0 l0.length c0,.string a1] w fun e w'=>e = .returned (.agg #[.string r1,.int .i64 r2,.int .i64 r3])∧Below w.heap.size w w':=by
 have hu92:=Tryz.underlying92;have ZD:=am_ hr0;have um:=am_ hc0;clear hr0 hc0;have HB:=am_ (Below.refl w.heap.size w);have H:=h;clear h;unfold bs.f at H
 have H':=am_ H;clear H;go_enter Tryz.func110,Tryz.ntmps110
 go_wp2_with (first | ((with_reducible refine gt_ 4 ?_);refine bx_ 4 #[.string (⟨#[]⟩:ByteArray),.int .i64 0,.int .i64 0] 92 ?_;intro tB hg w3 hbox hb;have tk:=am_ (hbox);have uc:=gw_ HB hg;replace HB:=bs_ HB hb;clear hb hbox hg))
 go_loopg [9] k (fun kq v9 w'=>∃(tu:Int) (tn:ByteArray) (tq:Int) (tr:Int),v9 = .int .i64 tu∧aa (bs.l0 kq a1 l0 (l0.length:Int) tu=some (r1,r2,r3))∧aa (kq≤k)∧aa (w'.heap[tB]? = some (.cells #[.string tn,.int .i64 tq,.int .i64 tr] 92 (0,0)))∧aa (Below w.heap.size w w'))
 case atStart=>exact⟨(0),((⟨#[]⟩:ByteArray)),(0),(0),u4_,H',⟨Nat.le_refl _⟩,⟨pb_ tk⟩,⟨bw_ HB⟩⟩
 case round=>
  clear H';obtain⟨tu,tn,tq,tr,rfl,HA,HK1,tk,HB⟩:=hrel;cases gk with
  | zero=>exact absurd HA.out (by simp[bs.l0])
  | succ k1=>
   have H:=HA.out;clear HA;simp only[bs.l0] at H;by_cases c4:tu<(l0.length:Int)
   ·rw[if_pos c4] at H;have t8:=decide_eq_true c4;clear c4;obtain⟨ug,H⟩:=gd_ H;obtain⟨uh,H⟩:=gd_ H;have HC_:=am_ H;clear H;obtain⟨ud,ub,tv,tw,tx⟩:=jb ZD.out tu od_ od_;cases ub;replace tv:=cb_ HB tv;replace tw:=cb_ HB tw;replace tx:=cb_ HB tx;obtain⟨uk,ul⟩:=pt_ tu l0.length;have H:=HC_.out;clear HC_;by_cases c7:((az l0 tu).f0).toList=a1.toList
    ·rw[if_pos c7] at H;have tA:=cW c7;have ua:=cX c7;clear c7;simp only[Option.some.injEq,Prod.mk.injEq] at H;obtain⟨rfl,rfl,rfl⟩:=H;(first | rw[tA] | (simp only[aC,aG];rw[tA]) | skip)
     go_wp2_with (first | ((with_reducible refine gt_ 6 ?_);refine bx_ 6 #[.string (⟨#[]⟩:ByteArray),.int .i64 0,.int .i64 0] 92 ?_;intro tD hg w8 hbox hb;have tz:=am_ (hbox);have tC:=gw_ HB hg;replace HB:=bs_ HB hb;have tl:=nl_ tk hg;have tm:=ng_ tk hg;replace tk:=bb_ tk hb;clear hb hbox hg;have ui:=tm.out;have uj:=tl.out;obtain⟨tE,tF,tG,tQ,tR,tS⟩:=dm tz.out;obtain⟨tH,tI,tJ,tT,tU,tV⟩:=dm tk.out))
     refine bodyPost_ret (results_cell_row rfl _ _ tB 92 #[.string ((az l0 tu).f0),.int .i64 ((az l0 tu).f1),.int .i64 ((az l0 tu).f2)] (0,0) _ rfl (pb_ tk) Tryz.underlying92 rfl bT) rfl ?_;exact⟨u1_,bw_ HB⟩
    ·rw[if_neg c7] at H;have tA:=cO c7;have ua:=cQ c7;have H':=am_ H;clear H;(first | rw[tA] | (simp only[aC,aG];rw[tA]) | skip)
     go_wp2_with (first | ((with_reducible refine gt_ 6 ?_);refine bx_ 6 #[.string (⟨#[]⟩:ByteArray),.int .i64 0,.int .i64 0] 92 ?_;intro tD hg un hbox hb;have tz:=am_ (hbox);have tC:=gw_ HB hg;replace HB:=bs_ HB hb;have tl:=nl_ tk hg;have tm:=ng_ tk hg;replace tk:=bb_ tk hb;clear hb hbox hg;have ue:=tm.out;have uf:=tl.out;obtain⟨tK,tL,tM,tW,tX,tY⟩:=dm tz.out))
     go_roundg k1
     case measure=>have:=HK1.out;omega
     case rel=>exact⟨(wrap64 (tu+1)),(tn),(tq),(tr),u4_,H',⟨dH⟩,⟨pb_ tk⟩,⟨bw_ HB⟩⟩
   ·rw[if_neg c4] at H;have t8:=decide_eq_false c4;clear c4;simp only[Option.some.injEq,Prod.mk.injEq] at H;obtain⟨rfl,rfl,rfl⟩:=H;obtain⟨tN,tO,tP,tZ,t6,t7⟩:=dm tk.out;go_wp2;refine bodyPost_ret (results_cell_row rfl _ _ tB 92 #[.string (⟨#[]⟩:ByteArray),.int .i64 0,.int .i64 0] (0,0) _ rfl (pb_ tk) Tryz.underlying92 rfl bT) rfl ?_;exact⟨u1_,bw_ HB⟩
def strconv_Itoa.f (a0:Int):Option ByteArray:=if -9223372036854775808≤a0∧a0≤9223372036854775807 then some ⟨(Lib.itoa a0).toArray⟩ else none
theorem strconv_Itoa.below (w:World) (k:Nat) (os:Array Obj):Below w.heap.size w (Go.Sort.grow (w.drewN k) os):=
 ⟨rfl,rfl,rfl,by rw[Go.Sort.size_grow];exact Nat.le_add_right _ _,fun i hi=>Go.Sort.heap_grow_old (w.drewN k) os hi⟩
theorem strconv_Itoa.calls (a0:Int) (r:ByteArray) (w:World) (hG:StopsIn w) (h:strconv_Itoa.f a0=some r) :
  Calls Tryz.prog 149 #[.int .i64 a0] w fun e w'=>e = .returned (.string r)∧Below w.heap.size w w':=by
 unfold strconv_Itoa.f at h
 by_cases hs : -9223372036854775808≤a0∧a0≤9223372036854775807
 case neg=>rw[if_neg hs] at h;exact absurd h bb
 rw[if_pos hs] at h;have h:=Option.some.inj h;subst h;refine(Go.Proofs.Tryz.strconv_Itoa a0 hs.1 hs.2 w hG.tab).mono ?_;rintro e w' ⟨rfl,k,os,rfl⟩;exact⟨rfl,strconv_Itoa.below w k os⟩
def ch.v (s:ByteArray):Int × Bool:=match Lib.atoiAll s.data.toList with
 | .ok n=>if -999999999≤n∧n≤999999999∧Lib.itoa n=s.data.toList then(n,true) else(0,false)
 | _=>(0,false)
def ch.f (a0:ByteArray):Option (Int × Bool):=if a0.size≤140737488355328 then some (ch.v a0) else none
theorem ch.atoi_ok (s:ByteArray) (hs:s.size≤140737488355328) (n:Int) (h:Lib.atoiAll s.data.toList = .ok n) (w:World) :
  Calls Tryz.prog 148 #[.string s] w fun e w'=>e = .returned (.tuple #[.int .i64 n,.nilIface])∧Below w.heap.size w w':=by
 refine(Go.Proofs.Tryz.strconv_Atoi_ok s aw n h w).mono ?_;rintro e w' ⟨rfl,h1⟩;rcases h1 with rfl | ⟨t,rfl⟩
 ·exact⟨rfl,Below.refl _ _⟩
 ·exact⟨rfl,kw (Below.refl _ _) (Nat.le_refl _) _ _⟩
theorem ch.atoi_no (s:ByteArray) (hs:s.size≤140737488355328) (h:∀n,Lib.atoiAll s.data.toList ≠ .ok n) (w:World) (hG:StopsIn w) :
  Calls Tryz.prog 148 #[.string s] w fun e w'=>∃n t p,e = .returned (.tuple #[.int .i64 n,.iface t p])∧Below w.heap.size w w':=by
 obtain⟨⟨u1,v1,h1⟩,⟨u2,v2,h2⟩⟩:=hG.errs;rcases hA:Lib.atoiAll s.data.toList with n | _ | _
 ·exact absurd hA (h n)
 ·refine(Go.Proofs.Tryz.strconv_Atoi_syntax_var s aw hA u1 v1 w h1).mono ?_;rintro e w' ⟨N,rfl,_,_,hb⟩;exact⟨_,_,_,rfl,hb⟩
 ·refine(Go.Proofs.Tryz.strconv_Atoi_range_var s aw hA u2 v2 w h2).mono ?_;rintro e w' ⟨N,rfl,_,_,hb⟩;exact⟨_,_,_,rfl,hb⟩
theorem ch.calls (a0:ByteArray) (r1:Int) (r2:Bool) (w:World) (hG:StopsIn w) (h:ch.f a0=some (r1,r2)) :
  Calls Tryz.prog 111 #[.string a0] w fun e w'=>e = .returned (.tuple #[.int .i64 r1,.bool r2])∧Below w.heap.size w w':=by
 unfold ch.f at h
 by_cases hs:a0.size≤140737488355328
 case neg=>rw[if_neg hs] at h;exact absurd h bb
 rw[if_pos hs] at h;have h:=Option.some.inj h;have hG:=am_ hG;rcases hA:Lib.atoiAll a0.data.toList with n | _ | _
 ·have hbd:=Lib.atoiAll_bounds hA;have hok:=ch.atoi_ok a0 hs n hA;have hit:aa (strconv_Itoa.f n=some ⟨(Lib.itoa n).toArray⟩):=⟨if_pos hbd⟩;unfold ch.v at h
  rw[hA] at h;clear hA;by_cases hw : -999999999≤n∧n≤999999999
  ·have hwi:aa (be.f n (-999999999) 999999999=some true):=⟨by unfold be.f;rw[if_pos (show n ≥ -999999999 from hw.1),decide_eq_true hw.2]⟩;by_cases he:Lib.itoa n=a0.data.toList
   ·have heq:(⟨(Lib.itoa n).toArray⟩:ByteArray)=a0:=by rw[he]
    have h2:(n,true)=(r1,r2):=by rw[← h];simp only[if_pos (show -999999999≤n∧n≤999999999∧Lib.itoa n=a0.data.toList from ⟨hw.1,hw.2,he⟩)]
    obtain⟨rfl,rfl⟩:=Prod.mk.inj h2;rw[heq] at hit;clear h h2 he heq hw hbd;go_enter Tryz.func111,Tryz.ntmps111
    go_wp2_with (first | (go_at_call 148;refine(hok _).mono ?_;rintro e w1 ⟨rfl,hb1⟩)|(go_at_call 64;refine(be.calls _ _ _ _ _ hwi.out).mono ?_;rintro e w2 ⟨rfl,⟨⟨q,rfl⟩⟩⟩)|(go_at_call 149;refine(strconv_Itoa.calls _ _ _ (StopsIn.below hG.out (al hb1 q)) hit.out).mono ?_;rintro e w3 ⟨rfl,hb3⟩))
    go_ret2
    exact⟨rfl,eO (al hb1 q) hb1.size hb3⟩
   ·have heq:¬(⟨(Lib.itoa n).toArray⟩:ByteArray).toList=a0.toList:=fun e=>he (by rw[ByteArray.toList_eq,ByteArray.toList_eq] at e;simpa using e)
    have h2:(0,false)=(r1,r2):=by rw[← h];simp only[if_neg (show ¬(-999999999≤n∧n≤999999999∧Lib.itoa n=a0.data.toList) from fun hh=>he hh.2.2)]
    obtain⟨rfl,rfl⟩:=Prod.mk.inj h2;obtain⟨y,hy⟩:∃y:ByteArray,(⟨(Lib.itoa n).toArray⟩:ByteArray)=y:=⟨_,rfl⟩;rw[hy] at hit heq;have hb0:(y.toList != a0.toList)=true:=by simpa using heq
    have hb1_:(y.toList == a0.toList)=false:=by simpa using heq
    clear h h2 he hw hbd hy;go_enter Tryz.func111,Tryz.ntmps111
    go_wp2_with (first | (go_at_call 148;refine(hok _).mono ?_;rintro e w1 ⟨rfl,hb1⟩)|(go_at_call 64;refine(be.calls _ _ _ _ _ hwi.out).mono ?_;rintro e w2 ⟨rfl,⟨⟨q,rfl⟩⟩⟩)|(go_at_call 149;refine(strconv_Itoa.calls _ _ _ (StopsIn.below hG.out (al hb1 q)) hit.out).mono ?_;rintro e w3 ⟨rfl,hb3⟩))
    go_ret2
    exact⟨rfl,eO (al hb1 q) hb1.size hb3⟩
  ·have hwi:aa (be.f n (-999999999) 999999999=some false):=⟨by
    unfold be.f
    by_cases h1:n ≥ -999999999
    ·rw[if_pos h1,decide_eq_false aw]
    ·rw[if_neg h1]⟩
   have h2:(0,false)=(r1,r2):=by rw[← h];simp only[if_neg (show ¬(-999999999≤n∧n≤999999999∧Lib.itoa n=a0.data.toList) from fun hh=>hw ⟨hh.1,hh.2.1⟩)]
   obtain⟨rfl,rfl⟩:=Prod.mk.inj h2;clear h h2 hw hbd;go_enter Tryz.func111,Tryz.ntmps111
   go_wp2_with (first | (go_at_call 148;refine(hok _).mono ?_;rintro e w1 ⟨rfl,hb1⟩)|(go_at_call 64;refine(be.calls _ _ _ _ _ hwi.out).mono ?_;rintro e w2 ⟨rfl,⟨⟨q,rfl⟩⟩⟩)|(go_at_call 149;refine(strconv_Itoa.calls _ _ _ (StopsIn.below hG.out (al hb1 q)) hit.out).mono ?_;rintro e w3 ⟨rfl,hb3⟩))
   go_ret2
   exact⟨rfl,al hb1 q⟩
 ·have hno:=ch.atoi_no a0 hs (fun n e=>by rw[hA] at e;cases e);have h2:(0,false)=(r1,r2):=by rw[← h];unfold ch.v;rw[hA]
  obtain⟨rfl,rfl⟩:=Prod.mk.inj h2;clear h h2 hA;go_enter Tryz.func111,Tryz.ntmps111
  go_wp2_with (first | (go_at_call 148;refine(hno _ hG.out).mono ?_;rintro e w1 ⟨n,t,p,rfl,hb1⟩))
  go_ret2
  exact⟨rfl,hb1⟩
 ·have hno:=ch.atoi_no a0 hs (fun n e=>by rw[hA] at e;cases e);have h2:(0,false)=(r1,r2):=by rw[← h];unfold ch.v;rw[hA]
  obtain⟨rfl,rfl⟩:=Prod.mk.inj h2;clear h h2 hA;go_enter Tryz.func111,Tryz.ntmps111
  go_wp2_with (first | (go_at_call 148;refine(hno _ hG.out).mono ?_;rintro e w1 ⟨n,t,p,rfl,hb1⟩))
  go_ret2
  exact⟨rfl,hb1⟩
def strings_Split.f (a0 a1:ByteArray):Option (List ByteArray):=if a0.size<4294967281∧1≤a1.size then some (Lib.splitB a1 0 (Lib.countB a0 a1) a0) else none
theorem strings_Split.calls (a0 a1:ByteArray) (r:List ByteArray) (w:World) (hG:StopsIn w) (h:strings_Split.f a0 a1=some r) :
  Calls Tryz.prog 150 #[.string a0,.string a1] w fun e w'=>∃v0_:Value,e = .returned (v0_)∧Kd.R Kd.string 9 w' w.heap.size (fun _=>True) v0_ r∧Below w.heap.size w w':=by
 unfold strings_Split.f at h
 by_cases hs:a0.size<4294967281∧1≤a1.size
 case neg=>rw[if_neg hs] at h;exact absurd h bb
 rw[if_pos hs] at h;have h:=Option.some.inj h;obtain⟨m,hm⟩:=hG.max;have hle:=Lib.countB_le a1 hs.2 a0.size a0 (Nat.le_refl _);have hlen:=Lib.splitB_all a1 hs.2 0 _ a0 rfl;rw[h] at hlen;refine(Go.Proofs.Tryz.strings_Split a0 a1 m w hs.1 hm hs.2).mono ?_;rintro e w' ⟨rfl,rfl⟩;rw[h];refine⟨_,rfl,?_,aE (Below.refl _ _) _⟩;have hh:(w.alloc (.cells (r.map Value.string).toArray 9)).heap[w.heap.size]? = some (.cells (r.map Value.string).toArray 9 (0,0)):=by
  unfold World.alloc
  simp
 have hx:=row_mk (enc:=Value.string) (h1:=fun _=>rfl) (ok:=fun _=>True) (xs:=r) (cap:=Lib.countB a0 a1+1) (Nat.le_refl _) hh aw (by have:maxLen=9223372036854775807:=rfl;omega) (by simp[hlen]) trivial (fun j x hj=>by simp[hj]);rw[hlen] at hx;exact hx
def co.l0:Nat→List ByteArray→List ByteArray→Int→Int→Option (Bool)
 | 0,_,_,_,_=>none
 | k+1,x3,x8,x9,tk=>if tk<x9 then(if 0≤tk then(if tk<(x8.length:Int) then((aH.f k (bC ByteArray.empty x8 tk)).bind fun tl=>(if tl=true then(co.l0 k x3 x8 x9 (wrap64 (tk+1))) else(some false))) else(none)) else(none)) else(some (decide ((x3.length:Int)≤4)))
def co.f (k:Nat) (a0:ByteArray):Option (Bool):=(strings_Split.f a0 (⟨#[44]⟩:ByteArray)).bind fun tk=>(co.l0 k tk tk (tk.length:Int) 0)
theorem co.calls (k:Nat) (a0:ByteArray) (r:Bool) (w:World) (hG:StopsIn w) (h:co.f k a0=some r) :
  Calls Tryz.prog 112 #[.string a0] w fun e w'=>e = .returned (.bool r)∧Below w.heap.size w w':=by
 have HG_:=am_ hG;clear hG;have HB:=am_ (Below.refl w.heap.size w);have H:=h;clear h;unfold co.f at H
 obtain⟨tk,A2,H⟩:=bi_ H;have H':=am_ H;clear H;go_enter Tryz.func112,Tryz.ntmps112
 go_wp2_with (first | ((with_reducible refine gt_ 7 ?_);refine gf_ 7 Tryz.func150 (strings_Split.calls a0 (⟨#[44]⟩:ByteArray) tk _ ?side1 A2.out) ?_;(case side1=>exact fQ);rintro e w3 ⟨tF,rfl,ho0,hb⟩;refine⟨_,rfl,?_⟩;have tl:=am_ (Kd.R_lower ho0 (ar (bw_ HB)));replace HB:=bs_ HB hb;(try clear hb);(try clear ho0);obtain⟨tv,tx,tB⟩:=Kd.R_slice tl.out;subst tB))
 go_loopg [10] k (fun kq tE w'=>∃(Z2:Int),tE = .int .i64 Z2∧aa (co.l0 kq tk tk (tk.length:Int) Z2=some r)∧aa (kq≤k)∧aa (Kd.R Kd.string 9 w' w.heap.size (fun _=>True) (.slice tv tk.length tx) tk)∧aa (Kd.R Kd.string 9 w' w.heap.size (fun _=>True) (.slice tv tk.length tx) tk)∧aa (Below w.heap.size w w'))
 case atStart=>exact⟨(0),u4_,H',⟨Nat.le_refl _⟩,⟨aR_ tl.out⟩,⟨aR_ tl.out⟩,⟨bw_ HB⟩⟩
 case round=>
  clear H';obtain⟨Z2,rfl,HA,HK1,Z3,tm,HB⟩:=hrel;cases gk with
  | zero=>exact absurd HA.out (by simp[co.l0])
  | succ k1=>
   have H:=HA.out;clear HA;simp only[co.l0] at H;by_cases c5:Z2<(tk.length:Int)
   ·rw[if_pos c5] at H;have tq:=decide_eq_true c5;clear c5;obtain⟨tz,H⟩:=gd_ H;obtain⟨tA,H⟩:=gd_ H;obtain⟨tu,A8,H⟩:=bi_ H;have HC_:=am_ H;clear H;obtain⟨tw,tr,tn⟩:=Kd.at_string (Kd.R_reads' tm.out).2.2 Z2 od_ od_;cases tr;obtain⟨tC,tD⟩:=pt_ Z2 tk.length;have H:=HC_.out;clear HC_;cases tu
    ·replace H:=hf_ H;obtain rfl:=si_ H;go_wp2_with (first | ((with_reducible refine gt_ 15 ?_);refine gD_ 15 Tryz.func108 (aH.calls k1 (bC ByteArray.empty tk Z2) false _ A8.out) ?_;intro nd))
     go_ret
     exact⟨u1_,bw_ HB⟩
    ·replace H:=ht_ H;have H':=am_ H;clear H;go_wp2_with (first | ((with_reducible refine gt_ 15 ?_);refine gD_ 15 Tryz.func108 (aH.calls k1 (bC ByteArray.empty tk Z2) true _ A8.out) ?_;intro nd))
     go_roundg k1
     case measure=>have:=HK1.out;omega
     case rel=>exact⟨(wrap64 (Z2+1)),u4_,H',⟨dH⟩,⟨aR_ Z3.out⟩,⟨aR_ tm.out⟩,⟨bw_ HB⟩⟩
   ·rw[if_neg c5] at H;have tq:=decide_eq_false c5;clear c5;obtain rfl:=si_ H;go_wp2;go_ret
    exact⟨u1_,bw_ HB⟩
theorem bi.fld92_1 (x0:ByteArray) (x1:Int) (x2:Int) (w:World):(Instr.field 92 (Value.agg #[Value.string x0,Value.int .i64 x1,Value.int .i64 x2]) 1).run Tryz.prog w = .ok (Value.int .i64 x1) w:=by kernel_rfl
attribute [local go_sem] bi.fld92_1
mutual
def bi.j0:Nat→List (S92)→Bool→ByteArray→List (S86)→Option (Bool)
 | 0,_,_,_,_=>none
 | k+1,x0,tm,tl,tk=>if tm=true then(some false) else(bi.l0 k x0 tk (tk.length:Int) 0)
def bi.l0:Nat→List (S92)→List (S86)→Int→Int→Option (Bool)
 | 0,_,_,_,_=>none
 | k+1,x0,tm,tq,tl=>if tl<tq then(if 0≤tl then(if tl<(tm.length:Int) then((bs.f k x0 ((an tm tl).f0)).bind fun tk=>(if tk.2.1=1 then(bi.l0 k x0 tm tq (wrap64 (tl+1))) else(if tk.2.1=2 then((ch.f ((an tm tl).f1)).bind fun tn=>(if tn.2=true then(bi.l0 k x0 tm tq (wrap64 (tl+1))) else(some false))) else(if tk.2.1=3 then((co.f k ((an tm tl).f1)).bind fun tr=>(if tr=true then(bi.l0 k x0 tm tq (wrap64 (tl+1))) else(some false))) else(some false))))) else(none)) else(none)) else(some true)
end
def bi.f (k:Nat) (l0:List (S92)) (a1_0:ByteArray) (l1_1:List (S86)):Option (Bool):=(aU.f k l0).bind fun tk=>(if tk=true then((bD.f k a1_0 l1_1).bind fun tl=>(bi.j0 k l0 (!tl) a1_0 l1_1)) else(bi.j0 k l0 true a1_0 l1_1))
theorem bi.calls (k:Nat) (A0:Option Addr) (c0:Nat) (l0:List (S92)) (a1_0:ByteArray) (A1_1:Option Addr) (c1_1:Nat) (l1_1:List (S86)) (r:Bool) (w:World) (hG:StopsIn w) (hr0:Kd.C k92 w A0 l0.length l0) (hc0:l0.length≤c0) (hr1_1:Kd.C k86 w A1_1 l1_1.length l1_1) (hc1_1:l1_1.length≤c1_1) (h:bi.f k l0 a1_0 l1_1=some r) :
  Calls Tryz.prog 65 #[.slice A0 l0.length c0,.agg #[.string a1_0,.slice A1_1 l1_1.length c1_1]] w fun e w'=>e = .returned (.bool r)∧Below w.heap.size w w':=by
 have hu44:=Tryz.underlying44;have hu86:=Tryz.underlying86;have HG_:=am_ hG;clear hG;have ZD:=am_ hr0;have tJ:=am_ hc0;clear hr0 hc0;have tK:=am_ hr1_1;have tR:=am_ hc1_1;clear hr1_1 hc1_1;have HB:=am_ (Below.refl w.heap.size w);have H:=h;clear h;unfold bi.f at H
 have uK:=am_ H;clear H;go_enter Tryz.func65,Tryz.ntmps65
 go_upto_region 1 with (first | ((with_reducible refine gt_ 3 ?_);refine bx_ 3 #[.string a1_0,.slice A1_1 l1_1.length c1_1] 44 ?_;intro tL hg w4 hbox hb;have tk:=am_ (hbox);have uV:=gw_ HB hg;replace HB:=bs_ HB hb;clear hb hbox hg))
 (try simp only[Act.put,List.setIfInBounds_toArray,List.set_cons_zero,List.set_cons_succ])
 go_cut [16] (fun vy wc=>∃(kq:Nat) (tC:Bool),vy = .bool tC∧aa (bi.j0 kq l0 tC a1_0 l1_1=some r)∧aa (kq≤k)∧aa (wc.heap[tL]? = some (.cells #[.string a1_0,(.slice A1_1 l1_1.length c1_1)] 44 (0,0)))∧aa (Below w.heap.size w wc))
 case first=>
  have H:=uK.out;clear uK;obtain⟨uQ,A5,H⟩:=bi_ H;cases uQ
  ·replace H:=hf_ H;have H':=am_ H;clear H;go_wp2_with (first | ((with_reducible refine gt_ 10 ?_);refine gB_ 10 Tryz.func63 (aU.calls k _ _ l0 false _ (kc_ ZD HB) tJ.out A5.out) ?_;intro vB hb;replace tk:=bb_ tk hb;replace HB:=bs_ HB hb;(try clear hb)))
   go_meet
   case rel=>exact⟨_,(true),u4_,H',⟨jD⟩,⟨pb_ tk⟩,⟨bw_ HB⟩⟩
  ·replace H:=ht_ H;obtain⟨tW,A7,H⟩:=bi_ H;have H':=am_ H;clear H;go_wp2_with (first | ((with_reducible refine gt_ 10 ?_);refine gB_ 10 Tryz.func63 (aU.calls k _ _ l0 true _ (kc_ ZD HB) tJ.out A5.out) ?_;intro w8 hb;replace tk:=bb_ tk hb;replace HB:=bs_ HB hb;(try clear hb);obtain⟨uM,uN,uO,uP⟩:=b6 tk.out)|(go_at_call 109;(with_reducible refine(bD.calls k a1_0 _ _ l1_1 tW _ (kc_ tK HB) tR.out A7.out).mono ?_);rintro e vA ⟨rfl,hb⟩;replace tk:=bb_ tk hb;replace HB:=bs_ HB hb;(try clear hb)))
   go_meet
   case rel=>exact⟨_,(!tW),u4_,H',⟨jD⟩,⟨pb_ tk⟩,⟨bw_ HB⟩⟩
 case rest=>
  clear uK;obtain⟨kq,tC,rfl,HA,YG,tk,HB⟩:=hcut;cases kq with
  | zero=>exact absurd HA.out (by simp[bi.j0])
  | succ vv=>
   have H:=HA.out;clear HA;simp only[bi.j0] at H;cases tC
   ·replace H:=hf_ H;have H':=am_ H;clear H;obtain⟨tF,tG,tH,tI⟩:=b6 tk.out;go_wp2;go_loopg [20] vv (fun kq vz w'=>∃(tn:Int),vz = .int .i64 tn∧aa (bi.l0 kq l0 l1_1 (l1_1.length:Int) tn=some r)∧aa (kq≤vv)∧aa (w'.heap[tL]? = some (.cells #[.string a1_0,(.slice A1_1 l1_1.length c1_1)] 44 (0,0)))∧aa (Below w.heap.size w w'))
    case atStart=>exact⟨(0),u4_,H',⟨Nat.le_refl _⟩,⟨pb_ tk⟩,⟨bw_ HB⟩⟩
    case round=>
     clear H';try clear tF tG tH tI
     obtain⟨tn,rfl,HA,HK2,tk,HB⟩:=hrel;cases gk with
     | zero=>exact absurd HA.out (by simp[bi.l0])
     | succ k2=>
      have H:=HA.out;clear HA;simp only[bi.l0] at H;by_cases tQ:tn<(l1_1.length:Int)
      ·rw[if_pos tQ] at H;have tS:=decide_eq_true tQ;clear tQ;obtain⟨uX,H⟩:=gd_ H;obtain⟨uY,H⟩:=gd_ H;obtain⟨⟨tD,tu,tE⟩,tP,H⟩:=bi_ H;dsimp only at H;have HC_:=am_ H;clear H;obtain⟨uW,uL,tA,tB⟩:=dK tK.out tn od_ od_;cases uL;replace tA:=cb_ HB tA;replace tB:=cb_ HB tB;obtain⟨vw,vx⟩:=pt_ tn l1_1.length;have H:=HC_.out;clear HC_;by_cases tM:tu=1
       ·rw[if_pos tM] at H;have tw:=cW tM;have tT:=cX tM;clear tM;have H':=am_ H;clear H;(first | rw[tw] | (simp only[aC,aG];rw[tw]) | skip)
        go_wp2_with (first | ((with_reducible refine gt_ 6 ?_);refine bx_ 6 #[.string (⟨#[]⟩:ByteArray),.string (⟨#[]⟩:ByteArray)] 86 ?_;intro tr hg vD hbox hb;have tq:=am_ (hbox);have tv:=gw_ HB hg;replace HB:=bs_ HB hb;have tl:=nl_ tk hg;have tm:=ng_ tk hg;replace tk:=bb_ tk hb;clear hb hbox hg;have uZ:=tm.out;have vn:=tl.out;obtain⟨tY,tZ,uq,ur⟩:=b6 tq.out)|((with_reducible refine gt_ 27 ?_);refine gB_ 27 Tryz.func110 (bs.calls k2 _ _ l0 ((an l1_1 tn).f0) tD tu tE _ (kc_ ZD HB) tJ.out tP.out) ?_;intro vE hb;replace tk:=bb_ tk hb;replace HB:=bs_ HB hb;(try clear hb)))
        go_roundg k2
        case measure=>have:=YG.out;have:=HK2.out;omega
        case rel=>exact⟨(wrap64 (tn+1)),u4_,H',⟨by have:=YG.out;have:=HK2.out;omega⟩,⟨pb_ tk⟩,⟨bw_ HB⟩⟩
       ·rw[if_neg tM] at H;have tw:=cO tM;have tT:=cQ tM;have HC_:=am_ H;clear H;(first | rw[tw] | (simp only[aC,aG];rw[tw]) | skip)
        have H:=HC_.out;clear HC_;by_cases tN:tu=2
        ·rw[if_pos tN] at H;have tx:=cW tN;have tU:=cX tN;clear tN;obtain⟨⟨tX,uR⟩,uT,H⟩:=bi_ H;dsimp only at H;have HC_:=am_ H;clear H;(first | rw[tx] | (simp only[aC,aG];rw[tx]) | skip)
         have H:=HC_.out;clear HC_;cases uR
         ·replace H:=hf_ H;obtain rfl:=si_ H;go_wp2_with (first | ((with_reducible refine gt_ 6 ?_);refine bx_ 6 #[.string (⟨#[]⟩:ByteArray),.string (⟨#[]⟩:ByteArray)] 86 ?_;intro tr hg vJ hbox hb;have tq:=am_ (hbox);have tv:=gw_ HB hg;replace HB:=bs_ HB hb;have tl:=nl_ tk hg;have tm:=ng_ tk hg;clear hb hbox hg;have u9:=tm.out;have vp:=tl.out;obtain⟨ub,uc,uw,ux⟩:=b6 tq.out)|((with_reducible refine gt_ 27 ?_);refine gB_ 27 Tryz.func110 (bs.calls k2 _ _ l0 ((an l1_1 tn).f0) tD tu tE _ (kc_ ZD HB) tJ.out tP.out) ?_;intro vK hb;replace tq:=am_ (bE (g:=tr) (o:=.cells #[.string ((an l1_1 tn).f0),.string ((an l1_1 tn).f1)] 86 (0,0)) (pb_ tq) hb);replace HB:=bs_ HB hb;(try clear hb);obtain⟨ud,ue,uy,uz⟩:=b6 tq.out)|((with_reducible refine gt_ 36 ?_);refine gB_ 36 Tryz.func111 (ch.calls ((an l1_1 tn).f1) tX false _ ?side1 uT.out) ?_;(case side1=>exact fQ);intro vM hb;replace HB:=bs_ HB hb;(try clear hb)))
          go_ret
          exact⟨u1_,bw_ HB⟩
         ·replace H:=ht_ H;have H':=am_ H;clear H;go_wp2_with (first | ((with_reducible refine gt_ 6 ?_);refine bx_ 6 #[.string (⟨#[]⟩:ByteArray),.string (⟨#[]⟩:ByteArray)] 86 ?_;intro tr hg vG hbox hb;have tq:=am_ (hbox);have tv:=gw_ HB hg;replace HB:=bs_ HB hb;have tl:=nl_ tk hg;have tm:=ng_ tk hg;replace tk:=bb_ tk hb;clear hb hbox hg;have u6:=tm.out;have vo:=tl.out;obtain⟨t6,t7,us,ut⟩:=b6 tq.out)|((with_reducible refine gt_ 27 ?_);refine gB_ 27 Tryz.func110 (bs.calls k2 _ _ l0 ((an l1_1 tn).f0) tD tu tE _ (kc_ ZD HB) tJ.out tP.out) ?_;intro vH hb;replace tk:=bb_ tk hb;replace tq:=am_ (bE (g:=tr) (o:=.cells #[.string ((an l1_1 tn).f0),.string ((an l1_1 tn).f1)] 86 (0,0)) (pb_ tq) hb);replace HB:=bs_ HB hb;(try clear hb);obtain⟨t8,ua,uu,uv⟩:=b6 tq.out)|((with_reducible refine gt_ 36 ?_);refine gB_ 36 Tryz.func111 (ch.calls ((an l1_1 tn).f1) tX true _ ?side1 uT.out) ?_;(case side1=>exact fQ);intro vI hb;replace tk:=bb_ tk hb;replace HB:=bs_ HB hb;(try clear hb)))
          go_roundg k2
          case measure=>have:=YG.out;have:=HK2.out;omega
          case rel=>exact⟨(wrap64 (tn+1)),u4_,H',⟨by have:=YG.out;have:=HK2.out;omega⟩,⟨pb_ tk⟩,⟨bw_ HB⟩⟩
        ·rw[if_neg tN] at H;have tx:=cO tN;have tU:=cQ tN;have HC_:=am_ H;clear H;(first | rw[tx] | (simp only[aC,aG];rw[tx]) | skip)
         have H:=HC_.out;clear HC_;by_cases tO:tu=3
         ·rw[if_pos tO] at H;have tz:=cW tO;have tV:=cX tO;clear tO;obtain⟨uS,uU,H⟩:=bi_ H;have HC_:=am_ H;clear H;(first | rw[tz] | (simp only[aC,aG];rw[tz]) | skip)
          have H:=HC_.out;clear HC_;cases uS
          ·replace H:=hf_ H;obtain rfl:=si_ H;go_wp2_with (first | ((with_reducible refine gt_ 6 ?_);refine bx_ 6 #[.string (⟨#[]⟩:ByteArray),.string (⟨#[]⟩:ByteArray)] 86 ?_;intro tr hg vQ hbox hb;have tq:=am_ (hbox);have tv:=gw_ HB hg;replace HB:=bs_ HB hb;have tl:=nl_ tk hg;have tm:=ng_ tk hg;clear hb hbox hg;have vl:=tm.out;have vr:=tl.out;obtain⟨uj,uk,uE,uF⟩:=b6 tq.out)|((with_reducible refine gt_ 27 ?_);refine gB_ 27 Tryz.func110 (bs.calls k2 _ _ l0 ((an l1_1 tn).f0) tD tu tE _ (kc_ ZD HB) tJ.out tP.out) ?_;intro vS hb;replace tq:=am_ (bE (g:=tr) (o:=.cells #[.string ((an l1_1 tn).f0),.string ((an l1_1 tn).f1)] 86 (0,0)) (pb_ tq) hb);replace HB:=bs_ HB hb;(try clear hb);obtain⟨ul,um,uG,uH⟩:=b6 tq.out)|((with_reducible refine gt_ 45 ?_);refine gB_ 45 Tryz.func112 (co.calls k2 ((an l1_1 tn).f1) false _ ?side1 uU.out) ?_;(case side1=>exact fQ);intro vT hb;replace HB:=bs_ HB hb;(try clear hb)))
           go_ret
           exact⟨u1_,bw_ HB⟩
          ·replace H:=ht_ H;have H':=am_ H;clear H;go_wp2_with (first | ((with_reducible refine gt_ 6 ?_);refine bx_ 6 #[.string (⟨#[]⟩:ByteArray),.string (⟨#[]⟩:ByteArray)] 86 ?_;intro tr hg vN hbox hb;have tq:=am_ (hbox);have tv:=gw_ HB hg;replace HB:=bs_ HB hb;have tl:=nl_ tk hg;have tm:=ng_ tk hg;replace tk:=bb_ tk hb;clear hb hbox hg;have vk:=tm.out;have vq:=tl.out;obtain⟨uf,ug,uA,uB⟩:=b6 tq.out)|((with_reducible refine gt_ 27 ?_);refine gB_ 27 Tryz.func110 (bs.calls k2 _ _ l0 ((an l1_1 tn).f0) tD tu tE _ (kc_ ZD HB) tJ.out tP.out) ?_;intro vO hb;replace tk:=bb_ tk hb;replace tq:=am_ (bE (g:=tr) (o:=.cells #[.string ((an l1_1 tn).f0),.string ((an l1_1 tn).f1)] 86 (0,0)) (pb_ tq) hb);replace HB:=bs_ HB hb;(try clear hb);obtain⟨uh,ui,uC,uD⟩:=b6 tq.out)|((with_reducible refine gt_ 45 ?_);refine gB_ 45 Tryz.func112 (co.calls k2 ((an l1_1 tn).f1) true _ ?side1 uU.out) ?_;(case side1=>exact fQ);intro vP hb;replace tk:=bb_ tk hb;replace HB:=bs_ HB hb;(try clear hb)))
           go_roundg k2
           case measure=>have:=YG.out;have:=HK2.out;omega
           case rel=>exact⟨(wrap64 (tn+1)),u4_,H',⟨by have:=YG.out;have:=HK2.out;omega⟩,⟨pb_ tk⟩,⟨bw_ HB⟩⟩
         ·rw[if_neg tO] at H;have tz:=cO tO;have tV:=cQ tO;obtain rfl:=si_ H;(first | rw[tz] | (simp only[aC,aG];rw[tz]) | skip)
          go_wp2_with (first | ((with_reducible refine gt_ 6 ?_);refine bx_ 6 #[.string (⟨#[]⟩:ByteArray),.string (⟨#[]⟩:ByteArray)] 86 ?_;intro tr hg vU hbox hb;have tq:=am_ (hbox);have tv:=gw_ HB hg;replace HB:=bs_ HB hb;have tl:=nl_ tk hg;have tm:=ng_ tk hg;clear hb hbox hg;have vm:=tm.out;have vu:=tl.out;obtain⟨un,uo,uI,uJ⟩:=b6 tq.out)|((with_reducible refine gt_ 27 ?_);refine gB_ 27 Tryz.func110 (bs.calls k2 _ _ l0 ((an l1_1 tn).f0) tD tu tE _ (kc_ ZD HB) tJ.out tP.out) ?_;intro vV hb;replace HB:=bs_ HB hb;(try clear hb)))
          go_ret
          exact⟨u1_,bw_ HB⟩
      ·rw[if_neg tQ] at H;have tS:=decide_eq_false tQ;clear tQ;obtain rfl:=si_ H;go_wp2;go_ret
       exact⟨u1_,bw_ HB⟩
   ·replace H:=ht_ H;obtain rfl:=si_ H;go_wp2;go_ret
    exact⟨u1_,bw_ HB⟩
def eh (key:ByteArray):Nat→List S46→Int
 | _,[]=>-1
 | i,x :: l=>if(x.f1.f0.toList == key.toList)=true then(i:Int) else eh key (i+1) l
theorem sq {P : Program} {ops : Array Oper} {Q : Exit → Act → World → Prop} {rest : List Oper} {oi : Oper} {a : Act} {w : World} (N : Option Tmp) (hd : oi.dst = N) (hg : oi.guard = none) {f : FuncId} {n : Tmp} {cb : Array Value} (hv : a.eval (.tmp n) = .func (.func f) #[] cb) {fn : Func} {ags : Array Operand} {ts : Array TypeId} (hf : P.funcs[f]? = some fn) (hname : (fn.name == "runtime.NumGoroutine") = false) (hb : fn.body.isSome = true) (args : Array Value)
  (hop:oi.op = .call { callee:=.value (.tmp n),args:=ags,argTypes:=ts }) (hargs:ags.map a.eval ++ cb=args)
  (h:Calls P f args w fun e w'=>∃v,e = .returned v∧wpList P ops Q rest (a.put N v) w'):wpList P ops Q (oi :: rest) a w:=by
 refine wpList_plain hg fun K hK=>?_
 have he:=Go.Proofs.YtnjjdojonflckaaGreatDoorW.PrintLast.enters_ hf hname hb args w;have hrun:(execOp a.eval oi).run P w = .ok (.enter f args) w:=by
  unfold execOp
  simp[hop,hv,resolve,Deferred.ofValue,invoke,hargs,he]
 unfold Oper.wp
 rw[hrun,Oper.upon_enter];refine h.mono fun e w'' hh=>?_
 obtain⟨v,rfl,hk⟩:=hh;subst hd;exact hK _ _ hk
theorem sK (id:Int) (k0:ByteArray) (A:Option Addr) (n c g:Nat) (key:ByteArray) (w:World) (hk:w.cell? ⟨g,0,none⟩=some (.string key)) :
  Calls Tryz.prog 114 #[.agg #[.int .i64 id,.string k0,.slice A n c],.pointer (some ⟨g,0,none⟩)] w fun e w'=>e = .returned (.bool (k0.toList == key.toList))∧Below w.heap.size w w':=by
 have hu0_:=Tryz.underlying46;have HB:=am_ (Below.refl w.heap.size w);go_enter Tryz.func114,Tryz.ntmps114
 go_wp2_with (first | ((with_reducible refine gt_ 2 ?_);refine bx_ 2 #[.int .i64 id,.string k0,.slice A n c] 46 ?_;intro gb hg w2 hbox hb;have BK:=am_ hbox;have hk2:=(hb.cell (World.block_lt_of_cell? _ _ hk)).trans hk;replace HB:=am_ (av HB.out hb);clear hb hbox hg hk;have hcz_0:w2.cell? ⟨gb,0,none⟩=some (.int .i64 id):=(a7 BK.out 0).trans rfl;have hcz_1:w2.cell? ⟨gb,1,none⟩=some (.string k0):=(a7 BK.out 1).trans rfl))
 go_ret
 exact⟨rfl,HB.out⟩
theorem rowIdx (A:Option Addr) (c:Nat) (l:List S46) (g:Nat) (key:ByteArray) (w:World) (hr:Kd.C k46 w A l.length l) (hk:w.cell? ⟨g,0,none⟩=some (.string key)) (hn:l.length≤9223372036854775807) :
  Calls Tryz.prog 113 #[.slice A l.length c,.func (.func 114) #[] #[.pointer (some ⟨g,0,none⟩)]] w fun e w'=>e = .returned (.int .i64 (eh key 0 l))∧Below w.heap.size w w':=by
 have hu0_:=Tryz.underlying46;have HB:=am_ (Below.refl w.heap.size w);have HR:=am_ hr;have HK:=am_ hk;clear hr hk;go_enter Tryz.func113,Tryz.ntmps113
 go_wp2;go_loopw [8] (fun v wr=>∃i:Nat,v = .int .i64 (i:Int)∧i≤l.length∧aa (eh key 0 l=eh key i (l.drop i))∧aa (Below w.heap.size w wr)) (fun v _=>match v with | .int _ i=>l.length - i.toNat | _=>0)
 case atStart=>exact⟨0,rfl,Nat.zero_le _,⟨rfl⟩,HB⟩
 case round=>
  clear HB;obtain⟨i,rfl,hi,HE,HB⟩:=hrel;rcases Nat.lt_or_ge i l.length with hlt | hge
  ·obtain⟨ad,A2,c2,e,tk,tl,tm,_,_⟩:=fB HR.out (i:Int) aw aw;cases e;replace tk:=cb_ HB tk;replace tl:=cb_ HB tl;replace tm:=cb_ HB tm;simp only[Int.toNat_natCast] at tk tl tm;have hkr:=(HB.out.cell (World.block_lt_of_cell? w _ HK.out)).trans HK.out;have hrd:ah l (i:Int)=l[i]:=by
    unfold ah;simp[List.getD_eq_getElem?_getD,List.getElem?_eq_getElem hlt]
   have hst:eh key i (l.drop i)=if((ah l (i:Int)).f1.f0.toList == key.toList)=true then(i:Int) else eh key (i+1) (l.drop (i+1)):=by
    rw[List.drop_eq_getElem_cons hlt,hrd];rfl
   have HS:=am_ hst;clear hst hrd;have p1:((i:Int)<(l.length:Int))=True:=eq_true aw;have p0:(0≤(i:Int))=True:=eq_true aw;have HX:=am_ hkr;clear hkr;generalize hm_:((ah l (i:Int)).f1.f0.toList == key.toList)=mm at HS;have HM:=am_ hm_;clear hm_;cases mm
   ·go_wp2_with (first | ((with_reducible refine fq (_f:=114) rfl ?_);refine sq (some 16) rfl rfl ct Tryz.func114 bT rfl #[.agg #[.int .i64 (ah l (i:Int)).f0,.string (ah l (i:Int)).f1.f0,.slice A2 (ah l (i:Int)).f1.f1.length c2],.pointer (some ⟨g,0,none⟩)] rfl u131_ ?_;(with_reducible refine(sK _ _ _ _ _ g key _ HX.out).mono ?_);rintro e w3 ⟨rfl,hb⟩;refine⟨_,rfl,?_⟩;replace HB:=am_ (av HB.out hb);clear hb;rw[HM.out]))
    go_roundw
    case rel=>exact⟨i+1,fz,aw,⟨HE.out.trans (HS.out.trans (if_neg ap))⟩,HB⟩
    case measure=>simp;omega
   ·go_wp2_with (first | ((with_reducible refine fq (_f:=114) rfl ?_);refine sq (some 16) rfl rfl ct Tryz.func114 bT rfl #[.agg #[.int .i64 (ah l (i:Int)).f0,.string (ah l (i:Int)).f1.f0,.slice A2 (ah l (i:Int)).f1.f1.length c2],.pointer (some ⟨g,0,none⟩)] rfl u131_ ?_;(with_reducible refine(sK _ _ _ _ _ g key _ HX.out).mono ?_);rintro e w3 ⟨rfl,hb⟩;refine⟨_,rfl,?_⟩;replace HB:=am_ (av HB.out hb);clear hb;rw[HM.out]))
    go_ret
    exact⟨by rw[HE.out,HS.out];rfl,HB.out⟩
  ·have hil:i=l.length:=by omega
   subst hil;have p1:(((l.length:Nat):Int)<(l.length:Int))=False:=eq_false aw;go_wp2;go_ret
   refine⟨?_,HB.out⟩;rw[HE.out,List.drop_eq_nil_of_le (Nat.le_refl _)];rfl
def de.f (_a0_0:List (S92)) (a0_1:List (S46)) (_a0_2:List (S76)) (_a0_3:Int) (a1:ByteArray):Option Int:=some (eh a1 0 a0_1)
theorem de.calls (A0_0:Option Addr) (c0_0:Nat) (l0_0:List (S92)) (A0_1:Option Addr) (c0_1:Nat) (l0_1:List (S46)) (A0_2:Option Addr) (c0_2:Nat) (l0_2:List (S76)) (a0_3:Int) (a1:ByteArray) (r:Int) (w:World) (hr0_0:Kd.C k92 w A0_0 l0_0.length l0_0) (hc0_0:l0_0.length≤c0_0) (hr0_1:Kd.C k46 w A0_1 l0_1.length l0_1) (hc0_1:l0_1.length≤c0_1) (hr0_2:Kd.C k76 w A0_2 l0_2.length l0_2) (hc0_2:l0_2.length≤c0_2) (h:de.f l0_0 l0_1 l0_2 a0_3 a1=some r) :
  Calls Tryz.prog 66 #[.agg #[.slice A0_0 l0_0.length c0_0,.slice A0_1 l0_1.length c0_1,.slice A0_2 l0_2.length c0_2,.int .i64 a0_3],.string a1] w fun e w'=>e = .returned (.int .i64 r)∧Below w.heap.size w w':=by
 obtain rfl:=Option.some.inj h;have hu0_:=Tryz.underlying27;have hu1_:=Tryz.underlying9;have hlen:=hr0_1.2.1;have HB:=am_ (Below.refl w.heap.size w);have HR:=am_ hr0_1;clear hr0_0 hc0_0 hr0_1 hc0_1 hr0_2 hc0_2 h;go_enter Tryz.func66,Tryz.ntmps66
 go_wp2_with (first | ((with_reducible refine gt_ 2 ?_);refine bx_ 2 #[.slice A0_0 l0_0.length c0_0,.slice A0_1 l0_1.length c0_1,.slice A0_2 l0_2.length c0_2,.int .i64 a0_3] 27 ?_;intro gb hg w2 hbox hb;have BK:=am_ hbox;replace HB:=am_ (av HB.out hb);clear hb hbox hg)|((with_reducible refine gt_ 3 ?_);refine bx_ 3 #[.string a1] 9 ?_;intro gk hg w3 hbox hb;replace BK:=am_ (bE (g:=gb) (o:=.cells #[.slice A0_0 l0_0.length c0_0,.slice A0_1 l0_1.length c0_1,.slice A0_2 l0_2.length c0_2,.int .i64 a0_3] 27 (0,0)) BK.out hb);have BQ:=am_ hbox;replace HB:=am_ (av HB.out hb);clear hb hbox hg;have hcz_1:w3.cell? ⟨gb,1,none⟩=some (.slice A0_1 l0_1.length c0_1):=(a7 BK.out 1).trans rfl;have HKK:=am_ (show w3.cell? ⟨gk,0,none⟩=some (.string a1) from (a7 BQ.out 0).trans rfl))|((with_reducible refine eq (f:=113) rfl ?_);refine gX (some 8) rfl rfl Tryz.func113 bT rfl #[.slice A0_1 l0_1.length c0_1,.func (.func 114) #[] #[.pointer (some ⟨gk,0,none⟩)]] rfl (by first | rfl | (simp only[List.map_toArray,List.map_cons,List.map_nil];rfl)) ?_;(with_reducible refine(rowIdx A0_1 c0_1 l0_1 gk a1 _ (Kd.C_below HR.out HB.out) HKK.out hlen).mono ?_);rintro e w4 ⟨rfl,hb⟩;refine⟨_,rfl,?_⟩;replace HB:=am_ (av HB.out hb);clear hb))
 go_ret
 exact⟨rfl,HB.out⟩
def aZ.l0:Nat→List Int→List Int→Int→Int→Option (Bool)
 | 0,_,_,_,_=>none
 | k+1,x0,x1,tl,tk=>if tk<tl then(if 0≤tk then(if tk<(x0.length:Int) then(if tk<(x1.length:Int) then(if(rd x0 tk)=(rd x1 tk) then(aZ.l0 k x0 x1 tl (wrap64 (tk+1))) else(some false)) else(none)) else(none)) else(none)) else(some true)
def aZ.f (k:Nat) (l0:List Int) (l1:List Int):Option (Bool):=if(l0.length:Int)=(l1.length:Int) then(aZ.l0 k l0 l1 (l0.length:Int) 0) else(some false)
theorem aZ.calls (k:Nat) (A0:Option Addr) (c0:Nat) (l0:List Int) (A1:Option Addr) (c1:Nat) (l1:List Int) (r:Bool) (w:World) (hr0:Kd.C (Kd.int .i64) w A0 l0.length l0) (hc0:l0.length≤c0) (hr1:Kd.C (Kd.int .i64) w A1 l1.length l1) (hc1:l1.length≤c1) (h:aZ.f k l0 l1=some r) :
  Calls Tryz.prog 154 #[.slice A0 l0.length c0,.slice A1 l1.length c1] w fun e w'=>e = .returned (.bool r)∧Drawn0 w w':=by
 have ZD:=am_ hr0;have tK:=am_ hc0;clear hr0 hc0;have Zc:=am_ hr1;have tL:=am_ hc1;clear hr1 hc1;have H:=h;clear h;unfold aZ.f at H
 by_cases c3:(l0.length:Int)=(l1.length:Int)
 ·rw[if_pos c3] at H;have tm:=cW c3;have tn:=cX c3;have tq:(l0.length == l1.length)=true:=by first | simpa using c3 | (simp at c3 ⊢;omega)
  clear c3;have H':=am_ H;clear H;go_enter Tryz.func154,Tryz.ntmps154
  go_wp2;repeat (go_quiet (fail);try go_wp2)
  go_loopg [13] k (fun kq tJ w'=>∃(tk:Int),tJ = .int .i64 tk∧aa (aZ.l0 kq l0 l1 (l0.length:Int) tk=some r)∧aa (kq≤k)∧Drawn0 w w')
  case atStart=>exact⟨(0),u4_,H',⟨Nat.le_refl _⟩,u7_⟩
  case round=>
   clear H';try clear c1
   try clear c3
   try clear tm
   try clear tn
   try clear tq
   obtain⟨tk,rfl,HA,HK1,⟨m1,rfl⟩⟩:=hrel;cases gk with
   | zero=>exact absurd HA.out (by simp[aZ.l0])
   | succ k1=>
    have H:=HA.out;clear HA;simp only[aZ.l0] at H;by_cases c4:tk<(l0.length:Int)
    ·rw[if_pos c4] at H;have tv:=decide_eq_true c4;clear c4;obtain⟨tC,H⟩:=gd_ H;obtain⟨tD,H⟩:=gd_ H;obtain⟨tE,H⟩:=gd_ H;have HC_:=am_ H;clear H;obtain⟨tA,tx,tr⟩:=Kd.at_int ZD.out tk od_ od_;cases tx;obtain⟨tF,tH⟩:=pt_ tk l0.length;obtain⟨tB,tz,tu⟩:=Kd.at_int Zc.out tk od_ od_;cases tz;obtain⟨tG,tI⟩:=pt_ tk l1.length;have H:=HC_.out;clear HC_;by_cases c8:(rd l0 tk)=(rd l1 tk)
     ·rw[if_pos c8] at H;have tl:=cW c8;have tw:=cX c8;clear c8;have H':=am_ H;clear H;(first | rw[tl] | (simp only[aC,aG];rw[tl]) | skip)
      go_wp2;repeat (go_quiet (fail);try go_wp2)
      go_roundg k1
      case measure=>have:=HK1.out;omega
      case rel=>exact⟨(wrap64 (tk+1)),u4_,H',⟨dH⟩,u7_⟩
     ·rw[if_neg c8] at H;have tl:=cO c8;have tw:=cQ c8;obtain rfl:=si_ H;(first | rw[tl] | (simp only[aC,aG];rw[tl]) | skip)
      go_wp2;repeat (go_quiet (fail);try go_wp2)
      go_ret
      exact⟨u9_,u7_⟩
    ·rw[if_neg c4] at H;have tv:=decide_eq_false c4;clear c4;obtain rfl:=si_ H;go_wp2;repeat (go_quiet (fail);try go_wp2)
     go_ret
     exact⟨u9_,u7_⟩
 ·rw[if_neg c3] at H;have tm:=cO c3;have tn:=cQ c3;have tq:(l0.length == l1.length)=false:=by first | simpa using c3 | (simp at c3 ⊢;omega)
  obtain rfl:=si_ H;go_enter Tryz.func154,Tryz.ntmps154
  go_wp2;repeat (go_quiet (fail);try go_wp2)
  go_ret
  exact⟨u9_,u7_⟩
def dA.f (k:Nat) (a0_0:Int) (l0_1:List Int) (a1_0:Int) (l1_1:List Int):Option (Bool):=if a0_0=a1_0 then((aZ.f k l0_1 l1_1).bind fun tk=>(some tk)) else(some false)
theorem dA.calls (k:Nat) (a0_0:Int) (A0_1:Option Addr) (c0_1:Nat) (l0_1:List Int) (a1_0:Int) (A1_1:Option Addr) (c1_1:Nat) (l1_1:List Int) (r:Bool) (w:World) (hr0_1:Kd.C (Kd.int .i64) w A0_1 l0_1.length l0_1) (hc0_1:l0_1.length≤c0_1) (hr1_1:Kd.C (Kd.int .i64) w A1_1 l1_1.length l1_1) (hc1_1:l1_1.length≤c1_1) (h:dA.f k a0_0 l0_1 a1_0 l1_1=some r) :
  Calls Tryz.prog 120 #[.agg #[.int .i64 a0_0,.slice A0_1 l0_1.length c0_1],.agg #[.int .i64 a1_0,.slice A1_1 l1_1.length c1_1]] w fun e w'=>e = .returned (.bool r)∧Below w.heap.size w w':=by
 have hu50:=Tryz.underlying50;have tw:=am_ hr0_1;have tu:=am_ hc0_1;clear hr0_1 hc0_1;have tx:=am_ hr1_1;have tv:=am_ hc1_1;clear hr1_1 hc1_1;have HB:=am_ (Below.refl w.heap.size w);have H:=h;clear h;unfold dA.f at H
 by_cases c3:a0_0=a1_0
 ·rw[if_pos c3] at H;have tJ:=cW c3;have tK:=cX c3;clear c3;obtain⟨tT,A4,H⟩:=bi_ H;obtain rfl:=si_ H;go_enter Tryz.func120,Tryz.ntmps120
  go_wp2_with (first | ((with_reducible refine gt_ 2 ?_);refine bx_ 2 #[.int .i64 a0_0,.slice A0_1 l0_1.length c0_1] 50 ?_;intro tz hg w5 hbox hb;have tk:=am_ (hbox);have tq:=gw_ HB hg;replace HB:=bs_ HB hb;clear hb hbox hg)|((with_reducible refine gt_ 3 ?_);refine bx_ 3 #[.int .i64 a1_0,.slice A1_1 l1_1.length c1_1] 50 ?_;intro tA hg w6 hbox hb;have tn:=am_ (hbox);have tr:=gw_ HB hg;replace HB:=bs_ HB hb;have tl:=nl_ tk hg;have tm:=ng_ tk hg;replace tk:=bb_ tk hb;clear hb hbox hg;have tW:=tl.out;have tX:=tm.out;obtain⟨tL,tM,tP,tQ⟩:=b6 tk.out;obtain⟨tN,tO,tR,tS⟩:=b6 tn.out)|(go_at_call 154;(with_reducible refine(aZ.calls k _ _ l0_1 _ _ l1_1 tT _ (kc_ tw HB) tu.out (kc_ tx HB) tv.out A4.out).mono ?_);rintro e w' ⟨rfl,⟨nd,rfl⟩⟩))
  go_ret
  exact⟨u1_,bw_ HB⟩
 ·rw[if_neg c3] at H;have tJ:=cO c3;have tK:=cQ c3;obtain rfl:=si_ H;go_enter Tryz.func120,Tryz.ntmps120
  go_wp2_with (first | ((with_reducible refine gt_ 2 ?_);refine bx_ 2 #[.int .i64 a0_0,.slice A0_1 l0_1.length c0_1] 50 ?_;intro tz hg tY hbox hb;have tk:=am_ (hbox);have tq:=gw_ HB hg;replace HB:=bs_ HB hb;clear hb hbox hg)|((with_reducible refine gt_ 3 ?_);refine bx_ 3 #[.int .i64 a1_0,.slice A1_1 l1_1.length c1_1] 50 ?_;intro tA hg tZ hbox hb;have tn:=am_ (hbox);have tr:=gw_ HB hg;replace HB:=bs_ HB hb;have tl:=nl_ tk hg;have tm:=ng_ tk hg;replace tk:=bb_ tk hb;clear hb hbox hg;have tU:=tl.out;have tV:=tm.out;obtain⟨tB,tC,tF,tG⟩:=b6 tk.out;obtain⟨tD,tE,tH,tI⟩:=b6 tn.out))
  go_ret
  exact⟨u1_,bw_ HB⟩
def di.l0:Nat→List (S50)→List (S50)→Int→Int→Option (Bool)
 | 0,_,_,_,_=>none
 | k+1,x1,tl,tn,tk=>if tk<tn then(if 0≤tk then(if tk<(tl.length:Int) then(if tk<(x1.length:Int) then((dA.f k ((aT tl tk).f0) ((aT tl tk).f1) ((aT x1 tk).f0) ((aT x1 tk).f1)).bind fun tm=>(if tm=true then(di.l0 k x1 tl tn (wrap64 (tk+1))) else(some false))) else(none)) else(none)) else(none)) else(some true)
def di.f (k:Nat) (l0:List (S50)) (l1:List (S50)):Option (Bool):=if(l0.length:Int)=(l1.length:Int) then(di.l0 k l1 l0 (l0.length:Int) 0) else(some false)
theorem di.calls (k:Nat) (A0:Option Addr) (c0:Nat) (l0:List (S50)) (A1:Option Addr) (c1:Nat) (l1:List (S50)) (r:Bool) (w:World) (hr0:Kd.C k50 w A0 l0.length l0) (hc0:l0.length≤c0) (hr1:Kd.C k50 w A1 l1.length l1) (hc1:l1.length≤c1) (h:di.f k l0 l1=some r) :
  Calls Tryz.prog 119 #[.slice A0 l0.length c0,.slice A1 l1.length c1,.func (.func 120) #[] #[]] w fun e w'=>e = .returned (.bool r)∧Below w.heap.size w w':=by
 have hu50:=Tryz.underlying50;have ZD:=am_ hr0;have uF:=am_ hc0;clear hr0 hc0;have Zc:=am_ hr1;have uG:=am_ hc1;clear hr1 hc1;have HB:=am_ (Below.refl w.heap.size w);have H:=h;clear h;unfold di.f at H
 by_cases c3:(l0.length:Int)=(l1.length:Int)
 ·rw[if_pos c3] at H;have tS:=cW c3;have tT:=cX c3;have tU:(l0.length == l1.length)=true:=by first | simpa using c3 | (simp at c3 ⊢;omega)
  clear c3;have H':=am_ H;clear H;go_enter Tryz.func119,Tryz.ntmps119
  go_wp2;go_loopg [17] k (fun kq uE w'=>∃(tk:Int),uE = .int .i64 tk∧aa (di.l0 kq l1 l0 (l0.length:Int) tk=some r)∧aa (kq≤k)∧aa (Below w.heap.size w w'))
  case atStart=>exact⟨(0),u4_,H',⟨Nat.le_refl _⟩,⟨bw_ HB⟩⟩
  case round=>
   clear H';try clear c1
   try clear c3
   try clear tS
   try clear tT
   try clear tU
   obtain⟨tk,rfl,HA,HK1,HB⟩:=hrel;cases gk with
   | zero=>exact absurd HA.out (by simp[di.l0])
   | succ k1=>
    have H:=HA.out;clear HA;simp only[di.l0] at H;by_cases c4:tk<(l0.length:Int)
    ·rw[if_pos c4] at H;have ur:=decide_eq_true c4;clear c4;obtain⟨uz,H⟩:=gd_ H;obtain⟨uA,H⟩:=gd_ H;obtain⟨uB,H⟩:=gd_ H;obtain⟨ut,A8,H⟩:=bi_ H;have HC_:=am_ H;clear H;obtain⟨uu,tn,tq,us,tM,tN,tL,tK⟩:=kj ZD.out tk od_ od_;cases us;replace tM:=cb_ HB tM;replace tN:=cb_ HB tN;have tJ:=am_ tK;have tI:=am_ tL;clear tK tL;obtain⟨uC,uD⟩:=pt_ tk l0.length;have H:=HC_.out;clear HC_;cases ut
     ·replace H:=hf_ H;obtain rfl:=si_ H;go_wp2_with (first | ((with_reducible refine gt_ 8 ?_);refine bx_ 8 #[.int .i64 0,.slice none 0 0] 50 ?_;intro tl hg uK hbox hb;have tr:=am_ (hbox);have tz:=gw_ HB hg;have tQ:=tz;replace HB:=bs_ HB hb;clear hb hbox hg;obtain⟨t7,t8,uk,ul⟩:=b6 tr.out;obtain⟨tG,tH⟩:=pq_ tk l1.length;obtain⟨tC,tE,tF,tP,ZO,tm,tv,tu⟩:=kj Zc.out tk tG tH;cases tP;have hn514_0:tC.block≠tl:=Nat.ne_of_lt (Nat.lt_of_lt_of_le u90_ tz.out);have hn514_1:tC.block≠tl:=Nat.ne_of_lt (Nat.lt_of_lt_of_le u90_ tz.out);replace ZO:=cb_ HB ZO;replace tm:=cb_ HB tm;have tB:=am_ tu;have tA:=am_ tv;clear tu tv;replace ZO:=(aW (p:=⟨tl,0,none⟩) u82_ (.int .i64 ((aT l0 tk).f0))).trans ZO;replace tm:=(aW (p:=⟨tl,0,none⟩) u82_ (.int .i64 ((aT l0 tk).f0))).trans tm;replace ZO:=(aW (p:=⟨tl,1,none⟩) u83_ (.slice tn ((aT l0 tk).f1).length tq)).trans ZO;replace tm:=(aW (p:=⟨tl,1,none⟩) u83_ (.slice tn ((aT l0 tk).f1).length tq)).trans tm;clear hn514_0 hn514_1;obtain⟨tG,tH⟩:=tt_ tG tH)|((with_reducible refine gt_ 9 ?_);refine bx_ 9 #[.int .i64 0,.slice none 0 0] 50 ?_;intro tD hg uL hbox hb;have tO:=am_ (hbox);have tR:=gw_ HB hg;replace HB:=bs_ HB hb;have tw:=Nb.mk ((by rw[hg];exact Nat.ne_of_lt (dE (g:=tl) (o:=.cells #[.int .i64 ((aT l0 tk).f0),.slice tn ((aT l0 tk).f1).length tq] 50 (0,0)) (pb_ tr)):tl≠tD));have tx:=Nb.mk ((by rw[hg];exact Nat.ne_of_gt (dE (g:=tl) (o:=.cells #[.int .i64 ((aT l0 tk).f0),.slice tn ((aT l0 tk).f1).length tq] 50 (0,0)) (pb_ tr)):tD≠tl));replace tr:=am_ (bE (g:=tl) (o:=.cells #[.int .i64 ((aT l0 tk).f0),.slice tn ((aT l0 tk).f1).length tq] 50 (0,0)) (pb_ tr) hb);clear hb hbox hg;have uw:=tx.out;have uy:=tw.out;obtain⟨ua,ub,um,un⟩:=b6 tO.out;obtain⟨uc,ud,uo,uq⟩:=b6 tr.out)|((with_reducible refine fq (_f:=120) rfl ?_);refine oK (some 29) rfl rfl ct Tryz.func120 bT rfl #[.agg #[.int .i64 ((aT l0 tk).f0),.slice tn ((aT l0 tk).f1).length tq],.agg #[.int .i64 ((aT l1 tk).f0),.slice tE ((aT l1 tk).f1).length tF]] rfl u73_ ?_;(with_reducible refine(dA.calls k1 ((aT l0 tk).f0) _ _ ((aT l0 tk).f1) ((aT l1 tk).f0) _ _ ((aT l1 tk).f1) false _ (kc_ tJ HB) tI.out (kc_ tB HB) tA.out A8.out).mono ?_);rintro e uM ⟨rfl,hb⟩;refine⟨_,rfl,?_⟩;replace HB:=bs_ HB hb;(try clear hb)))
      go_ret
      exact⟨u1_,bw_ HB⟩
     ·replace H:=ht_ H;have H':=am_ H;clear H;go_wp2_with (first | ((with_reducible refine gt_ 8 ?_);refine bx_ 8 #[.int .i64 0,.slice none 0 0] 50 ?_;intro tl hg uH hbox hb;have tr:=am_ (hbox);have tz:=gw_ HB hg;have tQ:=tz;replace HB:=bs_ HB hb;clear hb hbox hg;obtain⟨tV,tW,ue,uf⟩:=b6 tr.out;obtain⟨tG,tH⟩:=pq_ tk l1.length;obtain⟨tC,tE,tF,tP,ZO,tm,tv,tu⟩:=kj Zc.out tk tG tH;cases tP;have hn514_0:tC.block≠tl:=Nat.ne_of_lt (Nat.lt_of_lt_of_le u90_ tz.out);have hn514_1:tC.block≠tl:=Nat.ne_of_lt (Nat.lt_of_lt_of_le u90_ tz.out);replace ZO:=cb_ HB ZO;replace tm:=cb_ HB tm;have tB:=am_ tu;have tA:=am_ tv;clear tu tv;replace ZO:=(aW (p:=⟨tl,0,none⟩) u82_ (.int .i64 ((aT l0 tk).f0))).trans ZO;replace tm:=(aW (p:=⟨tl,0,none⟩) u82_ (.int .i64 ((aT l0 tk).f0))).trans tm;replace ZO:=(aW (p:=⟨tl,1,none⟩) u83_ (.slice tn ((aT l0 tk).f1).length tq)).trans ZO;replace tm:=(aW (p:=⟨tl,1,none⟩) u83_ (.slice tn ((aT l0 tk).f1).length tq)).trans tm;clear hn514_0 hn514_1;obtain⟨tG,tH⟩:=tt_ tG tH)|((with_reducible refine gt_ 9 ?_);refine bx_ 9 #[.int .i64 0,.slice none 0 0] 50 ?_;intro tD hg uI hbox hb;have tO:=am_ (hbox);have tR:=gw_ HB hg;replace HB:=bs_ HB hb;have tw:=Nb.mk ((by rw[hg];exact Nat.ne_of_lt (dE (g:=tl) (o:=.cells #[.int .i64 ((aT l0 tk).f0),.slice tn ((aT l0 tk).f1).length tq] 50 (0,0)) (pb_ tr)):tl≠tD));have tx:=Nb.mk ((by rw[hg];exact Nat.ne_of_gt (dE (g:=tl) (o:=.cells #[.int .i64 ((aT l0 tk).f0),.slice tn ((aT l0 tk).f1).length tq] 50 (0,0)) (pb_ tr)):tD≠tl));replace tr:=am_ (bE (g:=tl) (o:=.cells #[.int .i64 ((aT l0 tk).f0),.slice tn ((aT l0 tk).f1).length tq] 50 (0,0)) (pb_ tr) hb);clear hb hbox hg;have uv:=tx.out;have ux:=tw.out;obtain⟨tX,tY,ug,uh⟩:=b6 tO.out;obtain⟨tZ,t6,ui,uj⟩:=b6 tr.out)|((with_reducible refine fq (_f:=120) rfl ?_);refine oK (some 29) rfl rfl ct Tryz.func120 bT rfl #[.agg #[.int .i64 ((aT l0 tk).f0),.slice tn ((aT l0 tk).f1).length tq],.agg #[.int .i64 ((aT l1 tk).f0),.slice tE ((aT l1 tk).f1).length tF]] rfl u73_ ?_;(with_reducible refine(dA.calls k1 ((aT l0 tk).f0) _ _ ((aT l0 tk).f1) ((aT l1 tk).f0) _ _ ((aT l1 tk).f1) true _ (kc_ tJ HB) tI.out (kc_ tB HB) tA.out A8.out).mono ?_);rintro e uJ ⟨rfl,hb⟩;refine⟨_,rfl,?_⟩;replace HB:=bs_ HB hb;(try clear hb)))
      go_roundg k1
      case measure=>have:=HK1.out;omega
      case rel=>exact⟨(wrap64 (tk+1)),u4_,H',⟨dH⟩,⟨bw_ HB⟩⟩
    ·rw[if_neg c4] at H;have ur:=decide_eq_false c4;clear c4;obtain rfl:=si_ H;go_wp2;go_ret
     exact⟨u1_,bw_ HB⟩
 ·rw[if_neg c3] at H;have tS:=cO c3;have tT:=cQ c3;have tU:(l0.length == l1.length)=false:=by first | simpa using c3 | (simp at c3 ⊢;omega)
  obtain rfl:=si_ H;go_enter Tryz.func119,Tryz.ntmps119
  go_wp2;go_ret
  exact⟨u1_,bw_ HB⟩
def dr.f (k:Nat) (a0_0:ByteArray) (a0_1:ByteArray) (l0_2:List (S50)) (a1_0:ByteArray) (a1_1:ByteArray) (l1_2:List (S50)):Option (Bool):=if a0_0.toList=a1_0.toList then(if a0_1.toList=a1_1.toList then((di.f k l0_2 l1_2).bind fun tk=>(some tk)) else(some false)) else(some false)
theorem dr.calls (k:Nat) (a0_0:ByteArray) (a0_1:ByteArray) (A0_2:Option Addr) (c0_2:Nat) (l0_2:List (S50)) (a1_0:ByteArray) (a1_1:ByteArray) (A1_2:Option Addr) (c1_2:Nat) (l1_2:List (S50)) (r:Bool) (w:World) (hr0_2:Kd.C k50 w A0_2 l0_2.length l0_2) (hc0_2:l0_2.length≤c0_2) (hr1_2:Kd.C k50 w A1_2 l1_2.length l1_2) (hc1_2:l1_2.length≤c1_2) (h:dr.f k a0_0 a0_1 l0_2 a1_0 a1_1 l1_2=some r) :
  Calls Tryz.prog 69 #[.agg #[.string a0_0,.string a0_1,.slice A0_2 l0_2.length c0_2],.agg #[.string a1_0,.string a1_1,.slice A1_2 l1_2.length c1_2]] w fun e w'=>e = .returned (.bool r)∧Below w.heap.size w w':=by
 have hu76:=Tryz.underlying76;have tz:=am_ hr0_2;have tw:=am_ hc0_2;clear hr0_2 hc0_2;have tA:=am_ hr1_2;have tx:=am_ hc1_2;clear hr1_2 hc1_2;have HB:=am_ (Below.refl w.heap.size w);have H:=h;clear h;unfold dr.f at H
 by_cases c3:a0_0.toList=a1_0.toList
 ·rw[if_pos c3] at H;have uc:=cW c3;have ud:=cX c3;clear c3;by_cases c4:a0_1.toList=a1_1.toList
  ·rw[if_pos c4] at H;have ue:=cW c4;have uf:=cX c4;clear c4;obtain⟨um,A5,H⟩:=bi_ H;obtain rfl:=si_ H;go_enter Tryz.func69,Tryz.ntmps69
   go_wp2_with (first | ((with_reducible refine gt_ 2 ?_);refine bx_ 2 #[.string a0_0,.string a0_1,.slice A0_2 l0_2.length c0_2] 76 ?_;intro tu hg w6 hbox hb;have tk:=am_ (hbox);have tq:=gw_ HB hg;replace HB:=bs_ HB hb;clear hb hbox hg)|((with_reducible refine gt_ 3 ?_);refine bx_ 3 #[.string a1_0,.string a1_1,.slice A1_2 l1_2.length c1_2] 76 ?_;intro tv hg w7 hbox hb;have tn:=am_ (hbox);have tr:=gw_ HB hg;replace HB:=bs_ HB hb;have tl:=nl_ tk hg;have tm:=ng_ tk hg;replace tk:=bb_ tk hb;clear hb hbox hg;have us:=tl.out;have ut:=tm.out;obtain⟨ug,uh,ui,uj,uk,ul⟩:=dm tk.out;obtain⟨tB,tC,tD,tQ,tR,tS⟩:=dm tn.out)|(go_at_call 119;(with_reducible refine(di.calls k _ _ l0_2 _ _ l1_2 um _ (kc_ tz HB) tw.out (kc_ tA HB) tx.out A5.out).mono ?_);rintro e uu ⟨rfl,hb⟩;replace HB:=bs_ HB hb;(try clear hb)))
   go_ret
   exact⟨u1_,bw_ HB⟩
  ·rw[if_neg c4] at H;have ue:=cO c4;have uf:=cQ c4;obtain rfl:=si_ H;go_enter Tryz.func69,Tryz.ntmps69
   go_wp2_with (first | ((with_reducible refine gt_ 2 ?_);refine bx_ 2 #[.string a0_0,.string a0_1,.slice A0_2 l0_2.length c0_2] 76 ?_;intro tu hg uv hbox hb;have tk:=am_ (hbox);have tq:=gw_ HB hg;replace HB:=bs_ HB hb;clear hb hbox hg)|((with_reducible refine gt_ 3 ?_);refine bx_ 3 #[.string a1_0,.string a1_1,.slice A1_2 l1_2.length c1_2] 76 ?_;intro tv hg uw hbox hb;have tn:=am_ (hbox);have tr:=gw_ HB hg;replace HB:=bs_ HB hb;have tl:=nl_ tk hg;have tm:=ng_ tk hg;replace tk:=bb_ tk hb;clear hb hbox hg;have un:=tl.out;have uq:=tm.out;obtain⟨tE,tF,tG,tT,tU,tV⟩:=dm tk.out;obtain⟨tH,tI,tJ,tW,tX,tY⟩:=dm tn.out))
   go_ret
   exact⟨u1_,bw_ HB⟩
 ·rw[if_neg c3] at H;have uc:=cO c3;have ud:=cQ c3;obtain rfl:=si_ H;go_enter Tryz.func69,Tryz.ntmps69
  go_wp2_with (first | ((with_reducible refine gt_ 2 ?_);refine bx_ 2 #[.string a0_0,.string a0_1,.slice A0_2 l0_2.length c0_2] 76 ?_;intro tu hg ux hbox hb;have tk:=am_ (hbox);have tq:=gw_ HB hg;replace HB:=bs_ HB hb;clear hb hbox hg)|((with_reducible refine gt_ 3 ?_);refine bx_ 3 #[.string a1_0,.string a1_1,.slice A1_2 l1_2.length c1_2] 76 ?_;intro tv hg uy hbox hb;have tn:=am_ (hbox);have tr:=gw_ HB hg;replace HB:=bs_ HB hb;have tl:=nl_ tk hg;have tm:=ng_ tk hg;replace tk:=bb_ tk hb;clear hb hbox hg;have uo:=tl.out;have ur:=tm.out;obtain⟨tK,tL,tM,tZ,t6,t7⟩:=dm tk.out;obtain⟨tN,tO,tP,t8,ua,ub⟩:=dm tn.out))
  go_ret
  exact⟨u1_,bw_ HB⟩
def cT.l0:Nat→List (S76)→List (S76)→Int→Int→Option (Bool)
 | 0,_,_,_,_=>none
 | k+1,x1,tl,tn,tk=>if tk<tn then(if 0≤tk then(if tk<(tl.length:Int) then(if tk<(x1.length:Int) then((dr.f k ((aj tl tk).f0) ((aj tl tk).f1) ((aj tl tk).f2) ((aj x1 tk).f0) ((aj x1 tk).f1) ((aj x1 tk).f2)).bind fun tm=>(if tm=true then(cT.l0 k x1 tl tn (wrap64 (tk+1))) else(some false))) else(none)) else(none)) else(none)) else(some true)
def cT.f (k:Nat) (l0:List (S76)) (l1:List (S76)):Option (Bool):=if(l0.length:Int)=(l1.length:Int) then(cT.l0 k l1 l0 (l0.length:Int) 0) else(some false)
theorem cT.calls (k:Nat) (A0:Option Addr) (c0:Nat) (l0:List (S76)) (A1:Option Addr) (c1:Nat) (l1:List (S76)) (r:Bool) (w:World) (hr0:Kd.C k76 w A0 l0.length l0) (hc0:l0.length≤c0) (hr1:Kd.C k76 w A1 l1.length l1) (hc1:l1.length≤c1) (h:cT.f k l0 l1=some r) :
  Calls Tryz.prog 67 #[.slice A0 l0.length c0,.slice A1 l1.length c1,.func (.func 69) #[] #[]] w fun e w'=>e = .returned (.bool r)∧Below w.heap.size w w':=by
 have hu76:=Tryz.underlying76;have ZD:=am_ hr0;have uT:=am_ hc0;clear hr0 hc0;have Zc:=am_ hr1;have uU:=am_ hc1;clear hr1 hc1;have HB:=am_ (Below.refl w.heap.size w);have H:=h;clear h;unfold cT.f at H
 by_cases c3:(l0.length:Int)=(l1.length:Int)
 ·rw[if_pos c3] at H;have tU:=cW c3;have tV:=cX c3;have tW:(l0.length == l1.length)=true:=by first | simpa using c3 | (simp at c3 ⊢;omega)
  clear c3;have H':=am_ H;clear H;go_enter Tryz.func67,Tryz.ntmps67
  go_wp2;go_loopg [17] k (fun kq uS w'=>∃(tk:Int),uS = .int .i64 tk∧aa (cT.l0 kq l1 l0 (l0.length:Int) tk=some r)∧aa (kq≤k)∧aa (Below w.heap.size w w'))
  case atStart=>exact⟨(0),u4_,H',⟨Nat.le_refl _⟩,⟨bw_ HB⟩⟩
  case round=>
   clear H';try clear c1
   try clear c3
   try clear tU
   try clear tV
   try clear tW
   obtain⟨tk,rfl,HA,HK1,HB⟩:=hrel;cases gk with
   | zero=>exact absurd HA.out (by simp[cT.l0])
   | succ k1=>
    have H:=HA.out;clear HA;simp only[cT.l0] at H;by_cases c4:tk<(l0.length:Int)
    ·rw[if_pos c4] at H;have uF:=decide_eq_true c4;clear c4;obtain⟨uN,H⟩:=gd_ H;obtain⟨uO,H⟩:=gd_ H;obtain⟨uP,H⟩:=gd_ H;obtain⟨uH,A8,H⟩:=bi_ H;have HC_:=am_ H;clear H;obtain⟨uI,tq,tr,uG,tN,tO,tP,tM,tL⟩:=eB ZD.out tk od_ od_;cases uG;replace tN:=cb_ HB tN;replace tO:=cb_ HB tO;replace tP:=cb_ HB tP;have tK:=am_ tL;have tJ:=am_ tM;clear tL tM;obtain⟨uQ,uR⟩:=pt_ tk l0.length;have H:=HC_.out;clear HC_;cases uH
     ·replace H:=hf_ H;obtain rfl:=si_ H;go_wp2_with (first | ((with_reducible refine gt_ 8 ?_);refine bx_ 8 #[.string (⟨#[]⟩:ByteArray),.string (⟨#[]⟩:ByteArray),.slice none 0 0] 76 ?_;intro tl hg uY hbox hb;have tu:=am_ (hbox);have tv:=gw_ HB hg;have tS:=tv;replace HB:=bs_ HB hb;clear hb hbox hg;obtain⟨ud,ue,uf,uw,ux,uy⟩:=dm tu.out;obtain⟨tH,tI⟩:=pq_ tk l1.length;obtain⟨tB,tF,tG,tR,ZT,tm,tn,tx,tw⟩:=eB Zc.out tk tH tI;cases tR;have hn522_0:tB.block≠tl:=Nat.ne_of_lt (Nat.lt_of_lt_of_le u70_ tv.out);have hn522_1:tB.block≠tl:=Nat.ne_of_lt (Nat.lt_of_lt_of_le u70_ tv.out);have hn522_2:tB.block≠tl:=Nat.ne_of_lt (Nat.lt_of_lt_of_le u70_ tv.out);replace ZT:=cb_ HB ZT;replace tm:=cb_ HB tm;replace tn:=cb_ HB tn;have tD:=am_ tw;have tC:=am_ tx;clear tw tx;replace ZT:=(aW (p:=⟨tl,0,none⟩) u54_ (.string ((aj l0 tk).f0))).trans ZT;replace tm:=(aW (p:=⟨tl,0,none⟩) u54_ (.string ((aj l0 tk).f0))).trans tm;replace tn:=(aW (p:=⟨tl,0,none⟩) u54_ (.string ((aj l0 tk).f0))).trans tn;replace ZT:=(aW (p:=⟨tl,1,none⟩) u55_ (.string ((aj l0 tk).f1))).trans ZT;replace tm:=(aW (p:=⟨tl,1,none⟩) u55_ (.string ((aj l0 tk).f1))).trans tm;replace tn:=(aW (p:=⟨tl,1,none⟩) u55_ (.string ((aj l0 tk).f1))).trans tn;replace ZT:=(aW (p:=⟨tl,2,none⟩) u56_ (.slice tq ((aj l0 tk).f2).length tr)).trans ZT;replace tm:=(aW (p:=⟨tl,2,none⟩) u56_ (.slice tq ((aj l0 tk).f2).length tr)).trans tm;replace tn:=(aW (p:=⟨tl,2,none⟩) u56_ (.slice tq ((aj l0 tk).f2).length tr)).trans tn;clear hn522_0 hn522_1 hn522_2;obtain⟨tH,tI⟩:=tt_ tH tI)|((with_reducible refine gt_ 9 ?_);refine bx_ 9 #[.string (⟨#[]⟩:ByteArray),.string (⟨#[]⟩:ByteArray),.slice none 0 0] 76 ?_;intro tE hg uZ hbox hb;have tQ:=am_ (hbox);have tT:=gw_ HB hg;replace HB:=bs_ HB hb;have tz:=Nb.mk ((by rw[hg];exact Nat.ne_of_lt (dE (g:=tl) (o:=.cells #[.string ((aj l0 tk).f0),.string ((aj l0 tk).f1),.slice tq ((aj l0 tk).f2).length tr] 76 (0,0)) (pb_ tu)):tl≠tE));have tA:=Nb.mk ((by rw[hg];exact Nat.ne_of_gt (dE (g:=tl) (o:=.cells #[.string ((aj l0 tk).f0),.string ((aj l0 tk).f1),.slice tq ((aj l0 tk).f2).length tr] 76 (0,0)) (pb_ tu)):tE≠tl));replace tu:=am_ (bE (g:=tl) (o:=.cells #[.string ((aj l0 tk).f0),.string ((aj l0 tk).f1),.slice tq ((aj l0 tk).f2).length tr] 76 (0,0)) (pb_ tu) hb);clear hb hbox hg;have uK:=tA.out;have uM:=tz.out;obtain⟨ug,uh,ui,uz,uA,uB⟩:=dm tQ.out;obtain⟨uj,uk,ul,uC,uD,uE⟩:=dm tu.out)|((with_reducible refine fq (_f:=69) rfl ?_);refine oK (some 29) rfl rfl ct Tryz.func69 bT rfl #[.agg #[.string ((aj l0 tk).f0),.string ((aj l0 tk).f1),.slice tq ((aj l0 tk).f2).length tr],.agg #[.string ((aj l1 tk).f0),.string ((aj l1 tk).f1),.slice tF ((aj l1 tk).f2).length tG]] rfl u73_ ?_;(with_reducible refine(dr.calls k1 ((aj l0 tk).f0) ((aj l0 tk).f1) _ _ ((aj l0 tk).f2) ((aj l1 tk).f0) ((aj l1 tk).f1) _ _ ((aj l1 tk).f2) false _ (kc_ tK HB) tJ.out (kc_ tD HB) tC.out A8.out).mono ?_);rintro e u6 ⟨rfl,hb⟩;refine⟨_,rfl,?_⟩;replace HB:=bs_ HB hb;(try clear hb)))
      go_ret
      exact⟨u1_,bw_ HB⟩
     ·replace H:=ht_ H;have H':=am_ H;clear H;go_wp2_with (first | ((with_reducible refine gt_ 8 ?_);refine bx_ 8 #[.string (⟨#[]⟩:ByteArray),.string (⟨#[]⟩:ByteArray),.slice none 0 0] 76 ?_;intro tl hg uV hbox hb;have tu:=am_ (hbox);have tv:=gw_ HB hg;have tS:=tv;replace HB:=bs_ HB hb;clear hb hbox hg;obtain⟨tX,tY,tZ,um,un,uo⟩:=dm tu.out;obtain⟨tH,tI⟩:=pq_ tk l1.length;obtain⟨tB,tF,tG,tR,ZT,tm,tn,tx,tw⟩:=eB Zc.out tk tH tI;cases tR;have hn522_0:tB.block≠tl:=Nat.ne_of_lt (Nat.lt_of_lt_of_le u70_ tv.out);have hn522_1:tB.block≠tl:=Nat.ne_of_lt (Nat.lt_of_lt_of_le u70_ tv.out);have hn522_2:tB.block≠tl:=Nat.ne_of_lt (Nat.lt_of_lt_of_le u70_ tv.out);replace ZT:=cb_ HB ZT;replace tm:=cb_ HB tm;replace tn:=cb_ HB tn;have tD:=am_ tw;have tC:=am_ tx;clear tw tx;replace ZT:=(aW (p:=⟨tl,0,none⟩) u54_ (.string ((aj l0 tk).f0))).trans ZT;replace tm:=(aW (p:=⟨tl,0,none⟩) u54_ (.string ((aj l0 tk).f0))).trans tm;replace tn:=(aW (p:=⟨tl,0,none⟩) u54_ (.string ((aj l0 tk).f0))).trans tn;replace ZT:=(aW (p:=⟨tl,1,none⟩) u55_ (.string ((aj l0 tk).f1))).trans ZT;replace tm:=(aW (p:=⟨tl,1,none⟩) u55_ (.string ((aj l0 tk).f1))).trans tm;replace tn:=(aW (p:=⟨tl,1,none⟩) u55_ (.string ((aj l0 tk).f1))).trans tn;replace ZT:=(aW (p:=⟨tl,2,none⟩) u56_ (.slice tq ((aj l0 tk).f2).length tr)).trans ZT;replace tm:=(aW (p:=⟨tl,2,none⟩) u56_ (.slice tq ((aj l0 tk).f2).length tr)).trans tm;replace tn:=(aW (p:=⟨tl,2,none⟩) u56_ (.slice tq ((aj l0 tk).f2).length tr)).trans tn;clear hn522_0 hn522_1 hn522_2;obtain⟨tH,tI⟩:=tt_ tH tI)|((with_reducible refine gt_ 9 ?_);refine bx_ 9 #[.string (⟨#[]⟩:ByteArray),.string (⟨#[]⟩:ByteArray),.slice none 0 0] 76 ?_;intro tE hg uW hbox hb;have tQ:=am_ (hbox);have tT:=gw_ HB hg;replace HB:=bs_ HB hb;have tz:=Nb.mk ((by rw[hg];exact Nat.ne_of_lt (dE (g:=tl) (o:=.cells #[.string ((aj l0 tk).f0),.string ((aj l0 tk).f1),.slice tq ((aj l0 tk).f2).length tr] 76 (0,0)) (pb_ tu)):tl≠tE));have tA:=Nb.mk ((by rw[hg];exact Nat.ne_of_gt (dE (g:=tl) (o:=.cells #[.string ((aj l0 tk).f0),.string ((aj l0 tk).f1),.slice tq ((aj l0 tk).f2).length tr] 76 (0,0)) (pb_ tu)):tE≠tl));replace tu:=am_ (bE (g:=tl) (o:=.cells #[.string ((aj l0 tk).f0),.string ((aj l0 tk).f1),.slice tq ((aj l0 tk).f2).length tr] 76 (0,0)) (pb_ tu) hb);clear hb hbox hg;have uJ:=tA.out;have uL:=tz.out;obtain⟨t6,t7,t8,uq,ur,us⟩:=dm tQ.out;obtain⟨ua,ub,uc,ut,uu,uv⟩:=dm tu.out)|((with_reducible refine fq (_f:=69) rfl ?_);refine oK (some 29) rfl rfl ct Tryz.func69 bT rfl #[.agg #[.string ((aj l0 tk).f0),.string ((aj l0 tk).f1),.slice tq ((aj l0 tk).f2).length tr],.agg #[.string ((aj l1 tk).f0),.string ((aj l1 tk).f1),.slice tF ((aj l1 tk).f2).length tG]] rfl u73_ ?_;(with_reducible refine(dr.calls k1 ((aj l0 tk).f0) ((aj l0 tk).f1) _ _ ((aj l0 tk).f2) ((aj l1 tk).f0) ((aj l1 tk).f1) _ _ ((aj l1 tk).f2) true _ (kc_ tK HB) tJ.out (kc_ tD HB) tC.out A8.out).mono ?_);rintro e uX ⟨rfl,hb⟩;refine⟨_,rfl,?_⟩;replace HB:=bs_ HB hb;(try clear hb)))
      go_roundg k1
      case measure=>have:=HK1.out;omega
      case rel=>exact⟨(wrap64 (tk+1)),u4_,H',⟨dH⟩,⟨bw_ HB⟩⟩
    ·rw[if_neg c4] at H;have uF:=decide_eq_false c4;clear c4;obtain rfl:=si_ H;go_wp2;go_ret
     exact⟨u1_,bw_ HB⟩
 ·rw[if_neg c3] at H;have tU:=cO c3;have tV:=cQ c3;have tW:(l0.length == l1.length)=false:=by first | simpa using c3 | (simp at c3 ⊢;omega)
  obtain rfl:=si_ H;go_enter Tryz.func67,Tryz.ntmps67
  go_wp2;go_ret
  exact⟨u1_,bw_ HB⟩
def dl.f (a0:Int):Option (Bool):=if a0≥65 then(some (decide (a0≤90))) else(some false)
theorem dl.calls (a0:Int) (r:Bool) (w:World) (h:dl.f a0=some r) :
  Calls Tryz.prog 132 #[.int .u8 a0] w fun e w'=>e = .returned (.bool r)∧Drawn0 w w':=by
 have H:=h;clear h;unfold dl.f at H
 by_cases c2:a0≥65
 ·rw[if_pos c2] at H;have tk:decide (65≤a0)=true:=decide_eq_true c2;clear c2;obtain rfl:=si_ H;go_enter Tryz.func132,Tryz.ntmps132
  go_wp2;go_ret
  exact⟨u9_,u7_⟩
 ·rw[if_neg c2] at H;have tk:decide (65≤a0)=false:=decide_eq_false c2;clear c2;obtain rfl:=si_ H;go_enter Tryz.func132,Tryz.ntmps132
  go_wp2;go_ret
  exact⟨u9_,u7_⟩
def dp (c:Int):Int:=if 65≤c∧c≤90 then c+32 else c
def fm.f (a0:ByteArray):Option (ByteArray):=if a0.size≤70368744177664 then some (strOfNums ((ao a0).map dp)) else none
def Buf8 (W:World) (B:Nat) (xs:List Int):Prop:=∀j,j<xs.length→W.cell? ⟨B,j,none⟩=some (.int .u8 (xs.getD j 0))∧W.frozen? ⟨B,j,none⟩=false
theorem Buf8.set {W:World} {B:Nat} {xs:List Int} (h:Buf8 W B xs) (i:Nat) (v:Int):Buf8 (W.setCell ⟨B,i,none⟩ (.int .u8 v)) B (xs.set i v):=by
 intro j hj;rw[List.length_set] at hj;have hc:=h j hj;refine⟨?_,by rw[World.frozen?_setCell];exact hc.2⟩;by_cases e:i=j
 ·subst e;rw[World.cell?_setCell_same _ _ _ hc.1];simp[List.getD_eq_getElem?_getD,hj]
 ·rw[World.cell?_setCell_other _ _ _ _ (by simp[e]),hc.1];simp[List.getD_eq_getElem?_getD,List.getElem?_set_ne e]
theorem Buf8.drewN {W:World} {B:Nat} {xs:List Int} (h:Buf8 W B xs) (n:Nat):Buf8 (W.drewN n) B xs:=h
theorem rz (W:World) (e:TypeId) (s:ByteArray):Buf8 (Lib.bytesWorld W e s) W.heap.size (ao s):=by
 intro j hj;rw[bM] at hj;constructor
 ·rw[Lib.bytesWorld_cell W e s j hj];have h':j<s.data.toList.length:=by rw[fS];exact hj
  simp[ao,List.getD_eq_getElem?_getD,List.getElem?_eq_getElem h']
 ·unfold World.frozen?
  rw[Lib.bytesWorld_at_new];have h1:s.size≤(Lib.bytesCells W e s).size:=by
   unfold Lib.bytesCells
   rw[Array.size_append,Array.size_map];exact Nat.le_add_right _ _
  show (decide ((Lib.bytesCells W e s).size≤j) && decide (j<(Lib.bytesCells W e s).size+1))=false
  rw[decide_eq_false aw];rfl
theorem ni (l:List Int) (k:Nat) (h:k<l.length):(l.take (k+1)).map dp=(l.take k).map dp ++ [dp l[k]]:=by
 rw[List.take_add_one,List.getElem?_eq_getElem h,List.map_append];rfl
theorem gW (l:List Int) (k:Nat) (h:k≤l.length):((l.take k).map dp).length=k:=by
 rw[List.length_map,List.length_take];omega
theorem sl (l:List Int) (k:Nat) (h:k<l.length):((l.take k).map dp ++ l.drop k).getD k 0=l[k]:=by
 rw[List.getD_eq_getElem?_getD,List.getElem?_append_right (by rw[gW l k aw];exact Nat.le_refl _),gW l k aw,Nat.sub_self,List.drop_eq_getElem_cons h];rfl
theorem sy (l:List Int) (k:Nat) (h:k<l.length) (v:Int) (hv:dp l[k] = v):((l.take k).map dp ++ l.drop k).set k v=(l.take (k+1)).map dp ++ l.drop (k+1):=by
 rw[List.set_append_right _ _ (by rw[gW l k aw];exact Nat.le_refl _),gW l k aw,Nat.sub_self,ni l k h,List.drop_eq_getElem_cons h,List.append_assoc,hv];rfl
theorem rG (l:List Int) (k:Nat) (h:k<l.length) (hv:dp l[k] = l[k]):(l.take k).map dp ++ l.drop k=(l.take (k+1)).map dp ++ l.drop (k+1):=by
 rw[ni l k h,List.drop_eq_getElem_cons h,List.append_assoc,hv];rfl
theorem sR (l:List Int):(l.take l.length).map dp ++ l.drop l.length=l.map dp:=by
 rw[List.take_length,List.drop_length,List.append_nil]
theorem pj (c:Int):dl.f c=some (decide (65≤c∧c≤90)):=by
 unfold dl.f
 by_cases h:c≥65
 ·rw[if_pos h];congr 1;exact decide_eq_decide.2 aw
 ·rw[if_neg h];congr 1;symm;exact decide_eq_false aw
set_option maxHeartbeats 2000000 in
theorem fm.calls (a0:ByteArray) (r:ByteArray) (w:World) (h:fm.f a0=some r) :
  Calls Tryz.prog 91 #[.string a0] w fun e w'=>e = .returned (.string r)∧Below w.heap.size w w':=by
 unfold fm.f at h
 by_cases hs:a0.size≤70368744177664
 case neg=>rw[if_neg hs] at h;exact absurd h bb
 rw[if_pos hs] at h;have HR:=am_ (Option.some.inj h);clear h;have hlen:=bM a0;have HL:=am_ hlen;clear hlen;have kb:=oQ (P:=Tryz.prog) 9 22 5 Tryz.underlying9 Tryz.underlying22 Tryz.underlying5 a0 w;go_enter Tryz.func91,Tryz.ntmps91
 go_wp2;go_loopw [10] (fun i wr=>∃k:Nat,k≤a0.size∧i = .int .i64 k∧aa (Buf8 wr w.heap.size (((ao a0).take k).map dp ++ (ao a0).drop k))∧aa (Below w.heap.size w wr)) (fun i _=>a0.size - (intOf i).toNat)
 case atStart=>exact⟨0,Nat.zero_le _,rfl,⟨rz w 5 a0⟩,⟨kw (Below.refl _ _) (Nat.le_refl _) 5 a0⟩⟩
 case round=>
  obtain⟨k,hk,rfl,HF,HB⟩:=hrel;clear kb;by_cases hlt:k<a0.size
  ·have hkl:k<(ao a0).length:=by have:=HL.out;omega
   have hbl:(((ao a0).take k).map dp ++ (ao a0).drop k).length=a0.size:=by
    rw[List.length_append,gW _ _ aw,List.length_drop];have:=HL.out;omega
   obtain⟨hc0,hf0⟩:=HF.out k (by rw[hbl];exact hlt);rw[sl _ k hkl] at hc0;have hrange:=rT a0 (k:Int);rw[← mh,show rd (ao a0) (k:Int)=(ao a0)[k] by unfold rd;simp[List.getD_eq_getElem?_getD,List.getElem?_eq_getElem hkl]] at hrange;obtain⟨h0,h1⟩:=hrange;clear hbl;obtain⟨c,hc⟩:∃c,(ao a0)[k] = c:=⟨_,rfl⟩;rw[hc] at hc0 h0 h1;have HC:=am_ hc;clear hc;by_cases hu:65≤c∧c≤90
   ·have hf:=pj c;rw[decide_eq_true hu] at hf;have HU:=am_ hf;clear hf;have HV:aa (dp (ao a0)[k] = c+97 - 65):=⟨by rw[HC.out];unfold dp;rw[if_pos hu];omega⟩;obtain⟨hu0,hu1⟩:=hu;go_wp2_with (first | (go_at_call 132;(with_reducible refine(dl.calls c true _ HU.out).mono ?_);rintro e w' ⟨rfl,⟨nd,rfl⟩⟩))
    go_roundw
    case rel=>exact⟨k+1,aw,fz,⟨by rw[← sy _ k hkl _ HV.out];exact Buf8.drewN (Buf8.set HF.out k (c+97 - 65)) _⟩,⟨by first | exact al (aN HB.out (Nat.le_refl _)) _ | exact aN (al HB.out _) (Nat.le_refl _)⟩⟩
    case measure=>simp[intOf];omega
   ·have hf:=pj c;rw[decide_eq_false hu] at hf;have HU:=am_ hf;clear hf;have HV:aa (dp (ao a0)[k] = (ao a0)[k]):=⟨by rw[HC.out];unfold dp;rw[if_neg hu]⟩;clear hu;go_wp2_with (first | (go_at_call 132;(with_reducible refine(dl.calls c false _ HU.out).mono ?_);rintro e w' ⟨rfl,⟨nd,rfl⟩⟩))
    go_roundw
    case rel=>exact⟨k+1,aw,fz,⟨by rw[← rG _ k hkl HV.out];exact Buf8.drewN HF.out _⟩,⟨al HB.out _⟩⟩
    case measure=>simp[intOf];omega
  ·obtain rfl:k=a0.size:=by omega
   have hx:=HF.out;rw[← HL.out,sR] at hx;have kr:=run_convert_bytes_arg (P:=Tryz.prog) wr 22 5 Tryz.underlying22 Tryz.underlying5 w.heap.size 0 a0.size (grownCap w a0.size 0 5) ((ao a0).map dp) (by rw[List.length_map,HL.out]) (fun i hi=>by rw[Nat.zero_add];exact(hx i (by rw[List.length_map,HL.out];exact hi)).1) 9 Tryz.underlying9;clear hx HF hk hlt;go_wp2;go_ret
   exact⟨congrArg (fun s=>Ending.returned (Value.string s)) HR.out,by first | exact HB.out | exact al HB.out _⟩
def b7.j0:Nat→ByteArray→Int→Bool→Option (ByteArray)
 | 0,_,_,_=>none
 | k+1,x0,x3,tm=>if tm=true then(if 0≤(wrap64 (x3 - 1)) then(if(wrap64 (x3 - 1))≤(x0.size:Int) then((ax.f k cG (x0.extract 0 ((wrap64 (x3 - 1)):Int).toNat)).bind fun tk=>(if tk=true then(some (⟨#[]⟩:ByteArray)) else(some (x0.extract 0 ((wrap64 (x3 - 1)):Int).toNat)))) else(none)) else(none)) else((ax.f k cG x0).bind fun tl=>(if tl=true then(some (⟨#[]⟩:ByteArray)) else(some x0)))
def b7.f (k:Nat) (a0:ByteArray):Option (ByteArray):=(fm.f a0).bind fun tk=>(if 0≤(mn (tk.size:Int) 12) then(if(mn (tk.size:Int) 12)≤(tk.size:Int) then(if((tk.extract 0 ((mn (tk.size:Int) 12):Int).toNat).size:Int)>3 then(if 0≤(wrap64 (((tk.extract 0 ((mn (tk.size:Int) 12):Int).toNat).size:Int) - 1)) then(if(wrap64 (((tk.extract 0 ((mn (tk.size:Int) 12):Int).toNat).size:Int) - 1))<((tk.extract 0 ((mn (tk.size:Int) 12):Int).toNat).size:Int) then(if(bt (tk.extract 0 ((mn (tk.size:Int) 12):Int).toNat) (wrap64 (((tk.extract 0 ((mn (tk.size:Int) 12):Int).toNat).size:Int) - 1)))=115 then(if 0≤(wrap64 (((tk.extract 0 ((mn (tk.size:Int) 12):Int).toNat).size:Int) - 2)) then(if(wrap64 (((tk.extract 0 ((mn (tk.size:Int) 12):Int).toNat).size:Int) - 2))<((tk.extract 0 ((mn (tk.size:Int) 12):Int).toNat).size:Int) then(b7.j0 k (tk.extract 0 ((mn (tk.size:Int) 12):Int).toNat) ((tk.extract 0 ((mn (tk.size:Int) 12):Int).toNat).size:Int) ((bt (tk.extract 0 ((mn (tk.size:Int) 12):Int).toNat) (wrap64 (((tk.extract 0 ((mn (tk.size:Int) 12):Int).toNat).size:Int) - 2))) != 115)) else(none)) else(none)) else(b7.j0 k (tk.extract 0 ((mn (tk.size:Int) 12):Int).toNat) ((tk.extract 0 ((mn (tk.size:Int) 12):Int).toNat).size:Int) false)) else(none)) else(none)) else(b7.j0 k (tk.extract 0 ((mn (tk.size:Int) 12):Int).toNat) ((tk.extract 0 ((mn (tk.size:Int) 12):Int).toNat).size:Int) false)) else(none)) else(none))
theorem b7.calls (k:Nat) (a0:ByteArray) (r:ByteArray) (w:World) (hG:StopsIn w) (h:b7.f k a0=some r) :
  Calls Tryz.prog 46 #[.string a0] w fun e w'=>e = .returned (.string r)∧Below w.heap.size w w':=by
 have HG_:=am_ hG;clear hG;obtain⟨AG_,cG_,hg1_,hg2_,hg3_⟩:=HG_.out.stops;have HG1_:=am_ hg1_;have HG2_:=am_ hg2_;have HG3_:=am_ hg3_;clear hg1_ hg2_ hg3_;have HB:=am_ (Below.refl w.heap.size w);have H:=h;clear h;unfold b7.f at H
 obtain⟨tk,A2,H⟩:=bi_ H;obtain⟨tl,Y9⟩:∃j_:Int,(mn (tk.size:Int) 12)=j_:=⟨_,rfl⟩;replace H:(if 0≤(tl) then(if(tl)≤(tk.size:Int) then(if((tk.extract 0 ((tl):Int).toNat).size:Int)>3 then(if 0≤(wrap64 (((tk.extract 0 ((tl):Int).toNat).size:Int) - 1)) then(if(wrap64 (((tk.extract 0 ((tl):Int).toNat).size:Int) - 1))<((tk.extract 0 ((tl):Int).toNat).size:Int) then(if(bt (tk.extract 0 ((tl):Int).toNat) (wrap64 (((tk.extract 0 ((tl):Int).toNat).size:Int) - 1)))=115 then(if 0≤(wrap64 (((tk.extract 0 ((tl):Int).toNat).size:Int) - 2)) then(if(wrap64 (((tk.extract 0 ((tl):Int).toNat).size:Int) - 2))<((tk.extract 0 ((tl):Int).toNat).size:Int) then(b7.j0 k (tk.extract 0 ((tl):Int).toNat) ((tk.extract 0 ((tl):Int).toNat).size:Int) ((bt (tk.extract 0 ((tl):Int).toNat) (wrap64 (((tk.extract 0 ((tl):Int).toNat).size:Int) - 2))) != 115)) else(none)) else(none)) else(b7.j0 k (tk.extract 0 ((tl):Int).toNat) ((tk.extract 0 ((tl):Int).toNat).size:Int) false)) else(none)) else(none)) else(b7.j0 k (tk.extract 0 ((tl):Int).toNat) ((tk.extract 0 ((tl):Int).toNat).size:Int) false)) else(none)) else(none))=some r:=by first | (rw[Y9] at H;exact H)|(simp only[Y9] at H ⊢;exact H)
 (try rw[Y9] at A2)
 (try (have hji3h:tl≤12:=by(rw[← Y9];unfold mn;(repeat' split) <;> omega)))
 (try (have hji3g:tl≤64:=by omega))
 (try (have hji3l:0≤tl:=by(rw[← Y9];unfold mn;(repeat' split) <;> omega)))
 (try (have hji3m:0≤tl:=by omega))
 have tU:(if 12<(tk.size:Int) then 12 else(tk.size:Int))=tl:=Y9;obtain⟨tE,tF,H⟩:=ge_ H;obtain⟨tG,tH,H⟩:=ge_ H;have tD:=am_ H;clear H;go_enter Tryz.func46,Tryz.ntmps46
 go_upto_region 3 with (first | ((with_reducible refine gt_ 5 ?_);refine gB_ 5 Tryz.func91 (fm.calls a0 tk _ A2.out) ?_;intro w7 hb;replace HB:=bs_ HB hb;(try clear hb)))
 (try simp only[Act.put,List.setIfInBounds_toArray,List.set_cons_zero,List.set_cons_succ])
 obtain⟨y_,hy_⟩:∃y_:ByteArray,tk.extract 0 ((tl):Int).toNat=y_:=⟨_,rfl⟩;simp only[hy_] at tD ⊢;clear hy_;go_upto_region 4 with (fail)
 (try simp only[Act.put,List.setIfInBounds_toArray,List.set_cons_zero,List.set_cons_succ])
 go_cut [28] (fun t7 wc=>∃(kq:Nat) (tu:Bool),t7 = .bool tu∧aa (b7.j0 kq y_ (y_.size:Int) tu=some r)∧aa (kq≤k)∧aa (Below w.heap.size w wc))
 case first=>
  have H:=tD.out;clear tD;by_cases c8:(y_.size:Int)>3
  ·rw[if_pos c8] at H;have tv:decide (3<(y_.size:Int))=true:=decide_eq_true c8;have tI:decide (3<y_.size)=true:=decide_eq_true aw;clear c8;(first | rw[tv] | (simp only[aC,aG];rw[tv]) | skip)
   obtain⟨tz,tx⟩:∃j_:Int,(wrap64 ((y_.size:Int) - 1))=j_:=⟨_,rfl⟩;replace H:(if 0≤(tz) then(if(tz)<(y_.size:Int) then(if(bt y_ (tz))=115 then(if 0≤(wrap64 ((y_.size:Int) - 2)) then(if(wrap64 ((y_.size:Int) - 2))<(y_.size:Int) then(b7.j0 k y_ (y_.size:Int) ((bt y_ (wrap64 ((y_.size:Int) - 2))) != 115)) else(none)) else(none)) else(b7.j0 k y_ (y_.size:Int) false)) else(none)) else(none))=some r:=by first | (rw[tx] at H;exact H)|(simp only[tx] at H ⊢;exact H)
   have hji9w:(IntKind.i64.wrap ((y_.size:Int) - 1))=tz:=(aC _).trans tx;obtain⟨tM,H⟩:=gd_ H;obtain⟨tN,H⟩:=gd_ H;have HC_:=am_ H;clear H;obtain⟨tV,tX⟩:=pq_ (tz) y_.size;have tZ:=d8 y_ (tz);obtain⟨tV,tX⟩:=tt_ tV tX;have H:=HC_.out;clear HC_;by_cases tw:(bt y_ (tz))=115
   ·rw[if_pos tw] at H;have tn:=cW tw;have tB:=cX tw;clear tw;obtain⟨tq,tr⟩:∃j_:Int,(wrap64 ((y_.size:Int) - 2))=j_:=⟨_,rfl⟩;replace H:(if 0≤(tq) then(if(tq)<(y_.size:Int) then(b7.j0 k y_ (y_.size:Int) ((bt y_ (tq)) != 115)) else(none)) else(none))=some r:=by first | (rw[tr] at H;exact H)|(simp only[tr] at H ⊢;exact H)
    have hji14w:(IntKind.i64.wrap ((y_.size:Int) - 2))=tq:=(aC _).trans tr;obtain⟨tO,H⟩:=gd_ H;obtain⟨tP,H⟩:=gd_ H;have H':=am_ H;clear H;(first | rw[tn] | (simp only[aC,aG];rw[tn]) | skip)
    obtain⟨tW,tY⟩:=pq_ (tq) y_.size;have t6:=d8 y_ (tq);obtain⟨tW,tY⟩:=tt_ tW tY;go_wp2;go_meet
    case rel=>exact⟨_,(((bt y_ (tq)) != 115)),(by first | rfl | (simp;done)|(simp only[← Y9,← tr] <;> (first | rfl | simp))|(simp[*];done)),H',⟨jD⟩,⟨bw_ HB⟩⟩
   ·rw[if_neg tw] at H;have tn:=cO tw;have tB:=cQ tw;have H':=am_ H;clear H;(first | rw[tn] | (simp only[aC,aG];rw[tn]) | skip)
    go_wp2;go_meet
    case rel=>exact⟨_,(false),u4_,H',⟨jD⟩,⟨bw_ HB⟩⟩
  ·rw[if_neg c8] at H;have tv:decide (3<(y_.size:Int))=false:=decide_eq_false c8;have tI:decide (3<y_.size)=false:=decide_eq_false aw;clear c8;(first | rw[tv] | (simp only[aC,aG];rw[tv]) | skip)
   have H':=am_ H;clear H;go_wp2;go_meet
   case rel=>exact⟨_,(false),u4_,H',⟨jD⟩,⟨bw_ HB⟩⟩
 case rest=>
  clear tD;try clear tE
  try clear tF
  try clear tG
  try clear tH
  obtain⟨kq,tu,rfl,HA,t8,HB⟩:=hcut;cases kq with
  | zero=>exact absurd HA.out (by simp[b7.j0])
  | succ tC=>
   have H:=HA.out;clear HA;simp only[b7.j0] at H;cases tu
   ·replace H:=hf_ H;obtain⟨tJ,tL,H⟩:=bi_ H;cases tJ
    ·replace H:=hf_ H;obtain rfl:=si_ H;have hgx_:=(HB.out.cell (World.block_lt_of_cell? w _ HG1_.out)).trans HG1_.out;go_wp2_with (first | ((with_reducible refine eq (f:=92) rfl ?_);refine gX (some 35) rfl rfl Tryz.func92 bT rfl #[.slice AG_ cG.length cG_,.string y_] rfl u109_ ?_;(refine(ax.calls tC _ _ cG y_ false _ ?side1 ?side2 tL.out).mono ?_);(case side1=>exact u65_);(case side2=>exact HG2_.out);rintro e w' ⟨rfl,⟨nd,rfl⟩⟩;refine⟨_,rfl,?_⟩))
     go_ret
     exact⟨u104_,bw_ HB⟩
    ·replace H:=ht_ H;obtain rfl:=si_ H;have hgx_:=(HB.out.cell (World.block_lt_of_cell? w _ HG1_.out)).trans HG1_.out;go_wp2_with (first | ((with_reducible refine eq (f:=92) rfl ?_);refine gX (some 35) rfl rfl Tryz.func92 bT rfl #[.slice AG_ cG.length cG_,.string y_] rfl u109_ ?_;(refine(ax.calls tC _ _ cG y_ true _ ?side1 ?side2 tL.out).mono ?_);(case side1=>exact u65_);(case side2=>exact HG2_.out);rintro e w' ⟨rfl,⟨nd,rfl⟩⟩;refine⟨_,rfl,?_⟩))
     go_ret
     exact⟨u104_,bw_ HB⟩
   ·replace H:=ht_ H;obtain⟨tm,YW⟩:∃j_:Int,(wrap64 ((y_.size:Int) - 1))=j_:=⟨_,rfl⟩;replace H:(if 0≤(tm) then(if(tm)≤(y_.size:Int) then((ax.f tC cG (y_.extract 0 ((tm):Int).toNat)).bind fun tA=>(if tA=true then(some (⟨#[]⟩:ByteArray)) else(some (y_.extract 0 ((tm):Int).toNat)))) else(none)) else(none))=some r:=by first | (rw[YW] at H;exact H)|(simp only[YW] at H ⊢;exact H)
    have hji19w:(IntKind.i64.wrap ((y_.size:Int) - 1))=tm:=(aC _).trans YW;obtain⟨tQ,tR,H⟩:=ge_ H;obtain⟨tS,tT,H⟩:=ge_ H;obtain⟨tA,tK,H⟩:=bi_ H;cases tA
    ·replace H:=hf_ H;obtain rfl:=si_ H;have hgx_:=(HB.out.cell (World.block_lt_of_cell? w _ HG1_.out)).trans HG1_.out;go_wp2_with (first | ((with_reducible refine eq (f:=92) rfl ?_);refine gX (some 35) rfl rfl Tryz.func92 bT rfl #[.slice AG_ cG.length cG_,.string (y_.extract 0 ((tm):Int).toNat)] rfl u106_ ?_;(refine(ax.calls tC _ _ cG (y_.extract 0 ((tm):Int).toNat) false _ ?side1 ?side2 tK.out).mono ?_);(case side1=>exact u65_);(case side2=>exact HG2_.out);rintro e w' ⟨rfl,⟨nd,rfl⟩⟩;refine⟨_,rfl,?_⟩))
     go_ret
     exact⟨u95_,bw_ HB⟩
    ·replace H:=ht_ H;obtain rfl:=si_ H;have hgx_:=(HB.out.cell (World.block_lt_of_cell? w _ HG1_.out)).trans HG1_.out;go_wp2_with (first | ((with_reducible refine eq (f:=92) rfl ?_);refine gX (some 35) rfl rfl Tryz.func92 bT rfl #[.slice AG_ cG.length cG_,.string (y_.extract 0 ((tm):Int).toNat)] rfl u106_ ?_;(refine(ax.calls tC _ _ cG (y_.extract 0 ((tm):Int).toNat) true _ ?side1 ?side2 tK.out).mono ?_);(case side1=>exact u65_);(case side2=>exact HG2_.out);rintro e w' ⟨rfl,⟨nd,rfl⟩⟩;refine⟨_,rfl,?_⟩))
     go_ret
     exact⟨u95_,bw_ HB⟩
def cM.f (a0:Int):Option (Bool):=(dl.f a0).bind fun tk=>(if tk=true then(some true) else((dk.f a0).bind fun tl=>(if tl=true then(some true) else((dU.f a0).bind fun tm=>(some tm)))))
theorem cM.calls (a0:Int) (r:Bool) (w:World) (h:cM.f a0=some r) :
  Calls Tryz.prog 90 #[.int .u8 a0] w fun e w'=>e = .returned (.bool r)∧Drawn0 w w':=by
 have H:=h;clear h;unfold cM.f at H
 obtain⟨tk,A2,H⟩:=bi_ H;cases tk
 ·replace H:=hf_ H;obtain⟨tl,A4,H⟩:=bi_ H;cases tl
  ·replace H:=hf_ H;obtain⟨tm,A6,H⟩:=bi_ H;obtain rfl:=si_ H;go_enter Tryz.func90,Tryz.ntmps90
   go_wp2_with (first | ((with_reducible refine gt_ 4 ?_);refine gD_ 4 Tryz.func132 (dl.calls a0 false _ A2.out) ?_;intro nd)|(go_at_call 133;(with_reducible refine(dk.calls a0 false _ A4.out).mono ?_);rintro e w' ⟨rfl,⟨nd,rfl⟩⟩)|(go_at_call 134;(with_reducible refine(dU.calls a0 tm _ A6.out).mono ?_);rintro e w' ⟨rfl,⟨nd,rfl⟩⟩))
   go_ret
   exact⟨u9_,u7_⟩
  ·replace H:=ht_ H;obtain rfl:=si_ H;go_enter Tryz.func90,Tryz.ntmps90
   go_wp2_with (first | ((with_reducible refine gt_ 4 ?_);refine gD_ 4 Tryz.func132 (dl.calls a0 false _ A2.out) ?_;intro nd)|(go_at_call 133;(with_reducible refine(dk.calls a0 true _ A4.out).mono ?_);rintro e w' ⟨rfl,⟨nd,rfl⟩⟩))
   go_ret
   exact⟨u9_,u7_⟩
 ·replace H:=ht_ H;obtain rfl:=si_ H;go_enter Tryz.func90,Tryz.ntmps90
  go_wp2_with (first | ((with_reducible refine gt_ 4 ?_);refine gD_ 4 Tryz.func132 (dl.calls a0 true _ A2.out) ?_;intro nd))
  go_ret
  exact⟨u9_,u7_⟩
end Go.Proofs.YtnjjdojonflckaaGreatDoor.PFnIndexTerms
