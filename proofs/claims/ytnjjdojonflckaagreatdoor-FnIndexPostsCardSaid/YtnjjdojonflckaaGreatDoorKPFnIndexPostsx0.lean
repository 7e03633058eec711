/- Contracts of Go functions, each told as a plain Lean function. -/
import Derived.Below
import Derived.Deep.Draws
import Derived.Deep.AppendLies
import Derived.Maps.AppendAt
import Derived.OwnWalk
import Derived.Laws.BytesArg
import Derived.Laws.MakeOwn
import Derived.Laws.OwnMore
import Derived.Deep.OwnRows
import Derived.Tactics
import Derived.Lib.ConvBytes
import Derived.Laws.Slices
import Derived.WalkKit
import Derived.KernelRfl
import Derived.RowKit3
import Derived.Deep.LoopGhost
import Derived.Deep.QuietTactic
import Derived.BigQuiet
import Derived.WideLaws
import Derived.Deep.DeepCutAuto
import Derived.Deep.CutBlock
import Derived.Deep.RegionHeld3
import Derived.Laws.Rows
import Derived.Lib.AppendStr
import Derived.ArgAppend
import Derived.Laws.IdiomCopy
import Derived.OrdersHeld
import Derived.Laws.BitsLemmas
import Derived.RowKit
import Derived.Test.YtnjjdojonflckaaGreatDoorKEntRaw
import Derived.Test.YtnjjdojonflckaaGreatDoorKEntOrd
import Derived.Test.YtnjjdojonflckaaGreatDoorKSort
import Derived.Test.YtnjjdojonflckaaGreatDoorKOwnRows
import Derived.Test.YtnjjdojonflckaaGreatDoorKShelf
import Derived.StillTailTactics
import Derived.Sort.Walk0
import Derived.DeepKeys5
import Derived.Carry
import Derived.Lib.AtoiAllCases
import Derived.Lib.Hide
import Derived.Sort.Grow
import Derived.Lib.SplitLaws
import Derived.Test.YtnjjdojonflckaaGreatDoorKStopsSTME
import Derived.Test.YtnjjdojonflckaaGreatDoorKWFour
import Derived.Test.YtnjjdojonflckaaGreatDoorKWAt
import Derived.Test.YtnjjdojonflckaaGreatDoorKWEqStruct
import Derived.Test.YtnjjdojonflckaaGreatDoorKWRepsOne
import Derived.Test.YtnjjdojonflckaaGreatDoorKWInvWords
import Derived.Test.YtnjjdojonflckaaGreatDoorKWGuard
namespace Go.Proofs.YtnjjdojonflckaaGreatDoor.PFnIndexPosts
open Go.RowKit Go.Proofs.YtnjjdojonflckaaGreatDoorW.PrintWords Go.Proofs.YtnjjdojonflckaaGreatDoorW.PrintLast Go.Proofs.YtnjjdojonflckaaGreatDoorW.PrintMore
attribute [local go_sem] be bc bQ bS cu cw bD bC bT bR
set_option linter.unusedVariables false
set_option linter.unusedSimpArgs false
def errW:Option Int→Value
 | none=>.nilIface
 | some c=>.iface 0 (.int .i64 c)
theorem bI:errW none = .nilIface:=rfl
theorem bK (c:Int):errW (some c) = .iface 0 (.int .i64 c):=rfl
theorem oS:(Tryz.prog.info? 3).map (fun i=>(i.zero,i.size,i.bytes))=some (some (.int .i64 0),1,8):=by kernel_rfl
theorem info5:(Tryz.prog.info? 5).map (fun i=>(i.zero,i.size,i.bytes))=some (some (.int .u8 0),1,1):=by kernel_rfl
theorem e6:(Tryz.prog.info? 9).map (fun i=>(i.zero,i.size,i.bytes))=some (some (.string ⟨#[]⟩),1,16):=by kernel_rfl
theorem mi:(Tryz.prog.info? 46).map (fun i=>(i.zero,i.size,i.bytes))=some (some (.agg #[(.int .i64 0),(.string ⟨#[]⟩),(.slice none 0 0)]),3,48):=by kernel_rfl
theorem lO:(Tryz.prog.info? 50).map (fun i=>(i.zero,i.size,i.bytes))=some (some (.agg #[(.int .i64 0),(.slice none 0 0)]),2,32):=by kernel_rfl
theorem km:(Tryz.prog.info? 76).map (fun i=>(i.zero,i.size,i.bytes))=some (some (.agg #[(.string ⟨#[]⟩),(.string ⟨#[]⟩),(.slice none 0 0)]),3,56):=by kernel_rfl
theorem lQ:(Tryz.prog.info? 86).map (fun i=>(i.zero,i.size,i.bytes))=some (some (.agg #[(.string ⟨#[]⟩),(.string ⟨#[]⟩)]),2,32):=by kernel_rfl
theorem n7:(Tryz.prog.info? 90).map (fun i=>(i.zero,i.size,i.bytes))=some (some (.agg #[(.string ⟨#[]⟩),(.int .i64 0),(.int .i64 0)]),3,32):=by kernel_rfl
theorem g6:(Tryz.prog.info? 92).map (fun i=>(i.zero,i.size,i.bytes))=some (some (.agg #[(.string ⟨#[]⟩),(.int .i64 0),(.int .i64 0)]),3,32):=by kernel_rfl
structure S92 where
 f0:ByteArray
 f1:Int
 f2:Int
def z92:S92:=⟨(⟨#[]⟩:ByteArray),(0:Int),(0:Int)⟩
def k92:Kd S92:=Kd.iso (Kd.pair Kd.string (Kd.pair (Kd.int .i64) (Kd.int .i64))) (fun x:S92=>(x.f0,x.f1,x.f2))
theorem r8 {w:World} {x:S92} {cs:List Value} (h:k92.K w x cs):cs = [.string x.f0,.int .i64 x.f1,.int .i64 x.f2]:=by
 obtain⟨_,_,rfl,rfl,⟨_,_,rfl,rfl,rfl⟩⟩:=h
 exact rfl
theorem nE {w:World} {base:Nat} {ok:Nat→Prop} {x:S92} {cs:List Value} (h:k92.M w base ok x cs):cs = [.string x.f0,.int .i64 x.f1,.int .i64 x.f2]:=by
 obtain⟨_,_,rfl,rfl,⟨_,_,rfl,rfl,rfl⟩⟩:=h
 exact rfl
theorem iC (w:World) (base:Nat) (ok:Nat→Prop) (x:S92)  : k92.M w base ok x [.string x.f0,.int .i64 x.f1,.int .i64 x.f2]:=⟨[.string x.f0],[.int .i64 x.f1,.int .i64 x.f2],rfl,rfl,⟨[.int .i64 x.f1],[.int .i64 x.f2],rfl,rfl,rfl⟩⟩
def ay (xs:List S92) (i:Int):S92:=xs.getD i.toNat z92
theorem gN {w:World} {A:Option Addr} {n:Nat} {xs:List S92} (h:Kd.C k92 w A n xs) (i:Int) (h0:0≤i) (h1:i<n):∃ad ,A=some ad∧w.cell? (ad.add (i.toNat*3))=some (.string (ay xs i).f0)∧w.cell? ⟨(ad.add (i.toNat*3)).block,(ad.add (i.toNat*3)).off+1,none⟩=some (.int .i64 (ay xs i).f1)∧w.cell? ⟨(ad.add (i.toNat*3)).block,(ad.add (i.toNat*3)).off+2,none⟩=some (.int .i64 (ay xs i).f2):=by
 obtain⟨ad,c,e,_,hK,hc0⟩:=Kd.C_get h z92 i h0 h1
 have hc:∀j u,c[j]? = some u→w.cell? (ad.add (i.toNat*3+j))=some u:=hc0
 obtain rfl:=r8 hK
 exact⟨ad,e,hc 0 _ rfl,by rw[← dm _ _ 1 (by omega)];exact hc 1 _ rfl,by rw[← dm _ _ 2 (by omega)];exact hc 2 _ rfl⟩
structure S86 where
 f0:ByteArray
 f1:ByteArray
def z86:S86:=⟨(⟨#[]⟩:ByteArray),(⟨#[]⟩:ByteArray)⟩
def k86:Kd S86:=Kd.iso (Kd.pair Kd.string Kd.string) (fun x:S86=>(x.f0,x.f1))
theorem sr {w:World} {x:S86} {cs:List Value} (h:k86.K w x cs):cs = [.string x.f0,.string x.f1]:=by
 obtain⟨_,_,rfl,rfl,rfl⟩:=h
 exact rfl
theorem nz {w:World} {base:Nat} {ok:Nat→Prop} {x:S86} {cs:List Value} (h:k86.M w base ok x cs):cs = [.string x.f0,.string x.f1]:=by
 obtain⟨_,_,rfl,rfl,rfl⟩:=h
 exact rfl
theorem jM (w:World) (base:Nat) (ok:Nat→Prop) (x:S86)  : k86.M w base ok x [.string x.f0,.string x.f1]:=⟨[.string x.f0],[.string x.f1],rfl,rfl,rfl⟩
def ap (xs:List S86) (i:Int):S86:=xs.getD i.toNat z86
theorem dZ {w:World} {A:Option Addr} {n:Nat} {xs:List S86} (h:Kd.C k86 w A n xs) (i:Int) (h0:0≤i) (h1:i<n):∃ad ,A=some ad∧w.cell? (ad.add (i.toNat*2))=some (.string (ap xs i).f0)∧w.cell? ⟨(ad.add (i.toNat*2)).block,(ad.add (i.toNat*2)).off+1,none⟩=some (.string (ap xs i).f1):=by
 obtain⟨ad,c,e,_,hK,hc0⟩:=Kd.C_get h z86 i h0 h1
 have hc:∀j u,c[j]? = some u→w.cell? (ad.add (i.toNat*2+j))=some u:=hc0
 obtain rfl:=sr hK
 exact⟨ad,e,hc 0 _ rfl,by rw[← dm _ _ 1 (by omega)];exact hc 1 _ rfl⟩
structure S44 where
 f0:ByteArray
 f1:(List S86)
def z44:S44:=⟨(⟨#[]⟩:ByteArray),([] : List S86)⟩
def k44:Kd S44:=Kd.iso (Kd.pair Kd.string (Kd.slice 86 k86)) (fun x:S44=>(x.f0,x.f1))
theorem sn {w:World} {x:S44} {cs:List Value} (h:k44.K w x cs):∃A1 c1,cs = [.string x.f0,.slice A1 x.f1.length c1] ∧ x.f1.length≤c1∧k86.C w A1 x.f1.length x.f1:=by
 obtain⟨_,_,rfl,rfl,⟨A1,c1,rfl,l1,g1⟩⟩:=h
 exact⟨A1,c1,rfl,l1,g1⟩
theorem rb {w:World} {base:Nat} {ok:Nat→Prop} {x:S44} {cs:List Value} (h:k44.M w base ok x cs):∃v1,cs = [.string x.f0,v1] ∧ k86.R 86 w base ok v1 x.f1:=by
 obtain⟨_,_,rfl,rfl,⟨v1,rfl,g1⟩⟩:=h
 exact⟨v1,rfl,g1⟩
theorem k44_mk (w:World) (x:S44) {A1:Option Addr} {c1:Nat} (l1:x.f1.length≤c1) (g1:k86.C w A1 x.f1.length x.f1):k44.K w x [.string x.f0,.slice A1 x.f1.length c1]:=⟨[.string x.f0],[.slice A1 x.f1.length c1],rfl,rfl,⟨A1,c1,rfl,l1,g1⟩⟩
theorem s8 (w:World) (base:Nat) (ok:Nat→Prop) (x:S44) {v1:Value} (g1:k86.R 86 w base ok v1 x.f1):k44.M w base ok x [.string x.f0,v1]:=⟨[.string x.f0],[v1],rfl,rfl,⟨v1,rfl,g1⟩⟩
structure S46 where
 f0:Int
 f1:S44
def z46:S46:=⟨(0:Int),z44⟩
def k46:Kd S46:=Kd.iso (Kd.pair (Kd.int .i64) k44) (fun x:S46=>(x.f0,x.f1))
theorem l6 {w:World} {x:S46} {cs:List Value} (h:k46.K w x cs):∃A2 c2,cs = [.int .i64 x.f0,.string x.f1.f0,.slice A2 x.f1.f1.length c2] ∧ x.f1.f1.length≤c2∧k86.C w A2 x.f1.f1.length x.f1.f1:=by
 obtain⟨_,_,rfl,rfl,s1⟩:=h
 obtain⟨A2,c2,rfl,l2,g2⟩:=sn s1
 exact⟨A2,c2,rfl,l2,g2⟩
theorem k46_openM {w:World} {base:Nat} {ok:Nat→Prop} {x:S46} {cs:List Value} (h:k46.M w base ok x cs):∃v2,cs = [.int .i64 x.f0,.string x.f1.f0,v2] ∧ k86.R 86 w base ok v2 x.f1.f1:=by
 obtain⟨_,_,rfl,rfl,s1⟩:=h
 obtain⟨v2,rfl,g2⟩:=rb s1
 exact⟨v2,rfl,g2⟩
theorem k46_mk (w:World) (x:S46) {A2:Option Addr} {c2:Nat} (l2:x.f1.f1.length≤c2) (g2:k86.C w A2 x.f1.f1.length x.f1.f1):k46.K w x [.int .i64 x.f0,.string x.f1.f0,.slice A2 x.f1.f1.length c2]:=⟨[.int .i64 x.f0],[.string x.f1.f0,.slice A2 x.f1.f1.length c2],rfl,rfl,(k44_mk w x.f1 l2 g2)⟩
theorem sR (w:World) (base:Nat) (ok:Nat→Prop) (x:S46) {v2:Value} (g2:k86.R 86 w base ok v2 x.f1.f1):k46.M w base ok x [.int .i64 x.f0,.string x.f1.f0,v2]:=⟨[.int .i64 x.f0],[.string x.f1.f0,v2],rfl,rfl,(s8 w base ok x.f1 g2)⟩
theorem iy {W:World} {ok:Nat→Prop} {x:S46} {cs:List Value} (h:Kd.FK k46 W ok x cs):∃A2 c2,cs = [.int .i64 x.f0,.string x.f1.f0,.slice A2 x.f1.f1.length c2] ∧ x.f1.f1.length≤c2∧Kd.F k86 W ok A2 x.f1.f1.length x.f1.f1:=by
 obtain⟨A2,c2,rfl,l2,_⟩:=l6 (Kd.FK_now h)
 exact⟨A2,c2,rfl,l2,(fun W' hW=>by obtain⟨A2_,c2_,he,l2_,g2_⟩:=l6 (h W' hW);injection (Option.some.inj (show some (Value.slice A2 x.f1.f1.length c2)=some (Value.slice A2_ x.f1.f1.length c2_) from congrArg (fun l=>l[2]?) he)) with ha_ _ _;rw[ha_];exact g2_)⟩
theorem jr (W:World) (ok:Nat→Prop) (x:S46) {A2:Option Addr} {c2:Nat} (l2:x.f1.f1.length≤c2) (g2:Kd.F k86 W ok A2 x.f1.f1.length x.f1.f1):Kd.FK k46 W ok x [.int .i64 x.f0,.string x.f1.f0,.slice A2 x.f1.f1.length c2]:=fun W2 hW=>k46_mk W2 x l2 (g2 W2 hW)
def ab (xs:List S46) (i:Int):S46:=xs.getD i.toNat z46
theorem fa {w:World} {A:Option Addr} {n:Nat} {xs:List S46} (h:Kd.C k46 w A n xs) (i:Int) (h0:0≤i) (h1:i<n):∃ad A2 c2,A=some ad∧w.cell? (ad.add (i.toNat*3))=some (.int .i64 (ab xs i).f0)∧w.cell? ⟨(ad.add (i.toNat*3)).block,(ad.add (i.toNat*3)).off+1,none⟩=some (.string (ab xs i).f1.f0)∧w.cell? ⟨(ad.add (i.toNat*3)).block,(ad.add (i.toNat*3)).off+2,none⟩=some (.slice A2 (ab xs i).f1.f1.length c2)∧(ab xs i).f1.f1.length≤c2∧k86.C w A2 (ab xs i).f1.f1.length (ab xs i).f1.f1:=by
 obtain⟨ad,c,e,_,hK,hc0⟩:=Kd.C_get h z46 i h0 h1
 have hc:∀j u,c[j]? = some u→w.cell? (ad.add (i.toNat*3+j))=some u:=hc0
 obtain⟨A2,c2,rfl,l2,g2⟩:=l6 hK
 exact⟨ad,A2,c2,e,hc 0 _ rfl,by rw[← dm _ _ 1 (by omega)];exact hc 1 _ rfl,by rw[← dm _ _ 2 (by omega)];exact hc 2 _ rfl,l2,g2⟩
structure S50 where
 f0:Int
 f1:(List Int)
def z50:S50:=⟨(0:Int),([] : List Int)⟩
def k50:Kd S50:=Kd.iso (Kd.pair (Kd.int .i64) (Kd.slice 3 (Kd.int .i64))) (fun x:S50=>(x.f0,x.f1))
theorem lI {w:World} {x:S50} {cs:List Value} (h:k50.K w x cs):∃A1 c1,cs = [.int .i64 x.f0,.slice A1 x.f1.length c1] ∧ x.f1.length≤c1∧(Kd.int .i64).C w A1 x.f1.length x.f1:=by
 obtain⟨_,_,rfl,rfl,⟨A1,c1,rfl,l1,g1⟩⟩:=h
 exact⟨A1,c1,rfl,l1,g1⟩
theorem rx {w:World} {base:Nat} {ok:Nat→Prop} {x:S50} {cs:List Value} (h:k50.M w base ok x cs):∃v1,cs = [.int .i64 x.f0,v1] ∧ (Kd.int .i64).R 3 w base ok v1 x.f1:=by
 obtain⟨_,_,rfl,rfl,⟨v1,rfl,g1⟩⟩:=h
 exact⟨v1,rfl,g1⟩
theorem jJ (w:World) (base:Nat) (ok:Nat→Prop) (x:S50) {v1:Value} (g1:(Kd.int .i64).R 3 w base ok v1 x.f1):k50.M w base ok x [.int .i64 x.f0,v1]:=⟨[.int .i64 x.f0],[v1],rfl,rfl,⟨v1,rfl,g1⟩⟩
theorem nG {W:World} {ok:Nat→Prop} {x:S50} {cs:List Value} (h:Kd.FK k50 W ok x cs):∃A1 c1,cs = [.int .i64 x.f0,.slice A1 x.f1.length c1] ∧ x.f1.length≤c1∧Kd.F (Kd.int .i64) W ok A1 x.f1.length x.f1:=by
 obtain⟨A1,c1,rfl,l1,_⟩:=lI (Kd.FK_now h)
 exact⟨A1,c1,rfl,l1,(fun W' hW=>by obtain⟨A1_,c1_,he,l1_,g1_⟩:=lI (h W' hW);injection (Option.some.inj (show some (Value.slice A1 x.f1.length c1)=some (Value.slice A1_ x.f1.length c1_) from congrArg (fun l=>l[1]?) he)) with ha_ _ _;rw[ha_];exact g1_)⟩
def ao (xs:List S50) (i:Int):S50:=xs.getD i.toNat z50
theorem ft {w:World} {A:Option Addr} {n:Nat} {xs:List S50} (h:Kd.C k50 w A n xs) (i:Int) (h0:0≤i) (h1:i<n):∃ad A1 c1,A=some ad∧w.cell? (ad.add (i.toNat*2))=some (.int .i64 (ao xs i).f0)∧w.cell? ⟨(ad.add (i.toNat*2)).block,(ad.add (i.toNat*2)).off+1,none⟩=some (.slice A1 (ao xs i).f1.length c1)∧(ao xs i).f1.length≤c1∧(Kd.int .i64).C w A1 (ao xs i).f1.length (ao xs i).f1:=by
 obtain⟨ad,c,e,_,hK,hc0⟩:=Kd.C_get h z50 i h0 h1
 have hc:∀j u,c[j]? = some u→w.cell? (ad.add (i.toNat*2+j))=some u:=hc0
 obtain⟨A1,c1,rfl,l1,g1⟩:=lI hK
 exact⟨ad,A1,c1,e,hc 0 _ rfl,by rw[← dm _ _ 1 (by omega)];exact hc 1 _ rfl,l1,g1⟩
structure S76 where
 f0:ByteArray
 f1:ByteArray
 f2:(List S50)
def z76:S76:=⟨(⟨#[]⟩:ByteArray),(⟨#[]⟩:ByteArray),([] : List S50)⟩
def k76:Kd S76:=Kd.iso (Kd.pair Kd.string (Kd.pair Kd.string (Kd.slice 50 k50))) (fun x:S76=>(x.f0,x.f1,x.f2))
theorem sJ {w:World} {x:S76} {cs:List Value} (h:k76.K w x cs):∃A2 c2,cs = [.string x.f0,.string x.f1,.slice A2 x.f2.length c2] ∧ x.f2.length≤c2∧k50.C w A2 x.f2.length x.f2:=by
 obtain⟨_,_,rfl,rfl,⟨_,_,rfl,rfl,⟨A2,c2,rfl,l2,g2⟩⟩⟩:=h
 exact⟨A2,c2,rfl,l2,g2⟩
theorem rA {w:World} {base:Nat} {ok:Nat→Prop} {x:S76} {cs:List Value} (h:k76.M w base ok x cs):∃v2,cs = [.string x.f0,.string x.f1,v2] ∧ k50.R 50 w base ok v2 x.f2:=by
 obtain⟨_,_,rfl,rfl,⟨_,_,rfl,rfl,⟨v2,rfl,g2⟩⟩⟩:=h
 exact⟨v2,rfl,g2⟩
theorem qJ (w:World) (base:Nat) (ok:Nat→Prop) (x:S76) {v2:Value} (g2:k50.R 50 w base ok v2 x.f2):k76.M w base ok x [.string x.f0,.string x.f1,v2]:=⟨[.string x.f0],[.string x.f1,v2],rfl,rfl,⟨[.string x.f1],[v2],rfl,rfl,⟨v2,rfl,g2⟩⟩⟩
def aj (xs:List S76) (i:Int):S76:=xs.getD i.toNat z76
theorem fe {w:World} {A:Option Addr} {n:Nat} {xs:List S76} (h:Kd.C k76 w A n xs) (i:Int) (h0:0≤i) (h1:i<n):∃ad A2 c2,A=some ad∧w.cell? (ad.add (i.toNat*3))=some (.string (aj xs i).f0)∧w.cell? ⟨(ad.add (i.toNat*3)).block,(ad.add (i.toNat*3)).off+1,none⟩=some (.string (aj xs i).f1)∧w.cell? ⟨(ad.add (i.toNat*3)).block,(ad.add (i.toNat*3)).off+2,none⟩=some (.slice A2 (aj xs i).f2.length c2)∧(aj xs i).f2.length≤c2∧k50.C w A2 (aj xs i).f2.length (aj xs i).f2:=by
 obtain⟨ad,c,e,_,hK,hc0⟩:=Kd.C_get h z76 i h0 h1
 have hc:∀j u,c[j]? = some u→w.cell? (ad.add (i.toNat*3+j))=some u:=hc0
 obtain⟨A2,c2,rfl,l2,g2⟩:=sJ hK
 exact⟨ad,A2,c2,e,hc 0 _ rfl,by rw[← dm _ _ 1 (by omega)];exact hc 1 _ rfl,by rw[← dm _ _ 2 (by omega)];exact hc 2 _ rfl,l2,g2⟩
structure S90 where
 f0:ByteArray
 f1:Int
 f2:Int
def z90:S90:=⟨(⟨#[]⟩:ByteArray),(0:Int),(0:Int)⟩
def k90:Kd S90:=Kd.iso (Kd.pair Kd.string (Kd.pair (Kd.int .i64) (Kd.int .i64))) (fun x:S90=>(x.f0,x.f1,x.f2))
theorem rV {w:World} {x:S90} {cs:List Value} (h:k90.K w x cs):cs = [.string x.f0,.int .i64 x.f1,.int .i64 x.f2]:=by
 obtain⟨_,_,rfl,rfl,⟨_,_,rfl,rfl,rfl⟩⟩:=h
 exact rfl
theorem le (w:World) (base:Nat) (ok:Nat→Prop) (x:S90)  : k90.M w base ok x [.string x.f0,.int .i64 x.f1,.int .i64 x.f2]:=⟨[.string x.f0],[.int .i64 x.f1,.int .i64 x.f2],rfl,rfl,⟨[.int .i64 x.f1],[.int .i64 x.f2],rfl,rfl,rfl⟩⟩
def eQ (xs:List S90) (i:Int):S90:=xs.getD i.toNat z90
theorem ss {w:World} {A:Option Addr} {n:Nat} {xs:List S90} (h:Kd.C k90 w A n xs) (i:Int) (h0:0≤i) (h1:i<n):∃ad ,A=some ad∧w.cell? (ad.add (i.toNat*3))=some (.string (eQ xs i).f0)∧w.cell? ⟨(ad.add (i.toNat*3)).block,(ad.add (i.toNat*3)).off+1,none⟩=some (.int .i64 (eQ xs i).f1)∧w.cell? ⟨(ad.add (i.toNat*3)).block,(ad.add (i.toNat*3)).off+2,none⟩=some (.int .i64 (eQ xs i).f2):=by
 obtain⟨ad,c,e,_,hK,hc0⟩:=Kd.C_get h z90 i h0 h1
 have hc:∀j u,c[j]? = some u→w.cell? (ad.add (i.toNat*3+j))=some u:=hc0
 obtain rfl:=rV hK
 exact⟨ad,e,hc 0 _ rfl,by rw[← dm _ _ 1 (by omega)];exact hc 1 _ rfl,by rw[← dm _ _ 2 (by omega)];exact hc 2 _ rfl⟩
theorem bZ {w:World} {g:Nat} {t:TypeId} {v0 v1:Value} (h:w.heap[g]? = some (.cells #[v0,v1] t (0,0))):w.cell? ⟨g,0,none⟩=some v0∧w.cell? ⟨g,1,none⟩=some v1∧w.frozen? ⟨g,0,none⟩=false∧w.frozen? ⟨g,1,none⟩=false:=⟨(aV h 0).trans rfl,(aV h 1).trans rfl,cy h 0,cy h 1⟩
theorem dz {w:World} {g:Nat} {t:TypeId} {v0 v1 v2:Value} (h:w.heap[g]? = some (.cells #[v0,v1,v2] t (0,0))):w.cell? ⟨g,0,none⟩=some v0∧w.cell? ⟨g,1,none⟩=some v1∧w.cell? ⟨g,2,none⟩=some v2∧w.frozen? ⟨g,0,none⟩=false∧w.frozen? ⟨g,1,none⟩=false∧w.frozen? ⟨g,2,none⟩=false:=⟨(aV h 0).trans rfl,(aV h 1).trans rfl,(aV h 2).trans rfl,cy h 0,cy h 1,cy h 2⟩
theorem dv {w:World} {g:Nat} {t:TypeId} {v0 v1 v2 v3:Value} (h:w.heap[g]? = some (.cells #[v0,v1,v2,v3] t (0,0))):w.cell? ⟨g,0,none⟩=some v0∧w.cell? ⟨g,1,none⟩=some v1∧w.cell? ⟨g,2,none⟩=some v2∧w.cell? ⟨g,3,none⟩=some v3∧w.frozen? ⟨g,0,none⟩=false∧w.frozen? ⟨g,1,none⟩=false∧w.frozen? ⟨g,2,none⟩=false∧w.frozen? ⟨g,3,none⟩=false:=⟨(aV h 0).trans rfl,(aV h 1).trans rfl,(aV h 2).trans rfl,(aV h 3).trans rfl,cy h 0,cy h 1,cy h 2,cy h 3⟩
theorem pu_ {P:Program} {md:Region.Mode} {ops:Array Oper} {Q:Exit→Act→World→Prop} {S:World→Prop} {ds:List Nat} {T:Bool × List (List Nat × List Nat)} {oi:Oper} {v:Value} {fuel:Nat} {l:Array Bool} {a a':Act} {w:World} (i n:Nat) (l':Array Bool) (HT:aa (dL md ops=T)) (h:aM P md ops Q S ds fuel l' a' w)
    (hi:ops[i]? = some oi:=by rfl) (hN:oi.dst=some n:=by rfl) (hc:anyT T l.toList l'.toList i=true:=by kernel_rfl) (hQ:∀c a w,Q (.panic c) (a.put oi.dst v) w→Q (.panic c) a w:=by exact fun _ _ _ h=>h) (hw:Region.wanted oi (yielded ops a.tmps)=true:=by rfl) (hy:∀w,(execOp a.eval oi).run P w = .ok (.value v) w:=by intro w';go_simp;with_reducible rfl)
    (ha:a.put (some n) v=a':=by simp only[Act.put,List.setIfInBounds_toArray,List.set_cons_zero,List.set_cons_succ,aC,aG];rfl):aM P md ops Q S ds (fuel+1) l a w:=
  pure_ (i:=i) (N:=some n) l' hi hN (rP HT.out hc) hQ (Or.inl ⟨hw,hy⟩) ha h
theorem sk_ {P:Program} {md:Region.Mode} {ops:Array Oper} {Q:Exit→Act→World→Prop} {S:World→Prop} {ds:List Nat} {T:Bool × List (List Nat × List Nat)} {oi:Oper} {fuel:Nat} {l:Array Bool} {a a':Act} {w:World} (i n:Nat) (l':Array Bool) (HT:aa (dL md ops=T)) (h:aM P md ops Q S ds fuel l' a' w)
    (hi:ops[i]? = some oi:=by rfl) (hN:oi.dst=some n:=by rfl) (hc:anyT T l.toList l'.toList i=true:=by kernel_rfl) (hQ:∀c a w,Q (.panic c) (a.put oi.dst undef) w→Q (.panic c) a w:=by exact fun _ _ _ h=>h) (hw:Region.wanted oi (yielded ops a.tmps)=false:=by rfl)
    (ha:a.put (some n) undef=a':=by simp only[Act.put,List.setIfInBounds_toArray,List.set_cons_zero,List.set_cons_succ,aC,aG];rfl):aM P md ops Q S ds (fuel+1) l a w:=
  pure_ (i:=i) (N:=some n) l' hi hN (rP HT.out hc) hQ (Or.inr ⟨hw,rfl⟩) ha h
theorem ta_ {P:Program} {md:Region.Mode} {ops:Array Oper} {Q:Exit→Act→World→Prop} {S:World→Prop} {ds:List Nat} {T:Bool × List (List Nat × List Nat)} {B:List Nat} {oi:Oper} {v:Value} {fuel:Nat} {l:Array Bool} {a a':Act} {w:World} (i n:Nat) (l':Array Bool) (HT:aa (dL md ops=T)) (HW:aa (di T.2 B=true)) (hS:S w) (h:aM P md ops Q S ds fuel l' a' w)
    (hi:ops[i]? = some oi:=by rfl) (hN:oi.dst=some n:=by rfl) (hc:qI T B ds l.toList l'.toList i=true:=by kernel_rfl) (hQ:∀c a w,Q (.panic c) (a.put oi.dst v) w→Q (.panic c) a w:=by exact fun _ _ _ h=>h) (hw:Region.wanted oi (yielded ops a.tmps)=true:=by rfl) (hy:∀w,S w→(execOp a.eval oi).run P w = .ok (.value v) w:=by intro w' hS_;(repeat (obtain⟨_,hS_⟩:=hS_));go_simp;with_reducible rfl)
    (ha:a.put (some n) v=a':=by simp only[Act.put,List.setIfInBounds_toArray,List.set_cons_zero,List.set_cons_succ,aC,aG];rfl):aM P md ops Q S ds (fuel+1) l a w:=
  take_ (i:=i) (N:=some n) l' hi hN (oN HT.out HW.out hc) hQ (Or.inl ⟨hw,hy⟩) hS ha h
theorem am_ {p:Prop} (h:p):aa p:=aa.mk h
def bl_:Nat→Nat→List Bool
  | 0,_=>[]
  | n+1,m=>Nat.beq (m % 2) 1 :: bl_ n (m / 2)
def bm_ (n m:Nat):Array Bool:=(bl_ n m).toArray
class Ge (b:World) (g:Nat):Prop where out:b.heap.size≤g
class Nb (g g':Nat):Prop where out:g≠g'
class Up (b w w1:World):Prop where o:Below b.heap.size b w→Below b.heap.size b w1
instance {b w:World} : Up b w w:=⟨id⟩
instance {b w w1:World} [h:Up b w w1] {n:Nat} : Up b w (w1.drewN n):=⟨fun k=>al (h.o k) n⟩
instance {b w w1:World} [h:Up b w w1] : Up b w w1.drew:=⟨fun k=>az (h.o k)⟩
instance {b w w1:World} [h:Up b w w1] {o:Obj} : Up b w (w1.alloc o):=⟨fun k=>aE (h.o k) o⟩
instance {b w w1:World} {g i:Nat} {v:Value} [k:Ge b g] [h:Up b w w1] : Up b w (w1.setCell ⟨g,i,none⟩ v):=⟨fun q=>aN (h.o q) k.out⟩
class Uk (g:Nat) (w w1:World):Prop where o:∀ {o:Obj},w.heap[g]? = some o→w1.heap[g]? = some o
instance {g:Nat} {w:World} : Uk g w w:=⟨id⟩
instance {g:Nat} {w w1:World} [h:Uk g w w1] {n:Nat} : Uk g w (w1.drewN n):=⟨fun k=>dO (h.o k) n⟩
instance {g:Nat} {w w1:World} [h:Uk g w w1] : Uk g w w1.drew:=⟨fun k=>bf (h.o k)⟩
instance {g:Nat} {w w1:World} [h:Uk g w w1] {o:Obj} : Uk g w (w1.alloc o):=⟨fun k=>ct (h.o k) o⟩
instance {g:Nat} {w w1:World} {g' i:Nat} {v:Value} [k:Nb g g'] [h:Uk g w w1] : Uk g w (w1.setCell ⟨g',i,none⟩ v):=⟨fun q=>(Below.heap_setCell w1 ⟨g',i,none⟩ v g k.out).trans (h.o q)⟩
theorem bw_ {b w w1:World} (h:aa (Below b.heap.size b w)) [u:Up b w w1] : Below b.heap.size b w1:=u.o h.out
theorem bs_ {b w w1 w2:World} (h:aa (Below b.heap.size b w)) (hb:Below w1.heap.size w1 w2) [u:Up b w w1] : aa (Below b.heap.size b w2):=⟨aw (u.o h.out) hb⟩
theorem gw_ {b w w1:World} {g:Nat} (h:aa (Below b.heap.size b w)) (hg:g=w1.heap.size) [u:Up b w w1] : Ge b g:=⟨hg ▸ av (u.o h.out)⟩
theorem bb_ {g:Nat} {o:Obj} {w w1 w2:World} (h:aa (w.heap[g]? = some o)) (hb:Below w1.heap.size w1 w2) [u:Uk g w w1] : aa (w2.heap[g]? = some o):=⟨bE (u.o h.out) hb⟩
theorem nl_ {g g':Nat} {o:Obj} {w w1:World} (h:aa (w.heap[g]? = some o)) (hg:g'=w1.heap.size) [u:Uk g w w1] : Nb g g':=⟨hg ▸ Nat.ne_of_lt (dI (u.o h.out))⟩
theorem ng_ {g g':Nat} {o:Obj} {w w1:World} (h:aa (w.heap[g]? = some o)) (hg:g'=w1.heap.size) [u:Uk g w w1] : Nb g' g:=⟨hg ▸ Nat.ne_of_gt (dI (u.o h.out))⟩
theorem cb_ {b w:World} {a:Addr} {v:Value} (h:aa (Below b.heap.size b w)) (hx:b.cell? a=some v):w.cell? a=some v:=ah h.out hx
theorem bc_ {w:World} {g t:Nat} {cs:Array Value} {v:Value} (h:aa (w.heap[g]? = some (.cells cs t (0,0)))) (i:Nat) (e:cs[i]? = some v:=by rfl):w.cell? ⟨g,i,none⟩=some v:=(aV h.out i).trans e
theorem kc_ {α : Type} {d:Kd α} {b w w1:World} {A:Option Addr} {n:Nat} {xs:List α} (h:aa (d.C b A n xs)) (hB:aa (Below b.heap.size b w)) [u:Up b w w1] : d.C w1 A n xs:=Kd.C_below h.out (u.o hB.out)
theorem gn_ {α : Type} {c:Prop} [Decidable c] {a:Option α} {r : α} (h:(if c then a else none)=some r):c∧a=some r:=by
  split at h
  · exact⟨by assumption,h⟩
  · exact absurd h (by simp)
theorem gm_ {α : Type} {c:Prop} [Decidable c] {a:Option α} {r : α} (h:(if c then none else a)=some r):¬c∧a=some r:=by
  split at h
  · exact absurd h (by simp)
  · exact⟨by assumption,h⟩
theorem gd_ {α : Type} {c:Prop} [Decidable c] {a:Option α} {r : α} (h:(if c then a else none)=some r):decide c=true∧a=some r:=⟨decide_eq_true (gn_ h).1,(gn_ h).2⟩
theorem ge_ {α : Type} {c:Prop} [Decidable c] {a:Option α} {r : α} (h:(if c then a else none)=some r):(c=True)∧decide c=true∧a=some r:=⟨eq_true (gn_ h).1,gd_ h⟩
theorem gl_ {α : Type} {c:Prop} [Decidable c] {a:Option α} {r : α} (h:(if c then a else none)=some r):aa c∧a=some r:=⟨⟨(gn_ h).1⟩,(gn_ h).2⟩
theorem bi_ {α β : Type} {o:Option α} {f : α → Option β} {r : β} (h:o.bind f=some r):∃x,aa (o=some x)∧f x=some r:=by
  obtain⟨x,a,b⟩:=Option.bind_eq_some_iff.mp h
  exact⟨x,⟨a⟩,b⟩
theorem ht_ {α : Type} {a b r : α} (h:(if true=true then a else b)=r):a=r:=by rwa [if_pos rfl] at h
theorem hf_ {α : Type} {a b r : α} (h:(if false=true then a else b)=r):b=r:=by rwa [if_neg (show ¬(false=true) by decide)] at h
theorem cP {α : Type} [BEq α] [LawfulBEq α] {a b : α} (h:a=b):(a == b)=true:=beq_iff_eq.mpr h
theorem cN {α : Type} [BEq α] [LawfulBEq α] {a b : α} (h:a=b):(a != b)=false:=bne_eq_false_iff_eq.mpr h
theorem cE {α : Type} [BEq α] [LawfulBEq α] {a b : α} (h:¬a=b):(a == b)=false:=beq_eq_false_iff_ne.mpr h
theorem cG {α : Type} [BEq α] [LawfulBEq α] {a b : α} (h:¬a=b):(a != b)=true:=bne_iff_ne.mpr h
theorem od_ {p:Prop} [Decidable p] (h:decide p=true:=by first | (with_reducible assumption) | assumption):p:=of_decide_eq_true h
theorem pq_ (i:Int) (n:Nat) (h:decide (0≤i)=true:=by first | (with_reducible assumption) | assumption) (k:decide (i<(n:Int))=true:=by first | (with_reducible assumption) | assumption):0≤i∧i<(n:Int):=⟨of_decide_eq_true h,of_decide_eq_true k⟩
theorem tt_ {p q:Prop} (h:p) (k:q):(p=True)∧(q=True):=⟨eq_true h,eq_true k⟩
section
variable {P:Program} {md:Region.Mode} {ops:Array Oper} {Q:Exit→Act→World→Prop} {S:World→Prop} {ds:List Nat} {T:Bool × List (List Nat × List Nat)} {oi:Oper} {a a':Act} {w:World} {f:FuncId} {fn:Func} {ags:Array Operand} {ts:Array TypeId} {args:Array Value} {v:Value} {rest:List Oper} {K:Act→World→Prop} {B:List Nat} {fuel m k:Nat} {l:Array Bool} {N:Option Tmp}
theorem on_ (i n:Nat) (l':Array Bool) (HT:aa (dL md ops=T))
    (h:∀K:Act→World→Prop,Shut (∀a' w',S w'→(S w'→aM P md ops Q S ds fuel l' a' w')→K a' w')→if Region.wanted oi (yielded ops a.tmps)=true then Oper.wp P oi a w K Q else K (a.put (some n) undef) w)
    (hi:ops[i]? = some oi:=by rfl) (hN:oi.dst=some n:=by rfl) (hc:(gL T.2 l.toList == [i] && l.toList.set i true == l'.toList)=true:=by kernel_rfl) (hd:i ∉ ds:=by decide):aM P md ops Q S ds (fuel+1) l a w:=
  one_ (i:=i) (N:=some n) l' hi hN (jT HT.out hc) hd h
theorem nm_ (h:aM P md ops Q S ds fuel l a' w) (ha:a=a':=by(show Act.put _ (some _) _=_;simp only[Act.put,List.setIfInBounds_toArray,List.set_cons_zero,List.set_cons_succ,aC,aG];rfl)):aM P md ops Q S ds fuel l a w:=ef ha h
theorem dn_ {n:Nat} (HT:aa (dL md ops=T)) (h:Q .normal a w) (hc:(gL T.2 l.toList == [])=true:=by kernel_rfl):aM P md ops Q S ds n l a w:=done_ (s5 HT.out hc) h
theorem bx_ {o:Oper} {W:World} (N:Tmp) (cs:Array Value) (t:TypeId) (h:∀g,g=W.heap.size→∀w1,w1.heap[g]? = some (.cells cs t (0,0))→Below W.heap.size W w1→wpList P ops Q rest (a.put o.dst (.pointer (some ⟨g,0,none⟩))) w1)
    (hd:o.dst=some N:=by with_reducible rfl) (hg:o.guard=none:=by rfl) (hr:(execOp a.eval o).run P W = .ok (.value (.pointer (some ⟨W.heap.size,0,none⟩))) (W.alloc (.cells cs t (0,0))):=by first | (go_simp;done)|(go_simp;rfl)):wpList P ops Q (o :: rest) a W:=bV hg hd hr h
theorem go_ {p:Ending→World→Prop} (hf:P.funcs[f]? = some fn) (hc:Calls P f args w p) (h:∀e w',p e w'→∃v,e = .returned v∧K (a.put N v) w')
    (hname : (fn.name == "runtime.NumGoroutine") = false := by kernel_rfl) (hb : fn.body.isSome = true := by rfl) (hw : Region.wanted oi (yielded ops a.tmps) = true := by rfl) (hN : oi.dst = N := by rfl) (hop : oi.op = .call { callee := .value (.func f), args := ags, argTypes := ts } := by rfl)
    (hargs:ags.map a.eval=args:=by(try simp only[List.map_toArray,List.map_cons,List.map_nil]);first | done | rfl | (simp only[List.length_drop,List.length_take];rfl)):if Region.wanted oi (yielded ops a.tmps)=true then Oper.wp P oi a w K Q else K (a.put N undef) w:=
  goes_ hf hname hb args hw hN hop hargs (hc.mono h)
theorem gf_ {p:Ending→World→Prop} (n:Nat) (hf:P.funcs[f]? = some fn) (hc:Calls P f args w p) (h:∀e w',p e w'→∃v,e = .returned v∧wpList P ops Q rest (a.put (some n) v) w')
    (hd : oi.dst = some n := by with_reducible rfl) (hop : oi.op = .call { callee := .value (.func f), args := ags, argTypes := ts } := by with_reducible rfl) (hg : oi.guard = none := by rfl) (hname : (fn.name == "runtime.NumGoroutine") = false := by kernel_rfl) (hb : fn.body.isSome = true := by rfl)
    (hargs:ags.map a.eval=args:=by(try simp only[List.map_toArray,List.map_cons,List.map_nil]);first | done | rfl | (simp only[List.length_drop,List.length_take];rfl)):wpList P ops Q (oi :: rest) a w:=
  hJ (some n) hd hg hf hname hb args hop hargs (hc.mono h)
theorem si_ {α : Type} {a b : α} (h:some a=some b):a=b:=Option.some.inj h
theorem gt_ {o:Oper} {W:World} (N:Tmp) (h:wpList P ops Q (o :: rest) a W) (hN:o.dst=some N:=by with_reducible rfl):wpList P ops Q (o :: rest) a W:=h
theorem pt_ (i:Int) (n:Nat) (h:decide (0≤i)=true:=by first | (with_reducible assumption) | assumption) (k:decide (i<(n:Int))=true:=by first | (with_reducible assumption) | assumption):(0≤i)=True∧(i<(n:Int))=True:=⟨eq_true (of_decide_eq_true h),eq_true (of_decide_eq_true k)⟩
theorem gB_ (n:Nat) (hf:P.funcs[f]? = some fn) (hc:Calls P f args w fun e w'=>e = .returned v∧Below w.heap.size w w') (h:∀w',Below w.heap.size w w'→wpList P ops Q rest (a.put (some n) v) w')
    (hd : oi.dst = some n := by with_reducible rfl) (hop : oi.op = .call { callee := .value (.func f), args := ags, argTypes := ts } := by with_reducible rfl) (hg : oi.guard = none := by rfl) (hname : (fn.name == "runtime.NumGoroutine") = false := by kernel_rfl) (hb : fn.body.isSome = true := by rfl)
    (hargs:ags.map a.eval=args:=by(try simp only[List.map_toArray,List.map_cons,List.map_nil]);first | done | rfl | (simp only[List.length_drop,List.length_take];rfl)):wpList P ops Q (oi :: rest) a w:=
  gf_ n hf hc (fun e w' ⟨he,hb⟩=>⟨v,he,h w' hb⟩) hd hop hg hname hb hargs
theorem gD_ (n:Nat) (hf:P.funcs[f]? = some fn) (hc:Calls P f args w fun e w'=>e = .returned v∧Drawn0 w w') (h:∀nd,wpList P ops Q rest (a.put (some n) v) (w.drewN nd))
    (hd : oi.dst = some n := by with_reducible rfl) (hop : oi.op = .call { callee := .value (.func f), args := ags, argTypes := ts } := by with_reducible rfl) (hg : oi.guard = none := by rfl) (hname : (fn.name == "runtime.NumGoroutine") = false := by kernel_rfl) (hb : fn.body.isSome = true := by rfl)
    (hargs:ags.map a.eval=args:=by(try simp only[List.map_toArray,List.map_cons,List.map_nil]);first | done | rfl | (simp only[List.length_drop,List.length_take];rfl)):wpList P ops Q (oi :: rest) a w:=
  gf_ n hf hc (fun e w' ⟨he,⟨nd,hb⟩⟩=>⟨v,he,hb ▸ h nd⟩) hd hop hg hname hb hargs
theorem oB_ (hf:P.funcs[f]? = some fn) (hc:Calls P f args w fun e w'=>e = .returned v∧Below w.heap.size w w') (h:∀w',Below w.heap.size w w'→K (a.put N v) w')
    (hname : (fn.name == "runtime.NumGoroutine") = false := by kernel_rfl) (hb : fn.body.isSome = true := by rfl) (hw : Region.wanted oi (yielded ops a.tmps) = true := by rfl) (hN : oi.dst = N := by rfl) (hop : oi.op = .call { callee := .value (.func f), args := ags, argTypes := ts } := by rfl)
    (hargs:ags.map a.eval=args:=by(try simp only[List.map_toArray,List.map_cons,List.map_nil]);first | done | rfl | (simp only[List.length_drop,List.length_take];rfl)):if Region.wanted oi (yielded ops a.tmps)=true then Oper.wp P oi a w K Q else K (a.put N undef) w:=
  go_ hf hc (fun e w' ⟨he,hb⟩=>⟨v,he,h w' hb⟩) hname hb hw hN hop hargs
theorem oD_ (hf:P.funcs[f]? = some fn) (hc:Calls P f args w fun e w'=>e = .returned v∧Drawn0 w w') (h:∀nd,K (a.put N v) (w.drewN nd))
    (hname : (fn.name == "runtime.NumGoroutine") = false := by kernel_rfl) (hb : fn.body.isSome = true := by rfl) (hw : Region.wanted oi (yielded ops a.tmps) = true := by rfl) (hN : oi.dst = N := by rfl) (hop : oi.op = .call { callee := .value (.func f), args := ags, argTypes := ts } := by rfl)
    (hargs:ags.map a.eval=args:=by(try simp only[List.map_toArray,List.map_cons,List.map_nil]);first | done | rfl | (simp only[List.length_drop,List.length_take];rfl)):if Region.wanted oi (yielded ops a.tmps)=true then Oper.wp P oi a w K Q else K (a.put N undef) w:=
  go_ hf hc (fun e w' ⟨he,⟨nd,hb⟩⟩=>⟨v,he,hb ▸ h nd⟩) hname hb hw hN hop hargs
theorem pv_ (i n:Nat) (h:aM P md ops Q S ds fuel (bm_ m (k ||| 1 <<< i)) a' w)
    (HT:aa (dL md ops=T):=by assumption) (hi:ops[i]? = some oi:=by rfl) (hN:oi.dst=some n:=by rfl) (hc:anyT T (bm_ m k).toList (bm_ m (k ||| 1 <<< i)).toList i=true:=by kernel_rfl) (hQ:∀c a w,Q (.panic c) (a.put oi.dst v) w→Q (.panic c) a w:=by exact fun _ _ _ h=>h) (hw:Region.wanted oi (yielded ops a.tmps)=true:=by rfl) (hy:∀w,(execOp a.eval oi).run P w = .ok (.value v) w:=by intro w';go_simp;with_reducible rfl)
    (ha:a.put (some n) v=a':=by simp only[Act.put,List.setIfInBounds_toArray,List.set_cons_zero,List.set_cons_succ,aC,aG];rfl):aM P md ops Q S ds (fuel+1) (bm_ m k) a w:=pu_ i n _ HT h hi hN hc hQ hw hy ha
theorem sv_ (i n:Nat) (h:aM P md ops Q S ds fuel (bm_ m (k ||| 1 <<< i)) a' w)
    (HT:aa (dL md ops=T):=by assumption) (hi:ops[i]? = some oi:=by rfl) (hN:oi.dst=some n:=by rfl) (hc:anyT T (bm_ m k).toList (bm_ m (k ||| 1 <<< i)).toList i=true:=by kernel_rfl) (hQ:∀c a w,Q (.panic c) (a.put oi.dst undef) w→Q (.panic c) a w:=by exact fun _ _ _ h=>h) (hw:Region.wanted oi (yielded ops a.tmps)=false:=by rfl)
    (ha:a.put (some n) undef=a':=by simp only[Act.put,List.setIfInBounds_toArray,List.set_cons_zero,List.set_cons_succ,aC,aG];rfl):aM P md ops Q S ds (fuel+1) (bm_ m k) a w:=sk_ i n _ HT h hi hN hc hQ hw ha
theorem tv_ (i n:Nat) (h:aM P md ops Q S ds fuel (bm_ m (k ||| 1 <<< i)) a' w)
    (HT:aa (dL md ops=T):=by assumption) (HW:aa (di T.2 B=true):=by assumption) (hS:S w:=by assumption) (hi:ops[i]? = some oi:=by rfl) (hN:oi.dst=some n:=by rfl) (hc:qI T B ds (bm_ m k).toList (bm_ m (k ||| 1 <<< i)).toList i=true:=by kernel_rfl) (hQ:∀c a w,Q (.panic c) (a.put oi.dst v) w→Q (.panic c) a w:=by exact fun _ _ _ h=>h) (hw:Region.wanted oi (yielded ops a.tmps)=true:=by rfl) (hy:∀w,S w→(execOp a.eval oi).run P w = .ok (.value v) w:=by intro w' hS_;(repeat (obtain⟨_,hS_⟩:=hS_));go_simp;with_reducible rfl)
    (ha:a.put (some n) v=a':=by simp only[Act.put,List.setIfInBounds_toArray,List.set_cons_zero,List.set_cons_succ,aC,aG];rfl):aM P md ops Q S ds (fuel+1) (bm_ m k) a w:=ta_ i n _ HT HW hS h hi hN hc hQ hw hy ha
theorem ov_ (i n:Nat)
    (h:∀K:Act→World→Prop,Shut (∀a' w',S w'→(S w'→aM P md ops Q S ds fuel (bm_ m (k ||| 1 <<< i)) a' w')→K a' w')→if Region.wanted oi (yielded ops a.tmps)=true then Oper.wp P oi a w K Q else K (a.put (some n) undef) w)
    (HT:aa (dL md ops=T):=by assumption) (hi:ops[i]? = some oi:=by rfl) (hN:oi.dst=some n:=by rfl) (hc:(gL T.2 (bm_ m k).toList == [i] && (bm_ m k).toList.set i true == (bm_ m (k ||| 1 <<< i)).toList)=true:=by kernel_rfl) (hd:i ∉ ds:=by decide):aM P md ops Q S ds (fuel+1) (bm_ m k) a w:=on_ i n _ HT h hi hN hc hd
theorem cc_ {b w w1:World} {a:Addr} (h:aa (Below b.heap.size b w)) (hx:b.cell? a=some v) [u:Up b w w1] : w1.cell? a=some v:=ah (u.o h.out) hx
end
class Uw (g:Nat) (w w1:World) (cs:Array Value) (cs1:outParam (Array Value)):Prop where o:∀ {t:TypeId},w.heap[g]? = some (.cells cs t (0,0))→w1.heap[g]? = some (.cells cs1 t (0,0))
instance {g:Nat} {w:World} {cs:Array Value} : Uw g w w cs cs:=⟨id⟩
instance {g:Nat} {w w1:World} {cs cs1:Array Value} [h:Uw g w w1 cs cs1] {n:Nat} : Uw g w (w1.drewN n) cs cs1:=⟨fun k=>dO (h.o k) n⟩
instance {g:Nat} {w w1:World} {cs cs1:Array Value} [h:Uw g w w1 cs cs1] : Uw g w w1.drew cs cs1:=⟨fun k=>bf (h.o k)⟩
instance {g:Nat} {w w1:World} {cs cs1:Array Value} [h:Uw g w w1 cs cs1] {o:Obj} : Uw g w (w1.alloc o) cs cs1:=⟨fun k=>ct (h.o k) o⟩
instance {g:Nat} {w w1:World} {cs cs1:Array Value} {g' i:Nat} {v:Value} [k:Nb g g'] [h:Uw g w w1 cs cs1] : Uw g w (w1.setCell ⟨g',i,none⟩ v) cs cs1:=⟨fun q=>lg (h.o q) (p:=⟨g',i,none⟩) k.out v⟩
instance {g:Nat} {w w1:World} {cs cs1:Array Value} {i:Nat} {v:Value} [h:Uw g w w1 cs cs1] : Uw g w (w1.setCell ⟨g,i,none⟩ v) cs (cs1.setIfInBounds i v):=⟨fun q=>nN (h.o q) i v rfl⟩
theorem pb_ {g t:Nat} {w w1:World} {cs cs1 cs2:Array Value} (h:aa (w.heap[g]? = some (.cells cs t (0,0)))) [u:Uw g w w1 cs cs1] (e:cs1=cs2:=by rfl):w1.heap[g]? = some (.cells cs2 t (0,0)):=e ▸ u.o h.out
theorem kR_ {α : Type} {d:Kd α} {e base n c:Nat} {ok:Nat→Prop} {w w1:World} {A:Option Addr} {xs:List α} (h:aa (Kd.R d e w base ok (.slice A n c) xs)) [u:Up w w w1] : d.C w1 A xs.length xs:=Kd.C_below (Kd.R_reads' h.out).2.2 (u.o (Below.refl _ _))
theorem kS_ {α : Type} {d:Kd α} {e base n c:Nat} {ok:Nat→Prop} {w w1:World} {A:Option Addr} {xs:List α} (h:aa (Kd.S d e w base ok (.slice A n c) xs)) [u:Up w w w1] : d.C w1 A xs.length xs:=Kd.C_below (Kd.S_reads' h.out).2.2 (u.o (Below.refl _ _))
theorem kV_ {α : Type} {d:Kd α} {e base n c:Nat} {ok:Nat→Prop} {w w1:World} {A:Option Addr} {xs:List α} (h:aa (Kd.V d e w base ok (.slice A n c) xs)) [u:Up w w w1] : d.C w1 A xs.length xs:=Kd.C_below (Kd.V_reads' h.out).2.2 (u.o (Below.refl _ _))
class Ud (w w1:World):Prop where
  R:∀ {α : Type} {d:Kd α} {e base:Nat} {ok:Nat→Prop} {v:Value} {xs:List α},Kd.R d e w base ok v xs→Kd.R d e w1 base ok v xs
  S:∀ {α : Type} {d:Kd α} {e base:Nat} {ok:Nat→Prop} {v:Value} {xs:List α},Kd.S d e w base ok v xs→Kd.S d e w1 base ok v xs
  V:∀ {α : Type} {d:Kd α} {e base:Nat} {ok:Nat→Prop} {v:Value} {xs:List α},Kd.V d e w base ok v xs→Kd.V d e w1 base ok v xs
instance {w:World} : Ud w w:=⟨id,id,id⟩
instance {w w1:World} [h:Ud w w1] {n:Nat} : Ud w (w1.drewN n):=⟨fun k=>Kd.R_drewN (h.R k) n,fun k=>Kd.S_drewN (h.S k) n,fun k=>Kd.V_drewN (h.V k) n⟩
instance {w w1:World} [h:Ud w w1] : Ud w w1.drew:=⟨fun k=>Kd.R_drew (h.R k),fun k=>Kd.S_drew (h.S k),fun k=>Kd.V_drew (h.V k)⟩
instance {w w1:World} [h:Ud w w1] {o:Obj} : Ud w (w1.alloc o):=⟨fun k=>Kd.R_alloc (h.R k) o,fun k=>Kd.S_alloc (h.S k) o,fun k=>Kd.V_alloc (h.V k) o⟩
theorem aR_ {α : Type} {d:Kd α} {e base:Nat} {ok:Nat→Prop} {w w1:World} {v:Value} {xs:List α} (h:Kd.R d e w base ok v xs) [u:Ud w w1] : Kd.R d e w1 base ok v xs:=u.R h
theorem aS_ {α : Type} {d:Kd α} {e base:Nat} {ok:Nat→Prop} {w w1:World} {v:Value} {xs:List α} (h:Kd.S d e w base ok v xs) [u:Ud w w1] : Kd.S d e w1 base ok v xs:=u.S h
theorem aV_ {α : Type} {d:Kd α} {e base:Nat} {ok:Nat→Prop} {w w1:World} {v:Value} {xs:List α} (h:Kd.V d e w base ok v xs) [u:Ud w w1] : Kd.V d e w1 base ok v xs:=u.V h
theorem gb_ {b w W w':World} (hW:W=w') (h:aa (Below b.heap.size b w)) [u:Up b w W] : aa (Below b.heap.size b w'):=hW ▸ ⟨u.o h.out⟩
theorem gk_ {g t:Nat} {w W w':World} {cs cs1:Array Value} (hW:W=w') (cs2:Array Value) (h:aa (w.heap[g]? = some (.cells cs t (0,0)))) [u:Uw g w W cs cs1] (e:cs1=cs2:=by rfl):aa (w'.heap[g]? = some (.cells cs2 t (0,0))):=hW ▸ e ▸ ⟨u.o h.out⟩
theorem u0_ {p:Prop} (h:p:=by repeat (first | (with_reducible first | exact HK.out | apply KeepBut.set_ | apply d7 | apply dF | apply ea) | exact HK.out)):p:=h
theorem u1_ {p:Prop} (h:p:=by first | rfl | (simp[bI,bK] <;> rfl)|(simp[*,bI,bK] <;> rfl)|(simp;exact dD _)):p:=h
theorem u2_ {p:Prop} (h:p:=by repeat (first | (with_reducible first | exact HI0.out | apply IsS114.alloc | apply IsS114.drewN | apply IsS114.drew | apply IsS114.set_1) | exact HI0.out)):p:=h
theorem u3_ {p:Prop} (h:p:=by first | rfl | (simp;done)|(simp[*];done)):p:=h
theorem u4_ {p:Prop} (h:p:=by repeat (first | (with_reducible first | exact HB.out | apply aE | apply al | apply az | refine aN ?_ (IsS114.ge HI0.out)) | exact HB.out)):p:=h
theorem u5_ {p:Prop} (h:p:=by repeat (first | (with_reducible first | exact HK.out | apply KeepBut.set_ | apply d7 | apply dF | apply ea | refine dx ?_ YG.out _) | exact HK.out)):p:=h
theorem u6_ {p:Prop} (h:p:=by repeat (first | (with_reducible first | exact HK.out | apply Kept.alloc | apply Kept.drewN | apply Kept.drew) | exact HK.out)):p:=h
theorem u7_ {p:Prop} (h:p:=by repeat (first | exact Drawn0.refl _ | apply Drawn0.step)):p:=h
theorem u8_ {p:Prop} (h:p:=by repeat (first | (with_reducible first | exact HK.out | apply KeepBut.set_ | apply d7 | apply dF | apply ea | refine dx ?_ Y9.out _ | refine dx ?_ Y5.out _) | exact HK.out)):p:=h
theorem u9_ {p:Prop} (h:p:=by repeat (first | (with_reducible first | exact HI0.out | apply IsS114.alloc | apply IsS114.drewN | apply IsS114.drew | apply IsS114.set_1 | refine IsS114.far ?_ ZP.out _ | refine IsS114.far ?_ ZH.out _) | exact HI0.out)):p:=h
theorem cD {p:Prop} (h:p:=by first | rfl | (simp;done)|(simp[*];done)|(simp;exact dD _)):p:=h
theorem fD {p:Prop} (h:p:=by repeat (first | (with_reducible first | exact HK.out | apply KeepBut.set_ | apply d7 | apply dF | apply ea | refine dx ?_ Y9.out _) | exact HK.out)):p:=h
theorem fo {p:Prop} (h:p:=by repeat (first | (with_reducible first | exact HI0.out | apply IsS114.alloc | apply IsS114.drewN | apply IsS114.drew | apply IsS114.set_1 | refine IsS114.far ?_ Zm.out _) | exact HI0.out)):p:=h
theorem fb {p:Prop} (h:p:=by repeat (first | (with_reducible first | exact HB.out | apply aE | apply al | apply az | refine aN ?_ (IsS114.ge HI0.out)) | exact HB.out)):p:=h
theorem gG {p:Prop} (h:p:=by repeat (first | (with_reducible first | exact HK.out | apply KeepBut.set_ | apply d7 | apply dF | apply ea | refine dx ?_ YO.out _ | refine dx ?_ YH.out _ | refine dx ?_ Y1.out _) | exact HK.out)):p:=h
theorem eW {p:Prop} (h:p:=by repeat (first | (with_reducible first | exact HI0.out | apply IsS114.alloc | apply IsS114.drewN | apply IsS114.drew | apply IsS114.set_1) | exact HI0.out)):p:=h
theorem gv {p:Prop} (h:p:=by repeat (first | (with_reducible first | exact HK.out | apply KeepBut.set_ | apply d7 | apply dF | apply ea | refine dx ?_ YG.out _ | refine dx ?_ YE.out _) | exact HK.out)):p:=h
theorem iI {p:Prop} (h:p:=by repeat (first | (with_reducible first | exact HI0.out | apply IsS114.alloc | apply IsS114.drewN | apply IsS114.drew | apply IsS114.set_1 | refine IsS114.far ?_ Zq.out _ | refine IsS114.far ?_ ZB.out _ | refine IsS114.far ?_ ZA.out _) | exact HI0.out)):p:=h
theorem u18_ {p:Prop} (h:p:=by first | exact HK.out.1 | exact(show Kept w _ (fun k_=>P0_ k_) from by repeat (first | (with_reducible first | exact HK.out | apply Kept.alloc | apply Kept.drewN | apply Kept.drew) | exact HK.out)).1):p:=h
theorem bM {p:Prop} (h:p:=by first | (go_simp;done)|(go_simp;rfl)):p:=h
theorem iH {p:Prop} (h:p:=by repeat (first | (with_reducible first | exact HI0.out | apply IsS114.alloc | apply IsS114.drewN | apply IsS114.drew | apply IsS114.set_1 | refine IsS114.far ?_ Zq.out _ | refine IsS114.far ?_ ZB.out _) | exact HI0.out)):p:=h
theorem eF {p:Prop} (h:p:=by(with_reducible repeat (first | apply Kd.Q_alloc | apply Kd.Q_drewN | apply Kd.Q_drew));exact Z6.out):p:=h
theorem jm {p:Prop} (h:p:=by repeat (first | (with_reducible first | exact HI0.out | apply IsS114.alloc | apply IsS114.drewN | apply IsS114.drew | apply IsS114.set_1 | refine IsS114.far ?_ Zm.out _ | refine IsS114.far ?_ Y2.out _) | exact HI0.out)):p:=h
theorem iJ {p:Prop} (h:p:=by repeat (first | (with_reducible first | exact HK.out | apply KeepBut.set_ | apply d7 | apply dF | apply ea | refine dx ?_ YO.out _ | refine dx ?_ YH.out _) | exact HK.out)):p:=h
theorem jf {p:Prop} (h:p:=by repeat (first | (with_reducible first | exact HI0.out | apply IsS114.alloc | apply IsS114.drewN | apply IsS114.drew | apply IsS114.set_1 | refine IsS114.far ?_ ZP.out _) | exact HI0.out)):p:=h
theorem kR {p:Prop} (h:p:=by repeat (first | (with_reducible first | exact HB.out | apply aE | apply al | apply az | refine aN ?_ (IsS114.ge HI0.out) | refine aN ?_ Zi.out | refine aN ?_ Za.out) | exact HB.out)):p:=h
theorem na {p:Prop} (h:p:=by repeat (first | (with_reducible first | exact HB.out | apply aE | apply al | apply az | refine aN ?_ (IsS114.ge HI0.out) | refine aN ?_ Y7.out | refine aN ?_ YV.out | refine aN ?_ Y6.out) | exact HB.out)):p:=h
theorem l9 {p:Prop} (h:p:=by repeat (first | (with_reducible first | exact HB.out | apply aE | apply al | apply az | refine aN ?_ (IsS114.ge HI0.out) | refine aN ?_ Zi.out | refine aN ?_ Za.out) | exact HB.out)):p:=h
theorem k7 {p:Prop} (h:p:=by repeat (first | (with_reducible first | exact HB.out | apply aE | apply al | apply az | refine aN ?_ (IsS114.ge HI0.out) | refine aN ?_ YU.out) | exact HB.out)):p:=h
theorem lT {p:Prop} (h:p:=by repeat (first | (with_reducible first | exact HI0.out | apply IsS114.alloc | apply IsS114.drewN | apply IsS114.drew | apply IsS114.set_1 | refine IsS114.far ?_ ZP.out _ | refine IsS114.far ?_ ZH.out _) | exact HI0.out)):p:=h
theorem am {p:Prop} (h:p:=by decide):p:=h
theorem nQ {p:Prop} (h:p:=by repeat (first | (with_reducible first | exact HB.out | apply aE | apply al | apply az | refine aN ?_ (IsS114.ge HI0.out) | refine aN ?_ YU.out | refine aN ?_ YI.out) | exact HB.out)):p:=h
theorem gI {p:Prop} (h:p:=by(with_reducible repeat (first | apply Kd.N_alloc | apply Kd.N_drewN | apply Kd.N_drew));exact ZW.out):p:=h
theorem pm {p:Prop} (h:p:=by repeat (first | (with_reducible first | exact HB.out | apply aE | apply al | apply az | refine aN ?_ (IsS114.ge HI0.out) | refine aN ?_ Y7.out | refine aN ?_ YV.out) | exact HB.out)):p:=h
theorem gV {p:Prop} (h:p:=by simp only[jU,Act.put,List.setIfInBounds_toArray,List.set_cons_zero,List.set_cons_succ]):p:=h
theorem oY {p:Prop} (h:p:=by repeat (first | (with_reducible first | exact HB.out | apply aE | apply al | apply az | refine aN ?_ (IsS114.ge HI567.out) | refine aN ?_ YP.out) | exact HB.out)):p:=h
theorem au {p:Prop} (h:p:=by omega):p:=h
theorem u37_ {p:Prop} (h:p:=by(with_reducible repeat (first | apply Kd.N_alloc | apply Kd.N_drewN | apply Kd.N_drew));exact(Kd.N_mono (Kd.N_far (p:=⟨Z5,3,none⟩) (Kd.N_far (p:=⟨Z5,2,none⟩) (Kd.N_far (p:=⟨Z5,1,none⟩) (Kd.N_far (p:=⟨Z5,0,none⟩) (Kd.N_mono Zv.out (fun k_ hk=>(⟨hk,hk.2⟩:_∧k_≠Z5))) (fun _ hk=>hk.2) (.slice Zx ZY.length Zy)) (fun _ hk=>hk.2) (.slice ZE ZZ.length ZQ)) (fun _ hk=>hk.2) (.slice Zs ZN.length Zt)) (fun _ hk=>hk.2) (.int .i64 ZF)) (fun _ h_=>h_.1))):p:=h
theorem pI {p:Prop} (h:p:=by(with_reducible repeat (first | apply Kd.Q_alloc | apply Kd.Q_drewN | apply Kd.Q_drew));exact Zz.out):p:=h
theorem u39_ {p:Prop} (h:p:=by exact(Reps.one (show Kd.M Kd.string _ _ _ (⟨#[48,49]⟩:ByteArray) [.string (⟨#[48,49]⟩:ByteArray)] from rfl) (Reps.one (show Kd.M Kd.string _ _ _ (⟨#[]⟩:ByteArray) [.string (⟨#[]⟩:ByteArray)] from rfl) (Reps.one (show Kd.M Kd.string _ _ _ (⟨#[120,44]⟩:ByteArray) [.string (⟨#[120,44]⟩:ByteArray)] from rfl) (Reps.one (show Kd.M Kd.string _ _ _ (⟨#[45,48]⟩:ByteArray) [.string (⟨#[45,48]⟩:ByteArray)] from rfl) (Reps.one (show Kd.M Kd.string _ _ _ (⟨#[114,101,100,44,44,98,108,117,101]⟩:ByteArray) [.string (⟨#[114,101,100,44,44,98,108,117,101]⟩:ByteArray)] from rfl) (Reps.one (show Kd.M Kd.string _ _ _ (⟨#[97,44,98,44,99,44,100,44,101]⟩:ByteArray) [.string (⟨#[97,44,98,44,99,44,100,44,101]⟩:ByteArray)] from rfl) (Reps.one (show Kd.M Kd.string _ _ _ (⟨#[119,111,114,100,115,32,104,101,114,101]⟩:ByteArray) [.string (⟨#[119,111,114,100,115,32,104,101,114,101]⟩:ByteArray)] from rfl) (Reps.none _ _))))))))):p:=h
theorem mr {p:Prop} (h:p:=by(with_reducible repeat (first | apply Kd.N_alloc | apply Kd.N_drewN | apply Kd.N_drew));exact Z1.out):p:=h
theorem u41_ {p:Prop} (h:p:=by repeat (first | (with_reducible first | exact HB.out | apply aE | apply al | apply az | refine aN ?_ (IsS114.ge HI0.out) | refine aN ?_ YU.out) | exact HB.out)):p:=h
theorem m9 {p:Prop} (h:p:=by(with_reducible repeat (first | apply Kd.N_alloc | apply Kd.N_drewN | apply Kd.N_drew));exact Z0.out):p:=h
theorem u43_ {p:Prop} (h:p:=by repeat (first | (with_reducible exact YT.out)|(with_reducible refine Kd.C_alloc ?_ _)|(with_reducible refine Kd.C_drewN ?_ _)|(with_reducible refine Kd.C_drew ?_) | exact YT.out)):p:=h
theorem dV {p:Prop} (h:p:=by have:=HK1.out;omega):p:=h
theorem u45_ {p:Prop} (h:p:=by repeat (first | (with_reducible first | exact HI0.out | apply IsS114.alloc | apply IsS114.drewN | apply IsS114.drew | apply IsS114.set_1 | refine IsS114.far ?_ Zm.out _) | exact HI0.out)):p:=h
theorem u46_ {p:Prop} (h:p:=by repeat (first | (with_reducible first | exact HK.out | apply KeepBut.set_ | apply d7 | apply dF | apply ea | refine dx ?_ YO.out _) | exact HK.out)):p:=h
theorem bW {p:Prop} (h:p:=by kernel_rfl):p:=h
theorem pf {p:Prop} (h:p:=by first | (rw[bU];exact hn127_0)|(show (Addr.add _ _).block≠_;rw[bU];exact hn127_0) | exact hn127_0):p:=h
theorem pu {p:Prop} (h:p:=by first | (rw[bU];exact hn127_1)|(show (Addr.add _ _).block≠_;rw[bU];exact hn127_1) | exact hn127_1):p:=h
theorem u50_ {p:Prop} (h:p:=by repeat (first | (with_reducible first | exact HB.out | apply aE | apply al | apply az | refine aN ?_ (IsS114.ge HI0.out) | refine aN ?_ Zi.out) | exact HB.out)):p:=h
theorem u51_ {p:Prop} (h:p:=by repeat (first | (with_reducible first | exact HB.out | apply aE | apply al | apply az | refine aN ?_ (IsS114.ge HI0.out) | refine aN ?_ Zi.out) | exact HB.out)):p:=h
theorem u52_ {p:Prop} (h:p:=by repeat (first | (with_reducible first | exact HI567.out | apply IsS114.alloc | apply IsS114.drewN | apply IsS114.drew | apply IsS114.set_1 | refine IsS114.far ?_ Zf.out _) | exact HI567.out)):p:=h
theorem k5 {p:Prop} (h:p:=by first | exact Kd.R_base ho0 | exact Kd.S_base ho0 | exact Kd.N_base ho0):p:=h
theorem u54_ {p:Prop} (h:p:=by repeat (first | (with_reducible first | exact HI0.out | apply IsS114.alloc | apply IsS114.drewN | apply IsS114.drew | apply IsS114.set_1 | refine IsS114.far ?_ Zq.out _) | exact HI0.out)):p:=h
theorem u55_ {p:Prop} (h:p:=by repeat (first | exact YK.out | (with_reducible refine Kd.C_alloc ?_ _)|(with_reducible refine Kd.C_drewN ?_ _)|(with_reducible refine Kd.C_drew ?_))):p:=h
theorem u56_ {p:Prop} (h:p:=by repeat (first | exact YJ.out | (with_reducible refine Kd.C_alloc ?_ _)|(with_reducible refine Kd.C_drewN ?_ _)|(with_reducible refine Kd.C_drew ?_))):p:=h
theorem u57_ {p:Prop} (h:p:=by repeat (first | (with_reducible first | exact HI0.out | apply IsS114.alloc | apply IsS114.drewN | apply IsS114.drew | apply IsS114.set_1 | refine IsS114.far ?_ ZP.out _) | exact HI0.out)):p:=h
theorem pb {p:Prop} (h:p:=by have:=World.block_lt_of_cell? _ _ Z3;first | rwa [bU] at this | exact this):p:=h
theorem fi {p:Prop} (h:p:=by exact(av (bw_ HB))):p:=h
theorem u60_ {p:Prop} (h:p:=by first | (rw[bU];exact hn162_0)|(show (Addr.add _ _).block≠_;rw[bU];exact hn162_0) | exact hn162_0):p:=h
theorem u61_ {p:Prop} (h:p:=by first | (rw[bU];exact hn162_1)|(show (Addr.add _ _).block≠_;rw[bU];exact hn162_1) | exact hn162_1):p:=h
theorem u62_ {p:Prop} (h:p:=by first | (rw[bU];exact hn162_2)|(show (Addr.add _ _).block≠_;rw[bU];exact hn162_2) | exact hn162_2):p:=h
theorem bb {p:Prop} (h:p:=by simp):p:=h
theorem iL {p:Prop} (h:p:=by first | omega | exact Nat.le_refl _):p:=h
theorem u65_ {p:Prop} (h:p:=by repeat (first | (with_reducible first | exact HB.out | apply aE | apply al | apply az | refine aN ?_ (IsS114.ge HI0.out) | refine aN ?_ Y7.out | refine aN ?_ YV.out | refine aN ?_ Y6.out) | exact HB.out)):p:=h
theorem u66_ {p:Prop} (h:p:=by(with_reducible repeat (first | apply Kd.N_alloc | apply Kd.N_drewN | apply Kd.N_drew));exact Zv.out):p:=h
theorem u67_ {p:Prop} (h:p:=by repeat (first | (with_reducible first | exact HI0.out | apply IsS114.alloc | apply IsS114.drewN | apply IsS114.drew | apply IsS114.set_1 | refine IsS114.far ?_ Zq.out _ | refine IsS114.far ?_ ZB.out _ | refine IsS114.far ?_ ZA.out _) | exact HI0.out)):p:=h
theorem u68_ {p:Prop} (h:p:=by repeat (first | exact(Kd.C_below HG3_.out HB.out)|(with_reducible refine Kd.C_alloc ?_ _)|(with_reducible refine Kd.C_drewN ?_ _)|(with_reducible refine Kd.C_drew ?_))):p:=h
theorem u69_ {p:Prop} (h:p:=by repeat (first | exact(Kd.Q_reads' Zz.out).2.2 | (with_reducible refine Kd.C_alloc ?_ _)|(with_reducible refine Kd.C_drewN ?_ _)|(with_reducible refine Kd.C_drew ?_))):p:=h
theorem u70_ {p:Prop} (h:p:=by(with_reducible repeat (first | apply Kd.R_alloc | apply Kd.R_drewN | apply Kd.R_drew));exact Kd.R_mono Z4.out (fun _ hk=>⟨hk.1.1,⟨hk.2,hk.1.2⟩⟩)):p:=h
theorem u71_ {p:Prop} (h:p:=by simp only[jU,Act.put,List.setIfInBounds_toArray,List.set_cons_zero,List.set_cons_succ];rfl):p:=h
theorem mR {p:Prop} (h:p:=by have:=HK1.out;first | omega | exact Nat.le_refl _):p:=h
theorem u73_ {p:Prop} (h:p:=by have:=World.block_lt_of_cell? _ _ ZT;first | rwa [bU] at this | exact this):p:=h
theorem eY {p:Prop} (h:p:=by exact(Reps.none _ _)):p:=h
theorem u75_ {p:Prop} (h:p:=by repeat (first | exact ZI.out | (with_reducible refine Kd.C_alloc ?_ _)|(with_reducible refine Kd.C_drewN ?_ _)|(with_reducible refine Kd.C_drew ?_))):p:=h
theorem u76_ {p:Prop} (h:p:=by(try simp only[List.map_toArray,List.map_cons,List.map_nil]);first | done | rfl | (simp only[List.length_drop,List.length_take];rfl)):p:=h
theorem u77_ {p:Prop} (h:p:=by(with_reducible repeat (first | apply Kd.N_alloc | apply Kd.N_drewN | apply Kd.N_drew));exact Zj.out):p:=h
theorem u78_ {p:Prop} (h:p:=by first | rfl | (simp[bI,bK] <;> rfl)|(simp only[← YX];first | rfl | (simp[bI,bK] <;> rfl))|(simp[*,bI,bK] <;> rfl)|(simp;exact dD _)):p:=h
theorem u79_ {p:Prop} (h:p:=by repeat (first | (with_reducible first | exact HBW.out | apply aE | apply al | apply az) | exact HBW.out)):p:=h
theorem u80_ {p:Prop} (h:p:=by repeat (first | (with_reducible first | exact HB.out | apply aE | apply al | apply az | refine aN ?_ (IsS114.ge HI567.out) | refine aN ?_ YP.out) | exact HB.out)):p:=h
theorem u81_ {p:Prop} (h:p:=by(with_reducible repeat (first | apply Kd.R_alloc | apply Kd.R_drewN | apply Kd.R_drew));exact Kd.R_mono ZR.out (fun _ hk=>hk.2)):p:=h
theorem u82_ {p:Prop} (h:p:=by exact(Reps.one (show Kd.M Kd.string _ _ _ a1 [.string a1] from rfl) (Reps.none _ _))):p:=h
theorem l5 {p:Prop} (h:p:=by have:=HK1.out;have:=HK2.out;omega):p:=h
theorem u84_ {p:Prop} (h:p:=by repeat (first | (with_reducible exact Zb.out)|(with_reducible refine Kd.C_alloc ?_ _)|(with_reducible refine Kd.C_drewN ?_ _)|(with_reducible refine Kd.C_drew ?_) | exact Zb.out)):p:=h
theorem u85_ {p:Prop} (h:p:=by repeat (first | (with_reducible first | exact HI567.out | apply IsS114.alloc | apply IsS114.drewN | apply IsS114.drew | apply IsS114.set_1 | refine IsS114.far ?_ Zf.out _) | exact HI567.out)):p:=h
theorem jZ {p:Prop} (h:p:=by exact StopsIn.below HG_.out (bw_ HB)):p:=h
theorem u87_ {p:Prop} (h:p:=by first | (rw[bU];exact hn154_0)|(show (Addr.add _ _).block≠_;rw[bU];exact hn154_0) | exact hn154_0):p:=h
theorem u88_ {p:Prop} (h:p:=by first | (rw[bU];exact hn154_1)|(show (Addr.add _ _).block≠_;rw[bU];exact hn154_1) | exact hn154_1):p:=h
theorem ie {p:Prop} (h:p:=by exact(fun _ _=>trivial)):p:=h
theorem u90_ {p:Prop} (h:p:=by repeat (first | exact(Kd.N_reads' Zv.out).2.2 | (with_reducible refine Kd.C_alloc ?_ _)|(with_reducible refine Kd.C_drewN ?_ _)|(with_reducible refine Kd.C_drew ?_))):p:=h
theorem u91_ {p:Prop} (h:p:=by(with_reducible repeat (first | apply Kd.R_alloc | apply Kd.R_drewN | apply Kd.R_drew));exact Kd.R_mono Zl.out (fun _ hk=>⟨hk.1,⟨hk.2.2,hk.2.1⟩⟩)):p:=h
theorem u92_ {p:Prop} (h:p:=by(with_reducible repeat (first | apply Kd.R_alloc | apply Kd.R_drewN | apply Kd.R_drew));exact Kd.R_mono Zk.out (fun _ hk=>⟨hk.1,⟨hk.2.2,hk.2.1⟩⟩)):p:=h
theorem u93_ {p:Prop} (h:p:=by(with_reducible repeat (first | apply Kd.Q_alloc | apply Kd.Q_drewN | apply Kd.Q_drew));exact Y0.out):p:=h
theorem u94_ {p:Prop} (h:p:=by have:=YF.out;have:=HK2.out;have:=HK3.out;have:=YQ.out;omega):p:=h
theorem u95_ {p:Prop} (h:p:=by have:=World.block_lt_of_cell? _ _ ZO;first | rwa [bU] at this | exact this):p:=h
theorem fc {p:Prop} (h:p:=by exact(bw_ HB)):p:=h
theorem u97_ {p:Prop} (h:p:=by repeat (first | (with_reducible first | exact HB.out | apply aE | apply al | apply az | refine aN ?_ (IsS114.ge HI0.out) | refine aN ?_ Y7.out | refine aN ?_ YV.out) | exact HB.out)):p:=h
theorem cB {p:Prop} (h:p:=by rfl):p:=h
theorem u99_ {p:Prop} (h:p:=by repeat (first | (with_reducible first | exact HI0.out | apply IsS114.alloc | apply IsS114.drewN | apply IsS114.drew | apply IsS114.set_1 | refine IsS114.far ?_ Zq.out _ | refine IsS114.far ?_ ZB.out _) | exact HI0.out)):p:=h
theorem u100_ {p:Prop} (h:p:=by first | rfl | (simp[bI,bK] <;> rfl)|(simp only[← Y8,← YZ];first | rfl | (simp[bI,bK] <;> rfl))|(simp[*,bI,bK] <;> rfl)|(simp;exact dD _)):p:=h
theorem so {p:Prop} (h:p:=by(with_reducible repeat (first | apply Kd.N_alloc | apply Kd.N_drewN | apply Kd.N_drew));exact YM.out):p:=h
theorem sC {p:Prop} (h:p:=by(with_reducible repeat (first | apply Kd.N_alloc | apply Kd.N_drewN | apply Kd.N_drew));exact Zw.out):p:=h
theorem sd {p:Prop} (h:p:=by(with_reducible repeat (first | apply Kd.N_alloc | apply Kd.N_drewN | apply Kd.N_drew));exact Y4.out):p:=h
theorem u104_ {p:Prop} (h:p:=by repeat (first | (with_reducible first | exact HB.out | apply aE | apply al | apply az | refine aN ?_ (IsS114.ge HI0.out) | refine aN ?_ Y7.out) | exact HB.out)):p:=h
theorem sf {p:Prop} (h:p:=by(with_reducible repeat (first | apply Kd.N_alloc | apply Kd.N_drewN | apply Kd.N_drew));exact Zg.out):p:=h
theorem u106_ {p:Prop} (h:p:=by first | rfl | (simp[bI,bK] <;> rfl)|(simp only[← Zr];first | rfl | (simp[bI,bK] <;> rfl))|(simp[*,bI,bK] <;> rfl)|(simp;exact dD _)):p:=h
theorem u107_ {p:Prop} (h:p:=by first | rfl | (simp[bI,bK] <;> rfl)|(simp only[← YY];first | rfl | (simp[bI,bK] <;> rfl))|(simp[*,bI,bK] <;> rfl)|(simp;exact dD _)):p:=h
theorem u108_ {p:Prop} (h:p:=by first | rfl | (simp[bI,bK] <;> rfl)|(simp only[← Y8];first | rfl | (simp[bI,bK] <;> rfl))|(simp[*,bI,bK] <;> rfl)|(simp;exact dD _)):p:=h
theorem u109_ {p:Prop} (h:p:=by(with_reducible repeat (first | apply Kd.V_alloc | apply Kd.V_drewN | apply Kd.V_drew));exact Kd.V_mono Z2.out (fun _ hk=>⟨hk.1,⟨hk.2.2.2.1,⟨hk.2.2.2.2.1,hk.2.2.2.2.2⟩⟩⟩)):p:=h
theorem u110_ {p:Prop} (h:p:=by(with_reducible repeat (first | apply Kd.V_alloc | apply Kd.V_drewN | apply Kd.V_drew));exact Kd.V_mono ZG.out (fun _ hk=>⟨hk.1.2,⟨hk.1.1.1.1,⟨hk.1.1.1.2,hk.1.1.2⟩⟩⟩)):p:=h
theorem u111_ {p:Prop} (h:p:=by(with_reducible repeat (first | apply Kd.N_alloc | apply Kd.N_drewN | apply Kd.N_drew));exact Kd.N_mono Z0.out (fun _ hk=>⟨hk.1,⟨hk.2.2.2.1,hk.2.2.2.2⟩⟩)):p:=h
theorem u112_ {p:Prop} (h:p:=by(try simp only[List.map_toArray,List.map_cons,List.map_nil]);first | done | (simp only[YZ,Y8];rfl) | rfl | (simp only[List.length_drop,List.length_take];rfl)):p:=h
theorem sv {p:Prop} (h:p:=by have:=YF.out;have:=HK2.out;have:=HK3.out;first | omega | exact Nat.le_refl _):p:=h
theorem u114_ {p:Prop} (h:p:=by(with_reducible repeat (first | apply Kd.N_alloc | apply Kd.N_drewN | apply Kd.N_drew));exact Kd.N_mono Z1.out (fun _ hk=>⟨hk.2.2.1,⟨hk.2.2.2.1,hk.2.2.2.2⟩⟩)):p:=h
theorem u115_ {p:Prop} (h:p:=by(with_reducible repeat (first | apply Kd.N_alloc | apply Kd.N_drewN | apply Kd.N_drew));exact Kd.N_mono Zj.out (fun _ hk=>⟨hk.1.1,⟨hk.1.2.1,hk.1.2.2⟩⟩)):p:=h
theorem u116_ {p:Prop} (h:p:=by(with_reducible repeat (first | apply Kd.N_alloc | apply Kd.N_drewN | apply Kd.N_drew));exact Kd.N_mono Zv.out (fun _ hk=>⟨hk.1.2,⟨hk.1.1.1,hk.1.1.2⟩⟩)):p:=h
theorem u117_ {p:Prop} (h:p:=by(try simp only[List.map_toArray,List.map_cons,List.map_nil]);first | done | (simp only[YY];rfl) | rfl | (simp only[List.length_drop,List.length_take];rfl)):p:=h
theorem u118_ {p:Prop} (h:p:=by(try simp only[List.map_toArray,List.map_cons,List.map_nil]);first | done | (simp only[Y8];rfl) | rfl | (simp only[List.length_drop,List.length_take];rfl)):p:=h
theorem sF {p:Prop} (h:p:=by have:=HLG.out.next (c.f0,tt) row.f0 (n:Int);simpa [Nat.add_assoc] using this):p:=h
theorem u120_ {p:Prop} (h:p:=by(with_reducible repeat (first | apply Kd.R_alloc | apply Kd.R_drewN | apply Kd.R_drew));exact Kd.R_mono Zp.out (fun _ hk=>⟨hk.1.1.1,⟨hk.1.2,hk.2⟩⟩)):p:=h
theorem u121_ {p:Prop} (h:p:=by(with_reducible repeat (first | apply Kd.R_alloc | apply Kd.R_drewN | apply Kd.R_drew));exact Kd.R_mono ZD.out (fun _ hk=>⟨⟨hk.1.1.1,hk.1.2⟩,hk.2⟩)):p:=h
theorem u122_ {p:Prop} (h:p:=by(with_reducible repeat (first | apply Kd.R_alloc | apply Kd.R_drewN | apply Kd.R_drew));exact Kd.R_mono Zo.out (fun _ hk=>⟨hk.1.1.1,⟨hk.1.2,hk.2⟩⟩)):p:=h
theorem u123_ {p:Prop} (h:p:=by(with_reducible repeat (first | apply Kd.R_alloc | apply Kd.R_drewN | apply Kd.R_drew));exact Kd.R_mono ZC.out (fun _ hk=>⟨⟨hk.1.1.1,hk.1.2⟩,hk.2⟩)):p:=h
theorem u124_ {p:Prop} (h:p:=by repeat (first | exact(Kd.N_reads' Zj.out).2.2 | (with_reducible refine Kd.C_alloc ?_ _)|(with_reducible refine Kd.C_drewN ?_ _)|(with_reducible refine Kd.C_drew ?_))):p:=h
theorem u125_ {p:Prop} (h:p:=by repeat (first | exact(Kd.N_reads' Y3.out).2.2 | (with_reducible refine Kd.C_alloc ?_ _)|(with_reducible refine Kd.C_drewN ?_ _)|(with_reducible refine Kd.C_drew ?_))):p:=h
theorem u126_ {p:Prop} (h:p:=by repeat (first | exact(Kd.Q_reads' Z6.out).2.2 | (with_reducible refine Kd.C_alloc ?_ _)|(with_reducible refine Kd.C_drewN ?_ _)|(with_reducible refine Kd.C_drew ?_))):p:=h
theorem u127_ {p:Prop} (h:p:=by repeat (first | exact(Kd.N_reads' ZW.out).2.2 | (with_reducible refine Kd.C_alloc ?_ _)|(with_reducible refine Kd.C_drewN ?_ _)|(with_reducible refine Kd.C_drew ?_))):p:=h
theorem u128_ {p:Prop} (h:p:=by(with_reducible repeat (first | apply Kd.V_alloc | apply Kd.V_drewN | apply Kd.V_drew));exact Kd.V_mono ZK.out (fun _ hk=>⟨hk.1.1,⟨hk.2,hk.1.2⟩⟩)):p:=h
theorem u129_ {p:Prop} (h:p:=by(with_reducible repeat (first | apply Kd.R_alloc | apply Kd.R_drewN | apply Kd.R_drew));exact Kd.R_mono ZD.out (fun _ hk=>⟨hk.1.1,⟨hk.2,hk.1.2⟩⟩)):p:=h
theorem u130_ {p:Prop} (h:p:=by(with_reducible repeat (first | apply Kd.V_alloc | apply Kd.V_drewN | apply Kd.V_drew));exact Kd.V_mono ZM.out (fun _ hk=>⟨hk.1.1,⟨hk.2,hk.1.2⟩⟩)):p:=h
theorem u131_ {p:Prop} (h:p:=by(with_reducible repeat (first | apply Kd.V_alloc | apply Kd.V_drewN | apply Kd.V_drew));exact Kd.V_mono ZJ.out (fun _ hk=>⟨hk.1.1,⟨hk.2,hk.1.2⟩⟩)):p:=h
theorem u132_ {p:Prop} (h:p:=by(with_reducible repeat (first | apply Kd.R_alloc | apply Kd.R_drewN | apply Kd.R_drew));exact Kd.R_mono ZC.out (fun _ hk=>⟨hk.1.1,⟨hk.2,hk.1.2⟩⟩)):p:=h
theorem u133_ {p:Prop} (h:p:=by(with_reducible repeat (first | apply Kd.V_alloc | apply Kd.V_drewN | apply Kd.V_drew));exact Kd.V_mono ZL.out (fun _ hk=>⟨hk.1.1,⟨hk.2,hk.1.2⟩⟩)):p:=h
theorem u134_ {p:Prop} (h:p:=by(with_reducible repeat (first | apply Kd.R_alloc | apply Kd.R_drewN | apply Kd.R_drew));exact Kd.R_mono Z4.out (fun _ hk=>⟨hk.1.1,⟨hk.1.2,hk.2⟩⟩)):p:=h
theorem u135_ {p:Prop} (h:p:=by(with_reducible repeat (first | apply Kd.R_alloc | apply Kd.R_drewN | apply Kd.R_drew));exact Kd.R_mono Z4.out (fun _ hk=>⟨⟨hk.1.1,hk.2⟩,hk.1.2⟩)):p:=h
theorem u136_ {p:Prop} (h:p:=by(with_reducible repeat (first | apply Kd.R_alloc | apply Kd.R_drewN | apply Kd.R_drew));exact Kd.R_mono Z4.out (fun _ hk=>⟨⟨hk.1,hk.2.2⟩,hk.2.1⟩)):p:=h
theorem u137_ {p:Prop} (h:p:=by(with_reducible repeat (first | apply Kd.S_alloc | apply Kd.S_drewN | apply Kd.S_drew));exact Kd.S_mono ZX.out (fun k_ hk=>⟨hk.1,fun e_=>hk.2 e_⟩)):p:=h
theorem u138_ {p:Prop} (h:p:=by exact(Reps.one (show Kd.M (Kd.int .u8) _ _ _ ((wrap64 (48+(Int.tmod a0 10))) % 256) [.int .u8 ((wrap64 (48+(Int.tmod a0 10))) % 256)] from rfl) (Reps.none _ _))):p:=h
theorem u139_ {p:Prop} (h:p:=by first | exact Kd.R_nil _ _ _ _ _ | exact Kd.N_nil _ _ _ _ _ | exact Kd.V_nil _ _ _ _ _ | exact Kd.Q_nil _ _ _ _ _ | exact Kd.S_nil _ _ _ _ _):p:=h
theorem u140_ {p:Prop} (h:p:=by(with_reducible repeat (first | apply Kd.R_alloc | apply Kd.R_drewN | apply Kd.R_drew));exact Kd.R_mono Z9.out (fun _ hk=>hk.2)):p:=h
theorem u141_ {p:Prop} (h:p:=by(with_reducible repeat (first | apply Kd.R_alloc | apply Kd.R_drewN | apply Kd.R_drew));exact Kd.R_mono ZV.out (fun _ hk=>trivial)):p:=h
theorem u142_ {p:Prop} (h:p:=by rw[← HRR.out];exact Kd.S_mono hz.1 (fun k (hk:ok k∨w1.heap.size≤k)=>hk.elim .inl (fun h=>.inr (Nat.le_trans HB1.out.size h)))):p:=h
theorem np {p:Prop} (h:p:=by exact(Kd.R_reads' Zu.out).2.1):p:=h
theorem u144_ {p:Prop} (h:p:=by(try simp only[List.map_toArray,List.map_cons,List.map_nil,List.append_toArray,List.cons_append,List.nil_append]);rfl):p:=h
theorem sI {p:Prop} (h:p:=by first | rfl | (simp;done)|(go_simp;done)|(go_simp;rfl)):p:=h
theorem u146_ {p:Prop} (h:p:=by have:=HI.out;have:=HL.out;have:=HN1.out;simp only[List.length_append,List.length_nil,List.length_cons];omega):p:=h
theorem qp {p:Prop} (h:p:=by have:=HK1.out;have:=YN.out;omega):p:=h
theorem nx {p:Prop} (h:p:=by have:=hk.2.2.1;omega):p:=h
theorem u149_ {p:Prop} (h:p:=by(with_reducible repeat (first | apply Kd.V_alloc | apply Kd.V_drewN | apply Kd.V_drew));exact HL778_2.out):p:=h
theorem sy {p:Prop} (h:p:=by have:=YL.out;first | omega | exact Nat.le_refl _):p:=h
theorem u151_ {p:Prop} (h:p:=by(with_reducible repeat (first | apply Kd.N_alloc | apply Kd.N_drewN | apply Kd.N_drew));exact Zd.out):p:=h
theorem qx {p:Prop} (h:p:=by have:=G.out;have:=h_.2;omega):p:=h
theorem kB {p:Prop} (h:p:=by exact(aR_ Z6.out)):p:=h
theorem u154_ {p:Prop} (h:p:=by have h1_:=HXL.out.1;have h2_:=HLQ.out;first | omega | (simp at h1_ ⊢;done)|(simp at h1_ ⊢;omega)):p:=h
theorem u155_ {p:Prop} (h:p:=by exact Kd.S_alloc (Kd.S_mono (Kd.S_bound YS.out) (fun k hk=>⟨.inl hk.1,by have:=hk.2.2.1;omega⟩)) _):p:=h
theorem fF {p:Prop} (h:p:=by go_num):p:=h
theorem ga {p:Prop} (h:p:=by first | exact HK.out.1 | exact(show Kept w _ (fun k_=>P0_ k_) from u6_).1):p:=h
theorem qB {p:Prop} (h:p:=by first | exact Kd.own_blk (Kd.R_ne Z1.out ZU.out am) | exact(Z1.out.1 _ rfl).2 | exact(Z1.out.1 _ rfl).1.2 | exact(Z1.out.1 _ rfl).2.2):p:=h
theorem nA {p:Prop} (h:p:=by repeat (first | exact u43_ | (with_reducible refine Kd.C_alloc ?_ _)|(with_reducible refine Kd.C_drewN ?_ _)|(with_reducible refine Kd.C_drew ?_))):p:=h
theorem u160_ {p:Prop} (h:p:=by(with_reducible repeat (first | apply Kd.S_alloc | apply Kd.S_drewN | apply Kd.S_drew));exact Kd.S_mono (Kd.S_far (p:=⟨Zc,2,none⟩) (Kd.S_far (p:=⟨Zc,1,none⟩) (Kd.S_far (p:=⟨Zc,0,none⟩) (Kd.S_types ZX.out ZS.out am) (fun _ hk=>hk.2) (.string ((aj l0_2 Z7).f0))) (fun _ hk=>hk.2) (.string ((aj l0_2 Z7).f1))) (fun _ hk=>hk.2) (.slice YW ((aj l0_2 Z7).f2).length Ze)) (fun _ hk=>trivial)):p:=h
theorem u161_ {p:Prop} (h:p:=by(with_reducible repeat (first | apply Kd.R_alloc | apply Kd.R_drewN | apply Kd.R_drew));exact Kd.R_mono (Kd.R_far (p:=⟨YR,2,none⟩) (Kd.R_far (p:=⟨YR,1,none⟩) (Kd.R_far (p:=⟨YR,0,none⟩) (Kd.R_types Z6.out Zn.out am) (fun _ hk=>hk.2) (.string ((ay l0 Z8).f0))) (fun _ hk=>hk.2) (.int .i64 ((ay l0 Z8).f1))) (fun _ hk=>hk.2) (.int .i64 ((ay l0 Z8).f2))) (fun _ hk=>trivial)):p:=h
theorem u162_ {p:Prop} (h:p:=by first | (rw[bU];exact Kd.own_blk (IsS114.own_ne HI0.out Z1.out am))|(show (Addr.add _ _).block≠_;rw[bU];exact Kd.own_blk (IsS114.own_ne HI0.out Z1.out am)) | exact Kd.own_blk (IsS114.own_ne HI0.out Z1.out am)):p:=h
theorem pp {p:Prop} (h:p:=by exact(ak (w:=w) (g:=g) (row:=none) u0_)):p:=h
theorem pa {p:Prop} (h:p:=by exact(fun k_ hk=>Kd.fresh' (Kd.Q_lt pI) k_ hk)):p:=h
theorem pn {p:Prop} (h:p:=by exact Kd.C_foot_step Zh.out fD):p:=h
theorem qt {p:Prop} (h:p:=by exact(fun k_ hk=>⟨(.inr (Nat.le_trans ga hk)),Kd.fresh' (Kd.R_lt (aR_ Z4.out)) k_ hk,Kd.fresh' (Kd.R_lt (aR_ ZD.out)) k_ hk⟩)):p:=h
theorem qr {p:Prop} (h:p:=by exact(fun k_ hk=>⟨(.inr (Nat.le_trans ga hk)),Kd.fresh' (Kd.R_lt (aR_ Z4.out)) k_ hk,Kd.fresh' (Kd.R_lt (aR_ ZC.out)) k_ hk⟩)):p:=h
theorem u168_ {p:Prop} (h:p:=by first | exact qB | (rw[bU];exact qB)|(show (Addr.add _ _).block≠_;rw[bU];exact qB)|(dsimp only;exact qB)):p:=h
end Go.Proofs.YtnjjdojonflckaaGreatDoor.PFnIndexPosts
