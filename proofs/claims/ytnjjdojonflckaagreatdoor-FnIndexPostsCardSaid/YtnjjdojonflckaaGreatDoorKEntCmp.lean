/- The order in which impl.entries sorts: by field, then by term; the calls keep the world; no condition. -/
import Derived.Test.YtnjjdojonflckaaGreatDoorKEntMap
import Derived.Test.YtnjjdojonflckaaGreatDoorProg
import Derived.Test.YtnjjdojonflckaaGreatDoorKStrs
namespace Go.Proofs.YtnjjdojonflckaaGreatDoor.Ent
open Go Go.RowKit Go.Proofs.YtnjjdojonflckaaGreatDoorW.PrintWords Go.Proofs.YtnjjdojonflckaaGreatDoorW.PrintLast Go.Proofs.YtnjjdojonflckaaGreatDoorW.PrintMore
attribute [local go_sem] pq o4
def ji (x y:ByteArray):Int:=if Op.bytesLess x.toList y.toList=true then -1 else if(Op.bytesLess x.toList y.toList || x.toList == y.toList)=true then 0 else 1
theorem kp (x:ByteArray) (w:World):Calls Tryz.prog 153 #[.string x] w fun e w'=>e = .returned (.bool false)∧w'=w:=by
 go_enter Tryz.func153,Tryz.ntmps153
 go_wp2;go_ret
 exact⟨by simp,rfl⟩
theorem kt (x y:ByteArray) (w:World):Calls Tryz.prog 118 #[.string x,.string y] w fun e w'=>e = .returned (.int .i64 (ji x y))∧w'=w:=by
 unfold ji
 generalize h1_:Op.bytesLess x.toList y.toList=b1;generalize h2_:(x.toList == y.toList)=b2;have h1:=aa.mk h1_;have h2:=aa.mk h2_;clear h1_ h2_;cases b1
 ·have h3:Op.bytesLess x.toList y.toList=false:=h1.out;cases b2
  ·have h4:(x.toList == y.toList)=false:=h2.out;go_enter Tryz.func118,Tryz.ntmps118
   go_wp2_with (go_at_call 153;refine(kp _ _).mono ?_;rintro e w' ⟨rfl,rfl⟩)
   go_ret
   exact⟨rfl,rfl⟩
  ·have h4:(x.toList == y.toList)=true:=h2.out;go_enter Tryz.func118,Tryz.ntmps118
   go_wp2_with (go_at_call 153;refine(kp _ _).mono ?_;rintro e w' ⟨rfl,rfl⟩)
   go_ret
   exact⟨rfl,rfl⟩
 ·have h3:Op.bytesLess x.toList y.toList=true:=h1.out;go_enter Tryz.func118,Tryz.ntmps118
  go_wp2_with (go_at_call 153;refine(kp _ _).mono ?_;rintro e w' ⟨rfl,rfl⟩)
  go_ret
  exact⟨rfl,rfl⟩
theorem or_two (a b:Int) (g c:Nat) (w:World) (h0:w.cell? ⟨g,0,none⟩=some (.int .i64 a)) (h1:w.cell? ⟨g,1,none⟩=some (.int .i64 b)) :
  Calls Tryz.prog 117 #[.slice (some ⟨g,0,none⟩) 2 c] w fun e w'=>e = .returned (.int .i64 (if a=0 then b else a))∧w'=w:=by
 go_enter Tryz.func117,Tryz.ntmps117
 go_wp2;go_loopw [8] (fun v wr=>wr=w∧(v = .int .i64 0∨(v = .int .i64 1∧a=0)∨(v = .int .i64 2∧a=0∧b=0))) (fun v _=>match v with | .int _ i=>3 - i.toNat | _=>0)
 case atStart=>exact⟨rfl,.inl rfl⟩
 case round=>
  obtain⟨rfl,rfl | ⟨rfl,ha⟩ | ⟨rfl,ha,hb⟩⟩:=hrel
  ·by_cases ha:a=0
   ·have ha1:(a != 0)=false:=by rw[ha];rfl
    go_wp2;go_roundw
    case rel=>first | exact⟨rfl,.inr (.inl ⟨rfl,ha⟩)⟩ | exact⟨trivial,.inr (.inl ⟨rfl,ha⟩)⟩ | simp[ha]
    case measure=>simp
   ·have ha1:(a != 0)=true:=bne_iff_ne.2 ha;go_wp2;go_ret
    exact⟨rfl,rfl⟩
  ·by_cases hb:b=0
   ·have hb1:(b != 0)=false:=by rw[hb];rfl
    go_wp2;go_roundw
    case rel=>first | exact⟨rfl,.inr (.inr ⟨rfl,ha,hb⟩)⟩ | exact⟨trivial,.inr (.inr ⟨rfl,ha,hb⟩)⟩ | simp[ha,hb]
    case measure=>simp
   ·have hb1:(b != 0)=true:=bne_iff_ne.2 hb;go_wp2;go_ret
    exact⟨rfl,rfl⟩
  ·go_wp2;go_ret
   exact⟨rfl,rfl⟩
end Go.Proofs.YtnjjdojonflckaaGreatDoor.Ent
