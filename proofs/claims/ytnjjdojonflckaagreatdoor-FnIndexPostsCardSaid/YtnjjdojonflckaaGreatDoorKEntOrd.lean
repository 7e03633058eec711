/- The qm by which impl.entries sorts: two boxes, two comparisons, the first that tells; it lays blocks and keeps the rest; no condition. -/
import Derived.Test.YtnjjdojonflckaaGreatDoorKEntCmp
import Derived.Deep.RegionWith
import Derived.Deep.QuietTactic
import Derived.BigQuiet
import Derived.StillTailTactics
import Derived.Sort.Grow
import Derived.Shelf.SlSortCmp.InsertionK
namespace Go.Proofs.YtnjjdojonflckaaGreatDoor.Ent
open Go Go.RowKit Go.Sort Go.Proofs.YtnjjdojonflckaaGreatDoorW.PrintWords Go.Proofs.YtnjjdojonflckaaGreatDoorW.PrintLast Go.Proofs.YtnjjdojonflckaaGreatDoorW.PrintMore
def ordS (a b:(ByteArray × ByteArray)):Int:=if ji a.1 b.1=0 then ji a.2 b.2 else ji a.1 b.1
theorem or_val (a b r:Int) (hr:(if a=0 then b else a)=r) (g c:Nat) (w:World) (h0:w.cell? ⟨g,0,none⟩=some (.int .i64 a)) (h1:w.cell? ⟨g,1,none⟩=some (.int .i64 b)) :
  Calls Tryz.prog 117 #[.slice (some ⟨g,0,none⟩) 2 c] w fun e w'=>e = .returned (.int .i64 r)∧w'=w:=by
 subst hr;exact or_two a b g c w h0 h1
set_option maxHeartbeats 4000000 in
set_option maxRecDepth 100000 in
theorem qm (f1 t1 f2 t2:ByteArray) (A1 A2:Option Addr) (n1 c1 n2 c2:Nat) (W:World) :
  Calls Tryz.prog 116 #[.agg #[.string f1,.string t1,.slice A1 n1 c1],.agg #[.string f2,.string t2,.slice A2 n2 c2]] W fun e w'=>e = .returned (.int .i64 (ordS (f1,t1) (f2,t2)))∧∃q os',w'=grow (W.drewN q) os':=by
 unfold ordS
 generalize hr:(if ji (f1,t1).1 (f2,t2).1=0 then ji (f1,t1).2 (f2,t2).2 else ji (f1,t1).1 (f2,t2).1)=r;have HR:=aa.mk hr;clear hr;go_enter Tryz.func116,Tryz.ntmps116
 go_wp2;refine wp_region_still_tail 10 (by kernel_rfl) (by kernel_rfl) ?_;simp only[List.take_succ_cons,List.take_zero,List.drop_succ_cons,List.drop_zero];change wpStill _ _ (World.drew _) _ _ _
 repeat still_step
 still_call (kt _ _ _)
 repeat still_step
 still_call (kt _ _ _)
 refine wpStill_nil ?_;change wpList _ _ _ _ _ (World.drew _)
 generalize ji f1 f2=x1 at HR ⊢;generalize ji t1 t2=x2 at HR ⊢;go_wp2_with (first | (go_at_call 117;refine(or_val x1 x2 r HR.out _ _ _ (by first | rfl | (simp;done)|(go_simp;done)) (by first | rfl | (simp;done)|(go_simp;done))).mono ?_;rintro e w' ⟨rfl,rfl⟩))
 go_ret
 exact⟨rfl,1,_,by rw[alloc_eq_grow,alloc_eq_grow,alloc_eq_grow,grow_grow,grow_grow];rfl⟩
end Go.Proofs.YtnjjdojonflckaaGreatDoor.Ent
