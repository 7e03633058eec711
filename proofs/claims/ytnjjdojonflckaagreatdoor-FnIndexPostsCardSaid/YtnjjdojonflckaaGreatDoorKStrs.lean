/- What the order of two texts answers, as the walks meet it; no condition. -/
import Derived.Test.YtnjjdojonflckaaGreatDoorKWMore
namespace Go.Proofs.YtnjjdojonflckaaGreatDoorW.PrintMore
open Go.RowKit Go.Proofs.YtnjjdojonflckaaGreatDoorW.PrintWords Go.Proofs.YtnjjdojonflckaaGreatDoorW.PrintLast
theorem be (P:Program) (t:TypeId) (a b:ByteArray) (w:World):(binOp .geq t (.string a) (.string b)).run P w = .ok (.bool (!Op.bytesLess a.toList b.toList)) w:=rfl
theorem pq (P:Program) (t:TypeId) (a b:ByteArray) (w:World):(binOp .lss t (.string a) (.string b)).run P w = .ok (.bool (Op.bytesLess a.toList b.toList)) w:=rfl
theorem bc (P:Program) (t:TypeId) (a b:ByteArray) (w:World):(binOp .leq t (.string a) (.string b)).run P w = .ok (.bool (Op.bytesLess a.toList b.toList || a.toList == b.toList)) w:=rfl
theorem o4 (P:Program) (t:TypeId) (a b:ByteArray) (w:World):(binOp .gtr t (.string a) (.string b)).run P w = .ok (.bool (!(Op.bytesLess a.toList b.toList || a.toList == b.toList))) w:=rfl
theorem sp (l:Array UInt8):(⟨l⟩:ByteArray).size=l.size:=rfl
theorem dD (l:List UInt8):l.isEmpty = !(l != []):=by cases l <;> rfl
theorem fl {P:Program} {ops:Array Oper} {rest:List Oper} {o:Oper} {a:Act} {Q:Exit→Act→World→Prop} {W:World} (_f:FuncId) {n:Tmp} {as:Array Operand} {ts:Array TypeId} (_ho:o.op = .call { callee:=.value (.tmp n),args:=as,argTypes:=ts }) (h:wpList P ops Q (o :: rest) a W):wpList P ops Q (o :: rest) a W:=h
theorem oJ {P : Program} {ops : Array Oper} {Q : Exit → Act → World → Prop} {rest : List Oper} {oi : Oper} {a : Act} {w : World} (N : Option Tmp) (hd : oi.dst = N) (hg : oi.guard = none) {f : FuncId} {n : Tmp} (hv : a.eval (.tmp n) = .func (.func f) #[] #[]) {fn : Func} {as : Array Operand} {ts : Array TypeId} (hf : P.funcs[f]? = some fn) (hname : (fn.name == "runtime.NumGoroutine") = false) (hb : fn.body.isSome = true) (args : Array Value)
  (hop:oi.op = .call { callee:=.value (.tmp n),args:=as,argTypes:=ts }) (hargs:as.map a.eval=args)
  (h:Calls P f args w fun e w'=>∃v,e = .returned v∧wpList P ops Q rest (a.put N v) w'):wpList P ops Q (oi :: rest) a w:=by
 refine wpList_plain hg fun K hK=>?_
 have he:=enters_ hf hname hb args w;have hrun:(execOp a.eval oi).run P w = .ok (.enter f args) w:=by
  unfold execOp
  simp[hop,hv,resolve,Deferred.ofValue,invoke,hargs,he]
 unfold Oper.wp
 rw[hrun,Oper.upon_enter];refine h.mono fun e w'' hh=>?_
 obtain⟨v,rfl,hk⟩:=hh;subst hd;exact hK _ _ hk
end Go.Proofs.YtnjjdojonflckaaGreatDoorW.PrintMore
