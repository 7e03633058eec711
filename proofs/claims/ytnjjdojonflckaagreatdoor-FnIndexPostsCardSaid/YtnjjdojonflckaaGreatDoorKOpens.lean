/- A datum that a row reads of a parameter is a value of the parameter's kind: whole numbers, bools, texts, slices and structs of these; no condition. -/
import Derived.Test.YtnjjdojonflckaaGreatDoorKWMore
import Derived.Deep.Slices
import Derived.ChangeArms
import Derived.WideShapes
namespace Go.Proofs.YtnjjdojonflckaaGreatDoor.Opens
open Go Go.Deep Go.RowKit Go.Proofs.YtnjjdojonflckaaGreatDoorW.PrintWords
structure Opens {α : Type} (P:Program) (t:TypeId) (d:Kd α) (good : α → Prop):Prop where
 sz:P.cellsOf t=d.sz
 op:∀ {H:Type} {enc:TypeId × Value→H} {W:World} {spare:Nat→Bool} {held:Bool} {fuel:Nat} {cs:List Value} {x:DataW H × List MemPlace},DataW.trod enc P W 0 spare held fuel t cs=some x→∃y,d.K W y cs∧good y
theorem Opens.int {P:Program} {t:TypeId} {k:IntKind} (ht:P.underlying t=some (.int k)) (hs:P.cellsOf t=1):Opens P t (Kd.int k) (fun n=>(Lit.int k n).wf=true):=
 ⟨hs,fun h=>by obtain⟨n,rfl,_,hw⟩:=DataW.trod_int ht h;exact⟨n,rfl,hw⟩⟩
theorem Opens.bool {P:Program} {t:TypeId} (ht:P.underlying t=some .bool) (hs:P.cellsOf t=1):Opens P t Kd.bool (fun _=>True):=
 ⟨hs,fun h=>by obtain⟨b,rfl,_⟩:=DataW.trod_bool ht h;exact⟨b,rfl,trivial⟩⟩
theorem Opens.string {P:Program} {t:TypeId} (ht:P.underlying t=some .string) (hs:P.cellsOf t=1):Opens P t Kd.string (fun s=>s.size≤maxLen):=
 ⟨hs,fun h=>by obtain⟨s,rfl,_,hl⟩:=DataW.trod_string ht h;exact⟨s,rfl,hl⟩⟩
structure Tail {α : Type} (P:Program) (fs:List Field) (off:Nat) (d:Kd α) (good : α → Prop):Prop where
 op:∀ {H:Type} {enc:TypeId × Value→H} {W:World} {spare:Nat→Bool} {held:Bool} {n:Nat} {cs:List Value},cs.length=off+d.sz →
  (∀(i:Nat) (f:Field),fs[i]? = some f→∃x,DataW.trod enc P W 0 spare held n f.type ((cs.drop f.offset).take (P.cellsOf f.type))=some x)→∃y,d.K W y (cs.drop off)∧good y
theorem Tail.one {α : Type} {P:Program} {f:Field} {off:Nat} {d:Kd α} {good : α → Prop} (h:Opens P f.type d good) (ho:f.offset=off):Tail P [f] off d good:=by
 refine⟨fun {H enc W spare held n cs} hl hx=>?_⟩;obtain⟨x,hx⟩:=hx 0 f rfl;rw[ho,h.sz,List.take_of_length_le (by rw[List.length_drop];omega)] at hx;exact h.op hx
theorem Tail.cons {α β : Type} {P:Program} {f:Field} {fs:List Field} {off:Nat} {d:Kd α} {d':Kd β} {good : α → Prop} {good' : β → Prop} (h:Opens P f.type d good) (ho:f.offset=off)
  (ht:Tail P fs (off+d.sz) d' good'):Tail P (f :: fs) off (Kd.pair d d') (fun y=>good y.1∧good' y.2):=by
 refine⟨fun {H enc W spare held n cs} hl hx=>?_⟩;have hl':cs.length=off+(d.sz+d'.sz):=hl;obtain⟨x,h0⟩:=hx 0 f rfl;rw[ho,h.sz] at h0;obtain⟨y,hy,gy⟩:=h.op h0;obtain⟨z,hz,gz⟩:=ht.op (H:=H) (enc:=enc) (W:=W) (spare:=spare) (held:=held) (n:=n) (cs:=cs) (by omega) (fun i g hg=>hx (i+1) g hg);refine⟨(y,z),⟨_,_,?_,hy,hz⟩,gy,gz⟩;rw[← List.drop_drop,List.take_append_drop]
theorem Opens.struct {α : Type} {P:Program} {t:TypeId} {fs:List Field} {d:Kd α} {good : α → Prop} (ht:P.underlying t=some (.struct fs.toArray)) (h:Tail P fs 0 d good) (hs:P.cellsOf t=d.sz):Opens P t d good:=by
 refine⟨hs,fun {H enc W spare held fuel cs x} hx=>?_⟩;obtain⟨xs,n,_,_,hl,hlen,hf⟩:=DataW.trod_struct ht hx;have:=h.op (H:=H) (enc:=enc) (W:=W) (spare:=spare) (held:=held) (n:=n) (cs:=cs) (by omega) (fun i f hi=>by
  have h1:fs.toArray[i]? = some f:=by rw[List.getElem?_toArray];exact hi
  have h2:=hf i f h1;have hlt:i<xs.length:=by
   rw[hlen];exact(Array.getElem?_eq_some_iff.1 h1).1
  exact⟨xs[i],by rw[h2,List.getElem?_eq_getElem hlt]⟩)
 rw[List.drop_zero] at this;exact this
theorem Opens.iso {α β : Type} {P:Program} {t:TypeId} {d:Kd α} {good : α → Prop} (h:Opens P t d good) (f : β → α) (mk : α → β) (hf:∀p,f (mk p)=p):Opens P t (Kd.iso d f) (fun y=>good (f y)):=
 ⟨h.sz,fun hx=>by obtain⟨y,hy,gy⟩:=h.op hx;exact⟨mk y,show d.K _ (f (mk y)) _ by rw[hf];exact hy,by rw[hf];exact gy⟩⟩
theorem qw {α : Type} (p:Nat → α → Prop):∀n:Nat,(∀i,i<n→∃y,p i y)→∃l:List α,l.length=n∧∀i y,l[i]? = some y→p i y
 | 0,_=>⟨[],rfl,fun i y h=>by simp at h⟩
 | n+1,h=>by
  obtain⟨l,hl,hp⟩:=qw p n (fun i hi=>h i (by omega));obtain⟨y,hy⟩:=h n (by omega);refine⟨l ++ [y],by simp[hl],fun i z hz=>?_⟩;rcases Nat.lt_or_ge i l.length with hi | hi
  ·rw[List.getElem?_append_left hi] at hz;exact hp i z hz
  ·rw[List.getElem?_append_right hi] at hz;have h0:i - l.length=0:=by
    rcases Nat.eq_zero_or_pos (i - l.length) with h1 | h1
    ·exact h1
    ·rw[List.getElem?_eq_none (by simp;omega)] at hz;cases hz
   rw[h0] at hz;obtain rfl:y=z:=by simpa using hz
   obtain rfl:i=n:=by omega
   exact hy
theorem Opens.slice {α : Type} {P:Program} {t e:TypeId} {d:Kd α} {good : α → Prop} (ht:P.underlying t=some (.slice e)) (hs:P.cellsOf t=1) (h:Opens P e d good) :
  Opens P t (Kd.slice e d) (fun l=>l.length≤maxLen∧∀x∈l,good x):=by
 refine⟨hs,fun {H enc W spare held fuel cs x} hx=>?_⟩;rcases open_slice ht hx with ⟨rfl,_⟩ | ⟨a,len,cap,m,n,D,Pl,rfl,_,hl,hm,hmm,_,he⟩
 ·exact⟨[],⟨none,0,rfl,Nat.le_refl _,rfl,Nat.zero_le _,fun h0=>absurd h0 (by simp)⟩,by simp,by simp⟩
 ·have hle:len≤m:=by rw[hmm];split;exact hl;exact Nat.le_refl _
  obtain⟨l,hl1,hl2⟩:=qw (fun i y=>(∃c,W.cells? 0 (a.add (i*P.cellsOf e)) (P.cellsOf e)=some c∧d.K W y c)∧good y) len (fun i hi=>by
   obtain⟨cs',h1,h2⟩:=he i (by omega);obtain⟨y,hy,gy⟩:=h.op h2;exact⟨y,⟨cs',h1,hy⟩,gy⟩)
  have hmx:maxLen=9223372036854775807:=rfl;refine⟨l,⟨some a,cap,by rw[hl1],by omega,rfl,by omega,fun _=>⟨a,rfl,fun j p hj=>?_⟩⟩,by omega,fun y hy=>?_⟩
  ·obtain⟨⟨c,hc,hk⟩,_⟩:=hl2 j p hj;obtain⟨_,h3,h4⟩:=World.cells?_some hc;refine⟨c,by rw[h3,h.sz],hk,fun i u hu=>?_⟩;have hi:i<P.cellsOf e:=by
    rw[← h3];exact(List.getElem?_eq_some_iff.1 hu).1
   have:=h4 i hi;rw[Deep.add_add,h.sz] at this;rw[this,hu]
  ·obtain⟨i,hi⟩:=List.mem_iff_getElem?.1 hy;exact(hl2 i y hi).2
end Go.Proofs.YtnjjdojonflckaaGreatDoor.Opens
