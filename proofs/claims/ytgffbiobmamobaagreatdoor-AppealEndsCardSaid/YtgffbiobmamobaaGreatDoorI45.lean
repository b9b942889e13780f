/- Joined. -/
import Derived.Test.YtgffbiobmamobaaGreatDoorI24
import Derived.Test.YtgffbiobmamobaaGreatDoorI0
import Derived.Test.YtgffbiobmamobaaGreatDoorI33
import Derived.Test.YtgffbiobmamobaaGreatDoorI28
set_option linter.unusedVariables false
set_option linter.unusedSimpArgs false
set_option maxHeartbeats 16000000
namespace Go.Proofs.YtgffbiobmamobaaGreatDoor
open Go Go.Proofs Sy
theorem oS (d:ByteArray):∀ I:List Xb,(∀ i∈I,i.dec.Fit)→(I.map Xb.can).find? (fun x=>seqB (digIt x) d)=(I.find? fun x=>seqB (digIt x) d).map Xb.can
 | [],_=>rfl
 | i::I,h=>by
  rw [List.map_cons,List.find?_cons,List.find?_cons,fK (h i ay),oS d I fun x hx=>h x (List.mem_cons_of_mem _ hx)]
  cases seqB (digIt i) d<;>rfl
theorem gN {I:List Xb} (h:∀ i∈I,i.dec.Fit) (d:ByteArray):findK (I.map Xb.can) d=(findK I d).map Xb.can:=by
 rw [findK,findK,oS d I h]
 cases seqB d ⟨#[]⟩<;>rfl
theorem td (sv:Int) {i:Xb} (h:i.dec.Fit):selBD sv rightIt i.can=selBD sv rightIt i:=by
 rw [selBD,selBD,gn h]
 rfl
theorem nW (sv:Int):∀ I:List Xb,(∀ i∈I,i.dec.Fit)→selD sv rightIt (I.map Xb.can)=(selD sv rightIt I).map Xf.can
 | [],_=>rfl
 | i::I,h=>by
  have ih:=nW sv I fun x hx=>h x (List.mem_cons_of_mem _ hx)
  have e:=td sv (h i ay)
  rw [selD,selD] at ih ⊢
  rw [List.map_cons,List.filter_cons,List.filter_cons,e]
  cases selBD sv rightIt i with
  | false=>exact ih
  | true =>
   simp only [if_true,List.map_cons]
   exact congrArg _ ih
theorem je {I:List Xb} (h:∀ i∈I,i.dec.Fit) (sv:Int):decsV sv (I.map Xb.can)=decsV sv I:=by
 rw [decsV,decsV,nW sv I h,List.map_map]
 rfl
theorem gX {I:List Xb} (h:∀ i∈I,i.dec.Fit) (sv now:Int):panelK (I.map Xb.can) sv now=panelK I sv now:=by rw [panelK,panelK,je h]
theorem mb (l:List Xc) (j:Nat):(l.map Xc.can).getD j Xc.zero=(l.getD j Xc.zero).can:=by
 rw [List.getD_eq_getElem?_getD,List.getD_eq_getElem?_getD,List.getElem?_map]
 cases l[j]?<;>rfl
theorem sK (c:Xa) (ap:ByteArray):voteJ c.can ap=voteJ c ap:=by
 rw [voteJ,voteJ]
 show (downL (c.actsL.map Xc.can).length).find? (fun j=>voteB ap ((c.actsL.map Xc.can).getD j Xc.zero))=_
 rw [List.length_map]
 congr 1
 funext j
 rw [mb]
 rfl
theorem sJ (cs:List Xa) (ap m:ByteArray):voteN (cs.map Xa.can) ap m=voteN cs ap m:=by
 rw [voteN,voteN,me]
 cases findC cs m with
 | none=>rfl
 | some c =>
  show (voteJ c.can ap).map (fun j=>((c.actsL.map Xc.can).getD j Xc.zero).n)=(voteJ c ap).map fun j=>(c.actsL.getD j Xc.zero).n
  rw [sK]
  congr 1
  funext j
  rw [mb]
  rfl
theorem ke (cs:List Xa) (M:List ByteArray) (ap:ByteArray):votesV (cs.map Xa.can) M ap=votesV cs M ap:=by
 rw [votesV,votesV]
 have e:votesS (cs.map Xa.can) ap=votesS cs ap:=by
  funext st m
  rw [votesS,votesS,sJ]
 rw [e]
theorem qd (c:Xa) (dg:ByteArray):pleasV c.can dg=pleasV c dg:=by
 rw [pleasV,pleasV]
 show ((c.actsL.map Xc.can).filter (pleaB dg)).map digV=_
 rw [List.filter_map,List.map_map]
 refine List.map_congr_left fun a ha=>?_
 exact g9 rfl rfl
def NoPost (d:Xf):Prop:=seqB d.actor ⟨#[]⟩=false∨(d.kind≠2∧d.kind≠3)
theorem xR {d:Xf} (h:NoPost d) (cs:List Xa):affV (cs.map Xa.can) d=affV cs d:=by
 rw [affV,affV]
 rcases h with h|⟨h2,h3⟩
 · rw [h];rfl
 · rw [decide_eq_false h2,decide_eq_false h3];rfl
theorem iL {d:Xf} (h:NoPost d) (cs:List Xa) (dg:ByteArray):appealsV (cs.map Xa.can) d dg=appealsV cs d dg:=by
 rw [appealsV,appealsV,xR h]
 cases affV cs d with
 | none=>rfl
 | some a =>
  simp only
  rw [me]
  cases findC cs a with
  | none=>rfl
  | some c =>
   show compB (sortB (pleasV c.can dg))=compB (sortB (pleasV c dg))
   rw [qd]
theorem lY {d:Xf} (h:NoPost d) (cs:List Xa) (dg:ByteArray) (M:List ByteArray) (q:Int):overV (cs.map Xa.can) d dg M q=overV cs d dg M q:=by
 rw [overV,overV,iL h]
 congr 2
 funext ap
 rw [ke]
theorem tu {I:List Xb} (h:∀ i∈I,i.dec.Fit) (cs:List Xa) (sv now:Int) {dg:ByteArray} {it:Xb} (hf:findK (I.map Xb.can) dg=some it) (hn:NoPost it.dec):overK (cs.map Xa.can) (I.map Xb.can) sv now dg=overK cs I sv now dg:=by
 rw [gN h] at hf
 rw [overK,overK,gN h,gX h]
 cases hx:findK I dg with
 | none=>rw [hx] at hf;cases hf
 | some x =>
  rw [hx,Option.map_some,Option.some.injEq] at hf
  subst hf
  show (decide (x.kind=3)&&(decide (x.dec.server=sv)&&overV (cs.map Xa.can) x.dec.can dg _ _))=_
  have hn':NoPost x.dec:=hn
  rw [ou,lY hn']
theorem tC {I:List Xb} (h:∀ i∈I,i.dec.Fit) (cs:List Xa) {dg:ByteArray} {it:Xb} (hf:findK (I.map Xb.can) dg=some it) (hn:NoPost it.dec):openK (cs.map Xa.can) (I.map Xb.can) dg=openK cs I dg:=by
 rw [gN h] at hf
 rw [openK,openK,gN h]
 cases hx:findK I dg with
 | none=>rw [hx] at hf;cases hf
 | some x =>
  rw [hx,Option.map_some,Option.some.injEq] at hf
  subst hf
  show (bif decide (x.kind=3) then appealsV (cs.map Xa.can) x.dec.can dg else [])=bif decide (x.kind=3) then appealsV cs x.dec dg else []
  have hn':NoPost x.dec:=hn
  rw [iL (show NoPost x.dec.can from hn')]
  rfl
theorem pQ {I:List Xb} (h:∀ i∈I,i.dec.Fit) (cs:List Xa) (sv now:Int) (hn:∀ d∈decsV sv I,NoPost d):standK (cs.map Xa.can) (I.map Xb.can) sv now=standK cs I sv now:=by
 rw [standK,standK,je h,gX h]
 refine List.filter_congr fun d hd=>?_
 have hd':d∈decsV sv I:=(List.mem_filter.1 (List.mem_filter.1 hd).1).1
 rw [overN,overN,lY (hn d hd')]
end Go.Proofs.YtgffbiobmamobaaGreatDoor
