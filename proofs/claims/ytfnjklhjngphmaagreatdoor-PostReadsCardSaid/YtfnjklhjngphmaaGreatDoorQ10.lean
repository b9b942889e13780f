/- Joined by program out of: Rg On Oo Sm Ia Kd Jp Mq Mr Jq Dt Jr Js Ja Jb Jg. -/
import Derived.RangeFuncSeq
import Derived.OrdersIn
import Derived.Deep.Slices
import Derived.Deep.Fields
import Derived.ChangeSame
import Derived.ChangeArms
import Derived.Carry
import Derived.OpenShut
import Derived.Test.YtfnjklhjngphmaaGreatDoorQ9
set_option linter.unusedVariables false
set_option linter.unusedSimpArgs false
namespace Go.Proofs.YtfnjklhjngphmaaGreatDoor.Sy
open Go Go.RowKit
def fen (ρ:Option Nat):Fence:={ Fence.wide with round:=ρ }
section
variable {P:Program} {N:Nat} {av bor:List Nat} {w0:World} {ops:Array Oper} {st:St}
end
def Cr (P:Program) (N:Nat) (av bor:List Nat) (w0:World) (l:Nat) (c:Code) (st:St) (K:Exit→St→Prop):Prop :=
 ∀ n a w,Ok N av bor w0 st a w→c.wpIn (fen (some l)) n P (post N av bor w0 K) a w
theorem Cr.mk {P:Program} {N:Nat} {av bor:List Nat} {w0:World} {l:Nat} {c:Code} {st:St} {K:Exit→St→Prop} (h:∀ n a w,Ok N av bor w0 st a w→c.wpIn (fen (some l)) n P (post N av bor w0 K) a w):Cr P N av bor w0 l c st K:=h
theorem Cr.run {P:Program} {N:Nat} {av bor:List Nat} {w0:World} {l:Nat} {c:Code} {st:St} {K:Exit→St→Prop} (h:Cr P N av bor w0 l c st K):∀ n a w,Ok N av bor w0 st a w→c.wpIn (fen (some l)) n P (post N av bor w0 K) a w:=h
namespace Rd
section
variable {P:Program} {N:Nat} {av bor:List Nat} {w0:World} {l:Nat} {st:St} {K:Exit→St→Prop} {E:Env} {loc:List Res} {X:World→Prop}
theorem aO {c:Operand} {x y:Code} {b:Bool} (hc:ev st.env c=some (.bool b):=by rfl) (ht:b=true→Cr P N av bor w0 l x st K) (hf:b=false→Cr P N av bor w0 l y st K) :
  Cr P N av bor w0 l (.cond c x y) st K:=fun n a w ok=>wpIn_cond_split (ok.eval hc) (fun h=>ht h n a w ok) (fun h=>hf h n a w ok)
end
end Rd
def YCt (P:Program) (l:Nat) (args:List Value) (pre:List Res) (X:World→Prop) (Post:Value→List Res→(World→Prop)→Prop):Prop :=
 ∀ (n:Nat) (w:World) (av:List Nat),Gam av (fps pre) w pre X w→YieldAt Fence.wide n P l args.toArray w fun e w'=>∃ v R X',e=.returned v∧Post v R X'∧Gam av (fps pre) w R X' w'
section
variable {P:Program} {N:Nat} {av bor:List Nat} {w0:World} {ops:Array Oper} {rest:List Oper} {k:St→Prop} {E:Env} {loc:List Res} {X:World→Prop} {K:Exit→St→Prop}
variable {d:Option Tmp} {ty:TypeId} {pos:String} {af:Array Edge} {g:Option (Nat×Bool)} {bb want:Bool}
end
def It {α:Type} (P:Program) (g:FuncId) (lb:List Value) (X1:World→Prop) (enc:α→List Value) (xs:List α):Prop :=
 ∀ (l:Nat) (X:World→Prop) (Rs:List α→List Res→Prop),(∀ w,X w→X1 w) →
  (∀ pre x suf R,xs=pre++x::suf→Rs pre R→YCt P l (enc x) R X fun v R' _=>v=.bool true∧Rs (pre++[x]) R') →
  ∀ R0,Rs [] R0→Ct P g (.func (.yield l) #[] #[]::lb).toArray R0 X fun _ R' _=>Rs xs R'
section
variable {P:Program} {N:Nat} {av bor:List Nat} {w0:World} {E:Env} {loc:List Res} {X:World→Prop} {K:Exit→St→Prop}
end
end Go.Proofs.YtfnjklhjngphmaaGreatDoor.Sy
namespace Go.Proofs.YtfnjklhjngphmaaGreatDoor
open Go Go.Proofs Sy Go.RowKit Go.Deep Go.ChangeShapes
section
variable {H:Type} {enc:TypeId×Value→H} {P:Program} {w:World} {base:Nat} {spare:Nat→Bool} {held:Bool}
theorem cg {t:TypeId} {fs:Array Field} {fuel:Nat} {cs:List Value} {x:DataW H×List MemPlace} (ht:P.underlying t=some (.struct fs)) (h:DataW.trod enc P w base spare held fuel t cs=some x) {i:Nat} {f:Field} (hf:fs[i]?=some f) {off k:Nat} {t':TypeId} (ho:f.offset=off) (htt:f.type=t') (hk:P.cellsOf t'=k) :
  ∃ n y,DataW.trod enc P w base spare held n t' ((cs.drop off).take k)=some y:=by
 obtain ⟨xs,n,_,_,_,hlen,hg⟩:=DataW.trod_struct ht h
 have h1:=hg i f hf
 have hi:i<fs.size:=(Array.getElem?_eq_some_iff.1 hf).1
 subst ho;subst htt;subst hk
 rw [List.getElem?_eq_getElem (by omega)] at h1
 exact ⟨n,_,h1⟩
theorem gH {α:Type} [Inhabited α] {t e:TypeId} {size fuel:Nat} {cs:List Value} {x:DataW H×List MemPlace} (ht:P.underlying t=some (.slice e)) (hc:P.cellsOf e=size) (cells:α→List Value) (Q:α→Prop)
  (each:∀ n cs y,DataW.trod enc P w base spare held n e cs=some y→∃ a,cs=cells a∧Q a) (h:DataW.trod enc P w base spare held fuel t cs=some x) :
  ∃ (s:SlV) (l:List α),cs=[s.v]∧RowsD w size s (l.map cells)∧∀ a∈l,Q a:=by
 rcases open_slice ht h with ⟨rfl,_⟩|⟨a,len,cap,m,n,D,Pl,rfl,hb,hl,hm,hmm,hx,hi⟩
 · exact ⟨⟨none,0,0⟩,[],rfl,bz w size,by simp⟩
 · have hlm:len≤m:=by rw [hmm];split<;>omega
   have h1:∀ i,i<len→∃ z:α,w.cells? base (a.add (i*size)) size=some (cells z)∧Q z:=fun i hil=>by
    obtain ⟨cs',h2,h3⟩:=hi i ag
    obtain ⟨z,rfl,hz⟩:=each _ _ _ h3
    rw [hc] at h2
    exact ⟨z,h2,hz⟩
   obtain ⟨F,hF⟩:=choose_lt h1
   refine ⟨⟨some a,len,cap⟩,(List.range len).map F,rfl,⟨by simp,hl,hm,fun i cs' hcs=>?_⟩,fun z hz=>?_⟩
   · simp only [List.map_map,List.getElem?_map] at hcs
     have hil:i<len:=by
      cases hr:(List.range len)[i]? with
      | none=>rw [hr] at hcs;cases hcs
      | some k=>have:=(List.getElem?_eq_some_iff.1 hr).1;simpa using this
     rw [List.getElem?_range hil] at hcs
     simp only [Option.map_some,Function.comp_apply,Option.some.injEq] at hcs
     subst hcs
     obtain ⟨_,hlen,hat⟩:=World.cells?_some (hF i hil).1
     refine ⟨hlen,rfl,fun j u hj=>⟨rfl,fun a' ha'=>?_⟩⟩
     obtain rfl:a=a':=Option.some.inj ha'
     rw [←Go.Deep.add_add,hat j (by rw [←hlen];exact (List.getElem?_eq_some_iff.1 hj).1),hj]
   · simp only [List.mem_map,List.mem_range] at hz
     obtain ⟨i,hil,rfl⟩:=hz
     exact (hF i hil).2
theorem CellAt.keep {w':World} {p:Option Addr} {q:Nat} {u:Value} (h:CellAt w p q u) (hs:∀ k,k<w.heap.size→w'.heap[k]?=w.heap[k]?):CellAt w' p q u:=⟨h.1,fun a ha=>by
 have h1:=h.2 a ha
 have h2:(a.add q).block<w.heap.size:=by
  cases hh:w.heap[(a.add q).block]? with
  | none=>simp [World.cell?,hh] at h1
  | some o=>exact (Array.getElem?_eq_some_iff.1 hh).1
 rw [World.cell?_of_block (w:=w) (hs _ h2),h1]⟩
theorem RowsD.keep {w':World} {size:Nat} {s:SlV} {xs:List (List Value)} (h:RowsD w size s xs) (hs:∀ k,k<w.heap.size→w'.heap[k]?=w.heap[k]?):RowsD w' size s xs :=
 ⟨h.len,h.cap,h.max,fun i cs hi=>⟨(h.row i cs hi).1,(h.row i cs hi).2.1,fun j u hj=>CellAt.keep ((h.row i cs hi).2.2 j u hj) hs⟩⟩
theorem CellsAt.keep {w':World} {g:Nat} {l:List Value} (h:CellsAt g l w) (hs:∀ k,k<w.heap.size→w'.heap[k]?=w.heap[k]?):CellsAt g l w':=fun j v hj=>by
 have h1:=h j v hj
 have h2:g<w.heap.size:=by
  cases hh:w.heap[g]? with
  | none=>simp [World.cell?,hh] at h1
  | some o=>exact (Array.getElem?_eq_some_iff.1 hh).1
 rw [World.cell?_of_block (w:=w) (a:=⟨g,j,none⟩) (hs _ h2),h1]
theorem XC.keep {w':World} {c:ChainD} (h:XC c w) (hs:∀ k,k<w.heap.size→w'.heap[k]?=w.heap[k]?):XC c w' :=
 ⟨⟨RowsD.keep h.1.1 hs,fun a ha=>⟨RowsD.keep (h.1.2 a ha).1 hs,RowsD.keep (h.1.2 a ha).2 hs⟩⟩,⟨h.2.ini.keep hs,h.2.k.keep hs⟩⟩
theorem C2 {n:Int} (h:(Lit.int .i64 n).wf=true):n<9223372036854775808:=by have:=(Go.bounds_i64 h).2;omega
theorem cH {fuel:Nat} {cs:List Value} {x:DataW H×List MemPlace} (h:DataW.trod enc Tryz.prog w base spare held fuel 3 cs=some x):∃ n:Int,cs=[.int .i64 n]∧n<9223372036854775808:=by
 obtain ⟨n,h1,_,h3⟩:=DataW.trod_int Tryz.underlying3 h
 exact ⟨n,h1,C2 h3⟩
theorem cu {fuel:Nat} {cs:List Value} {x:DataW H×List MemPlace} (h:DataW.trod enc Tryz.prog w base spare held fuel 9 cs=some x):∃ s:ByteArray,cs=[.string s]∧s.size≤maxLen:=by
 obtain ⟨s,h1,_,h3⟩:=DataW.trod_string Tryz.underlying9 h
 exact ⟨s,h1,h3⟩
theorem lE {fuel:Nat} {cs:List Value} {x:DataW H×List MemPlace} (h:DataW.trod enc Tryz.prog w base spare held fuel 4 cs=some x):∃ b:Bool,cs=[.bool b]:=by
 obtain ⟨b,h1,_⟩:=DataW.trod_bool Tryz.underlying4 h
 exact ⟨b,h1⟩
theorem nW {fuel:Nat} {cs:List Value} {x:DataW H×List MemPlace} (h:DataW.trod enc Tryz.prog w base spare held fuel 39 cs=some x):∃ (s:SlV) (l:List ByteArray),cs=[s.v]∧Strs w s l:=by
 obtain ⟨s,l,h1,h2,_⟩:=gH (α:=ByteArray) Tryz.underlying39 (size:=1) ar (fun s=>[.string s]) (fun _=>True) (fun n cs y hy=>by obtain ⟨s,h1,_⟩:=cu hy;exact ⟨s,h1,trivial⟩) h
 exact ⟨s,l,h1,h2⟩
theorem jj {t:TypeId} {fs:Array Field} {P:Program} {fuel k:Nat} {cs:List Value} {x:DataW H×List MemPlace} (ht:P.underlying t=some (.struct fs)) (hk:P.cellsOf t=k) (h:DataW.trod enc P w base spare held fuel t cs=some x):cs.length=k:=by
 obtain ⟨xs,n,_,_,h1,_,_⟩:=DataW.trod_struct ht h
 rw [h1,hk]
theorem pw {fuel:Nat} {cs:List Value} {x:DataW H×List MemPlace} (h:DataW.trod enc Tryz.prog w base spare held fuel 41 cs=some x):∃ b:BoxD,cs=b.cells:=by
 have hl:=jj Tryz.underlying41 (k:=3) ar h
 obtain ⟨n0,y0,h0⟩:=cg (i:=0) (off:=0) (k:=1) (t':=9) Tryz.underlying41 h rfl rfl rfl ar
 obtain ⟨n1,y1,h1⟩:=cg (i:=1) (off:=1) (k:=1) (t':=9) Tryz.underlying41 h rfl rfl rfl ar
 obtain ⟨n2,y2,h2⟩:=cg (i:=2) (off:=2) (k:=1) (t':=9) Tryz.underlying41 h rfl rfl rfl ar
 match cs,hl with
 | [c0,c1,c2],_ =>
  obtain ⟨s0,e0,_⟩:=cu h0
  obtain ⟨s1,e1,_⟩:=cu h1
  obtain ⟨s2,e2,_⟩:=cu h2
  simp at e0 e1 e2
  exact ⟨⟨s0,s1,s2⟩,by rw [e0,e1,e2];rfl⟩
theorem mR {fuel:Nat} {cs:List Value} {x:DataW H×List MemPlace} (h:DataW.trod enc Tryz.prog w base spare held fuel 106 cs=some x):∃ b:WrapD,cs=b.cells∧b.to<9223372036854775808∧b.eph<9223372036854775808:=by
 have hl:=jj Tryz.underlying106 (k:=5) ar h
 obtain ⟨n0,y0,h0⟩:=cg (i:=0) (off:=0) (k:=1) (t':=3) Tryz.underlying106 h rfl rfl rfl ar
 obtain ⟨n1,y1,h1⟩:=cg (i:=1) (off:=1) (k:=1) (t':=3) Tryz.underlying106 h rfl rfl rfl ar
 obtain ⟨n2,y2,h2⟩:=cg (i:=2) (off:=2) (k:=3) (t':=41) Tryz.underlying106 h rfl rfl rfl ar
 match cs,hl with
 | [c0,c1,c2,c3,c4],_ =>
  obtain ⟨s0,e0,b0⟩:=cH h0
  obtain ⟨s1,e1,b1⟩:=cH h1
  obtain ⟨s2,e2⟩:=pw h2
  simp [BoxD.cells] at e0 e1 e2
  exact ⟨⟨s0,s1,s2⟩,by simp [WrapD.cells,e0,e1,e2],b0,b1⟩
theorem qS {fuel:Nat} {cs:List Value} {x:DataW H×List MemPlace} (h:DataW.trod enc Tryz.prog w base spare held fuel 42 cs=some x):∃ (s:SlV) (l:List WrapD),cs=[s.v]∧Wraps w s l∧∀ b∈l,b.to<9223372036854775808∧b.eph<9223372036854775808:=by
 haveI:Inhabited WrapD:=⟨⟨0,0,BoxD.zero⟩⟩
 exact gH (α:=WrapD) Tryz.underlying42 (size:=5) ar WrapD.cells _ (fun n cs y hy=>mR hy) h
theorem xI {fuel:Nat} {cs:List Value} {x:DataW H×List MemPlace} (h:DataW.trod enc Tryz.prog w base spare held fuel 44 cs=some x):∃ e s:Int,cs=[.int .i64 e,.int .i64 s]∧e<9223372036854775808∧s<9223372036854775808:=by
 have hl:=jj Tryz.underlying44 (k:=2) ar h
 obtain ⟨n0,y0,h0⟩:=cg (i:=0) (off:=0) (k:=1) (t':=3) Tryz.underlying44 h rfl rfl rfl ar
 obtain ⟨n1,y1,h1⟩:=cg (i:=1) (off:=1) (k:=1) (t':=3) Tryz.underlying44 h rfl rfl rfl ar
 match cs,hl with
 | [c0,c1],_ =>
  obtain ⟨s0,e0,b0⟩:=cH h0
  obtain ⟨s1,e1,b1⟩:=cH h1
  simp at e0 e1
  exact ⟨s0,s1,by rw [e0,e1],b0,b1⟩
theorem xJ {fuel:Nat} {cs:List Value} {x:DataW H×List MemPlace} (h:DataW.trod enc Tryz.prog w base spare held fuel 46 cs=some x):∃ a:ActD,cs=a.cells∧a.at_ w∧a.Rng∧a.target.size≤maxLen:=by
 have hl:=jj Tryz.underlying46 (k:=20) ar h
 obtain ⟨n0,y0,h0⟩:=cg (i:=0) (off:=0) (k:=1) (t':=9) Tryz.underlying46 h rfl rfl rfl ar
 obtain ⟨n1,y1,h1⟩:=cg (i:=1) (off:=1) (k:=1) (t':=3) Tryz.underlying46 h rfl rfl rfl ar
 obtain ⟨n2,y2,h2⟩:=cg (i:=2) (off:=2) (k:=1) (t':=9) Tryz.underlying46 h rfl rfl rfl ar
 obtain ⟨n3,y3,h3⟩:=cg (i:=3) (off:=3) (k:=1) (t':=3) Tryz.underlying46 h rfl rfl rfl ar
 obtain ⟨n4,y4,h4⟩:=cg (i:=4) (off:=4) (k:=1) (t':=3) Tryz.underlying46 h rfl rfl rfl ar
 obtain ⟨n5,y5,h5⟩:=cg (i:=5) (off:=5) (k:=1) (t':=9) Tryz.underlying46 h rfl rfl rfl ar
 obtain ⟨n6,y6,h6⟩:=cg (i:=6) (off:=6) (k:=1) (t':=9) Tryz.underlying46 h rfl rfl rfl ar
 obtain ⟨n7,y7,h7⟩:=cg (i:=7) (off:=7) (k:=1) (t':=3) Tryz.underlying46 h rfl rfl rfl ar
 obtain ⟨n8,y8,h8⟩:=cg (i:=8) (off:=8) (k:=1) (t':=9) Tryz.underlying46 h rfl rfl rfl ar
 obtain ⟨n9,y9,h9⟩:=cg (i:=9) (off:=9) (k:=1) (t':=39) Tryz.underlying46 h rfl rfl rfl ar
 obtain ⟨n10,y10,h10⟩:=cg (i:=10) (off:=10) (k:=1) (t':=9) Tryz.underlying46 h rfl rfl rfl ar
 obtain ⟨n11,y11,h11⟩:=cg (i:=11) (off:=11) (k:=3) (t':=41) Tryz.underlying46 h rfl rfl rfl ar
 obtain ⟨n12,y12,h12⟩:=cg (i:=12) (off:=14) (k:=1) (t':=3) Tryz.underlying46 h rfl rfl rfl ar
 obtain ⟨n13,y13,h13⟩:=cg (i:=13) (off:=15) (k:=1) (t':=42) Tryz.underlying46 h rfl rfl rfl ar
 obtain ⟨n14,y14,h14⟩:=cg (i:=14) (off:=16) (k:=1) (t':=3) Tryz.underlying46 h rfl rfl rfl ar
 obtain ⟨n15,y15,h15⟩:=cg (i:=15) (off:=17) (k:=1) (t':=3) Tryz.underlying46 h rfl rfl rfl ar
 obtain ⟨n16,y16,h16⟩:=cg (i:=16) (off:=18) (k:=2) (t':=44) Tryz.underlying46 h rfl rfl rfl ar
 match cs,hl with
 | [c0,c1,c2,c3,c4,c5,c6,c7,c8,c9,c10,c11,c12,c13,c14,c15,c16,c17,c18,c19],_ =>
  obtain ⟨s0,e0,b0⟩:=cu h0
  obtain ⟨s1,e1,b1⟩:=cH h1
  obtain ⟨s2,e2,b2⟩:=cu h2
  obtain ⟨s3,e3,b3⟩:=cH h3
  obtain ⟨s4,e4,b4⟩:=cH h4
  obtain ⟨s5,e5,b5⟩:=cu h5
  obtain ⟨s6,e6,b6⟩:=cu h6
  obtain ⟨s7,e7,b7⟩:=cH h7
  obtain ⟨s8,e8,b8⟩:=cu h8
  obtain ⟨s9,l9,e9,b9⟩:=nW h9
  obtain ⟨s10,e10,b10⟩:=cu h10
  obtain ⟨s11,e11⟩:=pw h11
  obtain ⟨s12,e12,b12⟩:=cH h12
  obtain ⟨s13,l13,e13,b13,r13⟩:=qS h13
  obtain ⟨s14,e14,b14⟩:=cH h14
  obtain ⟨s15,e15,b15⟩:=cH h15
  obtain ⟨s16,s17,e16,b16,b17⟩:=xI h16
  simp [BoxD.cells] at e0 e1 e2 e3 e4 e5 e6 e7 e8 e9 e10 e11 e12 e13 e14 e15 e16
  refine ⟨⟨s0,s1,s2,s3,s4,s5,s6,s7,s8,s9,s10,s11,s12,s13,s14,s15,s16,s17,l9,l13⟩,?_,⟨b9,b13⟩,⟨⟨b1,b3,b4,b7,b12,b14,b15,b16,b17⟩,r13,by have:=RowsD.len b9;simpa [strs] using this,by have:=RowsD.len b13;simpa using this⟩,b6⟩
  simp [ActD.cells,e0,e1,e2,e3,e4,e5,e6,e7,e8,e9,e10,e11,e12,e13,e14,e15,e16]
theorem sK {t e:TypeId} {fuel:Nat} {cs:List Value} {P:Program} {x:DataW H×List MemPlace} (ht:P.underlying t=some (.slice e)) (h:DataW.trod enc P w base spare held fuel t cs=some x):∃ s:SlV,cs=[s.v]:=by
 rcases open_slice ht h with ⟨rfl,_⟩|⟨a,len,cap,m,n,D,Pl,rfl,_⟩
 · exact ⟨⟨none,0,0⟩,rfl⟩
 · exact ⟨⟨some a,len,cap⟩,rfl⟩
end
end Go.Proofs.YtfnjklhjngphmaaGreatDoor
namespace Go.Proofs.YtfnjklhjngphmaaGreatDoor
open Go Go.Proofs Sy Go.RowKit Go.Deep Go.ChangeShapes
section
variable {H:Type} {enc:TypeId×Value→H} {P:Program} {w:World} {base:Nat} {spare:Nat→Bool} {held:Bool}
theorem mj {fuel:Nat} {cs:List Value} {x:DataW H×List MemPlace} (h:DataW.trod enc Tryz.prog w base spare held fuel 39 cs=some x):∃ (s:SlV) (l:List ByteArray),cs=[s.v]∧Strs w s l∧∀ x∈l,x.size≤maxLen:=by
 obtain ⟨s,l,h1,h2,h3⟩:=gH (α:=ByteArray) Tryz.underlying39 (size:=1) ar (fun s=>[.string s]) (fun s=>s.size≤maxLen) (fun n cs y hy=>by obtain ⟨s,h1,h2⟩:=cu hy;exact ⟨s,h1,h2⟩) h
 exact ⟨s,l,h1,h2,h3⟩
theorem ChainD.keep {w':World} {c:ChainD} (h:c.at_ w) (hs:∀ k,k<w.heap.size→w'.heap[k]?=w.heap[k]?):c.at_ w' :=
 ⟨RowsD.keep h.1 hs,fun a ha=>⟨RowsD.keep (h.2 a ha).1 hs,RowsD.keep (h.2 a ha).2 hs⟩⟩
theorem Chains.keep {w':World} {s:SlV} {l:List ChainD} (h:Chains w s l) (hs:∀ k,k<w.heap.size→w'.heap[k]?=w.heap[k]?):Chains w' s l :=
 ⟨RowsD.keep h.1 hs,fun c hc=>ChainD.keep (h.2 c hc) hs⟩
end
end Go.Proofs.YtfnjklhjngphmaaGreatDoor
namespace Go.Proofs.YtfnjklhjngphmaaGreatDoor
open Go Go.Proofs Sy
def draftV (c:ChainD) (k t:Int):ActD:={ ActD.zero with author:=c.id,seq:=(c.acts.n:Int),prev:=c.prev,kind:=k,time:=t }
theorem yO (c:ChainD) (k t:Int):Pu Tryz.prog 28 #[c.v,.int .i64 k,.int .i64 t] (fun _=>True) (draftV c k t).v:=by
 refine aN (args:=[_,_,_]) _ Tryz.func28 rfl Tryz.ntmps28 rfl fun av bor w0=>?_
 repeat' (first|apply ab|apply aj|apply ai|refine ae ?_|refine aM ?_|refine aL ?_|refine bg ?_|refine aP fun _=>?_|refine aT fun _=>?_|refine aK ?_|apply aA|(refine bV (cs:=(draftV c k t).cells) (hf:=by rfl) ?_)|fail)
 exact aq (bT rfl rfl bF (by rfl)) rfl
def undoK (k:Int):Bool:=decide (k=4)||decide (k=5)||decide (k=7)||decide (k=8)||decide (k=10)||decide (k=11)||decide (k=17)||decide (k=23)
theorem oD (k:Int):Pu Tryz.prog 86 #[.int .i64 k] (fun _=>True) (.bool (undoK k)):=by
 refine aN (args:=[_]) _ Tryz.func86 rfl Tryz.ntmps86 rfl fun av bor w0=>?_
 repeat' (first|apply ab|apply aj|apply ai|refine ae ?_|refine ac ?_|refine bR ?_|refine aE ?_|apply ay|apply aw|apply aA|(refine aO (ht:=?_) (hf:=?_);all_goals (intro hx_;first|have:=aY hx_|have:=aZ hx_)))
 (all_goals (apply aq;apply aB;rfl;rfl));all_goals (simp only [undoK, *,decide_true,decide_false,cond_true,cond_false,Bool.and_true,Bool.true_and,Bool.and_false,Bool.false_and,Bool.not_true,Bool.not_false,Bool.or_true,Bool.true_or,Bool.or_false,Bool.false_or];done)
def atK (c:ChainD) (o:Option Nat) (p:Int→Bool):Bool:=match o with
 | some j=>p (c.actsL.getD j ActD.zero).kind
 | none=>false
def fitsV (c:ChainD) (a:ActD) (pl:Option Nat):Bool :=
 bif !rightB a||!seqB a.author c.id||!decide (a.seq=(c.acts.n:Int))||!seqB a.prev c.prev then false
 else bif decide (a.kind=0) != decide ((c.acts.n:Int)=0) then false
 else bif decide (a.kind=6) then atK c pl undoK
 else bif decide (a.kind=13)||decide (a.kind=14) then atK c pl postK else true
set_option maxRecDepth 20000 in
set_option maxHeartbeats 4000000 in
theorem td (c:ChainD) (a:ActD) (gf:Nat) [FnBody Tryz.prog gf] (lb:List Value) (pl:Option Nat) (Y:World→Prop) (hpl:Pu Tryz.prog gf (.string a.object::lb).toArray Y (idxP pl)) (hlt:∀ j,pl=some j→j<c.actsL.length) :
  Pu Tryz.prog 45 #[c.v,a.v,.func (.func gf) #[] lb.toArray] (fun w=>c.at_ w∧a.at_ w∧Y w) (.bool (fitsV c a pl)):=by
 refine aN (args:=[_,_,_]) _ Tryz.func45 rfl Tryz.ntmps45 rfl fun av bor w0=>?_
 refine bt (p:=c.acts.n=c.actsL.length∧c.acts.n≤maxLen∧(0<c.actsL.length→c.acts.p.isSome=true)) (fun w h=>⟨h.1.len_,h.1.max_,h.1.some_⟩) fun ⟨hl,hm,hp⟩=>?_
 simp only [maxLen] at hm
 have hri:=dO a
 cases hB:(!rightB a||!seqB a.author c.id||!decide (a.seq=(c.acts.n:Int))||!seqB a.prev c.prev) with
 | true =>
  rw [show fitsV c a pl=false from by rw [fitsV,hB];rfl]
  repeat' (first|apply ab|apply aj|apply ai|refine ae ?_|refine ac ?_|refine aM ?_|refine aL ?_|refine aG ?_|refine aJ ?_|refine aH ?_|refine bE ?_|refine bR ?_|refine cZ ?_|refine dp ?_|refine bg ?_|refine bI ?_|refine aT fun _=>?_|refine aE ?_|apply ay|apply aw|apply aA|refine fO ?_|(refine aC (hc:=hri) (hX:=fun _ h=>h.2.1) ?_)|((fail_if_success (refine bA ?_));refine bj (ht:=?_) (hf:=?_);all_goals (intro hx_;skip))|(refine aO (ht:=?_) (hf:=?_);all_goals (intro hx_;first|have:=aY hx_|have:=aZ hx_|skip)))
  all_goals first
   | (apply aq;apply aB;rfl;rfl;rfl)
   | (exfalso;simp_all;done)
 | false =>
  have hB':=hB
  simp only [Bool.or_eq_false_iff,Bool.not_eq_false',decide_eq_true_eq] at hB'
  obtain ⟨⟨⟨e1,e2⟩,e3⟩,e4⟩:=hB'
  rw [e1] at hri
  cases hK:(decide (a.kind=0) != decide ((c.acts.n:Int)=0)) with
  | true =>
   rw [show fitsV c a pl=false from by rw [fitsV,hB,hK];rfl]
   repeat' (first|refine fN (hab:=e3) ?_|apply ab|apply aj|apply ai|refine ae ?_|refine ac ?_|refine aM ?_|refine aL ?_|refine aG ?_|refine aJ ?_|refine aH ?_|refine bE ?_|refine bR ?_|refine dp ?_|refine bg ?_|refine bI ?_|refine aT fun _=>?_|refine aE ?_|apply ay|apply aA|refine fO ?_|(refine aC (hc:=hri) (hX:=fun _ h=>h.2.1) ?_)|((fail_if_success (refine bA ?_));refine bj (ht:=?_) (hf:=?_);all_goals (intro hx_;skip))|(refine aO (ht:=?_) (hf:=?_);all_goals (intro hx_;skip)))
   all_goals first
    | (apply aq;apply aB;rfl;rfl;rfl)
    | (exfalso;simp_all;done)
  | false =>
   have hF:fitsV c a pl=(bif decide (a.kind=6) then atK c pl undoK else bif decide (a.kind=13)||decide (a.kind=14) then atK c pl postK else true):=by rw [fitsV,hB,hK];rfl
   rw [hF]
   cases pl with
   | none =>
    have hpl':Pu Tryz.prog gf (.string a.object::lb).toArray Y (.tuple #[.int .i64 0,.bool false]):=hpl
    repeat' (first|refine fN (hab:=e3) ?_|apply ab|apply aj|apply ai|refine ae ?_|refine ac ?_|refine aM ?_|refine aL ?_|refine aG ?_|refine aJ ?_|refine aH ?_|refine bE ?_|refine bR ?_|refine dp ?_|refine bg ?_|refine bC ?_|refine aW ?_|refine bI ?_|refine aT fun _=>?_|refine aE ?_|refine aD ?_|apply ay|apply aw|apply aA|refine fO ?_|(refine aC (hc:=hri) (hX:=fun _ h=>h.2.1) ?_)|(refine fR (hc:=hpl') (hX:=fun _ h=>h.2.2) (h:=?_))|((fail_if_success (refine bA ?_));refine bj (ht:=?_) (hf:=?_);all_goals (intro hx_;skip))|(refine aO (ht:=?_) (hf:=?_);all_goals (intro hx_;first|have:=aY hx_|have:=aZ hx_|skip)))
    all_goals first
     | (exfalso;simp_all;done)
     | (apply aq;apply aB;rfl;rfl;simp_all [atK];done)
   | some j =>
    have hjl:=hlt j rfl
    have hp':=hp ag
    obtain ⟨x,hx⟩:∃ x,c.actsL[j]?=some x:=⟨_,List.getElem?_eq_getElem hjl⟩
    have hA:∀ p,atK c (some j) p=p x.kind:=fun p=>by simp only [atK,List.getD_eq_getElem?_getD,hx,Option.getD_some]
    rw [hA,hA] at hF ⊢
    have hpl':Pu Tryz.prog gf (.string a.object::lb).toArray Y (.tuple #[.int .i64 (j:Nat),.bool true]):=hpl
    clear hpl
    repeat' (first|refine fN (hab:=e3) ?_|apply ab|apply aj|apply ai|refine ae ?_|refine ac ?_|refine aM ?_|refine aL ?_|refine aG ?_|refine aJ ?_|refine aH ?_|refine bE ?_|refine bR ?_|refine dp ?_|refine bg ?_|refine bC ?_|refine bI ?_|refine aT fun _=>?_|refine aE ?_|refine aD ?_|apply ay|apply aw|apply aA|refine fO ?_|(refine aC (hc:=hri) (hX:=fun _ h=>h.2.1) ?_)|(refine fR (hc:=hpl') (hX:=fun _ h=>h.2.2) (h:=?_))|(refine bf (q:=j*20) ?_)|(refine cT ?_)|(refine bU (q:=j*20+3) (u:=.int .i64 x.kind) (hF:=fun w h=>(Acts.get h.1 hx).2.2 3 _ rfl) ?_)|refine aC (hc:=oD x.kind) ?_|refine aC (hc:=eX x.kind) ?_|((fail_if_success (refine bA ?_));refine bj (ht:=?_) (hf:=?_);all_goals (intro hx_;skip))|(refine aO (ht:=?_) (hf:=?_);all_goals (intro hx_;first|have:=aY hx_|have:=aZ hx_|skip)))
    all_goals first
     | (exfalso;simp_all;done)
     | (apply aq;apply aB;rfl;rfl;simp_all;done)
theorem yG (c:ChainD) (hc:ActsOk c.actsL) (b:Nat) (d:ByteArray):Pu Tryz.prog 46 #[.string d,.pointer (some ⟨b,0,none⟩)] (fun w=>(c.at_ w∧Glob w)∧ChBox c b w) (idxP (idxV c.actsL d)):=by
 refine aN (args:=[_,_]) _ Tryz.func46 rfl Tryz.ntmps46 rfl fun av bor w0=>?_
 repeat' (first|apply ab|apply aj|apply ai|refine ae ?_|refine ac ?_|refine bC ?_|apply aA|(refine r5 (cs:=c.cells) (hF:=fun w h=>h.2.cell) (hl:=rfl) ?_)|(refine aC (hc:=lM c hc d) (hX:=fun _ h=>h.1) ?_)|fail)
 exact aq (cO rfl rfl rfl) rfl
theorem vt (c:ChainD) (hc:ActsOk c.actsL) (a:ActD):Pu Tryz.prog 13 #[c.v,a.v] (fun w=>(c.at_ w∧Glob w)∧a.at_ w) (.bool (fitsV c a (idxV c.actsL a.object))):=by
 refine aN (args:=[_,_]) _ Tryz.func13 rfl Tryz.ntmps13 rfl fun av bor w0=>?_
 have hf:=fun b=>td c a 46 [.pointer (some ⟨b,0,none⟩)] (idxV c.actsL a.object) _ (yG c hc b a.object) (fun j h=>iI h)
 repeat' (first|apply ab|apply aj|apply ai|refine ac ?_|refine aG ?_|refine aT fun _=>?_|apply aA|(refine eA ?_)|(refine gT (hc:=hf _) (hX:=fun w h hr=>⟨h.1.1,h.2,h.1,hr _ (List.mem_cons_of_mem _ aU)⟩) ?_)|fail)
 exact aq (aB rfl rfl) rfl
structure ClaimD where
 actor:ByteArray
 base:Int
 prev:ByteArray
 gen:Int
 home:Int
 pub:Int
 time:Int
 e:Int
 s:Int
structure BallotD where
 server:Int
 actor:ByteArray
 gen:Int
 claim:ByteArray
 time:Int
 e:Int
 s:Int
structure DecD where
 server:Int
 number:Int
 kind:Int
 actor:ByteArray
 object:ByteArray
 text:ByteArray
 to:SlV
 n:Int
 from_:Int
 until_:Int
 e:Int
 s:Int
 toL:List ByteArray
structure ItemD where
 kind:Int
 act:ActD
 claim:ClaimD
 ballot:BallotD
 dec:DecD
def ClaimD.cells (c:ClaimD):List Value:=[.string c.actor,.int .i64 c.base,.string c.prev,.int .i64 c.gen,.int .i64 c.home,.int .i64 c.pub,.int .i64 c.time,.int .i64 c.e,.int .i64 c.s]
def ClaimD.v (c:ClaimD):Value:=.agg c.cells.toArray
def ClaimD.zero:ClaimD:=⟨⟨#[]⟩,0,⟨#[]⟩,0,0,0,0,0,0⟩
def BallotD.cells (b:BallotD):List Value:=[.int .i64 b.server,.string b.actor,.int .i64 b.gen,.string b.claim,.int .i64 b.time,.int .i64 b.e,.int .i64 b.s]
def BallotD.v (b:BallotD):Value:=.agg b.cells.toArray
def BallotD.zero:BallotD:=⟨0,⟨#[]⟩,0,⟨#[]⟩,0,0,0⟩
def DecD.cells (d:DecD):List Value:=[.int .i64 d.server,.int .i64 d.number,.int .i64 d.kind,.string d.actor,.string d.object,.string d.text,d.to.v,.int .i64 d.n,.int .i64 d.from_,.int .i64 d.until_,.int .i64 d.e,.int .i64 d.s]
def DecD.v (d:DecD):Value:=.agg d.cells.toArray
def DecD.zero:DecD:=⟨0,0,0,⟨#[]⟩,⟨#[]⟩,⟨#[]⟩,⟨none,0,0⟩,0,0,0,0,0,[]⟩
def DecD.at_ (w:World) (d:DecD):Prop:=Strs w d.to d.toL
def ItemD.cells (i:ItemD):List Value:=.int .i64 i.kind::(i.act.cells++i.claim.cells++i.ballot.cells++i.dec.cells)
def ItemD.v (i:ItemD):Value:=.agg i.cells.toArray
def ItemD.at_ (w:World) (i:ItemD):Prop:=ActD.at_ w i.act∧DecD.at_ w i.dec
def ofActI (a:ActD):ItemD:=⟨0,a,ClaimD.zero,BallotD.zero,DecD.zero⟩
def ItemD.zero:ItemD:=ofActI ActD.zero
def Items (w:World) (s:SlV) (l:List ItemD):Prop:=RowsD w 49 s (l.map ItemD.cells)∧∀ i∈l,ItemD.at_ w i
theorem Items.len_ {w:World} {s:SlV} {l:List ItemD} (h:Items w s l):s.n=l.length:=by simpa using RowsD.len h.1
theorem Items.max_ {w:World} {s:SlV} {l:List ItemD} (h:Items w s l):s.n≤maxLen:=Nat.le_trans (RowsD.cap h.1) (RowsD.max h.1)
theorem Items.get {w:World} {s:SlV} {l:List ItemD} (h:Items w s l) {k:Nat} {x:ItemD} (hx:l[k]?=some x):x.cells.length=49∧s.p.isSome=true∧∀ j u,x.cells[j]?=some u→CellAt w s.p (k*49+j) u:=RowsD.row h.1 k x.cells (by simp [hx])
theorem Items.some_ {w:World} {s:SlV} {l:List ItemD} (h:Items w s l) (h0:0<l.length):s.p.isSome=true:=(h.get (k:=0) (x:=l[0]) (List.getElem?_eq_getElem h0)).2.1
end Go.Proofs.YtfnjklhjngphmaaGreatDoor
namespace Go.Proofs.YtfnjklhjngphmaaGreatDoor
open Go Go.Proofs Sy
structure KeyD where
 from_:Int
 public_:Int
 home:Int
def KeyD.cells (k:KeyD):List Value:=[.int .i64 k.from_,.int .i64 k.public_,.int .i64 k.home]
def KeyD.v (k:KeyD):Value:=.agg k.cells.toArray
def KeyD.zero:KeyD:=⟨0,0,0⟩
def Keyz (w:World) (s:SlV) (l:List KeyD):Prop:=RowsD w 3 s (l.map KeyD.cells)
theorem Keyz.know {s:SlV} {l:List KeyD}:∀ w,Keyz w s l→s.n=l.length∧s.n≤maxLen∧(0<l.length→s.p.isSome=true):=fun w h =>
 ⟨by simpa using RowsD.len h,Nat.le_trans (RowsD.cap h) (RowsD.max h),fun hl=>(RowsD.row h 0 l[0].cells (by simp [List.getElem?_eq_getElem hl])).2.1⟩
theorem Keyz.get {w:World} {s:SlV} {l:List KeyD} (h:Keyz w s l) {i:Nat} {x:KeyD} (hx:l[i]?=some x):x.cells.length=3∧s.p.isSome=true∧∀ j u,x.cells[j]?=some u→CellAt w s.p (i*3+j) u:=RowsD.row h i _ (by simp [hx])
namespace Sy
section
variable {P:Program} {N:Nat} {av bor:List Nat} {w0:World} {ops:Array Oper} {rest:List Oper} {E:Env} {loc:List Res} {X:World→Prop} {k:St→Prop} {ty:TypeId} {pos:String} {af:Array Edge} {g:Option (Nat×Bool)} {bb want:Bool}
end
end Sy
end Go.Proofs.YtfnjklhjngphmaaGreatDoor
namespace Go.Proofs.YtfnjklhjngphmaaGreatDoor
open Go Go.Proofs Sy
structure ChS where
 acts:List ActD
 keys:List KeyD
 prev:ByteArray
 gen:Nat
structure OfW where
 L:List ActD
 id:ByteArray
 won:Nat→Option ClaimD
 clm:Int→ClaimD→Bool
 dgC:ClaimD→ByteArray
 ver:Int→ActD→Bool
 B:Nat
def ChS.key (st:ChS):Int:=(st.keys.getD (st.keys.length-1) KeyD.zero).public_
def ChS.ch (st:ChS) (id:ByteArray):ChainD:=⟨id,⟨none,st.acts.length,0⟩,⟨none,0,0⟩,st.prev,(st.gen:Int),false,st.acts⟩
def posB (n:Nat) (p:ByteArray) (a:ActD):Bool:=decide (a.seq=(n:Int))&&seqB a.prev p
def addS (st:ChS) (a:ActD):ChS:=⟨st.acts++[a],bif decide (a.kind=18) then st.keys++[⟨((st.acts.length+1:Nat):Int),a.n,a.m⟩] else st.keys,digV a,st.gen⟩
def setI (l:List ActD):Nat→Option Nat
 | 0=>none
 | n+1=>bif decide ((l.getD n ActD.zero).kind=19) then some n else setI l n
def regS (W:OfW) (st:ChS):Option ChS:=match W.won st.gen with
 | none=>none
 | some c=>bif decide (c.base=(st.acts.length:Int))&&seqB c.prev st.prev then (match setI st.acts st.acts.length with
  | none=>none
  | some i=>bif W.clm (st.acts.getD i ActD.zero).m c then some ⟨st.acts,st.keys++[⟨(st.acts.length:Nat),c.pub,c.home⟩],W.dgC c,st.gen+1⟩ else none) else none
def candB (W:OfW) (st:ChS) (a:ActD):Bool:=fitsV (st.ch W.id) a (idxV st.acts a.object)&&W.ver st.key a
def candL (W:OfW) (st:ChS):List ActD:=(W.L.filter (posB st.acts.length st.prev)).filter (candB W st)
def oneA:List ActD→Option ActD
 | [a]=>some a
 | _=>none
def stepS (W:OfW) (st:ChS):Option ChS:=match regS W st with
 | some s=>some s
 | none=>(oneA (candL W st)).map (addS st)
def runS (W:OfW):Nat→ChS→ChS
 | 0,st=>st
 | n+1,st=>match stepS W st with
  | some s=>runS W n s
  | none=>st
def firstB (W:OfW) (a:ActD):Bool:=decide (a.kind=0)&&seqB (idV a.n) W.id&&W.ver a.n a
def firstL (W:OfW):List ActD:=(W.L.filter (posB 0 ⟨#[]⟩)).filter (firstB W)
def begS (a:ActD):ChS:=addS ⟨[],[⟨0,a.n,a.m⟩],⟨#[]⟩,0⟩ a
def finS (W:OfW) (a:ActD):ChS:=runS W (W.L.length+W.B) (begS a)
structure InvS (W:OfW) (st:ChS):Prop where
 seq:∀ i,i<st.acts.length→∃ a∈W.L,a.seq=(i:Int)
 mem:∀ a∈st.acts,a∈W.L
 one:0<st.acts.length
 key:0<st.keys.length
 keyn:st.keys.length≤st.acts.length+st.gen+1
 gen:st.gen≤W.B
theorem mW:∀ {n:Nat} {l:List Int},(∀ i,i<n→(i:Int)∈l)→n≤l.length
 | 0,l,_=>Nat.zero_le _
 | n+1,l,h=>by
  have ih:=mW (n:=n) (l:=l.erase (n:Int)) fun i hi=>(List.mem_erase_of_ne ag).2 (h i ag)
  have hm:=h n (Nat.lt_succ_self n)
  rw [List.length_erase_of_mem hm] at ih
  have:0<l.length:=List.length_pos_of_mem hm
  omega
theorem InvS.len {W:OfW} {st:ChS} (h:InvS W st):st.acts.length≤W.L.length:=by
 have:=mW (n:=st.acts.length) (l:=W.L.map ActD.seq) fun i hi=>by
  obtain ⟨a,ha,e⟩:=h.seq i hi
  exact List.mem_map.2 ⟨a,ha,e⟩
 simpa using this
def muS (W:OfW) (st:ChS):Nat:=(W.L.length-st.acts.length)+(W.B-st.gen)
theorem uX {l:List ActD} {a:ActD} (h:oneA l=some a):l=[a]:=by
 cases l with
 | nil=>cases h
 | cons x r =>
  cases r with
  | nil=>rw [oneA,Option.some.injEq] at h;rw [h]
  | cons y r=>cases h
theorem mJ {W:OfW} {st s:ChS} (h:regS W st=some s):∃ c,W.won st.gen=some c∧s.acts=st.acts∧s.gen=st.gen+1∧s.keys.length=st.keys.length+1:=by
 rw [regS] at h
 cases hw:W.won st.gen with
 | none=>rw [hw] at h;cases h
 | some c =>
  rw [hw] at h
  simp only at h
  cases hb:decide (c.base=(st.acts.length:Int))&&seqB c.prev st.prev with
  | false=>rw [hb] at h;cases h
  | true =>
   rw [hb] at h
   cases hs:setI st.acts st.acts.length with
   | none=>rw [hs] at h;cases h
   | some i =>
    rw [hs] at h
    simp only [cond_true] at h
    cases hc:W.clm (st.acts.getD i ActD.zero).m c with
    | false=>rw [hc] at h;cases h
    | true =>
     rw [hc,cond_true,Option.some.injEq] at h
     subst h
     exact ⟨c,rfl,rfl,rfl,by simp⟩
theorem p7 {W:OfW} {st:ChS} {a:ActD} (h:a∈candL W st):a∈W.L∧a.seq=(st.acts.length:Int)∧candB W st a=true:=by
 rw [candL,List.mem_filter,List.mem_filter] at h
 have h2:=h.1.2
 simp only [posB,Bool.and_eq_true,decide_eq_true_eq] at h2
 exact ⟨h.1.1,h2.1,h.2⟩
theorem vA (st:ChS) (a:ActD):st.keys.length≤(addS st a).keys.length∧(addS st a).keys.length≤st.keys.length+1:=by
 simp only [addS]
 cases decide (a.kind=18) with
 | true=>simp
 | false=>simp
theorem xg {W:OfW} (hB:∀ g c,W.won g=some c→g<W.B) {st s:ChS} (h:InvS W st) (hs:stepS W st=some s):InvS W s∧muS W s+1≤muS W st:=by
 have hl:=h.len
 rw [stepS] at hs
 cases hr:regS W st with
 | some s' =>
  rw [hr,Option.some.injEq] at hs
  subst hs
  obtain ⟨c,h1,h2,h3,h4⟩:=mJ hr
  have:=hB _ _ h1
  refine ⟨⟨by rw [h2];exact h.seq,by rw [h2];exact h.mem,by rw [h2];exact h.one,by omega,by rw [h2,h3];have:=h.keyn;omega,by omega⟩,?_⟩
  simp only [muS,h2,h3]
  omega
 | none =>
  rw [hr] at hs
  cases ho:oneA (candL W st) with
  | none=>rw [ho] at hs;cases hs
  | some a =>
   rw [ho,Option.map_some,Option.some.injEq] at hs
   subst hs
   have ha:a∈candL W st:=by rw [uX ho];exact List.mem_singleton.2 rfl
   obtain ⟨m1,m2,m3⟩:=p7 ha
   have hk:=vA st a
   have hal:(addS st a).acts.length=st.acts.length+1:=by simp [addS]
   have hI:InvS W (addS st a):=⟨fun i hi=>by
     rw [hal] at hi
     by_cases e:i=st.acts.length
     · subst e;exact ⟨a,m1,m2⟩
     · exact h.seq i ag,fun x hx=>by
     rcases List.mem_append.1 (show x∈st.acts++[a] from hx) with hx|hx
     · exact h.mem x hx
     · rw [List.mem_singleton.1 hx];exact m1,by omega,by have:=h.key;omega,by rw [hal];have:=h.keyn;show _≤_+st.gen+1;omega,h.gen⟩
   refine ⟨hI,?_⟩
   have:=hI.len
   simp only [muS,hal] at *
   show _+(W.B-st.gen)+1≤_
   omega
theorem oS {W:OfW} {st:ChS} (h:stepS W st=none):∀ n,runS W n st=st
 | 0=>rfl
 | n+1=>by rw [runS,h]
theorem xn {W:OfW} {st s:ChS} (h:stepS W st=some s) {n:Nat}:runS W (n+1) st=runS W n s:=by rw [runS,h]
theorem Bx {W:OfW} {a:ActD} (ha:a∈firstL W):InvS W (begS a)∧muS W (begS a)+1≤W.L.length+W.B:=by
 rw [firstL,List.mem_filter,List.mem_filter] at ha
 have h2:=ha.1.2
 simp only [posB,Bool.and_eq_true,decide_eq_true_eq] at h2
 have h3:=ha.2
 simp only [firstB,Bool.and_eq_true,decide_eq_true_eq] at h3
 have hk:begS a=⟨[a],[⟨0,a.n,a.m⟩],digV a,0⟩:=by
  rw [begS,addS,h3.1.1]
  rfl
 have hL:0<W.L.length:=List.length_pos_of_mem ha.1.1
 rw [hk]
 refine ⟨⟨fun i hi=>⟨a,ha.1.1,by rw [h2.1,show i=0 from by simpa using hi]⟩,fun x hx=>by rw [List.mem_singleton.1 hx];exact ha.1.1,by simp,by simp,by simp,Nat.zero_le _⟩,?_⟩
 simp only [muS,List.length_singleton]
 omega
end Go.Proofs.YtfnjklhjngphmaaGreatDoor
namespace Go.Proofs.YtfnjklhjngphmaaGreatDoor.Sy
open Go Go.RowKit Go.MapKept
class KeyS (P:Program) (kt:TypeId) (κ:Type) [DecidableEq κ] where
 enc:κ→Value
 inj:∀ a b,enc a=enc b→a=b
 check:∀ (w:World) e a,(Instr.checkKey e 10000 kt (enc a)).run P w=.ok () w
 eq:∀ (w:World) a b,(Op.equal kt (enc a) (enc b)).run P w=.ok (decide (a=b)) w
 ask:∀ d a b,P.underlying kt=some d→Instr.sameNow d (enc a) (enc b)=none
 stay:∀ (w:World) a,(Instr.keyThatStays (enc a) (enc a)).run P w=.ok (enc a) w
section
variable {κ:Type} [DecidableEq κ] {β:Type}
def dget:List (κ×β)→κ→Option β
 | [],_=>none
 | (k',v')::r,k=>bif decide (k=k') then some v' else dget r k
def dput:List (κ×β)→κ→β→List (κ×β)
 | [],k,v=>[(k,v)]
 | (k',v')::r,k,v=>bif decide (k=k') then (k,v)::r else (k',v')::dput r k v
theorem jr:∀ (b:List (κ×β)) (k a:κ) (v:β),dget (dput b k v) a=bif decide (a=k) then some v else dget b a
 | [],k,a,v=>rfl
 | (k',v')::r,k,a,v=>by
  have ih:=jr r k a v
  simp only [dput]
  by_cases hk:k=k'
  · subst hk
    simp only [decide_true,cond_true,dget]
    cases decide (a=k)<;>rfl
  · simp only [hk,decide_false,cond_false,dget,ih]
    by_cases ha:a=k'
    · subst ha
      have:¬ a=k:=fun e=>hk e.symm
      simp [this]
    · simp [ha]
theorem p3:∀ {b:List (κ×β)} {k:κ} {v:β},dget b k=some v→(k,v)∈b
 | (k',v')::r,k,v,h=>by
  simp only [dget] at h
  by_cases hk:k=k'
  · simp only [hk,decide_true,cond_true,Option.some.injEq] at h
    rw [hk,h]
    exact aU
  · simp only [hk,decide_false,cond_false] at h
    exact List.mem_cons_of_mem _ (p3 h)
end
section
variable {P:Program} {kt:TypeId} {κ:Type} [DecidableEq κ] [K:KeyS P kt κ]
def SMapAt (P:Program) (kt:TypeId) {κ:Type} [DecidableEq κ] [K:KeyS P kt κ] (w:World) (g:Nat) (l:List (κ×Value)):Prop :=
 ∃ es clock,w.heap[g]?=some (.map es clock)∧Stamped es clock∧es.toList.map (fun e=>(e.key,e.val))=l.map fun p=>(K.enc p.1,p.2)
def smapr (P:Program) (kt:TypeId) {κ:Type} [DecidableEq κ] [K:KeyS P kt κ] (g:Nat) (l:List (κ×Value)):Res:=⟨[g],fun w=>SMapAt P kt w g l⟩
theorem jm (w:World) (k:κ):∀ (es:List MapEntry) (l:List (κ×Value)) (i:Nat),es.map (fun e=>(e.key,e.val))=l.map (fun p=>(K.enc p.1,p.2)) →
  ((Instr.findAsking kt (K.enc k) es i).run P w=.ok none w∧dget l k=none∧(∀ v,dput l k v=l++[(k,v)])∧∀ x∈es,x.key≠K.enc k) ∨
  ∃ j e v0,(Instr.findAsking kt (K.enc k) es i).run P w=.ok (some (i+j,v0)) w∧es[j]?=some e∧e.key=K.enc k∧dget l k=some v0∧∀ v,dput l k v=l.set j (k,v)
 | [],l,i,h=>by
  have:l=[]:=by cases l<;>simp_all
  subst this
  exact .inl ⟨rfl,rfl,fun _=>rfl,by simp⟩
 | e::es,[],i,h=>by simp at h
 | e::es,(k',v')::l,i,h=>by
  simp only [List.map_cons,List.cons.injEq,Prod.mk.injEq] at h
  obtain ⟨⟨h1,h2⟩,h3⟩:=h
  have hs:(Op.equal kt (K.enc k) e.key).run P w=.ok (decide (k=k')) w:=by rw [h1];exact K.eq w k k'
  by_cases hb:k=k'
  · subst hb
    exact .inr ⟨0,e,v',by simp [Instr.findAsking,hs,h2,Result.andThen],rfl,h1,by simp [dget],fun v=>by simp [dput]⟩
  · have hne:e.key≠K.enc k:=fun q=>hb (K.inj _ _ (q.symm.trans h1))
    rcases jm w k es l (i+1) h3 with ⟨g1,g2,g3,g4⟩|⟨j,e',v0,g1,g2,g3,g4,g5⟩
    · exact .inl ⟨by simp [Instr.findAsking,hs,hb,g1,Result.andThen],by simp [dget,hb,g2],fun v=>by simp [dput,hb,g3],fun x hx=>by
       cases hx with
       | head=>exact hne
       | tail _ hx=>exact g4 x hx⟩
    · exact .inr ⟨j+1,e',v0,by simp [Instr.findAsking,hs,hb,g1,Result.andThen];omega,by simpa using g2,g3,by simp [dget,hb,g4],fun v=>by simp [dput,hb,g5]⟩
theorem ip {w:World} {d:TypeDesc} (hd:P.underlying kt=some d) (k:κ) {es:List MapEntry} {l:List (κ×Value)} (h:es.map (fun e=>(e.key,e.val))=l.map (fun p=>(K.enc p.1,p.2))) :
  (Instr.findKey kt (K.enc k) es).run P w=(Instr.findAsking kt (K.enc k) es 0).run P w:=by
 cases es with
 | nil=>simp [Instr.findKey,run_underlying hd,Result.andThen,Instr.findNow,Instr.findAsking]
 | cons e es =>
  cases l with
  | nil=>simp at h
  | cons p l =>
   simp only [List.map_cons,List.cons.injEq,Prod.mk.injEq] at h
   have hs:Instr.sameNow d (K.enc k) e.key=none:=by rw [h.1.1];exact K.ask d k p.1 hd
   simp [Instr.findKey,run_underlying hd,Result.andThen,Instr.findNow,hs]
def smapOf (P:Program) (t:TypeId):Option (TypeId×TypeId) :=
 match P.underlying t with
 | some (.map kt et)=>(P.underlying kt).map fun _=>(kt,et)
 | _=>none
class TySMap (P:Program) (t:TypeId) (kt et:outParam Nat):Prop where out:smapOf P t=some (kt,et)
theorem jx {t kt et:TypeId} (h:smapOf P t=some (kt,et)):P.underlying t=some (.map kt et)∧∃ d,P.underlying kt=some d:=by
 unfold smapOf at h
 split at h
 · rename_i kt et' he
   cases hk:P.underlying kt with
   | none=>simp [hk] at h
   | some d' =>
    simp [hk] at h
    obtain ⟨rfl,rfl⟩:=h
    exact ⟨he,_,hk⟩
 · cases h
theorem oT {w:World} {t et:TypeId} {z:Value} (ht:smapOf P t=some (kt,et)) (hz:zeroOf P et=some z) {g:Nat} {l:List (κ×Value)} (h:SMapAt P kt w g l) (k:κ) :
  (Instr.lookup t (.map (some g)) (K.enc k) false).run P w=.ok ((dget l k).getD z) w:=by
 obtain ⟨h1,d,h2⟩:=jx ht
 obtain ⟨es,clock,hb,hs,hl⟩:=h
 have hzr:(zeroValue et).run P w=.ok z w:=dK hz w
 have hf:=ip (w:=w) h2 k hl
 have hc:=K.check w es.isEmpty k
 rcases jm w k es.toList l 0 hl with ⟨g1,g2,g3,g4⟩|⟨j,e,v0,g1,g2,g3,g4,g5⟩
 · rw [g1] at hf
   simp [Instr.lookup,run_underlying h1,MapKept.run_getObj_map hb,hc,hf,hzr,g2,Result.andThen]
 · rw [g1] at hf
   simp [Instr.lookup,run_underlying h1,MapKept.run_getObj_map hb,hc,hf,g4,Result.andThen]
end
section
variable {P:Program} {N:Nat} {av bor:List Nat} {w0:World} {ops:Array Oper} {rest:List Oper} {k:St→Prop} {E:Env} {loc loc':List Res} {X:World→Prop}
variable {d:Option Tmp} {ty:TypeId} {pos:String} {af:Array Edge} {g:Option (Nat×Bool)} {bb want:Bool}
theorem oM (κ:Type) (kt:TypeId) [DecidableEq κ] [KS:KeyS P kt κ] {n:Nat} {t:TypeId} (hg:gdB ops E g=some (bb,want):=by rfl) (hb:bb=want:=by exact aR) (hd:Nat.blt n N=true:=by rfl)
  (h:∀ q,Sw P N av bor w0 ops rest ⟨(n,.map (some q))::E,smapr P kt q ([]:List (κ×Value))::loc,X⟩ k):Sw P N av bor w0 ops (⟨some n,.makeMap t none,ty,pos,af,g⟩::rest) ⟨E,loc,X⟩ k:=Sw.mk fun a w ok=>by
 have hd':inB N (some n)=true:=by have h1:n<N:=Nat.le_of_ble_eq_true hd;simpa [inB] using h1
 simp only [wpList]
 rw [cj ok (o:=⟨some n,.makeMap t none,ty,pos,af,g⟩) hg]
 subst hb
 simp only [beq_self_eq_true,if_true]
 left
 unfold Oper.wp
 have hr:(execOp a.eval ⟨some n,.makeMap t none,ty,pos,af,g⟩).run P w=.ok (.value (.map (some w.heap.size))) (w.alloc (.map #[] 0)):=by
  have:(newObj (.map #[] 0)).run P w=.ok w.heap.size (w.alloc (.map #[] 0)):=rfl
  simp [execOp,Instr.makeMap,this]
 rw [hr]
 have ok':Ok N av bor w0 ⟨E,smapr P kt w.heap.size ([]:List (κ×Value))::loc,X⟩ a (w.alloc (.map #[] 0)):=(ok.via fun M G=>G.new (.map #[] 0) (fun w2=>SMapAt P kt w2 w.heap.size ([]:List (κ×Value))) fun w2 h=>⟨#[],0,h,stamped_empty 0,rfl⟩)
 exact (h _).run _ _ (di (some n) _▸ok'.put hd' _)
theorem mn {κ:Type} {kt:TypeId} [DecidableEq κ] [KS:KeyS P kt κ] {st:St} {t et:Nat} [ht:TySMap P t kt et] {z:Value} [hz:TyZero P et z] {m x:Operand} {q:Nat} {l:List (κ×Value)} {kk:κ} {o:Option Value} {v:Value} (hm:ev st.env m=some (.map (some q))) (hx:ev st.env x=some (KS.enc kk))
  (hl:∀ w,Gam av bor w0 st.loc st.ext w→SMapAt P kt w q l) (ho:dget l kk=o) (hv:o.getD z=v):Sy.Yields P N av bor w0 st (.lookup t m x false) ty v:=Sy.Yields.mk fun A w ok d pos af g=>by
 have:=oT (P:=P) (t:=t) ht.out hz.out (hl w ok.gam) kk
 subst ho
 subst hv
 simp [execOp,ok.eval hm,ok.eval hx,this]
theorem oO {κ:Type} {kt:TypeId} [DecidableEq κ] [KS:KeyS P kt κ] {q:Nat} {l:List (κ×Value)} (hm:∀ w,X w→SMapAt P kt w q l):∀ w,Gam av bor w0 loc X w→SMapAt P kt w q l:=fun w G=>hm w G.keep.now
end
section
variable {κ:Type} [DecidableEq κ] {β:Type}
theorem jo:∀ (l:List (κ×β)) (k:κ) (u v:β),dput (dput l k u) k v=dput l k v
 | [],k,u,v=>by simp [dput]
 | (k',v')::r,k,u,v=>by
  by_cases h:k=k'
  · subst h;simp [dput]
  · simp [dput,h,jo r k u v]
theorem jp:∀ (l:List (κ×β)) (k:κ) (v:β),dget l k=some v→dput l k v=l
 | [],k,v,h=>by cases h
 | (k',v')::r,k,v,h=>by
  by_cases e:k=k'
  · subst e
    simp only [dget,decide_true,cond_true,Option.some.injEq] at h
    simp [dput,h]
  · simp only [dget,e,decide_false,cond_false] at h
    simp [dput,e,jp r k v h]
end
section
variable {P:Program} {kt:TypeId} {κ:Type} [DecidableEq κ] [K:KeyS P kt κ]
def SMapE (P:Program) (kt:TypeId) {κ:Type} [DecidableEq κ] [K:KeyS P kt κ] (w:World) (g:Nat) (l:List (κ×Value)) (k:κ) (b:Nat):Prop :=
 ∃ es clock j e,w.heap[g]?=some (.map es clock)∧Stamped es clock∧es.toList.map (fun e=>(e.key,e.val))=l.map (fun p=>(K.enc p.1,p.2))∧es[j]?=some e∧e.key=K.enc k∧e.born=b∧∀ v,dput l k v=l.set j (k,v)
def smape (P:Program) (kt:TypeId) {κ:Type} [DecidableEq κ] [K:KeyS P kt κ] (g:Nat) (l:List (κ×Value)) (k:κ) (b:Nat):Res:=⟨[g],fun w=>SMapE P kt w g l k b⟩
theorem mc {w:World} {t et:TypeId} {z:Value} (ht:smapOf P t=some (kt,et)) (hz:zeroOf P et=some z) {g:Nat} {l:List (κ×Value)} (h:SMapAt P kt w g l) (k:κ) :
  ∃ o b,(Instr.mapEntry t (.map (some g)) (K.enc k)).run P w=.ok (.tuple #[(dget l k).getD z,.int .i64 (b:Nat)]) { w with heap:=w.heap.setIfInBounds g o }∧∀ w':World,w'.heap[g]?=some o→SMapE P kt w' g (dput l k ((dget l k).getD z)) k b:=by
 obtain ⟨h1,d,h2⟩:=jx ht
 obtain ⟨es,clock,hb,hs,hl⟩:=h
 have hf:=ip (w:=w) h2 k hl
 have hc:=K.check w false k
 have hzr:(zeroValue et).run P w=.ok z w:=dK hz w
 have hlen:es.size=l.length:=by simpa using congrArg List.length hl
 rcases jm w k es.toList l 0 hl with ⟨g1,g2,g3,g4⟩|⟨j,e,v0,g1,g2,g3,g4,g5⟩
 · rw [g1] at hf
   refine ⟨.map (es.push { key:=K.enc k,val:=z,born:=clock }) (clock+1),clock,?_,fun w' hw=>⟨_,_,es.size,{ key:=K.enc k,val:=z,born:=clock },hw,stamped_push hs g4,?_,by simp,rfl,rfl,fun v=>?_⟩⟩
   · simp [Instr.mapEntry,run_underlying h1,MapKept.run_getObj_map hb,hc,hf,hzr,g2,MapKept.run_setObj_map _ hb,Result.andThen,goInt]
   · rw [g2,Option.getD_none,g3]
     simp [hl]
   · rw [g2,Option.getD_none,jo,g3,g3,hlen]
     simp
 · have hj:es[j]?=some e:=by simpa using g2
   have hst:=K.stay w k
   rw [g1] at hf
   refine ⟨.map (es.modify j fun e=>{ e with key:=K.enc k }) clock,e.born,?_,fun w' hw=>⟨_,_,j,{ e with key:=K.enc k },hw,stamped_modify hs _ _ (fun _ _=>rfl) (fun e' _ he'=>by rw [hj] at he';cases he';exact g3.symm),?_,by simp [Array.getElem?_modify,hj],rfl,rfl,fun v=>?_⟩⟩
   · simp [Instr.mapEntry,run_underlying h1,MapKept.run_getObj_map hb,hc,hf,hj,g3,g4,hst,MapKept.run_setObj_map _ hb,Result.andThen,goInt]
   · rw [g4,Option.getD_some,jp l k v0 g4,←hl]
     apply List.ext_getElem?
     intro q
     simp only [List.getElem?_map,Array.getElem?_toList,Array.getElem?_modify]
     by_cases e1:j=q
     · subst e1
       simp [hj,g3]
     · simp [e1]
   · rw [g4,Option.getD_some,jp l k v0 g4]
     exact g5 v
theorem j0 {w:World} {t:TypeId} {g:Nat} {l:List (κ×Value)} {k:κ} {b:Nat} (h:SMapE P kt w g l k b) (v:Value) :
  ∃ o,(Instr.entryStore t (.map (some g)) (.int .i64 (b:Nat)) v).run P w=.ok () { w with heap:=w.heap.setIfInBounds g o }∧∀ w':World,w'.heap[g]?=some o→SMapAt P kt w' g (dput l k v):=by
 obtain ⟨es,clock,j,e,hb,hs,hl,hj,hk,hbn,hset⟩:=h
 have hjl:j<es.size:=(Array.getElem?_eq_some_iff.1 hj).1
 have hje:es[j]=e:=(Array.getElem?_eq_some_iff.1 hj).2
 have hlen:es.size=l.length:=by simpa using congrArg List.length hl
 have hfi:es.findIdx? (fun e=>(e.born:Int)==(b:Int))=some j:=by
  rw [Array.findIdx?_eq_some_iff_getElem]
  refine ⟨hjl,by rw [hje,hbn];simp,fun q hq hp=>?_⟩
  have hnd:=((stamped_iff es clock).1 hs).2.1
  have hq':es[q].born=e.born:=by rw [hbn];have:=beq_iff_eq.1 hp;omega
  have h1:(es.toList.map (·.born))[q]?=some e.born:=by simp [List.getElem?_map,Array.getElem?_toList,Array.getElem?_eq_getElem (show q<es.size by omega),hq']
  have h2:(es.toList.map (·.born))[j]?=some e.born:=by simp [List.getElem?_map,Array.getElem?_toList,hj]
  have:=(List.getElem?_inj (by simp;omega) hnd).1 (h1.trans h2.symm)
  omega
 refine ⟨.map (es.modify j fun e=>{ e with val:=v }) clock,?_,fun w' hw=>⟨_,_,hw,stamped_modify hs _ _ (fun _ _=>rfl) (fun e' _ he'=>rfl),?_⟩⟩
 · have ha:(asIntOf (Value.int IntKind.i64 (b:Nat))).run P w=.ok (.i64,((b:Nat):Int)) w:=rfl
   simp [Instr.entryStore,MapKept.run_getObj_map hb,asInt,ha,hfi,MapKept.run_setObj_map _ hb,Result.andThen]
 · rw [hset]
   apply List.ext_getElem?
   intro q
   have hq:=congrArg (fun l=>l[q]?) hl
   simp only [List.getElem?_map,Array.getElem?_toList] at hq
   simp only [List.getElem?_map,Array.getElem?_toList,Array.getElem?_modify,List.getElem?_set]
   by_cases e1:j=q
   · subst e1
     simp [hj,show j<l.length by omega,hk]
   · simp [e1,hq]
end
section
variable {P:Program} {N:Nat} {av bor:List Nat} {w0:World} {ops:Array Oper} {rest:List Oper} {k:St→Prop} {E:Env} {loc loc':List Res} {X:World→Prop}
variable {d:Option Tmp} {ty:TypeId} {pos:String} {af:Array Edge} {g:Option (Nat×Bool)} {bb want:Bool}
theorem nL {lo:Nat→List Res} {κ:Type} {kt:TypeId} [DecidableEq κ] [KS:KeyS P kt κ] {n:Nat} {t et:Nat} [ht:TySMap P t kt et] {z:Value} [hz:TyZero P et z] {m x:Operand} {q:Nat} {l:List (κ×Value)} {kk:κ} {o:Option Value} {u:Value} (hm:ev E m=some (.map (some q)):=by rfl) (hx:ev E x=some (KS.enc kk):=by rfl) (ho:dget l kk=o) (hu:o.getD z=u:=by rfl)
  (hA:∀ b,At (smapr P kt q l) (smape P kt q (dput l kk u) kk b) loc (lo b)) (hg:gdB ops E g=some (bb,want):=by rfl) (hb:bb=want:=by exact aR) (hd:Nat.blt n N=true:=by rfl)
  (h:∀ b:Nat,Sw P N av bor w0 ops rest ⟨(n,.tuple #[u,.int .i64 (b:Nat)])::E,lo b,X⟩ k):Sw P N av bor w0 ops (⟨some n,.mapEntry t m x,ty,pos,af,g⟩::rest) ⟨E,loc,X⟩ k:=Sw.mk fun a w ok=>by
 have hd':inB N (some n)=true:=by have h1:n<N:=Nat.le_of_ble_eq_true hd;simpa [inB] using h1
 subst ho
 subst hu
 simp only [wpList]
 rw [cj ok (o:=⟨some n,.mapEntry t m x,ty,pos,af,g⟩) hg]
 subst hb
 simp only [beq_self_eq_true,if_true]
 left
 unfold Oper.wp
 have hmp:SMapAt P kt w q l:=(ok.gam.here _ (hA 0).mem).now
 obtain ⟨o,b,hr,ho⟩:=mc ht.out hz.out hmp kk
 obtain ⟨es,c,hbk,_⟩:=hmp
 have hs:=heap_set (o':=o) hbk
 have ok':Ok N av bor w0 ⟨E,lo b,X⟩ a { w with heap:=w.heap.setIfInBounds q o }:=ok.via fun M G=>G.turn ((hA b).app M) rfl rfl rfl (by simp) (fun i hi=>hs.2 i hi) fun w2 h2=>ho w2 (h2.trans hs.1)
 have hr':(execOp a.eval ⟨some n,.mapEntry t m x,ty,pos,af,g⟩).run P w=.ok (.value (.tuple #[(dget l kk).getD z,.int .i64 (b:Nat)])) { w with heap:=w.heap.setIfInBounds q o }:=by
  simp [execOp,ok.eval (st:=⟨E,loc,X⟩) hm,ok.eval (st:=⟨E,loc,X⟩) hx,hr]
 rw [hr']
 exact (h b).run _ _ (di (some n) _▸ok'.put hd' _)
theorem ll {κ:Type} {kt:TypeId} [DecidableEq κ] [KS:KeyS P kt κ] {t:Nat} {m x y:Operand} {q:Nat} {l:List (κ×Value)} {kk:κ} {b:Nat} {v:Value} (hm:ev E m=some (.map (some q)):=by rfl) (hx:ev E x=some (.int .i64 (b:Nat)):=by rfl) (hy:ev E y=some v:=by rfl)
  (hA:At (smape P kt q l kk b) (smapr P kt q (dput l kk v)) loc loc':=by (repeat (first|exact At.here _|apply At.there))) (hg:gdB ops E g=some (bb,want):=by rfl) (hb:bb=want:=by exact aR) (hd:inB N d=true:=by rfl)
  (h:Sw P N av bor w0 ops rest ⟨putE E d undef,loc',X⟩ k):Sw P N av bor w0 ops (⟨d,.entryStore t m x y,ty,pos,af,g⟩::rest) ⟨E,loc,X⟩ k:=Sw.mk fun a w ok=>by
 simp only [wpList]
 rw [cj ok (o:=⟨d,.entryStore t m x y,ty,pos,af,g⟩) hg]
 subst hb
 simp only [beq_self_eq_true,if_true]
 left
 unfold Oper.wp
 have hmp:SMapE P kt w q l kk b:=(ok.gam.here _ hA.mem).now
 obtain ⟨o,hr,ho⟩:=j0 (t:=t) hmp v
 obtain ⟨es,c,j,e,hbk,_⟩:=hmp
 have hs:=heap_set (o':=o) hbk
 have ok':Ok N av bor w0 ⟨E,loc',X⟩ a { w with heap:=w.heap.setIfInBounds q o }:=ok.via fun M G=>G.turn (hA.app M) rfl rfl rfl (by simp) (fun i hi=>hs.2 i hi) fun w2 h2=>ho w2 (h2.trans hs.1)
 have hr':(execOp a.eval ⟨d,.entryStore t m x y,ty,pos,af,g⟩).run P w=.ok .skip { w with heap:=w.heap.setIfInBounds q o }:=by
  simp [execOp,ok.eval (st:=⟨E,loc,X⟩) hm,ok.eval (st:=⟨E,loc,X⟩) hx,ok.eval (st:=⟨E,loc,X⟩) hy,hr]
 rw [hr']
 exact h.run _ _ (di d _▸ok'.put hd _)
end
end Go.Proofs.YtfnjklhjngphmaaGreatDoor.Sy
namespace Go.Proofs.YtfnjklhjngphmaaGreatDoor
open Go Go.Proofs Sy
abbrev PosK:=Int×ByteArray
def posV (k:PosK):Value:=.agg #[.int .i64 k.1,.string k.2]
theorem lq (w:World) {cs:Array Value} {off:Nat} {v:Value} (h:cs[off]?=some v):(part 9 cs off).run Tryz.prog w=.ok v w:=by
 simp [part,isAgg,run_underlying Tryz.underlying9,h]
theorem yI (w:World) (d:Nat) (a b:ByteArray):(Op.equalIn (d+1) 9 (.string a) (.string b)).run Tryz.prog w=.ok (seqB a b) w:=by
 rw [run_equalIn_string w d _ a b Tryz.underlying9]
 rfl
theorem uK (w:World) (d:Nat) (a b:PosK):(Op.equalIn (d+2) 98 (posV a) (posV b)).run Tryz.prog w=.ok (decide (a=b)) w:=by
 have p0:∀ x:PosK,(part 3 #[.int .i64 x.1,.string x.2] 0).run Tryz.prog w=.ok (.int .i64 x.1) w:=fun x=>fX w rfl
 have p1:∀ x:PosK,(part 9 #[.int .i64 x.1,.string x.2] 1).run Tryz.prog w=.ok (.string x.2) w:=fun x=>lq w rfl
 unfold posV
 rw [run_equalIn_agg _ _ _ _ _ ar ar]
 simp only [Program.fieldsOf,Tryz.underlying98]
 simp [Op.eqFields,p0,p1,pY,yI]
 obtain ⟨a1,a2⟩:=a
 obtain ⟨b1,b2⟩:=b
 by_cases h1:a1=b1<;>cases h2:seqB a2 b2<;>simp [h1,h2]
 · exact fun e=>by rw [e,cG] at h2;cases h2
 · exact seqB_iff.1 h2
instance posK:KeyS Tryz.prog 98 PosK where
 enc:=posV
 inj:=by
  rintro ⟨a,b⟩ ⟨c,d⟩ h
  simp [posV] at h
  simp [h]
 check:=by
  intro w e a
  have c0:(Instr.checkKey e 9999 3 (.int .i64 a.1)).run Tryz.prog w=.ok () w:=MapKept.run_checkKey (k:=.int .i64 a.1) Tryz.underlying3 (show IntKind.i64=IntKind.i64 from rfl) e 9998
  have c1:(Instr.checkKey e 9999 9 (.string a.2)).run Tryz.prog w=.ok () w:=MapKept.run_checkKey (k:=.string a.2) Tryz.underlying9 (show True from trivial) e 9998
  have p0:(part 3 #[.int .i64 a.1,.string a.2] 0).run Tryz.prog w=.ok (.int .i64 a.1) w:=fX w rfl
  have p1:(part 9 #[.int .i64 a.1,.string a.2] 1).run Tryz.prog w=.ok (.string a.2) w:=lq w rfl
  unfold posV Instr.checkKey
  simp [run_underlying Tryz.underlying98,Result.andThen,p0,p1,c0,c1]
 eq:=by
  intro w a b
  exact uK w 9998 a b
 ask:=by
  intro d a b h
  rw [Tryz.underlying98] at h
  cases h
  rfl
 stay:=by
  intro w a
  have hb:Instr.sameBits (9999+1) (posV a) (posV a)=true:=by simp [posV,Instr.sameBits,MapKept.bytes_beq]
  show (Instr.keyThatStays (posV a) (posV a)).run Tryz.prog w=.ok (posV a) w
  simp [Instr.keyThatStays,hb]
instance:TySMap Tryz.prog 93 98 28:=⟨ar⟩
namespace Sy
section
variable {P:Program} {N:Nat} {av bor:List Nat} {w0:World} {loc0:List Res} {X0:World→Prop} {ops:Array Oper} {fuel:Nat} {listed:Array Bool} {E:Env} {loc:List Res} {X:World→Prop} {k:St→Prop}
theorem fI (i j l:Nat) {o o' o'':Oper} (hi:ops[i]?=some o:=by rfl) (hj:ops[j]?=some o':=by rfl) (hl:ops[l]?=some o'':=by rfl) (hr:Region.ready .any ops listed=[i,j,l]:=by kernel_rfl)
  (h:Sw P N av bor w0 ops [o] ⟨E,loc,X⟩ (fun s=>(∀ w,Gam av bor w0 s.loc s.ext w→Gam av bor w0 loc0 X0 w)∧Aw P N av bor w0 loc0 X0 ops fuel (listed.setIfInBounds i true) s k))
  (h':Sw P N av bor w0 ops [o'] ⟨E,loc,X⟩ (fun s=>(∀ w,Gam av bor w0 s.loc s.ext w→Gam av bor w0 loc0 X0 w)∧Aw P N av bor w0 loc0 X0 ops fuel (listed.setIfInBounds j true) s k))
  (h'':Sw P N av bor w0 ops [o''] ⟨E,loc,X⟩ (fun s=>(∀ w,Gam av bor w0 s.loc s.ext w→Gam av bor w0 loc0 X0 w)∧Aw P N av bor w0 loc0 X0 ops fuel (listed.setIfInBounds l true) s k)) :
  Aw P N av bor w0 loc0 X0 ops (fuel+1) listed ⟨E,loc,X⟩ k:=⟨fun a w ok=>wpAnyH_all hr (by simp) fun x hx=>by
 rcases List.mem_cons.1 hx with rfl|hx
 · exact gO hi h a w ok
 · rcases List.mem_cons.1 hx with rfl|hx
   · exact gO hj h' a w ok
   · rw [List.mem_singleton] at hx
     subst hx
     exact gO hl h'' a w ok⟩
theorem By (i j l m:Nat) {o o' o'' o3:Oper} (hi:ops[i]?=some o:=by rfl) (hj:ops[j]?=some o':=by rfl) (hl:ops[l]?=some o'':=by rfl) (hm:ops[m]?=some o3:=by rfl) (hr:Region.ready .any ops listed=[i,j,l,m]:=by kernel_rfl)
  (h:Sw P N av bor w0 ops [o] ⟨E,loc,X⟩ (fun s=>(∀ w,Gam av bor w0 s.loc s.ext w→Gam av bor w0 loc0 X0 w)∧Aw P N av bor w0 loc0 X0 ops fuel (listed.setIfInBounds i true) s k))
  (h':Sw P N av bor w0 ops [o'] ⟨E,loc,X⟩ (fun s=>(∀ w,Gam av bor w0 s.loc s.ext w→Gam av bor w0 loc0 X0 w)∧Aw P N av bor w0 loc0 X0 ops fuel (listed.setIfInBounds j true) s k))
  (h'':Sw P N av bor w0 ops [o''] ⟨E,loc,X⟩ (fun s=>(∀ w,Gam av bor w0 s.loc s.ext w→Gam av bor w0 loc0 X0 w)∧Aw P N av bor w0 loc0 X0 ops fuel (listed.setIfInBounds l true) s k))
  (h3:Sw P N av bor w0 ops [o3] ⟨E,loc,X⟩ (fun s=>(∀ w,Gam av bor w0 s.loc s.ext w→Gam av bor w0 loc0 X0 w)∧Aw P N av bor w0 loc0 X0 ops fuel (listed.setIfInBounds m true) s k)) :
  Aw P N av bor w0 loc0 X0 ops (fuel+1) listed ⟨E,loc,X⟩ k:=⟨fun a w ok=>wpAnyH_all hr (by simp) fun x hx=>by
 rcases List.mem_cons.1 hx with rfl|hx
 · exact gO hi h a w ok
 · rcases List.mem_cons.1 hx with rfl|hx
   · exact gO hj h' a w ok
   · rcases List.mem_cons.1 hx with rfl|hx
     · exact gO hl h'' a w ok
     · rw [List.mem_singleton] at hx
       subst hx
       exact gO hm h3 a w ok⟩
end
end Sy
structure BldH where
 ks:SlV
 ki:SlV
 id:ByteArray
 fork:Bool
 q1:Nat
 q2:Nat
 cl:ClaimD
 wn:Bool
def bldC (h:BldH) (sa sk:SlV) (prev:ByteArray) (gen:Int):List Value:=[h.ks.v,h.ki.v,.string h.id,.slice sa.p sa.n sa.c,.slice sk.p sk.n sk.c,.string prev,.int .i64 gen,.bool h.fork,.map (some h.q1),.map (some h.q2),.string h.cl.actor,.int .i64 h.cl.base,.string h.cl.prev,.int .i64 h.cl.gen,.int .i64 h.cl.home,.int .i64 h.cl.pub,.int .i64 h.cl.time,.int .i64 h.cl.e,.int .i64 h.cl.s,.bool h.wn]
def actR (s:SlV) (L:List ActD):Res:=orow 46 20 (.slice s.p s.n s.c) s.n (L.map ActD.cells).flatten
def keyR (s:SlV) (L:List KeyD):Res:=orow 35 3 (.slice s.p s.n s.c) s.n (L.map KeyD.cells).flatten
def bldR (b:Nat) (h:BldH) (sa sk:SlV) (st:ChS) (pl:List (ByteArray×Value)):List Res:=[cel b 96 (bldC h sa sk st.prev (st.gen:Nat)),actR sa st.acts,keyR sk st.keys,mapr h.q2 pl]
def PlOk (pl:List (ByteArray×Value)) (l:List ActD):Prop:=∀ d,mget pl d=(idxV l d).map fun (j:Nat)=>Value.int .i64 (j:Int)
structure BldOk (sa sk:SlV) (st:ChS) (pl:List (ByteArray×Value)):Prop where
 hn:sa.n=st.acts.length
 hk:sk.n=st.keys.length
 hp:PlOk pl st.acts
def BldAt (b:Nat) (h:BldH) (st:ChS) (v u:Value) (R:List Res):Prop:=u=v∧∃ (sa sk:SlV) (pl:List (ByteArray×Value)),BldOk sa sk st pl∧R=bldR b h sa sk st pl
theorem m9 (l:List ActD) (x:ActD) (d:ByteArray):idxV (l++[x]) d=(idxV l d).or (bif seqB (digV x) d then some l.length else none):=by
 rw [idxV,idxV,List.findIdx?_append]
 congr 1
 rw [List.findIdx?_singleton]
 cases seqB (digV x) d with
 | true=>simp
 | false=>simp
theorem xD {pl:List (ByteArray×Value)} {l:List ActD} (h:PlOk pl l) {x:ActD} {j:Nat} (hj:idxV l (digV x)=some j):PlOk pl (l++[x]):=fun d=>by
 rw [m9,h d]
 cases hs:seqB (digV x) d with
 | true =>
  obtain rfl:=seqB_iff.1 hs
  rw [hj]
  rfl
 | false=>cases idxV l d<;>rfl
theorem xE {pl:List (ByteArray×Value)} {l:List ActD} (h:PlOk pl l) {x:ActD} (hj:idxV l (digV x)=none):PlOk (mput pl (digV x) (.int .i64 (l.length:Nat))) (l++[x]):=fun d=>by
 rw [ga,m9,eqbB]
 cases hs:seqB d (digV x) with
 | true =>
  obtain rfl:=seqB_iff.1 hs
  rw [hj,hs]
  rfl
 | false =>
  rw [jd (digV x) d,hs,h d]
  cases idxV l d<;>rfl
set_option maxHeartbeats 8000000 in
theorem yY (b:Nat) (h:BldH) (sa sk:SlV) (st:ChS) (pl:List (ByteArray×Value)) (ok:BldOk sa sk st pl) (a:ActD) (ha:a.Rng) (hs:a.Sm) (hl:st.acts.length≤1000000) (hl2:st.keys.length≤1000000) :
  Ct Tryz.prog 41 #[.pointer (some ⟨b,0,none⟩),a.v] (bldR b h sa sk st pl) (fun w=>a.at_ w∧Glob w) (fun u R _=>BldAt b h (addS st a) (.tuple #[]) u R):=by
 obtain ⟨hn,hk,hp⟩:=ok
 refine dD (args:=[_,_]) _ Tryz.func41 rfl Tryz.ntmps41 rfl fun av bor w0=>?_
 have hlk:=hp (digV a)
 unfold bldR actR keyR
 repeat' (first|apply ab|apply aj|apply ai|refine ae ?_|refine ac ?_|refine bX ?_|refine aM ?_|refine aL ?_|refine bg ?_|refine aT fun _=>?_|fail)
 rename_i b1
 refine ez (ι:=Option Addr×Nat) (fun i=>⟨[(0,.pointer (some ⟨b,0,none⟩)),(3,.pointer (some ⟨b1,0,none⟩)),(4,.pointer (some ⟨b,2,none⟩)),(5,.int .i64 (sa.n:Nat))],[cel b1 46 a.cells,cel b 96 (bldC h ⟨i.1,sa.n+1,i.2⟩ sk st.prev (st.gen:Nat)),orow 46 20 (.slice i.1 (sa.n+1) i.2) (sa.n+1) ((st.acts.map ActD.cells).flatten++a.cells),orow 35 3 (.slice sk.p sk.n sk.c) sk.n (st.keys.map KeyD.cells).flatten,mapr h.q2 pl],fun w=>a.at_ w∧Glob w⟩) ?_ fun i=>?_
 · (refine bo [cel b1 46 a.cells] (fun w=>a.at_ w∧Glob w) ar ?_)
   all_goals refine aa 0 ?_
   all_goals refine aa 1 ?_
   all_goals refine aa 2 ?_
   all_goals refine aa 3 ?_
   all_goals refine aa 5 ?_
   all_goals (refine bS 4 6 (h:=?_) (h':=?_);(focus (((refine aL ?_);apply ab;refine ak ?_);all_goals ((refine ao 6 ?_;(refine bH (size:=20) (vs:=[a.v]) (css:=a.cells) (hsz:=by rfl) (hcs:=by rfl) fun _=>?_);apply ab;refine ak ?_);all_goals (refine ao 7 ?_;(refine aS (size:=20) (news:=a.cells) (q:=1) rfl rfl rfl rfl (fun _=>by (repeat (first|with_reducible exact At.here _|apply At.there))) (fun w G=>bq G bF rfl rfl 1) ag (by simp only [maxLen];omega) rfl ?_ rfl ?_;(with_reducible rfl);intro A2 c2);apply ab;refine ak ?_);all_goals (refine aa 8 ?_);all_goals (refine aa 9 ?_);all_goals (refine ao 10 ?_;(refine br ?_);apply ab;refine ak ?_);all_goals (refine aI ?_))));rotate_right;(focus (((refine bH (size:=20) (vs:=[a.v]) (css:=a.cells) (hsz:=by rfl) (hcs:=by rfl) fun _=>?_);apply ab;refine ak ?_);all_goals ((refine ao 4 ?_;(refine aL ?_);apply ab;refine ak ?_);all_goals (refine ao 7 ?_;(refine aS (size:=20) (news:=a.cells) (q:=1) rfl rfl rfl rfl (fun _=>by (repeat (first|with_reducible exact At.here _|apply At.there))) (fun w G=>bq G bF rfl rfl 1) ag (by simp only [maxLen];omega) rfl ?_ rfl ?_;(with_reducible rfl);intro A2 c2);apply ab;refine ak ?_);all_goals (refine aa 8 ?_);all_goals (refine aa 9 ?_);all_goals (refine ao 10 ?_;(refine br ?_);apply ab;refine ak ?_);all_goals (refine aI ?_)))))
   all_goals exact ⟨(_,_),aF ⟨rfl,rfl,rfl,rfl,trivial⟩ (List.Sublist.cons _ (aQ _)) fun w h=>h⟩
 obtain ⟨A2,c2⟩:=i
 simp only
 repeat' (first|apply aj|apply ai|refine ae ?_|refine aG ?_|fail)
 refine bN (hc:=iz a ha hs) (hX:=fun w h=>h.1) fun v1 X1 h1=>?_
 obtain ⟨x',rfl,hdig,hr',hat⟩:=h1
 refine aC (hc:=fE x' hr') (hX:=fun w h=>⟨hat w h.2,h.1.2⟩) ?_
 rw [hdig]
 generalize hD:digV a=D at hlk
 refine bX ?_
 refine aM ?_
 refine br ?_
 apply ab
 apply aj
 refine ez (ι:={ pl':List (ByteArray×Value) // PlOk pl' (st.acts++[a]) }) (fun i=>⟨[(3,.pointer (some ⟨b1,0,none⟩)),(4,.pointer (some ⟨b,2,none⟩)),(5,.int .i64 (sa.n:Nat))],[cel b1 46 a.cells,cel b 96 (bldC h ⟨A2,sa.n+1,c2⟩ sk D (st.gen:Nat)),orow 46 20 (.slice A2 (sa.n+1) c2) (sa.n+1) ((st.acts.map ActD.cells).flatten++a.cells),orow 35 3 (.slice sk.p sk.n sk.c) sk.n (st.keys.map KeyD.cells).flatten,mapr h.q2 i.1],fun w=>a.at_ w∧Glob w⟩) ?_ fun i=>?_
 · have hpn:=fun hj=>xE hp (x:=a) hj
   have hpo:=fun j hj=>xD hp (x:=a) (j:=j) hj
   rw [hD] at hpn hpo
   cases hj:idxV st.acts D with
   | none =>
    rw [hj] at hlk
    apply aj
    (refine bo [cel b1 46 a.cells,cel b 96 (bldC h ⟨A2,sa.n+1,c2⟩ sk D (st.gen:Nat)),orow 46 20 (.slice A2 (sa.n+1) c2) (sa.n+1) ((st.acts.map ActD.cells).flatten++a.cells),orow 35 3 (.slice sk.p sk.n sk.c) sk.n (st.keys.map KeyD.cells).flatten,mapr h.q2 pl] (fun w=>(a.at_ w∧Glob w)∧X1 w) ar ?_)
    all_goals refine az 0 ?_
    all_goals refine az 1 ?_
    all_goals refine az 2 ?_
    all_goals refine az 3 ?_
    all_goals refine az 4 ?_
    all_goals refine az 5 ?_
    all_goals refine az 6 ?_
    all_goals refine az 7 ?_
    all_goals (refine ao 8 ?_;(refine cq (κ:=ByteArray) (kk:=D) (b:=false) (v:=.int .i64 0) (hl:=dZ bF) (ho:=hlk) ?_);apply ab;refine dA ?_)
    all_goals refine az 9 ?_
    all_goals refine az 10 ?_
    all_goals refine az 11 ?_
    all_goals refine az 12 ?_
    all_goals refine az 13 ?_
    all_goals (refine aI ?_)
    all_goals
     repeat' (first|apply ab|apply aj|apply ai|refine ae ?_|refine bE ?_|refine aE ?_|fail)
     (refine bo [cel b1 46 a.cells,cel b 96 (bldC h ⟨A2,sa.n+1,c2⟩ sk D (st.gen:Nat)),orow 46 20 (.slice A2 (sa.n+1) c2) (sa.n+1) ((st.acts.map ActD.cells).flatten++a.cells),orow 35 3 (.slice sk.p sk.n sk.c) sk.n (st.keys.map KeyD.cells).flatten] (fun w=>(a.at_ w∧Glob w)∧X1 w) ar ?_)
     all_goals refine aa 0 ?_
     all_goals refine aa 1 ?_
     all_goals refine aa 2 ?_
     all_goals refine aa 3 ?_
     all_goals refine aa 4 ?_
     all_goals refine aa 5 ?_
     all_goals refine aa 6 ?_
     all_goals refine aa 7 ?_
     all_goals refine aa 8 ?_
     all_goals (refine ao 9 ?_;(refine fu (κ:=ByteArray) (kk:=D) (v:=.int .i64 (sa.n:Nat)) ?_);apply ab;refine ak ?_)
     all_goals (refine aI ?_)
     all_goals exact ⟨⟨mput pl D (.int .i64 (sa.n:Nat)),by rw [hn];exact hpn hj⟩,aF ⟨rfl,rfl,rfl,trivial⟩ (aQ _) fun w h=>h.1⟩
   | some j =>
    rw [hj] at hlk
    apply aj
    (refine bo [cel b1 46 a.cells,cel b 96 (bldC h ⟨A2,sa.n+1,c2⟩ sk D (st.gen:Nat)),orow 46 20 (.slice A2 (sa.n+1) c2) (sa.n+1) ((st.acts.map ActD.cells).flatten++a.cells),orow 35 3 (.slice sk.p sk.n sk.c) sk.n (st.keys.map KeyD.cells).flatten,mapr h.q2 pl] (fun w=>(a.at_ w∧Glob w)∧X1 w) ar ?_)
    all_goals refine az 0 ?_
    all_goals refine az 1 ?_
    all_goals refine az 2 ?_
    all_goals refine az 3 ?_
    all_goals refine az 4 ?_
    all_goals refine az 5 ?_
    all_goals refine az 6 ?_
    all_goals refine az 7 ?_
    all_goals (refine ao 8 ?_;(refine cq (κ:=ByteArray) (kk:=D) (b:=true) (v:=.int .i64 (j:Nat)) (hl:=dZ bF) (ho:=hlk) ?_);apply ab;refine dA ?_)
    all_goals refine az 9 ?_
    all_goals refine az 10 ?_
    all_goals refine az 11 ?_
    all_goals refine az 12 ?_
    all_goals refine az 13 ?_
    all_goals (refine aI ?_)
    all_goals
     repeat' (first|apply ab|apply aj|apply ai|refine ae ?_|refine bE ?_|refine aD ?_|apply ay|fail)
     exact ⟨⟨pl,hpo j hj⟩,aF ⟨rfl,rfl,rfl,trivial⟩ (aQ _) fun w h=>h.1⟩
 obtain ⟨pl',hpl'⟩:=i
 simp only
 clear hp hlk hdig hr' hat
 have hfl:((st.acts++[a]).map ActD.cells).flatten=(st.acts.map ActD.cells).flatten++a.cells:=by simp
 by_cases hk18:a.kind=18
 · have hst:addS st a=⟨st.acts++[a],st.keys++[⟨((sa.n+1:Nat):Int),a.n,a.m⟩],D,st.gen⟩:=by rw [addS,hk18,hD,hn];rfl
   have hfk:((st.keys++[(⟨((sa.n+1:Nat):Int),a.n,a.m⟩:KeyD)]).map KeyD.cells).flatten=(st.keys.map KeyD.cells).flatten++KeyD.cells ⟨((sa.n+1:Nat):Int),a.n,a.m⟩:=by simp
   repeat' (first|refine bM (hab:=hk18) ?_|apply ab|apply aj|apply ai|refine aM ?_|refine aL ?_|refine aE ?_|fail)
   (refine bo [cel b1 46 a.cells] (fun w=>a.at_ w∧Glob w) ar ?_)
   all_goals refine aa 0 ?_
   all_goals refine aa 1 ?_
   all_goals refine aa 2 ?_
   all_goals refine aa 3 ?_
   all_goals refine aa 5 ?_
   all_goals refine aa 6 ?_
   all_goals refine aa 7 ?_
   all_goals refine aa 8 ?_
   all_goals refine aa 9 ?_
   all_goals refine aa 10 ?_
   all_goals (refine aa 11 (hy:=by (apply cd (cs:=KeyD.cells ⟨((sa.n+1:Nat):Int),a.n,a.m⟩);rfl;rfl)) ?_)
   all_goals (refine bS 4 12 (h:=?_) (h':=?_);(focus (((refine aL ?_);apply ab;refine ak ?_);all_goals ((refine ao 12 ?_;(refine bH (size:=3) (vs:=[KeyD.v ⟨((sa.n+1:Nat):Int),a.n,a.m⟩]) (css:=KeyD.cells ⟨((sa.n+1:Nat):Int),a.n,a.m⟩) (hsz:=by rfl) (hcs:=by rfl) fun _=>?_);apply ab;refine ak ?_);all_goals (refine ao 13 ?_;(refine aS (size:=3) (news:=KeyD.cells ⟨((sa.n+1:Nat):Int),a.n,a.m⟩) (q:=1) rfl rfl rfl rfl (fun _=>by (repeat (first|with_reducible exact At.here _|apply At.there))) (fun w G=>bq G bF rfl rfl 1) ag (by simp only [maxLen];omega) rfl ?_ rfl ?_;(with_reducible rfl);intro A3 c3);apply ab;refine ak ?_);all_goals (refine aa 14 ?_);all_goals (refine aa 15 ?_);all_goals (refine ao 16 ?_;(refine br ?_);apply ab;refine ak ?_);all_goals (refine aI ?_))));rotate_right;(focus (((refine bH (size:=3) (vs:=[KeyD.v ⟨((sa.n+1:Nat):Int),a.n,a.m⟩]) (css:=KeyD.cells ⟨((sa.n+1:Nat):Int),a.n,a.m⟩) (hsz:=by rfl) (hcs:=by rfl) fun _=>?_);apply ab;refine ak ?_);all_goals ((refine ao 4 ?_;(refine aL ?_);apply ab;refine ak ?_);all_goals (refine ao 13 ?_;(refine aS (size:=3) (news:=KeyD.cells ⟨((sa.n+1:Nat):Int),a.n,a.m⟩) (q:=1) rfl rfl rfl rfl (fun _=>by (repeat (first|with_reducible exact At.here _|apply At.there))) (fun w G=>bq G bF rfl rfl 1) ag (by simp only [maxLen];omega) rfl ?_ rfl ?_;(with_reducible rfl);intro A3 c3);apply ab;refine ak ?_);all_goals (refine aa 14 ?_);all_goals (refine aa 15 ?_);all_goals (refine ao 16 ?_;(refine br ?_);apply ab;refine ak ?_);all_goals (refine aI ?_)))))
   all_goals
    refine cb (bP rfl) ⟨_,List.Sublist.cons _ (List.Sublist.cons _ (aQ _)),rfl,⟨A2,sa.n+1,c2⟩,⟨A3,sk.n+1,c3⟩,pl',⟨?_,?_,?_⟩,?_⟩
    · rw [hst,List.length_append,hn];rfl
    · rw [hst,List.length_append,hk];rfl
    · rw [hst];exact hpl'
    · rw [hst]
      unfold bldR actR keyR
      rw [hfl,hfk]
      rfl
 · repeat' (first|refine bQ (hab:=hk18) ?_|apply ab|apply aj|apply ai|refine aM ?_|refine aL ?_|refine aD ?_|apply ay|fail)
   have hst:addS st a=⟨st.acts++[a],st.keys,D,st.gen⟩:=by rw [addS,hD,decide_eq_false hk18];rfl
   refine cb (bP rfl) ⟨_,List.Sublist.cons _ (aQ _),rfl,⟨A2,sa.n+1,c2⟩,sk,pl',⟨?_,?_,?_⟩,?_⟩
   · rw [hst,List.length_append,hn];rfl
   · rw [hst,hk]
   · rw [hst];exact hpl'
   · rw [hst]
     unfold bldR actR keyR
     rw [hfl]
end Go.Proofs.YtfnjklhjngphmaaGreatDoor
namespace Go.Proofs.YtfnjklhjngphmaaGreatDoor
open Go Go.Proofs Sy
def BldH.look (h:BldH) (o:Option ClaimD):BldH:={ h with cl:=o.getD ClaimD.zero,wn:=o.isSome }
def bldCel (b:Nat) (h:BldH) (sa sk:SlV) (st:ChS):Res:=cel b 96 (bldC h sa sk st.prev (st.gen:Nat))
set_option maxHeartbeats 4000000 in
theorem sX (b:Nat) (h:BldH) (sa sk:SlV) (st:ChS) (o:Option ClaimD) (Y:World→Prop)
  (hwon:Pu Tryz.prog 60 #[.agg #[h.ks.v,h.ki.v],.string h.id,.int .i64 (st.gen:Nat)] Y (.tuple #[(o.getD ClaimD.zero).v,.bool o.isSome])) :
  Ct Tryz.prog 42 #[.pointer (some ⟨b,0,none⟩)] [bldCel b h sa sk st] Y (fun u R _=>u=.tuple #[]∧R=[bldCel b (h.look o) sa sk st]):=by
 refine dD (args:=[_]) _ Tryz.func42 rfl Tryz.ntmps42 rfl fun av bor w0=>?_
 unfold bldCel
 generalize hc:o.getD ClaimD.zero=c at hwon
 generalize hi:o.isSome=i at hwon
 have hL:h.look o={ h with cl:=c,wn:=i }:=by rw [BldH.look,hc,hi]
 rw [hL]
 (refine bo [] (fun w=>Y w) ar ?_)
 all_goals refine aa 0 ?_
 all_goals refine aa 1 ?_
 all_goals refine aa 2 ?_
 all_goals refine aa 3 ?_
 all_goals refine aa 4 ?_
 all_goals refine aa 6 ?_
 all_goals refine aa 7 ?_
 all_goals refine aa 8 ?_
 all_goals refine aa 9 ?_
 all_goals refine aa 11 ?_
 all_goals refine aa 12 ?_
 all_goals refine aa 13 ?_
 all_goals refine aa 14 ?_
 all_goals (refine fI 5 10 15 (h:=?_) (h':=?_) (h'':=?_);(focus (((refine bZ (vs:=[h.ks.v,h.ki.v]) (hv:=rfl) ?_);apply ab;refine ak ?_);all_goals ((refine bS 10 15 (h:=?_) (h':=?_);(focus (((refine aL ?_);apply ab;refine ak ?_);all_goals ((refine ao 15 ?_;(refine aL ?_);apply ab;refine ak ?_);all_goals (refine ao 16 ?_;(refine aC (hc:=hwon) (hX:=fun w h=>h) ?_);apply ab;refine ak ?_);all_goals (refine aa 17 ?_);all_goals (refine aa 18 ?_);all_goals (refine aa 19 ?_);all_goals (refine aa 20 ?_);all_goals (refine aa 21 ?_);all_goals (refine ao 22 ?_;(refine dC (bldC { h with cl:=c } sa sk st.prev (st.gen:Nat)) (h:=?_));apply ab;refine ak ?_);all_goals (refine aa 23 ?_);all_goals (refine aa 24 ?_);all_goals (refine ao 25 ?_;(refine br ?_);apply ab;refine ak ?_);all_goals (refine aI ?_))));rotate_right;(focus (((refine aL ?_);apply ab;refine ak ?_);all_goals ((refine ao 10 ?_;(refine aL ?_);apply ab;refine ak ?_);all_goals (refine ao 16 ?_;(refine aC (hc:=hwon) (hX:=fun w h=>h) ?_);apply ab;refine ak ?_);all_goals (refine aa 17 ?_);all_goals (refine aa 18 ?_);all_goals (refine aa 19 ?_);all_goals (refine aa 20 ?_);all_goals (refine aa 21 ?_);all_goals (refine ao 22 ?_;(refine dC (bldC { h with cl:=c } sa sk st.prev (st.gen:Nat)) (h:=?_));apply ab;refine ak ?_);all_goals (refine aa 23 ?_);all_goals (refine aa 24 ?_);all_goals (refine ao 25 ?_;(refine br ?_);apply ab;refine ak ?_);all_goals (refine aI ?_))))))));rotate_right;(focus (((refine aL ?_);apply ab;refine ak ?_);all_goals ((refine bS 5 10 (h:=?_) (h':=?_);(focus (((refine bZ (vs:=[h.ks.v,h.ki.v]) (hv:=rfl) ?_);apply ab;refine ak ?_);all_goals ((refine ao 10 ?_;(refine aL ?_);apply ab;refine ak ?_);all_goals (refine ao 16 ?_;(refine aC (hc:=hwon) (hX:=fun w h=>h) ?_);apply ab;refine ak ?_);all_goals (refine aa 17 ?_);all_goals (refine aa 18 ?_);all_goals (refine aa 19 ?_);all_goals (refine aa 20 ?_);all_goals (refine aa 21 ?_);all_goals (refine ao 22 ?_;(refine dC (bldC { h with cl:=c } sa sk st.prev (st.gen:Nat)) (h:=?_));apply ab;refine ak ?_);all_goals (refine aa 23 ?_);all_goals (refine aa 24 ?_);all_goals (refine ao 25 ?_;(refine br ?_);apply ab;refine ak ?_);all_goals (refine aI ?_))));rotate_right;(focus (((refine aL ?_);apply ab;refine ak ?_);all_goals ((refine ao 5 ?_;(refine bZ (vs:=[h.ks.v,h.ki.v]) (hv:=rfl) ?_);apply ab;refine ak ?_);all_goals (refine ao 16 ?_;(refine aC (hc:=hwon) (hX:=fun w h=>h) ?_);apply ab;refine ak ?_);all_goals (refine aa 17 ?_);all_goals (refine aa 18 ?_);all_goals (refine aa 19 ?_);all_goals (refine aa 20 ?_);all_goals (refine aa 21 ?_);all_goals (refine ao 22 ?_;(refine dC (bldC { h with cl:=c } sa sk st.prev (st.gen:Nat)) (h:=?_));apply ab;refine ak ?_);all_goals (refine aa 23 ?_);all_goals (refine aa 24 ?_);all_goals (refine ao 25 ?_;(refine br ?_);apply ab;refine ak ?_);all_goals (refine aI ?_))))))));rotate_right;(focus (((refine aL ?_);apply ab;refine ak ?_);all_goals ((refine bS 5 15 (h:=?_) (h':=?_);(focus (((refine bZ (vs:=[h.ks.v,h.ki.v]) (hv:=rfl) ?_);apply ab;refine ak ?_);all_goals ((refine ao 15 ?_;(refine aL ?_);apply ab;refine ak ?_);all_goals (refine ao 16 ?_;(refine aC (hc:=hwon) (hX:=fun w h=>h) ?_);apply ab;refine ak ?_);all_goals (refine aa 17 ?_);all_goals (refine aa 18 ?_);all_goals (refine aa 19 ?_);all_goals (refine aa 20 ?_);all_goals (refine aa 21 ?_);all_goals (refine ao 22 ?_;(refine dC (bldC { h with cl:=c } sa sk st.prev (st.gen:Nat)) (h:=?_));apply ab;refine ak ?_);all_goals (refine aa 23 ?_);all_goals (refine aa 24 ?_);all_goals (refine ao 25 ?_;(refine br ?_);apply ab;refine ak ?_);all_goals (refine aI ?_))));rotate_right;(focus (((refine aL ?_);apply ab;refine ak ?_);all_goals ((refine ao 5 ?_;(refine bZ (vs:=[h.ks.v,h.ki.v]) (hv:=rfl) ?_);apply ab;refine ak ?_);all_goals (refine ao 16 ?_;(refine aC (hc:=hwon) (hX:=fun w h=>h) ?_);apply ab;refine ak ?_);all_goals (refine aa 17 ?_);all_goals (refine aa 18 ?_);all_goals (refine aa 19 ?_);all_goals (refine aa 20 ?_);all_goals (refine aa 21 ?_);all_goals (refine ao 22 ?_;(refine dC (bldC { h with cl:=c } sa sk st.prev (st.gen:Nat)) (h:=?_));apply ab;refine ak ?_);all_goals (refine aa 23 ?_);all_goals (refine aa 24 ?_);all_goals (refine ao 25 ?_;(refine br ?_);apply ab;refine ak ?_);all_goals (refine aI ?_)))))))))
 all_goals exact cb (bP rfl) ⟨_,aQ _,rfl,rfl⟩
namespace Sy
section
variable {P:Program} {N:Nat} {av bor:List Nat} {w0:World} {st:St} {t:TypeId} {ty:TypeId} {x:Operand}
theorem eJ {e size m i c j:Nat} [h:TyOne P t] {A:Option Addr} {xs:List (List Value)} {cs:List Value} {u:Value} (hx:ev st.env x=some (elP A (i*size+j))) (hm:orow e size (.slice A m c) m xs.flatten∈st.loc) (hn:m=xs.length) (hs:∀ r∈xs,r.length=size) (hi:xs[i]?=some cs) (hj:cs[j]?=some u) :
  Yields P N av bor w0 st (.load t x) ty u:=Sy.Yields.mk fun B w ok d pos af g=>by
 have hr:=bJ (ok.gam.here _ hm).now hn hs
 obtain ⟨h1,hp,hc⟩:=RowsD.row hr i cs hi
 obtain ⟨a,rfl⟩:=Option.isSome_iff_exists.1 hp
 simp [execOp,ok.eval hx,elP,Instr.loadAt,Instr.sureAddr,loadVar,(cE h.out w).1,(hc j u hj).2 a rfl]
theorem iW [h:TyOne P t] {bl j:Nat} {v:Value} (hx:ev st.env x=some (.pointer (some ⟨bl,j,none⟩))) (hF:∀ w,st.ext w→w.cell? ⟨bl,j,none⟩=some v):Yields P N av bor w0 st (.load t x) ty v:=Sy.Yields.mk fun B w ok d pos af g=>by
 simp [execOp,ok.eval hx,Instr.loadAt,Instr.sureAddr,loadVar,(cE h.out w).1,hF w ok.gam.keep.now]
end
end Sy
def CelD (b:Nat) (cs:List Value) (w:World):Prop:=∀ j v,cs[j]?=some v→w.cell? ⟨b,j,none⟩=some v
theorem ke {b T:Nat} {cs:List Value} {w:World} (h:(cel b T cs).F w):CelD b cs w:=fun j v hj=>by
 have h1:w.heap[b]?=some (.cells cs.toArray T (0,0)):=h
 simp [World.cell?,h1,hj]
theorem yS (b b1:Nat) (h:BldH) (sa sk:SlV) (st:ChS) (pl:List (ByteArray×Value)) (hp:PlOk pl st.acts) (d:ByteArray) :
  Pu Tryz.prog 85 #[.string d,.pointer (some ⟨b1,0,none⟩)] (fun w=>CelD b1 [.pointer (some ⟨b,0,none⟩)] w∧CelD b (bldC h sa sk st.prev (st.gen:Nat)) w∧MapAt w h.q2 pl) (idxP (idxV st.acts d)):=by
 refine aN (args:=[_,_]) _ Tryz.func85 rfl Tryz.ntmps85 rfl fun av bor w0=>?_
 have hlk:=hp d
 cases hj:idxV st.acts d with
 | none =>
  rw [hj] at hlk
  repeat' (first|apply ab|apply aj|apply ai|refine ae ?_|refine ac ?_|refine bX ?_|refine aM ?_|refine bC ?_|apply aA|(refine ax (iW rfl (fun w h=>h.1 0 _ rfl)) rfl rfl rfl ?_)|(refine ax (iW rfl (fun w h=>h.2.1 9 _ rfl)) rfl rfl rfl ?_)|(refine cq (κ:=ByteArray) (kk:=d) (b:=false) (v:=.int .i64 0) (hl:=fe fun w h=>h.2.2) (ho:=hlk) ?_)|fail)
  exact aq (cO rfl rfl rfl) rfl
 | some j =>
  rw [hj] at hlk
  repeat' (first|apply ab|apply aj|apply ai|refine ae ?_|refine ac ?_|refine bX ?_|refine aM ?_|refine bC ?_|apply aA|(refine ax (iW rfl (fun w h=>h.1 0 _ rfl)) rfl rfl rfl ?_)|(refine ax (iW rfl (fun w h=>h.2.1 9 _ rfl)) rfl rfl rfl ?_)|(refine cq (κ:=ByteArray) (kk:=d) (b:=true) (v:=.int .i64 (j:Nat)) (hl:=fe fun w h=>h.2.2) (ho:=hlk) ?_)|fail)
  exact aq (cO rfl rfl rfl) rfl
end Go.Proofs.YtfnjklhjngphmaaGreatDoor
namespace Go.Proofs.YtfnjklhjngphmaaGreatDoor
open Go Go.Proofs Sy
structure FndA where
 rank:Int
 dg:ByteArray
 a:ActD
def FndA.cells (f:FndA):List Value:=.int .i64 f.rank::.string f.dg::f.a.cells
def fndR (s:SlV) (P:List FndA):Res:=orow 179 22 (.slice s.p s.n s.c) s.n (P.map FndA.cells).flatten
theorem A8 (P:List FndA):∀ r∈P.map FndA.cells,r.length=22:=fun r hr=>by
 obtain ⟨c,_,rfl⟩:=List.mem_map.1 hr
 rfl
def cmpA:Value:=.func (.func 115) #[] #[]
def PermA (s:SlV) (P:List FndA) (u:Value) (R:List Res) (X:World→Prop):Prop:=u=.tuple #[]∧∃ Q:List FndA,Q.Perm P∧R=[fndR s Q]
def SortA (n:Nat):Prop:=∀ (s:SlV) (P:List FndA),s.n=P.length→P.length≤n→Ct Tryz.prog 114 #[s.v,cmpA] [fndR s P] (fun _=>True) (PermA s P)
theorem yy (s:SlV) (P:List FndA) (hs:s.n=P.length) (h1:P.length≤1):Ct Tryz.prog 261 #[s.v,.int .i64 0,.int .i64 (s.n:Nat),cmpA] [fndR s P] (fun _=>True) (PermA s P):=by
 refine cB (args:=[_,_,_,_]) _ Tryz.func261 rfl Tryz.ntmps261 rfl fun av bor w0=>?_
 repeat' (first|apply ab|apply aj|apply ai|refine ae ?_|refine ac ?_|refine bm (h:=?_)|apply aw|fail)
 refine be (ι:=Unit) (fun _=>⟨[(2,.int .i64 (s.n:Nat)),(8,.int .i64 1)],[fndR s P],fun _=>True⟩) (fun _=>0) () (aF ⟨rfl,rfl,trivial⟩ (aQ _) fun _ h=>h) fun _=>?_
 repeat' (first|apply ab|apply aj|apply ai|refine ae ?_|refine ac ?_|refine bu ?_|apply ay|apply aw|apply aV|(refine aO (ht:=?_) (hf:=?_);all_goals (intro hx_;first|have:=aY hx_|have:=aZ hx_)))
 all_goals first
  | (exfalso;omega)
  | exact cb (bP rfl) ⟨rfl,P,List.Perm.refl _,rfl⟩
theorem uz (s:SlV) (P:List FndA) (hs:s.n=P.length) (h1:P.length≤1):Ct Tryz.prog 198 #[s.v,.int .i64 (s.n:Nat),cmpA] [fndR s P] (fun _=>True) (PermA s P):=by
 refine cB (args:=[_,_,_]) _ Tryz.func198 rfl Tryz.ntmps198 rfl fun av bor w0=>?_
 repeat' (first|apply ab|apply aj|apply ai|refine ae ?_|refine ac ?_|apply aw|fail)
 refine be (ι:=Unit) (fun _=>⟨[(0,s.v),(1,.int .i64 (s.n:Nat)),(2,cmpA),(6,.int .i64 20),(7,.int .i64 0),(8,.int .i64 20)],[fndR s P],fun _=>True⟩) (fun _=>0) () (aF ⟨rfl,rfl,rfl,rfl,rfl,rfl,trivial⟩ (aQ _) fun _ h=>h) fun _=>?_
 repeat' (first|apply ab|apply aj|apply ai|refine ae ?_|refine cF ?_|apply ay|apply aw|apply aV|(refine aO (ht:=?_) (hf:=?_);all_goals (intro hx_;first|have:=aY hx_|have:=aZ hx_)))
 · exfalso;omega
 refine dj (pre:=[fndR s P]) (fr:=[]) (first:=#[]) (caps:=#[]) (hc:=yy s P hs h1) (hX:=fun _ _=>trivial) (h:=?_)
 rintro v R X' ⟨rfl,Q,hQ,rfl⟩
 repeat' (first|apply ab|apply aw|fail)
 refine be (ι:=Unit) (fun _=>⟨[(1,.int .i64 (s.n:Nat)),(6,.int .i64 20)],[fndR s Q],fun _=>True⟩) (fun _=>0) () (aF ⟨rfl,rfl,trivial⟩ (aQ _) fun _ h=>trivial) fun _=>?_
 repeat' (first|apply ab|apply aj|apply ai|refine ae ?_|refine ac ?_|refine bu ?_|apply ay|apply aw|apply aV|refine dw (h:=?_)|(refine aO (ht:=?_) (hf:=?_);all_goals (intro hx_;first|have:=aY hx_|have:=aZ hx_)))
 · exfalso;omega
 exact cb (bP rfl) ⟨rfl,Q,hQ,rfl⟩
theorem uB:SortA 1:=fun s P hs h1=>by
 refine cB (args:=[_,_]) _ Tryz.func114 rfl Tryz.ntmps114 rfl fun av bor w0=>?_
 repeat' (first|apply ai|refine ae ?_|refine bg ?_|fail)
 refine dj (pre:=[fndR s P]) (fr:=[]) (first:=#[]) (caps:=#[]) (hc:=uz s P hs h1) (hX:=fun _ _=>trivial) (h:=?_)
 rintro v R X' ⟨rfl,Q,hQ,rfl⟩
 repeat' (first|apply ab|fail)
 exact cb (bP rfl) ⟨rfl,Q,hQ,rfl⟩
theorem eK {P:Program} {fn:Func} {N t u u2 ty n:Nat} {s:St} {b T:Nat} {cs:List Value} {x y:Value} [hI:TyAgg P ty n] (hr:fn.results=#[.cell t ty,.tmp u,.tmp u2]) (h:Sy.look s.env t=some (.pointer (some ⟨b,0,none⟩))) (h':Sy.look s.env u=some x) (h2':Sy.look s.env u2=some y) (hm:cel b T cs∈s.loc) (hn:cs.length=n) :
  Res1 P fn N s (.tuple #[.agg cs.toArray,x,y]):=fun av bor w0 a w ok=>by
 obtain ⟨D,h1,h2,h3⟩:=cW hI.out
 have ht:=ok.env t _ h
 have hu:=ok.env u _ h'
 have hu2:=ok.env u2 _ h2'
 have:(loadVar ty ⟨b,0,none⟩).run P w=.ok (.agg cs.toArray) w:=by
  cases D<;>simp at h2
  · exact run_loadVar_row w b T ty cs.toArray (0,0) _ (ef ok hm) h1 rfl (by rw [h3];simp [hn])
  · exact run_loadVar_row w b T ty cs.toArray (0,0) _ (ef ok hm) h1 rfl (by rw [h3];simp [hn])
 simp [results,hr,ht,hu,hu2,asAddr,this]
def wantA (au:ByteArray) (it:ItemD):Bool:=decide (it.kind=0)&&seqB it.act.author au
theorem vQ (bW:Nat) (au:ByteArray) (it:ItemD):Pu Tryz.prog 68 #[it.v,.pointer (some ⟨bW,0,none⟩)] (CelD bW [.string au]) (.tuple #[it.act.v,.int .i64 it.act.seq,.bool (wantA au it)]):=by
 refine aN (args:=[_,_]) _ Tryz.func68 rfl Tryz.ntmps68 rfl fun av bor w0=>?_
 repeat' (first|apply ab|apply aj|apply ai|refine ac ?_|refine aP fun _=>?_|refine aT fun _=>?_|fail)
 rename_i b2 b3
 by_cases h0:it.kind=0
 · (refine bo [cel b2 57 it.cells] (CelD bW [.string au]) ar ?_)
   all_goals refine aa 0 ?_
   all_goals (refine aa 1 (hy:=by (apply dE (vs:=it.act.cells);rfl;exact .head _;rfl;rfl)) ?_)
   all_goals refine aa 2 ?_
   all_goals refine aa 3 ?_
   all_goals refine aa 4 ?_
   all_goals refine aa 5 ?_
   all_goals refine aa 6 ?_
   all_goals (refine aa 7 (hy:=by (apply dS true;rfl;rfl;exact decide_eq_true h0)) ?_)
   all_goals refine aa 8 ?_
   all_goals refine aa 9 ?_
   all_goals refine aa 10 ?_
   all_goals refine aa 11 ?_
   all_goals (refine aa 12 (hy:=by (apply iW;rfl;exact (fun w h=>h 0 _ rfl))) ?_)
   all_goals refine aa 13 ?_
   all_goals refine aa 14 ?_
   all_goals (refine ao 15 ?_;(refine aK ?_);apply ab;refine ak ?_)
   all_goals refine aa 16 ?_
   all_goals refine aa 17 ?_
   all_goals (refine aI ?_)
   all_goals
    repeat' (first|apply aA|fail)
    exact aq (eK rfl rfl rfl rfl (.head _) rfl) (by rw [wantA,decide_eq_true h0];rfl)
 · (refine bo [cel b2 57 it.cells] (CelD bW [.string au]) ar ?_)
   all_goals refine aa 0 ?_
   all_goals (refine aa 1 (hy:=by (apply dE (vs:=it.act.cells);rfl;exact .head _;rfl;rfl)) ?_)
   all_goals refine aa 2 ?_
   all_goals refine aa 3 ?_
   all_goals refine aa 4 ?_
   all_goals refine aa 5 ?_
   all_goals refine aa 6 ?_
   all_goals (refine aa 7 (hy:=by (apply dS false;rfl;rfl;exact decide_eq_false h0)) ?_)
   all_goals refine aa 8 ?_
   all_goals refine aX 9 ?_
   all_goals refine aX 10 ?_
   all_goals refine aX 11 ?_
   all_goals refine aX 12 ?_
   all_goals refine aX 13 ?_
   all_goals refine aa 14 ?_
   all_goals (refine ao 15 ?_;(refine aK ?_);apply ab;refine ak ?_)
   all_goals refine aa 16 ?_
   all_goals refine aa 17 ?_
   all_goals (refine aI ?_)
   all_goals
    repeat' (first|apply aA|fail)
    exact aq (eK rfl rfl rfl rfl (.head _) rfl) (by rw [wantA,decide_eq_false h0];rfl)
def fndOf (dI:ItemD→ByteArray) (it:ItemD):FndA:=⟨it.act.seq,dI it,it.act⟩
def selB (au:ByteArray) (rI:ItemD→Bool) (it:ItemD):Bool:=wantA au it&&rI it
def selF (au:ByteArray) (rI:ItemD→Bool) (dI:ItemD→ByteArray) (I:List ItemD):List FndA:=(I.filter (selB au rI)).map (fndOf dI)
def selA (au:ByteArray) (rI:ItemD→Bool) (I:List ItemD):List ActD:=(I.filter (selB au rI)).map ItemD.act
theorem B9 (au:ByteArray) (rI:ItemD→Bool) (dI:ItemD→ByteArray) (I:List ItemD):(selF au rI dI I).map FndA.a=selA au rI I:=by rw [selF,selA,List.map_map];rfl
structure PikI (I:List ItemD) (au:ByteArray) (rI:ItemD→Bool) (dI:ItemD→ByteArray) where
 k:Nat
 hk:k≤I.length
 A:Option Addr
 c:Nat
 n:Nat
 hn:n=(selF au rI dI (I.take k)).length
 xs:List Value
 hxs:xs=((selF au rI dI (I.take k)).map FndA.cells).flatten
structure ValI (Q:List FndA) where
 k:Nat
 hk:k≤Q.length
 A:Option Addr
 c:Nat
 xs:List Value
 hxs:xs=((Q.take k).map fun f=>f.a.cells).flatten
def wantV (bW:Nat):Value:=.func (.func 68) #[] #[.pointer (some ⟨bW,0,none⟩)]
set_option maxHeartbeats 16000000 in
theorem xG (ks ki:SlV) (I:List ItemD) (bW:Nat) (au:ByteArray) (rI:ItemD→Bool) (dI:ItemD→ByteArray)
  (hR:∀ it∈I,Pu Tryz.prog 53 #[it.v] (fun w=>it.at_ w) (.bool (rI it)))
  (hD:∀ it∈I,Pu Tryz.prog 15 #[it.v] (fun w=>it.at_ w∧Glob w) (.string (dI it)))
  (hI:I.length≤1000) (hsort:SortA I.length) :
  Mk Tryz.prog 67 #[.agg #[ks.v,ki.v],wantV bW] (fun w=>(Items w ki I∧CelD bW [.string au] w)∧Glob w)
   (fun u X'=>∃ (s:SlV) (L:List ActD),u=s.v∧L.Perm (selA au rI I)∧∀ w,X' w→Acts w s L):=by
 refine bL (args:=[_,_]) _ Tryz.func67 rfl Tryz.ntmps67 rfl fun av bor w0=>?_
 refine bt (p:=ki.n=I.length∧ki.n≤maxLen∧(0<I.length→ki.p.isSome=true)) (fun w h=>⟨h.1.1.len_,h.1.1.max_,h.1.1.some_⟩) fun ⟨hkn,hkm,hkp⟩=>?_
 simp only [maxLen] at hkm
 repeat' (first|apply ab|apply aj|apply ai|refine ae ?_|refine ac ?_|refine aM ?_|refine aL ?_|refine bg ?_|refine aT fun _=>?_|apply aw|fail)
 rename_i b2
 refine cf 179 22 ?_
 refine be (ι:=PikI I au rI dI) (fun i=>⟨[(1,wantV bW),(5,.slice i.A i.n i.c),(15,ki.v),(16,.int .i64 (ki.n:Nat)),(17,.int .i64 (i.k:Nat))],[orow 179 22 (.slice i.A i.n i.c) i.n i.xs],fun w=>(Items w ki I∧CelD bW [.string au] w)∧Glob w⟩) (fun i=>I.length-i.k) ⟨0,Nat.zero_le _,none,0,0,rfl,[],rfl⟩ (aF ⟨rfl,rfl,rfl,rfl,rfl,trivial⟩ (.cons_cons _ (List.nil_sublist _)) fun _ h=>h) fun i=>?_
 obtain ⟨k,hk,A,c,n,hn,xs,hxs⟩:=i
 simp only
 repeat' (first|apply ab|apply aj|apply ai|refine ae ?_|refine bu ?_|apply ay|apply aw|apply aV|(refine aO (ht:=?_) (hf:=?_);all_goals (intro hx_;first|have:=aY hx_|have:=aZ hx_)))
 · have hlt:k<I.length:=by omega
   have hkp':=hkp ag
   obtain ⟨it,hit⟩:∃ it,I[k]?=some it:=⟨_,List.getElem?_eq_getElem hlt⟩
   have him:=List.mem_of_getElem? hit
   have hnl:n≤1000:=by
    rw [hn,selF,List.length_map]
    exact Nat.le_trans (List.length_filter_le _ _) (by rw [List.length_take];omega)
   repeat' (first|apply ab|apply aj|apply ai|refine ae ?_|refine aG ?_|refine aP fun _=>?_|refine aK ?_|(refine bf (q:=k*49) ?_)|(refine bD (cs:=it.cells) (hF:=fun w h=>h.1.1.get hit) ?_)|fail)
   rename_i b7
   have hri:=hR it him
   have hdi:=hD it him
   have hwa:=vQ bW au it
   have htk:selF au rI dI (I.take (k+1))=selF au rI dI (I.take k)++(bif selB au rI it then [fndOf dI it] else []):=by
    rw [selF,selF,List.take_add_one,hit,List.filter_append,List.map_append,Option.toList_some]
    congr 1
    cases hb:selB au rI it with
    | true=>simp [hb]
    | false=>simp [hb]
   cases hwt:wantA au it with
   | false =>
    rw [hwt] at hwa
    have hno:selF au rI dI (I.take (k+1))=selF au rI dI (I.take k):=by rw [htk,selB,hwt];exact List.append_nil _
    refine fR (args:=[it.v]) (all:=[it.v,.pointer (some ⟨bW,0,none⟩)]) (first:=#[]) (caps:=#[.pointer (some ⟨bW,0,none⟩)]) (hx:=rfl) (ha:=rfl) (hall:=rfl) (hc:=hwa) (hX:=fun w h=>h.1.2) (h:=?_)
    repeat' (first|apply ab|apply aj|apply ai|refine ae ?_|refine ac ?_|refine aH ?_|refine bC ?_|refine bm (h:=?_)|refine aW ?_|refine aP fun _=>?_|refine aK ?_|refine aD ?_|apply ay|fail)
    exact ⟨(⟨k+1,hlt,A,c,n,by rw [hno];exact hn,xs,by rw [hno];exact hxs⟩:PikI I au rI dI),(by show I.length-(k+1)<I.length-k;omega),aF ⟨rfl,rfl,rfl,rfl,rfl,trivial⟩ (.cons _ (.cons _ (aQ _))) fun _ h=>h⟩
   | true =>
    rw [hwt] at hwa
    cases hrt:rI it with
    | false =>
     rw [hrt] at hri
     have hno:selF au rI dI (I.take (k+1))=selF au rI dI (I.take k):=by rw [htk,selB,hwt,hrt];exact List.append_nil _
     refine fR (args:=[it.v]) (all:=[it.v,.pointer (some ⟨bW,0,none⟩)]) (first:=#[]) (caps:=#[.pointer (some ⟨bW,0,none⟩)]) (hx:=rfl) (ha:=rfl) (hall:=rfl) (hc:=hwa) (hX:=fun w h=>h.1.2) (h:=?_)
     repeat' (first|apply ab|apply aj|apply ai|refine ae ?_|refine ac ?_|refine aG ?_|refine aJ ?_|refine bC ?_|refine bm (h:=?_)|refine aP fun _=>?_|refine aK ?_|refine aD ?_|apply ay|(refine aC (hc:=hri) (hX:=fun w h=>h.1.1.2 it him) ?_)|fail)
     exact ⟨(⟨k+1,hlt,A,c,n,by rw [hno];exact hn,xs,by rw [hno];exact hxs⟩:PikI I au rI dI),(by show I.length-(k+1)<I.length-k;omega),aF ⟨rfl,rfl,rfl,rfl,rfl,trivial⟩ (.cons _ (.cons _ (aQ _))) fun _ h=>h⟩
    | true =>
     rw [hrt] at hri
     have hyes:selF au rI dI (I.take (k+1))=selF au rI dI (I.take k)++[fndOf dI it]:=by rw [htk,selB,hwt,hrt];rfl
     refine fR (args:=[it.v]) (all:=[it.v,.pointer (some ⟨bW,0,none⟩)]) (first:=#[]) (caps:=#[.pointer (some ⟨bW,0,none⟩)]) (hx:=rfl) (ha:=rfl) (hall:=rfl) (hc:=hwa) (hX:=fun w h=>h.1.2) (h:=?_)
     repeat' (first|apply ab|apply aj|apply ai|refine ae ?_|refine ac ?_|refine aG ?_|refine aJ ?_|refine bC ?_|refine aP fun _=>?_|refine aK ?_|refine aE ?_|(refine aC (hc:=hri) (hX:=fun w h=>h.1.1.2 it him) ?_)|fail)
     rename_i b8
     (refine bo [cel b8 46 it.act.cells,cel b7 57 it.cells] (fun w=>(Items w ki I∧CelD bW [.string au] w)∧Glob w) ar ?_)
     all_goals refine aa 0 ?_
     all_goals refine aa 1 ?_
     all_goals refine aa 2 ?_
     all_goals refine aa 4 ?_
     all_goals (refine ao 3 ?_;(refine aC (hc:=hdi) (hX:=fun w h=>⟨h.1.1.2 it him,h.2⟩) ?_);apply ab;refine ak ?_)
     all_goals (refine aa 5 (hy:=by (apply cd (cs:=(fndOf dI it).cells);rfl;rfl)) ?_)
     all_goals (refine ao 6 ?_;(refine bH (size:=22) (vs:=[.agg (fndOf dI it).cells.toArray]) (css:=(fndOf dI it).cells) (hsz:=by rfl) (hcs:=by rfl) fun _=>?_);apply ab;refine ak ?_)
     all_goals (refine ao 7 ?_;(refine aS (size:=22) (news:=(fndOf dI it).cells) (q:=1) rfl rfl rfl rfl (fun _=>At.there _ (At.there _ (At.there _ (At.here _)))) (fun w G=>bq G aU rfl rfl 1) ag (by simp only [maxLen];omega) rfl ?_ rfl ?_;(with_reducible rfl);intro A2 c2);apply ab;refine ak ?_)
     all_goals refine aa 8 ?_
     all_goals (refine aI ?_)
     all_goals
      repeat' (first|apply ab|apply ai|refine ae ?_|refine bm (h:=?_)|fail)
      exact ⟨(⟨k+1,hlt,A2,c2,n+1,by rw [hyes,List.length_append,←hn];rfl,xs++(fndOf dI it).cells,by rw [hyes,hxs];simp⟩:PikI I au rI dI),(by show I.length-(k+1)<I.length-k;omega),aF ⟨rfl,rfl,rfl,rfl,rfl,trivial⟩ (.cons _ (.cons _ (.cons _ (aQ _)))) fun _ h=>h⟩
 have hkE:k=I.length:=by omega
 rw [hkE,List.take_length] at hn hxs
 obtain ⟨P,hP⟩:∃ P,selF au rI dI I=P:=⟨_,rfl⟩
 rw [hP] at hn hxs
 have hPl:P.length≤I.length:=by rw [←hP,selF,List.length_map];exact List.length_filter_le _ _
 subst hxs
 refine dj (pre:=[fndR ⟨A,n,c⟩ P]) (fr:=[]) (first:=#[]) (caps:=#[]) (hc:=hsort ⟨A,n,c⟩ P hn hPl) (hX:=fun _ _=>trivial) (h:=?_)
 rintro v R X' ⟨rfl,Q,hQ,rfl⟩
 have hQl:Q.length=n:=hQ.length_eq.trans hn.symm
 have hnI:n≤1000:=by omega
 refine dr (X':=fun w=>(Items w ki I∧CelD bW [.string au] w)∧Glob w) (fun w h=>h.1) ?_
 repeat' (first|apply ab|apply aj|apply ai|refine ae ?_|refine ac ?_|refine bg ?_|apply aw|(refine ik (c:=n) (hm:=Nat.ble_eq_true_of_le ag) (hm2:=Nat.ble_eq_true_of_le ag) fun bv=>?_)|fail)
 refine de (r:=fndR ⟨A,n,c⟩ Q) bF (p:=0<n→A.isSome=true) (fun w h h0=>cR h h0) fun hAp=>?_
 refine be (ι:=ValI Q) (fun i=>⟨[(11,.slice i.A i.k i.c),(47,.slice A n c),(48,.int .i64 (n:Nat)),(49,.int .i64 (i.k:Nat))],[orow 46 20 (.slice i.A i.k i.c) i.k i.xs,fndR ⟨A,n,c⟩ Q],fun w=>(Items w ki I∧CelD bW [.string au] w)∧Glob w⟩) (fun i=>Q.length-i.k) ⟨0,Nat.zero_le _,_,_,[],rfl⟩ (aF ⟨rfl,rfl,rfl,rfl,trivial⟩ (aQ _) fun _ h=>h) fun i=>?_
 obtain ⟨k2,hk2,A2,c2,xs2,hxs2⟩:=i
 simp only
 repeat' (first|apply ab|apply aj|apply ai|refine ae ?_|refine ac ?_|refine bu ?_|apply ay|apply aw|apply aA|apply aV|(refine aO (ht:=?_) (hf:=?_);all_goals (intro hx_;first|have:=aY hx_|have:=aZ hx_)))
 · have hlt:k2<Q.length:=by omega
   have hAp':=hAp ag
   obtain ⟨f,hf⟩:∃ f,Q[k2]?=some f:=⟨_,List.getElem?_eq_getElem hlt⟩
   repeat' (first|refine bH (size:=20) (vs:=[f.a.v]) (css:=f.a.cells) (hsz:=by rfl) (hcs:=by rfl) fun _=>?_|apply ab|apply ai|refine ae ?_|refine aM ?_|refine aP fun _=>?_|refine aK ?_|(refine bf (q:=k2*22) ?_)|(refine ax (iV (size:=22) (m:=n) (i:=k2) (xs:=Q.map FndA.cells) (cs:=f.cells) rfl (.tail _ (.head _)) (by rw [List.length_map];exact hQl.symm) (A8 Q) (by simp [hf])) rfl rfl rfl ?_)|(refine bZ (vs:=f.a.cells) (hv:=rfl) ?_)|fail)
   refine aS (size:=20) (news:=f.a.cells) (q:=1) rfl rfl rfl rfl (fun _=>At.there _ (At.there _ (At.here _))) (fun w G=>bq G aU rfl rfl 1) ag (by simp only [maxLen];omega) rfl ?_ rfl ?_
   · (with_reducible rfl)
   intro A3 c3
   repeat' (first|apply ab|apply ai|refine ae ?_|refine ac ?_|refine bm (h:=?_)|fail)
   exact ⟨(⟨k2+1,hlt,A3,c3,xs2++f.a.cells,by rw [List.take_add_one,hf,hxs2];simp⟩:ValI Q),(by show Q.length-(k2+1)<Q.length-k2;omega),aF ⟨rfl,rfl,rfl,rfl,trivial⟩ (.cons _ (.cons _ (aQ _))) fun _ h=>h⟩
 have hk2E:k2=Q.length:=by omega
 rw [hk2E,List.take_length] at hxs2
 have hLp:(Q.map FndA.a).Perm (selA au rI I):=by rw [←B9 au rI dI I,hP];exact hQ.map _
 refine aq (aB rfl rfl) ⟨⟨A2,k2,c2⟩,Q.map FndA.a,rfl,hLp,fun w h=>?_⟩
 have hr:=h.2 (orow 46 20 (.slice A2 k2 c2) k2 xs2) (.head _)
 refine eg (l:=Q.map FndA.a) (by rw [List.map_map];rw [hxs2] at hr;exact hr) (by rw [List.length_map];exact hk2E) fun a ha=>?_
 have ha2:=hLp.subset ha
 rw [selA] at ha2
 obtain ⟨it,hit,rfl⟩:=List.mem_map.1 ha2
 exact (h.1.1.1.2 it (List.mem_filter.1 hit).1).1
theorem oa (ks ki:SlV) (I:List ItemD) (au:ByteArray) (rI:ItemD→Bool) (dI:ItemD→ByteArray)
  (hR:∀ it∈I,Pu Tryz.prog 53 #[it.v] (fun w=>it.at_ w) (.bool (rI it)))
  (hD:∀ it∈I,Pu Tryz.prog 15 #[it.v] (fun w=>it.at_ w∧Glob w) (.string (dI it)))
  (hI:I.length≤1000) (hsort:SortA I.length) :
  Mk Tryz.prog 27 #[.agg #[ks.v,ki.v],.string au] (fun w=>Items w ki I∧Glob w)
   (fun u X'=>∃ (s:SlV) (L:List ActD),u=s.v∧L.Perm (selA au rI I)∧∀ w,X' w→Acts w s L):=by
 refine bL (args:=[_,_]) _ Tryz.func27 rfl Tryz.ntmps27 rfl fun av bor w0=>?_
 repeat' (first|apply ab|apply aj|apply ai|refine ac ?_|refine aG ?_|refine aT fun _=>?_|(refine eA ?_)|fail)
 rename_i b2 b3
 refine dX ?_
 refine bN (hc:=xG ks ki I b3 au rI dI hR hD hI hsort) (hX:=fun w h=>⟨⟨h.1.1,ke h.2⟩,h.1.2⟩) fun v X1 h1=>?_
 obtain ⟨s,L,rfl,hL,hw⟩:=h1
 repeat' (first|apply ab|refine ac ?_|apply aA|fail)
 exact aq (aB rfl rfl) ⟨s,L,rfl,hL,fun w h=>hw w h.1.2⟩
def gtB (a b:ByteArray):Bool:=!(Op.bytesLess a.toList b.toList||seqB a b)
def addAt (dI:ItemD→ByteArray) (d:ByteArray) (I:List ItemD) (k:Nat):Nat:=((I.take k).findIdx? fun x=>gtB (dI x) d).getD I.length
def addV (dI:ItemD→ByteArray) (it:ItemD) (I:List ItemD):List ItemD:=I.take (addAt dI (dI it) I I.length)++it::I.drop (addAt dI (dI it) I I.length)
theorem yZ (dI:ItemD→ByteArray) (d:ByteArray) (I:List ItemD) (k:Nat) (hk:k≤I.length):addAt dI d I k<k∨addAt dI d I k=I.length:=by
 rw [addAt]
 cases h:(I.take k).findIdx? fun x=>gtB (dI x) d with
 | none=>exact .inr rfl
 | some j =>
  rw [List.findIdx?_eq_some_iff_getElem] at h
  obtain ⟨h1,_⟩:=h
  rw [List.length_take] at h1
  exact .inl (by show j<k;omega)
theorem rD (dI:ItemD→ByteArray) (d:ByteArray) (I:List ItemD) (k:Nat) (x:ItemD) (hx:I[k]?=some x):addAt dI d I (k+1)=bif gtB (dI x) d&&decide (addAt dI d I k=I.length) then k else addAt dI d I k:=by
 have hk:k<I.length:=(List.getElem?_eq_some_iff.1 hx).1
 rw [addAt,addAt,List.take_add_one,hx,Option.toList_some,List.findIdx?_append]
 cases h:(I.take k).findIdx? fun x=>gtB (dI x) d with
 | none =>
  rw [List.findIdx?_singleton]
  cases hg:gtB (dI x) d with
  | true=>simp [List.length_take];omega
  | false=>simp
 | some j =>
  rw [List.findIdx?_eq_some_iff_getElem] at h
  obtain ⟨h1,_⟩:=h
  rw [List.length_take] at h1
  have:¬ j=I.length:=by omega
  simp [this]
section
variable {P:Program} {N:Nat} {av bor:List Nat} {w0:World} {x y:Operand} {t t2:TypeId} {ty:TypeId} {st:St}
theorem ib {a b:ByteArray} (v:Bool) (hx:ev st.env x=some (.string a)) (hy:ev st.env y=some (.string b)) (hv:gtB a b=v):Sy.Yields P N av bor w0 st (.binOp .gtr t x y t2) ty (.bool v):=hv▸vD hx hy
end
structure AddI (I:List ItemD) where
 k:Nat
 hk:k≤I.length
set_option maxHeartbeats 16000000 in
theorem CS (ks ki:SlV) (I:List ItemD) (it:ItemD) (rI:ItemD→Bool) (dI:ItemD→ByteArray)
  (hR:Pu Tryz.prog 53 #[it.v] (fun w=>it.at_ w) (.bool true))
  (hS:Pu Tryz.prog 54 #[ks.v,it.v] (fun w=>it.at_ w∧Glob w) (.bool true))
  (hD0:Pu Tryz.prog 15 #[it.v] (fun w=>it.at_ w∧Glob w) (.string (dI it)))
  (hD:∀ x∈I,Pu Tryz.prog 15 #[x.v] (fun w=>x.at_ w∧Glob w) (.string (dI x)))
  (hI:I.length≤1000) (hnew:∀ x∈I,seqB (dI x) (dI it)=false) :
  Mk Tryz.prog 19 #[.agg #[ks.v,ki.v],it.v] (fun w=>(Items w ki I∧it.at_ w)∧Glob w)
   (fun u X'=>∃ s:SlV,u=.tuple #[.agg #[ks.v,s.v],.bool true]∧∀ w,X' w→Items w s (addV dI it I)):=by
 refine bL (args:=[_,_]) _ Tryz.func19 rfl Tryz.ntmps19 rfl fun av bor w0=>?_
 refine bt (p:=ki.n=I.length∧ki.n≤maxLen∧(0<I.length→ki.p.isSome=true)∧ki.n≤ki.c) (fun w h=>⟨h.1.1.len_,h.1.1.max_,h.1.1.some_,RowsD.cap h.1.1.1⟩) fun ⟨hkn,hkm,hkp,hkc⟩=>?_
 simp only [maxLen] at hkm
 obtain ⟨d,hd⟩:∃ d,dI it=d:=⟨_,rfl⟩
 rw [hd] at hD0 hnew
 repeat' (first|apply ab|apply aj|apply ai|refine ae ?_|refine ac ?_|refine aM ?_|refine aL ?_|refine aG ?_|refine aH ?_|refine bE ?_|refine bg ?_|refine aP fun _=>?_|refine aT fun _=>?_|refine aD ?_|apply ay|apply aw|(refine aC (hc:=hR) (hX:=fun w h=>h.1.2) ?_)|(refine aC (hc:=hS) (hX:=fun w h=>⟨h.1.2,h.2⟩) ?_)|(refine aC (hc:=hD0) (hX:=fun w h=>⟨h.1.2,h.2⟩) ?_)|fail)
 rename_i b2 b3 b4
 refine be (ι:=AddI I) (fun i=>⟨[(2,.pointer (some ⟨b2,0,none⟩)),(3,.pointer (some ⟨b3,0,none⟩)),(4,.pointer (some ⟨b4,0,none⟩)),(6,.string d),(7,.int .i64 (addAt dI d I i.k:Nat)),(29,ki.v),(30,.int .i64 (ki.n:Nat)),(31,.int .i64 (i.k:Nat))],[cel b4 25 [.slice none 0 0,.slice none 0 0],cel b3 57 it.cells,cel b2 25 [ks.v,ki.v]],fun w=>(Items w ki I∧it.at_ w)∧Glob w⟩) (fun i=>I.length-i.k) ⟨0,Nat.zero_le _⟩ (aF ⟨rfl,rfl,rfl,rfl,(by show some (Value.int .i64 (ki.n:Nat))=_;rw [hkn];rfl),rfl,rfl,rfl,trivial⟩ (aQ _) fun _ h=>h) fun i=>?_
 obtain ⟨k,hk⟩:=i
 simp only
 repeat' (first|apply ab|apply aj|apply ai|refine ae ?_|refine aM ?_|refine aL ?_|refine bu ?_|refine bg ?_|refine bm (h:=?_)|apply ay|apply aw|apply aV|(refine aO (ht:=?_) (hf:=?_);all_goals (intro hx_;first|have:=aY hx_|have:=aZ hx_)))
 · have hlt:k<I.length:=by omega
   have hkp':=hkp ag
   obtain ⟨x,hx⟩:∃ x,I[k]?=some x:=⟨_,List.getElem?_eq_getElem hlt⟩
   have hxm:=List.mem_of_getElem? hx
   have hne:=hnew x hxm
   have hst:=rD dI d I k x hx
   generalize addAt dI d I k=at0 at *
   cases hg:gtB (dI x) d with
   | false =>
    rw [hg] at hst
    have hst:addAt dI d I (k+1)=at0:=hst
    have hat:decide ((at0:Int)=(ki.n:Int))=decide ((at0:Int)=(ki.n:Int)):=rfl
    repeat' (first|refine ax (dv false rfl rfl hne) rfl aR rfl ?_|refine ax (ib _ rfl rfl hg) rfl aR rfl ?_|apply ab|apply aj|apply ai|refine ae ?_|refine ac ?_|refine aG ?_|refine aH ?_|refine bm (h:=?_)|refine aW ?_|refine aP fun _=>?_|refine aK ?_|refine aD ?_|apply ay|(refine bf (q:=k*49) ?_)|(refine bD (cs:=x.cells) (hF:=fun w h=>h.1.1.get hx) ?_)|(refine aC (hc:=hD x hxm) (hX:=fun w h=>⟨h.1.1.2 x hxm,h.2⟩) ?_)|fail)
    exact ⟨(⟨k+1,hlt⟩:AddI I),(by show I.length-(k+1)<I.length-k;omega),aF ⟨rfl,rfl,rfl,rfl,(by show _=some (Value.int .i64 (addAt dI d I (k+1):Nat));rw [hst];rfl),rfl,rfl,rfl,trivial⟩ (.cons _ (aQ _)) fun _ h=>h⟩
   | true =>
    by_cases ha:at0=I.length
    · rw [hg,decide_eq_true ha] at hst
      have hst:addAt dI d I (k+1)=k:=hst
      have hat:decide ((at0:Int)=(ki.n:Int))=true:=decide_eq_true ag
      repeat' (first|refine ax (dv false rfl rfl hne) rfl aR rfl ?_|refine ax (ib _ rfl rfl hg) rfl aR rfl ?_|refine ax (dS _ rfl rfl hat) rfl aR rfl ?_|apply ab|apply aj|apply ai|refine ae ?_|refine ac ?_|refine aM ?_|refine aL ?_|refine aG ?_|refine aJ ?_|refine bg ?_|refine bm (h:=?_)|refine aP fun _=>?_|refine aK ?_|refine aE ?_|refine aD ?_|apply ay|(refine bf (q:=k*49) ?_)|(refine bD (cs:=x.cells) (hF:=fun w h=>h.1.1.get hx) ?_)|(refine aC (hc:=hD x hxm) (hX:=fun w h=>⟨h.1.1.2 x hxm,h.2⟩) ?_)|fail)
      exact ⟨(⟨k+1,hlt⟩:AddI I),(by show I.length-(k+1)<I.length-k;omega),aF ⟨rfl,rfl,rfl,rfl,(by show _=some (Value.int .i64 (addAt dI d I (k+1):Nat));rw [hst];rfl),rfl,rfl,rfl,trivial⟩ (.cons _ (aQ _)) fun _ h=>h⟩
    · rw [hg,decide_eq_false ha] at hst
      have hst:addAt dI d I (k+1)=at0:=hst
      have hat:decide ((at0:Int)=(ki.n:Int))=false:=decide_eq_false ag
      repeat' (first|refine ax (dv false rfl rfl hne) rfl aR rfl ?_|refine ax (ib _ rfl rfl hg) rfl aR rfl ?_|refine ax (dS _ rfl rfl hat) rfl aR rfl ?_|apply ab|apply aj|apply ai|refine ae ?_|refine ac ?_|refine aM ?_|refine aL ?_|refine aG ?_|refine aJ ?_|refine bg ?_|refine bm (h:=?_)|refine aP fun _=>?_|refine aK ?_|refine aD ?_|apply ay|(refine bf (q:=k*49) ?_)|(refine bD (cs:=x.cells) (hF:=fun w h=>h.1.1.get hx) ?_)|(refine aC (hc:=hD x hxm) (hX:=fun w h=>⟨h.1.1.2 x hxm,h.2⟩) ?_)|fail)
      exact ⟨(⟨k+1,hlt⟩:AddI I),(by show I.length-(k+1)<I.length-k;omega),aF ⟨rfl,rfl,rfl,rfl,(by show _=some (Value.int .i64 (addAt dI d I (k+1):Nat));rw [hst];rfl),rfl,rfl,rfl,trivial⟩ (.cons _ (aQ _)) fun _ h=>h⟩
 have hkE:k=I.length:=by omega
 have hV:addV dI it I=I.take (addAt dI d I k)++it::I.drop (addAt dI d I k):=by rw [addV,hd,hkE]
 have hal:addAt dI d I k≤I.length:=by
  rcases yZ dI d I k hk with h|h
  · omega
  · omega
 rw [hV]
 generalize addAt dI d I k=a0 at *
 have hones:∀ (J:List ItemD),∀ cs∈J.map ItemD.cells,cs.all (·.oneCell')=true:=fun J cs hcs=>by
  obtain ⟨x,_,rfl⟩:=List.mem_map.1 hcs
  rfl
 have hs1:∀ w,((Items w ki I∧it.at_ w)∧Glob w)→Src Tryz.prog w 49 (.slice ki.p a0 ki.c) a0 ((I.take a0).map ItemD.cells).flatten:=fun w h=>by
  have h1:=RowsD.take (n:=a0) h.1.1.1 (by simpa using hal)
  rw [←List.map_take] at h1
  exact dJ h1 (hones _)
 have hs2:∀ w,((Items w ki I∧it.at_ w)∧Glob w)→Src Tryz.prog w 49 (ki.from 49 a0).v (ki.from 49 a0).n ((I.drop a0).map ItemD.cells).flatten:=fun w h=>by
  have h1:=RowsD.drop (n:=a0) h.1.1.1 (by simpa using hal)
  rw [←List.map_drop] at h1
  exact dJ h1 (hones _)
 have hfn:(ki.from 49 a0).n=ki.n-a0:=rfl
 refine ik (c:=ki.n+1) (hm:=Nat.ble_eq_true_of_le ag) (hm2:=Nat.ble_eq_true_of_le ag) fun bv=>?_
 repeat' (first|apply ab|apply aj|apply ai|refine ae ?_|refine ac ?_|refine aM ?_|refine aL ?_|(refine ax (iU rfl rfl ag ag) rfl rfl rfl ?_)|fail)
 refine aS (size:=49) (news:=((I.take a0).map ItemD.cells).flatten) (q:=a0) rfl rfl rfl rfl (fun _=>At.here _) (fun w G=>hs1 w G.keep.now) ag (by simp only [maxLen];omega) rfl ?_ rfl ?_
 · (with_reducible rfl)
 intro A1 c1
 repeat' (first|refine bH (size:=49) (vs:=[it.v]) (css:=it.cells) (hsz:=by rfl) (hcs:=by rfl) fun _=>?_|apply ab|apply aj|apply ai|refine ae ?_|refine ac ?_|refine aG ?_|fail)
 refine aS (size:=49) (news:=it.cells) (q:=1) rfl rfl rfl rfl (fun _=>At.there _ (At.here _)) (fun w G=>bq G aU rfl rfl 1) ag (by simp only [maxLen];omega) rfl ?_ rfl ?_
 · (with_reducible rfl)
 intro A2 c2
 repeat' (first|apply ab|apply aj|apply ai|refine ae ?_|refine ac ?_|refine aM ?_|refine aL ?_|(refine ax (gP (s:=ki) rfl rfl ag ag) rfl rfl rfl ?_)|fail)
 refine aS (size:=49) (news:=((I.drop a0).map ItemD.cells).flatten) (q:=ki.n-a0) rfl rfl rfl rfl (fun _=>At.there _ (At.here _)) (fun w G=>hs2 w G.keep.now) ag (by simp only [maxLen];omega) rfl ?_ rfl ?_
 · (with_reducible rfl)
 intro A3 c3
 repeat' (first|apply ab|apply aj|apply ai|refine ae ?_|refine ac ?_|refine aM ?_|refine aL ?_|refine aK ?_|apply aA|(refine bV (cs:=[ks.v,.slice A3 (0+a0+1+(ki.n-a0)) c3]) (hf:=by rfl) ?_)|fail)
 refine aq (cN rfl rfl rfl bF (by rfl)) ⟨⟨A3,0+a0+1+(ki.n-a0),c3⟩,rfl,fun w h=>?_⟩
 have hr:=h.2 (orow 57 49 (.slice A3 (0+a0+1+(ki.n-a0)) c3) (0+a0+1+(ki.n-a0)) ([]++((I.take a0).map ItemD.cells).flatten++it.cells++((I.drop a0).map ItemD.cells).flatten)) bF
 refine ⟨bJ (e:=57) (xs:=(I.take a0++it::I.drop a0).map ItemD.cells) ?_ (by simp [hkn];omega) fun r hr=>?_,fun x hx=>?_⟩
 · have e:((I.take a0++it::I.drop a0).map ItemD.cells).flatten=[]++((I.take a0).map ItemD.cells).flatten++it.cells++((I.drop a0).map ItemD.cells).flatten:=by simp
   rw [e]
   exact hr
 · obtain ⟨x,_,rfl⟩:=List.mem_map.1 hr
   rfl
 · rcases List.mem_append.1 hx with hx|hx
   · exact h.1.1.1.2 x (List.mem_of_mem_take hx)
   · rcases List.mem_cons.1 hx with rfl|hx
     · exact h.1.1.2
     · exact h.1.1.1.2 x (List.mem_of_mem_drop hx)
end Go.Proofs.YtfnjklhjngphmaaGreatDoor
