/- Joined. -/
import Derived.Test.YtaolfiikahlmkaaGreatDoorZ3
import Derived.Shelf.SlIter.Nil
import Derived.Shelf.SlIterI.Nil
import Derived.Shelf.SortM.Plain
import Derived.Shelf.SortM.SortNone
import Derived.Shelf.Slices.CompactS
import Derived.Test.YtaolfiikahlmkaaGreatDoorProg
import Derived.Shelf.Bits.Mul64
import Derived.Shelf.Strconv.Itoa0
import Derived.Shelf.Strings.OnBuilder
set_option linter.unusedVariables false
set_option linter.unusedSimpArgs false
set_option maxHeartbeats 16000000
namespace Go.Proofs.YtaolfiikahlmkaaGreatDoor
open Go Go.Proofs Sy
section
variable {P:Program} {N:Nat} {av bor:List Nat} {w0:World} {ops:Array Oper} {rest:List Oper} {k:St→Prop} {E:Env} {loc:List Res} {X:World→Prop}
theorem bL {r:Res} (h:Sw P N av bor w0 ops rest ⟨E,loc,fun w=>X w∧r.F w⟩ k):Sw P N av bor w0 ops rest ⟨E,r::loc,X⟩ k:=Sw.mk fun a w ok=>h.run a w (ok.via fun M G=>G.give)
end
def shortBad (l:List ActD) (k:Nat):Bool:=decide (8<(l.getD k ActD.zero).to.n)||decide (8<(l.getD k ActD.zero).wraps.n)||decide (600<(l.getD k ActD.zero).text.size)||decide (600<(l.getD k ActD.zero).body.data.size)
def shortV (c:ChainD):Bool:=decide (c.actsL.length≤24)&&allB c.actsL.length (shortBad c.actsL)
def idA:ByteArray:=⟨#[48,48,48,48,48,48,48,48,48,48,48,48,48,48,97,49]⟩
def idB:ByteArray:=⟨#[48,48,48,48,48,48,48,48,48,48,48,48,48,48,98,50]⟩
theorem fR {w:World} {b e:Nat} {l:List ByteArray} (h:(cel b e (l.map encB)).F w) (hm:l.length≤maxLen):Strs w ⟨some ⟨b,0,none⟩,l.length,l.length⟩ l:=by
 have h1:(l.map encB)=(strs l).flatten:=pc l
 rw [h1] at h
 exact bt h (by simp [strs]) hm (rG l)
theorem zk {c:ChainD} (hr:∀ a∈c.actsL,a.Rng) (ht:∀ a∈c.actsL,a.target.size≤maxLen) (h:shortV c=true):ActsOk c.actsL∧c.actsL.length≤24:=by
 simp only [shortV,Zp,Zw] at h
 refine ⟨⟨hr,fun a ha=>?_⟩,h.1⟩
 obtain ⟨i,hi,rfl⟩:=Qx ha
 have h1:=List.all_eq_true.1 h.2 i (List.mem_range.2 hi)
 simp only [shortBad,Zo,Zb hi,Qe,Bool.not_eq_true',Ql,Qd] at h1
 exact ⟨by omega,by omega,ht _ ha⟩
theorem tD (l:List ByteArray):eqL l l=true:=by
 rw [eqL,Zd rfl,Zg]
 refine pV fun j hj=>?_
 simp [eqBad,seqB]
section
variable {P:Program} {N:Nat} {av bor:List Nat} {w0:World} {ops:Array Oper} {rest:List Oper} {kk:St→Prop} {E:Env} {loc:List Res} {X:World→Prop} {x y:Operand} {t t2:TypeId}
variable {n:Nat} {ty:TypeId} {pos:String} {af:Array Edge} {g:Option (Nat×Bool)} {bb want:Bool}
theorem Dz {p q:Bool} (r:Bool) [hI:TyBool P t] (hx:ev E x=some (.bool p):=by rfl) (hy:ev E y=some (.bool q):=by rfl) (hr:(p != q)=r) (hg:gdB ops E g=some (bb,want):=by rfl) (hbb:bb=want:=by exact am) (hd:Nat.blt n N=true:=by rfl) (h:Sw P N av bor w0 ops rest ⟨(n,.bool r)::E,loc,X⟩ kk) :
  Sw P N av bor w0 ops (⟨some n,.binOp .neq t x y t2,ty,pos,af,g⟩::rest) ⟨E,loc,X⟩ kk:=br (hx:=hx) (hy:=hy) (hg:=hg) (hbb:=hbb) (hd:=hd) (h:=hr▸h)
theorem gI {k:IntKind} {a b:Int} (h:Sw P N av bor w0 ops rest ⟨(n,.bool false)::E,loc,X⟩ kk) (hx:ev E x=some (.int k a):=by rfl) (hy:ev E y=some (.int k b):=by rfl) (hab:a=b:=by decide) (hg:gdB ops E g=some (bb,want):=by rfl) (hbb:bb=want:=by exact am) (hd:Nat.blt n N=true:=by rfl) :
  Sw P N av bor w0 ops (⟨some n,.binOp .neq t x y t2,ty,pos,af,g⟩::rest) ⟨E,loc,X⟩ kk:=bN (hx:=hx) (hy:=hy) (hg:=hg) (hbb:=hbb) (hd:=hd) (h:=by
   have e:∀ u,u=Value.bool false→Sw P N av bor w0 ops rest ⟨(n,u)::E,loc,X⟩ kk:=fun u hu=>hu▸h
   exact e _ (by simp [hab]))
theorem Dy {k:IntKind} {a b:Int} (h:Sw P N av bor w0 ops rest ⟨(n,.bool false)::E,loc,X⟩ kk) (hx:ev E x=some (.int k a):=by rfl) (hy:ev E y=some (.int k b):=by rfl) (hab:¬ b≤a) (hg:gdB ops E g=some (bb,want):=by rfl) (hbb:bb=want:=by exact am) (hd:Nat.blt n N=true:=by rfl) :
  Sw P N av bor w0 ops (⟨some n,.binOp .geq t x y t2,ty,pos,af,g⟩::rest) ⟨E,loc,X⟩ kk:=cg (hx:=hx) (hy:=hy) (hg:=hg) (hbb:=hbb) (hd:=hd) (h:=by
   have e:∀ u,u=Value.bool false→Sw P N av bor w0 ops rest ⟨(n,u)::E,loc,X⟩ kk:=fun u hu=>hu▸h
   exact e _ (by simp only [Zc hab]))
theorem fP {k:IntKind} {a b:Int} (h:Sw P N av bor w0 ops rest ⟨(n,.bool true)::E,loc,X⟩ kk) (hx:ev E x=some (.int k a):=by rfl) (hy:ev E y=some (.int k b):=by rfl) (hab:b<a:=by (first|decide|omega)) (hg:gdB ops E g=some (bb,want):=by rfl) (hbb:bb=want:=by exact am) (hd:Nat.blt n N=true:=by rfl) :
  Sw P N av bor w0 ops (⟨some n,.binOp .gtr t x y t2,ty,pos,af,g⟩::rest) ⟨E,loc,X⟩ kk:=bM (hx:=hx) (hy:=hy) (hg:=hg) (hbb:=hbb) (hd:=hd) (h:=by
   have e:∀ u,u=Value.bool true→Sw P N av bor w0 ops rest ⟨(n,u)::E,loc,X⟩ kk:=fun u hu=>hu▸h
   exact e _ (by simp [hab]))
theorem eY {k:IntKind} {a b:Int} (h:Sw P N av bor w0 ops rest ⟨(n,.bool false)::E,loc,X⟩ kk) (hx:ev E x=some (.int k a):=by rfl) (hy:ev E y=some (.int k b):=by rfl) (hab:¬ b<a) (hg:gdB ops E g=some (bb,want):=by rfl) (hbb:bb=want:=by exact am) (hd:Nat.blt n N=true:=by rfl) :
  Sw P N av bor w0 ops (⟨some n,.binOp .gtr t x y t2,ty,pos,af,g⟩::rest) ⟨E,loc,X⟩ kk:=bM (hx:=hx) (hy:=hy) (hg:=hg) (hbb:=hbb) (hd:=hd) (h:=by
   have e:∀ u,u=Value.bool false→Sw P N av bor w0 ops rest ⟨(n,u)::E,loc,X⟩ kk:=fun u hu=>hu▸h
   exact e _ (by simp [hab]))
end
structure RowI where
 A:Option Addr
 c:Nat
def ChainD.with (c:ChainD) (s:SlV) (l:List ActD):ChainD:={ c with acts:=s,actsL:=l }
theorem fI (l:List ActD):∀ r∈l.map ActD.cells,r.length=20:=by
 intro r hr
 obtain ⟨a,_,rfl⟩:=QI.1 hr
 rfl
theorem eP {w:World} {e n c:Nat} {A:Option Addr} {l:List ActD} (h:ORow w e 20 (.slice A n c) n (l.map ActD.cells).flatten) (hn:n=l.length) (ha:∀ a∈l,a.at_ w):Acts w ⟨A,n,c⟩ l :=
 ⟨ck h (by simpa using hn) (fI l),ha⟩
theorem vc (l:List ActD):∀ cs∈l.map ActD.cells,cs.all (·.oneCell')=true:=by
 intro r hr
 obtain ⟨a,_,rfl⟩:=QI.1 hr
 rfl
section
variable {P:Program} {N:Nat} {av bor:List Nat} {w0:World} {ops:Array Oper} {rest:List Oper} {kk:St→Prop} {E:Env} {loc:List Res} {X:World→Prop} {x y:Operand} {t t2:TypeId}
variable {n:Nat} {ty:TypeId} {pos:String} {af:Array Edge} {g:Option (Nat×Bool)} {bb want:Bool}
end
section
variable {P:Program} {N:Nat} {av bor:List Nat} {w0:World} {ops:Array Oper} {rest:List Oper} {k:St→Prop} {E:Env} {loc:List Res} {X:World→Prop}
variable {d:Option Tmp} {ty:TypeId} {pos:String} {af:Array Edge} {g:Option (Nat×Bool)} {bb want:Bool}
theorem AV {x:Operand} {xs:List Operand} {ats:Array TypeId} {f:FuncId} {first caps:Array Value} {args all:List Value} {X1:World→Prop} {Post:Value→List Res→(World→Prop)→Prop} (h:∀ v R X',Post v R X'→Sw P N av bor w0 ops rest ⟨putE E d v,R++loc,fun w=>X w∧X' w⟩ k) (hx:ev E x=some (.func (.func f) first caps):=by rfl) (ha:evs E xs=some args:=by rfl) (hall:first.toList++args++caps.toList=all:=by rfl) (hg:gdB ops E g=some (bb,want):=by rfl) (hb:bb=want:=by exact am) (hd:inB N d=true:=by rfl) (hf:FnBody P f:=by infer_instance) (hc:Ct P f all.toArray [] X1 Post) (hX:∀ w,X w→X1 w:=by (first|exact fun _ _=>trivial|exact fun _ h=>h|exact fun _ h=>h.1|exact fun _ h=>h.2)) :
  Sw P N av bor w0 ops (⟨d,.call ⟨.value x,xs.toArray,ats⟩,ty,pos,af,g⟩::rest) ⟨E,loc,X⟩ k:=cj (pre:=[]) (fr:=loc) hx ha hall hg hb hd hf hc hX h
end
section
variable {P:Program} {N:Nat} {av bor:List Nat} {w0:World} {st:St} {x y:Operand} {t t2:TypeId} {ty:TypeId}
theorem CY {a b:ByteArray} (hx:ev st.env x=some (.string a)) (hy:ev st.env y=some (.string b)) (hab:ltB a b=true):Sy.Yields P N av bor w0 st (.binOp .geq t x y t2) ty (.bool false):=by
 have h:=tX (P:=P) (N:=N) (av:=av) (bor:=bor) (w0:=w0) (t:=t) (t2:=t2) (ty:=ty) hx hy
 have e:(!Op.bytesLess a.toList b.toList)=false:=by rw [show Op.bytesLess a.toList b.toList=true from hab];rfl
 rwa [e] at h
end
theorem we {P:Program} {f:FuncId} {args:Array Value} {X X':World→Prop} {v:Value} (h:Pu P f args X v) (hx:∀ w,X' w→X w):Pu P f args X' v:=by
 unfold Pu at *
 exact Ct.mk fun w av G=>(Ct.run h w av (G.imp hx)).mono fun e w' ⟨u,R,X1,he,hp,G'⟩=>⟨u,R,X1,he,hp,G'⟩
namespace Sy
section
variable {P:Program} {N:Nat} {av bor:List Nat} {w0:World} {ops:Array Oper} {rest:List Oper} {E:Env} {loc:List Res} {X:World→Prop} {k:St→Prop}
theorem qE {w:World} {b e size m:Nat} {cs:List Value} (h:w.heap[b]?=some (.cells cs.toArray e (0,0))) (hl:cs.length=m*size) (hm:m≤maxLen):ORow w e size (.slice (some ⟨b,0,none⟩) m m) m cs :=
 ⟨hl,.inr ⟨b,m,cs.toArray,(0,0),rfl,h,ZX _,hm,by simpa using hl,by rw [←hl];simp,.inl rfl⟩⟩
theorem Gam.orow {w:World} {b e size m:Nat} {cs:List Value} (hl:cs.length=m*size) (hm:m≤maxLen) (G:Gam av bor w0 (cel b e cs::loc) X w):Gam av bor w0 (orow e size (.slice (some ⟨b,0,none⟩) m m) m cs::loc) X w:=by
 have e1:fps (Sy.orow e size (.slice (some ⟨b,0,none⟩) m m) m cs::loc)=fps (cel b e cs::loc):=by simp [fps,Sy.orow,cel,Value.ownBlock]
 refine ⟨G.fr,G.avb,by rw [e1];exact G.nodup,by rw [e1];exact G.own,fun r hr=>?_,by rw [e1];exact G.keep⟩
 rcases ZI.1 hr with rfl|hr
 · exact ex (qE (G.here _ ax).now hl hm)
 · exact G.here r (Zv _ hr)
theorem qi {b e:Nat} {cs:List Value} (size m:Nat) (hl:cs.length=m*size:=by rfl) (hm:m≤maxLen) (h:Sw P N av bor w0 ops rest ⟨E,orow e size (.slice (some ⟨b,0,none⟩) m m) m cs::loc,X⟩ k):Sw P N av bor w0 ops rest ⟨E,cel b e cs::loc,X⟩ k :=
 Sw.mk fun a w ok=>h.run a w (ok.via fun M G=>G.orow hl hm)
end
end Sy
end Go.Proofs.YtaolfiikahlmkaaGreatDoor
namespace Go.Proofs.YtaolfiikahlmkaaGreatDoor.Sy
open Go Go.Proofs
section
variable {P:Program} {N:Nat} {av bor:List Nat} {w0:World} {st:St} {ty:TypeId} {x y:Operand} {t t2:TypeId}
variable {E:Env} {loc:List Res} {X:World→Prop} {ops:Array Oper} {kk:St→Prop} {n:Nat} {pos:String} {af:Array Edge} {g:Option (Nat×Bool)} {rest:List Oper} {bb want:Bool} {K:Exit→St→Prop} {c:Code}
theorem cK {p:Prop} {r:Res} (hm:r∈loc:=by exact bz) (hp:∀ w,r.F w→p) (h:p→Cw P N av bor w0 c ⟨E,loc,X⟩ K):Cw P N av bor w0 c ⟨E,loc,X⟩ K:=Cw.mk fun a w ok=>(h (hp w (ok.gam.here r hm).now)).run a w ok
theorem cA {w:World} {e size n c:Nat} {A:Option Addr} {xs:List Value} (h:ORow w e size (.slice A n c) n xs) (hn:0<n):A.isSome=true:=by
 rcases h.2 with ⟨h1,h2⟩|⟨g,cap,cur,fz,h1,hg,_⟩
 · omega
 · simp only [Value.slice.injEq] at h1
   obtain ⟨rfl,_⟩:=h1
   rfl
theorem ib {e size m i c:Nat} [h:TyAgg P t size] {A:Option Addr} {xs:List (List Value)} {cs:List Value} (hx:ev st.env x=some (elP A (i*size))) (hm:orow e size (.slice A m c) m xs.flatten∈st.loc) (hn:m=xs.length) (hs:∀ r∈xs,r.length=size) (hi:xs[i]?=some cs) :
  Yields P N av bor w0 st (.load t x) ty (.agg cs.toArray):=Sy.Yields.mk fun B w ok d pos af g=>by
 have hr:=ck (ok.gam.here _ hm).now hn hs
 obtain ⟨h1,hp,hc⟩:=RowsD.row hr i cs hi
 obtain ⟨a,rfl⟩:=QN.1 hp
 have:=dQ (P:=P) (t:=t) h.out (w:=w) (A:=a.add (i*size)) h1 (fun j v hj=>by rw [fD];exact (hc j v hj).2 a rfl)
 simp [execOp,ok.eval hx,elP,Instr.loadAt,Instr.sureAddr,this]
theorem xE (l vs:List Value) (o s M:Nat) (hv:vs.length=s) (h1:o+s≤M) (h2:M≤l.length):(l.take o++vs++l.drop (o+s)).take M=(l.take M).take o++vs++(l.take M).drop (o+s):=by
 have e1:(l.take o++vs).length=o+s:=by rw [ZA,Qi,hv];omega
 rw [List.take_append,e1,Qf aa,List.take_take,Nat.min_eq_left aa,List.drop_take]
theorem sH (l vs:List Value) (o s M:Nat) (hv:vs.length=s) (h1:o+s≤M) (hl:l.length=M):(l.take o++vs++l.drop (o+s)).length=M:=by
 simp only [ZA,Qi,Qr,hv,hl]
 omega
theorem qg {d:Option Tmp} {loc':List Res} {e size m i c:Nat} {A:Option Addr} {xs vs xs':List Value} {v:Value} (hsz:(P.info? t).map (·.size)=some size) (hx:ev E x=some (elP A (i*size)):=by rfl) (hy:ev E y=some v:=by rfl) (hv:v.cells.toList=vs) (h1:(vs.all (·.oneCell'))=true:=by rfl) (hvl:vs.length=size) (hi:i<m:=by omega)
  (hxs:xs.take (i*size)++vs++xs.drop (i*size+size)=xs') (hA:At (orow e size (.slice A m c) m xs) (orow e size (.slice A m c) m xs') loc loc':=by (repeat (first|exact At.here _|apply At.there))) (hg:gdB ops E g=some (bb,want):=by rfl) (hb:bb=want:=by exact am) (hd:Sy.inB N d=true)
  (h:Sw P N av bor w0 ops rest ⟨putE E d undef,loc',X⟩ kk):Sw P N av bor w0 ops (⟨d,.store t x y,ty,pos,af,g⟩::rest) ⟨E,loc,X⟩ kk:=Sw.mk fun a w ok=>by
 have ho:ORow w e size (.slice A m c) m xs:=(ok.gam.here _ hA.mem).now
 rcases ho.2 with ⟨_,h0⟩|⟨b,cap,cur,fz,hs,hb',hnc,hcm,hcs,htake,hfz⟩
 · omega
 simp only [Value.slice.injEq] at hs
 obtain ⟨rfl,_,rfl⟩:=hs
 have hm1:i*size+size≤m*size:=by rw [←Nat.succ_mul];exact QA _ hi
 have hm2:m*size≤cur.size:=by rw [hcs];exact QA _ hnc
 have hst:=eT P b (i*size) e fz vs 0 cur w hb' hfz aa (by simpa using h1)
 have hadd:(⟨b,0,none⟩:Addr).add (i*size)=⟨b,i*size,none⟩:=by unfold Addr.add;split<;>simp_all
 simp only [wpList]
 rw [bO ok (o:=⟨d,.store t x y,ty,pos,af,g⟩) hg]
 subst hb
 simp only [Zz,ZN]
 left
 unfold Oper.wp
 have hs:v.cells.size=size:=by rw [←hvl,←hv];simp
 generalize hnew:(cur.toList.take (i*size)++vs++cur.toList.drop (i*size+size)).toArray=new at *
 have hr:(execOp a.eval ⟨d,.store t x y,ty,pos,af,g⟩).run P w=.ok .skip (w.setRow b new):=by
  simp only [ZT,hvl,hnew] at hst
  simp [execOp,ok.eval (st:=⟨E,loc,X⟩) hx,ok.eval (st:=⟨E,loc,X⟩) hy,elP,hadd,Instr.storeAt,Instr.sureAddr,storeVar,run_sizeOf hsz,hs,hv,hst]
 rw [hr]
 have hsn:new.size=cur.size:=by
  rw [←hnew]
  simpa using sH cur.toList vs (i*size) size cur.size hvl aa (by simp)
 have ho':ORow (w.setRow b new) e size (.slice (some ⟨b,0,none⟩) m c) m xs':=by
  refine ⟨by rw [←hxs];exact sH xs vs (i*size) size (m*size) hvl hm1 ho.1,.inr ⟨b,c,new,fz,rfl,Go.setRow_heap w b cur new e fz hb',hnc,hcm,hsn.trans hcs,?_,by rw [hsn];exact hfz⟩⟩
  rw [←hnew,←hxs,←htake]
  exact xE cur.toList vs (i*size) size (m*size) hvl hm1 (by simpa using hm2)
 have ok':Ok N av bor w0 ⟨E,loc',X⟩ a (w.setRow b new):=(ok.via fun M G=>G.swap (hA.app M) rfl rfl rfl (by rw [Go.setRow_size];exact ZX _) (fun j _ hj=>Go.setRow_other w b j new (by rintro rfl;exact hj (by simp [orow,Value.ownBlock]))) (by simp [orow,Value.ownBlock]) (fun j hj=>by
  have hj:j=b:=by simpa [orow,Value.ownBlock] using hj
  subst hj
  exact ⟨by rw [Go.setRow_size];exact (QL.1 hb').1,.inl (by simp [orow,Value.ownBlock])⟩) (ex ho'))
 exact h.run _ _ (cZ d _▸ok'.put hd _)
end
end Go.Proofs.YtaolfiikahlmkaaGreatDoor.Sy
namespace Go.Proofs.YtaolfiikahlmkaaGreatDoor
open Go Go.Proofs Sy
section
variable {P:Program} {N:Nat} {av bor:List Nat} {w0:World} {ty:TypeId}
theorem zA {st:St} {x:Operand} {t t2 e b':TypeId} [hs:TySl P t e 1 b'] [he:TyInt P e .u8] [h2:TyStr P t2] {b n:Nat} {ns:List Int} (hx:ev st.env x=some (.slice (some ⟨b,0,none⟩) n n)) (hm:cel b e (u8s ns)∈st.loc) (hn:ns.length=n) (hn2:n≤maxLen) :
  Sy.Yields P N av bor w0 st (.convert t t2 x) ty (.string (ofInts ns)):=Sy.Yields.mk fun A w ok d pos af g=>by
 have hh:w.heap[b]?=some (.cells (u8s ns).toArray e (0,0)):=(ok.gam.here _ hm).now
 have ho:ORow w e 1 (.slice (some ⟨b,0,none⟩) n n) n (u8s ns):=lB hh (by simp [u8s,hn]) hn2
 have hl:(u8s ns).length=n:=by have:=ho.1;omega
 rcases ho.2 with ⟨h,_⟩|⟨g,cap,cur,fz,hv,hg,hnc,hcm,hcs,htake,hfz⟩
 · cases h
 · cases hv
   have hlc:=run_loadCells_list (P:=P) w ⟨b,0,none⟩ (u8s ns) (fun j u hj=>by
    have hadd:(⟨b,0,none⟩:Addr).add j=⟨b,j,none⟩:=by unfold Addr.add;split<;>simp_all
    rw [hadd,cell_of_row w b j cur e fz hg]
    rw [←htake,QG] at hj
    split at hj
    · simpa using hj
    · cases hj)
   rw [hl] at hlc
   have h3:=run_bytesToString (P:=P) w ⟨b,0,none⟩ n n ns hlc
   have h4:=run_convert_bytes_string (P:=P) w t t2 e (some ⟨b,0,none⟩) n n (cI hs.out).1 he.out h2.out
   rw [h3] at h4
   simp [execOp,ok.eval hx,h4,ofInts]
end
section
variable {P:Program} {N:Nat} {av bor:List Nat} {w0:World} {st:St} {ty:TypeId} {x y z:Operand} {t t2:TypeId}
theorem CU {e size b':Nat} [hI:TySl P t e size b'] {s:SlV} {kk kk':IntKind} {i j:Int} (hx:ev st.env x=some s.v) (hy:ev st.env y=some (.int kk i)) (hz:ev st.env z=some (.int kk' j)) (h0:0≤i) (h1:i≤j) (h2:j≤(s.c:Int)) :
  Sy.Yields P N av bor w0 st (.slice t x (some y) (some z) none) ty (.slice (s.from size i.toNat).p (j.toNat-i.toNat) (s.c-i.toNat)):=Sy.Yields.mk fun A w ok d pos af g=>by
 obtain ⟨p,m,c⟩:=s
 obtain ⟨hu,inf,hi,hs,hb⟩:=cI hI.out
 have hsz:=Sy.run_sizeOf (P:=P) (w:=w) (t:=e) (n:=size) (by simp [hi,hs])
 have hx':ev st.env x=some (.slice p m c):=hx
 have h2':j≤(c:Int):=h2
 have hj:0≤j:=by omega
 obtain ⟨j,rfl⟩:=Int.eq_ofNat_of_zero_le hj
 have h2'':j≤c:=by omega
 simp [execOp,ok.eval hx',ok.eval hy,ok.eval hz,Instr.sliceAt,run_underlying hu,Instr.slice,Instr.sliceBounds,run_sliceBound,h0,h1,h2',h2'',hsz,SlV.from]
end
section
variable {P:Program} {N:Nat} {av bor:List Nat} {w0:World} {st:St} {ty:TypeId} {x:Operand} {t:TypeId}
theorem ei {e m i c:Nat} [h:TyOne P t] {A:Option Addr} {vs:List Value} {u:Value} (hx:ev st.env x=some (elP A i)) (hm:orow e 1 (.slice A m c) m vs∈st.loc) (hn:m=vs.length) (hi:vs[i]?=some u) :
  Sy.Yields P N av bor w0 st (.load t x) ty u:=Sy.Yields.mk fun B w ok d pos af g=>by
 have e1:(vs.map fun v=>[v]).flatten=vs:=by
  clear hm hn hi
  induction vs with
  | nil=>rfl
  | cons v vs ih=>rw [Z1,Qb,ih];rfl
 have ho:=(ok.gam.here _ hm).now
 have hr:RowsD w 1 ⟨A,m,c⟩ (vs.map fun v=>[v]):=ck (e:=e) (by rw [e1];exact ho) (by rw [ZF];exact hn) fun r hr=>by
  obtain ⟨v,_,rfl⟩:=QI.1 hr
  rfl
 obtain ⟨h1,hp,hc⟩:=RowsD.row hr i [u] (by rw [Z7,hi];rfl)
 have hc0:=hc 0 u rfl
 rw [Nat.mul_one,ZT] at hc0
 obtain ⟨a,rfl⟩:=QN.1 hp
 simp [execOp,ok.eval hx,elP,Instr.loadAt,Instr.sureAddr,loadVar,(cv h.out w).1,hc0.2 a rfl]
end
section
variable {P:Program} {N:Nat} {av bor:List Nat} {w0:World} {ops:Array Oper} {rest:List Oper} {kk:St→Prop} {E:Env} {loc:List Res} {X:World→Prop} {x y:Operand} {t t2:TypeId}
variable {n:Nat} {ty:TypeId} {pos:String} {af:Array Edge} {g:Option (Nat×Bool)} {bb want:Bool}
theorem AQ {k:IntKind} {a b:Int} [hI:TyInt P t k] (h:Sw P N av bor w0 ops rest ⟨(n,.bool false)::E,loc,X⟩ kk) (hx:ev E x=some (.int k a):=by rfl) (hy:ev E y=some (.int k b):=by rfl) (hab:¬ a<b) (hg:gdB ops E g=some (bb,want):=by rfl) (hbb:bb=want:=by exact am) (hd:Nat.blt n N=true:=by rfl) :
  Sw P N av bor w0 ops (⟨some n,.binOp .lss t x y t2,ty,pos,af,g⟩::rest) ⟨E,loc,X⟩ kk:=bA (hx:=hx) (hy:=hy) (hg:=hg) (hbb:=hbb) (hd:=hd) (h:=by
   have e:∀ u,u=Value.bool false→Sw P N av bor w0 ops rest ⟨(n,u)::E,loc,X⟩ kk:=fun u hu=>hu▸h
   exact e _ (by simp [hab]))
theorem AP {k:IntKind} {a b:Int} [hI:TyInt P t k] (h:Sw P N av bor w0 ops rest ⟨(n,.bool true)::E,loc,X⟩ kk) (hx:ev E x=some (.int k a):=by rfl) (hy:ev E y=some (.int k b):=by rfl) (hab:a<b:=by (first|decide|omega)) (hg:gdB ops E g=some (bb,want):=by rfl) (hbb:bb=want:=by exact am) (hd:Nat.blt n N=true:=by rfl) :
  Sw P N av bor w0 ops (⟨some n,.binOp .lss t x y t2,ty,pos,af,g⟩::rest) ⟨E,loc,X⟩ kk:=bA (hx:=hx) (hy:=hy) (hg:=hg) (hbb:=hbb) (hd:=hd) (h:=by
   have e:∀ u,u=Value.bool true→Sw P N av bor w0 ops rest ⟨(n,u)::E,loc,X⟩ kk:=fun u hu=>hu▸h
   exact e _ (by simp [hab]))
end
end Go.Proofs.YtaolfiikahlmkaaGreatDoor
namespace Go.Proofs.YtaolfiikahlmkaaGreatDoor.Sy
open Go Go.RowKit
section
variable {P:Program} {N:Nat} {av bor:List Nat} {w0:World}
variable {loc0:List Res} {X0:World→Prop} {ops:Array Oper} {fuel:Nat} {listed:Array Bool} {E:Env} {loc:List Res} {X:World→Prop} {k:St→Prop} {K:Exit→St→Prop}
variable {n:Nat} {o:Op} {ty:TypeId} {pos:String} {af:Array Edge} {g:Option (Nat×Bool)} {v:Value} {bb want:Bool}
end
end Go.Proofs.YtaolfiikahlmkaaGreatDoor.Sy
namespace Go.Proofs
open Go.Shelf
def Tryz.len64_ren:Go.Shelf.Ren:=⟨fun|129=>172|n=>n,fun|53=>218|3=>3|4=>4|46=>156|5=>5|9=>9|n=>n,fun|n=>n⟩
theorem Tryz.len64:Go.Proofs.Lays.n129 Tryz.prog Tryz.len64_ren:={
 mixed:=by kernel_rfl
 f129:=Tryz.func172.trans (congrArg some (by kernel_rfl))
 t3:=Tryz.underlying3
 a3:=Tryz.isAgg3
 z3:=Tryz.sizeOf3
 v3:=Tryz.zeroValue3
 t4:=Tryz.underlying4
 a4:=Tryz.isAgg4
 z4:=Tryz.sizeOf4
 v4:=Tryz.zeroValue4
 t5:=Tryz.underlying5
 a5:=Tryz.isAgg5
 z5:=Tryz.sizeOf5
 v5:=Tryz.zeroValue5
 t9:=Tryz.underlying9
 a9:=Tryz.isAgg9
 z9:=Tryz.sizeOf9
 v9:=Tryz.zeroValue9
 t46:=Tryz.underlying156
 a46:=Tryz.isAgg156
 z46:=Tryz.sizeOf156
 v46:=Tryz.zeroValue156
 t53:=Tryz.underlying218
 a53:=Tryz.isAgg218
 z53:=Tryz.sizeOf218
 v53:=Tryz.zeroValue218 }
def Tryz.mul64_ren:Go.Shelf.Ren:=⟨fun|264=>266|n=>n,fun|53=>218|46=>156|n=>n,fun|n=>n⟩
theorem Tryz.mul64:Go.Proofs.Lays.n264 Tryz.prog Tryz.mul64_ren:={
 mixed:=by kernel_rfl
 f264:=Tryz.func266.trans (congrArg some (by kernel_rfl))
 t46:=Tryz.underlying156
 a46:=Tryz.isAgg156
 z46:=Tryz.sizeOf156
 v46:=Tryz.zeroValue156
 t53:=Tryz.underlying218
 a53:=Tryz.isAgg218
 z53:=Tryz.sizeOf218
 v53:=Tryz.zeroValue218 }
def Tryz.join_ren:Go.Shelf.Ren:=⟨fun|156=>223|165=>263|166=>264|169=>265|240=>289|241=>290|276=>308|277=>309|n=>n,fun|31=>39|9=>9|3=>3|4=>4|0=>0|20=>20|72=>282|76=>286|70=>280|37=>158|75=>285|127=>310|164=>321|5=>5|80=>288|n=>n,fun|n=>n⟩
theorem Tryz.join:Go.Proofs.Lays.n156 Tryz.prog Tryz.join_ren:={
 mixed:=by kernel_rfl
 f156:=Tryz.func223.trans (congrArg some (by kernel_rfl))
 f165:=Tryz.func263.trans (congrArg some (by kernel_rfl))
 f166:=Tryz.func264.trans (congrArg some (by kernel_rfl))
 f169:=Tryz.func265.trans (congrArg some (by kernel_rfl))
 f240:=Tryz.func289.trans (congrArg some (by kernel_rfl))
 f241:=Tryz.func290.trans (congrArg some (by kernel_rfl))
 f276:=Tryz.func308.trans (congrArg some (by kernel_rfl))
 f277:=Tryz.func309.trans (congrArg some (by kernel_rfl))
 t0:=Tryz.underlying0
 a0:=Tryz.isAgg0
 z0:=Tryz.sizeOf0
 v0:=Tryz.zeroValue0
 t3:=Tryz.underlying3
 a3:=Tryz.isAgg3
 z3:=Tryz.sizeOf3
 v3:=Tryz.zeroValue3
 t4:=Tryz.underlying4
 a4:=Tryz.isAgg4
 z4:=Tryz.sizeOf4
 v4:=Tryz.zeroValue4
 t9:=Tryz.underlying9
 a9:=Tryz.isAgg9
 z9:=Tryz.sizeOf9
 v9:=Tryz.zeroValue9
 t20:=Tryz.underlying20
 a20:=Tryz.isAgg20
 z20:=Tryz.sizeOf20
 v20:=Tryz.zeroValue20
 t31:=Tryz.underlying39
 a31:=Tryz.isAgg39
 z31:=Tryz.sizeOf39
 v31:=Tryz.zeroValue39
 t37:=Tryz.underlying158
 a37:=Tryz.isAgg158
 z37:=Tryz.sizeOf158
 v37:=Tryz.zeroValue158
 t70:=Tryz.underlying280
 a70:=Tryz.isAgg280
 z70:=Tryz.sizeOf280
 v70:=Tryz.zeroValue280
 t72:=Tryz.underlying282
 a72:=Tryz.isAgg282
 z72:=Tryz.sizeOf282
 v72:=Tryz.zeroValue282
 t75:=Tryz.underlying285
 a75:=Tryz.isAgg285
 z75:=Tryz.sizeOf285
 v75:=Tryz.zeroValue285
 t76:=Tryz.underlying286
 a76:=Tryz.isAgg286
 z76:=Tryz.sizeOf286
 v76:=Tryz.zeroValue286
 t127:=Tryz.underlying310
 a127:=Tryz.isAgg310
 z127:=Tryz.sizeOf310
 v127:=Tryz.zeroValue310
 t164:=Tryz.underlying321
 a164:=Tryz.isAgg321
 z164:=Tryz.sizeOf321
 v164:=Tryz.zeroValue321 }
end Go.Proofs
namespace Go.Proofs.YtaolfiikahlmkaaGreatDoor
open Go Go.Proofs Sy Go.Shelf
theorem nG {P:Program} {f:FuncId} {args:Array Value} {X:World→Prop} {v:Value} (h:∀ w,Calls P f args w fun e w'=>e=.returned v∧w'=w):Pu P f args X v:=by
 unfold Pu
 exact Ct.mk fun w av G=>(h w).mono fun e w' ⟨he,hw⟩=>⟨v,[],X,he,⟨rfl,rfl⟩,by subst hw;exact G⟩
theorem ti (x:Nat) (hx:x<18446744073709551616):Pu Tryz.prog 172 #[.int .u64 (x:Int)] (fun _=>True) (.int .i64 (Lib.bitLen x)) :=
 nG fun w=>by
  have h:=Any.bits_Len64 Tryz.len64 (x:Int) w aa aa
  rw [ZZ] at h
  exact h
theorem sT (x y:Nat) (hx:x<18446744073709551616) (hy:y<18446744073709551616):Pu Tryz.prog 266 #[.int .u64 (x:Int),.int .u64 (y:Int)] (fun _=>True) (.tuple #[.int .u64 ((x*y/18446744073709551616:Nat):Int),.int .u64 ((x*y%18446744073709551616:Nat):Int)]) :=
 nG fun w=>Any.bits_Mul64 Tryz.mul64 x y hx hy w
theorem wu (d:Nat) (hd:d=8∨d=16):Pu Tryz.prog 310 #[.int .u64 ((2305843009213693952-d/8:Nat):Int)] (fun _=>True) (.int .i64 3):=by
 refine ak (args:=[_]) _ Tryz.func310 rfl Tryz.ntmps310 rfl fun av bor w0=>?_
 have h:=ti (2305843009213693952-d/8) aa
 have e:Lib.bitLen (2305843009213693952-d/8)=61:=by rcases hd with rfl|rfl<;>kernel_rfl
 rw [e] at h
 repeat' (first|(refine ab (hc:=h) (hX:=fun w h=>h) ?_)|refine gs ?_|(refine gp ?_ ?_<;>intro hx_ this)|fail)
 apply ad;apply ag;rfl;rfl
 rfl
namespace Sy
section
variable {P:Program} {N:Nat} {av bor:List Nat} {w0:World} {st:St} {K:Exit→St→Prop}
theorem kj {ι:Type} {id:Nat} (M:ι→St) {x y:Code} (h1:Cw P N av bor w0 x st (blk id (thn (fun s=>∃ i,∀ a w,Ok N av bor w0 s a w→Ok N av bor w0 (M i) a w) K))) (h2:∀ i,Cw P N av bor w0 y (M i) K) :
  Cw P N av bor w0 x st (blk id (thn (fun s=>Cw P N av bor w0 y s K) K)):=qS (fun e s h=>by
 cases e with
 | normal =>
  obtain ⟨i,hi⟩:=h
  exact gD hi (h2 i)
 | exit id' =>
  by_cases e:id'=id
  · simp only [blk,ZO e] at h ⊢
    obtain ⟨i,hi⟩:=h
    exact gD hi (h2 i)
  · simp only [blk,ZP e] at h ⊢
    exact h
 | _=>exact h) h1
end
end Sy
theorem cr (x:Int) (h:0≤x∧x<18446744073709551616):IntKind.u64.wrap x=x:=by
 rw [IntKind.wrap_u64]
 omega
theorem zP (x:Int):IntKind.u64.wrap x=x%18446744073709551616:=IntKind.wrap_u64 x
def Eqq (a b:Int):Prop:=a=b
def Hid (p:Prop):Prop:=p
theorem md (a b c:Int):IntKind.u64.wrap (IntKind.u64.wrap (IntKind.u64.wrap a+b)-IntKind.u64.wrap c)=(a+b-c)%18446744073709551616:=by
 simp only [zP]
 omega
theorem ou {V M Q z:Nat} (h:V=M*Q+z) (hz:z<M):V/M=Q∧V%M=z:=by
 subst h
 exact ⟨by rw [Nat.mul_add_div aa,Nat.div_eq_of_lt hz,ZT],by rw [Nat.mul_add_mod,ZD hz]⟩
theorem and32 (a:Nat) (ha:a<18446744073709551616):bitsV .and .u64 (a:Int) 4294967295=((a%4294967296:Nat):Int):=by
 show IntKind.u64.wrap ((((BitVec.ofInt 64 (a:Int)) &&& (BitVec.ofInt 64 4294967295)).toNat:Nat):Int)=_
 have e:(BitVec.ofInt 64 4294967295).toNat=4294967295:=by decide
 rw [BitVec.toNat_and,e,Qm,Qp,ZD (show a<2 ^ 64 from ha),show (4294967295:Nat)=2 ^ 32-1 by decide,Nat.and_two_pow_sub_one_eq_mod,cr _ (by omega)]
theorem shl3 (a:Nat):shlV .u64 (a:Int) 3=((a*8%18446744073709551616:Nat):Int):=by
 show IntKind.u64.wrap ((a:Int)*2 ^ (min (3:Int).toNat 64))=_
 rw [show (2:Int) ^ (min (3:Int).toNat 64)=8 by kernel_rfl,zP]
 omega
theorem pg (a:Nat) {c:Int} (p:Nat) (hp:(2:Int) ^ (min c.toNat 64)=(p:Int)):shrV .u64 (a:Int) c=((a/p:Nat):Int):=by
 show (a:Int).fdiv (2 ^ (min c.toNat 64))=_
 rw [hp,←Int.ofNat_fdiv]
theorem or3 (a b:Nat) (ha:a<2305843009213693952) (hb:b<8):bitsV .or .u64 ((a*8:Nat):Int) (b:Int)=((a*8+b:Nat):Int):=by
 show IntKind.u64.wrap ((((BitVec.ofInt 64 ((a*8:Nat):Int)) ||| (BitVec.ofInt 64 (b:Int))).toNat:Nat):Int)=_
 rw [Qm,Qm,BitVec.toNat_or,Qp,Qp,ZD (show a*8<2 ^ 64 by omega),ZD (show b<2 ^ 64 by omega)]
 have e:a*8 ||| b=a*8+b:=by
  have h:=Nat.shiftLeft_add_eq_or_of_lt (i:=3) (b:=b) hb a
  rw [Nat.shiftLeft_eq] at h
  exact h.symm
 rw [e,cr _ (by omega)]
theorem px (a b:Nat) (ha:a<18446744073709551616) (hb:0<b):IntKind.u64.wrap ((a:Int).tdiv (b:Int))=((a/b:Nat):Int):=by
 have h:(a:Int).tdiv (b:Int)=((a/b:Nat):Int):=by rw [Int.natCast_ediv,Qq (by omega)]
 have:=Nat.div_le_self a b
 rw [h]
 generalize a/b=c at *
 rw [cr _ (by omega)]
theorem jN (a b:Nat):(a:Int).tmod (b:Int)=((a%b:Nat):Int):=by rw [Int.natCast_emod,Int.tmod_eq_emod_of_nonneg (by omega)]
theorem fj {u v p r:Nat} (isum:(p+1)*4294967295+r=u) (hu:u<18446744073709551608) (hv:v<4294967296) (h:4294967296≤p+1∨4294967296*r+v<(p+1)*4294967288):u*4294967296+v<(p+1)*18446744073709551608:=by
 rcases h with h|h
 · exact Nat.lt_of_lt_of_le (show u*4294967296+v<4294967296*18446744073709551608 by omega) (QA 18446744073709551608 h)
 · have e:(p+1)*18446744073709551608=(p+1)*4294967295*4294967296+(p+1)*4294967288:=by rw [Nat.mul_assoc,←Nat.mul_add]
   rw [e,←isum,QE,ZH]
   exact Nat.add_lt_add_left (by rw [Nat.mul_comm r];exact h) _
theorem kc {u v p r:Nat} (isum:(p+1)*4294967295+r=u) (hr:4294967296≤r+4294967295) (itop:p+1≤4294967297):p*18446744073709551608≤u*4294967296+v:=by
 have e:p*18446744073709551608=p*4294967295*4294967296+p*4294967288:=by rw [Nat.mul_assoc,←Nat.mul_add]
 have h1:p*4294967288≤4294967296*4294967296:=Nat.mul_le_mul aa (by decide)
 have hu':u=p*4294967295+(r+4294967295):=by
  rw [←isum,Nat.succ_mul,ZH,ZS 4294967295 r]
 rw [hu',QE,e,ZH]
 exact Nat.add_le_add_left (ZY h1 (ZY (QA 4294967296 hr) (Nat.le_add_right _ _))) _
structure DivIP (u v:Nat) where
 q:Nat
 r:Nat
 sum:q*4294967295+r=u
 big:u*4294967296+v<(q+1)*18446744073709551608
 top:q≤4294967297
 lim:r<4294967296
structure DivEP (u v:Nat) where
 q:Nat
 lo:q*18446744073709551608≤u*4294967296+v
 hi:u*4294967296+v<(q+1)*18446744073709551608
set_option maxRecDepth 20000 in
theorem div64P (hi lo:Nat) (hhi:hi<2305843009213693951) (hlo:lo<18446744073709551616) :
  Pu Tryz.prog 291 #[.int .u64 (hi:Int),.int .u64 (lo:Int),.int .u64 2305843009213693951] (fun _=>True)
   (.tuple #[.int .u64 (((hi*18446744073709551616+lo)/2305843009213693951:Nat):Int),.int .u64 (((hi*18446744073709551616+lo)%2305843009213693951:Nat):Int)]):=by
 refine ak (args:=[_,_,_]) _ Tryz.func291 rfl Tryz.ntmps291 rfl fun av bor w0=>?_
 have hz:=wu 8 (by decide)
 repeat' (first|(refine ab (hc:=hz) (hX:=fun w h=>h) ?_)|refine gs ?_|(refine gp ?_ ?_<;>intro hx_ this)|fail)
 · exfalso;omega
 · exfalso;omega
 · have h0:hi=0:=by omega
   subst h0
   have e1:IntKind.u64.wrap ((lo:Int).tdiv 2305843009213693951)=((lo/2305843009213693951:Nat):Int):=px lo 2305843009213693951 hlo (by decide)
   have e2:(lo:Int).tmod 2305843009213693951=((lo%2305843009213693951:Nat):Int):=jN lo 2305843009213693951
   (refine aq ⟨[0,1,2,3,4,5,6,7],[]⟩ [] (fun _=>True) (h:=?_))
   all_goals repeat' (first|refine gd ?_|refine ay (hy:=by first|(apply mr (c:=((lo/2305843009213693951:Nat):Int));rfl;rfl;decide;exact e1)|(apply oX (c:=((lo%2305843009213693951:Nat):Int));rfl;rfl;decide;exact e2)) ?_|refine az ?_ (h':=?_)|exact aA|(refine gq ?_ ?_<;>intro hx_ this)|fail)
   all_goals
    repeat' (first|refine gs ?_|fail)
    apply ad;apply dH;rfl;rfl;rfl
    rw [Nat.zero_mul,ZU]
 · have e3:IntKind.u64.wrap 3=3:=by kernel_rfl
   have e61:IntKind.u64.wrap (64-3)=61:=by kernel_rfl
   have ey:shlV .u64 2305843009213693951 3=18446744073709551608:=by kernel_rfl
   have ey1:shrV .u64 18446744073709551608 32=4294967295:=by kernel_rfl
   have ey0:bitsV .and .u64 18446744073709551608 4294967295=4294967288:=by kernel_rfl
   have eh:shlV .u64 (hi:Int) 3=((hi*8:Nat):Int):=by rw [shl3,ZD (by omega)]
   have el:shrV .u64 (lo:Int) 61=((lo/2305843009213693952:Nat):Int):=pg lo _ ae
   have eo:bitsV .or .u64 ((hi*8:Nat):Int) ((lo/2305843009213693952:Nat):Int)=((hi*8+lo/2305843009213693952:Nat):Int):=or3 hi _ aa aa
   have e10:shlV .u64 (lo:Int) 3=((lo*8%18446744073709551616:Nat):Int):=shl3 lo
   have hU:(hi*18446744073709551616+lo)*8=(hi*8+lo/2305843009213693952)*18446744073709551616+lo*8%18446744073709551616:=by omega
   have hu:hi*8+lo/2305843009213693952<18446744073709551608:=by omega
   have hv:lo*8%18446744073709551616<18446744073709551616:=Qc _ (by decide)
   simp only [e3,e61,ey,ey1,ey0,eh,el,eo,e10]
   clear e3 e61 ey ey1 ey0 eh el eo e10
   generalize hi*8+lo/2305843009213693952=u at *
   generalize lo*8%18446744073709551616=v at *
   have e1:shrV .u64 (v:Int) 32=((v/4294967296:Nat):Int):=pg v _ ae
   have e0:bitsV .and .u64 (v:Int) 4294967295=((v%4294967296:Nat):Int):=and32 v hv
   obtain ⟨v1,v0,hv1,hv0,hvv,hv1l,hv0l⟩:∃ v1 v0:Nat,v/4294967296=v1∧v%4294967296=v0∧v=v1*4294967296+v0∧v1<4294967296∧v0<4294967296:=⟨_,_,rfl,rfl,by omega,by omega,by omega⟩
   simp only [e1,e0,hv1,hv0]
   clear e1 e0 hv1 hv0
   subst hvv
   obtain ⟨V,hV⟩:∃ V,hi*18446744073709551616+lo=V:=⟨_,rfl⟩
   rw [hV] at hU ⊢
   have hUh:Hid (V*8=u*18446744073709551616+(v1*4294967296+v0)):=hU
   clear hU hV hv hhi hlo
   have hq1:Eqq (IntKind.u64.wrap ((u:Int).tdiv 4294967295)) ((u/4294967295:Nat):Int):=px u 4294967295 aa (by decide)
   repeat' (first|refine jj (hb:=by decide) (hc:=hq1) ?_|refine eI (hc:=cr _ aa) (h:=?_)|refine cO (hc:=cr _ aa) (h:=?_)|refine gs ?_|(refine gp ?_ ?_<;>intro hx_ this)|fail)
   refine kj (ι:=DivEP u v1) (fun i=>⟨[(2,.int .u64 18446744073709551608),(8,.int .u64 3),(9,.int .u64 4294967295),(10,.int .u64 4294967288),(11,.int .u64 (u:Nat)),(13,.int .u64 (v1:Int)),(14,.int .u64 (v0:Int)),(15,.int .u64 (i.q:Nat))],[],fun _=>True⟩) ?_ fun i=>?_
   · refine ar (ι:=DivIP u v1) (fun i=>⟨[(2,.int .u64 18446744073709551608),(8,.int .u64 3),(9,.int .u64 4294967295),(10,.int .u64 4294967288),(11,.int .u64 (u:Nat)),(13,.int .u64 (v1:Int)),(14,.int .u64 (v0:Int)),(15,.int .u64 (i.q:Nat)),(16,.int .u64 (i.r:Nat))],[],fun _=>True⟩) (fun i=>4294967296-i.r) ⟨u/4294967295,u%4294967295,by omega,by omega,by omega,by omega⟩
      (aj ⟨rfl,rfl,rfl,rfl,rfl,rfl,rfl,rfl,by show some (Value.int .u64 ((u:Int)-((u/4294967295:Nat):Int)*4294967295))=some (Value.int .u64 ((u%4294967295:Nat):Int));congr 2;omega,trivial⟩ (Zu _) fun _ h=>h) fun i=>?_
     obtain ⟨q,r,isum,ibig,itop,ilim⟩:=i
     simp only
     repeat' (first|refine eI (hc:=cr _ aa) (h:=?_)|refine cO (hc:=cr _ aa) (h:=?_)|refine co (hc:=cr _ aa) (h:=?_)|refine gs ?_|(refine gp ?_ ?_<;>intro hx_ this)|fail)
     · cases q with
       | zero=>exfalso;omega
       | succ p =>
        have f2:u*4294967296+v1<(p+1)*18446744073709551608:=fj isum hu hv1l (Or.inl aa)
        have f3:((p+1:Nat):Int)-1=(p:Int):=by omega
        have f1:p*18446744073709551608≤u*4294967296+v1:=kc isum aa itop
        exact ⟨⟨p,f1,f2⟩,aj ⟨rfl,rfl,rfl,rfl,rfl,rfl,rfl,by show some (Value.int .u64 (((p+1:Nat):Int)-1))=some (Value.int .u64 (p:Int));rw [f3],trivial⟩ (Zu _) fun _ h=>h⟩
     · cases q with
       | zero=>exfalso;omega
       | succ p =>
        have f2:u*4294967296+v1<(p+1)*18446744073709551608:=fj isum hu hv1l (Or.inl aa)
        have f3:((p+1:Nat):Int)-1=(p:Int):=by omega
        have g1:p*4294967295+(r+4294967295)=u:=by rw [←isum,Nat.succ_mul,ZH,ZS 4294967295 r]
        have g3:p≤4294967297:=by omega
        have g4:r+4294967295<4294967296:=by omega
        have g5:4294967296-(r+4294967295)<4294967296-r:=by omega
        exact ⟨⟨p,r+4294967295,g1,f2,g3,g4⟩,g5,aj ⟨rfl,rfl,rfl,rfl,rfl,rfl,rfl,by show some (Value.int .u64 (((p+1:Nat):Int)-1))=some (Value.int .u64 (p:Int));rw [f3],rfl,trivial⟩ (Zu _) fun _ h=>h⟩
     · cases q with
       | zero=>exfalso;omega
       | succ p =>
        have f2:u*4294967296+v1<(p+1)*18446744073709551608:=fj isum hu hv1l (Or.inr aa)
        have f3:((p+1:Nat):Int)-1=(p:Int):=by omega
        have f1:p*18446744073709551608≤u*4294967296+v1:=kc isum aa itop
        exact ⟨⟨p,f1,f2⟩,aj ⟨rfl,rfl,rfl,rfl,rfl,rfl,rfl,by show some (Value.int .u64 (((p+1:Nat):Int)-1))=some (Value.int .u64 (p:Int));rw [f3],trivial⟩ (Zu _) fun _ h=>h⟩
     · cases q with
       | zero=>exfalso;omega
       | succ p =>
        have f2:u*4294967296+v1<(p+1)*18446744073709551608:=fj isum hu hv1l (Or.inr aa)
        have f3:((p+1:Nat):Int)-1=(p:Int):=by omega
        have g1:p*4294967295+(r+4294967295)=u:=by rw [←isum,Nat.succ_mul,ZH,ZS 4294967295 r]
        have g3:p≤4294967297:=by omega
        have g4:r+4294967295<4294967296:=by omega
        have g5:4294967296-(r+4294967295)<4294967296-r:=by omega
        exact ⟨⟨p,r+4294967295,g1,f2,g3,g4⟩,g5,aj ⟨rfl,rfl,rfl,rfl,rfl,rfl,rfl,by show some (Value.int .u64 (((p+1:Nat):Int)-1))=some (Value.int .u64 (p:Int));rw [f3],rfl,trivial⟩ (Zu _) fun _ h=>h⟩
     · exact ⟨⟨q,by omega,by omega⟩,aj ao (Zu _) fun _ h=>h⟩
   · obtain ⟨q1,q1lo,q1hi⟩:=i
     simp only
     obtain ⟨x,hx,hxY⟩:∃ x:Nat,u*4294967296+v1=q1*18446744073709551608+x∧x<18446744073709551608:=⟨u*4294967296+v1-q1*18446744073709551608,by omega,by omega⟩
     have h17:Eqq (IntKind.u64.wrap (IntKind.u64.wrap (IntKind.u64.wrap ((u:Int)*4294967296)+(v1:Int))-IntKind.u64.wrap ((q1:Int)*18446744073709551608))) (x:Int):=by
      unfold Eqq
      rw [md,show (u:Int)*4294967296+(v1:Int)-(q1:Int)*18446744073709551608=(x:Int) by omega]
      omega
     have hq0:Eqq (IntKind.u64.wrap ((x:Int).tdiv 4294967295)) ((x/4294967295:Nat):Int):=px x 4294967295 aa (by decide)
     have hq1l:q1<4294967296:=by omega
     repeat' (first|refine cO (hc:=h17) (h:=?_)|refine eI (hc:=rfl) (h:=?_)|refine co (hc:=rfl) (h:=?_)|refine gs ?_|(fail)|fail)
     clear h17
     repeat' (first|refine jj (hb:=by decide) (hc:=hq0) ?_|refine eI (hc:=cr _ aa) (h:=?_)|refine cO (hc:=cr _ aa) (h:=?_)|refine gs ?_|(refine gp ?_ ?_<;>intro hx_ this)|fail)
     have hxh:Hid (u*4294967296+v1=q1*18446744073709551608+x):=hx
     clear hx q1lo q1hi hu
     refine kj (ι:=DivEP x v0) (fun i=>⟨[(2,.int .u64 18446744073709551608),(8,.int .u64 3),(14,.int .u64 (v0:Int)),(15,.int .u64 (q1:Nat)),(17,.int .u64 (x:Nat)),(18,.int .u64 (i.q:Nat))],[],fun _=>True⟩) ?_ fun i=>?_
     · refine ar (ι:=DivIP x v0) (fun i=>⟨[(2,.int .u64 18446744073709551608),(8,.int .u64 3),(9,.int .u64 4294967295),(10,.int .u64 4294967288),(14,.int .u64 (v0:Int)),(15,.int .u64 (q1:Nat)),(17,.int .u64 (x:Nat)),(18,.int .u64 (i.q:Nat)),(16,.int .u64 (i.r:Nat))],[],fun _=>True⟩) (fun i=>4294967296-i.r) ⟨x/4294967295,x%4294967295,by omega,by omega,by omega,by omega⟩
        (aj ⟨rfl,rfl,rfl,rfl,rfl,rfl,rfl,rfl,by show some (Value.int .u64 ((x:Int)-((x/4294967295:Nat):Int)*4294967295))=some (Value.int .u64 ((x%4294967295:Nat):Int));congr 2;omega,trivial⟩ (Zu _) fun _ h=>h) fun i=>?_
       obtain ⟨q,r,isum,ibig,itop,ilim⟩:=i
       simp only
       repeat' (first|refine eI (hc:=cr _ aa) (h:=?_)|refine cO (hc:=cr _ aa) (h:=?_)|refine co (hc:=cr _ aa) (h:=?_)|refine gs ?_|(refine gp ?_ ?_<;>intro hx_ this)|fail)
       · cases q with
         | zero=>exfalso;omega
         | succ p =>
          have f2:x*4294967296+v0<(p+1)*18446744073709551608:=fj isum hxY hv0l (Or.inl aa)
          have f3:((p+1:Nat):Int)-1=(p:Int):=by omega
          have f1:p*18446744073709551608≤x*4294967296+v0:=kc isum aa itop
          exact ⟨⟨p,f1,f2⟩,aj ⟨rfl,rfl,rfl,rfl,rfl,by show some (Value.int .u64 (((p+1:Nat):Int)-1))=some (Value.int .u64 (p:Int));rw [f3],trivial⟩ (Zu _) fun _ h=>h⟩
       · cases q with
         | zero=>exfalso;omega
         | succ p =>
          have f2:x*4294967296+v0<(p+1)*18446744073709551608:=fj isum hxY hv0l (Or.inl aa)
          have f3:((p+1:Nat):Int)-1=(p:Int):=by omega
          have g1:p*4294967295+(r+4294967295)=x:=by rw [←isum,Nat.succ_mul,ZH,ZS 4294967295 r]
          have g3:p≤4294967297:=by omega
          have g4:r+4294967295<4294967296:=by omega
          have g5:4294967296-(r+4294967295)<4294967296-r:=by omega
          exact ⟨⟨p,r+4294967295,g1,f2,g3,g4⟩,g5,aj ⟨rfl,rfl,rfl,rfl,rfl,rfl,rfl,by show some (Value.int .u64 (((p+1:Nat):Int)-1))=some (Value.int .u64 (p:Int));rw [f3],rfl,trivial⟩ (Zu _) fun _ h=>h⟩
       · cases q with
         | zero=>exfalso;omega
         | succ p =>
          have f2:x*4294967296+v0<(p+1)*18446744073709551608:=fj isum hxY hv0l (Or.inr aa)
          have f3:((p+1:Nat):Int)-1=(p:Int):=by omega
          have f1:p*18446744073709551608≤x*4294967296+v0:=kc isum aa itop
          exact ⟨⟨p,f1,f2⟩,aj ⟨rfl,rfl,rfl,rfl,rfl,by show some (Value.int .u64 (((p+1:Nat):Int)-1))=some (Value.int .u64 (p:Int));rw [f3],trivial⟩ (Zu _) fun _ h=>h⟩
       · cases q with
         | zero=>exfalso;omega
         | succ p =>
          have f2:x*4294967296+v0<(p+1)*18446744073709551608:=fj isum hxY hv0l (Or.inr aa)
          have f3:((p+1:Nat):Int)-1=(p:Int):=by omega
          have g1:p*4294967295+(r+4294967295)=x:=by rw [←isum,Nat.succ_mul,ZH,ZS 4294967295 r]
          have g3:p≤4294967297:=by omega
          have g4:r+4294967295<4294967296:=by omega
          have g5:4294967296-(r+4294967295)<4294967296-r:=by omega
          exact ⟨⟨p,r+4294967295,g1,f2,g3,g4⟩,g5,aj ⟨rfl,rfl,rfl,rfl,rfl,rfl,rfl,by show some (Value.int .u64 (((p+1:Nat):Int)-1))=some (Value.int .u64 (p:Int));rw [f3],rfl,trivial⟩ (Zu _) fun _ h=>h⟩
       · exact ⟨⟨q,by omega,by omega⟩,aj ao (Zu _) fun _ h=>h⟩
     · obtain ⟨q0,q0lo,q0hi⟩:=i
       simp only
       obtain ⟨y,hy,hyY⟩:∃ y:Nat,x*4294967296+v0=q0*18446744073709551608+y∧y<18446744073709551608:=⟨x*4294967296+v0-q0*18446744073709551608,by omega,by omega⟩
       have h132:Eqq (IntKind.u64.wrap (IntKind.u64.wrap (IntKind.u64.wrap ((x:Int)*4294967296)+(v0:Int))-IntKind.u64.wrap ((q0:Int)*18446744073709551608))) (y:Int):=by
        unfold Eqq
        rw [md,show (x:Int)*4294967296+(v0:Int)-(q0:Int)*18446744073709551608=(y:Int) by omega]
        omega
       have hq1:Eqq (IntKind.u64.wrap (IntKind.u64.wrap ((q1:Int)*4294967296)+(q0:Int))) ((q1:Int)*4294967296+(q0:Int)):=by unfold Eqq;rw [cr ((q1:Int)*4294967296) aa,cr _ (by omega)]
       repeat' (first|refine cO (hc:=h132) (h:=?_)|refine gs ?_|(fail)|fail)
       have h3:Eqq (shrV .u64 (y:Int) 3) ((y/8:Nat):Int):=pg y 8 ae
       have hx:u*4294967296+v1=q1*18446744073709551608+x:=hxh
       have hU:V*8=u*18446744073709551616+(v1*4294967296+v0):=hUh
       obtain ⟨hA,hB⟩:=ou (V:=V) (M:=2305843009213693951) (Q:=q1*4294967296+q0) (z:=y/8) aa aa
       apply ad;apply dH;rfl;rfl;rfl
       unfold Eqq at h3 hq1
       rw [hA,hB,h3,hq1,Int.natCast_add,Int.natCast_mul]
       rfl
theorem fm {u v p r:Nat} (isum:(p+1)*4294967295+r=u) (hu:u<18446744073709551600) (hv:v<4294967296) (h:4294967296≤p+1∨4294967296*r+v<(p+1)*4294967280):u*4294967296+v<(p+1)*18446744073709551600:=by
 rcases h with h|h
 · exact Nat.lt_of_lt_of_le (show u*4294967296+v<4294967296*18446744073709551600 by omega) (QA 18446744073709551600 h)
 · have e:(p+1)*18446744073709551600=(p+1)*4294967295*4294967296+(p+1)*4294967280:=by rw [Nat.mul_assoc,←Nat.mul_add]
   rw [e,←isum,QE,ZH]
   exact Nat.add_lt_add_left (by rw [Nat.mul_comm r];exact h) _
theorem ke {u v p r:Nat} (isum:(p+1)*4294967295+r=u) (hr:4294967296≤r+4294967295) (itop:p+1≤4294967297):p*18446744073709551600≤u*4294967296+v:=by
 have e:p*18446744073709551600=p*4294967295*4294967296+p*4294967280:=by rw [Nat.mul_assoc,←Nat.mul_add]
 have h1:p*4294967280≤4294967296*4294967296:=Nat.mul_le_mul aa (by decide)
 have hu':u=p*4294967295+(r+4294967295):=by
  rw [←isum,Nat.succ_mul,ZH,ZS 4294967295 r]
 rw [hu',QE,e,ZH]
 exact Nat.add_le_add_left (ZY h1 (ZY (QA 4294967296 hr) (Nat.le_add_right _ _))) _
structure DivIN (u v:Nat) where
 q:Nat
 r:Nat
 sum:q*4294967295+r=u
 big:u*4294967296+v<(q+1)*18446744073709551600
 top:q≤4294967297
 lim:r<4294967296
structure DivEN (u v:Nat) where
 q:Nat
 lo:q*18446744073709551600≤u*4294967296+v
 hi:u*4294967296+v<(q+1)*18446744073709551600
set_option maxRecDepth 20000 in
theorem div64N (hi lo:Nat) (hhi:hi<2305843009213693950) (hlo:lo<18446744073709551616) :
  Pu Tryz.prog 291 #[.int .u64 (hi:Int),.int .u64 (lo:Int),.int .u64 2305843009213693950] (fun _=>True)
   (.tuple #[.int .u64 (((hi*18446744073709551616+lo)/2305843009213693950:Nat):Int),.int .u64 (((hi*18446744073709551616+lo)%2305843009213693950:Nat):Int)]):=by
 refine ak (args:=[_,_,_]) _ Tryz.func291 rfl Tryz.ntmps291 rfl fun av bor w0=>?_
 have hz:=wu 16 (by decide)
 repeat' (first|(refine ab (hc:=hz) (hX:=fun w h=>h) ?_)|refine gs ?_|(refine gp ?_ ?_<;>intro hx_ this)|fail)
 · exfalso;omega
 · exfalso;omega
 · have h0:hi=0:=by omega
   subst h0
   have e1:IntKind.u64.wrap ((lo:Int).tdiv 2305843009213693950)=((lo/2305843009213693950:Nat):Int):=px lo 2305843009213693950 hlo (by decide)
   have e2:(lo:Int).tmod 2305843009213693950=((lo%2305843009213693950:Nat):Int):=jN lo 2305843009213693950
   (refine aq ⟨[0,1,2,3,4,5,6,7],[]⟩ [] (fun _=>True) (h:=?_))
   all_goals repeat' (first|refine gd ?_|refine ay (hy:=by first|(apply mr (c:=((lo/2305843009213693950:Nat):Int));rfl;rfl;decide;exact e1)|(apply oX (c:=((lo%2305843009213693950:Nat):Int));rfl;rfl;decide;exact e2)) ?_|refine az ?_ (h':=?_)|exact aA|(refine gq ?_ ?_<;>intro hx_ this)|fail)
   all_goals
    repeat' (first|refine gs ?_|fail)
    apply ad;apply dH;rfl;rfl;rfl
    rw [Nat.zero_mul,ZU]
 · have e3:IntKind.u64.wrap 3=3:=by kernel_rfl
   have e61:IntKind.u64.wrap (64-3)=61:=by kernel_rfl
   have ey:shlV .u64 2305843009213693950 3=18446744073709551600:=by kernel_rfl
   have ey1:shrV .u64 18446744073709551600 32=4294967295:=by kernel_rfl
   have ey0:bitsV .and .u64 18446744073709551600 4294967295=4294967280:=by kernel_rfl
   have eh:shlV .u64 (hi:Int) 3=((hi*8:Nat):Int):=by rw [shl3,ZD (by omega)]
   have el:shrV .u64 (lo:Int) 61=((lo/2305843009213693952:Nat):Int):=pg lo _ ae
   have eo:bitsV .or .u64 ((hi*8:Nat):Int) ((lo/2305843009213693952:Nat):Int)=((hi*8+lo/2305843009213693952:Nat):Int):=or3 hi _ aa aa
   have e10:shlV .u64 (lo:Int) 3=((lo*8%18446744073709551616:Nat):Int):=shl3 lo
   have hU:(hi*18446744073709551616+lo)*8=(hi*8+lo/2305843009213693952)*18446744073709551616+lo*8%18446744073709551616:=by omega
   have hu:hi*8+lo/2305843009213693952<18446744073709551600:=by omega
   have hv:lo*8%18446744073709551616<18446744073709551616:=Qc _ (by decide)
   simp only [e3,e61,ey,ey1,ey0,eh,el,eo,e10]
   clear e3 e61 ey ey1 ey0 eh el eo e10
   generalize hi*8+lo/2305843009213693952=u at *
   generalize lo*8%18446744073709551616=v at *
   have e1:shrV .u64 (v:Int) 32=((v/4294967296:Nat):Int):=pg v _ ae
   have e0:bitsV .and .u64 (v:Int) 4294967295=((v%4294967296:Nat):Int):=and32 v hv
   obtain ⟨v1,v0,hv1,hv0,hvv,hv1l,hv0l⟩:∃ v1 v0:Nat,v/4294967296=v1∧v%4294967296=v0∧v=v1*4294967296+v0∧v1<4294967296∧v0<4294967296:=⟨_,_,rfl,rfl,by omega,by omega,by omega⟩
   simp only [e1,e0,hv1,hv0]
   clear e1 e0 hv1 hv0
   subst hvv
   obtain ⟨V,hV⟩:∃ V,hi*18446744073709551616+lo=V:=⟨_,rfl⟩
   rw [hV] at hU ⊢
   have hUh:Hid (V*8=u*18446744073709551616+(v1*4294967296+v0)):=hU
   clear hU hV hv hhi hlo
   have hq1:Eqq (IntKind.u64.wrap ((u:Int).tdiv 4294967295)) ((u/4294967295:Nat):Int):=px u 4294967295 aa (by decide)
   repeat' (first|refine jj (hb:=by decide) (hc:=hq1) ?_|refine eI (hc:=cr _ aa) (h:=?_)|refine cO (hc:=cr _ aa) (h:=?_)|refine gs ?_|(refine gp ?_ ?_<;>intro hx_ this)|fail)
   refine kj (ι:=DivEN u v1) (fun i=>⟨[(2,.int .u64 18446744073709551600),(8,.int .u64 3),(9,.int .u64 4294967295),(10,.int .u64 4294967280),(11,.int .u64 (u:Nat)),(13,.int .u64 (v1:Int)),(14,.int .u64 (v0:Int)),(15,.int .u64 (i.q:Nat))],[],fun _=>True⟩) ?_ fun i=>?_
   · refine ar (ι:=DivIN u v1) (fun i=>⟨[(2,.int .u64 18446744073709551600),(8,.int .u64 3),(9,.int .u64 4294967295),(10,.int .u64 4294967280),(11,.int .u64 (u:Nat)),(13,.int .u64 (v1:Int)),(14,.int .u64 (v0:Int)),(15,.int .u64 (i.q:Nat)),(16,.int .u64 (i.r:Nat))],[],fun _=>True⟩) (fun i=>4294967296-i.r) ⟨u/4294967295,u%4294967295,by omega,by omega,by omega,by omega⟩
      (aj ⟨rfl,rfl,rfl,rfl,rfl,rfl,rfl,rfl,by show some (Value.int .u64 ((u:Int)-((u/4294967295:Nat):Int)*4294967295))=some (Value.int .u64 ((u%4294967295:Nat):Int));congr 2;omega,trivial⟩ (Zu _) fun _ h=>h) fun i=>?_
     obtain ⟨q,r,isum,ibig,itop,ilim⟩:=i
     simp only
     repeat' (first|refine eI (hc:=cr _ aa) (h:=?_)|refine cO (hc:=cr _ aa) (h:=?_)|refine co (hc:=cr _ aa) (h:=?_)|refine gs ?_|(refine gp ?_ ?_<;>intro hx_ this)|fail)
     · cases q with
       | zero=>exfalso;omega
       | succ p =>
        have f2:u*4294967296+v1<(p+1)*18446744073709551600:=fm isum hu hv1l (Or.inl aa)
        have f3:((p+1:Nat):Int)-1=(p:Int):=by omega
        have f1:p*18446744073709551600≤u*4294967296+v1:=ke isum aa itop
        exact ⟨⟨p,f1,f2⟩,aj ⟨rfl,rfl,rfl,rfl,rfl,rfl,rfl,by show some (Value.int .u64 (((p+1:Nat):Int)-1))=some (Value.int .u64 (p:Int));rw [f3],trivial⟩ (Zu _) fun _ h=>h⟩
     · cases q with
       | zero=>exfalso;omega
       | succ p =>
        have f2:u*4294967296+v1<(p+1)*18446744073709551600:=fm isum hu hv1l (Or.inl aa)
        have f3:((p+1:Nat):Int)-1=(p:Int):=by omega
        have g1:p*4294967295+(r+4294967295)=u:=by rw [←isum,Nat.succ_mul,ZH,ZS 4294967295 r]
        have g3:p≤4294967297:=by omega
        have g4:r+4294967295<4294967296:=by omega
        have g5:4294967296-(r+4294967295)<4294967296-r:=by omega
        exact ⟨⟨p,r+4294967295,g1,f2,g3,g4⟩,g5,aj ⟨rfl,rfl,rfl,rfl,rfl,rfl,rfl,by show some (Value.int .u64 (((p+1:Nat):Int)-1))=some (Value.int .u64 (p:Int));rw [f3],rfl,trivial⟩ (Zu _) fun _ h=>h⟩
     · cases q with
       | zero=>exfalso;omega
       | succ p =>
        have f2:u*4294967296+v1<(p+1)*18446744073709551600:=fm isum hu hv1l (Or.inr aa)
        have f3:((p+1:Nat):Int)-1=(p:Int):=by omega
        have f1:p*18446744073709551600≤u*4294967296+v1:=ke isum aa itop
        exact ⟨⟨p,f1,f2⟩,aj ⟨rfl,rfl,rfl,rfl,rfl,rfl,rfl,by show some (Value.int .u64 (((p+1:Nat):Int)-1))=some (Value.int .u64 (p:Int));rw [f3],trivial⟩ (Zu _) fun _ h=>h⟩
     · cases q with
       | zero=>exfalso;omega
       | succ p =>
        have f2:u*4294967296+v1<(p+1)*18446744073709551600:=fm isum hu hv1l (Or.inr aa)
        have f3:((p+1:Nat):Int)-1=(p:Int):=by omega
        have g1:p*4294967295+(r+4294967295)=u:=by rw [←isum,Nat.succ_mul,ZH,ZS 4294967295 r]
        have g3:p≤4294967297:=by omega
        have g4:r+4294967295<4294967296:=by omega
        have g5:4294967296-(r+4294967295)<4294967296-r:=by omega
        exact ⟨⟨p,r+4294967295,g1,f2,g3,g4⟩,g5,aj ⟨rfl,rfl,rfl,rfl,rfl,rfl,rfl,by show some (Value.int .u64 (((p+1:Nat):Int)-1))=some (Value.int .u64 (p:Int));rw [f3],rfl,trivial⟩ (Zu _) fun _ h=>h⟩
     · exact ⟨⟨q,by omega,by omega⟩,aj ao (Zu _) fun _ h=>h⟩
   · obtain ⟨q1,q1lo,q1hi⟩:=i
     simp only
     obtain ⟨x,hx,hxY⟩:∃ x:Nat,u*4294967296+v1=q1*18446744073709551600+x∧x<18446744073709551600:=⟨u*4294967296+v1-q1*18446744073709551600,by omega,by omega⟩
     have h17:Eqq (IntKind.u64.wrap (IntKind.u64.wrap (IntKind.u64.wrap ((u:Int)*4294967296)+(v1:Int))-IntKind.u64.wrap ((q1:Int)*18446744073709551600))) (x:Int):=by
      unfold Eqq
      rw [md,show (u:Int)*4294967296+(v1:Int)-(q1:Int)*18446744073709551600=(x:Int) by omega]
      omega
     have hq0:Eqq (IntKind.u64.wrap ((x:Int).tdiv 4294967295)) ((x/4294967295:Nat):Int):=px x 4294967295 aa (by decide)
     have hq1l:q1<4294967296:=by omega
     repeat' (first|refine cO (hc:=h17) (h:=?_)|refine eI (hc:=rfl) (h:=?_)|refine co (hc:=rfl) (h:=?_)|refine gs ?_|(fail)|fail)
     clear h17
     repeat' (first|refine jj (hb:=by decide) (hc:=hq0) ?_|refine eI (hc:=cr _ aa) (h:=?_)|refine cO (hc:=cr _ aa) (h:=?_)|refine gs ?_|(refine gp ?_ ?_<;>intro hx_ this)|fail)
     have hxh:Hid (u*4294967296+v1=q1*18446744073709551600+x):=hx
     clear hx q1lo q1hi hu
     refine kj (ι:=DivEN x v0) (fun i=>⟨[(2,.int .u64 18446744073709551600),(8,.int .u64 3),(14,.int .u64 (v0:Int)),(15,.int .u64 (q1:Nat)),(17,.int .u64 (x:Nat)),(18,.int .u64 (i.q:Nat))],[],fun _=>True⟩) ?_ fun i=>?_
     · refine ar (ι:=DivIN x v0) (fun i=>⟨[(2,.int .u64 18446744073709551600),(8,.int .u64 3),(9,.int .u64 4294967295),(10,.int .u64 4294967280),(14,.int .u64 (v0:Int)),(15,.int .u64 (q1:Nat)),(17,.int .u64 (x:Nat)),(18,.int .u64 (i.q:Nat)),(16,.int .u64 (i.r:Nat))],[],fun _=>True⟩) (fun i=>4294967296-i.r) ⟨x/4294967295,x%4294967295,by omega,by omega,by omega,by omega⟩
        (aj ⟨rfl,rfl,rfl,rfl,rfl,rfl,rfl,rfl,by show some (Value.int .u64 ((x:Int)-((x/4294967295:Nat):Int)*4294967295))=some (Value.int .u64 ((x%4294967295:Nat):Int));congr 2;omega,trivial⟩ (Zu _) fun _ h=>h) fun i=>?_
       obtain ⟨q,r,isum,ibig,itop,ilim⟩:=i
       simp only
       repeat' (first|refine eI (hc:=cr _ aa) (h:=?_)|refine cO (hc:=cr _ aa) (h:=?_)|refine co (hc:=cr _ aa) (h:=?_)|refine gs ?_|(refine gp ?_ ?_<;>intro hx_ this)|fail)
       · cases q with
         | zero=>exfalso;omega
         | succ p =>
          have f2:x*4294967296+v0<(p+1)*18446744073709551600:=fm isum hxY hv0l (Or.inl aa)
          have f3:((p+1:Nat):Int)-1=(p:Int):=by omega
          have f1:p*18446744073709551600≤x*4294967296+v0:=ke isum aa itop
          exact ⟨⟨p,f1,f2⟩,aj ⟨rfl,rfl,rfl,rfl,rfl,by show some (Value.int .u64 (((p+1:Nat):Int)-1))=some (Value.int .u64 (p:Int));rw [f3],trivial⟩ (Zu _) fun _ h=>h⟩
       · cases q with
         | zero=>exfalso;omega
         | succ p =>
          have f2:x*4294967296+v0<(p+1)*18446744073709551600:=fm isum hxY hv0l (Or.inl aa)
          have f3:((p+1:Nat):Int)-1=(p:Int):=by omega
          have g1:p*4294967295+(r+4294967295)=x:=by rw [←isum,Nat.succ_mul,ZH,ZS 4294967295 r]
          have g3:p≤4294967297:=by omega
          have g4:r+4294967295<4294967296:=by omega
          have g5:4294967296-(r+4294967295)<4294967296-r:=by omega
          exact ⟨⟨p,r+4294967295,g1,f2,g3,g4⟩,g5,aj ⟨rfl,rfl,rfl,rfl,rfl,rfl,rfl,by show some (Value.int .u64 (((p+1:Nat):Int)-1))=some (Value.int .u64 (p:Int));rw [f3],rfl,trivial⟩ (Zu _) fun _ h=>h⟩
       · cases q with
         | zero=>exfalso;omega
         | succ p =>
          have f2:x*4294967296+v0<(p+1)*18446744073709551600:=fm isum hxY hv0l (Or.inr aa)
          have f3:((p+1:Nat):Int)-1=(p:Int):=by omega
          have f1:p*18446744073709551600≤x*4294967296+v0:=ke isum aa itop
          exact ⟨⟨p,f1,f2⟩,aj ⟨rfl,rfl,rfl,rfl,rfl,by show some (Value.int .u64 (((p+1:Nat):Int)-1))=some (Value.int .u64 (p:Int));rw [f3],trivial⟩ (Zu _) fun _ h=>h⟩
       · cases q with
         | zero=>exfalso;omega
         | succ p =>
          have f2:x*4294967296+v0<(p+1)*18446744073709551600:=fm isum hxY hv0l (Or.inr aa)
          have f3:((p+1:Nat):Int)-1=(p:Int):=by omega
          have g1:p*4294967295+(r+4294967295)=x:=by rw [←isum,Nat.succ_mul,ZH,ZS 4294967295 r]
          have g3:p≤4294967297:=by omega
          have g4:r+4294967295<4294967296:=by omega
          have g5:4294967296-(r+4294967295)<4294967296-r:=by omega
          exact ⟨⟨p,r+4294967295,g1,f2,g3,g4⟩,g5,aj ⟨rfl,rfl,rfl,rfl,rfl,rfl,rfl,by show some (Value.int .u64 (((p+1:Nat):Int)-1))=some (Value.int .u64 (p:Int));rw [f3],rfl,trivial⟩ (Zu _) fun _ h=>h⟩
       · exact ⟨⟨q,by omega,by omega⟩,aj ao (Zu _) fun _ h=>h⟩
     · obtain ⟨q0,q0lo,q0hi⟩:=i
       simp only
       obtain ⟨y,hy,hyY⟩:∃ y:Nat,x*4294967296+v0=q0*18446744073709551600+y∧y<18446744073709551600:=⟨x*4294967296+v0-q0*18446744073709551600,by omega,by omega⟩
       have h132:Eqq (IntKind.u64.wrap (IntKind.u64.wrap (IntKind.u64.wrap ((x:Int)*4294967296)+(v0:Int))-IntKind.u64.wrap ((q0:Int)*18446744073709551600))) (y:Int):=by
        unfold Eqq
        rw [md,show (x:Int)*4294967296+(v0:Int)-(q0:Int)*18446744073709551600=(y:Int) by omega]
        omega
       have hq1:Eqq (IntKind.u64.wrap (IntKind.u64.wrap ((q1:Int)*4294967296)+(q0:Int))) ((q1:Int)*4294967296+(q0:Int)):=by unfold Eqq;rw [cr ((q1:Int)*4294967296) aa,cr _ (by omega)]
       repeat' (first|refine cO (hc:=h132) (h:=?_)|refine gs ?_|(fail)|fail)
       have h3:Eqq (shrV .u64 (y:Int) 3) ((y/8:Nat):Int):=pg y 8 ae
       have hx:u*4294967296+v1=q1*18446744073709551600+x:=hxh
       have hU:V*8=u*18446744073709551616+(v1*4294967296+v0):=hUh
       obtain ⟨hA,hB⟩:=ou (V:=V) (M:=2305843009213693950) (Q:=q1*4294967296+q0) (z:=y/8) aa aa
       apply ad;apply dH;rfl;rfl;rfl
       unfold Eqq at h3 hq1
       rw [hA,hB,h3,hq1,Int.natCast_add,Int.natCast_mul]
       rfl
end Go.Proofs.YtaolfiikahlmkaaGreatDoor
namespace Go.Proofs.YtaolfiikahlmkaaGreatDoor
open Go Go.Proofs Sy Go.Shelf
theorem BQ (hi lo M:Nat):(hi%M*18446744073709551616+lo)%M=(hi*18446744073709551616+lo)%M:=by
 rw [Nat.add_mod,Nat.mul_mod,Nat.mod_mod,←Nat.mul_mod,←Nat.add_mod]
theorem rem64P (hi lo:Nat) (hlo:lo<18446744073709551616) :
  Pu Tryz.prog 267 #[.int .u64 (hi:Int),.int .u64 (lo:Int),.int .u64 2305843009213693951] (fun _=>True) (.int .u64 (((hi*18446744073709551616+lo)%2305843009213693951:Nat):Int)):=by
 refine ak (args:=[_,_,_]) _ Tryz.func267 rfl Tryz.ntmps267 rfl fun av bor w0=>?_
 have hr:Eqq ((hi:Int).tmod 2305843009213693951) ((hi%2305843009213693951:Nat):Int):=jN hi 2305843009213693951
 have hd:=div64P (hi%2305843009213693951) lo (Qc _ (by decide)) hlo
 rw [BQ] at hd
 repeat' (first|refine fo (hb:=by decide) (hc:=hr) ?_|(refine ab (hc:=hd) (hX:=fun w h=>h) ?_)|refine gs ?_|(refine gp ?_ ?_<;>intro hx_ this)|fail)
 apply ad;apply ag;rfl;rfl
 rfl
theorem rem64N (hi lo:Nat) (hlo:lo<18446744073709551616) :
  Pu Tryz.prog 267 #[.int .u64 (hi:Int),.int .u64 (lo:Int),.int .u64 2305843009213693950] (fun _=>True) (.int .u64 (((hi*18446744073709551616+lo)%2305843009213693950:Nat):Int)):=by
 refine ak (args:=[_,_,_]) _ Tryz.func267 rfl Tryz.ntmps267 rfl fun av bor w0=>?_
 have hr:Eqq ((hi:Int).tmod 2305843009213693950) ((hi%2305843009213693950:Nat):Int):=jN hi 2305843009213693950
 have hd:=div64N (hi%2305843009213693950) lo (Qc _ (by decide)) hlo
 rw [BQ] at hd
 repeat' (first|refine fo (hb:=by decide) (hc:=hr) ?_|(refine ab (hc:=hd) (hX:=fun w h=>h) ?_)|refine gs ?_|(refine gp ?_ ?_<;>intro hx_ this)|fail)
 apply ad;apply ag;rfl;rfl
 rfl
theorem dU (a m:Nat) (hm:0<m) (hm2:m<4611686018427387904):Pu Tryz.prog 224 #[.int .i64 (a:Int),.int .i64 (m:Int)] (fun _=>True) (.int .i64 ((a%m:Nat):Int)):=by
 refine ak (args:=[_,_]) _ Tryz.func224 rfl Tryz.ntmps224 rfl fun av bor w0=>?_
 have hr:Eqq ((a:Int).tmod (m:Int)) ((a%m:Nat):Int):=jN a m
 repeat' (first|refine fo (hb:=by omega) (hc:=hr) ?_|refine gs ?_|(refine gp ?_ ?_<;>intro hx_ this)|fail)
 · exfalso;omega
 · apply ad;apply ag;rfl;rfl
   rfl
theorem Ed (a b:Nat):Pu Tryz.prog 226 #[.int .i64 (a:Int),.int .i64 (b:Int),.int .i64 2305843009213693951] (fun _=>True) (.int .i64 ((a*b%2305843009213693951:Nat):Int)):=by
 refine ak (args:=[_,_,_]) _ Tryz.func226 rfl Tryz.ntmps226 rfl fun av bor w0=>?_
 have h1:=dU a 2305843009213693951 (by decide) (by decide)
 have h2:=dU b 2305843009213693951 (by decide) (by decide)
 have hx:=Qc a (show 0<2305843009213693951 by decide)
 have hy:=Qc b (show 0<2305843009213693951 by decide)
 have hab:a*b%2305843009213693951=(a%2305843009213693951)*(b%2305843009213693951)%2305843009213693951:=Nat.mul_mod a b _
 rw [hab]
 generalize a%2305843009213693951=x at *
 generalize b%2305843009213693951=y at *
 have h3:=sT x y aa aa
 have h4:=rem64P (x*y/18446744073709551616) (x*y%18446744073709551616) (Qc _ (by decide))
 have e:x*y/18446744073709551616*18446744073709551616+x*y%18446744073709551616=x*y:=Nat.div_add_mod' _ _
 rw [e] at h4
 have cx:Eqq (IntKind.u64.wrap (x:Int)) (x:Int):=cr _ aa
 have cy:Eqq (IntKind.u64.wrap (y:Int)) (y:Int):=cr _ aa
 have hz:=Qc (x*y) (show 0<2305843009213693951 by decide)
 have cm:Eqq (IntKind.u64.wrap 2305843009213693951) 2305843009213693951:=by unfold Eqq;kernel_rfl
 generalize x*y%2305843009213693951=z at *
 have cz:Eqq (IntKind.i64.wrap (z:Int)) (z:Int):=IntWalk.i64_in _ aa
 unfold Eqq at cx cy cm cz
 rw [←cx,←cy] at h3
 rw [←cm] at h4
 repeat' (first|(refine ab (hc:=h1) (hX:=fun w h=>h) ?_)|(refine ab (hc:=h2) (hX:=fun w h=>h) ?_)|(refine ab (hc:=h3) (hX:=fun w h=>h) ?_)|(refine ab (hc:=h4) (hX:=fun w h=>h) ?_)|refine gs ?_|(refine gp ?_ ?_<;>intro hx_ this)|fail)
 apply ad;apply ag;rfl;rfl
 rfl
theorem E4 (a b:Nat):Pu Tryz.prog 225 #[.int .i64 (a:Int),.int .i64 (b:Int),.int .i64 2305843009213693950] (fun _=>True) (.int .i64 (((a+b)%2305843009213693950:Nat):Int)):=by
 refine ak (args:=[_,_,_]) _ Tryz.func225 rfl Tryz.ntmps225 rfl fun av bor w0=>?_
 have h1:=dU a 2305843009213693950 (by decide) (by decide)
 have h2:=dU b 2305843009213693950 (by decide) (by decide)
 have h3:=dU (a%2305843009213693950+b%2305843009213693950) 2305843009213693950 (by decide) (by decide)
 rw [←Nat.add_mod] at h3
 have hs:Eqq (IntKind.i64.wrap (((a%2305843009213693950:Nat):Int)+((b%2305843009213693950:Nat):Int))) ((a%2305843009213693950+b%2305843009213693950:Nat):Int):=by
  have:=Qc a (show 0<2305843009213693950 by decide)
  have:=Qc b (show 0<2305843009213693950 by decide)
  generalize a%2305843009213693950=x at *
  generalize b%2305843009213693950=y at *
  unfold Eqq
  rw [Int.natCast_add]
  exact IntWalk.i64_in _ aa
 repeat' (first|refine co (hc:=hs) (h:=?_)|(refine ab (hc:=h1) (hX:=fun w h=>h) ?_)|(refine ab (hc:=h2) (hX:=fun w h=>h) ?_)|(refine ab (hc:=h3) (hX:=fun w h=>h) ?_)|refine gs ?_|(refine gp ?_ ?_<;>intro hx_ this)|fail)
 apply ad;apply ag;rfl;rfl
 rfl
theorem Ee (a b:Nat):Pu Tryz.prog 226 #[.int .i64 (a:Int),.int .i64 (b:Int),.int .i64 2305843009213693950] (fun _=>True) (.int .i64 ((a*b%2305843009213693950:Nat):Int)):=by
 refine ak (args:=[_,_,_]) _ Tryz.func226 rfl Tryz.ntmps226 rfl fun av bor w0=>?_
 have h1:=dU a 2305843009213693950 (by decide) (by decide)
 have h2:=dU b 2305843009213693950 (by decide) (by decide)
 have hx:=Qc a (show 0<2305843009213693950 by decide)
 have hy:=Qc b (show 0<2305843009213693950 by decide)
 have hab:a*b%2305843009213693950=(a%2305843009213693950)*(b%2305843009213693950)%2305843009213693950:=Nat.mul_mod a b _
 rw [hab]
 generalize a%2305843009213693950=x at *
 generalize b%2305843009213693950=y at *
 have h3:=sT x y aa aa
 have h4:=rem64N (x*y/18446744073709551616) (x*y%18446744073709551616) (Qc _ (by decide))
 have e:x*y/18446744073709551616*18446744073709551616+x*y%18446744073709551616=x*y:=Nat.div_add_mod' _ _
 rw [e] at h4
 have cx:Eqq (IntKind.u64.wrap (x:Int)) (x:Int):=cr _ aa
 have cy:Eqq (IntKind.u64.wrap (y:Int)) (y:Int):=cr _ aa
 have hz:=Qc (x*y) (show 0<2305843009213693950 by decide)
 have cm:Eqq (IntKind.u64.wrap 2305843009213693950) 2305843009213693950:=by unfold Eqq;kernel_rfl
 generalize x*y%2305843009213693950=z at *
 have cz:Eqq (IntKind.i64.wrap (z:Int)) (z:Int):=IntWalk.i64_in _ aa
 unfold Eqq at cx cy cm cz
 rw [←cx,←cy] at h3
 rw [←cm] at h4
 repeat' (first|(refine ab (hc:=h1) (hX:=fun w h=>h) ?_)|(refine ab (hc:=h2) (hX:=fun w h=>h) ?_)|(refine ab (hc:=h3) (hX:=fun w h=>h) ?_)|(refine ab (hc:=h4) (hX:=fun w h=>h) ?_)|refine gs ?_|(refine gp ?_ ?_<;>intro hx_ this)|fail)
 apply ad;apply ag;rfl;rfl
 rfl
theorem vo (a b:Nat):Pu Tryz.prog 188 #[.int .i64 (a:Int),.int .i64 (b:Int)] (fun _=>True) (.int .i64 ((a*b%2305843009213693951:Nat):Int)):=by
 refine ak (args:=[_,_]) _ Tryz.func188 rfl Tryz.ntmps188 rfl fun av bor w0=>?_
 repeat' (first|(refine ab (hc:=Ed a b) (hX:=fun w h=>h) ?_)|refine gs ?_|(refine gp ?_ ?_<;>intro hx_ this)|fail)
 apply ad;apply ag;rfl;rfl
 rfl
theorem E5 (a b:Nat):Pu Tryz.prog 138 #[.int .i64 (a:Int),.int .i64 (b:Int)] (fun _=>True) (.int .i64 ((a*b%2305843009213693950:Nat):Int)):=by
 refine ak (args:=[_,_]) _ Tryz.func138 rfl Tryz.ntmps138 rfl fun av bor w0=>?_
 repeat' (first|(refine ab (hc:=Ee a b) (hX:=fun w h=>h) ?_)|refine gs ?_|(refine gp ?_ ?_<;>intro hx_ this)|fail)
 apply ad;apply ag;rfl;rfl
 rfl
theorem E6 (a b:Nat):Pu Tryz.prog 137 #[.int .i64 (a:Int),.int .i64 (b:Int)] (fun _=>True) (.int .i64 (((a+b)%2305843009213693950:Nat):Int)):=by
 refine ak (args:=[_,_]) _ Tryz.func137 rfl Tryz.ntmps137 rfl fun av bor w0=>?_
 repeat' (first|(refine ab (hc:=E4 a b) (hX:=fun w h=>h) ?_)|refine gs ?_|(refine gp ?_ ?_<;>intro hx_ this)|fail)
 apply ad;apply ag;rfl;rfl
 rfl
def expF (a e:Nat):Nat→Nat×Nat
 | 0=>(1,a%2305843009213693951)
 | i+1=>(bif decide (e/2 ^ i%2=1) then (expF a e i).1*(expF a e i).2%2305843009213693951 else (expF a e i).1,(expF a e i).2*(expF a e i).2%2305843009213693951)
def expV (a e:Nat):Nat:=(expF a e (Lib.bitLen e)).1
theorem GN (e i:Nat) (hi:i≤64):shrV .i64 (e:Int) (i:Int)=((e/2 ^ i:Nat):Int):=by
 show (e:Int).fdiv (2 ^ (min (i:Int).toNat 64))=_
 rw [ZZ,Nat.min_eq_left hi,show (2:Int) ^ i=((2 ^ i:Nat):Int) by rw [Int.natCast_pow];rfl,←Int.ofNat_fdiv]
theorem GV (x:Nat) (hx:x<9223372036854775808):bitsV .and .i64 (x:Int) 1=((x%2:Nat):Int):=by
 show IntKind.i64.wrap ((((BitVec.ofInt 64 (x:Int)) &&& (BitVec.ofInt 64 1)).toNat:Nat):Int)=_
 have e:(BitVec.ofInt 64 1).toNat=1:=by decide
 rw [BitVec.toNat_and,e,Qm,Qp,ZD (show x<2 ^ 64 by omega),Nat.and_one_is_mod]
 exact IntWalk.i64_in _ aa
theorem kp:∀ f x:Nat,Lib.bitLenAux f x≤f
 | 0,_=>ZX _
 | f+1,x=>by
  rw [Lib.bitLenAux]
  split
  · omega
  · have:=kp f (x/2)
    omega
theorem qP (a e:Nat) (he:e<9223372036854775808):Pu Tryz.prog 136 #[.int .i64 (a:Int),.int .i64 (e:Int)] (fun _=>True) (.int .i64 (expV a e:Nat)):=by
 refine ak (args:=[_,_]) _ Tryz.func136 rfl Tryz.ntmps136 rfl fun av bor w0=>?_
 have h1:=dU a 2305843009213693951 (by decide) (by decide)
 have h2:=ti e aa
 have ce:Eqq (IntKind.u64.wrap (e:Int)) (e:Int):=cr _ aa
 unfold Eqq at ce
 rw [←ce] at h2
 repeat' (first|(refine ab (hc:=h1) (hX:=fun w h=>h) ?_)|(refine ab (hc:=h2) (hX:=fun w h=>h) ?_)|refine gs ?_|(refine gp ?_ ?_<;>intro hx_ this)|fail)
 · exfalso;omega
 · have hbl:Lib.bitLen e≤64:=kp 64 e
   refine ar (ι:=Kth (Lib.bitLen e)) (fun i=>⟨[(1,.int .i64 (e:Int)),(5,.int .i64 ((expF a e i.k).1:Nat)),(6,.int .i64 ((expF a e i.k).2:Nat)),(16,.int .i64 (Lib.bitLen e:Nat)),(17,.int .i64 i.k)],[],fun _=>True⟩) (fun i=>Lib.bitLen e-i.k) ⟨0,Z4 _⟩ (aj ao (Zu _) fun _ h=>h) fun i=>?_
   have hik:=i.hk
   have hm1:=vo (expF a e i.k).1 (expF a e i.k).2
   have hm2:=vo (expF a e i.k).2 (expF a e i.k).2
   have hb:bitsV .and .i64 (shrV .i64 (e:Int) ((i.k:Nat):Int)) 1=((e/2 ^ i.k%2:Nat):Int):=by
    rw [GN e i.k aa,GV _ (Nat.lt_of_le_of_lt (Nat.div_le_self _ _) he)]
   have hs:expF a e (i.k+1)=(bif decide (e/2 ^ i.k%2=1) then (expF a e i.k).1*(expF a e i.k).2%2305843009213693951 else (expF a e i.k).1,(expF a e i.k).2*(expF a e i.k).2%2305843009213693951):=rfl
   generalize hp:expF a e i.k=p at *
   repeat' (first|(refine ab (hc:=hm1) (hX:=fun w h=>h) ?_)|(refine ab (hc:=hm2) (hX:=fun w h=>h) ?_)|refine gs ?_|(refine gp ?_ ?_<;>intro hx_ this)|fail)
   · have hc:e/2 ^ i.k%2=1:=by
      rw [hb] at hx_
      have:=aG hx_
      omega
     rw [Zd hc,Zf] at hs
     exact ⟨(⟨i.k+1,by omega⟩:Kth (Lib.bitLen e)),(by show Lib.bitLen e-(i.k+1)<Lib.bitLen e-i.k;omega),aj ⟨rfl,by rw [hs];rfl,by rw [hs];rfl,rfl,rfl,trivial⟩ (Zu _) fun _ h=>h⟩
   · have hc:¬ e/2 ^ i.k%2=1:=by
      rw [hb] at hx_
      have:=aQ hx_
      omega
     rw [Zc hc,Ze] at hs
     exact ⟨(⟨i.k+1,by omega⟩:Kth (Lib.bitLen e)),(by show Lib.bitLen e-(i.k+1)<Lib.bitLen e-i.k;omega),aj ⟨rfl,by rw [hs];rfl,by rw [hs];rfl,rfl,rfl,trivial⟩ (Zu _) fun _ h=>h⟩
   · have hk:i.k=Lib.bitLen e:=by omega
     apply ad;apply ag;rfl;rfl
     rw [expV,←hk,hp]
end Go.Proofs.YtaolfiikahlmkaaGreatDoor
namespace Go.Proofs.YtaolfiikahlmkaaGreatDoor
open Go Go.Proofs Sy
def IsN (x:Int) (n:Nat):Prop:=x=(n:Int)∧n<4294967296
theorem wrap32 (n:Nat):IntKind.u32.wrap (n:Int)=((n%4294967296:Nat):Int):=by
 simp [IntKind.wrap,IntKind.signed,IntKind.bits]
theorem IsN.xor {x y:Int} {m n:Nat} (h:IsN x m) (k:IsN y n):IsN (bitsV .xor .u32 x y) (m ^^^ n):=by
 obtain ⟨rfl,hm⟩:=h
 obtain ⟨rfl,hn⟩:=k
 have hx:m ^^^ n<2 ^ 32:=Nat.xor_lt_two_pow hm hn
 refine ⟨?_,hx⟩
 show IntKind.u32.wrap ((((BitVec.ofInt 32 (m:Int)) ^^^ (BitVec.ofInt 32 (n:Int))).toNat:Nat):Int)=_
 rw [Qm,Qm,BitVec.toNat_xor,Qp,Qp,ZD (show m<2 ^ 32 from hm),ZD (show n<2 ^ 32 from hn),wrap32,ZD hx]
theorem IsN.and {x y:Int} {m n:Nat} (h:IsN x m) (k:IsN y n):IsN (bitsV .and .u32 x y) (m &&& n):=by
 obtain ⟨rfl,hm⟩:=h
 obtain ⟨rfl,hn⟩:=k
 have hx:m &&& n<2 ^ 32:=Nat.and_lt_two_pow m hn
 refine ⟨?_,hx⟩
 show IntKind.u32.wrap ((((BitVec.ofInt 32 (m:Int)) &&& (BitVec.ofInt 32 (n:Int))).toNat:Nat):Int)=_
 rw [Qm,Qm,BitVec.toNat_and,Qp,Qp,ZD (show m<2 ^ 32 from hm),ZD (show n<2 ^ 32 from hn),wrap32,ZD hx]
theorem IsN.or {x y:Int} {m n:Nat} (h:IsN x m) (k:IsN y n):IsN (bitsV .or .u32 x y) (m ||| n):=by
 obtain ⟨rfl,hm⟩:=h
 obtain ⟨rfl,hn⟩:=k
 have hx:m ||| n<2 ^ 32:=Nat.or_lt_two_pow hm hn
 refine ⟨?_,hx⟩
 show IntKind.u32.wrap ((((BitVec.ofInt 32 (m:Int)) ||| (BitVec.ofInt 32 (n:Int))).toNat:Nat):Int)=_
 rw [Qm,Qm,BitVec.toNat_or,Qp,Qp,ZD (show m<2 ^ 32 from hm),ZD (show n<2 ^ 32 from hn),wrap32,ZD hx]
theorem IsN.add {x y:Int} {m n:Nat} (h:IsN x m) (k:IsN y n):IsN (a32 x y) ((m+n)%4294967296):=by
 obtain ⟨rfl,hm⟩:=h
 obtain ⟨rfl,hn⟩:=k
 refine ⟨?_,Qc _ (by decide)⟩
 show IntKind.u32.wrap ((m:Int)+(n:Int))=_
 rw [←Int.natCast_add,wrap32]
theorem IsN.shl {x:Int} {m:Nat} (h:IsN x m) {c:Int} (p:Nat) (hp:(2:Int) ^ (min c.toNat 32)=(p:Int)):IsN (shlV .u32 x c) (m*p%4294967296):=by
 obtain ⟨rfl,hm⟩:=h
 refine ⟨?_,Qc _ (by decide)⟩
 show IntKind.u32.wrap ((m:Int)*2 ^ (min c.toNat 32))=_
 rw [hp,←Int.natCast_mul,wrap32]
theorem IsN.shr {x:Int} {m:Nat} (h:IsN x m) {c:Int} (p:Nat) (hp:(2:Int) ^ (min c.toNat 32)=(p:Int)):IsN (shrV .u32 x c) (m/p):=by
 obtain ⟨rfl,hm⟩:=h
 refine ⟨?_,Nat.lt_of_le_of_lt (Nat.div_le_self _ _) hm⟩
 show (m:Int).fdiv (2 ^ (min c.toNat 32))=_
 rw [hp,←Int.ofNat_fdiv]
def rot (p q m:Nat):Nat:=(m*p%4294967296) ||| (m/q)
theorem IsN.turn {x:Int} {m:Nat} (h:IsN x m) {r c:Int} (p q:Nat) (hc:bitsV .and .u64 (IntKind.u64.wrap (IntKind.i64.wrap (0-r))) 31=c) (hd:IntKind.u64.wrap (32-c)=r) (hp:(2:Int) ^ (min c.toNat 32)=(p:Int)) (hq:(2:Int) ^ (min r.toNat 32)=(q:Int)) :
  IsN (turnV x r) (rot p q m):=by
 unfold turnV rotlV
 rw [hc,hd]
 exact (h.shl p hp).or (h.shr q hq)
def s0N (m:Nat):Nat:=rot 33554432 128 m ^^^ rot 16384 262144 m ^^^ (m/8)
def s1N (m:Nat):Nat:=rot 32768 131072 m ^^^ rot 8192 524288 m ^^^ (m/1024)
def b1N (m:Nat):Nat:=rot 67108864 64 m ^^^ rot 2097152 2048 m ^^^ rot 128 33554432 m
def b0N (m:Nat):Nat:=rot 1073741824 4 m ^^^ rot 524288 8192 m ^^^ rot 1024 4194304 m
theorem IsN.s0 {x:Int} {m:Nat} (h:IsN x m):IsN (bitsV .xor .u32 (bitsV .xor .u32 (turnV x 7) (turnV x 18)) (shrV .u32 x 3)) (s0N m) :=
 ((h.turn (c:=25) _ _ ae ae ae ae).xor (h.turn (c:=14) _ _ ae ae ae ae)).xor (h.shr 8 ae)
theorem IsN.s1 {x:Int} {m:Nat} (h:IsN x m):IsN (bitsV .xor .u32 (bitsV .xor .u32 (turnV x 17) (turnV x 19)) (shrV .u32 x 10)) (s1N m) :=
 ((h.turn (c:=15) _ _ ae ae ae ae).xor (h.turn (c:=13) _ _ ae ae ae ae)).xor (h.shr 1024 ae)
theorem IsN.b1 {x:Int} {m:Nat} (h:IsN x m):IsN (x32 (x32 (turnV x 6) (turnV x 11)) (turnV x 25)) (b1N m) :=
 ((h.turn (c:=26) _ _ ae ae ae ae).xor (h.turn (c:=21) _ _ ae ae ae ae)).xor (h.turn (c:=7) _ _ ae ae ae ae)
theorem IsN.b0 {x:Int} {m:Nat} (h:IsN x m):IsN (x32 (x32 (turnV x 2) (turnV x 13)) (turnV x 22)) (b0N m) :=
 ((h.turn (c:=30) _ _ ae ae ae ae).xor (h.turn (c:=19) _ _ ae ae ae ae)).xor (h.turn (c:=10) _ _ ae ae ae ae)
def fc {α:Type} (n:Nat) (k:Nat→α):α:=match n with
 | 0=>k 0
 | m+1=>k (Nat.succ m)
theorem om {α:Type} (n:Nat) (k:Nat→α):fc n k=k n:=by cases n<;>rfl
structure S8 where
 a:Nat
 b:Nat
 c:Nat
 d:Nat
 e:Nat
 f:Nat
 g:Nat
 h:Nat
structure RS (x:St8) (n:S8):Prop where
 a:IsN x.a n.a
 b:IsN x.b n.b
 c:IsN x.c n.c
 d:IsN x.d n.d
 e:IsN x.e n.e
 f:IsN x.f n.f
 g:IsN x.g n.g
 h:IsN x.h n.h
def t1N (h e f g k w:Nat):Nat:=((((h+b1N e)%4294967296+((e &&& f) ^^^ ((4294967295 ^^^ e) &&& g)))%4294967296+k)%4294967296+w)%4294967296
def t2N (a b c:Nat):Nat:=(b0N a+(((a &&& b) ^^^ (a &&& c)) ^^^ (b &&& c)))%4294967296
def roundN (s:S8) (k w:Nat):S8:=match s with
 | ⟨a,b,c,d,e,f,g,h⟩=>fc (t1N h e f g k w) fun t1=>fc ((t1+t2N a b c)%4294967296) fun x=>fc ((d+t1)%4294967296) fun y=>⟨x,a,b,c,y,e,f,g⟩
theorem RS.round {x:St8} {n:S8} (h:RS x n) {k w:Int} {k' w':Nat} (hk:IsN k k') (hw:IsN w w'):RS (roundV x k w) (roundN n k' w'):=by
 obtain ⟨a,b,c,d,e,f,g,hh⟩:=n
 obtain ⟨ha,hb,hc,hd,he,hf,hg,hh⟩:=h
 simp only [roundN,om]
 have hm:IsN (if IntKind.u32.signed then -1 else IntKind.u32.max) 4294967295:=⟨by kernel_rfl,by decide⟩
 have h1:IsN (t1V x k w) (t1N _ e f g k' w'):=(((hh.add he.b1).add ((he.and hf).xor ((hm.xor he).and hg))).add hk).add hw
 have h2:IsN (t2V x) (t2N a b c):=ha.b0.add (((ha.and hb).xor (ha.and hc)).xor (hb.and hc))
 exact ⟨h1.add h2,ha,hb,hc,hd.add h1,he,hf,hg⟩
structure W16 where
 w0:Nat
 w1:Nat
 w2:Nat
 w3:Nat
 w4:Nat
 w5:Nat
 w6:Nat
 w7:Nat
 w8:Nat
 w9:Nat
 w10:Nat
 w11:Nat
 w12:Nat
 w13:Nat
 w14:Nat
 w15:Nat
def nextW (a b c d:Nat):Nat:=(((a+s0N b)%4294967296+c)%4294967296+s1N d)%4294967296
def W16.next (w:W16):W16:=match w with
 | ⟨a0,a1,a2,a3,a4,a5,a6,a7,a8,a9,a10,a11,a12,a13,a14,a15⟩=>fc (nextW a0 a1 a9 a14) fun x=>⟨a1,a2,a3,a4,a5,a6,a7,a8,a9,a10,a11,a12,a13,a14,a15,x⟩
def sN (f:Nat→Nat):Nat→Nat→Nat
 | 0,t=>f t
 | k+1,t=>if t=16+k then nextW (sN f k k) (sN f k (k+1)) (sN f k (k+9)) (sN f k (k+14)) else sN f k t
def winN (f:Nat→Nat) (t:Nat):W16:=⟨sN f t t,sN f t (t+1),sN f t (t+2),sN f t (t+3),sN f t (t+4),sN f t (t+5),sN f t (t+6),sN f t (t+7),sN f t (t+8),sN f t (t+9),sN f t (t+10),sN f t (t+11),sN f t (t+12),sN f t (t+13),sN f t (t+14),sN f t (t+15)⟩
theorem qp (f:Nat→Nat) {k t:Nat} (h:t≠16+k):sN f (k+1) t=sN f k t:=by rw [sN,ZP h]
theorem uu (f:Nat→Nat) (k:Nat):sN f (k+1) (16+k)=nextW (sN f k k) (sN f k (k+1)) (sN f k (k+9)) (sN f k (k+14)):=by rw [sN,ZO rfl]
theorem jJ (f:Nat→Nat) {k t:Nat}:∀ j,t<16+k→sN f (k+j) t=sN f k t
 | 0,_=>rfl
 | j+1,h=>by
  rw [show k+(j+1)=(k+j)+1 from rfl,qp f (by omega)]
  exact jJ f j h
theorem W16.next_eq (a0 a1 a2 a3 a4 a5 a6 a7 a8 a9 a10 a11 a12 a13 a14 a15:Nat):W16.next ⟨a0,a1,a2,a3,a4,a5,a6,a7,a8,a9,a10,a11,a12,a13,a14,a15⟩=⟨a1,a2,a3,a4,a5,a6,a7,a8,a9,a10,a11,a12,a13,a14,a15,nextW a0 a1 a9 a14⟩:=by rw [W16.next,om]
theorem o9 (f:Nat→Nat) (t:Nat):(winN f t).next=winN f (t+1):=by
 rw [winN,W16.next_eq,←uu,winN]
 have e:∀ j,j<15→sN f t (t+(j+1))=sN f (t+1) (t+1+j):=fun j hj=>by
  rw [qp f (by omega)];congr 1;omega
 have e15:sN f (t+1) (16+t)=sN f (t+1) (t+1+15):=by congr 1;omega
 rw [W16.mk.injEq]
 exact ⟨e 0 aa,e 1 aa,e 2 aa,e 3 aa,e 4 aa,e 5 aa,e 6 aa,e 7 aa,e 8 aa,e 9 aa,e 10 aa,e 11 aa,e 12 aa,e 13 aa,e 14 aa,e15⟩
theorem pm {s:ByteArray} {f:Nat→Nat} (h:∀ t,t<16→IsN (wordV s t) (f t)):∀ k,k≤48→∀ t,t<16+k→IsN ((w2 s k).getD t 0) (sN f k t)
 | 0,_,t,ht=>by
  have key:∀ i,i≤16→∀ t,t<i→(w1 s i).getD t 0=wordV s t:=fun i=>by
   induction i with
   | zero=>intro _ t ht;omega
   | succ i ih =>
    intro hi t ht
    rw [w1,Zo,List.getElem?_set]
    by_cases e:i=t
    · subst e
      rw [ZO rfl,ZO (by rw [qb];omega)];rfl
    · rw [ZP e,←Zo]
      exact ih aa t aa
  rw [w2,key 16 aa t (by omega)]
  exact h t aa
 | k+1,hk,t,ht=>by
  have ih:=pm h k aa
  rw [w2,Zo,List.getElem?_set]
  by_cases e:16+k=t
  · subst e
    rw [ZO rfl,ZO (by rw [qa];omega),uu]
    have h0:=ih k aa
    have h1:=ih (16+k-15) aa
    have h9:=ih (16+k-7) aa
    have h14:=ih (16+k-2) aa
    rw [show 16+k-15=k+1 by omega] at h1
    rw [show 16+k-7=k+9 by omega] at h9
    rw [show 16+k-2=k+14 by omega] at h14
    have he:early (w2 s k) (16+k)=_:=rfl
    unfold early late
    rw [show 16+k-15=k+1 by omega,show 16+k-7=k+9 by omega,show 16+k-2=k+14 by omega]
    exact ((h0.add h1.s0).add h9).add h14.s1
  · rw [ZP e,←Zo,qp f (by omega)]
    exact ih t aa
def kN:List Nat:=kC.map Int.toNat
def stepN (p:S8×W16) (k:Nat):S8×W16:=match p with
 | (s,w)=>(roundN s k w.w0,w.next)
theorem rK (s:S8) (w:W16) (k:Nat):stepN (s,w) k=(roundN s k w.w0,w.next):=by unfold stepN;rfl
def roundsN (ks:List Nat) (s:S8) (w:W16):S8:=(ks.foldl stepN (s,w)).1
theorem yj {x:St8} {ws:List Int} {f:Nat→Nat} (hw:∀ t,t<64→IsN (ws.getD t 0) (sN f t t)):∀ (n t:Nat) (s:S8),t+n=64→RS (roundsV x ws t) s→RS (roundsV x ws 64) ((kN.drop t).foldl stepN (s,winN f t)).1:=by
 intro n
 have hl:kN.length=64:=by kernel_rfl
 have hk:∀ t,t<64→kC.getD t 0=((kN.getD t 0:Nat):Int)∧kN.getD t 0<4294967296:=by decide +kernel
 induction n with
 | zero =>
  intro t s ht h
  have e:t=64:=by omega
  subst e
  rw [Qw aa,List.foldl_nil]
  exact h
 | succ n ih =>
  intro t s ht h
  have hd:kN.drop t=kN[t]'(by omega)::kN.drop (t+1):=List.drop_eq_getElem_cons aa
  have e2:kN.getD t 0=kN[t]'(by omega):=by rw [Zo,Zb (by omega)];rfl
  have h1:=hk t aa
  rw [e2] at h1
  have hw0:(winN f t).w0=sN f t t:=by unfold winN;rfl
  have hr:roundsV x ws (t+1)=roundV (roundsV x ws t) (kC.getD t 0) (ws.getD t 0):=by rw [roundsV]
  rw [hd,QF,rK,o9,hw0]
  refine ih (t+1) _ aa ?_
  rw [hr]
  exact h.round h1 (hw t aa)
theorem uw {x:St8} {ws:List Int} {f:Nat→Nat} (hw:∀ t,t<64→IsN (ws.getD t 0) (sN f t t)) {s:S8} (h:RS x s):RS (roundsV x ws 64) (roundsN kN s (winN f 0)):=by
 have h1:=yj (x:=x) hw 64 0 s (ZU _) (by rw [roundsV];exact h)
 rw [List.drop_zero] at h1
 unfold roundsN
 exact h1
def addN (x y:S8):S8:=match x,y with
 | ⟨a,b,c,d,e,f,g,h⟩,⟨a',b',c',d',e',f',g',h'⟩=>fc ((a+a')%4294967296) fun a=>fc ((b+b')%4294967296) fun b=>fc ((c+c')%4294967296) fun c=>fc ((d+d')%4294967296) fun d=>fc ((e+e')%4294967296) fun e=>fc ((f+f')%4294967296) fun f=>fc ((g+g')%4294967296) fun g=>fc ((h+h')%4294967296) fun h=>⟨a,b,c,d,e,f,g,h⟩
def mixN (s:S8) (w:W16):S8:=addN s (roundsN kN s w)
theorem RS.add {x y:St8} {m n:S8} (h:RS x m) (h1:RS y n):RS ⟨a32 x.a y.a,a32 x.b y.b,a32 x.c y.c,a32 x.d y.d,a32 x.e y.e,a32 x.f y.f,a32 x.g y.g,a32 x.h y.h⟩ (addN m n):=by
 obtain ⟨a,b,c,d,e,f,g,hh⟩:=m
 obtain ⟨a',b',c',d',e',f',g',h'⟩:=n
 simp only [addN,om]
 exact ⟨h.a.add h1.a,h.b.add h1.b,h.c.add h1.c,h.d.add h1.d,h.e.add h1.e,h.f.add h1.f,h.g.add h1.g,h.h.add h1.h⟩
theorem RS.mix {x:St8} {n:S8} (h:RS x n) {s:ByteArray} {f:Nat→Nat} (hs:∀ t,t<16→IsN (wordV s t) (f t)):RS (mixV x s) (mixN n (winN f 0)):=by
 have h1:=uw (x:=x) (ws:=schedV s) (f:=f) (fun t ht=>by
  have h2:=pm hs 48 aa t aa
  by_cases e:t≤48
  · have h3:=jJ f (k:=t) (t:=t) (48-t) aa
    rw [show t+(48-t)=48 by omega] at h3
    rw [schedV]
    rwa [h3] at h2
  · have h3:=jJ f (k:=48) (t:=t) (t-48) aa
    rw [show 48+(t-48)=t by omega] at h3
    rw [schedV,h3]
    exact h2) h
 unfold mixV mixN
 generalize roundsV x (schedV s) 64=y at h1 ⊢
 generalize roundsN kN n (winN f 0)=y' at h1 ⊢
 exact h.add h1
def nl (s:ByteArray):List Nat:=s.data.toList.map UInt8.toNat
theorem dr (s:ByteArray):(nl s).length=s.size:=by simp [nl]
theorem yz (a b:ByteArray):nl (a++b)=nl a++nl b:=by simp [nl,ByteArray.data_append]
theorem jZ (s:ByteArray):∀ x∈nl s,x<256:=fun x hx=>by
 obtain ⟨b,_,rfl⟩:=QI.1 hx
 exact b.toNat_lt
theorem jp (s:ByteArray) (a b:Nat):nl (s.extract a b)=((nl s).drop a).take (b-a):=by
 simp [nl,ByteArray.data_extract,Array.toList_extract,List.map_take,List.map_drop]
theorem F8 {a b:ByteArray} (h:nl a=nl b):a=b:=by
 apply ByteArray.ext
 apply Array.ext'
 have key:∀ l m:List UInt8,l.map UInt8.toNat=m.map UInt8.toNat→l=m:=fun l=>by
  induction l with
  | nil=>intro m h;cases m with|nil=>rfl|cons _ _=>cases h
  | cons a l ih =>
   intro m h
   cases m with
   | nil=>cases h
   | cons b m =>
    simp only [Z1,List.cons.injEq] at h
    rw [UInt8.toNat_inj.1 h.1,ih m h.2]
 exact key _ _ h
theorem ld (s:ByteArray):bytesI s=(nl s).map fun (n:Nat)=>(n:Int):=by simp [bytesI,nl,Function.comp_def]
def wdN (a b c d:Nat):Nat:=((a*16777216%4294967296 ||| (b*65536%4294967296)) ||| (c*256%4294967296)) ||| d
def fW (l:List Nat) (t:Nat):Nat:=wdN (l.getD (4*t) 0) (l.getD (4*t+1) 0) (l.getD (4*t+2) 0) (l.getD (4*t+3) 0)
theorem zd (s:ByteArray) (i j:Nat) (hj:j<4):byteAt (s.extract (4*(i:Int)).toNat (4*(i:Int)+4).toNat) j=(((nl s).getD (4*i+j) 0:Nat):Int):=by
 have h1:(4*(i:Int)).toNat=4*i:=by omega
 have h2:(4*(i:Int)+4).toNat=4*i+4:=by omega
 have h0:∀ (e:ByteArray) (k:Nat),byteAt e k=(((nl e).getD k 0:Nat):Int):=fun e k=>by
  simp only [byteAt,nl,Zo,Z7]
  cases e.data.toList[k]?<;>rfl
 rw [h1,h2,h0,jp,show 4*i+4-4*i=4 by omega,Zo,Zo,QG,ZO hj,List.getElem?_drop]
theorem fT {l:List Nat} (h:∀ x∈l,x<256) (i:Nat):l.getD i 0<256:=by
 rw [Zo]
 cases hx:l[i]? with
 | none=>decide
 | some x=>exact h x (Z6 hx)
theorem C0 (s:ByteArray) (i:Nat):IsN (wordV s i) (fW (nl s) i):=by
 have hb:∀ j,j<4→IsN (IntKind.u32.wrap (byteAt (s.extract (4*(i:Int)).toNat (4*(i:Int)+4).toNat) j)) ((nl s).getD (4*i+j) 0):=fun j hj=>by
  have h:=fT (jZ s) (4*i+j)
  rw [zd s i j hj,wrap32,ZD (by omega)]
  exact ⟨rfl,by omega⟩
 unfold wordV fW wdN
 exact ((((hb 0 aa).shl 16777216 ae).or ((hb 1 aa).shl 65536 ae)).or ((hb 2 aa).shl 256 ae)).or (hb 3 aa)
def rd1 {α:Type} (z:α) (l:List Nat) (k:Nat→List Nat→α):α:=match l with
 | a::b::c::d::r=>fc (wdN a b c d) fun w=>k w r
 | _=>z
theorem F5 {α:Type} {z:α} {l:List Nat} {k:Nat→List Nat→α} (h:4≤l.length):rd1 z l k=k (fW l 0) (l.drop 4):=by
 match l,h with
 | a::b::c::d::r,_=>rw [rd1,om];rfl
def blkN {α:Type} (z:α) (l:List Nat) (k:W16→List Nat→α):α :=
 rd1 z l fun w0 l=>rd1 z l fun w1 l=>rd1 z l fun w2 l=>rd1 z l fun w3 l=>rd1 z l fun w4 l=>rd1 z l fun w5 l=>rd1 z l fun w6 l=>rd1 z l fun w7 l =>
 rd1 z l fun w8 l=>rd1 z l fun w9 l=>rd1 z l fun w10 l=>rd1 z l fun w11 l=>rd1 z l fun w12 l=>rd1 z l fun w13 l=>rd1 z l fun w14 l=>rd1 z l fun w15 l =>
 k ⟨w0,w1,w2,w3,w4,w5,w6,w7,w8,w9,w10,w11,w12,w13,w14,w15⟩ l
theorem EL (l:List Nat) (m t:Nat):fW (l.drop (4*m)) t=fW l (m+t):=by
 have e:∀ j,(l.drop (4*m)).getD (4*t+j) 0=l.getD (4*(m+t)+j) 0:=fun j=>by
  rw [Zo,Zo,List.getElem?_drop,show 4*m+(4*t+j)=4*(m+t)+j by omega]
 have e0:=e 0
 simp only [ZT] at e0
 rw [fW,fW,e0,e 1,e 2,e 3]
theorem EZ {α:Type} {z:α} {l:List Nat} {k:W16→List Nat→α} (h:64≤l.length):blkN z l k=k (winN (fW l) 0) (l.drop 64):=by
 have st:∀ (m:Nat) (k':Nat→List Nat→α),m<16→rd1 z (l.drop (4*m)) k'=k' (fW l m) (l.drop (4*(m+1))):=fun m k' hm=>by
  rw [F5 (by rw [Qr];omega),EL,List.drop_drop]
  rfl
 have h0:l=l.drop (4*0):=rfl
 unfold blkN
 rw [h0,st 0 _ aa,st 1 _ aa,st 2 _ aa,st 3 _ aa,st 4 _ aa,st 5 _ aa,st 6 _ aa,st 7 _ aa,st 8 _ aa,st 9 _ aa,st 10 _ aa,st 11 _ aa,st 12 _ aa,st 13 _ aa,st 14 _ aa,st 15 _ (by omega)]
 rfl
def runN:Nat→S8→List Nat→S8
 | 0,x,_=>x
 | f+1,x,l=>blkN x l fun w r=>runN f (mixN x w) r
theorem gx {f:Nat} {x:S8} {l:List Nat} (h:64≤l.length):runN (f+1) x l=runN f (mixN x (winN (fW l) 0)) (l.drop 64):=EZ h
theorem wC {l:List Nat} (t:Nat) (h:t<16):fW (l.take 64) t=fW l t:=by
 have e:∀ j,j<64→(l.take 64).getD j 0=l.getD j 0:=fun j hj=>by
  rw [Zo,Zo,QG,ZO hj]
 rw [fW,fW,e _ aa,e _ aa,e _ aa,e _ (by omega)]
theorem RS.blk {x:St8} {n:S8} (h:RS x n) (r:ByteArray) (hr:64≤r.size):RS (mixV x (r.extract 0 64)) (mixN n (winN (fW (nl r)) 0)) :=
 h.mix fun t ht=>by
  have h1:=C0 (r.extract 0 64) t
  rw [jp,List.drop_zero] at h1
  rwa [wC t ht] at h1
theorem qI (r:ByteArray):nl (r.extract 64 r.size)=(nl r).drop 64:=by
 rw [jp,Qf (by rw [Qr,dr];omega)]
theorem pd (r:ByteArray) (h:64≤r.size):(r.extract 64 r.size).size=r.size-64:=by
 rw [←dr,qI,Qr,dr]
theorem pD:∀ (f:Nat) (x:St8) (n:S8) (r:ByteArray),RS x n→r.size/64≤f→RS (loopV f x r).1 (runN (r.size/64) n (nl r))∧nl (loopV f x r).2=(nl r).drop (64*(r.size/64))
 | 0,x,n,r,h,hf=>by
  have e:r.size/64=0:=by omega
  rw [e]
  exact ⟨h,rfl⟩
 | f+1,x,n,r,h,hf=>by
  by_cases hr:64≤r.size
  · have e:r.size/64=(r.size-64)/64+1:=by omega
    have hs:=pd r hr
    have ih:=pD f (mixV x (r.extract 0 64)) _ (r.extract 64 r.size) (h.blk r hr) (by rw [hs];omega)
    rw [hs,qI] at ih
    have e2:loopV (f+1) x r=loopV f (mixV x (r.extract 0 64)) (r.extract 64 r.size):=by rw [loopV,Zd aa,Zf]
    rw [e2,e,gx (by rw [dr];omega)]
    refine ⟨ih.1,?_⟩
    rw [ih.2,List.drop_drop]
    congr 1
    omega
  · have e:r.size/64=0:=by omega
    have e2:loopV (f+1) x r=(x,r):=by rw [loopV,Zc aa,Ze]
    rw [e,e2]
    exact ⟨h,rfl⟩
theorem pE:∀ (f:Nat) (x:St8) (n:S8) (r:ByteArray),RS x n→r.size%64=0→r.size/64≤f→RS (loopE f x r) (runN (r.size/64) n (nl r))
 | 0,x,n,r,h,_,hf=>by
  have e:r.size/64=0:=by omega
  rw [e]
  exact h
 | f+1,x,n,r,h,hm,hf=>by
  by_cases hr:r.size=0
  · have e:r.size/64=0:=by omega
    have e2:loopE (f+1) x r=x:=by rw [loopE,dD,Zd hr,Zf]
    rw [e,e2]
    exact h
  · have hs:=pd r aa
    have e:r.size/64=(r.size-64)/64+1:=by omega
    have ih:=pE f (mixV x (r.extract 0 64)) _ (r.extract 64 r.size) (h.blk r aa) (by rw [hs];omega) (by rw [hs];omega)
    rw [hs,qI] at ih
    have e2:loopE (f+1) x r=loopE f (mixV x (r.extract 0 64)) (r.extract 64 r.size):=by rw [loopE,dD,Zc hr,Ze]
    rw [e2,e,gx (by rw [dr];omega)]
    exact ih
theorem mA {f g:Nat→Nat} (h:∀ t,t<16→f t=g t):winN f 0=winN g 0:=by
 have e:∀ t,t<16→sN f 0 t=sN g 0 t:=fun t ht=>by rw [sN,sN];exact h t ht
 rw [winN,winN,W16.mk.injEq]
 exact ⟨e 0 aa,e 1 aa,e 2 aa,e 3 aa,e 4 aa,e 5 aa,e 6 aa,e 7 aa,e 8 aa,e 9 aa,e 10 aa,e 11 aa,e 12 aa,e 13 aa,e 14 aa,e 15 aa⟩
theorem yS {l e:List Nat} (h:64≤l.length) (t:Nat) (ht:t<16):fW (l++e) t=fW l t:=by
 have k:∀ j,j<64→(l++e).getD j 0=l.getD j 0:=fun j hj=>by
  rw [Zo,Zo,ZG (by omega)]
 rw [fW,fW,k _ aa,k _ aa,k _ aa,k _ (by omega)]
theorem ln (h:Nat) (e:List Nat):∀ (g:Nat) (x:S8) (l:List Nat),64*g≤l.length→runN (g+h) x (l++e)=runN h (runN g x l) (l.drop (64*g)++e)
 | 0,x,l,_=>by
  rw [ZU,Nat.mul_zero,List.drop_zero,runN]
 | g+1,x,l,hl=>by
  have ih:=ln h e g (mixN x (winN (fW l) 0)) (l.drop 64) (by rw [Qr];omega)
  rw [show g+1+h=(g+h)+1 by omega,gx (by rw [ZA];omega),mA (fun t ht=>yS aa t ht),List.drop_append_of_le_length aa,ih,gx aa,List.drop_drop]
  congr 3
  omega
def sizeN (n:Nat):List Nat:=[n*8/72057594037927936%256,n*8/281474976710656%256,n*8/1099511627776%256,n*8/4294967296%256,n*8/16777216%256,n*8/65536%256,n*8/256%256,n*8%256]
def padL (l:List Nat):List Nat:=l++(128::(List.replicate (padN (l.length+1)) 0++sizeN l.length))
def iniN:S8:=⟨1779033703,3144134277,1013904242,2773480762,1359893119,2600822924,528734635,1541459225⟩
def d4N (w:Nat):List Nat:=[w/16777216%256,w/65536%256,w/256%256,w%256]
def digN (s:S8):List Nat:=match s with
 | ⟨a,b,c,d,e,f,g,h⟩=>d4N a++(d4N b++(d4N c++(d4N d++(d4N e++(d4N f++(d4N g++d4N h))))))
def shaL (l:List Nat):List Nat:=digN (runN ((padL l).length/64) iniN (padL l))
theorem wrap8 (n:Nat):IntKind.u8.wrap (n:Int)=((n%256:Nat):Int):=by
 simp [IntKind.wrap,IntKind.signed,IntKind.bits]
theorem kL (ns:List Nat) (h:∀ x∈ns,x<256):nl (ofInts (ns.map fun (n:Nat)=>(n:Int)))=ns:=by
 have key:∀ (ns:List Nat) (r:ByteArray),(∀ x∈ns,x<256)→nl ((ns.map fun (n:Nat)=>(n:Int)).foldl (fun r n=>r.push (UInt8.ofNat n.toNat)) r)=nl r++ns:=fun ns=>by
  induction ns with
  | nil=>intro r _;simp
  | cons a ns ih =>
   intro r h
   rw [Z1,QF,ih _ fun x hx=>h x (Zv _ hx)]
   have ha:=h a ax
   have:nl (r.push (UInt8.ofNat ((a:Int)).toNat))=nl r++[a]:=by
    simp [nl,ByteArray.data_push,ZD ha]
   rw [this,ZC]
   rfl
 have:=key ns ByteArray.empty h
 simpa [ofInts,nl] using this
theorem fV {x:Int} {n:Nat} (h:IsN x n):digB x=(d4N n).map fun (n:Nat)=>(n:Int):=by
 have h24:=(h.shr (c:=24) 16777216 ae).1
 have h16:=(h.shr (c:=16) 65536 ae).1
 have h8:=(h.shr (c:=8) 256 ae).1
 unfold digB d4N
 rw [h24,h16,h8,h.1,wrap8,wrap8,wrap8,wrap8]
 rfl
theorem GS (n:Nat):∀ x∈d4N n,x<256:=fun x hx=>by
 simp only [d4N,ZI,Qk,or_false] at hx
 rcases hx with rfl|rfl|rfl|rfl<;>exact Qc _ (by decide)
theorem GB {x:St8} {n:S8} (h:RS x n):nl (ofInts (x.l.flatMap digB))=digN n:=by
 obtain ⟨a,b,c,d,e,f,g,hh⟩:=n
 have e1:x.l.flatMap digB=(digN ⟨a,b,c,d,e,f,g,hh⟩).map fun (n:Nat)=>(n:Int):=by
  simp only [St8.l,digN,List.flatMap_cons,List.flatMap_nil,ZJ,ZW,fV h.a,fV h.b,fV h.c,fV h.d,fV h.e,fV h.f,fV h.g,fV h.h]
 rw [e1]
 refine kL _ fun x hx=>?_
 simp only [digN,Qy] at hx
 rcases hx with h|h|h|h|h|h|h|h<;>exact GS _ _ h
theorem rO (n:Nat) (hn:n<2305843009213693952):sizeB (n:Int) 8=(sizeN n).map fun (n:Nat)=>(n:Int):=by
 have hw:∀ m:Nat,m<18446744073709551616→IntKind.u64.wrap (m:Int)=(m:Int):=fun m hm=>by
  simp [IntKind.wrap,IntKind.signed,IntKind.bits]
  omega
 have h1:IntKind.u64.wrap (IntKind.u64.wrap (n:Int)*8)=((n*8:Nat):Int):=by
  rw [hw n aa,show (n:Int)*8=((n*8:Nat):Int) by omega,hw _ (by omega)]
 have hs:∀ (c:Int) (p:Nat),(2:Int) ^ (min c.toNat 64)=(p:Int)→shrV .u64 ((n*8:Nat):Int) c=((n*8/p:Nat):Int):=fun c p hp=>by
  show ((n*8:Nat):Int).fdiv (2 ^ (min c.toNat 64))=_
  rw [hp,←Int.ofNat_fdiv]
 unfold sizeB sizeN
 rw [h1,show List.range 8=[0,1,2,3,4,5,6,7] by rfl]
 simp only [Z1,List.map_nil]
 rw [hs _ 72057594037927936 ae,hs _ 281474976710656 ae,hs _ 1099511627776 ae,hs _ 4294967296 ae,hs _ 16777216 ae,hs _ 65536 ae,hs _ 256 ae,hs _ 1 ae,Nat.div_one]
 simp only [wrap8]
theorem GA (s:ByteArray) (n:Nat) (hn:n<2305843009213693952):nl (endV s (n:Int))=nl s++(128::(List.replicate (padN (s.size+1)) 0++sizeN n)):=by
 have e:endL s++List.replicate (padN (s.size+1)) 0++sizeB (n:Int) 8=(nl s++(128::(List.replicate (padN (s.size+1)) 0++sizeN n))).map fun (n:Nat)=>(n:Int):=by
  rw [endL,ld,rO n hn]
  simp
 rw [endV,e]
 refine kL _ fun x hx=>?_
 simp only [Qy,ZI,List.mem_replicate] at hx
 rcases hx with h|h|h|h
 · exact jZ s x h
 · omega
 · omega
 · simp only [sizeN,ZI,Qk,or_false] at h
   rcases h with rfl|rfl|rfl|rfl|rfl|rfl|rfl|rfl<;>exact Qc _ (by decide)
theorem FR (s:ByteArray) (hs:s.size<2305843009213693952):nl (shaV s)=shaL (nl s):=by
 have hi:RS iniS iniN:=⟨⟨rfl,by decide⟩,⟨rfl,by decide⟩,⟨rfl,by decide⟩,⟨rfl,by decide⟩,⟨rfl,by decide⟩,⟨rfl,by decide⟩,⟨rfl,by decide⟩,⟨rfl,by decide⟩⟩
 obtain ⟨h1,h2⟩:=pD s.size iniS iniN s hi (Nat.div_le_self _ _)
 have h3:shaV s=ofInts ((loopE (endV (loopV s.size iniS s).2 s.size).size (loopV s.size iniS s).1 (endV (loopV s.size iniS s).2 s.size)).l.flatMap digB):=rfl
 rw [h3]
 generalize loopV s.size iniS s=p at h1 h2
 have he:=GA p.2 s.size hs
 have hps:p.2.size=s.size%64:=by
  rw [←dr,h2,Qr,dr]
  omega
 have hlen:(endV p.2 s.size).size%64=0:=pO _ _
 have h4:=pE (endV p.2 s.size).size p.1 _ (endV p.2 s.size) h1 hlen (Nat.div_le_self _ _)
 rw [GB h4,shaL]
 congr 1
 have hpad:padN (p.2.size+1)=padN ((nl s).length+1):=by
  rw [hps,dr,padN,padN]
  omega
 have hpl:padL (nl s)=nl s++(128::(List.replicate (padN ((nl s).length+1)) 0++sizeN s.size)):=by rw [padL,dr]
 have hll:(padL (nl s)).length/64=s.size/64+(endV p.2 s.size).size/64:=by
  have e1:(endV p.2 s.size).size=(s.size%64)+1+padN ((nl s).length+1)+8:=by
   rw [←dr,he,h2,hpad]
   simp only [ZA,ZB,List.length_replicate,Qr,dr,sizeN,ZR]
   omega
  have e2:(padL (nl s)).length=s.size+1+padN ((nl s).length+1)+8:=by
   rw [hpl]
   simp only [ZA,ZB,List.length_replicate,dr,sizeN,ZR]
   omega
  rw [e1,e2]
  rw [e1] at hlen
  omega
 rw [hll,hpl,ln _ _ _ _ _ (by rw [dr];omega),he,h2,hpad]
end Go.Proofs.YtaolfiikahlmkaaGreatDoor
namespace Go.Proofs.YtaolfiikahlmkaaGreatDoor.Sy
open Go Go.RowKit
theorem Gam.later {av bor:List Nat} {w0 w w':World} {loc:List Res} {X:World→Prop} (G:Gam av bor w0 loc X w) (hB:Below w.heap.size w w'):Gam av bor w0 loc X w' :=
 (Gam.more (r:=⟨[],fun _=>True⟩) G hB (fun _ _=>trivial) List.nodup_nil (fun i hi=>by cases hi)).drop (List.sublist_cons_self _ _)
section
variable {P:Program} {N:Nat} {av bor:List Nat} {w0:World} {ops:Array Oper} {rest:List Oper} {k:St→Prop} {E:Env} {loc:List Res} {X:World→Prop}
variable {ty:TypeId} {pos:String} {af:Array Edge} {g:Option (Nat×Bool)} {bb want:Bool}
theorem ng {n:Nat} {x:Operand} {xs:List Operand} {ats:Array TypeId} {f:FuncId} {args:List Value} {X1:World→Prop} {v:Value} (h:Sw P N av bor w0 ops rest ⟨(n,v)::E,loc,X⟩ k) (hx:ev E x=some (.func (.func f) #[] #[]):=by rfl) (ha:evs E xs=some args:=by rfl) (hg:gdB ops E g=some (bb,want):=by rfl) (hb:bb=want:=by exact am) (hd:Nat.blt n N=true:=by rfl) (hf:FnBody P f:=by infer_instance) (hc:Pu P f args.toArray X1 v) (hX:∀ w,X w→(∀ r∈loc,r.F w)→X1 w) :
  Sw P N av bor w0 ops (⟨some n,.call ⟨.value x,xs.toArray,ats⟩,ty,pos,af,g⟩::rest) ⟨E,loc,X⟩ k:=Sw.mk fun a w ok=>by
 have hd':inB N (some n)=true:=by have h1:n<N:=Zx hd;simpa [inB] using h1
 simp only [wpList]
 rw [bO ok (o:=⟨some n,.call ⟨.value x,xs.toArray,ats⟩,ty,pos,af,g⟩) hg]
 subst hb
 simp only [Zz,ZN]
 left
 unfold Oper.wp
 have hr:(execOp a.eval ⟨some n,.call ⟨.value x,xs.toArray,ats⟩,ty,pos,af,g⟩).run P w=.ok (.enter f args.toArray) w:=by
  have e:=iE ok xs args ha
  have e1:xs.toArray.map a.eval=args.toArray:=by rw [List.map_toArray,e]
  simp only [execOp,resolve,ok.eval (st:=⟨E,loc,X⟩) hx,Deferred.ofValue,invoke,e1]
  simp only [Sem.run_bind,Sem.run_pure,Result.andThen_ok]
  have e2:(#[]:Array Value)++args.toArray++#[]=args.toArray:=by simp
  rw [e2]
  exact kD _ w
 rw [hr]
 have G1:=ok.gam.giveAll
 have G0:=(Gam.start (pre:=[]) (fr:=[]) G1).imp (fun w h=>hX w h.1 h.2)
 unfold Pu at hc
 refine (Ct.run hc w _ G0).mono fun e w' ⟨u,R,X',he,⟨hu,hR⟩,G'⟩=>?_
 subst he
 subst hu
 have ok':Ok N av bor w0 ⟨E,loc,X⟩ a w':=ok.via fun M G=>Gam.later G G'.fr.below
 exact h.run _ _ (cZ (some n) _▸ok'.put hd' _)
end
end Go.Proofs.YtaolfiikahlmkaaGreatDoor.Sy
namespace Go.Proofs.YtaolfiikahlmkaaGreatDoor
open Go Go.Proofs Sy Go.Shelf Go.RowKit
def numF (l:List Nat):Nat→Nat
 | 0=>0
 | k+1=>numF l k*256+l.getD k 0
def numN (l:List Nat):Nat:=numF l 8/8
theorem jY (s:ByteArray):∀ k,numF (nl s) k<256 ^ k
 | 0=>by simp [numF]
 | k+1=>by
  have h1:=jY s k
  have h2:=fT (jZ s) k
  rw [numF,Nat.pow_succ]
  omega
theorem numF7 (s:ByteArray) {k:Nat} (hk:k<8):numF (nl s) k<72057594037927936:=by
 have h1:=jY s k
 have h2:256 ^ k≤256 ^ 7:=Nat.pow_le_pow_right (by decide) aa
 have h3:(256:Nat) ^ 7=72057594037927936:=by decide
 omega
theorem numF8 (s:ByteArray) {k:Nat} (hk:k<8):numF (nl s) k*256<18446744073709551616:=by
 have h1:=jY s k
 have h2:256 ^ k≤256 ^ 7:=Nat.pow_le_pow_right (by decide) aa
 have h3:(256:Nat) ^ 7=72057594037927936:=by decide
 omega
theorem shl8 (x:Nat) (h:x*256<18446744073709551616):shlV .u64 (x:Int) 8=((x*256:Nat):Int):=by
 show IntKind.u64.wrap ((x:Int)*2 ^ (min (8:Int).toNat 64))=_
 rw [show ((2:Int) ^ (min (8:Int).toNat 64))=256 from by kernel_rfl,cr _ (by omega)]
 omega
theorem or8 (x b:Nat) (hb:b<256) (h:x<72057594037927936):bitsV .or .u64 ((x*256:Nat):Int) (b:Int)=((x*256+b:Nat):Int):=by
 have hx:x*256+b<18446744073709551616:=by omega
 have hy:x*256<18446744073709551616:=Nat.lt_of_le_of_lt (Nat.le_add_right _ _) hx
 have hz:b<18446744073709551616:=by omega
 have hw:IntKind.u64.wrap ((x*256+b:Nat):Int)=((x*256+b:Nat):Int):=cr _ aa
 have e:x*256 ||| b=x*256+b:=by
  have:=Nat.shiftLeft_add_eq_or_of_lt (a:=x) (b:=b) (i:=8) hb
  rw [Nat.shiftLeft_eq] at this
  exact this.symm
 show IntKind.u64.wrap ((((BitVec.ofInt 64 ((x*256:Nat):Int)) ||| (BitVec.ofInt 64 (b:Int))).toNat:Nat):Int)=_
 rw [Qm,Qm,BitVec.toNat_or,Qp,Qp,ZD (show x*256<2 ^ 64 from hy),ZD (show b<2 ^ 64 from hz),e,hw]
theorem shr3 (x:Nat):shrV .u64 (x:Int) 3=((x/8:Nat):Int):=by
 show (x:Int).fdiv (2 ^ (min (3:Int).toNat 64))=_
 rw [show ((2:Int) ^ (min (3:Int).toNat 64))=((8:Nat):Int) from by kernel_rfl,←Int.ofNat_fdiv]
theorem q8 (s:ByteArray) (k:Nat) (hk:k<s.size):byteAt s k=(((nl s).getD k 0:Nat):Int):=by
 simp only [byteAt,nl,Zo,Z7]
 have hl:k<s.data.toList.length:=by simpa using hk
 rw [Zb hl]
 rfl
theorem xK (s:ByteArray):Pu Tryz.prog 222 #[.string s] (fun _=>True) (.int .i64 (numN (nl s):Nat)):=by
 refine ak (args:=[_]) _ Tryz.func222 rfl Tryz.ntmps222 rfl fun av bor w0=>?_
 repeat' (first|refine gs ?_|(refine gp ?_ ?_<;>intro hx_ this)|fail)
 refine ar (ι:=Kth 8) (fun i=>⟨[(0,.string s),(3,.int .u64 (numF (nl s) i.k:Nat)),(5,.int .i64 i.k)],[],fun _=>True⟩) (fun i=>8-i.k) ⟨0,Z4 _⟩ (aj ao (al _) fun _ h=>h) fun i=>?_
 have hik:=i.hk
 repeat' (first|refine gs ?_|(refine gp ?_ ?_<;>intro hx_ this)|fail)
 · have hlt:i.k<8:=by omega
   have hs:i.k<s.size:=by omega
   have hb:=fT (jZ s) i.k
   have hE:bitsV .or .u64 (shlV .u64 ((numF (nl s) i.k:Nat):Int) 8) (IntKind.u64.wrap (byteAt s (i.k:Int).toNat))=((numF (nl s) (i.k+1):Nat):Int):=by
    rw [shl8 _ (numF8 s hlt),show ((i.k:Int)).toNat=i.k from rfl,q8 s _ hs,cr _ aa,or8 _ _ hb (numF7 s hlt)]
    rfl
   exact ⟨⟨i.k+1,hlt⟩,(by show 8-(i.k+1)<8-i.k;omega),aj ⟨rfl,congrArg (fun z=>some (Value.int IntKind.u64 z)) hE,rfl,trivial⟩ (al _) fun _ h=>h⟩
 · have hlt:i.k<8:=by omega
   have hs:s.size≤i.k:=by omega
   have hE:shlV .u64 ((numF (nl s) i.k:Nat):Int) 8=((numF (nl s) (i.k+1):Nat):Int):=by
    rw [shl8 _ (numF8 s hlt),numF,Zo,List.getElem?_eq_none (by rw [dr];exact hs),Option.getD_none,ZT]
   exact ⟨⟨i.k+1,hlt⟩,(by show 8-(i.k+1)<8-i.k;omega),aj ⟨rfl,congrArg (fun z=>some (Value.int IntKind.u64 z)) hE,rfl,trivial⟩ (al _) fun _ h=>h⟩
 · have h8:i.k=8:=by omega
   apply ad;apply ag;rfl;rfl
   have hl:=jY s 8
   have hp:(256:Nat) ^ 8=18446744073709551616:=by decide
   rw [h8,shr3,IntWalk.i64_in _ (by omega)]
   rfl
theorem Ea (s:ByteArray):numN (nl s)<2305843009213693952:=by
 have hl:=jY s 8
 have hp:(256:Nat) ^ 8=18446744073709551616:=by decide
 rw [numN]
 omega
def catB (l:List ByteArray):ByteArray:=l.foldr (fun a b=>a++b) ⟨#[]⟩
theorem BO:∀ l:List ByteArray,nl (catB l)=l.flatMap nl
 | []=>rfl
 | a::l=>by
  show nl (a++catB l)=_
  rw [yz,BO l,List.flatMap_cons]
def PartsAt (b T:Nat) (xs:List ByteArray) (w:World):Prop:=w.heap[b]?=some (.cells (xs.map Value.string).toArray T (0,0))
theorem sI {P:Program} {f:FuncId} {args:Array Value} {X:World→Prop} {v:Value} (h:∀ w,X w→Calls P f args w fun e w'=>e=.returned v∧Below w.heap.size w w'):Pu P f args X v:=by
 unfold Pu
 exact Ct.mk fun w av G=>(h w G.keep.now).mono fun e w' ⟨he,hw⟩=>⟨v,[],X,he,⟨rfl,rfl⟩,Gam.later G hw⟩
theorem joinX:Builder.Extra Tryz.prog Tryz.join_ren where
 sizeBuilder:=by kernel_rfl
 liesBuilder:=by kernel_rfl
 t5:=by kernel_rfl
 a5:=fun w=>by simp [isAgg,run_underlying (show Tryz.prog.underlying (Tryz.join_ren.t 5)=some (.int .u8) from by kernel_rfl)]
 z5:=fun w=>Sy.run_sizeOf (P:=Tryz.prog) (t:=Tryz.join_ren.t 5) (n:=1) ae w
 v5:=fun w=>dT (show zeroOf Tryz.prog (Tryz.join_ren.t 5)=some (.int .u8 0) from by kernel_rfl) w
 infoByte:=by kernel_rfl
 cellsByte:=by kernel_rfl
 sizeByte:=by kernel_rfl
 neB5:=by decide
theorem yE (l:List (List UInt8)):Lib.join l []=l.flatten:=by
 rw [Lib.join,List.intercalate]
 induction l with
 | nil=>rfl
 | cons a l ih =>
  cases l with
  | nil=>simp
  | cons b l=>simpa using ih
theorem CB (xs:List ByteArray):(⟨(Lib.join (xs.map (·.data.toList)) (⟨#[]⟩:ByteArray).data.toList).toArray⟩:ByteArray)=catB xs:=by
 have e:(⟨#[]⟩:ByteArray).data.toList=[]:=rfl
 rw [e,yE]
 apply F8
 rw [BO]
 simp [nl,List.map_flatten,List.flatMap_def,Function.comp_def]
 rfl
theorem pT (xs:List ByteArray):(catB xs).size=(xs.map ByteArray.size).sum:=by
 induction xs with
 | nil=>rfl
 | cons a l ih =>
  show (a++catB l).size=_
  rw [Za,ih,Z1,List.sum_cons]
theorem Em (b T c:Nat) (xs:List ByteArray) (hc:xs.length≤c) (hn:xs.length≤1000) (hs:(catB xs).size≤1099511627776):Pu Tryz.prog 223 #[.slice (some ⟨b,0,none⟩) xs.length c,.string ⟨#[]⟩] (PartsAt b T xs) (.string (catB xs)) :=
 sI fun w h=>by
  have hcell:∀ (j:Nat) x,xs[j]?=some x→w.cell? ⟨b,0+j,none⟩=some (.string x):=fun j x hj=>by
   simp [World.cell?,show w.heap[b]?=_ from h,hj]
  have hl:(Lib.join (xs.map (·.data.toList)) (⟨#[]⟩:ByteArray).data.toList).length=(catB xs).size:=by
   rw [←CB xs]
   simp [ByteArray.size]
  have:=Any.strings_Join Tryz.join joinX b 0 c xs ⟨#[]⟩ w hcell (QL.1 h).1 aa hc (by rw [hl];omega)
  rw [CB xs] at this
  exact this
theorem qN (b T c:Nat) (xs:List ByteArray) (hc:xs.length≤c) (hn:xs.length≤1000) (hs:(catB xs).size≤1099511627776) :
  Pu Tryz.prog 134 #[.slice (some ⟨b,0,none⟩) xs.length c] (fun w=>PartsAt b T xs w∧Glob w) (.int .i64 (numN (nl (shaV (catB xs))):Nat)):=by
 refine ak (args:=[_]) _ Tryz.func134 rfl Tryz.ntmps134 rfl fun av bor w0=>?_
 repeat' (first|(refine ab (hc:=Em b T c xs hc hn hs) (hX:=fun w h=>h.1) ?_)|(refine ab (hc:=qo (catB xs) hs) (hX:=fun w h=>h.2) ?_)|refine ab (hc:=xK (shaV (catB xs))) ?_|refine gs ?_|(refine gp ?_ ?_<;>intro hx_ this)|fail)
 apply ad;apply ag;rfl;rfl
 rfl
end Go.Proofs.YtaolfiikahlmkaaGreatDoor
