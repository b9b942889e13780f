/- Joined. -/
import Derived.Test.YtaolfiikahlmkaaGreatDoorB5
import Derived.Shelf.Slices.CompactS
import Derived.Lib.RowBridge
set_option linter.unusedVariables false
set_option linter.unusedSimpArgs false
set_option maxHeartbeats 16000000
namespace Go.Proofs.YtaolfiikahlmkaaGreatDoor
open Go Go.Proofs Sy Tryz
theorem db {P:Program} {fn:Func} {N t u u2 ty n:Nat} {s:St} {b T:Nat} {cs:List Value} {x y:Value} [hI:Xu P ty n] (hr:fn.results=#[.cell t ty,.tmp u,.tmp u2]) (h:Sy.look s.env t=some (.pointer (some ⟨b,0,none⟩))) (h':Sy.look s.env u=some x) (h2':Sy.look s.env u2=some y) (hm:cel b T cs∈s.loc) (hn:cs.length=n) :
  Res1 P fn N s (.tuple #[.agg cs.toArray,x,y]):=fun av bor w0 a w ok=>by
 obtain ⟨D,h1,h2,h3⟩:=cR hI.out
 have ht:=ok.env t _ h
 have hu:=ok.env u _ h'
 have hu2:=ok.env u2 _ h2'
 have:(loadVar ty ⟨b,0,none⟩).run P w=.ok (.agg cs.toArray) w:=by
  cases D<;>simp at h2
  · exact run_loadVar_row w b T ty cs.toArray (0,0) _ (eU ok hm) h1 rfl (by rw [h3];simp [hn])
  · exact run_loadVar_row w b T ty cs.toArray (0,0) _ (eU ok hm) h1 rfl (by rw [h3];simp [hn])
 simp [results,hr,ht,hu,hu2,asAddr,this]
def wantA (au:ByteArray) (it:Xc):Bool:=decide (it.kind=0)&&seqB it.act.author au
theorem B9 (bW:Nat) (au:ByteArray) (it:Xc):Pu prog 110 #[it.v,.pointer (some ⟨bW,0,none⟩)] (CelD bW [.string au]) (.tuple #[it.act.v,.int .i64 it.act.seq,.bool (wantA au it)]):=by
 refine ax func110 ntmps110 fun av bor w0=>?_
 repeat' (first|refine gs ?_|refine gs1 fun _=>?_|fail)
 rename_i b2 b3
 by_cases h0:it.kind=0
 · (refine ap ⟨[0,1,2,3,4,5,6,7,8,9,10,11,12,13,14],[(15,⟨[16,17],[]⟩)]⟩ [cel b2 60 it.cells] (CelD bW [.string au]) (h:=?_))
   all_goals repeat' (first|refine ay (hsub:=by exact aK) (hy:=by (apply d9 true;rfl;rfl;exact Ze h0)) ?_|refine gdz ?_|refine ay (hsub:=by exact aK) (hy:=by first|(apply cu (vs:=it.act.cells);rfl;exact .head _;rfl;rfl)|(apply fQ;rfl;exact (fun w h=>h 0 _ rfl))) ?_|refine az ?_ (h':=?_)|exact aA|fail)
   all_goals
    repeat' (first|refine gs ?_|fail)
    exact ab (db rfl rfl rfl rfl (.head _) rfl) (by rw [wantA,Ze h0];rfl)
 · (refine ap ⟨[0,1,2,3,4,5,6,7,8,9,10,11,12,13,14],[(15,⟨[16,17],[]⟩)]⟩ [cel b2 60 it.cells] (CelD bW [.string au]) (h:=?_))
   all_goals repeat' (first|refine ay (hsub:=by exact aK) (hy:=by (apply d9 false;rfl;rfl;exact Zd h0)) ?_|refine gdz ?_|refine ay (hsub:=by exact aK) (hy:=by (apply cu (vs:=it.act.cells);rfl;exact .head _;rfl;rfl)) ?_|refine az ?_ (h':=?_)|exact aA|fail)
   all_goals
    repeat' (first|refine gs ?_|fail)
    exact ab (db rfl rfl rfl rfl (.head _) rfl) (by rw [wantA,Zd h0];rfl)
def fndOf (dI:Xc→ByteArray) (it:Xc):Ej:=⟨it.act.seq,dI it,it.act⟩
def selB (au:ByteArray) (rI:Xc→Bool) (it:Xc):Bool:=wantA au it&&rI it
def selF (au:ByteArray) (rI:Xc→Bool) (dI:Xc→ByteArray) (I:List Xc):List Ej:=(I.filter (selB au rI)).map (fndOf dI)
def selA (au:ByteArray) (rI:Xc→Bool) (I:List Xc):List Xa:=(I.filter (selB au rI)).map Xc.act
theorem Jp (au:ByteArray) (rI:Xc→Bool) (dI:Xc→ByteArray) (I:List Xc):(selF au rI dI I).map Ej.a=selA au rI I:=by rw [selF,selA,ZY];rfl
structure PikI (I:List Xc) (au:ByteArray) (rI:Xc→Bool) (dI:Xc→ByteArray) where
 k:Nat
 hk:k≤I.length
 A:Option Addr
 c:Nat
 n:Nat
 hn:n=(selF au rI dI (I.take k)).length
 xs:List Value
 hxs:xs=((selF au rI dI (I.take k)).map Ej.cells).flatten
structure ValI (Q:List Ej) where
 k:Nat
 hk:k≤Q.length
 A:Option Addr
 c:Nat
 xs:List Value
 hxs:xs=((Q.take k).map fun f=>f.a.cells).flatten
def wantV (bW:Nat):Value:=.func (.func 110) #[] #[.pointer (some ⟨bW,0,none⟩)]
theorem DQ (ks ki:Xk) (I:List Xc) (bW:Nat) (au:ByteArray) (rI:Xc→Bool) (dI:Xc→ByteArray)
  (hR:∀ it∈I,Pu prog 73 #[it.v] (fun w=>it.at_ w) (.bool (rI it)))
  (hD:∀ it∈I,Pu prog 18 #[it.v] (fun w=>it.at_ w∧Xe w) (.string (dI it)))
  (hI:I.length≤1000) (hsort:SortA I.length) :
  Mk prog 109 #[.agg #[ks.v,ki.v],wantV bW] (fun w=>(Items w ki I∧CelD bW [.string au] w)∧Xe w)
   (fun u X'=>∃ (s:Xk) (L:List Xa),u=s.v∧L.Perm (selA au rI I)∧∀ w,X' w→Acts w s L):=by
 refine dm func109 ntmps109 fun av bor w0=>?_
 refine aQ (p:=ki.n=I.length∧ki.n≤maxLen∧(0<I.length→ki.p.isSome=true)) (fun w h=>⟨h.1.1.len_,h.1.1.max_,h.1.1.some_⟩) fun ⟨hkn,hkm,hkp⟩=>?_
 simp only [maxLen] at hkm
 repeat' (first|refine gs ?_|refine gs1 fun _=>?_|fail)
 rename_i b2
 refine cL 243 22 ?_
 refine aq (ι:=PikI I au rI dI) (fun i=>⟨[(1,wantV bW),(5,.slice i.A i.n i.c),(15,ki.v),(16,.int .i64 (ki.n:Nat)),(17,.int .i64 (i.k:Nat))],[orow 243 22 (.slice i.A i.n i.c) i.n i.xs],fun w=>(Items w ki I∧CelD bW [.string au] w)∧Xe w⟩) (fun i=>I.length-i.k) ⟨0,Z2 _,none,0,0,rfl,[],rfl⟩ (ai am (.cons_cons _ (Zt _)) fun _ h=>h) fun i=>?_
 obtain ⟨k,hk,A,c,n,hn,xs,hxs⟩:=i
 simp only
 repeat' (first|refine gs ?_|(refine gp ?_ ?_<;>intro hx_ this)|fail)
 · have hlt:k<I.length:=by omega
   have hkp':=hkp aa
   obtain ⟨it,hit⟩:∃ it,I[k]?=some it:=⟨_,Zc hlt⟩
   have him:=Z4 hit
   have hnl:n≤1000:=by
    rw [hn,selF,ZE]
    exact ZW (Z8 _ _) (by rw [Qg];omega)
   repeat' (first|refine gs ?_|refine gs1 fun _=>?_|(refine aD (q:=k*49) ?_)|(refine aN (cs:=it.cells) (hF:=fun w h=>h.1.1.get hit) ?_)|fail)
   rename_i b7
   have hri:=hR it him
   have hdi:=hD it him
   have hwa:=B9 bW au it
   have htk:selF au rI dI (I.take (k+1))=selF au rI dI (I.take k)++(bif selB au rI it then [fndOf dI it] else []):=by
    rw [selF,selF,Qe,hit,Qt,ZU,Qs]
    congr 1
    cases hb:selB au rI it with
    | true=>simp [hb]
    | false=>simp [hb]
   cases hwt:wantA au it with
   | false =>
    rw [hwt] at hwa
    have hno:selF au rI dI (I.take (k+1))=selF au rI dI (I.take k):=by rw [htk,selB,hwt];exact ZI _
    refine fx (args:=[it.v]) (all:=[it.v,.pointer (some ⟨bW,0,none⟩)]) (first:=#[]) (caps:=#[.pointer (some ⟨bW,0,none⟩)]) (hx:=rfl) (ha:=rfl) (hall:=rfl) (hc:=hwa) (hX:=fun w h=>h.1.2) (h:=?_)
    repeat' (first|refine gs ?_|refine gs1 fun _=>?_|fail)
    exact ⟨(⟨k+1,hlt,A,c,n,by rw [hno];exact hn,xs,by rw [hno];exact hxs⟩:PikI I au rI dI),(by show I.length-(k+1)<I.length-k;omega),ai am (.cons _ (.cons _ (ak _))) fun _ h=>h⟩
   | true =>
    rw [hwt] at hwa
    cases hrt:rI it with
    | false =>
     rw [hrt] at hri
     have hno:selF au rI dI (I.take (k+1))=selF au rI dI (I.take k):=by rw [htk,selB,hwt,hrt];exact ZI _
     refine fx (args:=[it.v]) (all:=[it.v,.pointer (some ⟨bW,0,none⟩)]) (first:=#[]) (caps:=#[.pointer (some ⟨bW,0,none⟩)]) (hx:=rfl) (ha:=rfl) (hall:=rfl) (hc:=hwa) (hX:=fun w h=>h.1.2) (h:=?_)
     repeat' (first|(refine ae (hc:=hri) (hX:=fun w h=>h.1.1.2 it him) ?_)|refine gs ?_|refine gs1 fun _=>?_|fail)
     exact ⟨(⟨k+1,hlt,A,c,n,by rw [hno];exact hn,xs,by rw [hno];exact hxs⟩:PikI I au rI dI),(by show I.length-(k+1)<I.length-k;omega),ai am (.cons _ (.cons _ (ak _))) fun _ h=>h⟩
    | true =>
     rw [hrt] at hri
     have hyes:selF au rI dI (I.take (k+1))=selF au rI dI (I.take k)++[fndOf dI it]:=by rw [htk,selB,hwt,hrt];rfl
     refine fx (args:=[it.v]) (all:=[it.v,.pointer (some ⟨bW,0,none⟩)]) (first:=#[]) (caps:=#[.pointer (some ⟨bW,0,none⟩)]) (hx:=rfl) (ha:=rfl) (hall:=rfl) (hc:=hwa) (hX:=fun w h=>h.1.2) (h:=?_)
     repeat' (first|(refine ae (hc:=hri) (hX:=fun w h=>h.1.1.2 it him) ?_)|refine gs ?_|refine gs1 fun _=>?_|fail)
     rename_i b8
     (refine ap ⟨[0,1,2,4],[(3,⟨[5],[(6,⟨[],[(7,⟨[8],[]⟩)]⟩)]⟩)]⟩ [cel b8 46 it.act.cells,cel b7 60 it.cells] (fun w=>(Items w ki I∧CelD bW [.string au] w)∧Xe w) (h:=?_))
     all_goals repeat' (first|(refine ae (hc:=hdi) (hX:=fun w h=>⟨h.1.1.2 it him,h.2⟩) ?_)|refine gdz ?_|refine ay (hsub:=by exact aK) (hy:=by (apply dt (cs:=(fndOf dI it).cells);rfl;rfl)) ?_|refine az ?_ (h':=?_)|exact aA|refine cN (size:=22) (vs:=[.agg (fndOf dI it).cells.toArray]) (css:=(fndOf dI it).cells) (hsz:=by rfl) (hcs:=by rfl) fun _=>?_|(refine jv ?_;refine aL (size:=22) (news:=(fndOf dI it).cells) (q:=1) rfl rfl rfl rfl (fun _=>At.there _ (At.there _ (At.there _ (At.here _)))) (fun w G=>bN G ao rfl rfl 1) aa (by simp only [maxLen];omega) rfl ?_ rfl ?_;(with_reducible rfl);intro A2 c2)|fail)
     all_goals
      repeat' (first|refine gs ?_|fail)
      exact ⟨(⟨k+1,hlt,A2,c2,n+1,by rw [hyes,Zz,←hn];rfl,xs++(fndOf dI it).cells,by rw [hyes,hxs];simp⟩:PikI I au rI dI),(by show I.length-(k+1)<I.length-k;omega),ai am (.cons _ (.cons _ (.cons _ (ak _)))) fun _ h=>h⟩
 have hkE:k=I.length:=by omega
 rw [hkE,Qf] at hn hxs
 obtain ⟨P,hP⟩:∃ P,selF au rI dI I=P:=⟨_,rfl⟩
 rw [hP] at hn hxs
 have hPl:P.length≤I.length:=by rw [←hP,selF,ZE];exact Z8 _ _
 subst hxs
 refine bO (pre:=[fndR ⟨A,n,c⟩ P]) (fr:=[]) (first:=#[]) (caps:=#[]) (hc:=hsort ⟨A,n,c⟩ P hn hPl) (hX:=fun _ _=>trivial) (h:=?_)
 rintro v R X' ⟨rfl,Q,hQ,rfl⟩
 have hQl:Q.length=n:=hQ.length_eq.trans hn.symm
 have hnI:n≤1000:=by omega
 refine cI (X':=fun w=>(Items w ki I∧CelD bW [.string au] w)∧Xe w) (fun w h=>h.1) ?_
 repeat' (first|refine gs ?_|(refine iQ (c:=n) (hm:=Nat.ble_eq_true_of_le aa) (hm2:=Nat.ble_eq_true_of_le aa) fun bv=>?_)|fail)
 refine bY (r:=fndR ⟨A,n,c⟩ Q) aM (p:=0<n→A.isSome=true) (fun w h h0=>bK h h0) fun hAp=>?_
 refine aq (ι:=ValI Q) (fun i=>⟨[(11,.slice i.A i.k i.c),(47,.slice A n c),(48,.int .i64 (n:Nat)),(49,.int .i64 (i.k:Nat))],[orow 46 20 (.slice i.A i.k i.c) i.k i.xs,fndR ⟨A,n,c⟩ Q],fun w=>(Items w ki I∧CelD bW [.string au] w)∧Xe w⟩) (fun i=>Q.length-i.k) ⟨0,Z2 _,_,_,[],rfl⟩ (ai am (ak _) fun _ h=>h) fun i=>?_
 obtain ⟨k2,hk2,A2,c2,xs2,hxs2⟩:=i
 simp only
 repeat' (first|refine gs ?_|(refine gp ?_ ?_<;>intro hx_ this)|fail)
 · have hlt:k2<Q.length:=by omega
   have hAp':=hAp aa
   obtain ⟨f,hf⟩:∃ f,Q[k2]?=some f:=⟨_,Zc hlt⟩
   repeat' (first|refine cN (size:=20) (vs:=[f.a.v]) (css:=f.a.cells) (hsz:=by rfl) (hcs:=by rfl) fun _=>?_|refine gs ?_|refine gs1 fun _=>?_|(refine aD (q:=k2*22) ?_)|(refine al (gP (size:=22) (m:=n) (i:=k2) (xs:=Q.map Ej.cells) (cs:=f.cells) rfl (.tail _ (.head _)) (by rw [ZE];exact hQl.symm) (HT Q) (by simp [hf])) rfl rfl rfl ?_)|(refine aE (vs:=f.a.cells) (hv:=rfl) ?_)|fail)
   refine aL (size:=20) (news:=f.a.cells) (q:=1) rfl rfl rfl rfl (fun _=>At.there _ (At.there _ (At.here _))) (fun w G=>bN G ao rfl rfl 1) aa (by simp only [maxLen];omega) rfl ?_ rfl ?_
   · (with_reducible rfl)
   intro A3 c3
   repeat' (first|refine gs ?_|fail)
   exact ⟨(⟨k2+1,hlt,A3,c3,xs2++f.a.cells,by rw [Qe,hf,hxs2];simp⟩:ValI Q),(by show Q.length-(k2+1)<Q.length-k2;omega),ai am (.cons _ (.cons _ (ak _))) fun _ h=>h⟩
 have hk2E:k2=Q.length:=by omega
 rw [hk2E,Qf] at hxs2
 have hLp:(Q.map Ej.a).Perm (selA au rI I):=by rw [←Jp au rI dI I,hP];exact hQ.map _
 refine ab (ag rfl rfl) ⟨⟨A2,k2,c2⟩,Q.map Ej.a,rfl,hLp,fun w h=>?_⟩
 have hr:=h.2 (orow 46 20 (.slice A2 k2 c2) k2 xs2) (.head _)
 refine fG (l:=Q.map Ej.a) (by rw [ZY];rw [hxs2] at hr;exact hr) (by rw [ZE];exact hk2E) fun a ha=>?_
 have ha2:=hLp.subset ha
 rw [selA] at ha2
 obtain ⟨it,hit,rfl⟩:=QH.1 ha2
 exact (h.1.1.1.2 it (QL.1 hit).1).1
theorem rW (ks ki:Xk) (I:List Xc) (au:ByteArray) (rI:Xc→Bool) (dI:Xc→ByteArray)
  (hR:∀ it∈I,Pu prog 73 #[it.v] (fun w=>it.at_ w) (.bool (rI it)))
  (hD:∀ it∈I,Pu prog 18 #[it.v] (fun w=>it.at_ w∧Xe w) (.string (dI it)))
  (hI:I.length≤1000) (hsort:SortA I.length) :
  Mk prog 62 #[.agg #[ks.v,ki.v],.string au] (fun w=>Items w ki I∧Xe w)
   (fun u X'=>∃ (s:Xk) (L:List Xa),u=s.v∧L.Perm (selA au rI I)∧∀ w,X' w→Acts w s L):=by
 refine dm func62 ntmps62 fun av bor w0=>?_
 repeat' (first|refine gs ?_|refine gs1 fun _=>?_|(refine eG ?_)|fail)
 rename_i b2 b3
 refine bJ ?_
 refine bF (hc:=DQ ks ki I b3 au rI dI hR hD hI hsort) (hX:=fun w h=>⟨⟨h.1.1,fF h.2⟩,h.1.2⟩) fun v X1 h1=>?_
 obtain ⟨s,L,rfl,hL,hw⟩:=h1
 repeat' (first|refine gs ?_|fail)
 exact ab (ag rfl rfl) ⟨s,L,rfl,hL,fun w h=>hw w h.1.2⟩
structure Xp where
 rank:Int
 dg:ByteArray
 a:Xg
def Xp.cells (f:Xp):List Value:=.int .i64 f.rank::.string f.dg::f.a.cells
theorem E6 (P:List Xp):∀ r∈P.map Xp.cells,r.length=11:=fun r hr=>by
 obtain ⟨c,_,rfl⟩:=QH.1 hr
 rfl
end Go.Proofs.YtaolfiikahlmkaaGreatDoor
namespace Go.Proofs.YtaolfiikahlmkaaGreatDoor
open Go Go.Proofs Sy SrG Tryz
namespace SrC
theorem cellsF (P:List Xp):∀ r∈P.map Xp.cells,r.length=11:=fun r hr=>by
 obtain ⟨c,_,rfl⟩:=QH.1 hr
 rfl
abbrev postR (s:Xk) (P:List Xp):Xl:=orow 304 11 (.slice s.p s.n s.c) s.n (P.map Xp.cells).flatten
theorem cF:∀ (L:List Xp) (p:Nat) (x:Xp),p<L.length→(L.map Xp.cells).flatten.take (p*11)++x.cells++(L.map Xp.cells).flatten.drop (p*11+11)=((L.set p x).map Xp.cells).flatten
 | [],p,x,h=>absurd h (by simp)
 | c::L,0,x,h=>by
  have h6:c.cells.length=11:=rfl
  rw [List.set_cons_zero,ZZ,ZZ,Z9,Z9,Nat.zero_mul,ZS,List.take_zero,ZK,List.drop_append,h6,Qu (by omega)]
  rfl
 | c::L,p+1,x,h=>by
  have h6:c.cells.length=11:=rfl
  have ih:=cF L p x (by simpa using h)
  rw [List.set_cons_succ,ZZ,ZZ,Z9,Z9,←ih,List.take_append,List.drop_append,h6,Qd aa,Qu aa,
   show (p+1)*11-11=p*11 from by omega,show (p+1)*11+11-11=p*11+11 from by omega,ZK,ZB,ZB,ZB]
theorem cS {P:List Xp} {i j:Nat} {x y:Xp} (hi:P[i]?=some x) (hj:P[j]?=some y):((P.set i y).set j x).Perm P:=by
 obtain ⟨h1,rfl⟩:=QI.1 hi
 obtain ⟨h2,rfl⟩:=QI.1 hj
 exact List.set_set_perm h1 h2
section
variable {N:Nat} {av bor:List Nat} {w0:World} {st:St} {ty:TypeId} {x y:Operand} {E:Env} {loc:List Xl} {X:World→Prop} {ops:Array Oper} {kk:St→Prop} {pos:String} {af:Array Edge} {g:Option (Nat×Bool)} {rest:List Oper} {bb want:Bool}
theorem bt {A:Option Addr} {m c i:Nat} {P:List Xp} {p:Xp} (hx:ev st.env x=some (elP A (i*11))) (hm:orow 304 11 (.slice A m c) m (P.map Xp.cells).flatten∈st.loc) (hn:m=P.length) (hi:P[i]?=some p) :
  Sy.Yields prog N av bor w0 st (.load 304 x) ty (.agg p.cells.toArray):=gP (xs:=P.map Xp.cells) (cs:=p.cells) hx hm (by simp [hn]) (cellsF P) (by simp [hi])
theorem cg {d:Option Tmp} {loc':List Xl} {A:Option Addr} {m c i:Nat} {P:List Xp} {p:Xp} (hx:ev E x=some (elP A (i*11)):=by rfl) (hy:ev E y=some (.agg p.cells.toArray):=by rfl) (hi:i<m:=by omega) (hn:m=P.length)
  (hA:At (orow 304 11 (.slice A m c) m (P.map Xp.cells).flatten) (orow 304 11 (.slice A m c) m ((P.set i p).map Xp.cells).flatten) loc loc':=by (repeat (first|exact At.here _|apply At.there))) (hg:gdB ops E g=some (bb,want):=by rfl) (hb:bb=want:=by exact aw) (hd:inB N d=true:=by rfl)
  (h:Sw prog N av bor w0 ops rest ⟨putE E d undef,loc',X⟩ kk):Sw prog N av bor w0 ops (⟨d,.store 304 x y,ty,pos,af,g⟩::rest) ⟨E,loc,X⟩ kk :=
 nR (i:=i) (size:=11) (vs:=p.cells) aj hx hy rfl rfl rfl hi (cF P i p aa) hA hg hb hd h
end
def PermAt (s:Xk) (P:List Xp) (u:Value) (R:List Xl) (X:World→Prop):Prop:=u=.tuple #[]∧∃ Q:List Xp,Q.Perm P∧R=[postR s Q]
structure PermI (P:List Xp) (n:Nat) where
 k:Nat
 hk:k≤n
 Q:List Xp
 hQ:Q.Perm P
theorem bT (s:Xk) (P:List Xp) (a b n:Nat) (fv:Value) (hs:s.n=P.length) (hm:s.n≤1000000) (ha:a+n≤s.n) (hb:b+n≤s.n) :
  Ct prog 322 #[s.v,.int .i64 (a:Nat),.int .i64 (b:Nat),.int .i64 (n:Nat),fv] [postR s P] (fun _=>True) (PermAt s P):=by
 refine cP func322 ntmps322 fun av bor w0=>?_
 refine bY (r:=postR s P) ao (p:=0<s.n→s.p.isSome=true) (fun w h hn=>bK h hn) fun hp=>?_
 repeat' (first|refine gs ?_|fail)
 refine aq (ι:=PermI P n) (fun i=>⟨[(0,s.v),(1,.int .i64 (a:Nat)),(2,.int .i64 (b:Nat)),(3,.int .i64 (n:Nat)),(10,.int .i64 (i.k:Nat))],[postR s i.Q],fun _=>True⟩) (fun i=>n-i.k) ⟨0,Z2 _,P,Ql _⟩ (ai am (ak _) fun _ h=>h) fun i=>?_
 obtain ⟨k,hk,Q,hQ⟩:=i
 simp only
 have hl:=hQ.length_eq
 repeat' (first|refine gs ?_|(refine gp ?_ ?_<;>intro hx_ this)|fail)
 · have hlt:k<n:=by omega
   have hp':=hp aa
   obtain ⟨x,hx⟩:∃ x,Q[a+k]?=some x:=⟨_,Zc aa⟩
   obtain ⟨y,hy⟩:∃ y,Q[b+k]?=some y:=⟨_,Zc aa⟩
   (refine ap ⟨[0,1,2,3,4,5,6,7,8,9,10,11,12,14,15,16,17,18],[(13,⟨[],[(19,⟨[20],[(21,⟨[22],[(23,⟨[],[]⟩)]⟩)]⟩)]⟩),(19,⟨[],[(13,⟨[20],[(21,⟨[22],[(23,⟨[],[]⟩)]⟩)]⟩)]⟩)]⟩ [] (fun _=>True) (h:=?_))
   all_goals repeat' (first|refine gd ?_|refine ay (hy:=by first|(apply aB (q:=(a+k)*11);rfl;rfl;omega;omega;assumption;(rfl))|(apply aB (q:=(b+k)*11);rfl;rfl;omega;omega;assumption;(rfl))) ?_|refine az ?_ (h':=?_)|exact aA|(refine al (bt (i:=a+k) (P:=Q) rfl ao aa hx) rfl rfl rfl ?_)|(refine al (bt (i:=b+k) (P:=Q) rfl ao aa hy) rfl rfl rfl ?_)|((refine cg (i:=a+k) (p:=y) rfl rfl aa (by first|omega|(simp only [Z7];omega)) (At.here _) rfl aw rfl ?_))|((refine cg (i:=b+k) (p:=x) rfl rfl aa (by (simp only [Z7];omega)) (At.here _) rfl aw rfl ?_))|fail)
   all_goals
    repeat' (first|refine gs ?_|fail)
    exact ⟨(⟨k+1,hlt,(Q.set (a+k) y).set (b+k) x,(cS hx hy).trans hQ⟩:PermI P n),(by show n-(k+1)<n-k;omega),ai am (ak _) fun _ h=>h⟩
 · exact aR (aH rfl) ⟨rfl,Q,hQ,rfl⟩
section
variable {N:Nat} {av bor:List Nat} {w0:World} {ops:Array Oper} {rest:List Oper} {k:St→Prop} {E:Env} {X:World→Prop} {d:Option Tmp} {ty:TypeId} {pos:String} {af:Array Edge} {g:Option (Nat×Bool)} {bb want:Bool}
theorem cb {x:Operand} {xs:List Operand} {ats:Array TypeId} {f:FuncId} {args:List Value} {s:Xk} {Q:List Xp}
  (hx:ev E x=some (.func (.func f) #[] #[]):=by rfl) (ha:evs E xs=some args:=by rfl) (hg:gdB ops E g=some (bb,want):=by rfl) (hb:bb=want:=by exact aw) (hd:inB N d=true:=by rfl) (hf:Xv prog f:=by first|infer_instance|exact ⟨aj⟩)
  (hc:Ct prog f args.toArray [postR s Q] (fun _=>True) (PermAt s Q))
  (h:∀ Q':List Xp,Q'.Perm Q→Sw prog N av bor w0 ops rest ⟨putE E d (.tuple #[]),[postR s Q'],X⟩ k) :
  Sw prog N av bor w0 ops (⟨d,.call ⟨.value x,xs.toArray,ats⟩,ty,pos,af,g⟩::rest) ⟨E,[postR s Q],X⟩ k :=
 bO (pre:=[postR s Q]) (fr:=[]) (first:=#[]) (caps:=#[]) (Post:=PermAt s Q) hx ha rfl hg hb hd hf (by simpa using hc) (fun _ _=>trivial) fun u R X' ⟨h1,Q',h2,h3⟩=>by
  subst h1
  subst h3
  refine jf (fun a w ok=>?_) (h Q' h2)
  exact ok.via fun M G=>G.imp fun _ h=>h.1
end
structure RotI (P:List Xp) (p q:Nat) where
 i:Nat
 j:Nat
 h1:1≤i
 h2:i≤p
 h3:1≤j
 h4:j≤q
 Q:List Xp
 hQ:Q.Perm P
theorem fa (s:Xk) (P:List Xp) (a m b:Nat) (fv:Value) (hs:s.n=P.length) (hm:s.n≤1000000) (ha:a<m) (hb:m<b) (hbs:b≤s.n) :
  Ct prog 319 #[s.v,.int .i64 (a:Nat),.int .i64 (m:Nat),.int .i64 (b:Nat),fv] [postR s P] (fun _=>True) (PermAt s P):=by
 refine cP func319 ntmps319 fun av bor w0=>?_
 repeat' (first|refine be (hq:=by omega) ?_|refine gs ?_|fail)
 refine aq (ι:=RotI P (m-a) (b-m)) (fun r=>⟨[(0,s.v),(2,.int .i64 (m:Nat)),(4,fv),(10,.int .i64 (r.i:Nat)),(11,.int .i64 (r.j:Nat))],[postR s r.Q],fun _=>True⟩) (fun r=>r.i+r.j) ⟨m-a,b-m,by omega,by omega,by omega,by omega,P,Ql _⟩ (ai am (ak _) fun _ h=>h) fun r=>?_
 obtain ⟨i,j,h1,h2,h3,h4,Q,hQ⟩:=r
 simp only
 have hl:=hQ.length_eq
 by_cases hij:i=j
 · repeat' (first|refine fA ?_|refine be (hq:=by omega) ?_|refine gs ?_|(refine cb (hc:=bT s Q (m-i) m i fv aa hm aa aa) (h:=fun Q2 hQ2=>?_))|fail)
   exact aR (aH rfl) ⟨rfl,Q2,hQ2.trans hQ,rfl⟩
 · repeat' (first|refine be (hq:=by omega) ?_|refine aP (hq:=by omega) ?_|refine gs ?_|(refine cb (hc:=bT s Q (m-i) m j fv aa hm aa aa) (h:=fun Q2 hQ2=>?_))|(refine cb (hc:=bT s Q (m-i) (m+j-i) i fv aa hm aa aa) (h:=fun Q2 hQ2=>?_))|(refine gp ?_ ?_<;>intro hx_ this)|fail)
   · exact ⟨(⟨i-j,j,by omega,by omega,h3,h4,Q2,hQ2.trans hQ⟩:RotI P (m-a) (b-m)),(by show i-j+j<i+j;omega),ai am (ak _) fun _ h=>h⟩
   · exact ⟨(⟨i,j-i,h1,h2,by omega,by omega,Q2,hQ2.trans hQ⟩:RotI P (m-a) (b-m)),(by show i+(j-i)<i+j;omega),ai am (ak _) fun _ h=>h⟩
   · have h9:(i:Int)=(j:Int):=by simpa using hx_
     exact absurd (show i=j by omega) hij
def cmpX (x y:Xp):Int:=cmp2 x.rank y.rank x.dg y.dg
theorem dz (x y:Xp):Pu prog 285 #[.agg x.cells.toArray,.agg y.cells.toArray] (fun _=>True) (.int .i64 (cmpX x y)):=by
 refine ax func285 ntmps285 fun av bor w0=>?_
 have h1:=iE x.rank y.rank
 have h2:=ic x.dg y.dg
 rw [cmpX,cmp2]
 generalize cmpI x.rank y.rank=k at *
 generalize SrG.cmpB_g x.dg y.dg=l at *
 have h3:=fun s=>wr s k l
 repeat' (first|refine gs ?_|refine gs1 fun _=>?_|fail)
 rename_i b2 b3
 (refine ap ⟨[0,1,2,3,5,6,7,8],[(4,⟨[],[(9,⟨[],[(10,⟨[],[(11,⟨[12],[]⟩)]⟩)]⟩)]⟩)]⟩ [cel b3 304 y.cells,cel b2 304 x.cells] (fun _=>True) (h:=?_))
 all_goals repeat' (first|(refine ae (hc:=h1) ?_)|(refine ae (hc:=h2) ?_)|(refine ae (hc:=h3 ⟨some ⟨bs,0,none⟩,2,2⟩) (hX:=fun w h=>aU (xs:=[[.int .i64 k],[.int .i64 l]]) h.2 rfl (by decide) (by simp)) ?_)|refine gdz ?_|refine az ?_ (h':=?_)|exact aA|((refine eC (len:=2) (vs:=[.int .i64 k,.int .i64 l]) fun bs=>?_;refine bJ ?_))|fail)
 all_goals
  repeat' (first|refine gs ?_|fail)
  exact ab (ag rfl rfl) rfl
def cmpF:Value:=.func (.func 285) #[] #[]
def Srt (P:List Xp):Prop:=∀ (i j:Nat) (x y:Xp),i<j→P[i]?=some x→P[j]?=some y→¬ cmpX y x<0
def Rel (P Q:List Xp):Prop:=Q.Perm P∧(Srt P→Q=P)
theorem Rel.refl (P:List Xp):Rel P P:=⟨Ql _,fun _=>rfl⟩
theorem Rel.trans {P Q R:List Xp} (h:Rel P Q) (k:Rel Q R):Rel P R:=⟨k.1.trans h.1,fun hs=>by rw [k.2 (h.2 hs▸hs),h.2 hs]⟩
theorem Rel.swap {P Q:List Xp} (h:Rel P Q) {i j:Nat} {x y:Xp} (hi:Q[i]?=some x) (hj:Q[j]?=some y) (hno:Srt P→False):Rel P ((Q.set i y).set j x):=⟨(cS hi hj).trans h.1,fun hs=>(hno hs).elim⟩
theorem Rel.srt {P Q:List Xp} (h:Rel P Q) (hs:Srt P):Srt Q:=by rw [h.2 hs];exact hs
theorem Rel.perm {P Q Q':List Xp} (h:Rel P Q) (k:Q'.Perm Q) (hno:Srt P→False):Rel P Q':=⟨k.trans h.1,fun hs=>(hno hs).elim⟩
def RelAt (s:Xk) (P:List Xp) (u:Value) (R:List Xl) (X:World→Prop):Prop:=u=.tuple #[]∧∃ Q:List Xp,Rel P Q∧R=[postR s Q]
end SrC
namespace SrC
structure InsI (P:List Xp) (a b:Nat) where
 k:Nat
 h1:a+1≤k
 h2:k≤b∨k=a+1
 Q:List Xp
 hQ:Rel P Q
structure InsJ (P:List Xp) (a k:Nat) where
 j:Nat
 h1:a≤j
 h2:j≤k
 Q:List Xp
 hQ:Rel P Q
theorem cE (s:Xk) (P:List Xp) (a b:Nat) (hs:s.n=P.length) (hm:s.n≤1000000) (ha:a≤s.n) (hb:b≤s.n) :
  Ct prog 312 #[s.v,.int .i64 (a:Nat),.int .i64 (b:Nat),cmpF] [postR s P] (fun _=>True) (RelAt s P):=by
 refine cP func312 ntmps312 fun av bor w0=>?_
 refine bY (r:=postR s P) ao (p:=0<s.n→s.p.isSome=true) (fun w h hn=>bK h hn) fun hp=>?_
 repeat' (first|refine aP (q:=1) (hq:=by omega) ?_|refine gs ?_|fail)
 refine aq (ι:=InsI P a b) (fun i=>⟨[(0,s.v),(1,.int .i64 (a:Nat)),(2,.int .i64 (b:Nat)),(3,cmpF),(8,.int .i64 (i.k:Nat))],[postR s i.Q],fun _=>True⟩) (fun i=>b-i.k) ⟨a+1,ZV _,.inr rfl,P,Rel.refl _⟩ (ai am (ak _) fun _ h=>h) fun i=>?_
 obtain ⟨k,h1,h2,Q,hQ⟩:=i
 simp only
 have hl:=hQ.1.length_eq
 repeat' (first|refine gs ?_|(refine gp ?_ ?_<;>intro hx_ this)|fail)
 · have hkb:k<b:=by omega
   refine aq (ι:=InsJ P a k) (fun i=>⟨[(0,s.v),(1,.int .i64 (a:Nat)),(2,.int .i64 (b:Nat)),(3,cmpF),(8,.int .i64 (k:Nat)),(9,.int .i64 (i.j:Nat))],[postR s i.Q],fun _=>True⟩) (fun i=>i.j) ⟨k,by omega,ZV _,Q,hQ⟩ (ai am (ak _) fun _ h=>h) fun i=>?_
   obtain ⟨j,h3,h4,Q2,hQ2⟩:=i
   simp only
   have hl2:=hQ2.1.length_eq
   have hp':=hp aa
   by_cases hja:a<j
   · obtain ⟨x,hx⟩:∃ x,Q2[j]?=some x:=⟨_,Zc aa⟩
     obtain ⟨y,hy⟩:∃ y,Q2[j-1]?=some y:=⟨_,Zc aa⟩
     have hcm:=dz x y
     have hsx:Srt P→¬ cmpX x y<0:=fun hs=>hQ2.srt hs (j-1) j y x aa hy hx
     generalize cmpX x y=z at *
     apply QQ
     apply QQ
     unfold cmpF
     (refine ap ⟨[0,1,2,3,4,5,6,7,9,10,11,12],[(8,⟨[],[(13,⟨[],[(14,⟨[15,16],[]⟩)]⟩)]⟩),(13,⟨[],[(8,⟨[],[(14,⟨[15,16],[]⟩)]⟩)]⟩)]⟩ [] (fun _=>True) (h:=?_))
     all_goals repeat' (first|refine ay (hy:=by (apply y_gtrT_g;rfl;rfl;omega)) ?_|(refine ae (hc:=hcm) ?_)|refine gd ?_|refine ay (hy:=by first|(apply aB (q:=j*11);rfl;rfl;omega;omega;assumption;(rfl))|(apply aB (q:=(j-1)*11);rfl;rfl;omega;omega;assumption;(omega))) ?_|refine az ?_ (h':=?_)|exact aA|(refine al (bt (i:=j) (P:=Q2) rfl ao aa hx) rfl rfl rfl ?_)|(refine al (bt (i:=j-1) (P:=Q2) rfl ao aa hy) rfl rfl rfl ?_)|fail)
     all_goals
      repeat' (first|refine gs ?_|(refine gp ?_ ?_<;>intro hx_ this)|fail)
      · (refine ap ⟨[0,1,2,3,4,5,6,7,8,10,11,12],[(9,⟨[],[(13,⟨[14],[(15,⟨[16],[(17,⟨[],[]⟩)]⟩)]⟩)]⟩),(13,⟨[],[(9,⟨[14],[(15,⟨[16],[(17,⟨[],[]⟩)]⟩)]⟩)]⟩)]⟩ [] (fun _=>True) (h:=?_))
        all_goals repeat' (first|refine gd ?_|refine ay (hy:=by first|(apply aB (q:=j*11);rfl;rfl;omega;omega;assumption;(rfl))|(apply aB (q:=(j-1)*11);rfl;rfl;omega;omega;assumption;(omega))) ?_|refine az ?_ (h':=?_)|exact aA|(refine al (bt (i:=j) (P:=Q2) rfl ao aa hx) rfl rfl rfl ?_)|(refine al (bt (i:=j-1) (P:=Q2) rfl ao aa hy) rfl rfl rfl ?_)|((refine cg (i:=j) (p:=y) rfl rfl aa (by first|omega|(simp only [Z7];omega)) (At.here _) rfl aw rfl ?_))|((refine cg (i:=j-1) (p:=x) rfl rfl aa (by (simp only [Z7];omega)) (At.here _) rfl aw rfl ?_))|fail)
        all_goals
         repeat' (first|refine be (q:=1) (hq:=by omega) ?_|refine gs ?_|fail)
         exact ⟨(⟨j-1,by omega,by omega,(Q2.set j y).set (j-1) x,hQ2.swap hx hy (fun hs=>hsx hs (by assumption))⟩:InsJ P a k),(by show j-1<j;omega),ai am (ak _) fun _ h=>h⟩
      · repeat' (first|refine aP (q:=1) (hq:=by omega) ?_|fail)
        exact ⟨(⟨k+1,by omega,by omega,Q2,hQ2⟩:InsI P a b),(by show b-(k+1)<b-k;omega),ai am (ak _) fun _ h=>h⟩
   · apply QQ
     apply QQ
     unfold cmpF
     (refine ap ⟨[0,1,2,3,4,5,6,7,9,10,11,12],[(8,⟨[],[(13,⟨[],[(14,⟨[15,16],[]⟩)]⟩)]⟩),(13,⟨[],[(8,⟨[],[(14,⟨[15,16],[]⟩)]⟩)]⟩)]⟩ [] (fun _=>True) (h:=?_))
     all_goals repeat' (first|refine ay (hy:=by (apply y_gtrF_g;rfl;rfl;omega)) ?_|refine gd ?_|refine az ?_ (h':=?_)|exact aA|fail)
     all_goals
      repeat' (first|refine aP (q:=1) (hq:=by omega) ?_|refine gs ?_|fail)
      exact ⟨(⟨k+1,by omega,by omega,Q2,hQ2⟩:InsI P a b),(by show b-(k+1)<b-k;omega),ai am (ak _) fun _ h=>h⟩
 · exact aR (aH rfl) ⟨rfl,Q,hQ,rfl⟩
section
variable {N:Nat} {av bor:List Nat} {w0:World} {ops:Array Oper} {rest:List Oper} {k:St→Prop} {E:Env} {X:World→Prop} {d:Option Tmp} {ty:TypeId} {pos:String} {af:Array Edge} {g:Option (Nat×Bool)} {bb want:Bool}
theorem ij {x:Operand} {xs:List Operand} {ats:Array TypeId} {f:FuncId} {args:List Value} {s:Xk} {Q:List Xp}
  (hx:ev E x=some (.func (.func f) #[] #[]):=by rfl) (ha:evs E xs=some args:=by rfl) (hg:gdB ops E g=some (bb,want):=by rfl) (hb:bb=want:=by exact aw) (hd:inB N d=true:=by rfl) (hf:Xv prog f:=by first|infer_instance|exact ⟨aj⟩)
  (hc:Ct prog f args.toArray [postR s Q] (fun _=>True) (RelAt s Q))
  (h:∀ Q':List Xp,Rel Q Q'→Sw prog N av bor w0 ops rest ⟨putE E d (.tuple #[]),[postR s Q'],X⟩ k) :
  Sw prog N av bor w0 ops (⟨d,.call ⟨.value x,xs.toArray,ats⟩,ty,pos,af,g⟩::rest) ⟨E,[postR s Q],X⟩ k :=
 bO (pre:=[postR s Q]) (fr:=[]) (first:=#[]) (caps:=#[]) (Post:=RelAt s Q) hx ha rfl hg hb hd hf (by simpa using hc) (fun _ _=>trivial) fun u R X' ⟨h1,Q',h2,h3⟩=>by
  subst h1
  subst h3
  refine jf (fun a w ok=>?_) (h Q' h2)
  exact ok.via fun M G=>G.imp fun _ h=>h.1
theorem cC {x:Operand} {xs:List Operand} {ats:Array TypeId} {f:FuncId} {args:List Value} {s:Xk} {P Q:List Xp} (hQ:Rel P Q)
  (hx:ev E x=some (.func (.func f) #[] #[]):=by rfl) (ha:evs E xs=some args:=by rfl) (hg:gdB ops E g=some (bb,want):=by rfl) (hb:bb=want:=by exact aw) (hd:inB N d=true:=by rfl) (hf:Xv prog f:=by first|infer_instance|exact ⟨aj⟩)
  (hc:∀ Q:List Xp,Rel P Q→Ct prog f args.toArray [postR s Q] (fun _=>True) (RelAt s Q))
  (h:∀ Q':List Xp,Rel P Q'→Sw prog N av bor w0 ops rest ⟨putE E d (.tuple #[]),[postR s Q'],X⟩ k) :
  Sw prog N av bor w0 ops (⟨d,.call ⟨.value x,xs.toArray,ats⟩,ty,pos,af,g⟩::rest) ⟨E,[postR s Q],X⟩ k:=ij hx ha hg hb hd hf (hc Q hQ) fun Q' h1=>h Q' (hQ.trans h1)
theorem jJ {x:Operand} {xs:List Operand} {ats:Array TypeId} {f:FuncId} {args:List Value} {s:Xk} {P Q:List Xp} (hQ:Rel P Q) (hno:Srt P→False)
  (hx:ev E x=some (.func (.func f) #[] #[]):=by rfl) (ha:evs E xs=some args:=by rfl) (hg:gdB ops E g=some (bb,want):=by rfl) (hb:bb=want:=by exact aw) (hd:inB N d=true:=by rfl) (hf:Xv prog f:=by first|infer_instance|exact ⟨aj⟩)
  (hc:∀ Q:List Xp,Rel P Q→Ct prog f args.toArray [postR s Q] (fun _=>True) (PermAt s Q))
  (h:∀ Q':List Xp,Rel P Q'→Sw prog N av bor w0 ops rest ⟨putE E d (.tuple #[]),[postR s Q'],X⟩ k) :
  Sw prog N av bor w0 ops (⟨d,.call ⟨.value x,xs.toArray,ats⟩,ty,pos,af,g⟩::rest) ⟨E,[postR s Q],X⟩ k:=cb hx ha hg hb hd hf (hc Q hQ) fun Q' h1=>h Q' (hQ.perm h1 hno)
end
structure BinL (P:List Xp) (lo hi:Nat) extends BinI_g lo hi where
 hs:Srt P→i=lo
structure BinR (P:List Xp) (lo hi:Nat) extends BinI_g lo hi where
 hs:Srt P→j=hi
structure MerO (P:List Xp) (a m b mid:Nat) extends MerI_g a m b mid where
 hs:Srt P→j=(if mid<m then mid else m)
structure UpI (P:List Xp) (a:Nat) where
 k:Nat
 h1:a≤k
 Q:List Xp
 hQ:Rel P Q
structure DownI (P:List Xp) (i m:Nat) where
 k:Nat
 h1:i≤k
 h2:k≤m
 Q:List Xp
 hQ:Rel P Q
set_option maxRecDepth 20000 in
theorem cf:∀ (d:Nat) (s:Xk) (P:List Xp) (a m b:Nat),b-a≤d→s.n=P.length→s.n≤1000000→a<m→m<b→b≤s.n →
  Ct prog 313 #[s.v,.int .i64 (a:Nat),.int .i64 (m:Nat),.int .i64 (b:Nat),cmpF] [postR s P] (fun _=>True) (RelAt s P)
 | 0,s,P,a,m,b,hd,hs,hm,ha,hb,hbs=>absurd hd aa
 | d+1,s,P,a,m,b,hd,hs,hm,ha,hb,hbs=>by
  have ih:=cf d
  have hP:Rel P P:=Rel.refl P
  refine cP func313 ntmps313 fun av bor w0=>?_
  refine bY (r:=postR s P) ao (p:=0<s.n→s.p.isSome=true) (fun w h hn=>bK h hn) fun hp=>?_
  have hp':=hp aa
  by_cases hA:m-a=1
  · repeat' (first|refine be (hq:=by omega) ?_|refine aF ?_|refine gs ?_|fail)
    refine aq (ι:=BinL P m b) (fun r=>⟨[(0,s.v),(1,.int .i64 (a:Nat)),(4,cmpF),(10,.int .i64 (r.i:Nat)),(11,.int .i64 (r.j:Nat))],[postR s P],fun _=>True⟩) (fun r=>r.j-r.i) ⟨⟨m,b,by omega,by omega,by omega⟩,fun _=>rfl⟩ (ai am (ak _) fun _ h=>h) fun r=>?_
    obtain ⟨⟨i,j,h1,h2,h3⟩,hso⟩:=r
    simp only at hso
    simp only
    repeat' (first|refine aP (hq:=by omega) ?_|refine sy_toU_g (hq:=by omega) ?_|refine cY ?_|refine sy_toI_g (hq:=by omega) ?_|refine gs ?_|(refine gp ?_ ?_<;>intro hx_ this)|fail)
    · have hlt:i<j:=by omega
      obtain ⟨x,hx⟩:∃ x,P[(i+j)/2]?=some x:=⟨_,Zc aa⟩
      obtain ⟨y,hy⟩:∃ y,P[a]?=some y:=⟨_,Zc aa⟩
      have hcm:=dz x y
      have hsx:Srt P→¬ cmpX x y<0:=fun hs=>hs a ((i+j)/2) y x aa hy hx
      generalize cmpX x y=z at *
      unfold cmpF
      (refine ap ⟨[0,1,2,3,5,6,7],[(4,⟨[],[(8,⟨[],[(9,⟨[10],[]⟩)]⟩)]⟩),(8,⟨[],[(4,⟨[],[(9,⟨[10],[]⟩)]⟩)]⟩)]⟩ [] (fun _=>True) (h:=?_))
      all_goals repeat' (first|(refine ae (hc:=hcm) ?_)|refine gd ?_|refine ay (hy:=by first|(apply aB (q:=((i+j)/2)*11);rfl;rfl;omega;omega;assumption;(rfl))|(apply aB (q:=(a)*11);rfl;rfl;omega;omega;assumption;(rfl))) ?_|refine az ?_ (h':=?_)|exact aA|(refine al (bt (i:=(i+j)/2) (P:=P) rfl ao aa hx) rfl rfl rfl ?_)|(refine al (bt (i:=a) (P:=P) rfl ao aa hy) rfl rfl rfl ?_)|fail)
      all_goals
       repeat' (first|refine aP (q:=1) (hq:=by omega) ?_|refine gs ?_|(refine gp ?_ ?_<;>intro hx_ this)|fail)
       · exact ⟨(⟨⟨(i+j)/2+1,j,by omega,by omega,h3⟩,fun hs=>absurd (show z<0 by assumption) (hsx hs)⟩:BinL P m b),(by show j-((i+j)/2+1)<j-i;omega),ai am (ak _) fun _ h=>h⟩
       · exact ⟨(⟨⟨i,(i+j)/2,h1,by omega,by omega⟩,hso⟩:BinL P m b),(by show (i+j)/2-i<j-i;omega),ai am (ak _) fun _ h=>h⟩
    · refine aq (ι:=UpI P a) (fun r=>⟨[(0,s.v),(10,.int .i64 (i:Nat)),(13,.int .i64 (r.k:Nat))],[postR s r.Q],fun _=>True⟩) (fun r=>i-r.k) ⟨a,ZV _,P,hP⟩ (ai am (ak _) fun _ h=>h) fun r=>?_
      obtain ⟨k,h4,Q,hQ⟩:=r
      simp only
      have hl:=hQ.1.length_eq
      repeat' (first|refine be (q:=1) (hq:=by omega) ?_|refine gs ?_|(refine gp ?_ ?_<;>intro hx_ this)|fail)
      · have hlt:k+1<i:=by omega
        obtain ⟨x,hx⟩:∃ x,Q[k]?=some x:=⟨_,Zc aa⟩
        obtain ⟨y,hy⟩:∃ y,Q[k+1]?=some y:=⟨_,Zc aa⟩
        (refine ap ⟨[0,1,2,3,4,5,6,7,8,10,11,12],[(9,⟨[],[(13,⟨[14],[(15,⟨[16],[(17,⟨[],[]⟩)]⟩)]⟩)]⟩),(13,⟨[],[(9,⟨[14],[(15,⟨[16],[(17,⟨[],[]⟩)]⟩)]⟩)]⟩)]⟩ [] (fun _=>True) (h:=?_))
        all_goals repeat' (first|refine gd ?_|refine ay (hy:=by first|(apply aB (q:=(k)*11);rfl;rfl;omega;omega;assumption;(rfl))|(apply aB (q:=(k+1)*11);rfl;rfl;omega;omega;assumption;(rfl))) ?_|refine az ?_ (h':=?_)|exact aA|(refine al (bt (i:=k) (P:=Q) rfl ao aa hx) rfl rfl rfl ?_)|(refine al (bt (i:=k+1) (P:=Q) rfl ao aa hy) rfl rfl rfl ?_)|((refine cg (i:=k) (p:=y) rfl rfl aa (by first|omega|(simp only [Z7];omega)) (At.here _) rfl aw rfl ?_))|((refine cg (i:=k+1) (p:=x) rfl rfl aa (by (simp only [Z7];omega)) (At.here _) rfl aw rfl ?_))|fail)
        all_goals
         repeat' (first|refine aP (q:=1) (hq:=by omega) ?_|refine gs ?_|fail)
         exact ⟨(⟨k+1,by omega,(Q.set k y).set (k+1) x,hQ.swap hx hy (fun hs=>by have:=hso hs;omega)⟩:UpI P a),(by show i-(k+1)<i-k;omega),ai am (ak _) fun _ h=>h⟩
      · exact ab (aH rfl) ⟨rfl,Q,hQ,rfl⟩
  · by_cases hB:b-m=1
    · repeat' (first|refine be (hq:=by omega) ?_|refine aF ?_|refine aI ?_|refine gs ?_|fail)
      refine aq (ι:=BinR P a m) (fun r=>⟨[(0,s.v),(2,.int .i64 (m:Nat)),(4,cmpF),(14,.int .i64 (r.i:Nat)),(15,.int .i64 (r.j:Nat))],[postR s P],fun _=>True⟩) (fun r=>r.j-r.i) ⟨⟨a,m,by omega,by omega,by omega⟩,fun _=>rfl⟩ (ai am (ak _) fun _ h=>h) fun r=>?_
      obtain ⟨⟨i,j,h1,h2,h3⟩,hso⟩:=r
      simp only at hso
      simp only
      repeat' (first|refine aP (hq:=by omega) ?_|refine sy_toU_g (hq:=by omega) ?_|refine cY ?_|refine sy_toI_g (hq:=by omega) ?_|refine gs ?_|(refine gp ?_ ?_<;>intro hx_ this)|fail)
      · have hlt:i<j:=by omega
        obtain ⟨x,hx⟩:∃ x,P[m]?=some x:=⟨_,Zc aa⟩
        obtain ⟨y,hy⟩:∃ y,P[(i+j)/2]?=some y:=⟨_,Zc aa⟩
        have hcm:=dz x y
        have hsx:Srt P→¬ cmpX x y<0:=fun hs=>hs ((i+j)/2) m y x aa hy hx
        generalize cmpX x y=z at *
        unfold cmpF
        (refine ap ⟨[0,1,2,3,5,6,7],[(4,⟨[],[(8,⟨[],[(9,⟨[10,11],[]⟩)]⟩)]⟩),(8,⟨[],[(4,⟨[],[(9,⟨[10,11],[]⟩)]⟩)]⟩)]⟩ [] (fun _=>True) (h:=?_))
        all_goals repeat' (first|(refine ae (hc:=hcm) ?_)|refine gd ?_|refine ay (hy:=by first|(apply aB (q:=(m)*11);rfl;rfl;omega;omega;assumption;(rfl))|(apply aB (q:=((i+j)/2)*11);rfl;rfl;omega;omega;assumption;(rfl))) ?_|refine az ?_ (h':=?_)|exact aA|(refine al (bt (i:=m) (P:=P) rfl ao aa hx) rfl rfl rfl ?_)|(refine al (bt (i:=(i+j)/2) (P:=P) rfl ao aa hy) rfl rfl rfl ?_)|fail)
        all_goals
         repeat' (first|refine aP (q:=1) (hq:=by omega) ?_|refine gs ?_|(refine gp ?_ ?_<;>intro hx_ this)|fail)
         · exact ⟨(⟨⟨(i+j)/2+1,j,by omega,by omega,h3⟩,hso⟩:BinR P a m),(by show j-((i+j)/2+1)<j-i;omega),ai am (ak _) fun _ h=>h⟩
         · exact ⟨(⟨⟨i,(i+j)/2,h1,by omega,by omega⟩,fun hs=>absurd (show z<0 by (simp_all;done)) (hsx hs)⟩:BinR P a m),(by show (i+j)/2-i<j-i;omega),ai am (ak _) fun _ h=>h⟩
      · refine aq (ι:=DownI P i m) (fun r=>⟨[(0,s.v),(14,.int .i64 (i:Nat)),(17,.int .i64 (r.k:Nat))],[postR s r.Q],fun _=>True⟩) (fun r=>r.k) ⟨m,by omega,ZV _,P,hP⟩ (ai am (ak _) fun _ h=>h) fun r=>?_
        obtain ⟨k,h4,h5,Q,hQ⟩:=r
        simp only
        have hl:=hQ.1.length_eq
        repeat' (first|refine gs ?_|(refine gp ?_ ?_<;>intro hx_ this)|fail)
        · have hlt:i<k:=by omega
          obtain ⟨x,hx⟩:∃ x,Q[k]?=some x:=⟨_,Zc aa⟩
          obtain ⟨y,hy⟩:∃ y,Q[k-1]?=some y:=⟨_,Zc aa⟩
          (refine ap ⟨[0,1,2,3,4,5,6,7,8,10,11,12],[(9,⟨[],[(13,⟨[14],[(15,⟨[16],[(17,⟨[],[]⟩)]⟩)]⟩)]⟩),(13,⟨[],[(9,⟨[14],[(15,⟨[16],[(17,⟨[],[]⟩)]⟩)]⟩)]⟩)]⟩ [] (fun _=>True) (h:=?_))
          all_goals repeat' (first|refine gd ?_|refine ay (hy:=by first|(apply aB (q:=(k)*11);rfl;rfl;omega;omega;assumption;(rfl))|(apply aB (q:=(k-1)*11);rfl;rfl;omega;omega;assumption;(omega))) ?_|refine az ?_ (h':=?_)|exact aA|(refine al (bt (i:=k) (P:=Q) rfl ao aa hx) rfl rfl rfl ?_)|(refine al (bt (i:=k-1) (P:=Q) rfl ao aa hy) rfl rfl rfl ?_)|((refine cg (i:=k) (p:=y) rfl rfl aa (by first|omega|(simp only [Z7];omega)) (At.here _) rfl aw rfl ?_))|((refine cg (i:=k-1) (p:=x) rfl rfl aa (by (simp only [Z7];omega)) (At.here _) rfl aw rfl ?_))|fail)
          all_goals
           repeat' (first|refine be (q:=1) (hq:=by omega) ?_|refine gs ?_|fail)
           exact ⟨(⟨k-1,by omega,by omega,(Q.set k y).set (k-1) x,hQ.swap hx hy (fun hs=>by have:=hso hs;omega)⟩:DownI P i m),(by show k-1<k;omega),ai am (ak _) fun _ h=>h⟩
        · exact ab (aH rfl) ⟨rfl,Q,hQ,rfl⟩
    · obtain ⟨mid,hmid⟩:∃ mid,mid=(a+b)/2:=⟨_,rfl⟩
      have hm1:a<mid:=by omega
      have hm2:mid<b:=by omega
      have hm3:2*mid≤a+b:=by omega
      have hm4:a+b≤2*mid+1:=by omega
      by_cases hmm:mid<m
      all_goals
       repeat' (first|refine aI ?_|refine d5 ?_|refine eQ ?_|refine be (q:=1) (hq:=by omega) ?_|refine be (hq:=by omega) ?_|refine aP (hq:=by omega) ?_|refine sy_toU_g (hq:=by omega) ?_|refine cY ?_|refine sy_toI_g (hq:=by omega) ?_|refine gs ?_|fail)
       rw [←hmid]
       first
        | refine aq (ι:=MerO P a m b mid) (fun r=>⟨[(0,s.v),(1,.int .i64 (a:Nat)),(2,.int .i64 (m:Nat)),(3,.int .i64 (b:Nat)),(4,cmpF),(18,.int .i64 (mid:Nat)),(19,.int .i64 ((mid+m:Nat):Int)),(20,.int .i64 (r.i:Nat)),(21,.int .i64 (r.j:Nat)),(22,.int .i64 ((mid+m-1:Nat):Int))],[postR s P],fun _=>True⟩) (fun r=>r.j-r.i) ⟨⟨mid+m-b,mid,by omega,by omega,by omega⟩,fun _=>by rw [ZN (by assumption)]⟩ (ai am (ak _) fun _ h=>h) fun r=>?_
        | refine aq (ι:=MerO P a m b mid) (fun r=>⟨[(0,s.v),(1,.int .i64 (a:Nat)),(2,.int .i64 (m:Nat)),(3,.int .i64 (b:Nat)),(4,cmpF),(18,.int .i64 (mid:Nat)),(19,.int .i64 ((mid+m:Nat):Int)),(20,.int .i64 (r.i:Nat)),(21,.int .i64 (r.j:Nat)),(22,.int .i64 ((mid+m-1:Nat):Int))],[postR s P],fun _=>True⟩) (fun r=>r.j-r.i) ⟨⟨a,m,by omega,by omega,by omega⟩,fun _=>by rw [ZO (by assumption)]⟩ (ai am (ak _) fun _ h=>h) fun r=>?_
       obtain ⟨⟨i,j,h1,h2,h3⟩,hso⟩:=r
       simp only at hso
       simp only
       have hk1:a≤i:=by omega
       have hk2:j≤m:=by omega
       have hk3:i≤mid+m:=by omega
       by_cases hij:i<j
       · have hk4:(i+j)/2<j:=by omega
         have hk5:i≤(i+j)/2:=by omega
         have hk6:(i+j)/2≤mid+m-1:=by omega
         have hk7:mid+m-1-(i+j)/2<b:=by omega
         repeat' (first|refine sy_lssT_g ?_|refine aP (hq:=by omega) ?_|refine sy_toU_g (hq:=by omega) ?_|refine cY ?_|refine sy_toI_g (hq:=by omega) ?_|refine gs ?_|fail)
         obtain ⟨x,hx⟩:∃ x,P[mid+m-1-(i+j)/2]?=some x:=⟨_,Zc aa⟩
         obtain ⟨y,hy⟩:∃ y,P[(i+j)/2]?=some y:=⟨_,Zc aa⟩
         have hcm:=dz x y
         have hsx:Srt P→¬ cmpX x y<0:=fun hs=>hs ((i+j)/2) (mid+m-1-(i+j)/2) y x aa hy hx
         generalize cmpX x y=z at *
         unfold cmpF
         (refine ap ⟨[0,1,2,3,4,5,7,8,9],[(6,⟨[],[(10,⟨[],[(11,⟨[12,13],[]⟩)]⟩)]⟩),(10,⟨[],[(6,⟨[],[(11,⟨[12,13],[]⟩)]⟩)]⟩)]⟩ [] (fun _=>True) (h:=?_))
         all_goals repeat' (first|(refine ae (hc:=hcm) ?_)|refine gd ?_|refine ay (hy:=by first|(apply aB (q:=(mid+m-1-(i+j)/2)*11);rfl;rfl;omega;omega;assumption;(omega))|(apply aB (q:=((i+j)/2)*11);rfl;rfl;omega;omega;assumption;(rfl))) ?_|refine az ?_ (h':=?_)|exact aA|(refine al (bt (i:=mid+m-1-(i+j)/2) (P:=P) rfl ao aa hx) rfl rfl rfl ?_)|(refine al (bt (i:=(i+j)/2) (P:=P) rfl ao aa hy) rfl rfl rfl ?_)|fail)
         all_goals
          repeat' (first|refine aP (q:=1) (hq:=by omega) ?_|refine gs ?_|(refine gp ?_ ?_<;>intro hx_ this)|fail)
          · exact ⟨(⟨⟨(i+j)/2+1,j,by omega,by omega,by omega⟩,hso⟩:MerO P a m b mid),(by show j-((i+j)/2+1)<j-i;omega),ai am (ak _) fun _ h=>h⟩
          · exact ⟨(⟨⟨i,(i+j)/2,by omega,by omega,by omega⟩,fun hs=>absurd (show z<0 by (simp_all;done)) (hsx hs)⟩:MerO P a m b mid),(by show (i+j)/2-i<j-i;omega),ai am (ak _) fun _ h=>h⟩
       · have hk8:mid+m-i≤b:=by omega
         have hnl:¬ (i:Int)<(j:Int):=by omega
         repeat' (first|refine sy_lssF_g (hab:=by first|exact hnl|omega) ?_|refine sy_lssT_g ?_|refine be (hq:=by omega) ?_|refine gs ?_|(refine jJ (P:=P) (hQ:=by assumption) (hno:=fun hs=>by have:=hso hs;split at this<;>omega) (hc:=fun Q hQ=>fa s Q i m (mid+m-i) cmpF (hs.trans hQ.1.length_eq.symm) hm aa aa aa) (h:=fun Q2 hQ2=>?_))|(refine cC (P:=P) (hQ:=by assumption) (hc:=fun Q hQ=>ih s Q a i mid aa (hs.trans hQ.1.length_eq.symm) hm aa aa aa) (h:=fun Q2 hQ2=>?_))|(refine cC (P:=P) (hQ:=by assumption) (hc:=fun Q hQ=>ih s Q mid (mid+m-i) b aa (hs.trans hQ.1.length_eq.symm) hm aa aa aa) (h:=fun Q2 hQ2=>?_))|(refine gp ?_ ?_<;>intro hx_ this)|fail)
         all_goals
          refine aR (aH rfl) ⟨rfl,_,?_,rfl⟩
          assumption
end SrC
namespace SrC
structure StaI (P:List Xp) (n w:Nat) where
 a:Nat
 b:Nat
 h1:a≤n
 h2:b=a+w
 Q:List Xp
 hQ:Rel P Q
structure StaO (P:List Xp) (n:Nat) where
 z:Nat
 h1:1≤z
 h2:z≤2*n+20
 Q:List Xp
 hQ:Rel P Q
set_option maxRecDepth 20000 in
theorem eZ (s:Xk) (P:List Xp) (hs:s.n=P.length) (hm:s.n≤1000000):Ct prog 296 #[s.v,.int .i64 (s.n:Nat),cmpF] [postR s P] (fun _=>True) (RelAt s P):=by
 have hP:Rel P P:=Rel.refl P
 refine cP func296 ntmps296 fun av bor w0=>?_
 repeat' (first|refine gs ?_|fail)
 refine aq (ι:=StaI P s.n 20) (fun r=>⟨[(0,s.v),(1,.int .i64 (s.n:Nat)),(2,cmpF),(6,.int .i64 20),(7,.int .i64 (r.a:Nat)),(8,.int .i64 (r.b:Nat))],[postR s r.Q],fun _=>True⟩) (fun r=>s.n-r.a) ⟨0,20,Z2 _,rfl,P,hP⟩ (ai am (ak _) fun _ h=>h) fun r=>?_
 obtain ⟨a,b,h1,h2,Q,hQ⟩:=r
 simp only
 repeat' (first|refine aP (q:=20) (hq:=by omega) ?_|refine gs ?_|(refine cC (P:=P) (hQ:=by assumption) (hc:=fun Q hQ=>cE s Q a b (hs.trans hQ.1.length_eq.symm) hm aa aa) (h:=fun Q2 hQ2=>?_))|(refine cC (P:=P) (hQ:=by assumption) (hc:=fun Q hQ=>cE s Q a s.n (hs.trans hQ.1.length_eq.symm) hm aa aa) (h:=fun Q2 hQ2=>?_))|(refine gp ?_ ?_<;>intro hx_ this)|fail)
 · exact ⟨(⟨b,b+20,by omega,rfl,Q2,hQ2⟩:StaI P s.n 20),(by show s.n-b<s.n-a;omega),ai am (ak _) fun _ h=>h⟩
 · refine aq (ι:=StaO P s.n) (fun r=>⟨[(0,s.v),(1,.int .i64 (s.n:Nat)),(2,cmpF),(6,.int .i64 (r.z:Nat))],[postR s r.Q],fun _=>True⟩) (fun r=>s.n-r.z) ⟨20,by omega,by omega,Q2,hQ2⟩ (ai am (ak _) fun _ h=>h) fun r=>?_
   clear h1 h2 hQ hQ2
   obtain ⟨z,h1,h2,Q,hQ⟩:=r
   simp only
   repeat' (first|refine dZ (p:=2) (hq:=by omega) ?_|refine gs ?_|(refine gp ?_ ?_<;>intro hx_ this)|fail)
   · have hzn:z<s.n:=by omega
     refine aq (ι:=StaI P s.n (2*z)) (fun r=>⟨[(0,s.v),(1,.int .i64 (s.n:Nat)),(2,cmpF),(6,.int .i64 (z:Nat)),(7,.int .i64 (r.a:Nat)),(8,.int .i64 (r.b:Nat))],[postR s r.Q],fun _=>True⟩) (fun r=>s.n-r.a) ⟨0,2*z,Z2 _,(ZS _).symm,Q,hQ⟩ (ai am (ak _) fun _ h=>h) fun r=>?_
     obtain ⟨a,b,h3,h4,Q3,hQ3⟩:=r
     simp only
     repeat' (first|refine aP (hq:=by omega) ?_|refine dZ (p:=2) (hq:=by omega) ?_|refine dZ (q:=2) (hq:=by omega) ?_|refine gs ?_|(refine cC (P:=P) (hQ:=by assumption) (hc:=fun Q hQ=>cf (b-a) s Q a (a+z) b (ZV _) (hs.trans hQ.1.length_eq.symm) hm aa aa aa) (h:=fun Q2 hQ2=>?_))|(refine cC (P:=P) (hQ:=by assumption) (hc:=fun Q hQ=>cf (s.n-a) s Q a (a+z) s.n (ZV _) (hs.trans hQ.1.length_eq.symm) hm aa aa aa) (h:=fun Q2 hQ2=>?_))|(refine gp ?_ ?_<;>intro hx_ this)|fail)
     · exact ⟨(⟨b,b+2*z,by omega,rfl,Q2,hQ2⟩:StaI P s.n (2*z)),(by show s.n-b<s.n-a;omega),ai am (ak _) fun _ h=>h⟩
     all_goals
      refine ⟨(⟨z*2,by omega,by omega,_,?_⟩:StaO P s.n),(by show s.n-z*2<s.n-z;omega),ai am (ak _) fun _ h=>h⟩
      assumption
   · exact aR (aH rfl) ⟨rfl,Q,hQ,rfl⟩
theorem sortStable_ct (s:Xk) (P:List Xp) (hs:s.n=P.length) (hm:s.n≤1000000):Ct prog 284 #[s.v,cmpF] [postR s P] (fun _=>True) (RelAt s P):=by
 have hP:Rel P P:=Rel.refl P
 refine cP func284 ntmps284 fun av bor w0=>?_
 repeat' (first|refine gs ?_|(refine cC (P:=P) (hQ:=by assumption) (hc:=fun Q hQ=>eZ s Q (hs.trans hQ.1.length_eq.symm) hm) (h:=fun Q2 hQ2=>?_))|fail)
 exact aR (aH rfl) ⟨rfl,Q2,hQ2,rfl⟩
end SrC
end Go.Proofs.YtaolfiikahlmkaaGreatDoor
namespace Go.Proofs.YtaolfiikahlmkaaGreatDoor
open Go Go.Proofs Sy Tryz
def Claims (w:World) (s:Xk) (l:List Xg):Prop:=Xf w 9 s (l.map Xg.cells)
theorem vj (l:List Xg):∀ r∈l.map Xg.cells,r.length=9:=fun r hr=>by
 obtain ⟨c,_,rfl⟩:=QH.1 hr
 rfl
def wantC (au:ByteArray) (it:Xc):Bool:=decide (it.kind=1)&&seqB it.claim.actor au
theorem B7 (bW:Nat) (au:ByteArray) (it:Xc):Pu prog 253 #[it.v,.pointer (some ⟨bW,0,none⟩)] (CelD bW [.string au]) (.tuple #[it.claim.v,.int .i64 0,.bool (wantC au it)]):=by
 refine ax func253 ntmps253 fun av bor w0=>?_
 repeat' (first|refine gs ?_|refine gs1 fun _=>?_|fail)
 rename_i b2 b3
 by_cases h0:it.kind=1
 · (refine ap ⟨[0,1,2,3,4,5,6,7,8,9,10,11],[(12,⟨[13,14],[]⟩)]⟩ [cel b2 60 it.cells] (CelD bW [.string au]) (h:=?_))
   all_goals repeat' (first|refine ay (hsub:=by exact aK) (hy:=by (apply d9 true;rfl;rfl;exact Ze h0)) ?_|refine gdz ?_|refine ay (hsub:=by exact aK) (hy:=by first|(apply cu (vs:=it.claim.cells);rfl;exact .head _;rfl;rfl)|(apply fQ;rfl;exact (fun w h=>h 0 _ rfl))) ?_|refine az ?_ (h':=?_)|exact aA|fail)
   all_goals
    repeat' (first|refine gs ?_|fail)
    exact ab (db rfl rfl rfl rfl (.head _) rfl) (by rw [wantC,Ze h0];rfl)
 · (refine ap ⟨[0,1,2,3,4,5,6,7,8,9,10,11],[(12,⟨[13,14],[]⟩)]⟩ [cel b2 60 it.cells] (CelD bW [.string au]) (h:=?_))
   all_goals repeat' (first|refine ay (hsub:=by exact aK) (hy:=by (apply d9 false;rfl;rfl;exact Zd h0)) ?_|refine gdz ?_|refine ay (hsub:=by exact aK) (hy:=by (apply cu (vs:=it.claim.cells);rfl;exact .head _;rfl;rfl)) ?_|refine az ?_ (h':=?_)|exact aA|fail)
   all_goals
    repeat' (first|refine gs ?_|fail)
    exact ab (db rfl rfl rfl rfl (.head _) rfl) (by rw [wantC,Zd h0];rfl)
def fndOfC (dI:Xc→ByteArray) (it:Xc):Xp:=⟨0,dI it,it.claim⟩
def selBC (au:ByteArray) (rI:Xc→Bool) (it:Xc):Bool:=wantC au it&&rI it
def selFC (au:ByteArray) (rI:Xc→Bool) (dI:Xc→ByteArray) (I:List Xc):List Xp:=(I.filter (selBC au rI)).map (fndOfC dI)
def selC (au:ByteArray) (rI:Xc→Bool) (I:List Xc):List Xg:=(I.filter (selBC au rI)).map Xc.claim
theorem GT (au:ByteArray) (rI:Xc→Bool) (dI:Xc→ByteArray) (I:List Xc):(selFC au rI dI I).map Xp.a=selC au rI I:=by rw [selFC,selC,ZY];rfl
structure PikIC (I:List Xc) (au:ByteArray) (rI:Xc→Bool) (dI:Xc→ByteArray) where
 k:Nat
 hk:k≤I.length
 A:Option Addr
 c:Nat
 n:Nat
 hn:n=(selFC au rI dI (I.take k)).length
 xs:List Value
 hxs:xs=((selFC au rI dI (I.take k)).map Xp.cells).flatten
structure ValIC (Q:List Xp) where
 k:Nat
 hk:k≤Q.length
 A:Option Addr
 c:Nat
 xs:List Value
 hxs:xs=((Q.take k).map fun f=>f.a.cells).flatten
def wantVC (bW:Nat):Value:=.func (.func 253) #[] #[.pointer (some ⟨bW,0,none⟩)]
theorem AL (ks ki:Xk) (I:List Xc) (bW:Nat) (au:ByteArray) (rI:Xc→Bool) (dI:Xc→ByteArray)
  (hR:∀ it∈I,Pu prog 73 #[it.v] (fun w=>it.at_ w) (.bool (rI it)))
  (hD:∀ it∈I,Pu prog 18 #[it.v] (fun w=>it.at_ w∧Xe w) (.string (dI it)))
  (hI:I.length≤1000) (hasc:SrC.Srt (selFC au rI dI I)) :
  Mk prog 252 #[.agg #[ks.v,ki.v],wantVC bW] (fun w=>(Items w ki I∧CelD bW [.string au] w)∧Xe w)
   (fun u X'=>∃ s:Xk,u=s.v∧∀ w,X' w→Claims w s (selC au rI I)):=by
 refine dm func252 ntmps252 fun av bor w0=>?_
 refine aQ (p:=ki.n=I.length∧ki.n≤maxLen∧(0<I.length→ki.p.isSome=true)) (fun w h=>⟨h.1.1.len_,h.1.1.max_,h.1.1.some_⟩) fun ⟨hkn,hkm,hkp⟩=>?_
 simp only [maxLen] at hkm
 repeat' (first|refine gs ?_|refine gs1 fun _=>?_|fail)
 rename_i b2
 refine cL 304 11 ?_
 refine aq (ι:=PikIC I au rI dI) (fun i=>⟨[(1,wantVC bW),(5,.slice i.A i.n i.c),(15,ki.v),(16,.int .i64 (ki.n:Nat)),(17,.int .i64 (i.k:Nat))],[orow 304 11 (.slice i.A i.n i.c) i.n i.xs],fun w=>(Items w ki I∧CelD bW [.string au] w)∧Xe w⟩) (fun i=>I.length-i.k) ⟨0,Z2 _,none,0,0,rfl,[],rfl⟩ (ai am (.cons_cons _ (Zt _)) fun _ h=>h) fun i=>?_
 obtain ⟨k,hk,A,c,n,hn,xs,hxs⟩:=i
 simp only
 repeat' (first|refine gs ?_|(refine gp ?_ ?_<;>intro hx_ this)|fail)
 · have hlt:k<I.length:=by omega
   have hkp':=hkp aa
   obtain ⟨it,hit⟩:∃ it,I[k]?=some it:=⟨_,Zc hlt⟩
   have him:=Z4 hit
   have hnl:n≤1000:=by
    rw [hn,selFC,ZE]
    exact ZW (Z8 _ _) (by rw [Qg];omega)
   repeat' (first|refine gs ?_|refine gs1 fun _=>?_|(refine aD (q:=k*49) ?_)|(refine aN (cs:=it.cells) (hF:=fun w h=>h.1.1.get hit) ?_)|fail)
   rename_i b7
   have hri:=hR it him
   have hdi:=hD it him
   have hwa:=B7 bW au it
   have htk:selFC au rI dI (I.take (k+1))=selFC au rI dI (I.take k)++(bif selBC au rI it then [fndOfC dI it] else []):=by
    rw [selFC,selFC,Qe,hit,Qt,ZU,Qs]
    congr 1
    cases hb:selBC au rI it with
    | true=>simp [hb]
    | false=>simp [hb]
   cases hwt:wantC au it with
   | false =>
    rw [hwt] at hwa
    have hno:selFC au rI dI (I.take (k+1))=selFC au rI dI (I.take k):=by rw [htk,selBC,hwt];exact ZI _
    refine fx (args:=[it.v]) (all:=[it.v,.pointer (some ⟨bW,0,none⟩)]) (first:=#[]) (caps:=#[.pointer (some ⟨bW,0,none⟩)]) (hx:=rfl) (ha:=rfl) (hall:=rfl) (hc:=hwa) (hX:=fun w h=>h.1.2) (h:=?_)
    repeat' (first|refine gs ?_|refine gs1 fun _=>?_|fail)
    exact ⟨(⟨k+1,hlt,A,c,n,by rw [hno];exact hn,xs,by rw [hno];exact hxs⟩:PikIC I au rI dI),(by show I.length-(k+1)<I.length-k;omega),ai am (.cons _ (.cons _ (ak _))) fun _ h=>h⟩
   | true =>
    rw [hwt] at hwa
    cases hrt:rI it with
    | false =>
     rw [hrt] at hri
     have hno:selFC au rI dI (I.take (k+1))=selFC au rI dI (I.take k):=by rw [htk,selBC,hwt,hrt];exact ZI _
     refine fx (args:=[it.v]) (all:=[it.v,.pointer (some ⟨bW,0,none⟩)]) (first:=#[]) (caps:=#[.pointer (some ⟨bW,0,none⟩)]) (hx:=rfl) (ha:=rfl) (hall:=rfl) (hc:=hwa) (hX:=fun w h=>h.1.2) (h:=?_)
     repeat' (first|(refine ae (hc:=hri) (hX:=fun w h=>h.1.1.2 it him) ?_)|refine gs ?_|refine gs1 fun _=>?_|fail)
     exact ⟨(⟨k+1,hlt,A,c,n,by rw [hno];exact hn,xs,by rw [hno];exact hxs⟩:PikIC I au rI dI),(by show I.length-(k+1)<I.length-k;omega),ai am (.cons _ (.cons _ (ak _))) fun _ h=>h⟩
    | true =>
     rw [hrt] at hri
     have hyes:selFC au rI dI (I.take (k+1))=selFC au rI dI (I.take k)++[fndOfC dI it]:=by rw [htk,selBC,hwt,hrt];rfl
     refine fx (args:=[it.v]) (all:=[it.v,.pointer (some ⟨bW,0,none⟩)]) (first:=#[]) (caps:=#[.pointer (some ⟨bW,0,none⟩)]) (hx:=rfl) (ha:=rfl) (hall:=rfl) (hc:=hwa) (hX:=fun w h=>h.1.2) (h:=?_)
     repeat' (first|(refine ae (hc:=hri) (hX:=fun w h=>h.1.1.2 it him) ?_)|refine gs ?_|refine gs1 fun _=>?_|fail)
     rename_i b8
     (refine ap ⟨[0,1,2,4],[(3,⟨[5],[(6,⟨[],[(7,⟨[8],[]⟩)]⟩)]⟩)]⟩ [cel b8 54 it.claim.cells,cel b7 60 it.cells] (fun w=>(Items w ki I∧CelD bW [.string au] w)∧Xe w) (h:=?_))
     all_goals repeat' (first|(refine ae (hc:=hdi) (hX:=fun w h=>⟨h.1.1.2 it him,h.2⟩) ?_)|refine gdz ?_|refine ay (hsub:=by exact aK) (hy:=by (apply dt (cs:=(fndOfC dI it).cells);rfl;rfl)) ?_|refine az ?_ (h':=?_)|exact aA|refine cN (size:=11) (vs:=[.agg (fndOfC dI it).cells.toArray]) (css:=(fndOfC dI it).cells) (hsz:=by rfl) (hcs:=by rfl) fun _=>?_|(refine jv ?_;refine aL (size:=11) (news:=(fndOfC dI it).cells) (q:=1) rfl rfl rfl rfl (fun _=>At.there _ (At.there _ (At.there _ (At.here _)))) (fun w G=>bN G ao rfl rfl 1) aa (by simp only [maxLen];omega) rfl ?_ rfl ?_;(with_reducible rfl);intro A2 c2)|fail)
     all_goals
      repeat' (first|refine gs ?_|fail)
      exact ⟨(⟨k+1,hlt,A2,c2,n+1,by rw [hyes,Zz,←hn];rfl,xs++(fndOfC dI it).cells,by rw [hyes,hxs];simp⟩:PikIC I au rI dI),(by show I.length-(k+1)<I.length-k;omega),ai am (.cons _ (.cons _ (.cons _ (ak _)))) fun _ h=>h⟩
 have hkE:k=I.length:=by omega
 rw [hkE,Qf] at hn hxs
 obtain ⟨P,hP⟩:∃ P,selFC au rI dI I=P:=⟨_,rfl⟩
 rw [hP] at hn hxs
 have hPl:P.length≤I.length:=by rw [←hP,selFC,ZE];exact Z8 _ _
 subst hxs
 refine bO (pre:=[SrC.postR ⟨A,n,c⟩ P]) (fr:=[]) (first:=#[]) (caps:=#[]) (hc:=SrC.sortStable_ct ⟨A,n,c⟩ P hn (by show n≤1000000;omega)) (hX:=fun _ _=>trivial) (h:=?_)
 rintro v R X' ⟨rfl,Q,hQ,rfl⟩
 have hQP:Q=P:=hQ.2 (by rw [←hP];exact hasc)
 subst hQP
 have hQl:Q.length=n:=hn.symm
 have hnI:n≤1000:=by omega
 refine cI (X':=fun w=>(Items w ki I∧CelD bW [.string au] w)∧Xe w) (fun w h=>h.1) ?_
 repeat' (first|refine gs ?_|(refine iQ (c:=n) (hm:=Nat.ble_eq_true_of_le aa) (hm2:=Nat.ble_eq_true_of_le aa) fun bv=>?_)|fail)
 refine bY (r:=SrC.postR ⟨A,n,c⟩ Q) aM (p:=0<n→A.isSome=true) (fun w h h0=>bK h h0) fun hAp=>?_
 refine aq (ι:=ValIC Q) (fun i=>⟨[(11,.slice i.A i.k i.c),(47,.slice A n c),(48,.int .i64 (n:Nat)),(49,.int .i64 (i.k:Nat))],[orow 54 9 (.slice i.A i.k i.c) i.k i.xs,SrC.postR ⟨A,n,c⟩ Q],fun w=>(Items w ki I∧CelD bW [.string au] w)∧Xe w⟩) (fun i=>Q.length-i.k) ⟨0,Z2 _,_,_,[],rfl⟩ (ai am (ak _) fun _ h=>h) fun i=>?_
 obtain ⟨k2,hk2,A2,c2,xs2,hxs2⟩:=i
 simp only
 repeat' (first|refine gs ?_|(refine gp ?_ ?_<;>intro hx_ this)|fail)
 · have hlt:k2<Q.length:=by omega
   have hAp':=hAp aa
   obtain ⟨f,hf⟩:∃ f,Q[k2]?=some f:=⟨_,Zc hlt⟩
   repeat' (first|refine cN (size:=9) (vs:=[f.a.v]) (css:=f.a.cells) (hsz:=by rfl) (hcs:=by rfl) fun _=>?_|refine gs ?_|refine gs1 fun _=>?_|(refine aD (q:=k2*11) ?_)|(refine al (gP (size:=11) (m:=n) (i:=k2) (xs:=Q.map Xp.cells) (cs:=f.cells) rfl (.tail _ (.head _)) (by rw [ZE];exact hQl.symm) (E6 Q) (by simp [hf])) rfl rfl rfl ?_)|(refine aE (vs:=f.a.cells) (hv:=rfl) ?_)|fail)
   refine aL (size:=9) (news:=f.a.cells) (q:=1) rfl rfl rfl rfl (fun _=>At.there _ (At.there _ (At.here _))) (fun w G=>bN G ao rfl rfl 1) aa (by simp only [maxLen];omega) rfl ?_ rfl ?_
   · (with_reducible rfl)
   intro A3 c3
   repeat' (first|refine gs ?_|fail)
   exact ⟨(⟨k2+1,hlt,A3,c3,xs2++f.a.cells,by rw [Qe,hf,hxs2];simp⟩:ValIC Q),(by show Q.length-(k2+1)<Q.length-k2;omega),ai am (.cons _ (.cons _ (ak _))) fun _ h=>h⟩
 have hk2E:k2=Q.length:=by omega
 rw [hk2E,Qf] at hxs2
 have hLp:Q.map Xp.a=selC au rI I:=by rw [←GT au rI dI I,hP]
 refine ab (ag rfl rfl) ⟨⟨A2,k2,c2⟩,rfl,fun w h=>?_⟩
 rw [←hLp]
 have hr:=h.2 (orow 54 9 (.slice A2 k2 c2) k2 xs2) (.head _)
 exact bu (xs:=(Q.map Xp.a).map Xg.cells) (by rw [ZY];rw [hxs2] at hr;exact hr) (by rw [ZE,ZE];exact hk2E) (vj _)
theorem mw (ks ki:Xk) (I:List Xc) (au:ByteArray) (rI:Xc→Bool) (dI:Xc→ByteArray)
  (hR:∀ it∈I,Pu prog 73 #[it.v] (fun w=>it.at_ w) (.bool (rI it)))
  (hD:∀ it∈I,Pu prog 18 #[it.v] (fun w=>it.at_ w∧Xe w) (.string (dI it)))
  (hI:I.length≤1000) (hasc:SrC.Srt (selFC au rI dI I)) :
  Mk prog 190 #[.agg #[ks.v,ki.v],.string au] (fun w=>Items w ki I∧Xe w)
   (fun u X'=>∃ s:Xk,u=s.v∧∀ w,X' w→Claims w s (selC au rI I)):=by
 refine dm func190 ntmps190 fun av bor w0=>?_
 repeat' (first|refine gs ?_|refine gs1 fun _=>?_|(refine eG ?_)|fail)
 rename_i b2 b3
 refine bJ ?_
 refine bF (hc:=AL ks ki I b3 au rI dI hR hD hI hasc) (hX:=fun w h=>⟨⟨h.1.1,fF h.2⟩,h.1.2⟩) fun v X1 h1=>?_
 obtain ⟨s,rfl,hw⟩:=h1
 repeat' (first|refine gs ?_|fail)
 exact ab (ag rfl rfl) ⟨s,rfl,fun w h=>hw w h.1.2⟩
structure Xr where
 rank:Int
 dg:ByteArray
 a:Xh
def Xr.cells (f:Xr):List Value:=.int .i64 f.rank::.string f.dg::f.a.cells
def Ballots (w:World) (s:Xk) (l:List Xh):Prop:=Xf w 7 s (l.map Xh.cells)
theorem sA (l:List Xh):∀ r∈l.map Xh.cells,r.length=7:=fun r hr=>by
 obtain ⟨c,_,rfl⟩:=QH.1 hr
 rfl
def wantB (au:ByteArray) (gn:Int) (it:Xc):Bool:=decide (it.kind=2)&&(seqB it.ballot.actor au&&decide (it.ballot.gen=gn))
theorem B8 (bW bG:Nat) (au:ByteArray) (gn:Int) (it:Xc):Pu prog 298 #[it.v,.pointer (some ⟨bW,0,none⟩),.pointer (some ⟨bG,0,none⟩)] (fun w=>CelD bW [.string au] w∧CelD bG [.int .i64 gn] w) (.tuple #[it.ballot.v,.int .i64 0,.bool (wantB au gn it)]):=by
 refine ax func298 ntmps298 fun av bor w0=>?_
 repeat' (first|refine gs ?_|refine gs1 fun _=>?_|(refine aE (vs:=it.ballot.cells) (hv:=rfl) ?_)|fail)
 rename_i b3 b4 b7
 cases h0:decide (it.kind=2) with
 | false =>
  (refine ap ⟨[0,1,2,3,4,5,6,7,8,9,10,11,12,13,14,15],[(16,⟨[17,18],[]⟩)]⟩ [cel b7 56 it.ballot.cells,cel b3 60 it.cells] (fun w=>CelD bW [.string au] w∧CelD bG [.int .i64 gn] w) (h:=?_))
  all_goals repeat' (first|refine ay (hsub:=by exact aK) (hy:=by (apply d9 false;rfl;rfl;exact h0)) ?_|refine gdz ?_|refine az ?_ (h':=?_)|exact aA|fail)
  all_goals
   repeat' (first|refine gs ?_|fail)
   exact ab (db rfl rfl rfl rfl (.tail _ (.head _)) rfl) (by rw [wantB,h0];rfl)
 | true =>
  cases h1:seqB it.ballot.actor au with
  | false =>
   (refine ap ⟨[0,1,2,3,4,5,6,7,8,9,10,11,12,13,14,15],[(16,⟨[17,18],[]⟩)]⟩ [cel b7 56 it.ballot.cells,cel b3 60 it.cells] (fun w=>CelD bW [.string au] w∧CelD bG [.int .i64 gn] w) (h:=?_))
   all_goals repeat' (first|refine ay (hsub:=by exact aK) (hy:=by first|(apply d9 true;rfl;rfl;exact h0)|(apply cJ false;rfl;rfl;exact h1)) ?_|refine gdz ?_|refine ay (hsub:=by exact aK) (hy:=by (apply fQ;rfl;exact (fun w h=>h.1 0 _ rfl))) ?_|refine az ?_ (h':=?_)|exact aA|fail)
   all_goals
    repeat' (first|refine gs ?_|fail)
    exact ab (db rfl rfl rfl rfl (.tail _ (.head _)) rfl) (by rw [wantB,h0,h1];rfl)
  | true =>
   cases h2:decide (it.ballot.gen=gn) with
   | false =>
    (refine ap ⟨[0,1,2,3,4,5,6,7,8,9,10,11,12,13,14,15],[(16,⟨[17,18],[]⟩)]⟩ [cel b7 56 it.ballot.cells,cel b3 60 it.cells] (fun w=>CelD bW [.string au] w∧CelD bG [.int .i64 gn] w) (h:=?_))
    all_goals repeat' (first|refine ay (hsub:=by exact aK) (hy:=by first|(apply d9 true;rfl;rfl;exact h0)|(apply cJ true;rfl;rfl;exact h1)|(apply d9 false;rfl;rfl;exact h2)) ?_|refine gdz ?_|refine ay (hsub:=by exact aK) (hy:=by first|(apply fQ;rfl;exact (fun w h=>h.1 0 _ rfl))|(apply fQ;rfl;exact (fun w h=>h.2 0 _ rfl))) ?_|refine az ?_ (h':=?_)|exact aA|fail)
    all_goals
     repeat' (first|refine gs ?_|fail)
     exact ab (db rfl rfl rfl rfl (.tail _ (.head _)) rfl) (by rw [wantB,h0,h1,h2];rfl)
   | true =>
    (refine ap ⟨[0,1,2,3,4,5,6,7,8,9,10,11,12,13,14,15],[(16,⟨[17,18],[]⟩)]⟩ [cel b7 56 it.ballot.cells,cel b3 60 it.cells] (fun w=>CelD bW [.string au] w∧CelD bG [.int .i64 gn] w) (h:=?_))
    all_goals repeat' (first|refine ay (hsub:=by exact aK) (hy:=by first|(apply d9 true;rfl;rfl;first|exact h0|exact h2)|(apply cJ true;rfl;rfl;exact h1)) ?_|refine gdz ?_|refine ay (hsub:=by exact aK) (hy:=by first|(apply fQ;rfl;exact (fun w h=>h.1 0 _ rfl))|(apply fQ;rfl;exact (fun w h=>h.2 0 _ rfl))) ?_|refine az ?_ (h':=?_)|exact aA|fail)
    all_goals
     repeat' (first|refine gs ?_|fail)
     exact ab (db rfl rfl rfl rfl (.tail _ (.head _)) rfl) (by rw [wantB,h0,h1,h2];rfl)
end Go.Proofs.YtaolfiikahlmkaaGreatDoor
namespace Go.Proofs.YtaolfiikahlmkaaGreatDoor
open Go Go.Proofs Sy SrG Tryz
namespace SrB
theorem cellsF (P:List Xr):∀ r∈P.map Xr.cells,r.length=9:=fun r hr=>by
 obtain ⟨c,_,rfl⟩:=QH.1 hr
 rfl
abbrev postR (s:Xk) (P:List Xr):Xl:=orow 329 9 (.slice s.p s.n s.c) s.n (P.map Xr.cells).flatten
theorem cF:∀ (L:List Xr) (p:Nat) (x:Xr),p<L.length→(L.map Xr.cells).flatten.take (p*9)++x.cells++(L.map Xr.cells).flatten.drop (p*9+9)=((L.set p x).map Xr.cells).flatten
 | [],p,x,h=>absurd h (by simp)
 | c::L,0,x,h=>by
  have h6:c.cells.length=9:=rfl
  rw [List.set_cons_zero,ZZ,ZZ,Z9,Z9,Nat.zero_mul,ZS,List.take_zero,ZK,List.drop_append,h6,Qu (by omega)]
  rfl
 | c::L,p+1,x,h=>by
  have h6:c.cells.length=9:=rfl
  have ih:=cF L p x (by simpa using h)
  rw [List.set_cons_succ,ZZ,ZZ,Z9,Z9,←ih,List.take_append,List.drop_append,h6,Qd aa,Qu aa,
   show (p+1)*9-9=p*9 from by omega,show (p+1)*9+9-9=p*9+9 from by omega,ZK,ZB,ZB,ZB]
theorem cS {P:List Xr} {i j:Nat} {x y:Xr} (hi:P[i]?=some x) (hj:P[j]?=some y):((P.set i y).set j x).Perm P:=by
 obtain ⟨h1,rfl⟩:=QI.1 hi
 obtain ⟨h2,rfl⟩:=QI.1 hj
 exact List.set_set_perm h1 h2
section
variable {N:Nat} {av bor:List Nat} {w0:World} {st:St} {ty:TypeId} {x y:Operand} {E:Env} {loc:List Xl} {X:World→Prop} {ops:Array Oper} {kk:St→Prop} {pos:String} {af:Array Edge} {g:Option (Nat×Bool)} {rest:List Oper} {bb want:Bool}
theorem bt {A:Option Addr} {m c i:Nat} {P:List Xr} {p:Xr} (hx:ev st.env x=some (elP A (i*9))) (hm:orow 329 9 (.slice A m c) m (P.map Xr.cells).flatten∈st.loc) (hn:m=P.length) (hi:P[i]?=some p) :
  Sy.Yields prog N av bor w0 st (.load 329 x) ty (.agg p.cells.toArray):=gP (xs:=P.map Xr.cells) (cs:=p.cells) hx hm (by simp [hn]) (cellsF P) (by simp [hi])
theorem cg {d:Option Tmp} {loc':List Xl} {A:Option Addr} {m c i:Nat} {P:List Xr} {p:Xr} (hx:ev E x=some (elP A (i*9)):=by rfl) (hy:ev E y=some (.agg p.cells.toArray):=by rfl) (hi:i<m:=by omega) (hn:m=P.length)
  (hA:At (orow 329 9 (.slice A m c) m (P.map Xr.cells).flatten) (orow 329 9 (.slice A m c) m ((P.set i p).map Xr.cells).flatten) loc loc':=by (repeat (first|exact At.here _|apply At.there))) (hg:gdB ops E g=some (bb,want):=by rfl) (hb:bb=want:=by exact aw) (hd:inB N d=true:=by rfl)
  (h:Sw prog N av bor w0 ops rest ⟨putE E d undef,loc',X⟩ kk):Sw prog N av bor w0 ops (⟨d,.store 329 x y,ty,pos,af,g⟩::rest) ⟨E,loc,X⟩ kk :=
 nR (i:=i) (size:=9) (vs:=p.cells) aj hx hy rfl rfl rfl hi (cF P i p aa) hA hg hb hd h
end
def PermAt (s:Xk) (P:List Xr) (u:Value) (R:List Xl) (X:World→Prop):Prop:=u=.tuple #[]∧∃ Q:List Xr,Q.Perm P∧R=[postR s Q]
structure PermI (P:List Xr) (n:Nat) where
 k:Nat
 hk:k≤n
 Q:List Xr
 hQ:Q.Perm P
theorem bT (s:Xk) (P:List Xr) (a b n:Nat) (fv:Value) (hs:s.n=P.length) (hm:s.n≤1000000) (ha:a+n≤s.n) (hb:b+n≤s.n) :
  Ct prog 326 #[s.v,.int .i64 (a:Nat),.int .i64 (b:Nat),.int .i64 (n:Nat),fv] [postR s P] (fun _=>True) (PermAt s P):=by
 refine cP func326 ntmps326 fun av bor w0=>?_
 refine bY (r:=postR s P) ao (p:=0<s.n→s.p.isSome=true) (fun w h hn=>bK h hn) fun hp=>?_
 repeat' (first|refine gs ?_|fail)
 refine aq (ι:=PermI P n) (fun i=>⟨[(0,s.v),(1,.int .i64 (a:Nat)),(2,.int .i64 (b:Nat)),(3,.int .i64 (n:Nat)),(10,.int .i64 (i.k:Nat))],[postR s i.Q],fun _=>True⟩) (fun i=>n-i.k) ⟨0,Z2 _,P,Ql _⟩ (ai am (ak _) fun _ h=>h) fun i=>?_
 obtain ⟨k,hk,Q,hQ⟩:=i
 simp only
 have hl:=hQ.length_eq
 repeat' (first|refine gs ?_|(refine gp ?_ ?_<;>intro hx_ this)|fail)
 · have hlt:k<n:=by omega
   have hp':=hp aa
   obtain ⟨x,hx⟩:∃ x,Q[a+k]?=some x:=⟨_,Zc aa⟩
   obtain ⟨y,hy⟩:∃ y,Q[b+k]?=some y:=⟨_,Zc aa⟩
   (refine ap ⟨[0,1,2,3,4,5,6,7,8,9,10,11,12,14,15,16,17,18],[(13,⟨[],[(19,⟨[20],[(21,⟨[22],[(23,⟨[],[]⟩)]⟩)]⟩)]⟩),(19,⟨[],[(13,⟨[20],[(21,⟨[22],[(23,⟨[],[]⟩)]⟩)]⟩)]⟩)]⟩ [] (fun _=>True) (h:=?_))
   all_goals repeat' (first|refine gd ?_|refine ay (hy:=by first|(apply aB (q:=(a+k)*9);rfl;rfl;omega;omega;assumption;(rfl))|(apply aB (q:=(b+k)*9);rfl;rfl;omega;omega;assumption;(rfl))) ?_|refine az ?_ (h':=?_)|exact aA|(refine al (bt (i:=a+k) (P:=Q) rfl ao aa hx) rfl rfl rfl ?_)|(refine al (bt (i:=b+k) (P:=Q) rfl ao aa hy) rfl rfl rfl ?_)|((refine cg (i:=a+k) (p:=y) rfl rfl aa (by first|omega|(simp only [Z7];omega)) (At.here _) rfl aw rfl ?_))|((refine cg (i:=b+k) (p:=x) rfl rfl aa (by (simp only [Z7];omega)) (At.here _) rfl aw rfl ?_))|fail)
   all_goals
    repeat' (first|refine gs ?_|fail)
    exact ⟨(⟨k+1,hlt,(Q.set (a+k) y).set (b+k) x,(cS hx hy).trans hQ⟩:PermI P n),(by show n-(k+1)<n-k;omega),ai am (ak _) fun _ h=>h⟩
 · exact aR (aH rfl) ⟨rfl,Q,hQ,rfl⟩
section
variable {N:Nat} {av bor:List Nat} {w0:World} {ops:Array Oper} {rest:List Oper} {k:St→Prop} {E:Env} {X:World→Prop} {d:Option Tmp} {ty:TypeId} {pos:String} {af:Array Edge} {g:Option (Nat×Bool)} {bb want:Bool}
theorem cb {x:Operand} {xs:List Operand} {ats:Array TypeId} {f:FuncId} {args:List Value} {s:Xk} {Q:List Xr}
  (hx:ev E x=some (.func (.func f) #[] #[]):=by rfl) (ha:evs E xs=some args:=by rfl) (hg:gdB ops E g=some (bb,want):=by rfl) (hb:bb=want:=by exact aw) (hd:inB N d=true:=by rfl) (hf:Xv prog f:=by first|infer_instance|exact ⟨aj⟩)
  (hc:Ct prog f args.toArray [postR s Q] (fun _=>True) (PermAt s Q))
  (h:∀ Q':List Xr,Q'.Perm Q→Sw prog N av bor w0 ops rest ⟨putE E d (.tuple #[]),[postR s Q'],X⟩ k) :
  Sw prog N av bor w0 ops (⟨d,.call ⟨.value x,xs.toArray,ats⟩,ty,pos,af,g⟩::rest) ⟨E,[postR s Q],X⟩ k :=
 bO (pre:=[postR s Q]) (fr:=[]) (first:=#[]) (caps:=#[]) (Post:=PermAt s Q) hx ha rfl hg hb hd hf (by simpa using hc) (fun _ _=>trivial) fun u R X' ⟨h1,Q',h2,h3⟩=>by
  subst h1
  subst h3
  refine jf (fun a w ok=>?_) (h Q' h2)
  exact ok.via fun M G=>G.imp fun _ h=>h.1
end
structure RotI (P:List Xr) (p q:Nat) where
 i:Nat
 j:Nat
 h1:1≤i
 h2:i≤p
 h3:1≤j
 h4:j≤q
 Q:List Xr
 hQ:Q.Perm P
theorem fa (s:Xk) (P:List Xr) (a m b:Nat) (fv:Value) (hs:s.n=P.length) (hm:s.n≤1000000) (ha:a<m) (hb:m<b) (hbs:b≤s.n) :
  Ct prog 325 #[s.v,.int .i64 (a:Nat),.int .i64 (m:Nat),.int .i64 (b:Nat),fv] [postR s P] (fun _=>True) (PermAt s P):=by
 refine cP func325 ntmps325 fun av bor w0=>?_
 repeat' (first|refine be (hq:=by omega) ?_|refine gs ?_|fail)
 refine aq (ι:=RotI P (m-a) (b-m)) (fun r=>⟨[(0,s.v),(2,.int .i64 (m:Nat)),(4,fv),(10,.int .i64 (r.i:Nat)),(11,.int .i64 (r.j:Nat))],[postR s r.Q],fun _=>True⟩) (fun r=>r.i+r.j) ⟨m-a,b-m,by omega,by omega,by omega,by omega,P,Ql _⟩ (ai am (ak _) fun _ h=>h) fun r=>?_
 obtain ⟨i,j,h1,h2,h3,h4,Q,hQ⟩:=r
 simp only
 have hl:=hQ.length_eq
 by_cases hij:i=j
 · repeat' (first|refine fA ?_|refine be (hq:=by omega) ?_|refine gs ?_|(refine cb (hc:=bT s Q (m-i) m i fv aa hm aa aa) (h:=fun Q2 hQ2=>?_))|fail)
   exact aR (aH rfl) ⟨rfl,Q2,hQ2.trans hQ,rfl⟩
 · repeat' (first|refine be (hq:=by omega) ?_|refine aP (hq:=by omega) ?_|refine gs ?_|(refine cb (hc:=bT s Q (m-i) m j fv aa hm aa aa) (h:=fun Q2 hQ2=>?_))|(refine cb (hc:=bT s Q (m-i) (m+j-i) i fv aa hm aa aa) (h:=fun Q2 hQ2=>?_))|(refine gp ?_ ?_<;>intro hx_ this)|fail)
   · exact ⟨(⟨i-j,j,by omega,by omega,h3,h4,Q2,hQ2.trans hQ⟩:RotI P (m-a) (b-m)),(by show i-j+j<i+j;omega),ai am (ak _) fun _ h=>h⟩
   · exact ⟨(⟨i,j-i,h1,h2,by omega,by omega,Q2,hQ2.trans hQ⟩:RotI P (m-a) (b-m)),(by show i+(j-i)<i+j;omega),ai am (ak _) fun _ h=>h⟩
   · have h9:(i:Int)=(j:Int):=by simpa using hx_
     exact absurd (show i=j by omega) hij
def cmpX (x y:Xr):Int:=cmp2 x.rank y.rank x.dg y.dg
theorem dz (x y:Xr):Pu prog 315 #[.agg x.cells.toArray,.agg y.cells.toArray] (fun _=>True) (.int .i64 (cmpX x y)):=by
 refine ax func315 ntmps315 fun av bor w0=>?_
 have h1:=iE x.rank y.rank
 have h2:=ic x.dg y.dg
 rw [cmpX,cmp2]
 generalize cmpI x.rank y.rank=k at *
 generalize SrG.cmpB_g x.dg y.dg=l at *
 have h3:=fun s=>wr s k l
 repeat' (first|refine gs ?_|refine gs1 fun _=>?_|fail)
 rename_i b2 b3
 (refine ap ⟨[0,1,2,3,5,6,7,8],[(4,⟨[],[(9,⟨[],[(10,⟨[],[(11,⟨[12],[]⟩)]⟩)]⟩)]⟩)]⟩ [cel b3 329 y.cells,cel b2 329 x.cells] (fun _=>True) (h:=?_))
 all_goals repeat' (first|(refine ae (hc:=h1) ?_)|(refine ae (hc:=h2) ?_)|(refine ae (hc:=h3 ⟨some ⟨bs,0,none⟩,2,2⟩) (hX:=fun w h=>aU (xs:=[[.int .i64 k],[.int .i64 l]]) h.2 rfl (by decide) (by simp)) ?_)|refine gdz ?_|refine az ?_ (h':=?_)|exact aA|((refine eC (len:=2) (vs:=[.int .i64 k,.int .i64 l]) fun bs=>?_;refine bJ ?_))|fail)
 all_goals
  repeat' (first|refine gs ?_|fail)
  exact ab (ag rfl rfl) rfl
def cmpF:Value:=.func (.func 315) #[] #[]
def Srt (P:List Xr):Prop:=∀ (i j:Nat) (x y:Xr),i<j→P[i]?=some x→P[j]?=some y→¬ cmpX y x<0
def Rel (P Q:List Xr):Prop:=Q.Perm P∧(Srt P→Q=P)
theorem Rel.refl (P:List Xr):Rel P P:=⟨Ql _,fun _=>rfl⟩
theorem Rel.trans {P Q R:List Xr} (h:Rel P Q) (k:Rel Q R):Rel P R:=⟨k.1.trans h.1,fun hs=>by rw [k.2 (h.2 hs▸hs),h.2 hs]⟩
theorem Rel.swap {P Q:List Xr} (h:Rel P Q) {i j:Nat} {x y:Xr} (hi:Q[i]?=some x) (hj:Q[j]?=some y) (hno:Srt P→False):Rel P ((Q.set i y).set j x):=⟨(cS hi hj).trans h.1,fun hs=>(hno hs).elim⟩
theorem Rel.srt {P Q:List Xr} (h:Rel P Q) (hs:Srt P):Srt Q:=by rw [h.2 hs];exact hs
theorem Rel.perm {P Q Q':List Xr} (h:Rel P Q) (k:Q'.Perm Q) (hno:Srt P→False):Rel P Q':=⟨k.trans h.1,fun hs=>(hno hs).elim⟩
def RelAt (s:Xk) (P:List Xr) (u:Value) (R:List Xl) (X:World→Prop):Prop:=u=.tuple #[]∧∃ Q:List Xr,Rel P Q∧R=[postR s Q]
end SrB
namespace SrB
structure InsI (P:List Xr) (a b:Nat) where
 k:Nat
 h1:a+1≤k
 h2:k≤b∨k=a+1
 Q:List Xr
 hQ:Rel P Q
structure InsJ (P:List Xr) (a k:Nat) where
 j:Nat
 h1:a≤j
 h2:j≤k
 Q:List Xr
 hQ:Rel P Q
theorem cE (s:Xk) (P:List Xr) (a b:Nat) (hs:s.n=P.length) (hm:s.n≤1000000) (ha:a≤s.n) (hb:b≤s.n) :
  Ct prog 323 #[s.v,.int .i64 (a:Nat),.int .i64 (b:Nat),cmpF] [postR s P] (fun _=>True) (RelAt s P):=by
 refine cP func323 ntmps323 fun av bor w0=>?_
 refine bY (r:=postR s P) ao (p:=0<s.n→s.p.isSome=true) (fun w h hn=>bK h hn) fun hp=>?_
 repeat' (first|refine aP (q:=1) (hq:=by omega) ?_|refine gs ?_|fail)
 refine aq (ι:=InsI P a b) (fun i=>⟨[(0,s.v),(1,.int .i64 (a:Nat)),(2,.int .i64 (b:Nat)),(3,cmpF),(8,.int .i64 (i.k:Nat))],[postR s i.Q],fun _=>True⟩) (fun i=>b-i.k) ⟨a+1,ZV _,.inr rfl,P,Rel.refl _⟩ (ai am (ak _) fun _ h=>h) fun i=>?_
 obtain ⟨k,h1,h2,Q,hQ⟩:=i
 simp only
 have hl:=hQ.1.length_eq
 repeat' (first|refine gs ?_|(refine gp ?_ ?_<;>intro hx_ this)|fail)
 · have hkb:k<b:=by omega
   refine aq (ι:=InsJ P a k) (fun i=>⟨[(0,s.v),(1,.int .i64 (a:Nat)),(2,.int .i64 (b:Nat)),(3,cmpF),(8,.int .i64 (k:Nat)),(9,.int .i64 (i.j:Nat))],[postR s i.Q],fun _=>True⟩) (fun i=>i.j) ⟨k,by omega,ZV _,Q,hQ⟩ (ai am (ak _) fun _ h=>h) fun i=>?_
   obtain ⟨j,h3,h4,Q2,hQ2⟩:=i
   simp only
   have hl2:=hQ2.1.length_eq
   have hp':=hp aa
   by_cases hja:a<j
   · obtain ⟨x,hx⟩:∃ x,Q2[j]?=some x:=⟨_,Zc aa⟩
     obtain ⟨y,hy⟩:∃ y,Q2[j-1]?=some y:=⟨_,Zc aa⟩
     have hcm:=dz x y
     have hsx:Srt P→¬ cmpX x y<0:=fun hs=>hQ2.srt hs (j-1) j y x aa hy hx
     generalize cmpX x y=z at *
     apply QQ
     apply QQ
     unfold cmpF
     (refine ap ⟨[0,1,2,3,4,5,6,7,9,10,11,12],[(8,⟨[],[(13,⟨[],[(14,⟨[15,16],[]⟩)]⟩)]⟩),(13,⟨[],[(8,⟨[],[(14,⟨[15,16],[]⟩)]⟩)]⟩)]⟩ [] (fun _=>True) (h:=?_))
     all_goals repeat' (first|refine ay (hy:=by (apply y_gtrT_g;rfl;rfl;omega)) ?_|(refine ae (hc:=hcm) ?_)|refine gd ?_|refine ay (hy:=by first|(apply aB (q:=j*9);rfl;rfl;omega;omega;assumption;(rfl))|(apply aB (q:=(j-1)*9);rfl;rfl;omega;omega;assumption;(omega))) ?_|refine az ?_ (h':=?_)|exact aA|(refine al (bt (i:=j) (P:=Q2) rfl ao aa hx) rfl rfl rfl ?_)|(refine al (bt (i:=j-1) (P:=Q2) rfl ao aa hy) rfl rfl rfl ?_)|fail)
     all_goals
      repeat' (first|refine gs ?_|(refine gp ?_ ?_<;>intro hx_ this)|fail)
      · (refine ap ⟨[0,1,2,3,4,5,6,7,8,10,11,12],[(9,⟨[],[(13,⟨[14],[(15,⟨[16],[(17,⟨[],[]⟩)]⟩)]⟩)]⟩),(13,⟨[],[(9,⟨[14],[(15,⟨[16],[(17,⟨[],[]⟩)]⟩)]⟩)]⟩)]⟩ [] (fun _=>True) (h:=?_))
        all_goals repeat' (first|refine gd ?_|refine ay (hy:=by first|(apply aB (q:=j*9);rfl;rfl;omega;omega;assumption;(rfl))|(apply aB (q:=(j-1)*9);rfl;rfl;omega;omega;assumption;(omega))) ?_|refine az ?_ (h':=?_)|exact aA|(refine al (bt (i:=j) (P:=Q2) rfl ao aa hx) rfl rfl rfl ?_)|(refine al (bt (i:=j-1) (P:=Q2) rfl ao aa hy) rfl rfl rfl ?_)|((refine cg (i:=j) (p:=y) rfl rfl aa (by first|omega|(simp only [Z7];omega)) (At.here _) rfl aw rfl ?_))|((refine cg (i:=j-1) (p:=x) rfl rfl aa (by (simp only [Z7];omega)) (At.here _) rfl aw rfl ?_))|fail)
        all_goals
         repeat' (first|refine be (q:=1) (hq:=by omega) ?_|refine gs ?_|fail)
         exact ⟨(⟨j-1,by omega,by omega,(Q2.set j y).set (j-1) x,hQ2.swap hx hy (fun hs=>hsx hs (by assumption))⟩:InsJ P a k),(by show j-1<j;omega),ai am (ak _) fun _ h=>h⟩
      · repeat' (first|refine aP (q:=1) (hq:=by omega) ?_|fail)
        exact ⟨(⟨k+1,by omega,by omega,Q2,hQ2⟩:InsI P a b),(by show b-(k+1)<b-k;omega),ai am (ak _) fun _ h=>h⟩
   · apply QQ
     apply QQ
     unfold cmpF
     (refine ap ⟨[0,1,2,3,4,5,6,7,9,10,11,12],[(8,⟨[],[(13,⟨[],[(14,⟨[15,16],[]⟩)]⟩)]⟩),(13,⟨[],[(8,⟨[],[(14,⟨[15,16],[]⟩)]⟩)]⟩)]⟩ [] (fun _=>True) (h:=?_))
     all_goals repeat' (first|refine ay (hy:=by (apply y_gtrF_g;rfl;rfl;omega)) ?_|refine gd ?_|refine az ?_ (h':=?_)|exact aA|fail)
     all_goals
      repeat' (first|refine aP (q:=1) (hq:=by omega) ?_|refine gs ?_|fail)
      exact ⟨(⟨k+1,by omega,by omega,Q2,hQ2⟩:InsI P a b),(by show b-(k+1)<b-k;omega),ai am (ak _) fun _ h=>h⟩
 · exact aR (aH rfl) ⟨rfl,Q,hQ,rfl⟩
section
variable {N:Nat} {av bor:List Nat} {w0:World} {ops:Array Oper} {rest:List Oper} {k:St→Prop} {E:Env} {X:World→Prop} {d:Option Tmp} {ty:TypeId} {pos:String} {af:Array Edge} {g:Option (Nat×Bool)} {bb want:Bool}
theorem ij {x:Operand} {xs:List Operand} {ats:Array TypeId} {f:FuncId} {args:List Value} {s:Xk} {Q:List Xr}
  (hx:ev E x=some (.func (.func f) #[] #[]):=by rfl) (ha:evs E xs=some args:=by rfl) (hg:gdB ops E g=some (bb,want):=by rfl) (hb:bb=want:=by exact aw) (hd:inB N d=true:=by rfl) (hf:Xv prog f:=by first|infer_instance|exact ⟨aj⟩)
  (hc:Ct prog f args.toArray [postR s Q] (fun _=>True) (RelAt s Q))
  (h:∀ Q':List Xr,Rel Q Q'→Sw prog N av bor w0 ops rest ⟨putE E d (.tuple #[]),[postR s Q'],X⟩ k) :
  Sw prog N av bor w0 ops (⟨d,.call ⟨.value x,xs.toArray,ats⟩,ty,pos,af,g⟩::rest) ⟨E,[postR s Q],X⟩ k :=
 bO (pre:=[postR s Q]) (fr:=[]) (first:=#[]) (caps:=#[]) (Post:=RelAt s Q) hx ha rfl hg hb hd hf (by simpa using hc) (fun _ _=>trivial) fun u R X' ⟨h1,Q',h2,h3⟩=>by
  subst h1
  subst h3
  refine jf (fun a w ok=>?_) (h Q' h2)
  exact ok.via fun M G=>G.imp fun _ h=>h.1
theorem cC {x:Operand} {xs:List Operand} {ats:Array TypeId} {f:FuncId} {args:List Value} {s:Xk} {P Q:List Xr} (hQ:Rel P Q)
  (hx:ev E x=some (.func (.func f) #[] #[]):=by rfl) (ha:evs E xs=some args:=by rfl) (hg:gdB ops E g=some (bb,want):=by rfl) (hb:bb=want:=by exact aw) (hd:inB N d=true:=by rfl) (hf:Xv prog f:=by first|infer_instance|exact ⟨aj⟩)
  (hc:∀ Q:List Xr,Rel P Q→Ct prog f args.toArray [postR s Q] (fun _=>True) (RelAt s Q))
  (h:∀ Q':List Xr,Rel P Q'→Sw prog N av bor w0 ops rest ⟨putE E d (.tuple #[]),[postR s Q'],X⟩ k) :
  Sw prog N av bor w0 ops (⟨d,.call ⟨.value x,xs.toArray,ats⟩,ty,pos,af,g⟩::rest) ⟨E,[postR s Q],X⟩ k:=ij hx ha hg hb hd hf (hc Q hQ) fun Q' h1=>h Q' (hQ.trans h1)
theorem jJ {x:Operand} {xs:List Operand} {ats:Array TypeId} {f:FuncId} {args:List Value} {s:Xk} {P Q:List Xr} (hQ:Rel P Q) (hno:Srt P→False)
  (hx:ev E x=some (.func (.func f) #[] #[]):=by rfl) (ha:evs E xs=some args:=by rfl) (hg:gdB ops E g=some (bb,want):=by rfl) (hb:bb=want:=by exact aw) (hd:inB N d=true:=by rfl) (hf:Xv prog f:=by first|infer_instance|exact ⟨aj⟩)
  (hc:∀ Q:List Xr,Rel P Q→Ct prog f args.toArray [postR s Q] (fun _=>True) (PermAt s Q))
  (h:∀ Q':List Xr,Rel P Q'→Sw prog N av bor w0 ops rest ⟨putE E d (.tuple #[]),[postR s Q'],X⟩ k) :
  Sw prog N av bor w0 ops (⟨d,.call ⟨.value x,xs.toArray,ats⟩,ty,pos,af,g⟩::rest) ⟨E,[postR s Q],X⟩ k:=cb hx ha hg hb hd hf (hc Q hQ) fun Q' h1=>h Q' (hQ.perm h1 hno)
end
structure BinL (P:List Xr) (lo hi:Nat) extends BinI_g lo hi where
 hs:Srt P→i=lo
structure BinR (P:List Xr) (lo hi:Nat) extends BinI_g lo hi where
 hs:Srt P→j=hi
structure MerO (P:List Xr) (a m b mid:Nat) extends MerI_g a m b mid where
 hs:Srt P→j=(if mid<m then mid else m)
structure UpI (P:List Xr) (a:Nat) where
 k:Nat
 h1:a≤k
 Q:List Xr
 hQ:Rel P Q
structure DownI (P:List Xr) (i m:Nat) where
 k:Nat
 h1:i≤k
 h2:k≤m
 Q:List Xr
 hQ:Rel P Q
set_option maxRecDepth 20000 in
theorem cf:∀ (d:Nat) (s:Xk) (P:List Xr) (a m b:Nat),b-a≤d→s.n=P.length→s.n≤1000000→a<m→m<b→b≤s.n →
  Ct prog 324 #[s.v,.int .i64 (a:Nat),.int .i64 (m:Nat),.int .i64 (b:Nat),cmpF] [postR s P] (fun _=>True) (RelAt s P)
 | 0,s,P,a,m,b,hd,hs,hm,ha,hb,hbs=>absurd hd aa
 | d+1,s,P,a,m,b,hd,hs,hm,ha,hb,hbs=>by
  have ih:=cf d
  have hP:Rel P P:=Rel.refl P
  refine cP func324 ntmps324 fun av bor w0=>?_
  refine bY (r:=postR s P) ao (p:=0<s.n→s.p.isSome=true) (fun w h hn=>bK h hn) fun hp=>?_
  have hp':=hp aa
  by_cases hA:m-a=1
  · repeat' (first|refine be (hq:=by omega) ?_|refine aF ?_|refine gs ?_|fail)
    refine aq (ι:=BinL P m b) (fun r=>⟨[(0,s.v),(1,.int .i64 (a:Nat)),(4,cmpF),(10,.int .i64 (r.i:Nat)),(11,.int .i64 (r.j:Nat))],[postR s P],fun _=>True⟩) (fun r=>r.j-r.i) ⟨⟨m,b,by omega,by omega,by omega⟩,fun _=>rfl⟩ (ai am (ak _) fun _ h=>h) fun r=>?_
    obtain ⟨⟨i,j,h1,h2,h3⟩,hso⟩:=r
    simp only at hso
    simp only
    repeat' (first|refine aP (hq:=by omega) ?_|refine sy_toU_g (hq:=by omega) ?_|refine cY ?_|refine sy_toI_g (hq:=by omega) ?_|refine gs ?_|(refine gp ?_ ?_<;>intro hx_ this)|fail)
    · have hlt:i<j:=by omega
      obtain ⟨x,hx⟩:∃ x,P[(i+j)/2]?=some x:=⟨_,Zc aa⟩
      obtain ⟨y,hy⟩:∃ y,P[a]?=some y:=⟨_,Zc aa⟩
      have hcm:=dz x y
      have hsx:Srt P→¬ cmpX x y<0:=fun hs=>hs a ((i+j)/2) y x aa hy hx
      generalize cmpX x y=z at *
      unfold cmpF
      (refine ap ⟨[0,1,2,3,5,6,7],[(4,⟨[],[(8,⟨[],[(9,⟨[10],[]⟩)]⟩)]⟩),(8,⟨[],[(4,⟨[],[(9,⟨[10],[]⟩)]⟩)]⟩)]⟩ [] (fun _=>True) (h:=?_))
      all_goals repeat' (first|(refine ae (hc:=hcm) ?_)|refine gd ?_|refine ay (hy:=by first|(apply aB (q:=((i+j)/2)*9);rfl;rfl;omega;omega;assumption;(rfl))|(apply aB (q:=(a)*9);rfl;rfl;omega;omega;assumption;(rfl))) ?_|refine az ?_ (h':=?_)|exact aA|(refine al (bt (i:=(i+j)/2) (P:=P) rfl ao aa hx) rfl rfl rfl ?_)|(refine al (bt (i:=a) (P:=P) rfl ao aa hy) rfl rfl rfl ?_)|fail)
      all_goals
       repeat' (first|refine aP (q:=1) (hq:=by omega) ?_|refine gs ?_|(refine gp ?_ ?_<;>intro hx_ this)|fail)
       · exact ⟨(⟨⟨(i+j)/2+1,j,by omega,by omega,h3⟩,fun hs=>absurd (show z<0 by assumption) (hsx hs)⟩:BinL P m b),(by show j-((i+j)/2+1)<j-i;omega),ai am (ak _) fun _ h=>h⟩
       · exact ⟨(⟨⟨i,(i+j)/2,h1,by omega,by omega⟩,hso⟩:BinL P m b),(by show (i+j)/2-i<j-i;omega),ai am (ak _) fun _ h=>h⟩
    · refine aq (ι:=UpI P a) (fun r=>⟨[(0,s.v),(10,.int .i64 (i:Nat)),(13,.int .i64 (r.k:Nat))],[postR s r.Q],fun _=>True⟩) (fun r=>i-r.k) ⟨a,ZV _,P,hP⟩ (ai am (ak _) fun _ h=>h) fun r=>?_
      obtain ⟨k,h4,Q,hQ⟩:=r
      simp only
      have hl:=hQ.1.length_eq
      repeat' (first|refine be (q:=1) (hq:=by omega) ?_|refine gs ?_|(refine gp ?_ ?_<;>intro hx_ this)|fail)
      · have hlt:k+1<i:=by omega
        obtain ⟨x,hx⟩:∃ x,Q[k]?=some x:=⟨_,Zc aa⟩
        obtain ⟨y,hy⟩:∃ y,Q[k+1]?=some y:=⟨_,Zc aa⟩
        (refine ap ⟨[0,1,2,3,4,5,6,7,8,10,11,12],[(9,⟨[],[(13,⟨[14],[(15,⟨[16],[(17,⟨[],[]⟩)]⟩)]⟩)]⟩),(13,⟨[],[(9,⟨[14],[(15,⟨[16],[(17,⟨[],[]⟩)]⟩)]⟩)]⟩)]⟩ [] (fun _=>True) (h:=?_))
        all_goals repeat' (first|refine gd ?_|refine ay (hy:=by first|(apply aB (q:=(k)*9);rfl;rfl;omega;omega;assumption;(rfl))|(apply aB (q:=(k+1)*9);rfl;rfl;omega;omega;assumption;(rfl))) ?_|refine az ?_ (h':=?_)|exact aA|(refine al (bt (i:=k) (P:=Q) rfl ao aa hx) rfl rfl rfl ?_)|(refine al (bt (i:=k+1) (P:=Q) rfl ao aa hy) rfl rfl rfl ?_)|((refine cg (i:=k) (p:=y) rfl rfl aa (by first|omega|(simp only [Z7];omega)) (At.here _) rfl aw rfl ?_))|((refine cg (i:=k+1) (p:=x) rfl rfl aa (by (simp only [Z7];omega)) (At.here _) rfl aw rfl ?_))|fail)
        all_goals
         repeat' (first|refine aP (q:=1) (hq:=by omega) ?_|refine gs ?_|fail)
         exact ⟨(⟨k+1,by omega,(Q.set k y).set (k+1) x,hQ.swap hx hy (fun hs=>by have:=hso hs;omega)⟩:UpI P a),(by show i-(k+1)<i-k;omega),ai am (ak _) fun _ h=>h⟩
      · exact ab (aH rfl) ⟨rfl,Q,hQ,rfl⟩
  · by_cases hB:b-m=1
    · repeat' (first|refine be (hq:=by omega) ?_|refine aF ?_|refine aI ?_|refine gs ?_|fail)
      refine aq (ι:=BinR P a m) (fun r=>⟨[(0,s.v),(2,.int .i64 (m:Nat)),(4,cmpF),(14,.int .i64 (r.i:Nat)),(15,.int .i64 (r.j:Nat))],[postR s P],fun _=>True⟩) (fun r=>r.j-r.i) ⟨⟨a,m,by omega,by omega,by omega⟩,fun _=>rfl⟩ (ai am (ak _) fun _ h=>h) fun r=>?_
      obtain ⟨⟨i,j,h1,h2,h3⟩,hso⟩:=r
      simp only at hso
      simp only
      repeat' (first|refine aP (hq:=by omega) ?_|refine sy_toU_g (hq:=by omega) ?_|refine cY ?_|refine sy_toI_g (hq:=by omega) ?_|refine gs ?_|(refine gp ?_ ?_<;>intro hx_ this)|fail)
      · have hlt:i<j:=by omega
        obtain ⟨x,hx⟩:∃ x,P[m]?=some x:=⟨_,Zc aa⟩
        obtain ⟨y,hy⟩:∃ y,P[(i+j)/2]?=some y:=⟨_,Zc aa⟩
        have hcm:=dz x y
        have hsx:Srt P→¬ cmpX x y<0:=fun hs=>hs ((i+j)/2) m y x aa hy hx
        generalize cmpX x y=z at *
        unfold cmpF
        (refine ap ⟨[0,1,2,3,5,6,7],[(4,⟨[],[(8,⟨[],[(9,⟨[10,11],[]⟩)]⟩)]⟩),(8,⟨[],[(4,⟨[],[(9,⟨[10,11],[]⟩)]⟩)]⟩)]⟩ [] (fun _=>True) (h:=?_))
        all_goals repeat' (first|(refine ae (hc:=hcm) ?_)|refine gd ?_|refine ay (hy:=by first|(apply aB (q:=(m)*9);rfl;rfl;omega;omega;assumption;(rfl))|(apply aB (q:=((i+j)/2)*9);rfl;rfl;omega;omega;assumption;(rfl))) ?_|refine az ?_ (h':=?_)|exact aA|(refine al (bt (i:=m) (P:=P) rfl ao aa hx) rfl rfl rfl ?_)|(refine al (bt (i:=(i+j)/2) (P:=P) rfl ao aa hy) rfl rfl rfl ?_)|fail)
        all_goals
         repeat' (first|refine aP (q:=1) (hq:=by omega) ?_|refine gs ?_|(refine gp ?_ ?_<;>intro hx_ this)|fail)
         · exact ⟨(⟨⟨(i+j)/2+1,j,by omega,by omega,h3⟩,hso⟩:BinR P a m),(by show j-((i+j)/2+1)<j-i;omega),ai am (ak _) fun _ h=>h⟩
         · exact ⟨(⟨⟨i,(i+j)/2,h1,by omega,by omega⟩,fun hs=>absurd (show z<0 by (simp_all;done)) (hsx hs)⟩:BinR P a m),(by show (i+j)/2-i<j-i;omega),ai am (ak _) fun _ h=>h⟩
      · refine aq (ι:=DownI P i m) (fun r=>⟨[(0,s.v),(14,.int .i64 (i:Nat)),(17,.int .i64 (r.k:Nat))],[postR s r.Q],fun _=>True⟩) (fun r=>r.k) ⟨m,by omega,ZV _,P,hP⟩ (ai am (ak _) fun _ h=>h) fun r=>?_
        obtain ⟨k,h4,h5,Q,hQ⟩:=r
        simp only
        have hl:=hQ.1.length_eq
        repeat' (first|refine gs ?_|(refine gp ?_ ?_<;>intro hx_ this)|fail)
        · have hlt:i<k:=by omega
          obtain ⟨x,hx⟩:∃ x,Q[k]?=some x:=⟨_,Zc aa⟩
          obtain ⟨y,hy⟩:∃ y,Q[k-1]?=some y:=⟨_,Zc aa⟩
          (refine ap ⟨[0,1,2,3,4,5,6,7,8,10,11,12],[(9,⟨[],[(13,⟨[14],[(15,⟨[16],[(17,⟨[],[]⟩)]⟩)]⟩)]⟩),(13,⟨[],[(9,⟨[14],[(15,⟨[16],[(17,⟨[],[]⟩)]⟩)]⟩)]⟩)]⟩ [] (fun _=>True) (h:=?_))
          all_goals repeat' (first|refine gd ?_|refine ay (hy:=by first|(apply aB (q:=(k)*9);rfl;rfl;omega;omega;assumption;(rfl))|(apply aB (q:=(k-1)*9);rfl;rfl;omega;omega;assumption;(omega))) ?_|refine az ?_ (h':=?_)|exact aA|(refine al (bt (i:=k) (P:=Q) rfl ao aa hx) rfl rfl rfl ?_)|(refine al (bt (i:=k-1) (P:=Q) rfl ao aa hy) rfl rfl rfl ?_)|((refine cg (i:=k) (p:=y) rfl rfl aa (by first|omega|(simp only [Z7];omega)) (At.here _) rfl aw rfl ?_))|((refine cg (i:=k-1) (p:=x) rfl rfl aa (by (simp only [Z7];omega)) (At.here _) rfl aw rfl ?_))|fail)
          all_goals
           repeat' (first|refine be (q:=1) (hq:=by omega) ?_|refine gs ?_|fail)
           exact ⟨(⟨k-1,by omega,by omega,(Q.set k y).set (k-1) x,hQ.swap hx hy (fun hs=>by have:=hso hs;omega)⟩:DownI P i m),(by show k-1<k;omega),ai am (ak _) fun _ h=>h⟩
        · exact ab (aH rfl) ⟨rfl,Q,hQ,rfl⟩
    · obtain ⟨mid,hmid⟩:∃ mid,mid=(a+b)/2:=⟨_,rfl⟩
      have hm1:a<mid:=by omega
      have hm2:mid<b:=by omega
      have hm3:2*mid≤a+b:=by omega
      have hm4:a+b≤2*mid+1:=by omega
      by_cases hmm:mid<m
      all_goals
       repeat' (first|refine aI ?_|refine d5 ?_|refine eQ ?_|refine be (q:=1) (hq:=by omega) ?_|refine be (hq:=by omega) ?_|refine aP (hq:=by omega) ?_|refine sy_toU_g (hq:=by omega) ?_|refine cY ?_|refine sy_toI_g (hq:=by omega) ?_|refine gs ?_|fail)
       rw [←hmid]
       first
        | refine aq (ι:=MerO P a m b mid) (fun r=>⟨[(0,s.v),(1,.int .i64 (a:Nat)),(2,.int .i64 (m:Nat)),(3,.int .i64 (b:Nat)),(4,cmpF),(18,.int .i64 (mid:Nat)),(19,.int .i64 ((mid+m:Nat):Int)),(20,.int .i64 (r.i:Nat)),(21,.int .i64 (r.j:Nat)),(22,.int .i64 ((mid+m-1:Nat):Int))],[postR s P],fun _=>True⟩) (fun r=>r.j-r.i) ⟨⟨mid+m-b,mid,by omega,by omega,by omega⟩,fun _=>by rw [ZN (by assumption)]⟩ (ai am (ak _) fun _ h=>h) fun r=>?_
        | refine aq (ι:=MerO P a m b mid) (fun r=>⟨[(0,s.v),(1,.int .i64 (a:Nat)),(2,.int .i64 (m:Nat)),(3,.int .i64 (b:Nat)),(4,cmpF),(18,.int .i64 (mid:Nat)),(19,.int .i64 ((mid+m:Nat):Int)),(20,.int .i64 (r.i:Nat)),(21,.int .i64 (r.j:Nat)),(22,.int .i64 ((mid+m-1:Nat):Int))],[postR s P],fun _=>True⟩) (fun r=>r.j-r.i) ⟨⟨a,m,by omega,by omega,by omega⟩,fun _=>by rw [ZO (by assumption)]⟩ (ai am (ak _) fun _ h=>h) fun r=>?_
       obtain ⟨⟨i,j,h1,h2,h3⟩,hso⟩:=r
       simp only at hso
       simp only
       have hk1:a≤i:=by omega
       have hk2:j≤m:=by omega
       have hk3:i≤mid+m:=by omega
       by_cases hij:i<j
       · have hk4:(i+j)/2<j:=by omega
         have hk5:i≤(i+j)/2:=by omega
         have hk6:(i+j)/2≤mid+m-1:=by omega
         have hk7:mid+m-1-(i+j)/2<b:=by omega
         repeat' (first|refine sy_lssT_g ?_|refine aP (hq:=by omega) ?_|refine sy_toU_g (hq:=by omega) ?_|refine cY ?_|refine sy_toI_g (hq:=by omega) ?_|refine gs ?_|fail)
         obtain ⟨x,hx⟩:∃ x,P[mid+m-1-(i+j)/2]?=some x:=⟨_,Zc aa⟩
         obtain ⟨y,hy⟩:∃ y,P[(i+j)/2]?=some y:=⟨_,Zc aa⟩
         have hcm:=dz x y
         have hsx:Srt P→¬ cmpX x y<0:=fun hs=>hs ((i+j)/2) (mid+m-1-(i+j)/2) y x aa hy hx
         generalize cmpX x y=z at *
         unfold cmpF
         (refine ap ⟨[0,1,2,3,4,5,7,8,9],[(6,⟨[],[(10,⟨[],[(11,⟨[12,13],[]⟩)]⟩)]⟩),(10,⟨[],[(6,⟨[],[(11,⟨[12,13],[]⟩)]⟩)]⟩)]⟩ [] (fun _=>True) (h:=?_))
         all_goals repeat' (first|(refine ae (hc:=hcm) ?_)|refine gd ?_|refine ay (hy:=by first|(apply aB (q:=(mid+m-1-(i+j)/2)*9);rfl;rfl;omega;omega;assumption;(omega))|(apply aB (q:=((i+j)/2)*9);rfl;rfl;omega;omega;assumption;(rfl))) ?_|refine az ?_ (h':=?_)|exact aA|(refine al (bt (i:=mid+m-1-(i+j)/2) (P:=P) rfl ao aa hx) rfl rfl rfl ?_)|(refine al (bt (i:=(i+j)/2) (P:=P) rfl ao aa hy) rfl rfl rfl ?_)|fail)
         all_goals
          repeat' (first|refine aP (q:=1) (hq:=by omega) ?_|refine gs ?_|(refine gp ?_ ?_<;>intro hx_ this)|fail)
          · exact ⟨(⟨⟨(i+j)/2+1,j,by omega,by omega,by omega⟩,hso⟩:MerO P a m b mid),(by show j-((i+j)/2+1)<j-i;omega),ai am (ak _) fun _ h=>h⟩
          · exact ⟨(⟨⟨i,(i+j)/2,by omega,by omega,by omega⟩,fun hs=>absurd (show z<0 by (simp_all;done)) (hsx hs)⟩:MerO P a m b mid),(by show (i+j)/2-i<j-i;omega),ai am (ak _) fun _ h=>h⟩
       · have hk8:mid+m-i≤b:=by omega
         have hnl:¬ (i:Int)<(j:Int):=by omega
         repeat' (first|refine sy_lssF_g (hab:=by first|exact hnl|omega) ?_|refine sy_lssT_g ?_|refine be (hq:=by omega) ?_|refine gs ?_|(refine jJ (P:=P) (hQ:=by assumption) (hno:=fun hs=>by have:=hso hs;split at this<;>omega) (hc:=fun Q hQ=>fa s Q i m (mid+m-i) cmpF (hs.trans hQ.1.length_eq.symm) hm aa aa aa) (h:=fun Q2 hQ2=>?_))|(refine cC (P:=P) (hQ:=by assumption) (hc:=fun Q hQ=>ih s Q a i mid aa (hs.trans hQ.1.length_eq.symm) hm aa aa aa) (h:=fun Q2 hQ2=>?_))|(refine cC (P:=P) (hQ:=by assumption) (hc:=fun Q hQ=>ih s Q mid (mid+m-i) b aa (hs.trans hQ.1.length_eq.symm) hm aa aa aa) (h:=fun Q2 hQ2=>?_))|(refine gp ?_ ?_<;>intro hx_ this)|fail)
         all_goals
          refine aR (aH rfl) ⟨rfl,_,?_,rfl⟩
          assumption
end SrB
namespace SrB
structure StaI (P:List Xr) (n w:Nat) where
 a:Nat
 b:Nat
 h1:a≤n
 h2:b=a+w
 Q:List Xr
 hQ:Rel P Q
structure StaO (P:List Xr) (n:Nat) where
 z:Nat
 h1:1≤z
 h2:z≤2*n+20
 Q:List Xr
 hQ:Rel P Q
set_option maxRecDepth 20000 in
theorem eZ (s:Xk) (P:List Xr) (hs:s.n=P.length) (hm:s.n≤1000000):Ct prog 320 #[s.v,.int .i64 (s.n:Nat),cmpF] [postR s P] (fun _=>True) (RelAt s P):=by
 have hP:Rel P P:=Rel.refl P
 refine cP func320 ntmps320 fun av bor w0=>?_
 repeat' (first|refine gs ?_|fail)
 refine aq (ι:=StaI P s.n 20) (fun r=>⟨[(0,s.v),(1,.int .i64 (s.n:Nat)),(2,cmpF),(6,.int .i64 20),(7,.int .i64 (r.a:Nat)),(8,.int .i64 (r.b:Nat))],[postR s r.Q],fun _=>True⟩) (fun r=>s.n-r.a) ⟨0,20,Z2 _,rfl,P,hP⟩ (ai am (ak _) fun _ h=>h) fun r=>?_
 obtain ⟨a,b,h1,h2,Q,hQ⟩:=r
 simp only
 repeat' (first|refine aP (q:=20) (hq:=by omega) ?_|refine gs ?_|(refine cC (P:=P) (hQ:=by assumption) (hc:=fun Q hQ=>cE s Q a b (hs.trans hQ.1.length_eq.symm) hm aa aa) (h:=fun Q2 hQ2=>?_))|(refine cC (P:=P) (hQ:=by assumption) (hc:=fun Q hQ=>cE s Q a s.n (hs.trans hQ.1.length_eq.symm) hm aa aa) (h:=fun Q2 hQ2=>?_))|(refine gp ?_ ?_<;>intro hx_ this)|fail)
 · exact ⟨(⟨b,b+20,by omega,rfl,Q2,hQ2⟩:StaI P s.n 20),(by show s.n-b<s.n-a;omega),ai am (ak _) fun _ h=>h⟩
 · refine aq (ι:=StaO P s.n) (fun r=>⟨[(0,s.v),(1,.int .i64 (s.n:Nat)),(2,cmpF),(6,.int .i64 (r.z:Nat))],[postR s r.Q],fun _=>True⟩) (fun r=>s.n-r.z) ⟨20,by omega,by omega,Q2,hQ2⟩ (ai am (ak _) fun _ h=>h) fun r=>?_
   clear h1 h2 hQ hQ2
   obtain ⟨z,h1,h2,Q,hQ⟩:=r
   simp only
   repeat' (first|refine dZ (p:=2) (hq:=by omega) ?_|refine gs ?_|(refine gp ?_ ?_<;>intro hx_ this)|fail)
   · have hzn:z<s.n:=by omega
     refine aq (ι:=StaI P s.n (2*z)) (fun r=>⟨[(0,s.v),(1,.int .i64 (s.n:Nat)),(2,cmpF),(6,.int .i64 (z:Nat)),(7,.int .i64 (r.a:Nat)),(8,.int .i64 (r.b:Nat))],[postR s r.Q],fun _=>True⟩) (fun r=>s.n-r.a) ⟨0,2*z,Z2 _,(ZS _).symm,Q,hQ⟩ (ai am (ak _) fun _ h=>h) fun r=>?_
     obtain ⟨a,b,h3,h4,Q3,hQ3⟩:=r
     simp only
     repeat' (first|refine aP (hq:=by omega) ?_|refine dZ (p:=2) (hq:=by omega) ?_|refine dZ (q:=2) (hq:=by omega) ?_|refine gs ?_|(refine cC (P:=P) (hQ:=by assumption) (hc:=fun Q hQ=>cf (b-a) s Q a (a+z) b (ZV _) (hs.trans hQ.1.length_eq.symm) hm aa aa aa) (h:=fun Q2 hQ2=>?_))|(refine cC (P:=P) (hQ:=by assumption) (hc:=fun Q hQ=>cf (s.n-a) s Q a (a+z) s.n (ZV _) (hs.trans hQ.1.length_eq.symm) hm aa aa aa) (h:=fun Q2 hQ2=>?_))|(refine gp ?_ ?_<;>intro hx_ this)|fail)
     · exact ⟨(⟨b,b+2*z,by omega,rfl,Q2,hQ2⟩:StaI P s.n (2*z)),(by show s.n-b<s.n-a;omega),ai am (ak _) fun _ h=>h⟩
     all_goals
      refine ⟨(⟨z*2,by omega,by omega,_,?_⟩:StaO P s.n),(by show s.n-z*2<s.n-z;omega),ai am (ak _) fun _ h=>h⟩
      assumption
   · exact aR (aH rfl) ⟨rfl,Q,hQ,rfl⟩
theorem sortStable_ct (s:Xk) (P:List Xr) (hs:s.n=P.length) (hm:s.n≤1000000):Ct prog 314 #[s.v,cmpF] [postR s P] (fun _=>True) (RelAt s P):=by
 have hP:Rel P P:=Rel.refl P
 refine cP func314 ntmps314 fun av bor w0=>?_
 repeat' (first|refine gs ?_|(refine cC (P:=P) (hQ:=by assumption) (hc:=fun Q hQ=>eZ s Q (hs.trans hQ.1.length_eq.symm) hm) (h:=fun Q2 hQ2=>?_))|fail)
 exact aR (aH rfl) ⟨rfl,Q2,hQ2,rfl⟩
end SrB
end Go.Proofs.YtaolfiikahlmkaaGreatDoor
namespace Go.Proofs.YtaolfiikahlmkaaGreatDoor
open Go Go.Proofs Sy Tryz
def fndOfB (dI:Xc→ByteArray) (it:Xc):Xr:=⟨0,dI it,it.ballot⟩
def selBB (au:ByteArray) (gn:Int) (rI:Xc→Bool) (it:Xc):Bool:=wantB au gn it&&rI it
def selFB (au:ByteArray) (gn:Int) (rI:Xc→Bool) (dI:Xc→ByteArray) (I:List Xc):List Xr:=(I.filter (selBB au gn rI)).map (fndOfB dI)
def selB2 (au:ByteArray) (gn:Int) (rI:Xc→Bool) (I:List Xc):List Xh:=(I.filter (selBB au gn rI)).map Xc.ballot
theorem GU (au:ByteArray) (gn:Int) (rI:Xc→Bool) (dI:Xc→ByteArray) (I:List Xc):(selFB au gn rI dI I).map Xr.a=selB2 au gn rI I:=by rw [selFB,selB2,ZY];rfl
structure PikIB (I:List Xc) (au:ByteArray) (gn:Int) (rI:Xc→Bool) (dI:Xc→ByteArray) where
 k:Nat
 hk:k≤I.length
 A:Option Addr
 c:Nat
 n:Nat
 hn:n=(selFB au gn rI dI (I.take k)).length
 xs:List Value
 hxs:xs=((selFB au gn rI dI (I.take k)).map Xr.cells).flatten
structure ValIB (Q:List Xr) where
 k:Nat
 hk:k≤Q.length
 A:Option Addr
 c:Nat
 xs:List Value
 hxs:xs=((Q.take k).map fun f=>f.a.cells).flatten
def wantVB (bW bG:Nat):Value:=.func (.func 298) #[] #[.pointer (some ⟨bW,0,none⟩),.pointer (some ⟨bG,0,none⟩)]
theorem AM (ks ki:Xk) (I:List Xc) (bW bG:Nat) (au:ByteArray) (gn:Int) (rI:Xc→Bool) (dI:Xc→ByteArray)
  (hR:∀ it∈I,Pu prog 73 #[it.v] (fun w=>it.at_ w) (.bool (rI it)))
  (hD:∀ it∈I,Pu prog 18 #[it.v] (fun w=>it.at_ w∧Xe w) (.string (dI it)))
  (hI:I.length≤1000) (hasc:SrB.Srt (selFB au gn rI dI I)) :
  Mk prog 297 #[.agg #[ks.v,ki.v],wantVB bW bG] (fun w=>(Items w ki I∧(CelD bW [.string au] w∧CelD bG [.int .i64 gn] w))∧Xe w)
   (fun u X'=>∃ s:Xk,u=s.v∧∀ w,X' w→Ballots w s (selB2 au gn rI I)):=by
 refine dm func297 ntmps297 fun av bor w0=>?_
 refine aQ (p:=ki.n=I.length∧ki.n≤maxLen∧(0<I.length→ki.p.isSome=true)) (fun w h=>⟨h.1.1.len_,h.1.1.max_,h.1.1.some_⟩) fun ⟨hkn,hkm,hkp⟩=>?_
 simp only [maxLen] at hkm
 repeat' (first|refine gs ?_|refine gs1 fun _=>?_|fail)
 rename_i b2
 refine cL 329 9 ?_
 refine aq (ι:=PikIB I au gn rI dI) (fun i=>⟨[(1,wantVB bW bG),(5,.slice i.A i.n i.c),(15,ki.v),(16,.int .i64 (ki.n:Nat)),(17,.int .i64 (i.k:Nat))],[orow 329 9 (.slice i.A i.n i.c) i.n i.xs],fun w=>(Items w ki I∧(CelD bW [.string au] w∧CelD bG [.int .i64 gn] w))∧Xe w⟩) (fun i=>I.length-i.k) ⟨0,Z2 _,none,0,0,rfl,[],rfl⟩ (ai am (.cons_cons _ (Zt _)) fun _ h=>h) fun i=>?_
 obtain ⟨k,hk,A,c,n,hn,xs,hxs⟩:=i
 simp only
 repeat' (first|refine gs ?_|(refine gp ?_ ?_<;>intro hx_ this)|fail)
 · have hlt:k<I.length:=by omega
   have hkp':=hkp aa
   obtain ⟨it,hit⟩:∃ it,I[k]?=some it:=⟨_,Zc hlt⟩
   have him:=Z4 hit
   have hnl:n≤1000:=by
    rw [hn,selFB,ZE]
    exact ZW (Z8 _ _) (by rw [Qg];omega)
   repeat' (first|refine gs ?_|refine gs1 fun _=>?_|(refine aD (q:=k*49) ?_)|(refine aN (cs:=it.cells) (hF:=fun w h=>h.1.1.get hit) ?_)|fail)
   rename_i b7
   have hri:=hR it him
   have hdi:=hD it him
   have hwa:=B8 bW bG au gn it
   have htk:selFB au gn rI dI (I.take (k+1))=selFB au gn rI dI (I.take k)++(bif selBB au gn rI it then [fndOfB dI it] else []):=by
    rw [selFB,selFB,Qe,hit,Qt,ZU,Qs]
    congr 1
    cases hb:selBB au gn rI it with
    | true=>simp [hb]
    | false=>simp [hb]
   cases hwt:wantB au gn it with
   | false =>
    rw [hwt] at hwa
    have hno:selFB au gn rI dI (I.take (k+1))=selFB au gn rI dI (I.take k):=by rw [htk,selBB,hwt];exact ZI _
    refine fx (args:=[it.v]) (all:=[it.v,.pointer (some ⟨bW,0,none⟩),.pointer (some ⟨bG,0,none⟩)]) (first:=#[]) (caps:=#[.pointer (some ⟨bW,0,none⟩),.pointer (some ⟨bG,0,none⟩)]) (hx:=rfl) (ha:=rfl) (hall:=rfl) (hc:=hwa) (hX:=fun w h=>h.1.2) (h:=?_)
    repeat' (first|refine gs ?_|refine gs1 fun _=>?_|fail)
    exact ⟨(⟨k+1,hlt,A,c,n,by rw [hno];exact hn,xs,by rw [hno];exact hxs⟩:PikIB I au gn rI dI),(by show I.length-(k+1)<I.length-k;omega),ai am (.cons _ (.cons _ (ak _))) fun _ h=>h⟩
   | true =>
    rw [hwt] at hwa
    cases hrt:rI it with
    | false =>
     rw [hrt] at hri
     have hno:selFB au gn rI dI (I.take (k+1))=selFB au gn rI dI (I.take k):=by rw [htk,selBB,hwt,hrt];exact ZI _
     refine fx (args:=[it.v]) (all:=[it.v,.pointer (some ⟨bW,0,none⟩),.pointer (some ⟨bG,0,none⟩)]) (first:=#[]) (caps:=#[.pointer (some ⟨bW,0,none⟩),.pointer (some ⟨bG,0,none⟩)]) (hx:=rfl) (ha:=rfl) (hall:=rfl) (hc:=hwa) (hX:=fun w h=>h.1.2) (h:=?_)
     repeat' (first|(refine ae (hc:=hri) (hX:=fun w h=>h.1.1.2 it him) ?_)|refine gs ?_|refine gs1 fun _=>?_|fail)
     exact ⟨(⟨k+1,hlt,A,c,n,by rw [hno];exact hn,xs,by rw [hno];exact hxs⟩:PikIB I au gn rI dI),(by show I.length-(k+1)<I.length-k;omega),ai am (.cons _ (.cons _ (ak _))) fun _ h=>h⟩
    | true =>
     rw [hrt] at hri
     have hyes:selFB au gn rI dI (I.take (k+1))=selFB au gn rI dI (I.take k)++[fndOfB dI it]:=by rw [htk,selBB,hwt,hrt];rfl
     refine fx (args:=[it.v]) (all:=[it.v,.pointer (some ⟨bW,0,none⟩),.pointer (some ⟨bG,0,none⟩)]) (first:=#[]) (caps:=#[.pointer (some ⟨bW,0,none⟩),.pointer (some ⟨bG,0,none⟩)]) (hx:=rfl) (ha:=rfl) (hall:=rfl) (hc:=hwa) (hX:=fun w h=>h.1.2) (h:=?_)
     repeat' (first|(refine ae (hc:=hri) (hX:=fun w h=>h.1.1.2 it him) ?_)|refine gs ?_|refine gs1 fun _=>?_|fail)
     rename_i b8
     (refine ap ⟨[0,1,2,4],[(3,⟨[5],[(6,⟨[],[(7,⟨[8],[]⟩)]⟩)]⟩)]⟩ [cel b8 56 it.ballot.cells,cel b7 60 it.cells] (fun w=>(Items w ki I∧(CelD bW [.string au] w∧CelD bG [.int .i64 gn] w))∧Xe w) (h:=?_))
     all_goals repeat' (first|(refine ae (hc:=hdi) (hX:=fun w h=>⟨h.1.1.2 it him,h.2⟩) ?_)|refine gdz ?_|refine ay (hsub:=by exact aK) (hy:=by (apply dt (cs:=(fndOfB dI it).cells);rfl;rfl)) ?_|refine az ?_ (h':=?_)|exact aA|refine cN (size:=9) (vs:=[.agg (fndOfB dI it).cells.toArray]) (css:=(fndOfB dI it).cells) (hsz:=by rfl) (hcs:=by rfl) fun _=>?_|(refine jv ?_;refine aL (size:=9) (news:=(fndOfB dI it).cells) (q:=1) rfl rfl rfl rfl (fun _=>At.there _ (At.there _ (At.there _ (At.here _)))) (fun w G=>bN G ao rfl rfl 1) aa (by simp only [maxLen];omega) rfl ?_ rfl ?_;(with_reducible rfl);intro A2 c2)|fail)
     all_goals
      repeat' (first|refine gs ?_|fail)
      exact ⟨(⟨k+1,hlt,A2,c2,n+1,by rw [hyes,Zz,←hn];rfl,xs++(fndOfB dI it).cells,by rw [hyes,hxs];simp⟩:PikIB I au gn rI dI),(by show I.length-(k+1)<I.length-k;omega),ai am (.cons _ (.cons _ (.cons _ (ak _)))) fun _ h=>h⟩
 have hkE:k=I.length:=by omega
 rw [hkE,Qf] at hn hxs
 obtain ⟨P,hP⟩:∃ P,selFB au gn rI dI I=P:=⟨_,rfl⟩
 rw [hP] at hn hxs
 have hPl:P.length≤I.length:=by rw [←hP,selFB,ZE];exact Z8 _ _
 subst hxs
 refine bO (pre:=[SrB.postR ⟨A,n,c⟩ P]) (fr:=[]) (first:=#[]) (caps:=#[]) (hc:=SrB.sortStable_ct ⟨A,n,c⟩ P hn (by show n≤1000000;omega)) (hX:=fun _ _=>trivial) (h:=?_)
 rintro v R X' ⟨rfl,Q,hQ,rfl⟩
 have hQP:Q=P:=hQ.2 (by rw [←hP];exact hasc)
 subst hQP
 have hQl:Q.length=n:=hn.symm
 have hnI:n≤1000:=by omega
 refine cI (X':=fun w=>(Items w ki I∧(CelD bW [.string au] w∧CelD bG [.int .i64 gn] w))∧Xe w) (fun w h=>h.1) ?_
 repeat' (first|refine gs ?_|(refine iQ (c:=n) (hm:=Nat.ble_eq_true_of_le aa) (hm2:=Nat.ble_eq_true_of_le aa) fun bv=>?_)|fail)
 refine bY (r:=SrB.postR ⟨A,n,c⟩ Q) aM (p:=0<n→A.isSome=true) (fun w h h0=>bK h h0) fun hAp=>?_
 refine aq (ι:=ValIB Q) (fun i=>⟨[(11,.slice i.A i.k i.c),(47,.slice A n c),(48,.int .i64 (n:Nat)),(49,.int .i64 (i.k:Nat))],[orow 56 7 (.slice i.A i.k i.c) i.k i.xs,SrB.postR ⟨A,n,c⟩ Q],fun w=>(Items w ki I∧(CelD bW [.string au] w∧CelD bG [.int .i64 gn] w))∧Xe w⟩) (fun i=>Q.length-i.k) ⟨0,Z2 _,_,_,[],rfl⟩ (ai am (ak _) fun _ h=>h) fun i=>?_
 obtain ⟨k2,hk2,A2,c2,xs2,hxs2⟩:=i
 simp only
 repeat' (first|refine gs ?_|(refine gp ?_ ?_<;>intro hx_ this)|fail)
 · have hlt:k2<Q.length:=by omega
   have hAp':=hAp aa
   obtain ⟨f,hf⟩:∃ f,Q[k2]?=some f:=⟨_,Zc hlt⟩
   repeat' (first|refine cN (size:=7) (vs:=[f.a.v]) (css:=f.a.cells) (hsz:=by rfl) (hcs:=by rfl) fun _=>?_|refine gs ?_|refine gs1 fun _=>?_|(refine aD (q:=k2*9) ?_)|(refine al (gP (size:=9) (m:=n) (i:=k2) (xs:=Q.map Xr.cells) (cs:=f.cells) rfl (.tail _ (.head _)) (by rw [ZE];exact hQl.symm) (SrB.cellsF Q) (by simp [hf])) rfl rfl rfl ?_)|(refine aE (vs:=f.a.cells) (hv:=rfl) ?_)|fail)
   refine aL (size:=7) (news:=f.a.cells) (q:=1) rfl rfl rfl rfl (fun _=>At.there _ (At.there _ (At.here _))) (fun w G=>bN G ao rfl rfl 1) aa (by simp only [maxLen];omega) rfl ?_ rfl ?_
   · (with_reducible rfl)
   intro A3 c3
   repeat' (first|refine gs ?_|fail)
   exact ⟨(⟨k2+1,hlt,A3,c3,xs2++f.a.cells,by rw [Qe,hf,hxs2];simp⟩:ValIB Q),(by show Q.length-(k2+1)<Q.length-k2;omega),ai am (.cons _ (.cons _ (ak _))) fun _ h=>h⟩
 have hk2E:k2=Q.length:=by omega
 rw [hk2E,Qf] at hxs2
 have hLp:Q.map Xr.a=selB2 au gn rI I:=by rw [←GU au gn rI dI I,hP]
 refine ab (ag rfl rfl) ⟨⟨A2,k2,c2⟩,rfl,fun w h=>?_⟩
 rw [←hLp]
 have hr:=h.2 (orow 56 7 (.slice A2 k2 c2) k2 xs2) (.head _)
 exact bu (xs:=(Q.map Xr.a).map Xh.cells) (by rw [ZY];rw [hxs2] at hr;exact hr) (by rw [ZE,ZE];exact hk2E) (sA _)
theorem lm (ks ki:Xk) (I:List Xc) (au:ByteArray) (gn:Int) (rI:Xc→Bool) (dI:Xc→ByteArray)
  (hR:∀ it∈I,Pu prog 73 #[it.v] (fun w=>it.at_ w) (.bool (rI it)))
  (hD:∀ it∈I,Pu prog 18 #[it.v] (fun w=>it.at_ w∧Xe w) (.string (dI it)))
  (hI:I.length≤1000) (hasc:SrB.Srt (selFB au gn rI dI I)) :
  Mk prog 287 #[.agg #[ks.v,ki.v],.string au,.int .i64 gn] (fun w=>Items w ki I∧Xe w)
   (fun u X'=>∃ s:Xk,u=s.v∧∀ w,X' w→Ballots w s (selB2 au gn rI I)):=by
 refine dm func287 ntmps287 fun av bor w0=>?_
 repeat' (first|refine gs ?_|refine gs1 fun _=>?_|(refine eG ?_)|fail)
 rename_i b2 b3 b4
 refine bJ ?_
 refine bJ ?_
 refine bF (hc:=AM ks ki I b3 b4 au gn rI dI hR hD hI hasc) (hX:=fun w h=>⟨⟨h.1.1.1,fF h.2,fF h.1.2⟩,h.1.1.2⟩) fun v X1 h1=>?_
 obtain ⟨s,rfl,hw⟩:=h1
 repeat' (first|refine gs ?_|fail)
 exact ab (ag rfl rfl) ⟨s,rfl,fun w h=>hw w h.1.2⟩
def encBal (b:Xh):List Value:=[b.v]
structure BalX (ks ki:Xk) (I:List Xc) (bk ba bg:Nat) (au:ByteArray) (gn:Int) (w:World):Prop where
 i:Items w ki I
 g:Xe w
 k:CelD bk [ks.v,ki.v] w
 a:CelD ba [.string au] w
 n:CelD bg [.int .i64 gn] w
theorem xd (ks ki:Xk) (au:ByteArray) (gn:Int):Mk prog 254 #[.agg #[ks.v,ki.v],.string au,.int .i64 gn] (fun _=>True)
  fun u X'=>∃ bk ba bg,u=.func (.func 286) #[] #[.pointer (some ⟨bk,0,none⟩),.pointer (some ⟨ba,0,none⟩),.pointer (some ⟨bg,0,none⟩)]∧∀ w,X' w→CelD bk [ks.v,ki.v] w∧CelD ba [.string au] w∧CelD bg [.int .i64 gn] w:=by
 refine dm func254 ntmps254 fun av bor w0=>?_
 repeat' (first|refine gs ?_|refine gs1 fun _=>?_|(refine eG ?_)|fail)
 exact ab (ag rfl rfl) ⟨_,_,_,rfl,fun w h=>⟨fF (h.2 _ aM),fF (h.2 _ aM),fF (h.2 _ aM)⟩⟩
structure BaI (L:List Xh) (Rs:List Xh→List Xl→Prop) where
 k:Nat
 hk:k≤L.length
 R:List Xl
 hR:Rs (L.take k) R
theorem vo (ks ki:Xk) (I:List Xc) (bk ba bg:Nat) (au:ByteArray) (gn:Int) (L:List Xh) (hL:L.length≤1000000)
  (hK:Mk prog 287 #[.agg #[ks.v,ki.v],.string au,.int .i64 gn] (fun w=>Items w ki I∧Xe w) (fun u X'=>∃ s:Xk,u=s.v∧∀ w,X' w→Ballots w s L)) :
  It prog 286 [.pointer (some ⟨bk,0,none⟩),.pointer (some ⟨ba,0,none⟩),.pointer (some ⟨bg,0,none⟩)] (BalX ks ki I bk ba bg au gn) encBal L:=by
 intro l X Rs hX hY R0 h0
 refine cP func286 ntmps286 fun av bor w0=>?_
 refine mf (st':=⟨[(1,.pointer (some ⟨bk,0,none⟩)),(2,.pointer (some ⟨ba,0,none⟩)),(3,.pointer (some ⟨bg,0,none⟩)),(0,.func (.yield l) #[] #[])],R0++[],X⟩) (by rw [ZI];exact ai am (ak _) fun _ h=>h) ?_
 repeat' (first|(refine bF (hc:=hK) (hX:=fun w h=>⟨(hX w h).i,(hX w h).g⟩) fun v1 X1 h1=>?_;obtain ⟨s,rfl,hs⟩:=h1)|refine gs ?_|(refine xN (cs:=[ks.v,ki.v]) (hF:=fun w h=>(hX w h).k) (hl:=rfl) ?_)|(refine C8 (v:=.string au) (hF:=fun w h=>(hX w h).a 0 _ rfl) ?_)|(refine C8 (v:=.int .i64 gn) (hF:=fun w h=>(hX w h).n 0 _ rfl) ?_)|fail)
 refine aQ (p:=s.n=L.length∧s.n≤maxLen∧(0<L.length→s.p.isSome=true)) (fun w h=>⟨by simpa using Xf.len (hs w h.2),ZW (Xf.cap (hs w h.2)) (Xf.max (hs w h.2)),fun h0=>(Xf.row (hs w h.2) 0 L[0].cells (by simp [Zc h0])).2.1⟩) fun ⟨hsn,hsm,hsp⟩=>?_
 simp only [maxLen] at hsm
 refine aq (ι:=BaI L Rs) (fun i=>⟨[(0,.func (.yield l) #[] #[]),(10,s.v),(11,.int .i64 (s.n:Nat)),(12,.int .i64 (i.k:Nat))],i.R++[],fun w=>X w∧X1 w⟩) (fun i=>L.length-i.k) ⟨0,Z2 _,R0,h0⟩ (ai am (ak _) fun _ h=>h) fun i=>?_
 obtain ⟨k,hk,R,hR⟩:=i
 simp only
 by_cases hlt:k<L.length
 · have hsp':=hsp aa
   obtain ⟨x,hx⟩:∃ x,L[k]?=some x:=⟨_,Zc hlt⟩
   have hrow:∀ w,X w∧X1 w→x.cells.length=7∧s.p.isSome=true∧∀ i u,x.cells[i]?=some u→CellAt w s.p (k*7+i) u:=fun w h=>Xf.row (hs w h.2) k x.cells (by simp [hx])
   have hsplit:L=L.take k++x::L.drop (k+1):=by
    have h1:=Qq k L
    rw [List.drop_eq_getElem_cons hlt] at h1
    rw [Zc hlt,ZL] at hx
    rw [hx] at h1
    exact h1.symm
   have htk:L.take (k+1)=L.take k++[x]:=by rw [Qe,hx,Qs]
   repeat' (first|apply QQ|fail)
   apply QR
   repeat' (first|(refine aT ?_ (bZ true rfl rfl (Ze aa)))|apply aJ|apply QQ|refine QU ?_|apply QT|apply QS|fail)
   apply QR
   repeat' (first|apply aJ|apply QQ|refine aY fun _=>?_|refine aS ?_|(refine aD (q:=k*7) ?_)|(refine aN (cs:=x.cells) (hF:=hrow) ?_)|fail)
   rename_i b6
   refine Ik ?_
   refine Jm (pre:=[_,_]) (rest:=[_,_]) rfl ?_
   refine aW ?_
   refine bm ?_
   refine cM (l:=R++[cel b6 56 x.cells]) (by rw [ZI];exact QP (l₁:=[_]) (l₂:=R)) ?_
   apply aJ
   refine GO (pre:=R) (fr:=[cel b6 56 x.cells]) rfl rfl rfl rfl rfl (hY _ _ _ _ hsplit hR) (fun _ h=>h.1) fun v R' X' hv=>?_
   obtain ⟨rfl,hR'⟩:=hv
   refine Dc rfl ?_
   repeat' (first|refine gs ?_|fail)
   exact ⟨(⟨k+1,hlt,R',by rw [htk];exact hR'⟩:BaI L Rs),(by show L.length-(k+1)<L.length-k;omega),ai am (by rw [ZI];exact QC _ _) fun _ h=>h.1⟩
 · have hkE:k=L.length:=by omega
   repeat' (first|refine aT ?_ (bZ false rfl rfl (Zd aa))|refine gs ?_|fail)
   refine aR (aH rfl) ?_
   rw [hkE,Qf] at hR
   simpa using hR
end Go.Proofs.YtaolfiikahlmkaaGreatDoor
namespace Go.Proofs.YtaolfiikahlmkaaGreatDoor
open Go Go.Proofs Sy Go.Shelf Go.Maps Go.Sort
theorem compS_c:CompC Tryz.prog 49 encStr [] Lib.compact where
 some_:=fun blk off cap ss w h1 h2 h3=>Any.slices_Compact_string Tryz.compS blk off cap ss w h1 h2 h3
 none_:=fun p cap w=>Any.slices_Compact_string_empty Tryz.compS p cap w
 len:=fun ss=>Lib.compact_length_le ss
end Go.Proofs.YtaolfiikahlmkaaGreatDoor
