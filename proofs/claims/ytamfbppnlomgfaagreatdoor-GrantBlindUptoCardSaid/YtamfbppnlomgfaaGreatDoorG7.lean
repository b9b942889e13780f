/- Joined. -/
import Derived.Test.YtamfbppnlomgfaaGreatDoorG6
set_option linter.unusedVariables false
set_option linter.unusedSimpArgs false
set_option maxHeartbeats 16000000
namespace Go.Proofs.YtamfbppnlomgfaaGreatDoor
open Go Go.Proofs Sy Tryz
theorem df {P:Program} {fn:Func} {N t u u2 ty n:Nat} {s:St} {b T:Nat} {cs:List Value} {x y:Value} [hI:Xq P ty n] (hr:fn.results=#[.cell t ty,.tmp u,.tmp u2]) (h:Sy.look s.env t=some (.pointer (some ⟨b,0,none⟩))) (h':Sy.look s.env u=some x) (h2':Sy.look s.env u2=some y) (hm:cel b T cs∈s.loc) (hn:cs.length=n) :
  Res1 P fn N s (.tuple #[.agg cs.toArray,x,y]):=fun av bor w0 a w ok=>by
 obtain ⟨D,h1,h2,h3⟩:=bN hI.out
 have ht:=ok.env t _ h
 have hu:=ok.env u _ h'
 have hu2:=ok.env u2 _ h2'
 have:(loadVar ty ⟨b,0,none⟩).run P w=.ok (.agg cs.toArray) w:=by
  cases D<;>simp at h2
  · exact run_loadVar_row w b T ty cs.toArray (0,0) _ (dc ok hm) h1 rfl (by rw [h3];simp [hn])
  · exact run_loadVar_row w b T ty cs.toArray (0,0) _ (dc ok hm) h1 rfl (by rw [h3];simp [hn])
 simp [results,hr,ht,hu,hu2,asAddr,this]
def wantA (au:ByteArray) (it:Xe):Bool:=decide (it.kind=0)&&seqB it.act.author au
theorem qg (bW:Nat) (au:ByteArray) (it:Xe):Pu prog 103 #[it.v,.pointer (some ⟨bW,0,none⟩)] (CelD bW [.string au]) (.tuple #[it.act.v,.int .i64 it.act.seq,.bool (wantA au it)]):=by
 refine ax func103 ntmps103 fun av bor w0=>?_
 repeat' (first|refine gs ?_|refine gs1 fun _=>?_|(refine gp ?_ ?_<;>intro hx_ this)|fail)
 rename_i b2 b3
 by_cases h0:it.kind=0
 · (refine aw_draw ⟨[0,1,2,3,4,5,6,7,8,9,10,11,12,13,14],[(15,⟨[16,17],[]⟩)]⟩ [cel b2 83 it.cells] (CelD bW [.string au]) (h:=?_))
   all_goals repeat' (first|refine aH (hsub:=by exact aN) (hy:=by first|(apply dZ true;rfl;rfl;exact Ze h0)) ?_|refine gdz ?_|refine aH (hsub:=by exact aN) (hy:=by first|(apply bS (vs:=it.act.cells);rfl;exact .head _;rfl;rfl)|(apply eE;rfl;exact (fun w h=>h 0 _ rfl))) ?_|refine aE ?_ (h':=?_)|exact aF|refine gs1 fun _=>?_|(refine gq ?_ ?_<;>intro hx_ this)|fail)
   all_goals
    repeat' (first|refine gs ?_|refine gs1 fun _=>?_|(refine gp ?_ ?_<;>intro hx_ this)|fail)
    exact aa (df rfl rfl rfl rfl (.head _) rfl) (by rw [wantA,Ze h0];rfl)
 · (refine aw_draw ⟨[0,1,2,3,4,5,6,7,8,9,10,11,12,13,14],[(15,⟨[16,17],[]⟩)]⟩ [cel b2 83 it.cells] (CelD bW [.string au]) (h:=?_))
   all_goals repeat' (first|refine aH (hsub:=by exact aN) (hy:=by first|(apply dZ false;rfl;rfl;exact Zd h0)) ?_|refine gdz ?_|refine aH (hsub:=by exact aN) (hy:=by first|(apply bS (vs:=it.act.cells);rfl;exact .head _;rfl;rfl)|(apply eE;rfl;exact (fun w h=>h 0 _ rfl))) ?_|refine aE ?_ (h':=?_)|exact aF|refine gs1 fun _=>?_|(refine gq ?_ ?_<;>intro hx_ this)|fail)
   all_goals
    repeat' (first|refine gs ?_|refine gs1 fun _=>?_|(refine gp ?_ ?_<;>intro hx_ this)|fail)
    exact aa (df rfl rfl rfl rfl (.head _) rfl) (by rw [wantA,Zd h0];rfl)
def fndOf (dI:Xe→ByteArray) (it:Xe):Ed:=⟨it.act.seq,dI it,it.act⟩
def selB (au:ByteArray) (rI:Xe→Bool) (it:Xe):Bool:=wantA au it&&rI it
def selF (au:ByteArray) (rI:Xe→Bool) (dI:Xe→ByteArray) (I:List Xe):List Ed:=(I.filter (selB au rI)).map (fndOf dI)
def selA (au:ByteArray) (rI:Xe→Bool) (I:List Xe):List Xa:=(I.filter (selB au rI)).map Xe.act
theorem ub (au:ByteArray) (rI:Xe→Bool) (dI:Xe→ByteArray) (I:List Xe):(selF au rI dI I).map Ed.a=selA au rI I:=by rw [selF,selA,ZQ];rfl
structure PikI (I:List Xe) (au:ByteArray) (rI:Xe→Bool) (dI:Xe→ByteArray) where
 k:Nat
 hk:k≤I.length
 A:Option Addr
 c:Nat
 n:Nat
 hn:n=(selF au rI dI (I.take k)).length
 xs:List Value
 hxs:xs=((selF au rI dI (I.take k)).map Ed.cells).flatten
structure ValI (Q:List Ed) where
 k:Nat
 hk:k≤Q.length
 A:Option Addr
 c:Nat
 xs:List Value
 hxs:xs=((Q.take k).map fun f=>f.a.cells).flatten
def wantV (bW:Nat):Value:=.func (.func 103) #[] #[.pointer (some ⟨bW,0,none⟩)]
theorem qQ (ks ki:Xh) (I:List Xe) (bW:Nat) (au:ByteArray) (rI:Xe→Bool) (dI:Xe→ByteArray)
  (hR:∀ it∈I,Pu prog 58 #[it.v] (fun w=>it.at_ w) (.bool (rI it)))
  (hD:∀ it∈I,Pu prog 33 #[it.v] (fun w=>it.at_ w∧Xc w) (.string (dI it)))
  (hI:I.length≤1000) (hsort:SortA I.length) :
  Mk prog 102 #[.agg #[ks.v,ki.v],wantV bW] (fun w=>(Items w ki I∧CelD bW [.string au] w)∧Xc w)
   (fun u X'=>∃ (s:Xh) (L:List Xa),u=s.v∧L.Perm (selA au rI I)∧∀ w,X' w→Acts w s L):=by
 refine cF func102 ntmps102 fun av bor w0=>?_
 refine aK (p:=ki.n=I.length∧ki.n≤maxLen∧(0<I.length→ki.p.isSome=true)) (fun w h=>⟨h.1.1.len_,h.1.1.max_,h.1.1.some_⟩) fun ⟨hkn,hkm,hkp⟩=>?_
 simp only [maxLen] at hkm
 repeat' (first|refine gs ?_|refine gs1 fun _=>?_|fail)
 rename_i b2
 refine bA 213 22 ?_
 refine az (ι:=PikI I au rI dI) (fun i=>⟨[(1,wantV bW),(5,.slice i.A i.n i.c),(15,ki.v),(16,.int .i64 (ki.n:Nat)),(17,.int .i64 (i.k:Nat))],[orow 213 22 (.slice i.A i.n i.c) i.n i.xs],fun w=>(Items w ki I∧CelD bW [.string au] w)∧Xc w⟩) (fun i=>I.length-i.k) ⟨0,ZU _,none,0,0,rfl,[],rfl⟩ (ak aw (.cons_cons _ (Zq _)) fun _ h=>h) fun i=>?_
 obtain ⟨k,hk,A,c,n,hn,xs,hxs⟩:=i
 simp only
 repeat' (first|refine gs ?_|refine gs1 fun _=>?_|(refine gp ?_ ?_<;>intro hx_ this)|fail)
 · have hlt:k<I.length:=by omega
   have hkp':=hkp ab
   obtain ⟨it,hit⟩:∃ it,I[k]?=some it:=⟨_,Zc hlt⟩
   have him:=ZW hit
   have hnl:n≤1000:=by
    rw [hn,selF,ZA]
    exact ZO (ZZ _ _) (by rw [Z7];omega)
   repeat' (first|refine gs ?_|refine gs1 fun _=>?_|(refine aA (q:=k*49) ?_)|(refine aO (cs:=it.cells) (hF:=fun w h=>h.1.1.get hit) ?_)|(refine gp ?_ ?_<;>intro hx_ this)|fail)
   rename_i b7
   have hri:=hR it him
   have hdi:=hD it him
   have hwa:=qg bW au it
   have htk:selF au rI dI (I.take (k+1))=selF au rI dI (I.take k)++(bif selB au rI it then [fndOf dI it] else []):=by
    rw [selF,selF,Z5,hit,Qi,ZM,Qh]
    congr 1
    cases hb:selB au rI it with
    | true=>simp [hb]
    | false=>simp [hb]
   cases hwt:wantA au it with
   | false =>
    rw [hwt] at hwa
    have hno:selF au rI dI (I.take (k+1))=selF au rI dI (I.take k):=by rw [htk,selB,hwt];exact ZD _
    refine d6 (args:=[it.v]) (all:=[it.v,.pointer (some ⟨bW,0,none⟩)]) (first:=#[]) (caps:=#[.pointer (some ⟨bW,0,none⟩)]) (hx:=rfl) (ha:=rfl) (hall:=rfl) (hc:=hwa) (hX:=fun w h=>h.1.2) (h:=?_)
    repeat' (first|refine gs ?_|refine gs1 fun _=>?_|(refine gp ?_ ?_<;>intro hx_ this)|fail)
    exact ⟨(⟨k+1,hlt,A,c,n,by rw [hno];exact hn,xs,by rw [hno];exact hxs⟩:PikI I au rI dI),(by show I.length-(k+1)<I.length-k;omega),ak aw (.cons _ (.cons _ (aj _))) fun _ h=>h⟩
   | true =>
    rw [hwt] at hwa
    cases hrt:rI it with
    | false =>
     rw [hrt] at hri
     have hno:selF au rI dI (I.take (k+1))=selF au rI dI (I.take k):=by rw [htk,selB,hwt,hrt];exact ZD _
     refine d6 (args:=[it.v]) (all:=[it.v,.pointer (some ⟨bW,0,none⟩)]) (first:=#[]) (caps:=#[.pointer (some ⟨bW,0,none⟩)]) (hx:=rfl) (ha:=rfl) (hall:=rfl) (hc:=hwa) (hX:=fun w h=>h.1.2) (h:=?_)
     repeat' (first|(refine ae (hc:=hri) (hX:=fun w h=>h.1.1.2 it him) ?_)|refine gs ?_|refine gs1 fun _=>?_|(refine gp ?_ ?_<;>intro hx_ this)|fail)
     exact ⟨(⟨k+1,hlt,A,c,n,by rw [hno];exact hn,xs,by rw [hno];exact hxs⟩:PikI I au rI dI),(by show I.length-(k+1)<I.length-k;omega),ak aw (.cons _ (.cons _ (aj _))) fun _ h=>h⟩
    | true =>
     rw [hrt] at hri
     have hyes:selF au rI dI (I.take (k+1))=selF au rI dI (I.take k)++[fndOf dI it]:=by rw [htk,selB,hwt,hrt];rfl
     refine d6 (args:=[it.v]) (all:=[it.v,.pointer (some ⟨bW,0,none⟩)]) (first:=#[]) (caps:=#[.pointer (some ⟨bW,0,none⟩)]) (hx:=rfl) (ha:=rfl) (hall:=rfl) (hc:=hwa) (hX:=fun w h=>h.1.2) (h:=?_)
     repeat' (first|(refine ae (hc:=hri) (hX:=fun w h=>h.1.1.2 it him) ?_)|refine gs ?_|refine gs1 fun _=>?_|(refine gp ?_ ?_<;>intro hx_ this)|fail)
     rename_i b8
     (refine aw_draw ⟨[0,1,2,4],[(3,⟨[5],[(6,⟨[],[(7,⟨[8],[]⟩)]⟩)]⟩)]⟩ [cel b8 36 it.act.cells,cel b7 83 it.cells] (fun w=>(Items w ki I∧CelD bW [.string au] w)∧Xc w) (h:=?_))
     all_goals repeat' (first|(refine ae (hc:=hdi) (hX:=fun w h=>⟨h.1.1.2 it him,h.2⟩) ?_)|refine gdz ?_|refine aH (hsub:=by exact aN) (hy:=by first|(apply dy (cs:=(fndOf dI it).cells);rfl;rfl)) ?_|refine aE ?_ (h':=?_)|exact aF|refine bT (size:=22) (vs:=[.agg (fndOf dI it).cells.toArray]) (css:=(fndOf dI it).cells) (hsz:=by rfl) (hcs:=by rfl) fun _=>?_|(refine ga ?_;refine aD (size:=22) (news:=(fndOf dI it).cells) (q:=1) rfl rfl rfl rfl (fun _=>At.there _ (At.there _ (At.there _ (At.here _)))) (fun w G=>aR G aC rfl rfl 1) ab (by simp only [maxLen];omega) rfl ?_ rfl ?_;(first|with_reducible rfl|with_reducible assumption|with_reducible exact Zj|with_reducible exact Zk);intro A2 c2)|refine gs1 fun _=>?_|(refine gq ?_ ?_<;>intro hx_ this)|fail)
     all_goals
      repeat' (first|refine gs ?_|refine gs1 fun _=>?_|(refine gp ?_ ?_<;>intro hx_ this)|fail)
      exact ⟨(⟨k+1,hlt,A2,c2,n+1,by rw [hyes,Zw,←hn];rfl,xs++(fndOf dI it).cells,by rw [hyes,hxs];simp⟩:PikI I au rI dI),(by show I.length-(k+1)<I.length-k;omega),ak aw (.cons _ (.cons _ (.cons _ (aj _)))) fun _ h=>h⟩
 have hkE:k=I.length:=by omega
 rw [hkE,Z6] at hn hxs
 obtain ⟨P,hP⟩:∃ P,selF au rI dI I=P:=⟨_,rfl⟩
 rw [hP] at hn hxs
 have hPl:P.length≤I.length:=by rw [←hP,selF,ZA];exact ZZ _ _
 subst hxs
 refine cr (pre:=[fndR ⟨A,n,c⟩ P]) (fr:=[]) (first:=#[]) (caps:=#[]) (hc:=hsort ⟨A,n,c⟩ P hn hPl) (hX:=fun _ _=>trivial) (h:=?_)
 rintro v R X' ⟨rfl,Q,hQ,rfl⟩
 have hQl:Q.length=n:=hQ.length_eq.trans hn.symm
 have hnI:n≤1000:=by omega
 refine eJ (X':=fun w=>(Items w ki I∧CelD bW [.string au] w)∧Xc w) (fun w h=>h.1) ?_
 repeat' (first|refine gs ?_|refine gs1 fun _=>?_|(refine fO (c:=n) (hm:=Nat.ble_eq_true_of_le ab) (hm2:=Nat.ble_eq_true_of_le ab) fun bv=>?_)|(refine gp ?_ ?_<;>intro hx_ this)|fail)
 refine dV (r:=fndR ⟨A,n,c⟩ Q) aB (p:=0<n→A.isSome=true) (fun w h h0=>dq h h0) fun hAp=>?_
 refine az (ι:=ValI Q) (fun i=>⟨[(11,.slice i.A i.k i.c),(47,.slice A n c),(48,.int .i64 (n:Nat)),(49,.int .i64 (i.k:Nat))],[orow 36 20 (.slice i.A i.k i.c) i.k i.xs,fndR ⟨A,n,c⟩ Q],fun w=>(Items w ki I∧CelD bW [.string au] w)∧Xc w⟩) (fun i=>Q.length-i.k) ⟨0,ZU _,_,_,[],rfl⟩ (ak aw (aj _) fun _ h=>h) fun i=>?_
 obtain ⟨k2,hk2,A2,c2,xs2,hxs2⟩:=i
 simp only
 repeat' (first|refine gs ?_|refine gs1 fun _=>?_|(refine gp ?_ ?_<;>intro hx_ this)|fail)
 · have hlt:k2<Q.length:=by omega
   have hAp':=hAp ab
   obtain ⟨f,hf⟩:∃ f,Q[k2]?=some f:=⟨_,Zc hlt⟩
   repeat' (first|refine bT (size:=20) (vs:=[f.a.v]) (css:=f.a.cells) (hsz:=by rfl) (hcs:=by rfl) fun _=>?_|refine gs ?_|refine gs1 fun _=>?_|(refine aA (q:=k2*22) ?_)|(refine ao (kc (size:=22) (m:=n) (i:=k2) (xs:=Q.map Ed.cells) (cs:=f.cells) rfl (.tail _ (.head _)) (by rw [ZA];exact hQl.symm) (sY Q) (by simp [hf])) rfl rfl rfl ?_)|(refine aV (vs:=f.a.cells) (hv:=rfl) ?_)|(refine gp ?_ ?_<;>intro hx_ this)|fail)
   refine aD (size:=20) (news:=f.a.cells) (q:=1) rfl rfl rfl rfl (fun _=>At.there _ (At.there _ (At.here _))) (fun w G=>aR G aC rfl rfl 1) ab (by simp only [maxLen];omega) rfl ?_ rfl ?_
   · (first|with_reducible rfl|with_reducible assumption|with_reducible exact Zj|with_reducible exact Zk)
   intro A3 c3
   repeat' (first|refine gs ?_|refine gs1 fun _=>?_|(refine gp ?_ ?_<;>intro hx_ this)|fail)
   exact ⟨(⟨k2+1,hlt,A3,c3,xs2++f.a.cells,by rw [Z5,hf,hxs2];simp⟩:ValI Q),(by show Q.length-(k2+1)<Q.length-k2;omega),ak aw (.cons _ (.cons _ (aj _))) fun _ h=>h⟩
 have hk2E:k2=Q.length:=by omega
 rw [hk2E,Z6] at hxs2
 have hLp:(Q.map Ed.a).Perm (selA au rI I):=by rw [←ub au rI dI I,hP];exact hQ.map _
 refine aa (ai rfl rfl) ⟨⟨A2,k2,c2⟩,Q.map Ed.a,rfl,hLp,fun w h=>?_⟩
 have hr:=h.2 (orow 36 20 (.slice A2 k2 c2) k2 xs2) (.head _)
 refine cL (l:=Q.map Ed.a) (by rw [ZQ];rw [hxs2] at hr;exact hr) (by rw [ZA];exact hk2E) fun a ha=>?_
 have ha2:=hLp.subset ha
 rw [selA] at ha2
 obtain ⟨it,hit,rfl⟩:=Qt.1 ha2
 exact (h.1.1.1.2 it (Qw.1 hit).1).1
theorem kH (ks ki:Xh) (I:List Xe) (au:ByteArray) (rI:Xe→Bool) (dI:Xe→ByteArray)
  (hR:∀ it∈I,Pu prog 58 #[it.v] (fun w=>it.at_ w) (.bool (rI it)))
  (hD:∀ it∈I,Pu prog 33 #[it.v] (fun w=>it.at_ w∧Xc w) (.string (dI it)))
  (hI:I.length≤1000) (hsort:SortA I.length) :
  Mk prog 61 #[.agg #[ks.v,ki.v],.string au] (fun w=>Items w ki I∧Xc w)
   (fun u X'=>∃ (s:Xh) (L:List Xa),u=s.v∧L.Perm (selA au rI I)∧∀ w,X' w→Acts w s L):=by
 refine cF func61 ntmps61 fun av bor w0=>?_
 repeat' (first|refine gs ?_|refine gs1 fun _=>?_|(refine bV ?_)|(refine gp ?_ ?_<;>intro hx_ this)|fail)
 rename_i b2 b3
 refine cJ ?_
 refine aU (hc:=qQ ks ki I b3 au rI dI hR hD hI hsort) (hX:=fun w h=>⟨⟨h.1.1,iw h.2⟩,h.1.2⟩) fun v X1 h1=>?_
 obtain ⟨s,L,rfl,hL,hw⟩:=h1
 repeat' (first|refine gs ?_|refine gs1 fun _=>?_|(refine gp ?_ ?_<;>intro hx_ this)|fail)
 exact aa (ai rfl rfl) ⟨s,L,rfl,hL,fun w h=>hw w h.1.2⟩
def gtB (a b:ByteArray):Bool:=!(Op.bytesLess a.toList b.toList||seqB a b)
def addAt (dI:Xe→ByteArray) (d:ByteArray) (I:List Xe) (k:Nat):Nat:=((I.take k).findIdx? fun x=>gtB (dI x) d).getD I.length
def addV (dI:Xe→ByteArray) (it:Xe) (I:List Xe):List Xe:=I.take (addAt dI (dI it) I I.length)++it::I.drop (addAt dI (dI it) I I.length)
theorem rV (dI:Xe→ByteArray) (d:ByteArray) (I:List Xe) (k:Nat) (hk:k≤I.length):addAt dI d I k<k∨addAt dI d I k=I.length:=by
 rw [addAt]
 cases h:(I.take k).findIdx? fun x=>gtB (dI x) d with
 | none=>exact .inr rfl
 | some j =>
  rw [Qn] at h
  obtain ⟨h1,_⟩:=h
  rw [Z7] at h1
  exact .inl (by show j<k;omega)
theorem ng (dI:Xe→ByteArray) (d:ByteArray) (I:List Xe) (k:Nat) (x:Xe) (hx:I[k]?=some x):addAt dI d I (k+1)=bif gtB (dI x) d&&decide (addAt dI d I k=I.length) then k else addAt dI d I k:=by
 have hk:k<I.length:=(Qu.1 hx).1
 rw [addAt,addAt,Z5,hx,Qh,List.findIdx?_append]
 cases h:(I.take k).findIdx? fun x=>gtB (dI x) d with
 | none =>
  rw [List.findIdx?_singleton]
  cases hg:gtB (dI x) d with
  | true=>simp [Z7];omega
  | false=>simp
 | some j =>
  rw [Qn] at h
  obtain ⟨h1,_⟩:=h
  rw [Z7] at h1
  have:¬ j=I.length:=by omega
  simp [this]
section
variable {P:Program} {N:Nat} {av bor:List Nat} {w0:World} {x y:Operand} {t t2:TypeId} {ty:TypeId} {st:St}
theorem j9 {a b:ByteArray} (v:Bool) (hx:ev st.env x=some (.string a)) (hy:ev st.env y=some (.string b)) (hv:gtB a b=v):Sy.Yields P N av bor w0 st (.binOp .gtr t x y t2) ty (.bool v):=hv▸tO hx hy
end
structure AddI (I:List Xe) where
 k:Nat
 hk:k≤I.length
theorem tt (Y:World→Prop) (ks ki:Xh) (I:List Xe) (it:Xe) (rI:Xe→Bool) (dI:Xe→ByteArray)
  (hR:Pu prog 58 #[it.v] (fun w=>it.at_ w) (.bool true))
  (hS:Pu prog 59 #[ks.v,it.v] (fun w=>(Y w∧it.at_ w)∧Xc w) (.bool true))
  (hD0:Pu prog 33 #[it.v] (fun w=>it.at_ w∧Xc w) (.string (dI it)))
  (hD:∀ x∈I,Pu prog 33 #[x.v] (fun w=>x.at_ w∧Xc w) (.string (dI x)))
  (hI:I.length≤1000) (hnew:∀ x∈I,seqB (dI x) (dI it)=false) :
  Mk prog 25 #[.agg #[ks.v,ki.v],it.v] (fun w=>((Y w∧Items w ki I)∧it.at_ w)∧Xc w)
   (fun u X'=>∃ s:Xh,u=.tuple #[.agg #[ks.v,s.v],.bool true]∧∀ w,X' w→Items w s (addV dI it I)):=by
 refine cF func25 ntmps25 fun av bor w0=>?_
 refine aK (p:=ki.n=I.length∧ki.n≤maxLen∧(0<I.length→ki.p.isSome=true)∧ki.n≤ki.c) (fun w h=>⟨h.1.1.2.len_,h.1.1.2.max_,h.1.1.2.some_,Xd.cap h.1.1.2.1⟩) fun ⟨hkn,hkm,hkp,hkc⟩=>?_
 simp only [maxLen] at hkm
 obtain ⟨d,hd⟩:∃ d,dI it=d:=⟨_,rfl⟩
 rw [hd] at hD0 hnew
 repeat' (first|(refine ae (hc:=hR) (hX:=fun w h=>h.1.2) ?_)|(refine ae (hc:=hS) (hX:=fun w h=>⟨⟨h.1.1.1,h.1.2⟩,h.2⟩) ?_)|(refine ae (hc:=hD0) (hX:=fun w h=>⟨h.1.2,h.2⟩) ?_)|refine gs ?_|refine gs1 fun _=>?_|(refine gp ?_ ?_<;>intro hx_ this)|fail)
 rename_i b2 b3 b4
 refine az (ι:=AddI I) (fun i=>⟨[(2,.pointer (some ⟨b2,0,none⟩)),(3,.pointer (some ⟨b3,0,none⟩)),(4,.pointer (some ⟨b4,0,none⟩)),(6,.string d),(7,.int .i64 (addAt dI d I i.k:Nat)),(29,ki.v),(30,.int .i64 (ki.n:Nat)),(31,.int .i64 (i.k:Nat))],[cel b4 72 [.slice none 0 0,.slice none 0 0],cel b3 83 it.cells,cel b2 72 [ks.v,ki.v]],fun w=>((Y w∧Items w ki I)∧it.at_ w)∧Xc w⟩) (fun i=>I.length-i.k) ⟨0,ZU _⟩ (ak ⟨rfl,rfl,rfl,rfl,(by show some (Value.int .i64 (ki.n:Nat))=_;rw [hkn];rfl),rfl,rfl,rfl,trivial⟩ (aj _) fun _ h=>h) fun i=>?_
 obtain ⟨k,hk⟩:=i
 simp only
 repeat' (first|refine gs ?_|refine gs1 fun _=>?_|(refine gp ?_ ?_<;>intro hx_ this)|fail)
 · have hlt:k<I.length:=by omega
   have hkp':=hkp ab
   obtain ⟨x,hx⟩:∃ x,I[k]?=some x:=⟨_,Zc hlt⟩
   have hxm:=ZW hx
   have hne:=hnew x hxm
   have hst:=ng dI d I k x hx
   generalize addAt dI d I k=at0 at *
   cases hg:gtB (dI x) d with
   | false =>
    rw [hg] at hst
    have hst:addAt dI d I (k+1)=at0:=hst
    have hat:decide ((at0:Int)=(ki.n:Int))=decide ((at0:Int)=(ki.n:Int)):=rfl
    repeat' (first|refine aL ?_ (dd false rfl rfl hne)|refine aL ?_ (j9 _ rfl rfl hg)|refine aL ?_ (dZ _ rfl rfl hat)|(refine ae (hc:=hD x hxm) (hX:=fun w h=>⟨h.1.1.2.2 x hxm,h.2⟩) ?_)|refine gs ?_|refine gs1 fun _=>?_|(refine aA (q:=k*49) ?_)|(refine aO (cs:=x.cells) (hF:=fun w h=>h.1.1.2.get hx) ?_)|(refine gp ?_ ?_<;>intro hx_ this)|fail)
    exact ⟨(⟨k+1,hlt⟩:AddI I),(by show I.length-(k+1)<I.length-k;omega),ak ⟨rfl,rfl,rfl,rfl,(by show _=some (Value.int .i64 (addAt dI d I (k+1):Nat));rw [hst];rfl),rfl,rfl,rfl,trivial⟩ (.cons _ (aj _)) fun _ h=>h⟩
   | true =>
    by_cases ha:at0=I.length
    · rw [hg,Ze ha] at hst
      have hst:addAt dI d I (k+1)=k:=hst
      have hat:decide ((at0:Int)=(ki.n:Int))=true:=Ze ab
      repeat' (first|refine aL ?_ (dd false rfl rfl hne)|refine aL ?_ (j9 _ rfl rfl hg)|refine aL ?_ (dZ _ rfl rfl hat)|(refine ae (hc:=hD x hxm) (hX:=fun w h=>⟨h.1.1.2.2 x hxm,h.2⟩) ?_)|refine gs ?_|refine gs1 fun _=>?_|(refine aA (q:=k*49) ?_)|(refine aO (cs:=x.cells) (hF:=fun w h=>h.1.1.2.get hx) ?_)|(refine gp ?_ ?_<;>intro hx_ this)|fail)
      exact ⟨(⟨k+1,hlt⟩:AddI I),(by show I.length-(k+1)<I.length-k;omega),ak ⟨rfl,rfl,rfl,rfl,(by show _=some (Value.int .i64 (addAt dI d I (k+1):Nat));rw [hst];rfl),rfl,rfl,rfl,trivial⟩ (.cons _ (aj _)) fun _ h=>h⟩
    · rw [hg,Zd ha] at hst
      have hst:addAt dI d I (k+1)=at0:=hst
      have hat:decide ((at0:Int)=(ki.n:Int))=false:=Zd ab
      repeat' (first|refine aL ?_ (dd false rfl rfl hne)|refine aL ?_ (j9 _ rfl rfl hg)|refine aL ?_ (dZ _ rfl rfl hat)|(refine ae (hc:=hD x hxm) (hX:=fun w h=>⟨h.1.1.2.2 x hxm,h.2⟩) ?_)|refine gs ?_|refine gs1 fun _=>?_|(refine aA (q:=k*49) ?_)|(refine aO (cs:=x.cells) (hF:=fun w h=>h.1.1.2.get hx) ?_)|(refine gp ?_ ?_<;>intro hx_ this)|fail)
      exact ⟨(⟨k+1,hlt⟩:AddI I),(by show I.length-(k+1)<I.length-k;omega),ak ⟨rfl,rfl,rfl,rfl,(by show _=some (Value.int .i64 (addAt dI d I (k+1):Nat));rw [hst];rfl),rfl,rfl,rfl,trivial⟩ (.cons _ (aj _)) fun _ h=>h⟩
 have hkE:k=I.length:=by omega
 have hV:addV dI it I=I.take (addAt dI d I k)++it::I.drop (addAt dI d I k):=by rw [addV,hd,hkE]
 have hal:addAt dI d I k≤I.length:=by
  rcases rV dI d I k hk with h|h
  · omega
  · omega
 rw [hV]
 generalize addAt dI d I k=a0 at *
 have hones:∀ (J:List Xe),∀ cs∈J.map Xe.cells,cs.all (·.oneCell')=true:=fun J cs hcs=>by
  obtain ⟨x,_,rfl⟩:=Qt.1 hcs
  rfl
 have hs1:∀ w,(((Y w∧Items w ki I)∧it.at_ w)∧Xc w)→Src prog w 49 (.slice ki.p a0 ki.c) a0 ((I.take a0).map Xe.cells).flatten:=fun w h=>by
  have h1:=Xd.take (n:=a0) h.1.1.2.1 (by simpa using hal)
  rw [←List.map_take] at h1
  exact eK h1 (hones _)
 have hs2:∀ w,(((Y w∧Items w ki I)∧it.at_ w)∧Xc w)→Src prog w 49 (ki.from 49 a0).v (ki.from 49 a0).n ((I.drop a0).map Xe.cells).flatten:=fun w h=>by
  have h1:=Xd.drop (n:=a0) h.1.1.2.1 (by simpa using hal)
  rw [←List.map_drop] at h1
  exact eK h1 (hones _)
 have hfn:(ki.from 49 a0).n=ki.n-a0:=rfl
 refine fO (c:=ki.n+1) (hm:=Nat.ble_eq_true_of_le ab) (hm2:=Nat.ble_eq_true_of_le ab) fun bv=>?_
 repeat' (first|refine gs ?_|refine gs1 fun _=>?_|(refine ao (pV rfl rfl ab ab) rfl rfl rfl ?_)|(refine gp ?_ ?_<;>intro hx_ this)|fail)
 refine aD (size:=49) (news:=((I.take a0).map Xe.cells).flatten) (q:=a0) rfl rfl rfl rfl (fun _=>At.here _) (fun w G=>hs1 w G.keep.now) ab (by simp only [maxLen];omega) rfl ?_ rfl ?_
 · (first|with_reducible rfl|with_reducible assumption|with_reducible exact Zj|with_reducible exact Zk)
 intro A1 c1
 repeat' (first|refine bT (size:=49) (vs:=[it.v]) (css:=it.cells) (hsz:=by rfl) (hcs:=by rfl) fun _=>?_|refine gs ?_|refine gs1 fun _=>?_|(refine gp ?_ ?_<;>intro hx_ this)|fail)
 refine aD (size:=49) (news:=it.cells) (q:=1) rfl rfl rfl rfl (fun _=>At.there _ (At.here _)) (fun w G=>aR G aC rfl rfl 1) ab (by simp only [maxLen];omega) rfl ?_ rfl ?_
 · (first|with_reducible rfl|with_reducible assumption|with_reducible exact Zj|with_reducible exact Zk)
 intro A2 c2
 repeat' (first|refine gs ?_|refine gs1 fun _=>?_|(refine ao (tN (s:=ki) rfl rfl ab ab) rfl rfl rfl ?_)|(refine gp ?_ ?_<;>intro hx_ this)|fail)
 refine aD (size:=49) (news:=((I.drop a0).map Xe.cells).flatten) (q:=ki.n-a0) rfl rfl rfl rfl (fun _=>At.there _ (At.here _)) (fun w G=>hs2 w G.keep.now) ab (by simp only [maxLen];omega) rfl ?_ rfl ?_
 · (first|with_reducible rfl|with_reducible assumption|with_reducible exact Zj|with_reducible exact Zk)
 intro A3 c3
 repeat' (first|refine gs ?_|refine gs1 fun _=>?_|(refine aI (cs:=[ks.v,.slice A3 (0+a0+1+(ki.n-a0)) c3]) (hf:=by rfl) ?_)|(refine gp ?_ ?_<;>intro hx_ this)|fail)
 refine aa (bn rfl rfl rfl aB (by rfl)) ⟨⟨A3,0+a0+1+(ki.n-a0),c3⟩,rfl,fun w h=>?_⟩
 have hr:=h.2 (orow 83 49 (.slice A3 (0+a0+1+(ki.n-a0)) c3) (0+a0+1+(ki.n-a0)) ([]++((I.take a0).map Xe.cells).flatten++it.cells++((I.drop a0).map Xe.cells).flatten)) aB
 refine ⟨aW (e:=83) (xs:=(I.take a0++it::I.drop a0).map Xe.cells) ?_ (by simp [hkn];omega) fun r hr=>?_,fun x hx=>?_⟩
 · have e:((I.take a0++it::I.drop a0).map Xe.cells).flatten=[]++((I.take a0).map Xe.cells).flatten++it.cells++((I.drop a0).map Xe.cells).flatten:=by simp
   rw [e]
   exact hr
 · obtain ⟨x,_,rfl⟩:=Qt.1 hr
   rfl
 · rcases Qk.1 hx with hx|hx
   · exact h.1.1.1.2.2 x (List.mem_of_mem_take hx)
   · rcases ZC.1 hx with rfl|hx
     · exact h.1.1.2
     · exact h.1.1.1.2.2 x (List.mem_of_mem_drop hx)
theorem ux (ks ki:Xh) (I:List Xe) (it:Xe) (rI:Xe→Bool) (dI:Xe→ByteArray)
  (hR:Pu prog 58 #[it.v] (fun w=>it.at_ w) (.bool true))
  (hS:Pu prog 59 #[ks.v,it.v] (fun w=>it.at_ w∧Xc w) (.bool true))
  (hD0:Pu prog 33 #[it.v] (fun w=>it.at_ w∧Xc w) (.string (dI it)))
  (hD:∀ x∈I,Pu prog 33 #[x.v] (fun w=>x.at_ w∧Xc w) (.string (dI x)))
  (hI:I.length≤1000) (hnew:∀ x∈I,seqB (dI x) (dI it)=false) :
  Mk prog 25 #[.agg #[ks.v,ki.v],it.v] (fun w=>(Items w ki I∧it.at_ w)∧Xc w)
   (fun u X'=>∃ s:Xh,u=.tuple #[.agg #[ks.v,s.v],.bool true]∧∀ w,X' w→Items w s (addV dI it I)):=by
 have h:=tt (fun _=>True) ks ki I it rI dI hR (il hS fun w h=>⟨h.1.2,h.2⟩) hD0 hD hI hnew
 unfold Mk at *
 exact Ct.mk fun w av G=>h.run w av (G.imp fun w h=>⟨⟨⟨trivial,h.1.1⟩,h.1.2⟩,h.2⟩)
theorem mI (s:Value) (a:Xa) (hR:rightB a=true):Pu prog 59 #[s,(ofActI a).v] (fun w=>(ofActI a).at_ w∧Xc w) (.bool true):=by
 refine ax func59 ntmps59 fun av bor w0=>?_
 have hri:=dk a
 rw [hR] at hri
 repeat' (first|refine dB (hab:=by decide) ?_|(refine ae (hc:=hri) (hX:=fun _ h=>h.1.1) ?_)|refine gs ?_|refine gs1 fun _=>?_|(refine gp ?_ ?_<;>intro hx_ this)|fail)
 all_goals first
  | exact aa (ai rfl rfl) rfl
  | exact absurd (show (0:Int)=2 from by assumption) (by decide)
  | exact absurd (show (0:Int)=3 from by assumption) (by decide)
theorem na:Pu prog 60 #[.slice none 0 0] (fun _=>True) (.slice none 0 0):=by
 refine ax func60 ntmps60 fun av bor w0=>?_
 repeat' (first|refine iE ?_|refine gs ?_|refine gs1 fun _=>?_|(refine gp ?_ ?_<;>intro hx_ this)|fail)
 all_goals first
  | exact aa (ai rfl rfl) rfl
  | exact absurd hx_ (by decide)
theorem sE:Pu prog 26 #[.slice none 0 0] (fun _=>True) (.agg #[.slice none 0 0,.slice none 0 0]):=by
 refine ax func26 ntmps26 fun av bor w0=>?_
 repeat' (first|(refine ae (hc:=na) ?_)|refine gs ?_|refine gs1 fun _=>?_|(refine aI (cs:=[.slice none 0 0,.slice none 0 0]) (hf:=by rfl) ?_)|(refine gp ?_ ?_<;>intro hx_ this)|fail)
 exact aa (aP rfl rfl aB (by rfl)) rfl
structure Ee where
 rank:Int
 dg:ByteArray
 a:Xm
def Ee.cells (f:Ee):List Value:=.int .i64 f.rank::.string f.dg::f.a.cells
def fndRC (s:Xh) (P:List Ee):Xi:=orow 260 11 (.slice s.p s.n s.c) s.n (P.map Ee.cells).flatten
theorem ry (P:List Ee):∀ r∈P.map Ee.cells,r.length=11:=fun r hr=>by
 obtain ⟨c,_,rfl⟩:=Qt.1 hr
 rfl
def cmpC:Value:=.func (.func 212) #[] #[]
def PermC (s:Xh) (P:List Ee) (u:Value) (R:List Xi) (X:World→Prop):Prop:=u=.tuple #[]∧∃ Q:List Ee,Q.Perm P∧R=[fndRC s Q]
def SortCl (n:Nat):Prop:=∀ (s:Xh) (P:List Ee),s.n=P.length→P.length≤n→Ct prog 211 #[s.v,cmpC] [fndRC s P] (fun _=>True) (PermC s P)
theorem rb (s:Xh) (P:List Ee) (hs:s.n=P.length) (h1:P.length≤1):Ct prog 232 #[s.v,.int .i64 0,.int .i64 (s.n:Nat),cmpC] [fndRC s P] (fun _=>True) (PermC s P):=by
 refine eD func232 ntmps232 fun av bor w0=>?_
 repeat' (first|refine gs ?_|fail)
 refine az (ι:=Unit) (fun _=>⟨[(2,.int .i64 (s.n:Nat)),(8,.int .i64 1)],[fndRC s P],fun _=>True⟩) (fun _=>0) () (ak aw (aj _) fun _ h=>h) fun _=>?_
 repeat' (first|refine gs ?_|(refine gp ?_ ?_<;>intro hx_ this)|fail)
 all_goals first
  | (exfalso;omega)
  | exact bj (aX rfl) ⟨rfl,P,Qb _,rfl⟩
theorem oP (s:Xh) (P:List Ee) (hs:s.n=P.length) (h1:P.length≤1):Ct prog 219 #[s.v,.int .i64 (s.n:Nat),cmpC] [fndRC s P] (fun _=>True) (PermC s P):=by
 refine eD func219 ntmps219 fun av bor w0=>?_
 repeat' (first|refine gs ?_|fail)
 refine az (ι:=Unit) (fun _=>⟨[(0,s.v),(1,.int .i64 (s.n:Nat)),(2,cmpC),(6,.int .i64 20),(7,.int .i64 0),(8,.int .i64 20)],[fndRC s P],fun _=>True⟩) (fun _=>0) () (ak aw (aj _) fun _ h=>h) fun _=>?_
 repeat' (first|refine gs ?_|(refine gp ?_ ?_<;>intro hx_ this)|fail)
 · exfalso;omega
 refine cr (pre:=[fndRC s P]) (fr:=[]) (first:=#[]) (caps:=#[]) (hc:=rb s P hs h1) (hX:=fun _ _=>trivial) (h:=?_)
 rintro v R X' ⟨rfl,Q,hQ,rfl⟩
 repeat' (first|refine gs ?_|fail)
 refine az (ι:=Unit) (fun _=>⟨[(1,.int .i64 (s.n:Nat)),(6,.int .i64 20)],[fndRC s Q],fun _=>True⟩) (fun _=>0) () (ak aw (aj _) fun _ h=>trivial) fun _=>?_
 repeat' (first|refine gs ?_|(refine gp ?_ ?_<;>intro hx_ this)|fail)
 · exfalso;omega
 exact bj (aX rfl) ⟨rfl,Q,hQ,rfl⟩
theorem oR:SortCl 1:=fun s P hs h1=>by
 refine eD func211 ntmps211 fun av bor w0=>?_
 repeat' (first|refine gs ?_|fail)
 refine cr (pre:=[fndRC s P]) (fr:=[]) (first:=#[]) (caps:=#[]) (hc:=oP s P hs h1) (hX:=fun _ _=>trivial) (h:=?_)
 rintro v R X' ⟨rfl,Q,hQ,rfl⟩
 repeat' (first|refine gs ?_|fail)
 exact bj (aX rfl) ⟨rfl,Q,hQ,rfl⟩
def Claims (w:World) (s:Xh) (l:List Xm):Prop:=Xd w 9 s (l.map Xm.cells)
theorem mf (l:List Xm):∀ r∈l.map Xm.cells,r.length=9:=fun r hr=>by
 obtain ⟨c,_,rfl⟩:=Qt.1 hr
 rfl
def wantC (au:ByteArray) (it:Xe):Bool:=decide (it.kind=1)&&seqB it.claim.actor au
theorem qf (bW:Nat) (au:ByteArray) (it:Xe):Pu prog 197 #[it.v,.pointer (some ⟨bW,0,none⟩)] (CelD bW [.string au]) (.tuple #[it.claim.v,.int .i64 0,.bool (wantC au it)]):=by
 refine ax func197 ntmps197 fun av bor w0=>?_
 repeat' (first|refine gs ?_|refine gs1 fun _=>?_|(refine gp ?_ ?_<;>intro hx_ this)|fail)
 rename_i b2 b3
 by_cases h0:it.kind=1
 · (refine aw_draw ⟨[0,1,2,3,4,5,6,7,8,9,10,11],[(12,⟨[13,14],[]⟩)]⟩ [cel b2 83 it.cells] (CelD bW [.string au]) (h:=?_))
   all_goals repeat' (first|refine aH (hsub:=by exact aN) (hy:=by first|(apply dZ true;rfl;rfl;exact Ze h0)) ?_|refine gdz ?_|refine aH (hsub:=by exact aN) (hy:=by first|(apply bS (vs:=it.claim.cells);rfl;exact .head _;rfl;rfl)|(apply eE;rfl;exact (fun w h=>h 0 _ rfl))) ?_|refine aE ?_ (h':=?_)|exact aF|refine gs1 fun _=>?_|(refine gq ?_ ?_<;>intro hx_ this)|fail)
   all_goals
    repeat' (first|refine gs ?_|refine gs1 fun _=>?_|(refine gp ?_ ?_<;>intro hx_ this)|fail)
    exact aa (df rfl rfl rfl rfl (.head _) rfl) (by rw [wantC,Ze h0];rfl)
 · (refine aw_draw ⟨[0,1,2,3,4,5,6,7,8,9,10,11],[(12,⟨[13,14],[]⟩)]⟩ [cel b2 83 it.cells] (CelD bW [.string au]) (h:=?_))
   all_goals repeat' (first|refine aH (hsub:=by exact aN) (hy:=by first|(apply dZ false;rfl;rfl;exact Zd h0)) ?_|refine gdz ?_|refine aH (hsub:=by exact aN) (hy:=by first|(apply bS (vs:=it.claim.cells);rfl;exact .head _;rfl;rfl)|(apply eE;rfl;exact (fun w h=>h 0 _ rfl))) ?_|refine aE ?_ (h':=?_)|exact aF|refine gs1 fun _=>?_|(refine gq ?_ ?_<;>intro hx_ this)|fail)
   all_goals
    repeat' (first|refine gs ?_|refine gs1 fun _=>?_|(refine gp ?_ ?_<;>intro hx_ this)|fail)
    exact aa (df rfl rfl rfl rfl (.head _) rfl) (by rw [wantC,Zd h0];rfl)
def fndOfC (dI:Xe→ByteArray) (it:Xe):Ee:=⟨0,dI it,it.claim⟩
def selBC (au:ByteArray) (rI:Xe→Bool) (it:Xe):Bool:=wantC au it&&rI it
def selFC (au:ByteArray) (rI:Xe→Bool) (dI:Xe→ByteArray) (I:List Xe):List Ee:=(I.filter (selBC au rI)).map (fndOfC dI)
def selC (au:ByteArray) (rI:Xe→Bool) (I:List Xe):List Xm:=(I.filter (selBC au rI)).map Xe.claim
theorem sr (au:ByteArray) (rI:Xe→Bool) (dI:Xe→ByteArray) (I:List Xe):(selFC au rI dI I).map Ee.a=selC au rI I:=by rw [selFC,selC,ZQ];rfl
structure PikIC (I:List Xe) (au:ByteArray) (rI:Xe→Bool) (dI:Xe→ByteArray) where
 k:Nat
 hk:k≤I.length
 A:Option Addr
 c:Nat
 n:Nat
 hn:n=(selFC au rI dI (I.take k)).length
 xs:List Value
 hxs:xs=((selFC au rI dI (I.take k)).map Ee.cells).flatten
structure ValIC (Q:List Ee) where
 k:Nat
 hk:k≤Q.length
 A:Option Addr
 c:Nat
 xs:List Value
 hxs:xs=((Q.take k).map fun f=>f.a.cells).flatten
def wantVC (bW:Nat):Value:=.func (.func 197) #[] #[.pointer (some ⟨bW,0,none⟩)]
theorem qP (ks ki:Xh) (I:List Xe) (bW:Nat) (au:ByteArray) (rI:Xe→Bool) (dI:Xe→ByteArray)
  (hR:∀ it∈I,Pu prog 58 #[it.v] (fun w=>it.at_ w) (.bool (rI it)))
  (hD:∀ it∈I,Pu prog 33 #[it.v] (fun w=>it.at_ w∧Xc w) (.string (dI it)))
  (hI:I.length≤1000) (hsort:SortCl I.length) :
  Mk prog 196 #[.agg #[ks.v,ki.v],wantVC bW] (fun w=>(Items w ki I∧CelD bW [.string au] w)∧Xc w)
   (fun u X'=>∃ (s:Xh) (L:List Xm),u=s.v∧L.Perm (selC au rI I)∧∀ w,X' w→Claims w s L):=by
 refine cF func196 ntmps196 fun av bor w0=>?_
 refine aK (p:=ki.n=I.length∧ki.n≤maxLen∧(0<I.length→ki.p.isSome=true)) (fun w h=>⟨h.1.1.len_,h.1.1.max_,h.1.1.some_⟩) fun ⟨hkn,hkm,hkp⟩=>?_
 simp only [maxLen] at hkm
 repeat' (first|refine gs ?_|refine gs1 fun _=>?_|fail)
 rename_i b2
 refine bA 260 11 ?_
 refine az (ι:=PikIC I au rI dI) (fun i=>⟨[(1,wantVC bW),(5,.slice i.A i.n i.c),(15,ki.v),(16,.int .i64 (ki.n:Nat)),(17,.int .i64 (i.k:Nat))],[orow 260 11 (.slice i.A i.n i.c) i.n i.xs],fun w=>(Items w ki I∧CelD bW [.string au] w)∧Xc w⟩) (fun i=>I.length-i.k) ⟨0,ZU _,none,0,0,rfl,[],rfl⟩ (ak aw (.cons_cons _ (Zq _)) fun _ h=>h) fun i=>?_
 obtain ⟨k,hk,A,c,n,hn,xs,hxs⟩:=i
 simp only
 repeat' (first|refine gs ?_|refine gs1 fun _=>?_|(refine gp ?_ ?_<;>intro hx_ this)|fail)
 · have hlt:k<I.length:=by omega
   have hkp':=hkp ab
   obtain ⟨it,hit⟩:∃ it,I[k]?=some it:=⟨_,Zc hlt⟩
   have him:=ZW hit
   have hnl:n≤1000:=by
    rw [hn,selFC,ZA]
    exact ZO (ZZ _ _) (by rw [Z7];omega)
   repeat' (first|refine gs ?_|refine gs1 fun _=>?_|(refine aA (q:=k*49) ?_)|(refine aO (cs:=it.cells) (hF:=fun w h=>h.1.1.get hit) ?_)|(refine gp ?_ ?_<;>intro hx_ this)|fail)
   rename_i b7
   have hri:=hR it him
   have hdi:=hD it him
   have hwa:=qf bW au it
   have htk:selFC au rI dI (I.take (k+1))=selFC au rI dI (I.take k)++(bif selBC au rI it then [fndOfC dI it] else []):=by
    rw [selFC,selFC,Z5,hit,Qi,ZM,Qh]
    congr 1
    cases hb:selBC au rI it with
    | true=>simp [hb]
    | false=>simp [hb]
   cases hwt:wantC au it with
   | false =>
    rw [hwt] at hwa
    have hno:selFC au rI dI (I.take (k+1))=selFC au rI dI (I.take k):=by rw [htk,selBC,hwt];exact ZD _
    refine d6 (args:=[it.v]) (all:=[it.v,.pointer (some ⟨bW,0,none⟩)]) (first:=#[]) (caps:=#[.pointer (some ⟨bW,0,none⟩)]) (hx:=rfl) (ha:=rfl) (hall:=rfl) (hc:=hwa) (hX:=fun w h=>h.1.2) (h:=?_)
    repeat' (first|refine gs ?_|refine gs1 fun _=>?_|(refine gp ?_ ?_<;>intro hx_ this)|fail)
    exact ⟨(⟨k+1,hlt,A,c,n,by rw [hno];exact hn,xs,by rw [hno];exact hxs⟩:PikIC I au rI dI),(by show I.length-(k+1)<I.length-k;omega),ak aw (.cons _ (.cons _ (aj _))) fun _ h=>h⟩
   | true =>
    rw [hwt] at hwa
    cases hrt:rI it with
    | false =>
     rw [hrt] at hri
     have hno:selFC au rI dI (I.take (k+1))=selFC au rI dI (I.take k):=by rw [htk,selBC,hwt,hrt];exact ZD _
     refine d6 (args:=[it.v]) (all:=[it.v,.pointer (some ⟨bW,0,none⟩)]) (first:=#[]) (caps:=#[.pointer (some ⟨bW,0,none⟩)]) (hx:=rfl) (ha:=rfl) (hall:=rfl) (hc:=hwa) (hX:=fun w h=>h.1.2) (h:=?_)
     repeat' (first|(refine ae (hc:=hri) (hX:=fun w h=>h.1.1.2 it him) ?_)|refine gs ?_|refine gs1 fun _=>?_|(refine gp ?_ ?_<;>intro hx_ this)|fail)
     exact ⟨(⟨k+1,hlt,A,c,n,by rw [hno];exact hn,xs,by rw [hno];exact hxs⟩:PikIC I au rI dI),(by show I.length-(k+1)<I.length-k;omega),ak aw (.cons _ (.cons _ (aj _))) fun _ h=>h⟩
    | true =>
     rw [hrt] at hri
     have hyes:selFC au rI dI (I.take (k+1))=selFC au rI dI (I.take k)++[fndOfC dI it]:=by rw [htk,selBC,hwt,hrt];rfl
     refine d6 (args:=[it.v]) (all:=[it.v,.pointer (some ⟨bW,0,none⟩)]) (first:=#[]) (caps:=#[.pointer (some ⟨bW,0,none⟩)]) (hx:=rfl) (ha:=rfl) (hall:=rfl) (hc:=hwa) (hX:=fun w h=>h.1.2) (h:=?_)
     repeat' (first|(refine ae (hc:=hri) (hX:=fun w h=>h.1.1.2 it him) ?_)|refine gs ?_|refine gs1 fun _=>?_|(refine gp ?_ ?_<;>intro hx_ this)|fail)
     rename_i b8
     (refine aw_draw ⟨[0,1,2,4],[(3,⟨[5],[(6,⟨[],[(7,⟨[8],[]⟩)]⟩)]⟩)]⟩ [cel b8 77 it.claim.cells,cel b7 83 it.cells] (fun w=>(Items w ki I∧CelD bW [.string au] w)∧Xc w) (h:=?_))
     all_goals repeat' (first|(refine ae (hc:=hdi) (hX:=fun w h=>⟨h.1.1.2 it him,h.2⟩) ?_)|refine gdz ?_|refine aH (hsub:=by exact aN) (hy:=by first|(apply dy (cs:=(fndOfC dI it).cells);rfl;rfl)) ?_|refine aE ?_ (h':=?_)|exact aF|refine bT (size:=11) (vs:=[.agg (fndOfC dI it).cells.toArray]) (css:=(fndOfC dI it).cells) (hsz:=by rfl) (hcs:=by rfl) fun _=>?_|(refine ga ?_;refine aD (size:=11) (news:=(fndOfC dI it).cells) (q:=1) rfl rfl rfl rfl (fun _=>At.there _ (At.there _ (At.there _ (At.here _)))) (fun w G=>aR G aC rfl rfl 1) ab (by simp only [maxLen];omega) rfl ?_ rfl ?_;(first|with_reducible rfl|with_reducible assumption|with_reducible exact Zj|with_reducible exact Zk);intro A2 c2)|refine gs1 fun _=>?_|(refine gq ?_ ?_<;>intro hx_ this)|fail)
     all_goals
      repeat' (first|refine gs ?_|refine gs1 fun _=>?_|(refine gp ?_ ?_<;>intro hx_ this)|fail)
      exact ⟨(⟨k+1,hlt,A2,c2,n+1,by rw [hyes,Zw,←hn];rfl,xs++(fndOfC dI it).cells,by rw [hyes,hxs];simp⟩:PikIC I au rI dI),(by show I.length-(k+1)<I.length-k;omega),ak aw (.cons _ (.cons _ (.cons _ (aj _)))) fun _ h=>h⟩
 have hkE:k=I.length:=by omega
 rw [hkE,Z6] at hn hxs
 obtain ⟨P,hP⟩:∃ P,selFC au rI dI I=P:=⟨_,rfl⟩
 rw [hP] at hn hxs
 have hPl:P.length≤I.length:=by rw [←hP,selFC,ZA];exact ZZ _ _
 subst hxs
 refine cr (pre:=[fndRC ⟨A,n,c⟩ P]) (fr:=[]) (first:=#[]) (caps:=#[]) (hc:=hsort ⟨A,n,c⟩ P hn hPl) (hX:=fun _ _=>trivial) (h:=?_)
 rintro v R X' ⟨rfl,Q,hQ,rfl⟩
 have hQl:Q.length=n:=hQ.length_eq.trans hn.symm
 have hnI:n≤1000:=by omega
 refine eJ (X':=fun w=>(Items w ki I∧CelD bW [.string au] w)∧Xc w) (fun w h=>h.1) ?_
 repeat' (first|refine gs ?_|refine gs1 fun _=>?_|(refine fO (c:=n) (hm:=Nat.ble_eq_true_of_le ab) (hm2:=Nat.ble_eq_true_of_le ab) fun bv=>?_)|(refine gp ?_ ?_<;>intro hx_ this)|fail)
 refine dV (r:=fndRC ⟨A,n,c⟩ Q) aB (p:=0<n→A.isSome=true) (fun w h h0=>dq h h0) fun hAp=>?_
 refine az (ι:=ValIC Q) (fun i=>⟨[(11,.slice i.A i.k i.c),(47,.slice A n c),(48,.int .i64 (n:Nat)),(49,.int .i64 (i.k:Nat))],[orow 77 9 (.slice i.A i.k i.c) i.k i.xs,fndRC ⟨A,n,c⟩ Q],fun w=>(Items w ki I∧CelD bW [.string au] w)∧Xc w⟩) (fun i=>Q.length-i.k) ⟨0,ZU _,_,_,[],rfl⟩ (ak aw (aj _) fun _ h=>h) fun i=>?_
 obtain ⟨k2,hk2,A2,c2,xs2,hxs2⟩:=i
 simp only
 repeat' (first|refine gs ?_|refine gs1 fun _=>?_|(refine gp ?_ ?_<;>intro hx_ this)|fail)
 · have hlt:k2<Q.length:=by omega
   have hAp':=hAp ab
   obtain ⟨f,hf⟩:∃ f,Q[k2]?=some f:=⟨_,Zc hlt⟩
   repeat' (first|refine bT (size:=9) (vs:=[f.a.v]) (css:=f.a.cells) (hsz:=by rfl) (hcs:=by rfl) fun _=>?_|refine gs ?_|refine gs1 fun _=>?_|(refine aA (q:=k2*11) ?_)|(refine ao (kc (size:=11) (m:=n) (i:=k2) (xs:=Q.map Ee.cells) (cs:=f.cells) rfl (.tail _ (.head _)) (by rw [ZA];exact hQl.symm) (ry Q) (by simp [hf])) rfl rfl rfl ?_)|(refine aV (vs:=f.a.cells) (hv:=rfl) ?_)|(refine gp ?_ ?_<;>intro hx_ this)|fail)
   refine aD (size:=9) (news:=f.a.cells) (q:=1) rfl rfl rfl rfl (fun _=>At.there _ (At.there _ (At.here _))) (fun w G=>aR G aC rfl rfl 1) ab (by simp only [maxLen];omega) rfl ?_ rfl ?_
   · (first|with_reducible rfl|with_reducible assumption|with_reducible exact Zj|with_reducible exact Zk)
   intro A3 c3
   repeat' (first|refine gs ?_|refine gs1 fun _=>?_|(refine gp ?_ ?_<;>intro hx_ this)|fail)
   exact ⟨(⟨k2+1,hlt,A3,c3,xs2++f.a.cells,by rw [Z5,hf,hxs2];simp⟩:ValIC Q),(by show Q.length-(k2+1)<Q.length-k2;omega),ak aw (.cons _ (.cons _ (aj _))) fun _ h=>h⟩
 have hk2E:k2=Q.length:=by omega
 rw [hk2E,Z6] at hxs2
 have hLp:(Q.map Ee.a).Perm (selC au rI I):=by rw [←sr au rI dI I,hP];exact hQ.map _
 refine aa (ai rfl rfl) ⟨⟨A2,k2,c2⟩,Q.map Ee.a,rfl,hLp,fun w h=>?_⟩
 have hr:=h.2 (orow 77 9 (.slice A2 k2 c2) k2 xs2) (.head _)
 exact aW (xs:=(Q.map Ee.a).map Xm.cells) (by rw [ZQ];rw [hxs2] at hr;exact hr) (by rw [ZA,ZA];exact hk2E) (mf _)
theorem iZ (ks ki:Xh) (I:List Xe) (au:ByteArray) (rI:Xe→Bool) (dI:Xe→ByteArray)
  (hR:∀ it∈I,Pu prog 58 #[it.v] (fun w=>it.at_ w) (.bool (rI it)))
  (hD:∀ it∈I,Pu prog 33 #[it.v] (fun w=>it.at_ w∧Xc w) (.string (dI it)))
  (hI:I.length≤1000) (hsort:SortCl I.length) :
  Mk prog 163 #[.agg #[ks.v,ki.v],.string au] (fun w=>Items w ki I∧Xc w)
   (fun u X'=>∃ (s:Xh) (L:List Xm),u=s.v∧L.Perm (selC au rI I)∧∀ w,X' w→Claims w s L):=by
 refine cF func163 ntmps163 fun av bor w0=>?_
 repeat' (first|refine gs ?_|refine gs1 fun _=>?_|(refine bV ?_)|(refine gp ?_ ?_<;>intro hx_ this)|fail)
 rename_i b2 b3
 refine cJ ?_
 refine aU (hc:=qP ks ki I b3 au rI dI hR hD hI hsort) (hX:=fun w h=>⟨⟨h.1.1,iw h.2⟩,h.1.2⟩) fun v X1 h1=>?_
 obtain ⟨s,L,rfl,hL,hw⟩:=h1
 repeat' (first|refine gs ?_|refine gs1 fun _=>?_|(refine gp ?_ ?_<;>intro hx_ this)|fail)
 exact aa (ai rfl rfl) ⟨s,L,rfl,hL,fun w h=>hw w h.1.2⟩
theorem mM:Pu prog 162 #[.int .i64 0] (fun _=>True) (.int .i64 1):=by
 refine ax func162 ntmps162 fun av bor w0=>?_
 repeat' (first|refine gs ?_|(refine gp ?_ ?_<;>intro hx_ this)|fail)
 · exact aa (ai rfl rfl) rfl
 · exact absurd this (by decide)
theorem mx (ki:Xh) (I:List Xe) (id:ByteArray) (g:Int) (rI:Xe→Bool) (dI:Xe→ByteArray)
  (hR:∀ it∈I,Pu prog 58 #[it.v] (fun w=>it.at_ w) (.bool (rI it)))
  (hD:∀ it∈I,Pu prog 33 #[it.v] (fun w=>it.at_ w∧Xc w) (.string (dI it)))
  (hI:I.length≤1000) (hsort:SortCl I.length) (hno:selC id rI I=[]) :
  Pu prog 105 #[.agg #[.slice none 0 0,ki.v],.string id,.int .i64 g] (fun w=>Items w ki I∧Xc w) (.tuple #[Xm.zero.v,.bool false]):=by
 refine ax func105 ntmps105 fun av bor w0=>?_
 have hcl:=iZ ⟨none,0,0⟩ ki I id rI dI hR hD hI hsort
 repeat' (first|(refine ae (hc:=mM) ?_)|(refine aU (hc:=hcl) fun v1 X1 h1=>?_;obtain ⟨s,L,rfl,hL,hw⟩:=h1)|refine gs ?_|refine gs1 fun _=>?_|(refine gp ?_ ?_<;>intro hx_ this)|fail)
 rename_i b3 b6
 obtain rfl:L=[]:=by rw [hno] at hL;exact List.Perm.eq_nil hL
 refine aK (p:=s.n=0) (fun w h=>by have h1:=Xd.len (hw w h.2);simpa using h1) fun hs0=>?_
 refine az (ι:=Unit) (fun _=>⟨[(6,.pointer (some ⟨b6,0,none⟩)),(19,.int .i64 (s.n:Nat)),(20,.int .i64 0)],[cel b6 77 Xm.zero.cells],fun w=>True⟩) (fun _=>0) () (ak aw (.cons_cons _ (Zq _)) fun _ _=>trivial) fun _=>?_
 repeat' (first|refine gs ?_|refine gs1 fun _=>?_|(refine aI (cs:=Xm.zero.cells) (hf:=by rfl) ?_)|(refine gp ?_ ?_<;>intro hx_ this)|fail)
 · exfalso;omega
 exact aa (bn rfl rfl rfl aB (by rfl)) rfl
theorem ip {P:Program} {f:FuncId} {args:Array Value} {X:World→Prop} {Φ Ψ:Value→(World→Prop)→Prop} (h:Mk P f args X Φ) (hp:∀ u X',Φ u X'→Ψ u X'):Mk P f args X Ψ:=by
 unfold Mk at *
 exact Ct.mono h fun v R X' ⟨a,b⟩=>⟨hp _ _ a,b⟩
def rI0 (it:Xe):Bool:=rightB it.act
def dI0 (it:Xe):ByteArray:=digV it.act
theorem rightI0 (a:Xa):Pu prog 58 #[(ofActI a).v] (fun w=>(ofActI a).at_ w) (.bool (rI0 (ofActI a))):=il (dk a) fun w h=>h.1
theorem digI0 (a:Xa) (hr:a.Rng):Pu prog 33 #[(ofActI a).v] (fun w=>(ofActI a).at_ w∧Xc w) (.string (dI0 (ofActI a))):=il (fm a hr) fun w h=>⟨h.1.1,h.2⟩
def oneW (id:ByteArray):OfW:=⟨[],id,fun _=>none,fun _ _=>false,fun _=>⟨#[]⟩,verV,0⟩
structure BegOk (a:Xa):Prop where
 rng:a.Rng
 sm:a.Sm
 right:rightB a=true
 kind:a.kind=0
 seq:a.seq=0
 prev:a.prev=⟨#[]⟩
 id:idV a.n=a.author
 ver:verV a.n a=true
theorem oneHyp (ki:Xh) (a:Xa) (h:BegOk a):OfHyp ⟨none,0,0⟩ ki (oneW a.author) (fun L=>L=[a]) (fun w=>Items w ki [ofActI a]) where
 acts:=by
  have hm:=kH ⟨none,0,0⟩ ki [ofActI a] a.author rI0 dI0 (fun it hit=>by rw [ZV.1 hit];exact rightI0 a) (fun it hit=>by rw [ZV.1 hit];exact digI0 a h.rng) (show (1:Nat)≤1000 by decide) oS
  refine ip hm fun u X' hu=>?_
  obtain ⟨s,L,h1,h2,h3⟩:=hu
  have hsel:selA a.author rI0 [ofActI a]=[a]:=by
   have:selB a.author rI0 (ofActI a)=true:=by
    show ((decide ((0:Int)=0)&&seqB a.author a.author)&&rightB a)=true
    rw [bo,h.right]
    rfl
   rw [selA,List.filter_cons,ZG this,List.filter_nil]
   rfl
  rw [hsel] at h2
  exact ⟨s,L,h1,List.perm_singleton.1 h2,h3⟩
 ok:=fun L hL=>by
  subst hL
  exact ⟨⟨fun x hx=>by rw [ZV.1 hx];exact h.rng,fun x hx=>by rw [ZV.1 hx];exact h.sm⟩,show (1:Nat)≤100000 by decide⟩
 bB:=ZU _
 won:=fun g _=>by
  have hno:selC a.author rI0 [ofActI a]=[]:=by
   have:selBC a.author rI0 (ofActI a)=false:=rfl
   rw [selC,List.filter_cons,this]
   rfl
  exact mx ki [ofActI a] a.author (g:Nat) rI0 dI0 (fun it hit=>by rw [ZV.1 hit];exact rightI0 a) (fun it hit=>by rw [ZV.1 hit];exact digI0 a h.rng) (show (1:Nat)≤1000 by decide) oR hno
 bnd:=fun g c hc=>by cases hc
 clm:=fun g c hc=>by cases hc
 dg:=fun g c hc=>by cases hc
 ver:=fun L hL x hx p=>by
  subst hL
  rw [ZV.1 hx]
  exact k7 p a h.rng
theorem qU (ki:Xh) (a:Xa) (h:BegOk a):Mk prog 28 #[.agg #[.slice none 0 0,ki.v],.string a.author] (fun w=>Items w ki [ofActI a]∧Xc w)
  (fun u X'=>∃ sa sk:Xh,u=(⟨a.author,sa,sk,digV a,0,false,[a]⟩:Xb).v∧∀ w,X' w→Acts w sa [a]∧Keyz w sk [⟨0,a.n,a.m⟩]):=by
 refine ip (sA ⟨none,0,0⟩ ki (oneW a.author) _ _ (oneHyp ki a h)) fun u X' hu=>?_
 obtain ⟨L,sa,sk,st,fork,hL,hres,h1,h2⟩:=hu
 subst hL
 have hpos:posB 0 ⟨#[]⟩ a=true:=by rw [posB,h.seq,h.prev,bo];rfl
 have hfirst:firstB ((oneW a.author).at [a]) a=true:=by
  show (decide (a.kind=0)&&seqB (idV a.n) a.author&&verV a.n a)=true
  rw [h.kind,h.id,bo,h.ver]
  rfl
 have hfl:firstL ((oneW a.author).at [a])=[a]:=by
  show ([a].filter (posB 0 ⟨#[]⟩)).filter _=[a]
  simp [hpos,hfirst]
 have hbeg:begS a=⟨[a],[⟨0,a.n,a.m⟩],digV a,0⟩:=by
  rw [begS,addS,h.kind]
  rfl
 have hcand:candL ((oneW a.author).at [a]) (begS a)=[]:=by
  have:posB 1 (digV a) a=false:=by rw [posB,h.seq];rfl
  rw [candL,hbeg]
  show ([a].filter (posB 1 (digV a))).filter _=[]
  simp [this]
 have hstep:stepS ((oneW a.author).at [a]) (begS a)=none:=by
  have hr:regS ((oneW a.author).at [a]) (begS a)=none:=rfl
  rw [stepS,hr,hcand]
  rfl
 have hfin:finS ((oneW a.author).at [a]) a=begS a:=ls hstep _
 rw [OfRes,hfl] at hres
 obtain ⟨e1,e2⟩:=(show st=finS ((oneW a.author).at [a]) a∧fork=decide (1<(candL ((oneW a.author).at [a]) (finS ((oneW a.author).at [a]) a)).length) from hres)
 rw [hfin] at e1 e2
 rw [hcand] at e2
 subst e1
 subst e2
 refine ⟨sa,sk,?_,fun w hw=>?_⟩
 · rw [h1,hbeg]
   rfl
 · have:=h2 w hw
   rw [hbeg] at this
   exact this
def ItemTo (b:Xa) (u:Value) (X:World→Prop):Prop:=∃ s1 s2:Xh,u=(ofActI (b.re s1 s2)).v∧s1.n=b.to.n∧s2.n=b.wraps.n∧∀ w,X w→(b.re s1 s2).at_ w
set_option maxRecDepth 20000 in
theorem pa (a:Xa) (hr:a.Rng) (hs:a.Sm):Mk prog 27 #[a.v] (Xa.at_ · a) (ItemTo a):=by
 refine cF func27 ntmps27 fun av bor w0=>?_
 repeat' (first|refine gs ?_|refine gs1 fun _=>?_|fail)
 refine aU (hc:=dr a.to (strs a.toL) hs.to (fun cs hcs=>by simp only [strs,Qt] at hcs;obtain ⟨x,_,rfl⟩:=hcs;rfl)) fun v1 X1 h1=>?_
 obtain ⟨s1,rfl,hn1,hw1⟩:=h1
 repeat' (first|refine gs ?_|refine gs1 fun _=>?_|fail)
 refine aU (hc:=gN a.wraps (a.wrapsL.map Xk.cells) hs.wraps (fun cs hcs=>by simp only [Qt] at hcs;obtain ⟨x,_,rfl⟩:=hcs;rfl)) (hX:=fun w h=>h.1.2) fun v2 X2 h2=>?_
 obtain ⟨s2,rfl,hn2,hw2⟩:=h2
 repeat' (first|refine gs ?_|refine gs1 fun _=>?_|(refine aI ?_)|fail)
 have e1:s1.n=a.to.n:=by rw [hn1,hr.to_len];simp [strs]
 have e2:s2.n=a.wraps.n:=by rw [hn2,hr.wraps_len];simp
 apply aa;refine aP rfl rfl aB ?_
 · rfl
 refine ⟨s1,s2,rfl,e1,e2,fun w h=>⟨?_,?_⟩⟩
 · exact hw1 w h.1.1.2
 · exact hw2 w h.1.2
theorem cR {a:Xa} (h:a.Rng) {s1 s2:Xh} (h1:s1.n=a.to.n) (h2:s2.n=a.wraps.n):(a.re s1 s2).Rng:=⟨h.ints,h.wints,h1.trans h.to_len,h2.trans h.wraps_len⟩
theorem ec {a:Xa} (h:a.Sm) {s1 s2:Xh} (h1:s1.n=a.to.n) (h2:s2.n=a.wraps.n):(a.re s1 s2).Sm:=⟨by show s1.n*16≤_;rw [h1];exact h.to,by show s2.n*64≤_;rw [h2];exact h.wraps,h.target⟩
theorem tV {a:Xa} (p:Int) {s1 s2:Xh} (h1:s1.n=a.to.n) (h2:s2.n=a.wraps.n):verV p (a.re s1 s2)=verV p a:=by
 have hr:=cd h1 h2
 have hc:coreV (a.re s1 s2)=coreV a:=rfl
 have he:(a.re s1 s2).e=a.e:=rfl
 have hs:(a.re s1 s2).s=a.s:=rfl
 simp only [verV,actCore,hr,hc,he,hs]
def ownsB (k:X9) (c:Xb) (kl:List Xg):Bool:=(keyV c.acts.n kl (c.acts.n:Int)).isSome&&rightK k&&decide (k.p=((keyV c.acts.n kl (c.acts.n:Int)).getD Xg.zero).public_)
theorem ky (k:X9) (c:Xb) (kl:List Xg):Pu prog 40 #[k.v,c.v] (fun w=>c.at_ w∧Keyz w c.keys kl) (.bool (ownsB k c kl)):=by
 refine ax func40 ntmps40 fun av bor w0=>?_
 have hk:=dG c kl (c.acts.n:Int)
 have hr:=de k
 unfold ownsB
 unfold keyOP at hk
 generalize keyV c.acts.n kl (c.acts.n:Int)=o at *
 generalize hs:o.isSome=s at hk
 generalize o.getD Xg.zero=y at *
 generalize rightK k=r at *
 cases s<;>cases r
 all_goals
  repeat' (first|(refine ae (hc:=hk) ?_)|(refine ae (hc:=hr) ?_)|refine gs ?_|refine gs1 fun _=>?_|(refine gp ?_ ?_<;>intro hx_ this)|fail)
  exact aa (ai rfl rfl) rfl
theorem fy (kd:Int):Pu prog 17 #[.int .i64 kd] (fun _=>True) (.bool (postK kd||decide (kd=14))):=by
 refine ax func17 ntmps17 fun av bor w0=>?_
 have hp:=iP kd
 generalize postK kd=q at *
 cases q
 all_goals
  repeat' (first|(refine ae (hc:=hp) ?_)|refine gs ?_|(refine gp ?_ ?_<;>intro hx_ this)|fail)
  exact aa (ai rfl rfl) rfl
def gkl:List Xg:=[⟨0,gkK.p,0⟩]
structure TaleG (c:Xb) (n:Nat) (d:ByteArray):Prop where
 id:c.id=gkI
 n:c.acts.n=n
 prev:c.prev=d
def hiG:ByteArray:=⟨#[104,105]⟩
def draftG:Xa:={ Xa.zero with kind:=1,scope:=1,time:=2 }
theorem sort1 (x:ByteArray):sortB [x]=[x]:=by simp [sortB,nV]
theorem comp1 (x:ByteArray):compB [x]=[x]:=by
 show [lb (bl x)]=_
 rw [nV]
theorem uq:seqB gkJ gkI=false:=by decide +kernel
structure KdG (x0 x1:Xa):Prop where
 k0:x0.kind=0
 k1:x1.kind=8
 t1:x1.target=gkJ
theorem tieG2 {x0 x1:Xa} (h:KdG x0 x1):tieF [x0,x1] 2=⟨[],[gkJ],[],[]⟩:=by
 simp only [tieF,stepT,List.getD_cons_zero,List.getD_cons_succ,h.k0,h.k1,h.t1]
 rfl
theorem tieG3 {x0 x1 x2:Xa} (h:KdG x0 x1) (h2:x2.kind=16):tieF [x0,x1,x2] 3=⟨[],[gkJ],[],[]⟩:=by
 simp only [tieF,stepT,List.getD_cons_zero,List.getD_cons_succ,h.k0,h.k1,h.t1,h2]
 rfl
theorem memG {c:Xb} {n:Int} (ht:tieV c.actsL n=⟨[],[gkJ],[],[]⟩) (hid:c.id=gkI):membersV c n 1 ⟨#[]⟩ []=[gkJ]:=by
 have e1:listOf c n 1 ⟨#[]⟩ []=[gkJ]:=by
  rw [listOf,ht]
  exact sort1 gkJ
 have e2:keepM c (sortB []) gkJ=true:=by
  have e0:sortB ([]:List ByteArray)=[]:=by simp [sortB]
  rw [keepM,hid,uq,e0]
  rfl
 rw [membersV,e1,ht]
 show compB (sortB ([gkJ].filter (keepM c (sortB []))))=_
 rw [List.filter_cons,e2]
 show compB (sortB [gkJ])=_
 rw [sort1,comp1]
theorem grantG2 {x0 x1:Xa} (h:KdG x0 x1):grantV [x0,x1] 2 1 ⟨#[]⟩=(0,0):=by
 show grantF [x0,x1] 1 ⟨#[]⟩ 2=_
 simp only [grantF,gOk,List.getD_cons_zero,List.getD_cons_succ,h.k0,h.k1]
 rfl
theorem grantG3 {x0 x1 x2:Xa} (h:KdG x0 x1) (h2:x2.kind=16) (hs:x2.scope=1) (hg:x2.group=⟨#[]⟩) (he:x2.epoch=0):grantF [x0,x1,x2] 1 ⟨#[]⟩ 3=(2,1):=by
 have e2:grantF [x0,x1,x2] 1 ⟨#[]⟩ 2=(0,0):=by
  simp only [grantF,gOk,List.getD_cons_zero,List.getD_cons_succ,h.k0,h.k1]
  rfl
 have e3:gOk x2 1 ⟨#[]⟩ 0=true:=by
  rw [gOk,h2,hs,hg,he,bo]
  rfl
 rw [grantF,e2]
 show (bif gOk x2 1 ⟨#[]⟩ 0 then (2,0+1) else (0,0))=_
 rw [e3]
 rfl
theorem grantG4 {x0 x1 x2 x3:Xa} (h:KdG x0 x1) (h2:x2.kind=16) (hs:x2.scope=1) (hg:x2.group=⟨#[]⟩) (he:x2.epoch=0):grantV [x0,x1,x2,x3] (3:Nat) 1 ⟨#[]⟩=(2,1):=by
 show grantF [x0,x1,x2,x3] 1 ⟨#[]⟩ 3=_
 have e2:grantF [x0,x1,x2,x3] 1 ⟨#[]⟩ 2=(0,0):=by
  simp only [grantF,gOk,List.getD_cons_zero,List.getD_cons_succ,h.k0,h.k1]
  rfl
 have e3:gOk x2 1 ⟨#[]⟩ 0=true:=by
  rw [gOk,h2,hs,hg,he,bo]
  rfl
 rw [grantF,e2]
 show (bif gOk x2 1 ⟨#[]⟩ 0 then (2,0+1) else (0,0))=_
 rw [e3]
 rfl
theorem freshG2 {c:Xb} {x0 x1:Xa} (h:KdG x0 x1) (hl:c.actsL=[x0,x1]):epochO c.actsL 2 1 ⟨#[]⟩=none∧freshV c 2 1 ⟨#[]⟩ []=true:=by
 have e:epochO c.actsL 2 1 ⟨#[]⟩=none:=by
  rw [epochO,hl,grantG2 h]
  rfl
 refine ⟨e,?_⟩
 rw [freshV,e]
 rfl
theorem freshG3 {c:Xb} {x0 x1 x2:Xa} (h:KdG x0 x1) (h2:x2.kind=16) (hs:x2.scope=1) (hg:x2.group=⟨#[]⟩) (he:x2.epoch=0) (ht:x2.toL=[gkJ]) (hid:c.id=gkI) (hl:c.actsL=[x0,x1,x2]) :
  epochO c.actsL 3 1 ⟨#[]⟩=some x2∧freshV c 3 1 ⟨#[]⟩ []=false∧grantV c.actsL 3 1 ⟨#[]⟩=(2,1):=by
 have eg:grantV c.actsL 3 1 ⟨#[]⟩=(2,1):=by
  rw [hl]
  exact grantG3 h h2 hs hg he
 have e:epochO c.actsL 3 1 ⟨#[]⟩=some x2:=by
  rw [epochO,eg,hl]
  rfl
 have em:membersV c 3 1 ⟨#[]⟩ []=[gkJ]:=memG (by rw [hl];exact tieG3 h h2) hid
 refine ⟨e,?_,eg⟩
 rw [freshV,e,em]
 show (!true||!eqL x2.toL [gkJ])=false
 rw [ht,rE]
 rfl
theorem mX {n:Nat} (i:Nat) (h:i≤n):keyV n gkl (i:Int)=some ⟨0,gkK.p,0⟩:=by
 rw [keyV,Zd ab,Zd (by omega)]
 show keyF gkl (i:Int) 1=_
 rw [keyF]
 show (bif decide ((0:Int)≤(i:Int)) then _ else _)=_
 rw [Ze (by omega)]
 rfl
theorem ownG {c:Xb} {n:Nat} {d:ByteArray} (h:TaleG c n d):ownsB gkK c gkl=true:=by
 rw [ownsB,dx,h.n,mX n (ZN _)]
 rfl
theorem sR:sealV gkS gkN1 hiG=gkB:=by
 rw [sealV,hiG,py,gk_tag_p]
 rfl
theorem sK:wrapOV ((314142530267339368:Nat):Int) (textV ⟨#[103,114,97,110,116]⟩++textV gkS++numV 0) gkS=some gkW:=by
 rw [sQ,wrapOV,show isPubB ((314142530267339368:Nat):Int)=true by decide +kernel]
 simp only [Zg,ZP]
 rw [up,u9,u7,oc,pw]
 show some (Xk.mk _ _ (sealV gkW0 gkN0 gkS))=_
 rw [sealV,gkS,px,gk_tag_w]
 rfl
theorem va:expV 37 672555664544012153=314142530267339368:=by rw [dO];decide +kernel
theorem gk_7:(((314142530267339368:Nat):Int)=((expV 37 7:Nat):Int))=False:=by
 have e:(expV 37 7==314142530267339368)=false:=by rw [dO];decide +kernel
 refine eq_false fun h=>?_
 rw [←Int.ofNat.inj h,Zv] at e
 cases e
theorem pq:unwrapO ((672555664544012153:Nat):Int) gkW=some gkS:=by
 have e0:gkW.to=((314142530267339368:Nat):Int):=rfl
 have e3:gkW.eph=((1724347938765137135:Nat):Int):=rfl
 have e1:isSecB ((672555664544012153:Nat):Int)=true:=by decide +kernel
 have e2:isPubB ((1724347938765137135:Nat):Int)=true:=by decide +kernel
 rw [unwrapO,e0,e3,e1,e2,ZP,ZP,va,uZ,oc,Ze rfl]
 simp only [Bool.and_self,Zg]
 have e4:gkW.box.nonce=gkN0:=rfl
 rw [boxO,e4]
 have e5:gkW.box.tag=tagV gkW0 gkN0 gkW.box.data:=gk_tag_w.symm
 have e6:maskV gkW0 gkN0 gkW.box.data=gkS:=pz
 rw [e5,bo,e6]
 rfl
theorem m6:unwrapO 7 gkW=none:=by
 have e0:gkW.to=((314142530267339368:Nat):Int):=rfl
 have e1:(7:Int).toNat=7:=rfl
 rw [unwrapO,e0,e1,Zd (of_eq_false gk_7),Zi,Bool.false_and]
 rfl
theorem sV:boxO gkS gkB=some hiG:=by
 have e4:gkB.nonce=gkN1:=rfl
 have e5:gkB.tag=tagV gkS gkN1 gkB.data:=gk_tag_p.symm
 have e6:maskV gkS gkN1 gkB.data=hiG:=pA
 rw [boxO,e4,e5,bo,e6]
 rfl
theorem openG4 {x0 x1 x2 x3:Xa} (h:KdG x0 x1) (h2:x2.kind=16) (hs:x2.scope=1) (hg:x2.group=⟨#[]⟩) (he:x2.epoch=0) (hw:x2.wrapsL=[gkW]) (h3:x3.kind=1) (s3:x3.scope=1) (g3:x3.group=⟨#[]⟩) (e3:x3.epoch=0) (b3:x3.body=gkB) (x:Int) (o:Option ByteArray) (hx:unwrapO x gkW=o) (hp:(ofK x).p≠gkK.p) :
  openV [x] [x0,x1,x2,x3] gkl 3=o.bind (boxO · gkB):=by
 have e0:openV [x] [x0,x1,x2,x3] gkl 3=openA [x] [x0,x1,x2,x3] gkl 3 x3:=rfl
 rw [e0,openA,h3,s3]
 show openG [x] [x0,x1,x2,x3] gkl 3 x3=_
 have e1:grantV [x0,x1,x2,x3] ((3:Nat):Int) x3.scope x3.group=(2,1):=by rw [s3,g3];exact grantG4 h h2 hs hg he
 rw [openG,e1]
 show (bif decide (0<1)&&decide (x2.epoch=x3.epoch) then firstO x3.body (candsV [x] (keyV 4 gkl ((2:Nat):Int)) x2) else none)=_
 rw [he,e3,b3,mX 2 (by decide)]
 show firstO gkB (candsV [x] (some ⟨0,gkK.p,0⟩) x2)=_
 have e2:candsV [x] (some ⟨0,gkK.p,0⟩) x2=o.toList:=by
  rw [candsV,List.flatMap_cons,List.flatMap_nil,ZD,candX,hw]
  show (bif true&&rightK (ofK x)&&decide ((ofK x).p=gkK.p) then _ else [])++List.filterMap (unwrapO x) [gkW]=_
  rw [Zd hp,Zi,Zf,List.nil_append,List.filterMap_cons,hx]
  cases o<;>rfl
 rw [e2]
 cases o with
 | none=>rfl
 | some k =>
  rw [Qh,firstO,List.findSome?_cons]
  show _=boxO k gkB
  cases boxO k gkB<;>rfl
theorem uJ:ofK ((672555664544012153:Nat):Int)=gkF:=by
 rw [eu (by decide) (by decide),ZP,va]
 rfl
theorem uH:(ofK ((672555664544012153:Nat):Int)).p≠gkK.p:=by
 rw [uJ]
 decide +kernel
theorem uI:(ofK 7).p≠gkK.p:=by
 rw [eu (by decide) (by decide)]
 have e1:(7:Int).toNat=7:=rfl
 have e:(expV 37 7==2287805972299522828)=false:=by rw [dO];decide +kernel
 rw [e1]
 intro h
 have h':((expV 37 7:Nat):Int)=((2287805972299522828:Nat):Int):=h
 rw [Int.ofNat.inj h',Zv] at e
 cases e
end Go.Proofs.YtamfbppnlomgfaaGreatDoor
namespace Go.Proofs.YtamfbppnlomgfaaGreatDoor.Sy
open Go Go.RowKit
def Itx {α:Type} (P:Program) (g:FuncId) (lb:List Value) (X1:World→Prop) (enc:α→List Value) (inf:Bool) (xs:List α):Prop :=
 ∀ (l:Nat) (X:World→Prop) (Rs Rx:List α→List Xi→Prop),(∀ w,X w→X1 w) →
  (∀ pre x suf R,xs=pre++x::suf→Rs pre R→YCt P l (enc x) R X fun v R' _=>(v=.bool true∧Rs (pre++[x]) R')∨(v=.bool false∧Rx (pre++[x]) R')) →
  (inf=true→∀ R,¬ Rs xs R) →
  ∀ R0,Rs [] R0→Ct P g (.func (.yield l) #[] #[]::lb).toArray R0 X fun _ R' _=>Rs xs R'∨∃ pre x suf,xs=pre++x::suf∧Rx (pre++[x]) R'
section
variable {P:Program} {N:Nat} {av bor:List Nat} {w0:World} {E:Env} {loc:List Xi} {X:World→Prop} {K:Exit→St→Prop}
def rnd {α:Type} (Inv:List α→List Xi→Prop) (Ix:Code→List α→List Xi→Prop) (xs:List α) (e:Exit) (st:St):Prop :=
 match e with
 | .normal=>∃ loc2,loc2.Sublist st.loc∧Inv xs loc2
 | .ret=>∃ loc2,loc2.Sublist st.loc∧Ix .ret xs loc2
 | .exit id=>∃ loc2,loc2.Sublist st.loc∧Ix (.exit id) xs loc2
 | _=>False
theorem j3 {α:Type} {g:Operand} {ps:List Tmp} {assign body:Code} {gf:Nat} {lb:List Value} {enc:α→List Value} {inf:Bool} {xs:List α} {X1:World→Prop}
  (hg:ev E g=some (.func (.func gf) #[] lb.toArray):=by rfl) (hf:Xz P gf:=by first|infer_instance|exact ⟨ac⟩) (hit:Itx P gf lb X1 enc inf xs) (hX:∀ w,X w→X1 w:=by (first|exact fun _ _=>trivial|exact fun _ h=>h|exact fun _ h=>h.1|exact fun _ h=>h.2)) (hps:∀ x,(enc x).length=ps.length) (hpn:ps.all (fun p=>Nat.blt p N)=true:=by rfl)
  (Inv:List α→List Xi→Prop) (Ix:Code→List α→List Xi→Prop) (h0:Inv [] loc) (hinf:inf=true→∀ R,¬ Inv xs R)
  (hround:∀ l pre x suf loc1,xs=pre++x::suf→Inv pre loc1→∀ av bor w0,Cr P N av bor w0 l assign ⟨putEs E ps (enc x),loc1,X⟩ (only fun st1=>∀ av bor w0,Cr P N av bor w0 l body st1 (rnd Inv Ix (pre++[x]))))
  (hdone:∀ loc1,Inv xs loc1→K .normal ⟨E,loc1,X⟩)
  (hleft:∀ c pre x suf loc1,xs=pre++x::suf→Ix c (pre++[x]) loc1→Cw P N av bor w0 c ⟨E,loc1,X⟩ K):Cw P N av bor w0 (.rangeFunc g ps.toArray assign body) ⟨E,loc,X⟩ K:=Cw.mk fun a w ok=>by
 refine (wpIn_wide (n:=0)).1 (wpIn_rangeFunc fun fn _=>?_)
 obtain ⟨rec,hrec⟩:∃ rec:LoopState→Option Code→Loop,rec=fun st pe=>{ state:=st,pending:=pe,fn,tmps:=a.tmps,params:=ps.toArray,assign,body,defers:=w.heap.size }:=⟨_,rfl⟩
 have G0:Xn av bor w0 (loc++mres a.defers) X w:=ok.gamM
 have G1:=(G0.new (.deferred (some [])) (fun w2=>w2.heap[w.heap.size]?=some (.deferred (some []))) fun _ h=>h).new (.loop (rec .ready none)) (fun w2=>w2.heap[(w.alloc (.deferred (some []))).heap.size]?=some (.loop (rec .ready none))) fun _ h=>h
 rw [World.size_alloc] at G1
 obtain ⟨W1,hW1⟩:∃ W1,(w.alloc (.deferred (some []))).alloc (.loop (rec .ready none))=W1:=⟨_,rfl⟩
 rw [hW1] at G1
 obtain ⟨l,hl⟩:∃ l,w.heap.size+1=l:=⟨_,rfl⟩
 obtain ⟨mk,hmk⟩:∃ mk:Deferred,mk={ target:=.collected w.heap.size,args:=#[] }:=⟨_,rfl⟩
 have hM:mres (mk::a.defers)=⟨[w.heap.size],fun w2=>w2.heap[w.heap.size]?=some (.deferred (some []))⟩::mres a.defers:=by subst hmk;rfl
 have G2:Xn av bor w0 ((lres l (rec .ready none)::loc)++mres (mk::a.defers)) X W1:=by
  rw [hM]
  refine G1.perm ?_
  subst hl
  exact List.Perm.cons _ List.perm_middle.symm
 refine ⟨l,[mk],W1,{ target:=.fn (.func gf) lb.toArray,args:=#[.func (.yield l) #[] #[]] },W1,gf,#[.func (.yield l) #[] #[]]++lb.toArray,W1,?_,?_,fun _ _=>trivial,?_,(fun h=>by cases h),?_⟩
 · rw [←hW1,hrec,←hl,hmk,Fence.wide_round]
   exact run_enterLoop_outer _ _ _ _ _
 · simp only [resolve,ok.eval (st:=⟨E,loc,X⟩) hg]
   simp [go_sem]
 · have eg:∀ args w,(callFunc gf args).run P w=.ok (.enter gf args) w:=fun args w=>gE args w
   simp [invoke,go_sem,eg]
 · -- the function that is ranged over
   have hct:=hit l X (fun pre R=>∃ loc1,Inv pre loc1∧R=lres l (rec .ready none)::loc1) (fun pre R=>∃ c loc1,Ix c pre loc1∧R=lres l (rec .done (some c))::loc1) hX ?_ (fun hi R ⟨loc1,hI,_⟩=>hinf hi loc1 hI) (lres l (rec .ready none)::loc) ⟨loc,h0,rfl⟩
   · have e2:(.func (.yield l) #[] #[]::lb:List Value).toArray=#[.func (.yield l) #[] #[]]++lb.toArray:=by simp
     rw [e2] at hct
     refine (callsIn_wide (n:=0)).2 ((hct.run W1 _ G2.start).mono fun e w' ⟨v,R',X',he,hE,G'⟩=>?_)
     subst he
     have hend:∀ (s:LoopState) (pe:Option Code) (loc1:List Xi),s≠.busy→R'=lres l (rec s pe)::loc1→(Instr.endLoop l).run P w'=.ok pe (w'.putObj l (.loop { rec s pe with state:=.exhausted }))∧Xn av bor w0 (loc1++mres (mk::a.defers)) X (w'.putObj l (.loop { rec s pe with state:=.exhausted })):=fun s pe loc1 hs hR=>by
      subst hR
      have G3:=G2.frame G'
      have hl3:w'.heap[l]?=some (.loop (rec s pe)):=(G3.here (lres l (rec s pe)) (by simp)).now
      refine ⟨by have:=run_endLoop (P:=P) hl3 (by rw [hrec];exact hs);rw [hrec] at this ⊢;exact this,?_⟩
      have G4:=G3.turn (w':=w'.putObj l (.loop { rec s pe with state:=.exhausted })) (loc':=⟨[l],fun _=>True⟩::(loc1++mres (mk::a.defers))) (At.here _) rfl rfl rfl (by simp [World.putObj]) (fun i hi=>World.putObj_heap_other hi) (fun _ _=>trivial)
      exact (G4.drop (List.sublist_cons_self _ _)).imp fun w h=>h.1
     rcases hE with ⟨loc1,hI,hR⟩|⟨pre,x,suf,hxs,c,loc1,hI,hR⟩
     · obtain ⟨h1,G5⟩:=hend .ready none loc1 (by simp) hR
       exact ⟨none,_,h1,⟨E,loc1,X⟩,hdone loc1 hI,ok.size,ok.env,G5⟩
     · obtain ⟨h1,G5⟩:=hend .done (some c) loc1 (by simp) hR
       refine ⟨some c,_,h1,?_⟩
       exact (wpIn_wide (n:=0)).2 ((hleft c pre x suf loc1 hxs hI).run _ _ ⟨ok.size,ok.env,G5⟩)
   · -- one round
     rintro pre x suf R hxs ⟨loc1,hI,rfl⟩ n W av' G
     have hlW:W.heap[l]?=some (.loop (rec .ready none)):=(G.here (lres l (rec .ready none)) (by simp)).now
     have hy:=run_yield (P:=P) (args:=(enc x).toArray) hlW (by rw [hrec];simpa using hps x)
     have hrp:∀ s q,(rec s q).params=ps.toArray∧(rec s q).tmps=a.tmps∧(rec s q).assign=assign∧(rec s q).body=body∧(rec s q).state=s:=fun s q=>by subst hrec;exact ⟨rfl,rfl,rfl,rfl,rfl⟩
     refine ⟨_,_,_,_,hy,roundIn_of_wpIn trivial ?_⟩
     rw [(hrp _ _).1,(hrp _ _).2.1,(hrp _ _).2.2.1,(hrp _ _).2.2.2.1]
     have Ga:Xn av' (fps (lres l (rec .ready none)::loc1)) W (loc1++[lres l (rec .ready none)]) X W:=G.perm (List.perm_append_singleton _ _).symm
     have hE:=l5 (N:=N) ps (enc x) E a.tmps hpn ok.size ok.env
     have ok0:Ok N (av'++fps [lres l (rec .ready none)]) (fps loc1) W ⟨putEs E ps (enc x),loc1,X⟩ { tmps:=(ps.zip (enc x)).foldl (fun t (p:Tmp×Value)=>t.setIfInBounds p.1 p.2) a.tmps,defers:=[] } W:=⟨hE.1,hE.2,by simpa [mres] using Ga.start⟩
     refine wpIn_mono (F:=fen (some l)) (Q:=post N (av'++fps [lres l (rec .ready none)]) (fps loc1) W (only fun st1=>∀ av bor w0,Cr P N av bor w0 l body st1 (rnd Inv Ix (pre++[x])))) ?_ ?_
     · have:=(hround l pre x suf loc1 hxs hI (av'++fps [lres l (rec .ready none)]) (fps loc1) W).run n _ _ ok0
       simpa using this
     · intro e a1 w1 q
       cases e with
       | panic _=>exact q
       | outgrown=>exact q
       | exit _=>obtain ⟨_,h,_⟩:=q;exact h.elim
       | goto _=>obtain ⟨_,h,_⟩:=q;exact h.elim
       | ret=>obtain ⟨_,h,_⟩:=q;exact h.elim
       | normal =>
        obtain ⟨st1,h1,ok1⟩:=q
        have Gb:=Ga.frame ok1.gamM
        have hl1:w1.heap[l]?=some (.loop (rec .ready none)):=(Gb.here (lres l (rec .ready none)) (by simp)).now
        refine ⟨_,run_beginRound hl1 (hrp _ _).2.2.2.2,?_⟩
        have hb:{ rec .ready none with state:=.busy }=rec .busy none:=by rw [hrec]
        rw [hb]
        have Gc:=Gb.turn (w':=w1.putObj l (.loop (rec .busy none))) (loc':=(st1.loc++mres a1.defers)++[lres l (rec .busy none)]) (kX _) rfl rfl rfl (by simp [World.putObj]) (fun i hi=>World.putObj_heap_other hi)
         (fun w2 h2=>by rw [h2];exact World.putObj_heap_same (Qv.1 hl1).1)
        have ok1':=(h1 (av'++fps [lres l (rec .busy none)]) (fps (st1.loc++mres a1.defers)) (w1.putObj l (.loop (rec .busy none)))).run n a1 _ ⟨ok1.size,ok1.env,Gc.start.imp fun _ h=>h.2⟩
        have fin:∀ (jump:Option Code) (st2:St) (a2:Act) (w3:World) (loc2:List Xi),Ok N (av'++fps [lres l (rec .busy none)]) (fps (st1.loc++mres a1.defers)) (w1.putObj l (.loop (rec .busy none))) st2 a2 w3→loc2.Sublist st2.loc →
          ∃ w4,(Instr.endRound l jump).run P w3=.ok (.bool jump.isNone) w4∧∃ X',Xn av' (fps (lres l (rec .ready none)::loc1)) W (lres l (rec (if jump.isNone then .ready else .done) jump)::loc2) X' w4:=fun jump st2 a2 w3 loc2 ok2 hs2=>by
         have Gd:=Gc.frame ok2.gamM
         have hl3:w3.heap[l]?=some (.loop (rec .busy none)):=(Gd.here (lres l (rec .busy none)) (by simp)).now
         have he:{ rec .busy none with state:=if jump.isNone then .ready else .done,pending:=jump }=rec (if jump.isNone then .ready else .done) jump:=by rw [hrec]
         have hr:=run_endRound (P:=P) jump hl3
         rw [he] at hr
         have Ge:=Gd.turn (w':=w3.putObj l (.loop (rec (if jump.isNone then .ready else .done) jump))) (loc':=(st2.loc++mres a2.defers)++[lres l (rec (if jump.isNone then .ready else .done) jump)]) (kX _) rfl rfl rfl (by simp [World.putObj]) (fun i hi=>World.putObj_heap_other hi)
          (fun w2 h2=>by rw [h2];exact World.putObj_heap_same (Qv.1 hl3).1)
         have Gf:=(Ge.drop (loc':=loc2++[lres l (rec (if jump.isNone then .ready else .done) jump)]) ((hs2.trans (Qo _ _)).append_right _)).perm (List.perm_append_singleton _ _)
         exact ⟨_,hr,_,Gf⟩
        refine wpIn_mono ok1' ?_
        intro e a2 w3 q
        cases e with
        | panic _=>exact q
        | outgrown=>exact q
        | goto _=>obtain ⟨_,h,_⟩:=q;exact h.elim
        | exit id =>
         obtain ⟨st2,⟨loc2,hs2,h2⟩,ok2⟩:=q
         obtain ⟨w4,hr,X',Gf⟩:=fin (some (.exit id)) st2 a2 w3 loc2 ok2 hs2
         exact ⟨_,_,hr,.bool false,_,X',rfl,.inr ⟨rfl,_,loc2,h2,rfl⟩,Gf⟩
        | ret =>
         obtain ⟨st2,⟨loc2,hs2,h2⟩,ok2⟩:=q
         obtain ⟨w4,hr,X',Gf⟩:=fin (some .ret) st2 a2 w3 loc2 ok2 hs2
         exact ⟨_,_,hr,.bool false,_,X',rfl,.inr ⟨rfl,_,loc2,h2,rfl⟩,Gf⟩
        | normal =>
         obtain ⟨st2,⟨loc2,hs2,h2⟩,ok2⟩:=q
         obtain ⟨w4,hr,X',Gf⟩:=fin none st2 a2 w3 loc2 ok2 hs2
         exact ⟨_,_,hr,.bool true,_,X',rfl,.inl ⟨rfl,loc2,h2,rfl⟩,Gf⟩
end
namespace Rd
section
variable {P:Program} {N:Nat} {av bor:List Nat} {w0:World} {E:Env} {loc loc0:List Xi} {X X0:World→Prop} {K:Exit→St→Prop} {q:Nat} {l:List Oper}
theorem aw_draw {id:Nat} (pl:Pn) (loc0:List Xi) (X0:World→Prop) (hm:P.follows .mixedOrders=true:=by kernel_rfl) (hno:l.all (fun o=>!isDefer o.op)=true:=by rfl) (h:Dw P N av bor w0 loc0 X0 l l.length [] pl ⟨E,loc,X⟩ (K .normal)) :
  Cr P N av bor w0 q (.region id l.toArray true) ⟨E,loc,X⟩ K:=iv loc0 X0 hm hno h.run
end
end Rd
theorem uF {P:Program} {N:Nat} {av bor:List Nat} {w0:World} {ops:Array Oper} {rest:List Oper} {k:St→Prop} {st st':St} (ht:∀ a w,Ok N av bor w0 st a w→Ok N av bor w0 st' a w) (h:Sv P N av bor w0 ops rest st' k):Sv P N av bor w0 ops rest st k:=fun n a w ok=>h n a w (ht a w ok)
theorem nC {P:Program} {N:Nat} {av bor:List Nat} {w0:World} {ops:Array Oper} {rest:List Oper} {k:St→Prop} {E:Env} {loc l:List Xi} {X:World→Prop} (hs:loc.Perm l) (h:Sv P N av bor w0 ops rest ⟨E,l,X⟩ k):Sv P N av bor w0 ops rest ⟨E,loc,X⟩ k:=uF (fun _ _ ok=>ok.via fun M G=>G.perm (hs.append_right M)) h
section
variable {P:Program} {N:Nat} {av bor:List Nat} {w0:World} {ops:Array Oper} {rest:List Oper} {k:St→Prop} {E:Env} {loc:List Xi} {X:World→Prop}
variable {ty:TypeId} {pos:String} {af:Array Edge} {g:Option (Nat×Bool)} {bb want:Bool}
theorem qt {n c:Nat} {t e size bytes:Nat} [hs:Xu P t e size bytes] {z:Value} [hz:Xl P e z] {x y:Operand} (h:∀ q,Sw P N av bor w0 ops rest ⟨(n,.slice (some ⟨q,0,none⟩) 0 c)::E,orow e size (.slice (some ⟨q,0,none⟩) 0 c) 0 []::loc,X⟩ k) (hx:ev E x=some (.int .i64 0):=by rfl) (hy:ev E y=some (.int .i64 (c:Int)):=by rfl) (hm:bytes*c≤281474976710656) (hm2:c≤281474976710656) (hg:gdB ops E g=some (bb,want):=by rfl) (hb:bb=want:=by exact ay) (hd:Nat.blt n N=true:=by rfl) :
  Sw P N av bor w0 ops (⟨some n,.makeSlice t x y,ty,pos,af,g⟩::rest) ⟨E,loc,X⟩ k:=Sw.mk fun a w ok=>by
 have hd':inB N (some n)=true:=by have h1:n<N:=Zt hd;simpa [inB] using h1
 obtain ⟨ht,inf,hi,hi1,hi2⟩:=aY hs.out
 have hz1:inf.zero=some z:=by have:=hz.out;simpa [zeroOf,hi] using this
 have hby:(inf.bytes:Int)*(c:Int)≤281474976710656:=by
  have h:((inf.bytes*c:Nat):Int)≤281474976710656:=by rw [hi2];omega
  rwa [Int.natCast_mul] at h
 have hr:=run_make (P:=P) w t e inf z ht hi hz1 .i64 .i64 0 (c:Int) (Int.le_refl _) ab hby ab
 simp only [Int.toNat_zero,ZP] at hr
 simp only [wpList]
 rw [aM ok (o:=⟨some n,.makeSlice t x y,ty,pos,af,g⟩) hg]
 subst hb
 simp only [Zv,ZF]
 left
 unfold Oper.wp
 have hr':(execOp a.eval ⟨some n,.makeSlice t x y,ty,pos,af,g⟩).run P w=.ok (.value (.slice (some ⟨w.heap.size,0,none⟩) 0 c)) (w.alloc (.cells (madeCells z.cells (c*inf.size)) e)):=by
  simp [execOp,ok.eval (st:=⟨E,loc,X⟩) hx,ok.eval (st:=⟨E,loc,X⟩) hy,hr]
 rw [hr']
 have ok':Ok N av bor w0 ⟨E,orow e size (.slice (some ⟨w.heap.size,0,none⟩) 0 c) 0 []::loc,X⟩ a (w.alloc (.cells (madeCells z.cells (c*inf.size)) e)):=(ok.via fun M G=>G.new (.cells (madeCells z.cells (c*inf.size)) e) (fun w2=>ORow w2 e size (.slice (some ⟨w.heap.size,0,none⟩) 0 c) 0 []) (fun w2 h=>⟨by simp,.inr ⟨w.heap.size,c,_,(0,0),rfl,h,ZU _,by simp only [maxLen];omega,by rw [size_madeCells,hi1],by simp,.inl rfl⟩⟩))
 exact (h _).run _ _ (bw (some n) _▸ok'.put hd' _)
end
section
variable {P:Program}
theorem bK {fn:Func} {N t u ty ty2:Nat} {s:St} {b b2 T T2:Nat} {v v2:Value} [hI:Xs P ty] [hI2:Xs P ty2] (hr:fn.results=#[.cell t ty,.cell u ty2]) (h:look s.env t=some (.pointer (some ⟨b,0,none⟩))) (h':look s.env u=some (.pointer (some ⟨b2,0,none⟩))) (hm:cel b T [v]∈s.loc) (hm2:cel b2 T2 [v2]∈s.loc) :
  Res1 P fn N s (.tuple #[v,v2]):=fun av bor w0 a w ok=>by
 have ht:=ok.env t _ h
 have hu:=ok.env u _ h'
 have c1:w.cell? ⟨b,0,none⟩=some v:=by rw [cell_of_row w b 0 _ _ _ (dc ok hm)];rfl
 have c2:w.cell? ⟨b2,0,none⟩=some v2:=by rw [cell_of_row w b2 0 _ _ _ (dc ok hm2)];rfl
 have l1:(loadVar ty ⟨b,0,none⟩).run P w=.ok v w:=by simp [loadVar,(aT hI.out w).1,c1]
 have l2:(loadVar ty2 ⟨b2,0,none⟩).run P w=.ok v2 w:=by simp [loadVar,(aT hI2.out w).1,c2]
 simp [results,hr,ht,hu,asAddr,l1,l2]
end
end Go.Proofs.YtamfbppnlomgfaaGreatDoor.Sy
namespace Go.Proofs.YtamfbppnlomgfaaGreatDoor
open Go Go.Proofs Sy Tryz
theorem fu:∀ l:List ByteArray,(cats (l.map textV)).size≤10*l.length+(l.map ByteArray.size).sum
 | []=>by simp [cats]
 | a::l=>by
  have h1:=fu l
  have h2:=aq a
  rw [ZR,cats,Zb,Zx,ZR,List.sum_cons]
  omega
def Fits40 (l:List ByteArray):Prop:=l.length≤1000∧(l.map ByteArray.size).sum≤1000000000000
theorem Fits40.le {l:List ByteArray} (h:Fits40 l):(listV l).size≤1099511627776:=by
 have h1:=fu l
 have h2:=h.1
 have h3:=h.2
 have h4:=ar (l.length:Nat)
 rw [listV,Zb]
 omega
theorem ej (l:List ByteArray):(sealH l).size=32:=dS _
theorem cV (b T n:Nat) (l:List ByteArray) (hn:n=l.length) (hl:Fits40 l):Pu prog 89 #[.slice (some ⟨b,0,none⟩) n n] (fun w=>(cel b T (l.map encB)).F w∧Xc w) (.string (sealH l)):=by
 refine ax func89 ntmps89 fun av bor w0=>?_
 subst hn
 have hm:l.length≤maxLen:=by have:=hl.1;simp only [maxLen];omega
 have hli:Pu prog 81 #[.slice (some ⟨b,0,none⟩) l.length l.length] (fun w=>Strs w ⟨some ⟨b,0,none⟩,l.length,l.length⟩ l) (.string (listV l)):=nR ⟨some ⟨b,0,none⟩,l.length,l.length⟩ l hl.le
 have hsh:=gy (listV l) hl.le
 repeat' (first|(refine ae (hc:=hli) (hX:=fun w h=>ll h.1 hm) ?_)|(refine ae (hc:=hsh) ?_)|refine gs ?_|(refine gp ?_ ?_<;>intro hx_ this)|fail)
 apply aa;apply ai;rfl;rfl
 rfl
def StBox (s:ByteArray) (b:Nat) (w:World):Prop:=w.heap[b]?=some (.cells [Value.string s].toArray 9 (0,0))
theorem StBox.cell {s:ByteArray} {b:Nat} {w:World} (h:StBox s b w):w.cell? ⟨b,0,none⟩=some (.string s):=by
 simp [World.cell?,show w.heap[b]?=_ from h]
theorem oN (key nonce:ByteArray):Mk prog 92 #[.string key,.string nonce] (fun _=>True) fun u X'=>∃ b1 b2,u=.func (.func 142) #[] #[.pointer (some ⟨b1,0,none⟩),.pointer (some ⟨b2,0,none⟩)]∧∀ w,X' w→StBox key b1 w∧StBox nonce b2 w:=by
 refine cF func92 ntmps92 fun av bor w0=>?_
 repeat' (first|refine gs ?_|refine gs1 fun _=>?_|(refine bV ?_)|(refine gp ?_ ?_<;>intro hx_ this)|fail)
 exact aa (ai rfl rfl) ⟨_,_,rfl,fun w h=>⟨h.2 _ (Zr _ aC),h.2 _ aC⟩⟩
def encY (key nonce:ByteArray) (i:Nat):List Value:=[.int .u8 ((strmB key nonce i).toNat:Int)]
structure StI (n m:Nat) (Rs:List Nat→List Xi→Prop) where
 k:Nat
 hk:m*k≤n
 R:List Xi
 hR:Rs (List.range (m*k)) R
structure StJ (n o:Nat) (Rs:List Nat→List Xi→Prop) where
 j:Nat
 hj:j≤32
 hk:o+j≤n
 R:List Xi
 hR:Rs (List.range (o+j)) R
theorem qK {n k:Nat} (h:k<n):∃ suf,List.range n=List.range k++k::suf:=by
 obtain ⟨d,rfl⟩:∃ d,n=k+1+d:=⟨n-(k+1),by omega⟩
 exact ⟨(List.range d).map (k+1+·),by rw [List.range_add,List.range_succ,Zy];rfl⟩
theorem si (key nonce:ByteArray) (k j:Nat) (hj:j<32):byteAt (sealH [⟨#[115,116,114,101,97,109]⟩,key,nonce,numV (k:Nat)]) j=((strmB key nonce (32*k+j)).toNat:Int):=by
 rw [strmB,show (32*k+j)/32=k by omega,show (32*k+j)%32=j by omega,byteAt,Array.getD_eq_getD_getElem?,Zl,Qc]
theorem mF (key nonce:ByteArray) (b1 b2 n:Nat) (hn:n≤1000000000) (hs:key.size+nonce.size≤1000000000):Itx prog 142 [.pointer (some ⟨b1,0,none⟩),.pointer (some ⟨b2,0,none⟩)] (fun w=>(StBox key b1 w∧StBox nonce b2 w)∧Xc w) (encY key nonce) true (List.range n):=by
 intro l X Rs Rx hX hY hinf R0 h0
 have hno:=hinf rfl
 refine eD func142 ntmps142 fun av bor w0=>?_
 refine md (st':=⟨[(1,.pointer (some ⟨b1,0,none⟩)),(2,.pointer (some ⟨b2,0,none⟩)),(0,.func (.yield l) #[] #[])],R0++[],X⟩) (by rw [ZD];exact ak aw (aj _) fun _ h=>h) ?_
 repeat' (first|refine gs ?_|refine gs1 fun _=>?_|(refine gp ?_ ?_<;>intro hx_ this)|fail)
 refine az (ι:=StI n 32 Rs) (fun i=>⟨[(0,.func (.yield l) #[] #[]),(1,.pointer (some ⟨b1,0,none⟩)),(2,.pointer (some ⟨b2,0,none⟩)),(4,.int .i64 i.k)],i.R++[],X⟩) (fun i=>n-32*i.k) ⟨0,ZU _,R0,h0⟩
  (ak aw (aj _) fun _ h=>h) fun i=>?_
 have hik:=i.hk
 have hn2:=ar (i.k:Nat)
 have hf:Fits40 [⟨#[115,116,114,101,97,109]⟩,key,nonce,numV (i.k:Nat)]:=⟨by show 4≤1000;decide,by
  have h5:(⟨#[115,116,114,101,97,109]⟩:ByteArray).size=6:=rfl
  simp only [ZR,List.map_nil,List.sum_cons,List.sum_nil]
  omega⟩
 have hnum:=bF (i.k:Nat) ab
 have hby:=si key nonce i.k
 have hhash:=fun b T:Nat=>cV b T 4 [⟨#[115,116,114,101,97,109]⟩,key,nonce,numV (i.k:Nat)] rfl hf
 have hBs:=ej [⟨#[115,116,114,101,97,109]⟩,key,nonce,numV (i.k:Nat)]
 generalize sealH [⟨#[115,116,114,101,97,109]⟩,key,nonce,numV (i.k:Nat)]=B at hby hhash hBs
 repeat' (first|refine gs ?_|refine gs1 fun _=>?_|(refine gp ?_ ?_<;>intro hx_ this)|fail)
 refine bc (ι:=Unit) (fun _=>⟨[(0,.func (.yield l) #[] #[]),(1,.pointer (some ⟨b1,0,none⟩)),(2,.pointer (some ⟨b2,0,none⟩)),(4,.int .i64 i.k),(5,.string B)],i.R++[],X⟩) ?_ fun _=>?_
 · (refine aJ ⟨[0,1,2],[(3,⟨[],[(4,⟨[],[(5,⟨[6],[]⟩)]⟩)]⟩)]⟩ (h:=?_))
   all_goals repeat' (first|(refine ae (hc:=hnum) ?_)|(refine db (hc:=hhash _ 9) (hX:=fun w h hr=>⟨hr _ aC,(hX w h).2⟩) ?_)|refine gd ?_|refine aH (hy:=by first|(apply nq;rfl;exact fun w h=>(hX w h).1.1.cell)|(apply nq;rfl;exact fun w h=>(hX w h).1.2.cell)) ?_|refine aE ?_ (h':=?_)|exact aF|refine gs1 fun _=>?_|(refine gq ?_ ?_<;>intro hx_ this)|fail)
   all_goals exact ⟨(),ak aw (ZS _ (aj _)) fun _ h=>h⟩
 repeat' (first|refine gs ?_|refine gs1 fun _=>?_|(refine gp ?_ ?_<;>intro hx_ this)|fail)
 refine az (ι:=StJ n (32*i.k) Rs) (fun s=>⟨[(0,.func (.yield l) #[] #[]),(1,.pointer (some ⟨b1,0,none⟩)),(2,.pointer (some ⟨b2,0,none⟩)),(4,.int .i64 i.k),(5,.string B),(16,.int .i64 (B.size:Nat)),(17,.int .i64 s.j)],s.R++[],X⟩) (fun s=>32-s.j) ⟨0,by omega,by omega,i.R,i.hR⟩
  (ak aw (aj _) fun _ h=>h) fun s=>?_
 have hsj:=s.hj
 have hsk:=s.hk
 have hlt:32*i.k+s.j<n:=by
  rcases Nat.lt_or_ge (32*i.k+s.j) n with h|h
  · exact h
  · exact absurd ((congrArg (fun q=>Rs (List.range q) s.R) (show n=32*i.k+s.j by omega)).mpr s.hR) (hno s.R)
 obtain ⟨suf,hsuf⟩:=qK hlt
 repeat' (first|(refine kQ ?_;refine mE (pre:=[_,_,_,_]) (rest:=[_,_]) rfl ?_)|refine gs ?_|refine gs1 fun _=>?_|(refine gp ?_ ?_<;>intro hx_ this)|fail)
 · have hj:s.j<32:=by omega
   have hb2:byteAt B (s.j:Int).toNat=((strmB key nonce (32*i.k+s.j)).toNat:Int):=hby s.j hj
   rw [hb2]
   refine ku (pre:=s.R) (fr:=[]) (args:=encY key nonce (32*i.k+s.j)) rfl rfl rfl rfl rfl (hY _ _ _ _ hsuf s.hR) (fun _ h=>h) fun v R' X' hv=>?_
   rcases hv with ⟨rfl,hR'⟩|⟨rfl,hR'⟩
   · refine dR rfl ?_
     repeat' (first|refine gs ?_|refine gs1 fun _=>?_|(refine gp ?_ ?_<;>intro hx_ this)|fail)
     exact ⟨⟨s.j+1,hj,hlt,R',by rw [←ZB,List.range_succ];exact hR'⟩,(by show 32-(s.j+1)<32-s.j;omega),ak aw (aj _) fun _ h=>h.1⟩
   · refine dR rfl ?_
     repeat' (first|refine gs ?_|refine gs1 fun _=>?_|(refine gp ?_ ?_<;>intro hx_ this)|fail)
     exact aa (aX rfl) (.inr ⟨_,_,suf,hsuf,by rw [ZD];exact hR'⟩)
 · have hj:s.j=32:=by omega
   exact ⟨⟨i.k+1,by omega,s.R,(congrArg (fun q=>Rs (List.range q) s.R) (show 32*(i.k+1)=32*i.k+s.j by omega)).mpr s.hR⟩,(by show n-32*(i.k+1)<n-32*i.k;omega),ak aw (aj _) fun _ h=>h⟩
theorem xor8 (a b:UInt8):bitsV .xor .u8 (a.toNat:Int) (b.toNat:Int)=((a ^^^ b).toNat:Int):=by
 have h1:a.toNat<256:=UInt8.toNat_lt a
 have h2:b.toNat<256:=UInt8.toNat_lt b
 show IntKind.u8.wrap ((((BitVec.ofInt 8 (a.toNat:Int)) ^^^ (BitVec.ofInt 8 (b.toNat:Int))).toNat:Nat):Int)=_
 have h3:a.toNat ^^^ b.toNat<2 ^ 8:=Nat.xor_lt_two_pow h1 h2
 rw [Qa,Qa,BitVec.toNat_xor,Qd,Qd,Zz (show a.toNat<2 ^ 8 from h1),Zz (show b.toNat<2 ^ 8 from h2),wrap8,Zz (show a.toNat ^^^ b.toNat<256 from h3),UInt8.toNat_xor]
theorem ml (s:ByteArray) (b:UInt8):bytesI (s.push b)=bytesI s++[(b.toNat:Int)]:=by
 simp [bytesI,ByteArray.push]
theorem pd (key nonce data:ByteArray) (k:Nat):u8s (bytesI (maskF key nonce data k))++[.int .u8 (bitsV .xor .u8 (byteAt data k) ((strmB key nonce k).toNat:Int))]=u8s (bytesI (maskF key nonce data (k+1))):=by
 have e:byteAt data k=((data.data.getD k 0).toNat:Int):=by rw [byteAt,Array.getD_eq_getD_getElem?,Zl,Qc]
 rw [maskF,ml,bp,e,xor8]
 rfl
def MaskR (key nonce data:ByteArray) (b5 b7:Nat) (k:Nat) (loc:List Xi):Prop:=∃ A q,loc=[cel b7 124 [.slice A k q],orow 5 1 (.slice A k q) k (u8s (bytesI (maskF key nonce data k))),cel b5 9 [.string data]]
theorem nM (key nonce data:ByteArray) (hs:key.size+nonce.size≤1000000000) (hd:data.size≤100000000):Pu prog 52 #[.string key,.string nonce,.string data] Xc (.string (maskV key nonce data)):=by
 refine ax func52 ntmps52 fun av bor w0=>?_
 by_cases h0:data.size=0
 · have hz:seqB data ⟨#[]⟩=true:=by rw [bt];exact Ze h0
   repeat' (first|refine aL ?_ (dd true rfl rfl hz)|refine gs ?_|refine gs1 fun _=>?_|(refine gp ?_ ?_<;>intro hx_ this)|fail)
   refine aa (ai rfl rfl) ?_
   rw [maskV,h0]
   rfl
 have hz:seqB data ⟨#[]⟩=false:=by rw [bt];exact Zd h0
 have hst:=oN key nonce
 repeat' (first|refine aL ?_ (dd false rfl rfl hz)|(refine aU (hc:=hst) fun v1 X1 h1=>?_;obtain ⟨b1,b2,rfl,hbx⟩:=h1)|refine gs ?_|refine gs1 fun _=>?_|(refine qt (c:=data.size) (hx:=by rfl) (hy:=by rfl) (hm:=by omega) (hm2:=by omega) (hg:=by rfl) (hb:=by rfl) (hd:=by rfl) fun q=>?_)|(refine gp ?_ ?_<;>intro hx_ this)|fail)
 rename_i b5 b7
 refine j3 (ps:=[17]) (inf:=true) (xs:=List.range data.size) (enc:=encY key nonce) (X1:=fun w=>(StBox key b1 w∧StBox nonce b2 w)∧Xc w) rfl ⟨ac⟩ (mF key nonce b1 b2 data.size ab hs) (fun w h=>⟨hbx w h.2,h.1⟩) (fun _=>rfl) rfl
  (fun pre loc1=>pre.length<data.size∧MaskR key nonce data b5 b7 pre.length loc1) (fun c pre loc1=>c=.exit 0∧pre.length=data.size∧MaskR key nonce data b5 b7 pre.length loc1)
  ⟨by show 0<data.size;omega,_,_,rfl⟩ (fun _ R h=>by have:=h.1;rw [List.length_range] at this;omega) ?_ (fun loc1 h=>absurd h.1 (by rw [List.length_range];omega)) ?_
 · rintro lo pre x suf loc1 hsp ⟨hpl,A,q,rfl⟩ av bor w0
   have hx:x=pre.length:=by
    have h1:(List.range data.size)[pre.length]?=some x:=by rw [hsp,List.getElem?_append_right (ZN _),Nat.sub_self];rfl
    rw [List.getElem?_range hpl] at h1
    exact (Option.some.inj h1).symm
   subst hx
   have hnx:u8s (bytesI (maskF key nonce data pre.length))++[.int .u8 (bitsV .xor .u8 (byteAt data (pre.length:Int).toNat) ((strmB key nonce pre.length).toNat:Int))]=u8s (bytesI (maskF key nonce data (pre.length+1))):=pd key nonce data pre.length
   have hlen:(pre++[pre.length]).length=pre.length+1:=by simp
   repeat' (first|apply cD|apply Rd.QA|refine Rd.QB (h:=?_)|refine cB ?_|refine bx ?_|refine dv ?_|refine be ?_|refine da ?_|refine cA ?_|refine cw ?_|refine cZ ?_|refine bO fun _=>?_|refine d9 fun _=>?_|refine dK fun _=>?_|refine bX ?_|refine bf ?_|refine Rd.QE (ht:=?_)|refine Rd.QF (hf:=?_)|apply Rd.QD|apply Rd.QC|apply Rd.cw_ret|apply Rd.cw_exit|refine ko ?_|refine iF ?_|refine sy_beql (h:=?_)|refine cC ?_|refine cv ?_)
   intro av bor w0
   repeat' (first|apply cD|apply Rd.QA|refine Rd.QB (h:=?_)|refine cB ?_|refine bx ?_|refine dv ?_|refine be ?_|refine da ?_|refine cA ?_|refine cw ?_|refine cZ ?_|refine bO fun _=>?_|refine d9 fun _=>?_|refine dK fun _=>?_|refine bX ?_|refine bf ?_|refine Rd.QE (ht:=?_)|refine Rd.QF (hf:=?_)|apply Rd.QD|apply Rd.QC|apply Rd.cw_ret|apply Rd.cw_exit|refine ko ?_|refine iF ?_|refine sy_beql (h:=?_)|refine cC ?_|refine cv ?_)
   (refine Rd.aw_draw ⟨[1,5],[(0,⟨[],[(2,⟨[3,4,6],[(7,⟨[],[(8,⟨[],[(9,⟨[],[]⟩)]⟩)]⟩)]⟩)]⟩),(2,⟨[3,4,6],[(0,⟨[],[(7,⟨[],[(8,⟨[],[(9,⟨[],[]⟩)]⟩)]⟩)]⟩),(7,⟨[],[(0,⟨[],[(8,⟨[],[(9,⟨[],[]⟩)]⟩)]⟩)]⟩)]⟩)]⟩ [cel b5 9 [.string data]] (fun w=>Xc w∧X1 w) (h:=?_))
   all_goals repeat' (first|refine gdz ?_|refine aH (hsub:=by exact aN) (hy:=by first|(apply j7;rfl;rfl;omega;omega)) ?_|refine aE ?_ (h':=?_)|exact aF|(refine ga ?_;refine aD (size:=1) (z:=.int .u8 0) (q:=1) rfl rfl rfl rfl (fun _=>At.there _ (At.there _ (At.here _))) (fun w G=>aR G aC rfl rfl 1) ab (by simp only [maxLen];omega) rfl ?_ rfl ?_;(first|with_reducible rfl|with_reducible assumption);intro A3 c3)|refine gs1 fun _=>?_|(refine gq ?_ ?_<;>intro hx_ this)|fail)
   all_goals
    rw [hnx]
    repeat' (first|apply cD|apply Rd.QA|refine Rd.QB (h:=?_)|refine cB ?_|refine bx ?_|refine dv ?_|refine be ?_|refine da ?_|refine cA ?_|refine cw ?_|refine cZ ?_|refine bO fun _=>?_|refine d9 fun _=>?_|refine dK fun _=>?_|refine bX ?_|refine bf ?_|refine Rd.QE (ht:=?_)|refine Rd.QF (hf:=?_)|apply Rd.QD|apply Rd.QC|apply Rd.cw_ret|apply Rd.cw_exit|refine ko ?_|refine iF ?_|refine sy_beql (h:=?_)|refine cC ?_|refine cv ?_|(refine Rd.cw_cond (ht:=?_) (hf:=?_);all_goals (intro hx_;first|have:=bC hx_|have:=cq hx_|skip)))
    all_goals first
     | exact ⟨_,List.sublist_cons_self _ _,rfl,by rw [hlen];omega,A3,c3,by rw [hlen];rfl⟩
     | exact ⟨_,List.sublist_cons_self _ _,by rw [hlen];omega,A3,c3,by rw [hlen];rfl⟩
 · rintro c pre x suf loc1 hsp ⟨rfl,hpl,A,q,rfl⟩
   refine cw_exit ?_
   repeat' (first|refine gs ?_|refine gs1 fun _=>?_|(refine gp ?_ ?_<;>intro hx_ this)|fail)
   refine fE (hm:=Zr _ aC) ?_
   repeat' (first|refine gs ?_|refine gs1 fun _=>?_|(refine gp ?_ ?_<;>intro hx_ this)|fail)
   refine aa (ai rfl rfl) ?_
   rw [dL,hpl]
   rfl
def Xk.zero:Xk:=⟨0,0,Xo.zero⟩
def Xk.v (w:Xk):Value:=.agg w.cells.toArray
theorem fits4 {a b c d:ByteArray} (h:a.size+b.size+c.size+d.size≤1000000000):Fits40 [a,b,c,d]:=⟨by show 4≤1000;decide,by
 simp only [ZR,List.map_nil,List.sum_cons,List.sum_nil]
 omega⟩
theorem fits3 {a b c:ByteArray} (h:a.size+b.size+c.size≤1000000000):Fits40 [a,b,c]:=⟨by show 3≤1000;decide,by
 simp only [ZR,List.map_nil,List.sum_cons,List.sum_nil]
 omega⟩
theorem fits2w {a b:ByteArray} (h:a.size+b.size≤1000000000):Fits40 [a,b]:=⟨by show 2≤1000;decide,by
 simp only [ZR,List.map_nil,List.sum_cons,List.sum_nil]
 omega⟩
theorem qn (key nonce data:ByteArray) (hs:key.size+nonce.size+data.size≤100000000):Pu prog 51 #[.string key,.string nonce,.string data] Xc (.string (tagV key nonce data)):=by
 refine ax func51 ntmps51 fun av bor w0=>?_
 have h5:(⟨#[116,97,103]⟩:ByteArray).size=3:=rfl
 have hh:=fun b T:Nat=>cV b T 4 [⟨#[116,97,103]⟩,key,nonce,data] rfl (fits4 ab)
 have hsz:=ej [⟨#[116,97,103]⟩,key,nonce,data]
 rw [tagV]
 generalize sealH [⟨#[116,97,103]⟩,key,nonce,data]=B at *
 repeat' (first|(refine db (hc:=hh _ 9) (hX:=fun w h hr=>⟨hr _ aC,h⟩) ?_)|refine gs ?_|refine gs1 fun _=>?_|(refine nA (h1:=by omega) ?_)|(refine gp ?_ ?_<;>intro hx_ this)|fail)
 apply aa;apply ai;rfl;rfl
 rfl
theorem iW (key nonce data:ByteArray):(maskV key nonce data).size=data.size:=iX _ _ _ _
theorem nE (key nonce plain:ByteArray) (hs:key.size+nonce.size+plain.size≤100000000):Pu prog 43 #[.string key,.string nonce,.string plain] Xc (sealV key nonce plain).v:=by
 refine ax func43 ntmps43 fun av bor w0=>?_
 have hm:=nM key nonce plain ab ab
 have ht:=qn key nonce (maskV key nonce plain) (by rw [iW];omega)
 rw [sealV]
 generalize maskV key nonce plain=M at *
 generalize tagV key nonce M=T at *
 repeat' (first|(refine ae (hc:=hm) ?_)|(refine ae (hc:=ht) ?_)|refine gs ?_|refine gs1 fun _=>?_|(refine aI (cs:=Xo.cells ⟨nonce,M,T⟩) (hf:=by rfl) ?_)|(refine gp ?_ ?_<;>intro hx_ this)|fail)
 exact aa (aP rfl rfl aB (by rfl)) rfl
def strO (o:Option ByteArray):Value:=.tuple #[.string (o.getD ⟨#[]⟩),.bool o.isSome]
theorem gU (key:ByteArray) (b:Xo) (hs:key.size+b.nonce.size+b.data.size≤100000000):Pu prog 20 #[.string key,b.v] Xc (strO (boxO key b)):=by
 refine ax func20 ntmps20 fun av bor w0=>?_
 have hm:=nM key b.nonce b.data ab ab
 have ht:=qn key b.nonce b.data ab
 unfold boxO
 generalize maskV key b.nonce b.data=M at *
 generalize tagV key b.nonce b.data=T at *
 repeat' (first|refine gs ?_|refine gs1 fun _=>?_|(refine gp ?_ ?_<;>intro hx_ this)|fail)
 rename_i bb
 cases he:seqB b.tag T with
 | true =>
  refine bc (ι:=Unit) (fun _=>⟨[(0,.string key),(3,.pointer (some ⟨bb,0,none⟩)),(14,.bool false)],[cel bb 31 b.cells],Xc⟩) ?_ fun _=>?_
  · (refine aJ ⟨[0,1,2,3,4,5,6],[(7,⟨[8],[]⟩)]⟩ (h:=?_))
    all_goals repeat' (first|refine aH (hy:=by first|(apply dX false;rfl;rfl;rw [he];rfl)) ?_|(refine ae (hc:=ht) ?_)|refine gd ?_|refine aE ?_ (h':=?_)|exact aF|refine gs1 fun _=>?_|(refine gq ?_ ?_<;>intro hx_ this)|fail)
    all_goals exact ⟨(),ak aw (aj _) fun _ h=>h⟩
  repeat' (first|(refine ae (hc:=hm) ?_)|refine gs ?_|refine gs1 fun _=>?_|(refine gp ?_ ?_<;>intro hx_ this)|fail)
  exact aa (bg rfl rfl rfl) rfl
 | false =>
  refine bc (ι:=Unit) (fun _=>⟨[(0,.string key),(3,.pointer (some ⟨bb,0,none⟩)),(14,.bool true)],[cel bb 31 b.cells],Xc⟩) ?_ fun _=>?_
  · (refine aJ ⟨[0,1,2,3,4,5,6],[(7,⟨[8],[]⟩)]⟩ (h:=?_))
    all_goals repeat' (first|refine aH (hy:=by first|(apply dX true;rfl;rfl;rw [he];rfl)) ?_|(refine ae (hc:=ht) ?_)|refine gd ?_|refine aE ?_ (h':=?_)|exact aF|refine gs1 fun _=>?_|(refine gq ?_ ?_<;>intro hx_ this)|fail)
    all_goals exact ⟨(),ak aw (aj _) fun _ h=>h⟩
  repeat' (first|refine gs ?_|refine gs1 fun _=>?_|(refine gp ?_ ?_<;>intro hx_ this)|fail)
  exact aa (bg rfl rfl rfl) rfl
theorem lP (n:Int):Pu prog 88 #[.int .i64 n] (fun _=>True) (.bool (isPubB n)):=by
 refine ax func88 ntmps88 fun av bor w0=>?_
 repeat' (first|refine gs ?_|(refine gp ?_ ?_<;>intro hx_ this)|fail)
 (all_goals (apply aa;apply ai;rfl;rfl));all_goals first|rfl|(simp only [isPubB, *,Za,Zg,Zf];done)|(simp_all [isPubB];done)
theorem ra (n:Int):Pu prog 91 #[.int .i64 n] (fun _=>True) (.bool (isSecB n)):=by
 refine ax func91 ntmps91 fun av bor w0=>?_
 repeat' (first|refine gs ?_|(refine gp ?_ ?_<;>intro hx_ this)|fail)
 (all_goals (apply aa;apply ai;rfl;rfl));all_goals first|rfl|(simp only [isSecB, *,Za,Zg,Zf];done)|(simp_all [isSecB];done)
theorem iD (to eph:Int) (sh:Nat):(wkeyV to eph sh).size=32:=ej _
theorem nu (to eph:Int) (sh:Nat) (h1:to<9223372036854775808) (h2:eph<9223372036854775808) (h3:sh<9223372036854775808):Pu prog 90 #[.int .i64 to,.int .i64 eph,.int .i64 (sh:Int)] Xc (.string (wkeyV to eph sh)):=by
 refine ax func90 ntmps90 fun av bor w0=>?_
 have h5:(⟨#[119,114,97,112]⟩:ByteArray).size=4:=rfl
 have n1:=ar to
 have n2:=ar eph
 have n3:=ar (sh:Int)
 have hh:=fun b T:Nat=>cV b T 4 [⟨#[119,114,97,112]⟩,numV to,numV eph,numV (sh:Int)] rfl (fits4 ab)
 repeat' (first|refine ae (hc:=bF _ ab) ?_|(refine db (hc:=hh _ 9) (hX:=fun w h hr=>⟨hr _ aC,h⟩) ?_)|refine gs ?_|refine gs1 fun _=>?_|(refine gp ?_ ?_<;>intro hx_ this)|fail)
 apply aa;apply ai;rfl;rfl
 rfl
theorem fj (a e:Nat):expV a e<9223372036854775808:=Nat.lt_trans (kO a e) (by decide)
theorem rZ (pub:Int) (seed plain:ByteArray) (hs:seed.size+plain.size≤1000000):Pu prog 46 #[.int .i64 pub,.string seed,.string plain] Xc (.tuple #[((wrapOV pub seed plain).getD Xk.zero).v,.bool (wrapOV pub seed plain).isSome]):=by
 refine ax func46 ntmps46 fun av bor w0=>?_
 have hip:=lP pub
 cases hB:isPubB pub with
 | false =>
  rw [hB] at hip
  rw [show wrapOV pub seed plain=none from by rw [wrapOV,hB];rfl]
  repeat' (first|(refine ae (hc:=hip) ?_)|refine gs ?_|refine gs1 fun _=>?_|(refine aI (cs:=Xk.zero.cells) (hf:=by rfl) ?_)|(refine gp ?_ ?_<;>intro hx_ this)|fail)
  exact aa (bn rfl rfl rfl aB (by rfl)) rfl
 | true =>
  rw [hB] at hip
  have hB':=hB
  simp only [isPubB,Zm,Zs] at hB'
  obtain ⟨p,rfl⟩:=Int.eq_ofNat_of_zero_le (show 0≤pub by omega)
  have hO:wrapOV (p:Int) seed plain=some ⟨(p:Int),(expV 37 (ephN (p:Int) seed):Nat),sealV (wkeyV (p:Int) (expV 37 (ephN (p:Int) seed):Nat) (expV p (ephN (p:Int) seed))) (sealH [⟨#[110,111,110,99,101]⟩,wkeyV (p:Int) (expV 37 (ephN (p:Int) seed):Nat) (expV p (ephN (p:Int) seed))]) plain⟩:=by
   rw [wrapOV,hB]
   rfl
  have h5:(⟨#[101,112,104]⟩:ByteArray).size=3:=rfl
  have n1:=ar (p:Int)
  have hh:=fun b T:Nat=>cV b T 3 [⟨#[101,112,104]⟩,seed,numV (p:Int)] rfl (fits3 ab)
  have hN:=jB (sealH [⟨#[101,112,104]⟩,seed,numV (p:Int)])
  have hNl:=nI (sealH [⟨#[101,112,104]⟩,seed,numV (p:Int)])
  have hE:ephN (p:Int) seed=1+numN (nl (sealH [⟨#[101,112,104]⟩,seed,numV (p:Int)]))%2305843009213693949:=rfl
  rw [hO]
  generalize ephN (p:Int) seed=e at *
  generalize sealH [⟨#[101,112,104]⟩,seed,numV (p:Int)]=H at *
  generalize numN (nl H)=m at *
  have hmm:=Z1 m (show 2305843009213693949>0 by decide)
  have x1:=eT 37 e ab
  have x2:=eT p e ab
  have hl1:=fj 37 e
  have hl2:=fj p e
  generalize expV 37 e=E1 at *
  generalize expV p e=E2 at *
  have hwk:=nu (p:Int) (E1:Nat) E2 ab ab hl2
  have hws:=iD (p:Int) (E1:Nat) E2
  generalize wkeyV (p:Int) (E1:Nat) E2=W at *
  have h6:(⟨#[110,111,110,99,101]⟩:ByteArray).size=5:=rfl
  have hh2:=fun b T:Nat=>cV b T 2 [⟨#[110,111,110,99,101]⟩,W] rfl (fits2w ab)
  have hns:=ej [⟨#[110,111,110,99,101]⟩,W]
  generalize sealH [⟨#[110,111,110,99,101]⟩,W]=Nn at *
  have hse:=nE W Nn plain ab
  generalize sealV W Nn plain=B at *
  repeat' (first|refine eI (c:=((m%2305843009213693949:Nat):Int)) (hc:=(Int.ofNat_tmod m 2305843009213693949).symm) (hb:=by decide) ?_|(refine ae (hc:=hip) ?_)|refine ae (hc:=bF (p:Int) ab) ?_|(refine db (hc:=hh _ 9) (hX:=fun w h hr=>⟨hr _ aC,h⟩) ?_)|(refine ae (hc:=hN) ?_)|refine gs ?_|refine gs1 fun _=>?_|(refine gp ?_ ?_<;>intro hx_ this)|fail)
  rw [show (1:Int)+((m%2305843009213693949:Nat):Int)=((e:Nat):Int) from by omega]
  repeat' (first|(refine ae (hc:=x1) ?_)|(refine ae (hc:=x2) ?_)|(refine ae (hc:=hwk) ?_)|(refine db (hc:=hh2 _ 9) (hX:=fun w h hr=>⟨hr _ aC,h⟩) ?_)|(refine ae (hc:=hse) ?_)|refine gs ?_|refine gs1 fun _=>?_|(refine aI (cs:=Xk.cells ⟨(p:Int),(E1:Nat),B⟩) (hf:=by rfl) ?_)|(refine gp ?_ ?_<;>intro hx_ this)|fail)
  exact aa (bn rfl rfl rfl aB (by rfl)) rfl
theorem oE (x:Int) (w:Xk) (hs:w.box.nonce.size+w.box.data.size≤10000000) (ht:w.to<9223372036854775808):Pu prog 50 #[.int .i64 x,w.v] Xc (strO (unwrapO x w)):=by
 refine ax func50 ntmps50 fun av bor w0=>?_
 have hse:=ra x
 have hip:=lP w.eph
 cases h1:isSecB x with
 | false =>
  rw [h1] at hse
  rw [show unwrapO x w=none from by rw [unwrapO,h1];rfl]
  repeat' (first|refine gs ?_|refine gs1 fun _=>?_|(refine gp ?_ ?_<;>intro hx_ this)|fail)
  rename_i bb
  refine bc (ι:=Unit) (fun _=>⟨[(0,.int .i64 x),(3,.pointer (some ⟨bb,0,none⟩)),(21,.bool true)],[cel bb 47 w.cells],Xc⟩) ?_ fun _=>?_
  · (refine aJ ⟨[0],[(1,⟨[2,3,4,5,6],[(7,⟨[8,9,10,11,12],[(13,⟨[14,15],[]⟩)]⟩)]⟩)]⟩ (h:=?_))
    all_goals repeat' (first|(refine ae (hc:=hse) ?_)|refine gd ?_|refine aE ?_ (h':=?_)|exact aF|refine gs1 fun _=>?_|(refine gq ?_ ?_<;>intro hx_ this)|fail)
    all_goals exact ⟨(),ak aw (aj _) fun _ h=>h⟩
  repeat' (first|refine gs ?_|refine gs1 fun _=>?_|(refine gp ?_ ?_<;>intro hx_ this)|fail)
  exact aa (bg rfl rfl rfl) rfl
 | true =>
  rw [h1] at hse
  have h1':=h1
  simp only [isSecB,Zm,Zs] at h1'
  obtain ⟨n,rfl⟩:=Int.eq_ofNat_of_zero_le (show 0≤x by omega)
  have x1:=eT 37 n ab
  have hl1:=fj 37 n
  cases h2:decide (w.to=((expV 37 n:Nat):Int)) with
  | false =>
   have h2':=cq h2
   rw [show unwrapO (n:Int) w=none from by rw [unwrapO,h1,show (n:Int).toNat=n from rfl,h2];rfl]
   generalize expV 37 n=E1 at *
   repeat' (first|refine gs ?_|refine gs1 fun _=>?_|(refine gp ?_ ?_<;>intro hx_ this)|fail)
   rename_i bb
   refine bc (ι:=Unit) (fun _=>⟨[(0,.int .i64 (n:Int)),(3,.pointer (some ⟨bb,0,none⟩)),(21,.bool true)],[cel bb 47 w.cells],Xc⟩) ?_ fun _=>?_
   · (refine aJ ⟨[0],[(1,⟨[2,3,4,5,6],[(7,⟨[8,9,10,11,12],[(13,⟨[14,15],[]⟩)]⟩)]⟩)]⟩ (h:=?_))
     all_goals repeat' (first|refine aH (hy:=by first|(apply bG true;rfl;rfl;rw [Zd h2'];rfl)) ?_|(refine ae (hc:=hse) ?_)|(refine ae (hc:=x1) ?_)|refine gd ?_|refine aE ?_ (h':=?_)|exact aF|refine gs1 fun _=>?_|(refine gq ?_ ?_<;>intro hx_ this)|fail)
     all_goals exact ⟨(),ak aw (aj _) fun _ h=>h⟩
   repeat' (first|refine gs ?_|refine gs1 fun _=>?_|(refine gp ?_ ?_<;>intro hx_ this)|fail)
   exact aa (bg rfl rfl rfl) rfl
  | true =>
   have h2':=bC h2
   cases h3:isPubB w.eph with
   | false =>
    rw [h3] at hip
    rw [show unwrapO (n:Int) w=none from by rw [unwrapO,h1,show (n:Int).toNat=n from rfl,h2,h3];rfl]
    generalize expV 37 n=E1 at *
    repeat' (first|refine gs ?_|refine gs1 fun _=>?_|(refine gp ?_ ?_<;>intro hx_ this)|fail)
    rename_i bb
    refine bc (ι:=Unit) (fun _=>⟨[(0,.int .i64 (n:Int)),(3,.pointer (some ⟨bb,0,none⟩)),(21,.bool true)],[cel bb 47 w.cells],Xc⟩) ?_ fun _=>?_
    · (refine aJ ⟨[0],[(1,⟨[2,3,4,5,6],[(7,⟨[8,9,10,11,12],[(13,⟨[14,15],[]⟩)]⟩)]⟩)]⟩ (h:=?_))
      all_goals repeat' (first|refine aH (hy:=by first|(apply bG false;rfl;rfl;rw [Ze h2'];rfl)) ?_|(refine ae (hc:=hse) ?_)|(refine ae (hc:=x1) ?_)|(refine ae (hc:=hip) ?_)|refine gd ?_|refine aE ?_ (h':=?_)|exact aF|refine gs1 fun _=>?_|(refine gq ?_ ?_<;>intro hx_ this)|fail)
      all_goals exact ⟨(),ak aw (aj _) fun _ h=>h⟩
    repeat' (first|refine gs ?_|refine gs1 fun _=>?_|(refine gp ?_ ?_<;>intro hx_ this)|fail)
    exact aa (bg rfl rfl rfl) rfl
   | true =>
    rw [h3] at hip
    simp only [isPubB,Zm,Zs] at h3
    have h3b:isPubB w.eph=true:=by simp only [isPubB,Zm,Zs];exact h3
    rw [show unwrapO (n:Int) w=boxO (wkeyV w.to w.eph (expV w.eph.toNat n)) w.box from by rw [unwrapO,h1,show (n:Int).toNat=n from rfl,h2,h3b];rfl]
    generalize expV 37 n=E1 at *
    obtain ⟨p,hp⟩:=Int.eq_ofNat_of_zero_le (show 0≤w.eph by omega)
    have x2:=eT p n ab
    have hl2:=fj p n
    rw [show w.eph.toNat=p by omega]
    generalize expV p n=E2 at *
    have hwk:=nu w.to w.eph E2 ht ab hl2
    have hws:=iD w.to w.eph E2
    generalize wkeyV w.to w.eph E2=W at *
    have hop:=gU W w.box ab
    generalize boxO W w.box=o at *
    repeat' (first|refine gs ?_|refine gs1 fun _=>?_|(refine gp ?_ ?_<;>intro hx_ this)|fail)
    rename_i bb
    refine bc (ι:=Unit) (fun _=>⟨[(0,.int .i64 (n:Int)),(3,.pointer (some ⟨bb,0,none⟩)),(21,.bool false)],[cel bb 47 w.cells],Xc⟩) ?_ fun _=>?_
    · (refine aJ ⟨[0],[(1,⟨[2,3,4,5,6],[(7,⟨[8,9,10,11,12],[(13,⟨[14,15],[]⟩)]⟩)]⟩)]⟩ (h:=?_))
      all_goals repeat' (first|refine aH (hy:=by first|(apply bG false;rfl;rfl;rw [Ze h2'];rfl)) ?_|(refine ae (hc:=hse) ?_)|(refine ae (hc:=x1) ?_)|(refine ae (hc:=hip) ?_)|refine gd ?_|refine aE ?_ (h':=?_)|exact aF|refine gs1 fun _=>?_|(refine gq ?_ ?_<;>intro hx_ this)|fail)
      all_goals exact ⟨(),ak aw (aj _) fun _ h=>h⟩
    rw [←hp] at x2
    repeat' (first|refine gs ?_|refine gs1 fun _=>?_|(refine gp ?_ ?_<;>intro hx_ this)|fail)
    unfold strO at hop ⊢
    refine bc (ι:=Unit) (fun _=>⟨[(4,.string (o.getD ⟨#[]⟩)),(5,.bool o.isSome)],[],Xc⟩) ?_ fun _=>?_
    · (refine aJ ⟨[0,1,2,3,4,5,6,9,10],[(7,⟨[],[(8,⟨[],[(11,⟨[12,13,14,15],[]⟩)]⟩)]⟩)]⟩ (h:=?_))
      all_goals repeat' (first|(refine ae (hc:=x2) ?_)|(refine ae (hc:=hwk) ?_)|(refine ae (hc:=hop) ?_)|refine gd ?_|refine aH (hy:=by first|(apply bS;rfl;(repeat (first|exact aC|apply Zr));rfl;rfl)) ?_|refine aE ?_ (h':=?_)|exact aF|refine gs1 fun _=>?_|(refine gq ?_ ?_<;>intro hx_ this)|fail)
      all_goals exact ⟨(),ak aw (Zq _) fun _ h=>h⟩
    repeat' (first|refine gs ?_|refine gs1 fun _=>?_|(refine gp ?_ ?_<;>intro hx_ this)|fail)
    exact aa (bg rfl rfl rfl) rfl
theorem lX (c:Xb) (hc:Xr c.actsL) (hcl:c.actsL.length≤1000000) (hto:∀ x∈c.actsL,x.to.n≤1000000) (n sc:Int) (g:ByteArray) (st:Xh) (toL:List ByteArray) (htl:toL.length≤1000000) :
  Pu prog 83 #[c.v,.int .i64 n,.int .i64 sc,.string g,st.v] (fun w=>XC c w∧Strs w st toL) (.bool (freshV c n sc g toL)):=by
 refine ax func83 ntmps83 fun av bor w0=>?_
 have hF:freshV c n sc g toL=(!((epochO c.actsL n sc g).isSome)||!(eqL (((epochO c.actsL n sc g).map (·.toL)).getD []) (membersV c n sc g toL))):=rfl
 have hep:=jk c hc n sc g
 have hme:=iU c hc hcl hto n sc g st toL htl
 generalize epochO c.actsL n sc g=o at *
 generalize membersV c n sc g toL=M at *
 repeat' (first|refine gs ?_|refine gs1 fun _=>?_|fail)
 refine aU (hc:=hep) fun v1 X1 h1=>?_
 obtain ⟨s1,rfl,hs1⟩:=h1
 repeat' (first|refine gs ?_|refine gs1 fun _=>?_|(refine gp ?_ ?_<;>intro hx_ this)|fail)
 · apply aa;apply ai;rfl;rfl
   rw [hF]
   simp only [*,Za,Zg,Zf]
 · refine aU (hc:=hme) fun v2 X2 h2=>?_
   obtain ⟨s2,rfl,hs2⟩:=h2
   repeat' (first|(refine ae (hc:=pG s1 s2 _ _) (hX:=fun w h=>⟨hs1 w h.1.2,hs2 w h.2⟩) ?_)|refine gs ?_|refine gs1 fun _=>?_|(refine gp ?_ ?_<;>intro hx_ this)|fail)
   apply aa;apply ai;rfl;rfl
   rw [hF]
   simp only [*,Za,Zg,Zf]
theorem ei (k:X9) (sc:Int) (g:ByteArray) (ep:Int):(secretV k sc g ep).size=32:=dS _
theorem gB (k:X9) (sc:Int) (g:ByteArray) (ep:Int) (h1:k.s<9223372036854775808) (h2:sc<9223372036854775808) (h3:ep<9223372036854775808) (hg:g.size≤1000000000) :
  Pu prog 42 #[k.v,.int .i64 sc,.string g,.int .i64 ep] Xc (.string (secretV k sc g ep)):=by
 refine ax func42 ntmps42 fun av bor w0=>?_
 have n1:=aq ⟨#[101,112,111,99,104]⟩
 have n2:=ar k.s
 have n3:=ar sc
 have n4:=aq g
 have n5:=ar ep
 have n6:(⟨#[101,112,111,99,104]⟩:ByteArray).size=5:=rfl
 have t1:=bD ⟨#[101,112,111,99,104]⟩ ab
 have t2:=bF k.s h1
 have t3:=bF sc h2
 have t4:=bD g ab
 have t5:=bF ep h3
 rw [secretV]
 generalize textV ⟨#[101,112,111,99,104]⟩=a1 at *
 generalize numV k.s=a2 at *
 generalize numV sc=a3 at *
 generalize textV g=a4 at *
 generalize numV ep=a5 at *
 have m2:(a1++a2).size=a1.size+a2.size:=Zb
 have m3:(a1++a2++a3).size=a1.size+a2.size+a3.size:=by rw [Zb,m2]
 have m4:(a1++a2++a3++a4).size=a1.size+a2.size+a3.size+a4.size:=by rw [Zb,m3]
 have m5:(a1++a2++a3++a4++a5).size=a1.size+a2.size+a3.size+a4.size+a5.size:=by rw [Zb,m4]
 have hsh:=gy (a1++a2++a3++a4++a5) ab
 generalize shaV (a1++a2++a3++a4++a5)=S at *
 repeat' (first|refine gs ?_|refine gs1 fun _=>?_|(refine gp ?_ ?_<;>intro hx_ this)|fail)
 refine bc (ι:=Unit) (fun _=>⟨[(8,.string S)],[],Xc⟩) ?_ fun _=>?_
 · (refine aJ ⟨[1,2,5,8,11],[(0,⟨[],[(3,⟨[4],[(6,⟨[7],[(9,⟨[10],[(12,⟨[13],[(14,⟨[15],[]⟩)]⟩)]⟩)]⟩)]⟩)]⟩)]⟩ (h:=?_))
   all_goals repeat' (first|(refine ae (hc:=t1) ?_)|(refine ae (hc:=t2) ?_)|(refine ae (hc:=t3) ?_)|(refine ae (hc:=t4) ?_)|(refine ae (hc:=t5) ?_)|(refine ae (hc:=hsh) ?_)|refine gd ?_|refine aH (hy:=by first|(apply eG;rfl;rfl;omega)) ?_|refine aE ?_ (h':=?_)|exact aF|refine gs1 fun _=>?_|(refine gq ?_ ?_<;>intro hx_ this)|fail)
   all_goals exact ⟨(),ak ⟨rfl,trivial⟩ (Zq _) fun _ h=>h⟩
 repeat' (first|refine gs ?_|refine gs1 fun _=>?_|(refine gp ?_ ?_<;>intro hx_ this)|fail)
 exact aa (ai rfl rfl) rfl
theorem tk (k:X9) (c:Xb) (a:Xa) (hc:Xr c.actsL) (hcl:c.actsL.length≤1000000) (hto:∀ x∈c.actsL,x.to.n≤1000000) (htl:a.toL.length≤1000000) (hfr:freshV c (c.acts.n:Int) a.scope a.group a.toL=true) :
  Pu prog 41 #[k.v,c.v,a.v] (fun w=>XC c w∧a.at_ w) (.tuple #[.int .i64 0,.bool false]):=by
 refine ax func41 ntmps41 fun av bor w0=>?_
 have hf:=lX c hc hcl hto (c.acts.n:Int) a.scope a.group a.to a.toL htl
 rw [hfr] at hf
 repeat' (first|(refine ae (hc:=hf) (hX:=fun w h=>⟨h.1,h.2.1⟩) ?_)|refine gs ?_|refine gs1 fun _=>?_|(refine gp ?_ ?_<;>intro hx_ this)|fail)
 exact aa (bg rfl rfl rfl) rfl
theorem tj (k:X9) (c:Xb) (kl:List Xg) (a x:Xa) (y:Xg) (hc:Xr c.actsL) (hcl:c.actsL.length≤1000000) (hto:∀ x∈c.actsL,x.to.n≤1000000) (htl:a.toL.length≤1000000) (hfr:freshV c (c.acts.n:Int) a.scope a.group a.toL=false)
  (hg:0<(grantV c.actsL (c.acts.n:Int) a.scope a.group).2) (hk:keyV c.acts.n kl ((grantV c.actsL (c.acts.n:Int) a.scope a.group).1:Nat)=some y) (hy:y.public_=k.p) (hx:epochO c.actsL (c.acts.n:Int) a.scope a.group=some x) :
  Pu prog 41 #[k.v,c.v,a.v] (fun w=>(XC c w∧Keyz w c.keys kl)∧a.at_ w) (.tuple #[.int .i64 x.epoch,.bool true]):=by
 refine ax func41 ntmps41 fun av bor w0=>?_
 have hf:=lX c hc hcl hto (c.acts.n:Int) a.scope a.group a.to a.toL htl
 rw [hfr] at hf
 have hgr:=gP c (c.acts.n:Int) a.scope a.group
 rw [show decide ((0:Int)<((grantV c.actsL (c.acts.n:Int) a.scope a.group).2:Nat))=true from Ze (by omega)] at hgr
 have hke:=dG c kl ((grantV c.actsL (c.acts.n:Int) a.scope a.group).1:Nat)
 rw [hk,keyOP] at hke
 simp only [Option.isSome_some,Z3] at hke
 have hep:=jk c hc (c.acts.n:Int) a.scope a.group
 rw [hx] at hep
 generalize (grantV c.actsL (c.acts.n:Int) a.scope a.group).1=q at *
 repeat' (first|refine eZ (hab:=hy) ?_|(refine ae (hc:=hf) (hX:=fun w h=>⟨h.1.1,h.2.1⟩) ?_)|(refine ae (hc:=hgr) (hX:=fun w h=>h.1.1) ?_)|(refine ae (hc:=hke) (hX:=fun w h=>⟨h.1.1.1,h.1.2⟩) ?_)|(refine aU (hc:=hep) (hX:=fun w h=>h.1.1) fun v1 X1 h1=>?_;obtain ⟨s1,rfl,hs1⟩:=h1)|refine gs ?_|refine gs1 fun _=>?_|(refine gp ?_ ?_<;>intro hx_ this)|fail)
 exact aa (bg rfl rfl rfl) rfl
end Go.Proofs.YtamfbppnlomgfaaGreatDoor
