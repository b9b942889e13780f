/- Joined. -/
import Derived.Test.YtgffbiobmamobaaGreatDoorI0
import Derived.Test.YtgffbiobmamobaaGreatDoorI19
import Derived.Test.YtgffbiobmamobaaGreatDoorI9
import Derived.Test.YtgffbiobmamobaaGreatDoorI2
import Derived.Test.YtgffbiobmamobaaGreatDoorI8
import Derived.Test.YtgffbiobmamobaaGreatDoorI1
import Derived.Test.YtgffbiobmamobaaGreatDoorI14
set_option linter.unusedVariables false
set_option linter.unusedSimpArgs false
set_option maxHeartbeats 16000000
namespace Go.Proofs.YtgffbiobmamobaaGreatDoor
open Go Go.Proofs Sy
structure ChS where
 acts:List Xc
 keys:List KeyD
 prev:ByteArray
 gen:Nat
structure OfW where
 L:List Xc
 id:ByteArray
 won:Nat→Option Xm
 clm:Int→Xm→Bool
 dgC:Xm→ByteArray
 ver:Int→Xc→Bool
 B:Nat
def ChS.key (st:ChS):Int:=(st.keys.getD (st.keys.length-1) KeyD.zero).public_
def setI (l:List Xc):Nat→Option Nat
 | 0=>none
 | n+1=>bif decide ((l.getD n Xc.zero).kind=19) then some n else setI l n
structure InvS (W:OfW) (st:ChS):Prop where
 seq:∀ i,i<st.acts.length→∃ a∈W.L,a.seq=(i:Int)
 mem:∀ a∈st.acts,a∈W.L
 one:0<st.acts.length
 key:0<st.keys.length
 keyn:st.keys.length≤st.acts.length+st.gen+1
 gen:st.gen≤W.B
abbrev PosK:=Int×ByteArray
structure BldH where
 ks:Xi
 ki:Xi
 id:ByteArray
 fork:Bool
 q1:Nat
 q2:Nat
 cl:Xm
 wn:Bool
def PlOk (pl:List (ByteArray×Value)) (l:List Xc):Prop:=∀ d,mget pl d=(idxV l d).map fun (j:Nat)=>Value.int .i64 (j:Int)
structure BldOk (sa sk:Xi) (st:ChS) (pl:List (ByteArray×Value)):Prop where
 hn:sa.n=st.acts.length
 hk:sk.n=st.keys.length
 hp:PlOk pl st.acts
end Go.Proofs.YtgffbiobmamobaaGreatDoor
namespace Go.Proofs.YtgffbiobmamobaaGreatDoor
open Go Go.Proofs Sy
def BldH.look (h:BldH) (o:Option Xm):BldH:={ h with cl:=o.getD Xm.zero,wn:=o.isSome }
namespace Sy
section
variable {P:Program} {N:Nat} {av bor:List Nat} {w0:World} {st:St} {t:TypeId} {ty:TypeId} {x:Operand}
theorem pH [h:Xv P t] {bl j:Nat} {v:Value} (hx:ev st.env x=some (.pointer (some ⟨bl,j,none⟩))) (hF:∀ w,st.ext w→w.cell? ⟨bl,j,none⟩=some v):Yields P N av bor w0 st (.load t x) ty v:=Sy.Yields.mk fun B w ok d pos af g=>by
 simp [execOp,ok.eval hx,Instr.loadAt,Instr.sureAddr,loadVar,(bI h.out w).1,hF w ok.gam.keep.now]
end
end Sy
def CelD (b:Nat) (cs:List Value) (w:World):Prop:=∀ j v,cs[j]?=some v→w.cell? ⟨b,j,none⟩=some v
theorem zl {b T:Nat} {cs:List Value} {w:World} (h:(cel b T cs).F w):CelD b cs w:=fun j v hj=>by
 have h1:w.heap[b]?=some (.cells cs.toArray T (0,0)):=h
 simp [World.cell?,h1,hj]
end Go.Proofs.YtgffbiobmamobaaGreatDoor
namespace Go.Proofs.YtgffbiobmamobaaGreatDoor
open Go Go.Proofs Sy
structure SetI (l:List Xc) where
 k:Nat
 hk:k≤l.length
 hs:setI l l.length=setI l k
structure FndA where
 rank:Int
 dg:ByteArray
 a:Xc
def FndA.cells (f:FndA):List Value:=.int .i64 f.rank::.string f.dg::f.a.cells
theorem fR {P:Program} {fn:Func} {N t u u2 ty n:Nat} {s:St} {b T:Nat} {cs:List Value} {x y:Value} [hI:Xs P ty n] (hr:fn.results=#[.cell t ty,.tmp u,.tmp u2]) (h:Sy.look s.env t=some (.pointer (some ⟨b,0,none⟩))) (h':Sy.look s.env u=some x) (h2':Sy.look s.env u2=some y) (hm:cel b T cs∈s.loc) (hn:cs.length=n) :
  Res1 P fn N s (.tuple #[.agg cs.toArray,x,y]):=fun av bor w0 a w ok=>by
 obtain ⟨D,h1,h2,h3⟩:=cX hI.out
 have ht:=ok.env t _ h
 have hu:=ok.env u _ h'
 have hu2:=ok.env u2 _ h2'
 have:(loadVar ty ⟨b,0,none⟩).run P w=.ok (.agg cs.toArray) w:=by
  cases D<;>simp at h2
  · exact run_loadVar_row w b T ty cs.toArray (0,0) _ (fA ok hm) h1 rfl (by rw [h3];simp [hn])
  · exact run_loadVar_row w b T ty cs.toArray (0,0) _ (fA ok hm) h1 rfl (by rw [h3];simp [hn])
 simp [results,hr,ht,hu,hu2,asAddr,this]
def wantA (au:ByteArray) (it:Xb):Bool:=decide (it.kind=0)&&seqB it.act.author au
def fndOf (dI:Xb→ByteArray) (it:Xb):FndA:=⟨it.act.seq,dI it,it.act⟩
def selB (au:ByteArray) (rI:Xb→Bool) (it:Xb):Bool:=wantA au it&&rI it
def selF (au:ByteArray) (rI:Xb→Bool) (dI:Xb→ByteArray) (I:List Xb):List FndA:=(I.filter (selB au rI)).map (fndOf dI)
structure PikI (I:List Xb) (au:ByteArray) (rI:Xb→Bool) (dI:Xb→ByteArray) where
 k:Nat
 hk:k≤I.length
 A:Option Addr
 c:Nat
 n:Nat
 hn:n=(selF au rI dI (I.take k)).length
 xs:List Value
 hxs:xs=((selF au rI dI (I.take k)).map FndA.cells).flatten
structure ValI (Q:List FndA) where
 k:Nat
 hk:k≤Q.length
 A:Option Addr
 c:Nat
 xs:List Value
 hxs:xs=((Q.take k).map fun f=>f.a.cells).flatten
def Decs (w:World) (s:Xi) (l:List Xf):Prop:=Xe w 12 s (l.map Xf.cells)∧∀ d∈l,d.at_ w
theorem dm (l:List Xf):∀ r∈l.map Xf.cells,r.length=12:=fun r hr=>by
 obtain ⟨c,_,rfl⟩:=List.mem_map.1 hr
 rfl
def wantD (sv:Int) (it:Xb):Bool:=decide (it.kind=3)&&decide (it.dec.server=sv)
theorem vf (bW:Nat) (sv:Int) (it:Xb):Pu Tryz.prog 154 #[it.v,.pointer (some ⟨bW,0,none⟩)] (CelD bW [.int .i64 sv]) (.tuple #[it.dec.v,.int .i64 it.dec.number,.bool (wantD sv it)]):=by
 refine aq Tryz.func154 Tryz.ntmps154 fun av bor w0=>?_
 repeat' (first|refine gs ?_|refine gs1 fun _=>?_|(refine aE (vs:=it.dec.cells) (hv:=rfl) ?_)|(refine gp ?_ ?_<;>intro hx_ this)|fail)
 rename_i b2 b3 b6
 cases h0:decide (it.kind=3) with
 | false =>
  (refine ao ⟨[0,1,2,3,4,5,6,7,8,9,10,11],[(12,⟨[13,14],[]⟩)]⟩ [cel b6 42 it.dec.cells,cel b2 78 it.cells] (CelD bW [.int .i64 sv]) (h:=?_))
  all_goals repeat' (first|refine aJ (hsub:=by exact aP) (hy:=by first|(apply bg false;rfl;rfl;exact h0)) ?_|refine gdz ?_|refine aJ (hsub:=by exact aP) (hy:=by first|(apply pH;rfl;exact (fun w h=>h 0 _ rfl))) ?_|refine aF ?_ (h':=?_)|exact aG|refine gs1 fun _=>?_|(refine gq ?_ ?_<;>intro hx_ this)|fail)
  all_goals
   repeat' (first|refine gs ?_|refine gs1 fun _=>?_|(refine gp ?_ ?_<;>intro hx_ this)|fail)
   exact ae (fR rfl rfl rfl rfl (.tail _ (.head _)) rfl) (by rw [wantD,h0];rfl)
 | true =>
  cases h1:decide (it.dec.server=sv) with
  | false =>
   (refine ao ⟨[0,1,2,3,4,5,6,7,8,9,10,11],[(12,⟨[13,14],[]⟩)]⟩ [cel b6 42 it.dec.cells,cel b2 78 it.cells] (CelD bW [.int .i64 sv]) (h:=?_))
   all_goals repeat' (first|refine aJ (hsub:=by exact aP) (hy:=by first|(apply bg true;rfl;rfl;exact h0)|(apply bg false;rfl;rfl;exact h1)) ?_|refine gdz ?_|refine aJ (hsub:=by exact aP) (hy:=by first|(apply pH;rfl;exact (fun w h=>h 0 _ rfl))) ?_|refine aF ?_ (h':=?_)|exact aG|refine gs1 fun _=>?_|(refine gq ?_ ?_<;>intro hx_ this)|fail)
   all_goals
    repeat' (first|refine gs ?_|refine gs1 fun _=>?_|(refine gp ?_ ?_<;>intro hx_ this)|fail)
    exact ae (fR rfl rfl rfl rfl (.tail _ (.head _)) rfl) (by rw [wantD,h0,h1];rfl)
  | true =>
   (refine ao ⟨[0,1,2,3,4,5,6,7,8,9,10,11],[(12,⟨[13,14],[]⟩)]⟩ [cel b6 42 it.dec.cells,cel b2 78 it.cells] (CelD bW [.int .i64 sv]) (h:=?_))
   all_goals repeat' (first|refine aJ (hsub:=by exact aP) (hy:=by first|(apply bg true;rfl;rfl;first|exact h0|exact h1)) ?_|refine gdz ?_|refine aJ (hsub:=by exact aP) (hy:=by first|(apply pH;rfl;exact (fun w h=>h 0 _ rfl))) ?_|refine aF ?_ (h':=?_)|exact aG|refine gs1 fun _=>?_|(refine gq ?_ ?_<;>intro hx_ this)|fail)
   all_goals
    repeat' (first|refine gs ?_|refine gs1 fun _=>?_|(refine gp ?_ ?_<;>intro hx_ this)|fail)
    exact ae (fR rfl rfl rfl rfl (.tail _ (.head _)) rfl) (by rw [wantD,h0,h1];rfl)
def fndOfD (dI:Xb→ByteArray) (it:Xb):Xt:=⟨it.dec.number,dI it,it.dec⟩
def selBD (sv:Int) (rI:Xb→Bool) (it:Xb):Bool:=wantD sv it&&rI it
def selFD (sv:Int) (rI:Xb→Bool) (dI:Xb→ByteArray) (I:List Xb):List Xt:=(I.filter (selBD sv rI)).map (fndOfD dI)
def selD (sv:Int) (rI:Xb→Bool) (I:List Xb):List Xf:=(I.filter (selBD sv rI)).map Xb.dec
theorem yA (sv:Int) (rI:Xb→Bool) (dI:Xb→ByteArray) (I:List Xb):(selFD sv rI dI I).map Xt.a=selD sv rI I:=by rw [selFD,selD,List.map_map];rfl
structure PikID (I:List Xb) (sv:Int) (rI:Xb→Bool) (dI:Xb→ByteArray) where
 k:Nat
 hk:k≤I.length
 A:Option Addr
 c:Nat
 n:Nat
 hn:n=(selFD sv rI dI (I.take k)).length
 xs:List Value
 hxs:xs=((selFD sv rI dI (I.take k)).map Xt.cells).flatten
structure ValID (Q:List Xt) where
 k:Nat
 hk:k≤Q.length
 A:Option Addr
 c:Nat
 xs:List Value
 hxs:xs=((Q.take k).map fun f=>f.a.cells).flatten
def wantVD (bW:Nat):Value:=.func (.func 154) #[] #[.pointer (some ⟨bW,0,none⟩)]
theorem wb (ks ki:Xi) (I:List Xb) (bW:Nat) (sv:Int) (rI:Xb→Bool) (dI:Xb→ByteArray)
  (hR:∀ it∈I,Pu Tryz.prog 27 #[it.v] (fun w=>it.at_ w) (.bool (rI it)))
  (hD:∀ it∈I,Pu Tryz.prog 22 #[it.v] (fun w=>it.at_ w∧Xg w) (.string (dI it)))
  (hI:I.length≤1000) (hsel:(selD sv rI I).length≤19) :
  Mk Tryz.prog 153 #[.agg #[ks.v,ki.v],wantVD bW] (fun w=>(Items w ki I∧CelD bW [.int .i64 sv] w)∧Xg w)
   (fun u X'=>∃ (s:Xi) (L:List Xf),u=s.v∧(L.Perm (selD sv rI I)∧L.Pairwise fun a b=>a.number≤b.number)∧∀ w,X' w→Decs w s L):=by
 refine bS Tryz.func153 Tryz.ntmps153 fun av bor w0=>?_
 refine aD (p:=ki.n=I.length∧ki.n≤maxLen∧(0<I.length→ki.p.isSome=true)) (fun w h=>⟨h.1.1.len_,h.1.1.max_,h.1.1.some_⟩) fun ⟨hkn,hkm,hkp⟩=>?_
 simp only [maxLen] at hkm
 repeat' (first|refine gs ?_|refine gs1 fun _=>?_|fail)
 rename_i b2
 refine bQ 239 14 ?_
 refine az (ι:=PikID I sv rI dI) (fun i=>⟨[(1,wantVD bW),(5,.slice i.A i.n i.c),(15,ki.v),(16,.int .i64 (ki.n:Nat)),(17,.int .i64 (i.k:Nat))],[orow 239 14 (.slice i.A i.n i.c) i.n i.xs],fun w=>(Items w ki I∧CelD bW [.int .i64 sv] w)∧Xg w⟩) (fun i=>I.length-i.k) ⟨0,Nat.zero_le _,none,0,0,rfl,[],rfl⟩ (ak an (.cons_cons _ (List.nil_sublist _)) fun _ h=>h) fun i=>?_
 obtain ⟨k,hk,A,c,n,hn,xs,hxs⟩:=i
 simp only
 repeat' (first|refine gs ?_|refine gs1 fun _=>?_|(refine gp ?_ ?_<;>intro hx_ this)|fail)
 · have hlt:k<I.length:=by omega
   have hkp':=hkp ac
   obtain ⟨it,hit⟩:∃ it,I[k]?=some it:=⟨_,List.getElem?_eq_getElem hlt⟩
   have him:=List.mem_of_getElem? hit
   have hnl:n≤1000:=by
    rw [hn,selFD,List.length_map]
    exact Nat.le_trans (List.length_filter_le _ _) (by rw [List.length_take];omega)
   repeat' (first|refine gs ?_|refine gs1 fun _=>?_|(refine aA (q:=k*49) ?_)|(refine aY (cs:=it.cells) (hF:=fun w h=>h.1.1.get hit) ?_)|(refine gp ?_ ?_<;>intro hx_ this)|fail)
   rename_i b7
   have hri:=hR it him
   have hdi:=hD it him
   have hwa:=vf bW sv it
   have htk:selFD sv rI dI (I.take (k+1))=selFD sv rI dI (I.take k)++(bif selBD sv rI it then [fndOfD dI it] else []):=by
    rw [selFD,selFD,List.take_add_one,hit,List.filter_append,List.map_append,Option.toList_some]
    congr 1
    cases hb:selBD sv rI it with
    | true=>simp [hb]
    | false=>simp [hb]
   cases hwt:wantD sv it with
   | false =>
    rw [hwt] at hwa
    have hno:selFD sv rI dI (I.take (k+1))=selFD sv rI dI (I.take k):=by rw [htk,selBD,hwt];exact List.append_nil _
    refine iS (args:=[it.v]) (all:=[it.v,.pointer (some ⟨bW,0,none⟩)]) (first:=#[]) (caps:=#[.pointer (some ⟨bW,0,none⟩)]) (hx:=rfl) (ha:=rfl) (hall:=rfl) (hc:=hwa) (hX:=fun w h=>h.1.2) (h:=?_)
    repeat' (first|refine gs ?_|refine gs1 fun _=>?_|(refine gp ?_ ?_<;>intro hx_ this)|fail)
    exact ⟨(⟨k+1,hlt,A,c,n,by rw [hno];exact hn,xs,by rw [hno];exact hxs⟩:PikID I sv rI dI),(by show I.length-(k+1)<I.length-k;omega),ak an (.cons _ (.cons _ (al _))) fun _ h=>h⟩
   | true =>
    rw [hwt] at hwa
    cases hrt:rI it with
    | false =>
     rw [hrt] at hri
     have hno:selFD sv rI dI (I.take (k+1))=selFD sv rI dI (I.take k):=by rw [htk,selBD,hwt,hrt];exact List.append_nil _
     refine iS (args:=[it.v]) (all:=[it.v,.pointer (some ⟨bW,0,none⟩)]) (first:=#[]) (caps:=#[.pointer (some ⟨bW,0,none⟩)]) (hx:=rfl) (ha:=rfl) (hall:=rfl) (hc:=hwa) (hX:=fun w h=>h.1.2) (h:=?_)
     repeat' (first|(refine ag (hc:=hri) (hX:=fun w h=>h.1.1.2 it him) ?_)|refine gs ?_|refine gs1 fun _=>?_|(refine gp ?_ ?_<;>intro hx_ this)|fail)
     exact ⟨(⟨k+1,hlt,A,c,n,by rw [hno];exact hn,xs,by rw [hno];exact hxs⟩:PikID I sv rI dI),(by show I.length-(k+1)<I.length-k;omega),ak an (.cons _ (.cons _ (al _))) fun _ h=>h⟩
    | true =>
     rw [hrt] at hri
     have hyes:selFD sv rI dI (I.take (k+1))=selFD sv rI dI (I.take k)++[fndOfD dI it]:=by rw [htk,selBD,hwt,hrt];rfl
     refine iS (args:=[it.v]) (all:=[it.v,.pointer (some ⟨bW,0,none⟩)]) (first:=#[]) (caps:=#[.pointer (some ⟨bW,0,none⟩)]) (hx:=rfl) (ha:=rfl) (hall:=rfl) (hc:=hwa) (hX:=fun w h=>h.1.2) (h:=?_)
     repeat' (first|(refine ag (hc:=hri) (hX:=fun w h=>h.1.1.2 it him) ?_)|refine gs ?_|refine gs1 fun _=>?_|(refine gp ?_ ?_<;>intro hx_ this)|fail)
     rename_i b8
     (refine ao ⟨[0,1,2,4],[(3,⟨[5],[(6,⟨[],[(7,⟨[8],[]⟩)]⟩)]⟩)]⟩ [cel b8 42 it.dec.cells,cel b7 78 it.cells] (fun w=>(Items w ki I∧CelD bW [.int .i64 sv] w)∧Xg w) (h:=?_))
     all_goals repeat' (first|(refine ag (hc:=hdi) (hX:=fun w h=>⟨h.1.1.2 it him,h.2⟩) ?_)|refine gdz ?_|refine aJ (hsub:=by exact aP) (hy:=by first|(apply cT (cs:=(fndOfD dI it).cells);rfl;rfl)) ?_|refine aF ?_ (h':=?_)|exact aG|refine bH (size:=14) (vs:=[.agg (fndOfD dI it).cells.toArray]) (css:=(fndOfD dI it).cells) (hsz:=by rfl) (hcs:=by rfl) fun _=>?_|(refine fI ?_;refine aH (size:=14) (news:=(fndOfD dI it).cells) (q:=1) rfl rfl rfl rfl (fun _=>At.there _ (At.there _ (At.there _ (At.here _)))) (fun w G=>bu G ay rfl rfl 1) ac (by simp only [maxLen];omega) rfl ?_ rfl ?_;(first|with_reducible rfl|with_reducible assumption|with_reducible exact Bool.not_false|with_reducible exact Bool.not_true);intro A2 c2)|refine gs1 fun _=>?_|(refine gq ?_ ?_<;>intro hx_ this)|fail)
     all_goals
      repeat' (first|refine gs ?_|refine gs1 fun _=>?_|(refine gp ?_ ?_<;>intro hx_ this)|fail)
      exact ⟨(⟨k+1,hlt,A2,c2,n+1,by rw [hyes,List.length_append,←hn];rfl,xs++(fndOfD dI it).cells,by rw [hyes,hxs];simp⟩:PikID I sv rI dI),(by show I.length-(k+1)<I.length-k;omega),ak an (.cons _ (.cons _ (.cons _ (al _)))) fun _ h=>h⟩
 have hkE:k=I.length:=by omega
 rw [hkE,List.take_length] at hn hxs
 obtain ⟨P,hP⟩:∃ P,selFD sv rI dI I=P:=⟨_,rfl⟩
 rw [hP] at hn hxs
 have hPl:P.length≤I.length:=by rw [←hP,selFD,List.length_map];exact List.length_filter_le _ _
 subst hxs
 refine ci (pre:=[SrD.postR ⟨A,n,c⟩ P]) (fr:=[]) (first:=#[]) (caps:=#[]) (hc:=SrD.sortStable_ct ⟨A,n,c⟩ P hn (by show n≤19;rw [hn,←hP,selFD,List.length_map];rw [selD,List.length_map] at hsel;exact hsel)) (hX:=fun _ _=>trivial) (h:=?_)
 rintro v R X' ⟨rfl,Q,⟨hQ,hQo⟩,rfl⟩
 have hQl:Q.length=n:=hQ.length_eq.trans hn.symm
 have hnI:n≤1000:=by omega
 refine cN (X':=fun w=>(Items w ki I∧CelD bW [.int .i64 sv] w)∧Xg w) (fun w h=>h.1) ?_
 repeat' (first|refine gs ?_|refine gs1 fun _=>?_|(refine jR (c:=n) (hm:=Nat.ble_eq_true_of_le ac) (hm2:=Nat.ble_eq_true_of_le ac) fun bv=>?_)|(refine gp ?_ ?_<;>intro hx_ this)|fail)
 refine cY (r:=SrD.postR ⟨A,n,c⟩ Q) aC (p:=0<n→A.isSome=true) (fun w h h0=>cG h h0) fun hAp=>?_
 refine az (ι:=ValID Q) (fun i=>⟨[(11,.slice i.A i.k i.c),(47,.slice A n c),(48,.int .i64 (n:Nat)),(49,.int .i64 (i.k:Nat))],[orow 42 12 (.slice i.A i.k i.c) i.k i.xs,SrD.postR ⟨A,n,c⟩ Q],fun w=>(Items w ki I∧CelD bW [.int .i64 sv] w)∧Xg w⟩) (fun i=>Q.length-i.k) ⟨0,Nat.zero_le _,_,_,[],rfl⟩ (ak an (al _) fun _ h=>h) fun i=>?_
 obtain ⟨k2,hk2,A2,c2,xs2,hxs2⟩:=i
 simp only
 repeat' (first|refine gs ?_|refine gs1 fun _=>?_|(refine gp ?_ ?_<;>intro hx_ this)|fail)
 · have hlt:k2<Q.length:=by omega
   have hAp':=hAp ac
   obtain ⟨f,hf⟩:∃ f,Q[k2]?=some f:=⟨_,List.getElem?_eq_getElem hlt⟩
   repeat' (first|refine bH (size:=12) (vs:=[f.a.v]) (css:=f.a.cells) (hsz:=by rfl) (hcs:=by rfl) fun _=>?_|refine gs ?_|refine gs1 fun _=>?_|(refine aA (q:=k2*14) ?_)|(refine am (eP (size:=14) (m:=n) (i:=k2) (xs:=Q.map Xt.cells) (cs:=f.cells) rfl (.tail _ (.head _)) (by rw [List.length_map];exact hQl.symm) (SrD.cellsF Q) (by simp [hf])) rfl rfl rfl ?_)|(refine aE (vs:=f.a.cells) (hv:=rfl) ?_)|(refine gp ?_ ?_<;>intro hx_ this)|fail)
   refine aH (size:=12) (news:=f.a.cells) (q:=1) rfl rfl rfl rfl (fun _=>At.there _ (At.there _ (At.here _))) (fun w G=>bu G ay rfl rfl 1) ac (by simp only [maxLen];omega) rfl ?_ rfl ?_
   · (first|with_reducible rfl|with_reducible assumption|with_reducible exact Bool.not_false|with_reducible exact Bool.not_true)
   intro A3 c3
   repeat' (first|refine gs ?_|refine gs1 fun _=>?_|(refine gp ?_ ?_<;>intro hx_ this)|fail)
   exact ⟨(⟨k2+1,hlt,A3,c3,xs2++f.a.cells,by rw [List.take_add_one,hf,hxs2];simp⟩:ValID Q),(by show Q.length-(k2+1)<Q.length-k2;omega),ak an (.cons _ (.cons _ (al _))) fun _ h=>h⟩
 have hk2E:k2=Q.length:=by omega
 rw [hk2E,List.take_length] at hxs2
 have hLp:(Q.map Xt.a).Perm (selD sv rI I):=by rw [←yA sv rI dI I,hP];exact hQ.map _
 refine ae (aj rfl rfl) ⟨⟨A2,k2,c2⟩,Q.map Xt.a,rfl,⟨hLp,?_⟩,fun w h=>⟨?_,fun d hd=>?_⟩⟩
 · have hrk:∀ f∈Q,f.rank=f.a.number:=fun f hf=>by
    have:=hQ.mem_iff.1 hf
    rw [←hP,selFD,List.mem_map] at this
    obtain ⟨it,_,rfl⟩:=this
    rfl
   rw [List.pairwise_iff_getElem]
   intro i l hi hl hil
   rw [List.length_map] at hi hl
   have h1:=hQo i l hil hl
   rw [SrD.rk_get (List.getElem?_eq_getElem hi),SrD.rk_get (List.getElem?_eq_getElem hl),hrk _ (List.getElem_mem hi),hrk _ (List.getElem_mem hl)] at h1
   rw [List.getElem_map,List.getElem_map]
   exact h1
 · have hr:=h.2 (orow 42 12 (.slice A2 k2 c2) k2 xs2) (.head _)
   exact aM (xs:=(Q.map Xt.a).map Xf.cells) (by rw [List.map_map];rw [hxs2] at hr;exact hr) (by rw [List.length_map,List.length_map];exact hk2E) (dm _)
 · have hd':=hLp.mem_iff.1 hd
   rw [selD,List.mem_map] at hd'
   obtain ⟨it,h1,rfl⟩:=hd'
   exact (h.1.1.1.2 it (List.mem_filter.1 h1).1).2
theorem nc (ks ki:Xi) (I:List Xb) (sv:Int) (rI:Xb→Bool) (dI:Xb→ByteArray)
  (hR:∀ it∈I,Pu Tryz.prog 27 #[it.v] (fun w=>it.at_ w) (.bool (rI it)))
  (hD:∀ it∈I,Pu Tryz.prog 22 #[it.v] (fun w=>it.at_ w∧Xg w) (.string (dI it)))
  (hI:I.length≤1000) (hsel:(selD sv rI I).length≤19) :
  Mk Tryz.prog 108 #[.agg #[ks.v,ki.v],.int .i64 sv] (fun w=>Items w ki I∧Xg w)
   (fun u X'=>∃ (s:Xi) (L:List Xf),u=s.v∧(L.Perm (selD sv rI I)∧L.Pairwise fun a b=>a.number≤b.number)∧∀ w,X' w→Decs w s L):=by
 refine bS Tryz.func108 Tryz.ntmps108 fun av bor w0=>?_
 repeat' (first|refine gs ?_|refine gs1 fun _=>?_|(refine fj ?_)|(refine gp ?_ ?_<;>intro hx_ this)|fail)
 rename_i b2 b3
 refine bO ?_
 refine aT (hc:=wb ks ki I b3 sv rI dI hR hD hI hsel) (hX:=fun w h=>⟨⟨h.1.1,zl h.2⟩,h.1.2⟩) fun v X1 h1=>?_
 obtain ⟨s,L,rfl,hL,hw⟩:=h1
 repeat' (first|refine gs ?_|refine gs1 fun _=>?_|(refine gp ?_ ?_<;>intro hx_ this)|fail)
 exact ae (aj rfl rfl) ⟨s,L,rfl,hL,fun w h=>hw w h.1.2⟩
def gtB (a b:ByteArray):Bool:=!(Op.bytesLess a.toList b.toList||seqB a b)
def addAt (dI:Xb→ByteArray) (d:ByteArray) (I:List Xb) (k:Nat):Nat:=((I.take k).findIdx? fun x=>gtB (dI x) d).getD I.length
def addV (dI:Xb→ByteArray) (it:Xb) (I:List Xb):List Xb:=I.take (addAt dI (dI it) I I.length)++it::I.drop (addAt dI (dI it) I I.length)
theorem xW (dI:Xb→ByteArray) (d:ByteArray) (I:List Xb) (k:Nat) (hk:k≤I.length):addAt dI d I k<k∨addAt dI d I k=I.length:=by
 rw [addAt]
 cases h:(I.take k).findIdx? fun x=>gtB (dI x) d with
 | none=>exact .inr rfl
 | some j =>
  rw [List.findIdx?_eq_some_iff_getElem] at h
  obtain ⟨h1,_⟩:=h
  rw [List.length_take] at h1
  exact .inl (by show j<k;omega)
theorem qZ (dI:Xb→ByteArray) (d:ByteArray) (I:List Xb) (k:Nat) (x:Xb) (hx:I[k]?=some x):addAt dI d I (k+1)=bif gtB (dI x) d&&decide (addAt dI d I k=I.length) then k else addAt dI d I k:=by
 have hk:k<I.length:=(List.getElem?_eq_some_iff.1 hx).1
 rw [addAt,addAt,List.take_add_one,hx,Option.toList_some,List.findIdx?_append]
 cases h:(I.take k).findIdx? fun x=>gtB (dI x) d with
 | none =>
  rw [List.findIdx?_singleton]
  cases hg:gtB (dI x) d with
  | true=>simp [List.length_take];omega
  | false=>simp
 | some j =>
  rw [List.findIdx?_eq_some_iff_getElem] at h
  obtain ⟨h1,_⟩:=h
  rw [List.length_take] at h1
  have:¬ j=I.length:=by omega
  simp [this]
section
variable {P:Program} {N:Nat} {av bor:List Nat} {w0:World} {x y:Operand} {t t2:TypeId} {ty:TypeId} {st:St}
theorem gD {a b:ByteArray} (v:Bool) (hx:ev st.env x=some (.string a)) (hy:ev st.env y=some (.string b)) (hv:gtB a b=v):Sy.Yields P N av bor w0 st (.binOp .gtr t x y t2) ty (.bool v):=hv▸uT hx hy
end
structure AddI (I:List Xb) where
 k:Nat
 hk:k≤I.length
theorem zt (Y:World→Prop) (ks ki:Xi) (I:List Xb) (it:Xb) (rI:Xb→Bool) (dI:Xb→ByteArray)
  (hR:Pu Tryz.prog 27 #[it.v] (fun w=>it.at_ w) (.bool true))
  (hS:Pu Tryz.prog 28 #[ks.v,it.v] (fun w=>(Y w∧it.at_ w)∧Xg w) (.bool true))
  (hD0:Pu Tryz.prog 22 #[it.v] (fun w=>it.at_ w∧Xg w) (.string (dI it)))
  (hD:∀ x∈I,Pu Tryz.prog 22 #[x.v] (fun w=>x.at_ w∧Xg w) (.string (dI x)))
  (hI:I.length≤1000) (hnew:∀ x∈I,seqB (dI x) (dI it)=false) :
  Mk Tryz.prog 17 #[.agg #[ks.v,ki.v],it.v] (fun w=>((Y w∧Items w ki I)∧it.at_ w)∧Xg w)
   (fun u X'=>∃ s:Xi,u=.tuple #[.agg #[ks.v,s.v],.bool true]∧∀ w,X' w→Items w s (addV dI it I)):=by
 refine bS Tryz.func17 Tryz.ntmps17 fun av bor w0=>?_
 refine aD (p:=ki.n=I.length∧ki.n≤maxLen∧(0<I.length→ki.p.isSome=true)∧ki.n≤ki.c) (fun w h=>⟨h.1.1.2.len_,h.1.1.2.max_,h.1.1.2.some_,Xe.cap h.1.1.2.1⟩) fun ⟨hkn,hkm,hkp,hkc⟩=>?_
 simp only [maxLen] at hkm
 obtain ⟨d,hd⟩:∃ d,dI it=d:=⟨_,rfl⟩
 rw [hd] at hD0 hnew
 repeat' (first|(refine ag (hc:=hR) (hX:=fun w h=>h.1.2) ?_)|(refine ag (hc:=hS) (hX:=fun w h=>⟨⟨h.1.1.1,h.1.2⟩,h.2⟩) ?_)|(refine ag (hc:=hD0) (hX:=fun w h=>⟨h.1.2,h.2⟩) ?_)|refine gs ?_|refine gs1 fun _=>?_|(refine gp ?_ ?_<;>intro hx_ this)|fail)
 rename_i b2 b3 b4
 refine az (ι:=AddI I) (fun i=>⟨[(2,.pointer (some ⟨b2,0,none⟩)),(3,.pointer (some ⟨b3,0,none⟩)),(4,.pointer (some ⟨b4,0,none⟩)),(6,.string d),(7,.int .i64 (addAt dI d I i.k:Nat)),(29,ki.v),(30,.int .i64 (ki.n:Nat)),(31,.int .i64 (i.k:Nat))],[cel b4 32 [.slice none 0 0,.slice none 0 0],cel b3 78 it.cells,cel b2 32 [ks.v,ki.v]],fun w=>((Y w∧Items w ki I)∧it.at_ w)∧Xg w⟩) (fun i=>I.length-i.k) ⟨0,Nat.zero_le _⟩ (ak ⟨rfl,rfl,rfl,rfl,(by show some (Value.int .i64 (ki.n:Nat))=_;rw [hkn];rfl),rfl,rfl,rfl,trivial⟩ (al _) fun _ h=>h) fun i=>?_
 obtain ⟨k,hk⟩:=i
 simp only
 repeat' (first|refine gs ?_|refine gs1 fun _=>?_|(refine gp ?_ ?_<;>intro hx_ this)|fail)
 · have hlt:k<I.length:=by omega
   have hkp':=hkp ac
   obtain ⟨x,hx⟩:∃ x,I[k]?=some x:=⟨_,List.getElem?_eq_getElem hlt⟩
   have hxm:=List.mem_of_getElem? hx
   have hne:=hnew x hxm
   have hst:=qZ dI d I k x hx
   generalize addAt dI d I k=at0 at *
   cases hg:gtB (dI x) d with
   | false =>
    rw [hg] at hst
    have hst:addAt dI d I (k+1)=at0:=hst
    have hat:decide ((at0:Int)=(ki.n:Int))=decide ((at0:Int)=(ki.n:Int)):=rfl
    repeat' (first|refine aw ?_ (cS false rfl rfl hne)|refine aw ?_ (gD _ rfl rfl hg)|refine aw ?_ (bg _ rfl rfl hat)|(refine ag (hc:=hD x hxm) (hX:=fun w h=>⟨h.1.1.2.2 x hxm,h.2⟩) ?_)|refine gs ?_|refine gs1 fun _=>?_|(refine aA (q:=k*49) ?_)|(refine aY (cs:=x.cells) (hF:=fun w h=>h.1.1.2.get hx) ?_)|(refine gp ?_ ?_<;>intro hx_ this)|fail)
    exact ⟨(⟨k+1,hlt⟩:AddI I),(by show I.length-(k+1)<I.length-k;omega),ak ⟨rfl,rfl,rfl,rfl,(by show _=some (Value.int .i64 (addAt dI d I (k+1):Nat));rw [hst];rfl),rfl,rfl,rfl,trivial⟩ (.cons _ (al _)) fun _ h=>h⟩
   | true =>
    by_cases ha:at0=I.length
    · rw [hg,decide_eq_true ha] at hst
      have hst:addAt dI d I (k+1)=k:=hst
      have hat:decide ((at0:Int)=(ki.n:Int))=true:=decide_eq_true ac
      repeat' (first|refine aw ?_ (cS false rfl rfl hne)|refine aw ?_ (gD _ rfl rfl hg)|refine aw ?_ (bg _ rfl rfl hat)|(refine ag (hc:=hD x hxm) (hX:=fun w h=>⟨h.1.1.2.2 x hxm,h.2⟩) ?_)|refine gs ?_|refine gs1 fun _=>?_|(refine aA (q:=k*49) ?_)|(refine aY (cs:=x.cells) (hF:=fun w h=>h.1.1.2.get hx) ?_)|(refine gp ?_ ?_<;>intro hx_ this)|fail)
      exact ⟨(⟨k+1,hlt⟩:AddI I),(by show I.length-(k+1)<I.length-k;omega),ak ⟨rfl,rfl,rfl,rfl,(by show _=some (Value.int .i64 (addAt dI d I (k+1):Nat));rw [hst];rfl),rfl,rfl,rfl,trivial⟩ (.cons _ (al _)) fun _ h=>h⟩
    · rw [hg,decide_eq_false ha] at hst
      have hst:addAt dI d I (k+1)=at0:=hst
      have hat:decide ((at0:Int)=(ki.n:Int))=false:=decide_eq_false ac
      repeat' (first|refine aw ?_ (cS false rfl rfl hne)|refine aw ?_ (gD _ rfl rfl hg)|refine aw ?_ (bg _ rfl rfl hat)|(refine ag (hc:=hD x hxm) (hX:=fun w h=>⟨h.1.1.2.2 x hxm,h.2⟩) ?_)|refine gs ?_|refine gs1 fun _=>?_|(refine aA (q:=k*49) ?_)|(refine aY (cs:=x.cells) (hF:=fun w h=>h.1.1.2.get hx) ?_)|(refine gp ?_ ?_<;>intro hx_ this)|fail)
      exact ⟨(⟨k+1,hlt⟩:AddI I),(by show I.length-(k+1)<I.length-k;omega),ak ⟨rfl,rfl,rfl,rfl,(by show _=some (Value.int .i64 (addAt dI d I (k+1):Nat));rw [hst];rfl),rfl,rfl,rfl,trivial⟩ (.cons _ (al _)) fun _ h=>h⟩
 have hkE:k=I.length:=by omega
 have hV:addV dI it I=I.take (addAt dI d I k)++it::I.drop (addAt dI d I k):=by rw [addV,hd,hkE]
 have hal:addAt dI d I k≤I.length:=by
  rcases xW dI d I k hk with h|h
  · omega
  · omega
 rw [hV]
 generalize addAt dI d I k=a0 at *
 have hones:∀ (J:List Xb),∀ cs∈J.map Xb.cells,cs.all (·.oneCell')=true:=fun J cs hcs=>by
  obtain ⟨x,_,rfl⟩:=List.mem_map.1 hcs
  rfl
 have hs1:∀ w,(((Y w∧Items w ki I)∧it.at_ w)∧Xg w)→Src Tryz.prog w 49 (.slice ki.p a0 ki.c) a0 ((I.take a0).map Xb.cells).flatten:=fun w h=>by
  have h1:=Xe.take (n:=a0) h.1.1.2.1 (by simpa using hal)
  rw [←List.map_take] at h1
  exact cO h1 (hones _)
 have hs2:∀ w,(((Y w∧Items w ki I)∧it.at_ w)∧Xg w)→Src Tryz.prog w 49 (ki.from 49 a0).v (ki.from 49 a0).n ((I.drop a0).map Xb.cells).flatten:=fun w h=>by
  have h1:=Xe.drop (n:=a0) h.1.1.2.1 (by simpa using hal)
  rw [←List.map_drop] at h1
  exact cO h1 (hones _)
 have hfn:(ki.from 49 a0).n=ki.n-a0:=rfl
 refine jR (c:=ki.n+1) (hm:=Nat.ble_eq_true_of_le ac) (hm2:=Nat.ble_eq_true_of_le ac) fun bv=>?_
 repeat' (first|refine gs ?_|refine gs1 fun _=>?_|(refine am (mx rfl rfl ac ac) rfl rfl rfl ?_)|(refine gp ?_ ?_<;>intro hx_ this)|fail)
 refine aH (size:=49) (news:=((I.take a0).map Xb.cells).flatten) (q:=a0) rfl rfl rfl rfl (fun _=>At.here _) (fun w G=>hs1 w G.keep.now) ac (by simp only [maxLen];omega) rfl ?_ rfl ?_
 · (first|with_reducible rfl|with_reducible assumption|with_reducible exact Bool.not_false|with_reducible exact Bool.not_true)
 intro A1 c1
 repeat' (first|refine bH (size:=49) (vs:=[it.v]) (css:=it.cells) (hsz:=by rfl) (hcs:=by rfl) fun _=>?_|refine gs ?_|refine gs1 fun _=>?_|(refine gp ?_ ?_<;>intro hx_ this)|fail)
 refine aH (size:=49) (news:=it.cells) (q:=1) rfl rfl rfl rfl (fun _=>At.there _ (At.here _)) (fun w G=>bu G ay rfl rfl 1) ac (by simp only [maxLen];omega) rfl ?_ rfl ?_
 · (first|with_reducible rfl|with_reducible assumption|with_reducible exact Bool.not_false|with_reducible exact Bool.not_true)
 intro A2 c2
 repeat' (first|refine gs ?_|refine gs1 fun _=>?_|(refine am (pE (s:=ki) rfl rfl ac ac) rfl rfl rfl ?_)|(refine gp ?_ ?_<;>intro hx_ this)|fail)
 refine aH (size:=49) (news:=((I.drop a0).map Xb.cells).flatten) (q:=ki.n-a0) rfl rfl rfl rfl (fun _=>At.there _ (At.here _)) (fun w G=>hs2 w G.keep.now) ac (by simp only [maxLen];omega) rfl ?_ rfl ?_
 · (first|with_reducible rfl|with_reducible assumption|with_reducible exact Bool.not_false|with_reducible exact Bool.not_true)
 intro A3 c3
 repeat' (first|refine gs ?_|refine gs1 fun _=>?_|(refine aL (cs:=[ks.v,.slice A3 (0+a0+1+(ki.n-a0)) c3]) (hf:=by rfl) ?_)|(refine gp ?_ ?_<;>intro hx_ this)|fail)
 refine ae (cB rfl rfl rfl aC (by rfl)) ⟨⟨A3,0+a0+1+(ki.n-a0),c3⟩,rfl,fun w h=>?_⟩
 have hr:=h.2 (orow 78 49 (.slice A3 (0+a0+1+(ki.n-a0)) c3) (0+a0+1+(ki.n-a0)) ([]++((I.take a0).map Xb.cells).flatten++it.cells++((I.drop a0).map Xb.cells).flatten)) aC
 refine ⟨aM (e:=78) (xs:=(I.take a0++it::I.drop a0).map Xb.cells) ?_ (by simp [hkn];omega) fun r hr=>?_,fun x hx=>?_⟩
 · have e:((I.take a0++it::I.drop a0).map Xb.cells).flatten=[]++((I.take a0).map Xb.cells).flatten++it.cells++((I.drop a0).map Xb.cells).flatten:=by simp
   rw [e]
   exact hr
 · obtain ⟨x,_,rfl⟩:=List.mem_map.1 hr
   rfl
 · rcases List.mem_append.1 hx with hx|hx
   · exact h.1.1.1.2.2 x (List.mem_of_mem_take hx)
   · rcases List.mem_cons.1 hx with rfl|hx
     · exact h.1.1.2
     · exact h.1.1.1.2.2 x (List.mem_of_mem_drop hx)
structure Xo where
 by_:Int
 do_:Int
 who:Int
 what:Int
 text:ByteArray
 time:Int
def Xo.cells (w:Xo):List Value:=[.int .i64 w.by_,.int .i64 w.do_,.int .i64 w.who,.int .i64 w.what,.string w.text,.int .i64 w.time]
def Xo.v (w:Xo):Value:=.agg w.cells.toArray
theorem aK (n:Int) (m:Nat) (hm:1≤m):∃ p:Nat,p<m∧pickV n m=(p:Int):=by
 have h1:n.tmod (m:Int)<m:=Int.tmod_lt_of_pos _ ac
 have h2:-(m:Int)<n.tmod m:=Int.lt_tmod_of_pos _ ac
 have hv:pickV n m=bif decide (n.tmod (m:Int)<0) then n.tmod (m:Int)+m else n.tmod (m:Int):=rfl
 generalize n.tmod (m:Int)=r at *
 by_cases h:r<0
 · rw [decide_eq_true h] at hv
   exact ⟨(r+m).toNat,by omega,by rw [hv];show r+m=_;omega⟩
 · rw [decide_eq_false h] at hv
   exact ⟨r.toNat,by omega,by rw [hv];show r=_;omega⟩
end Go.Proofs.YtgffbiobmamobaaGreatDoor
