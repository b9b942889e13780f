/- Joined. -/
import Derived.Test.YtgffbiobmamobaaGreatDoorI0
import Derived.Test.YtgffbiobmamobaaGreatDoorI33
import Derived.Test.YtgffbiobmamobaaGreatDoorI39
import Derived.Test.YtgffbiobmamobaaGreatDoorI14
import Derived.Test.YtgffbiobmamobaaGreatDoorI36
set_option linter.unusedVariables false
set_option linter.unusedSimpArgs false
set_option maxHeartbeats 16000000
namespace Go.Proofs.YtgffbiobmamobaaGreatDoor
open Go Go.Proofs Sy
structure CaseH where
 sw:Xi
 so:Xi
 sp:Xi
def CaseH.cells (h:CaseH):List Value:=[h.sw.v,h.so.v,h.sp.v]
def CaseH.v (h:CaseH):Value:=.agg h.cells.toArray
structure X9 (h:CaseH) (W:List Xo) (O:List Xk) (Q:List Xp) (w:World):Prop where
 wi:Wishes w h.sw W
 od:Xe w 8 h.so (O.map Xk.cells)
 pl:Xe w 4 h.sp (Q.map Xp.cells)
 glob:Xg w
structure CaseOk (W:List Xo) (O:List Xk) (Q:List Xp):Prop where
 wl:W.length≤10
 ol:O.length≤8
 ql:Q.length≤10
 wr:∀ x∈W,x.do_<9223372036854775808∧x.time<9223372036854775808
 or_:∀ x∈O,x.do_<9223372036854775808
def srvL:List Int:=[(keyS 0).p,(keyS 1).p]
def addActs (L:List Int) (I:List Xb) (xs:List Xc):List Xb:=xs.foldl (fun I a=>addK L I (ofActI a)) I
theorem nM (L:List Int) (I:List Xb) (xs:List Xc) (a:Xc):addActs L I (xs++[a])=addK L (addActs L I xs) (ofActI a):=by rw [addActs,List.foldl_append];rfl
structure OrdT where
 I:List Xb
 D:List Xf
 G:List ByteArray
def ordS (L:List Int) (pst:List ByteArray) (st:OrdT) (o:Xk) (n:Nat):OrdT :=
 bif canAdd L st.I (ofDecI (decG o n pst st.G)) then ⟨addK L st.I (ofDecI (decG o n pst st.G)),st.D++[decG o n pst st.G],st.G++[digIt (ofDecI (decG o n pst st.G))]⟩ else st
def ordX (L:List Int) (pst:List ByteArray) (I0:List Xb) (O:List Xk):Nat→OrdT
 | 0=>⟨I0,[],[]⟩
 | k+1=>match O[k]? with
  | none=>ordX L pst I0 O k
  | some o=>ordS L pst (ordX L pst I0 O k) o k
def heldC (W:List Xo):List Xa:=(goldV W).1
def heldI (W:List Xo):List Xb:=addActs srvL [] ((heldC W).flatMap Xa.actsL)
def heldO (pst:List ByteArray) (W:List Xo) (O:List Xk):OrdT:=ordX srvL pst (heldI W) O O.length
def heldT (pst:List ByteArray) (W:List Xo) (O:List Xk):Xz:=⟨(heldO pst W O).I,heldC W,(heldO pst W O).D,(heldO pst W O).G,[]⟩
def heldV (pst:List ByteArray) (W:List Xo) (O:List Xk) (Q:List Xp):Xz:=Q.foldl (pleadV srvL) (heldT pst W O)
def idsOk (P:List Xd):Prop:=∀ p∈P,p.id.size≤64
theorem o9 (a:Xc):(digV a).size≤64:=by
 rw [digV]
 cases seqB (bytesV a) ⟨#[]⟩ with
 | true=>exact Nat.zero_le _
 | false=>rw [cond_false,eN];decide
theorem nz (a:Xb):(digIt a).size≤64:=by
 rw [digIt]
 cases seqB (bytesIt a) ⟨#[]⟩ with
 | true=>exact Nat.zero_le _
 | false=>rw [cond_false,eN];decide
theorem l1 (c:Xa):∀ n,idsOk (openF c n)
 | 0=>fun p hp=>(List.not_mem_nil hp).elim
 | n+1=>fun p hp=>by
  rw [openF] at hp
  rcases List.mem_append.1 hp with hp|hp
  · exact l1 c n p hp
  · cases hk:postK (c.actsL.getD n Xc.zero).kind with
    | false=>rw [hk] at hp;exact (List.not_mem_nil hp).elim
    | true =>
     rw [hk,cond_true,List.mem_singleton] at hp
     subst hp
     exact o9 _
theorem oB {P:List Xd} (h:idsOk P) (o:Option Nat) {f:Xd→Xd} (hf:∀ p,(f p).id=p.id):idsOk (modP P o f):=by
 cases o with
 | none=>exact h
 | some n =>
  intro p hp
  rcases List.mem_or_eq_of_mem_set hp with hp|rfl
  · exact h p hp
  · rw [hf,List.getD_eq_getElem?_getD]
    cases hn:P[n]? with
    | none=>exact Nat.zero_le _
    | some x=>exact h x (List.mem_of_getElem? hn)
theorem rG (c:Xa):∀ n,idsOk (ofP c n)
 | 0=>l1 c _
 | n+1=>by
  have ih:=rG c n
  rw [ofP,stepP]
  cases decide ((c.actsL.getD n Xc.zero).kind=13) with
  | true=>exact oB ih _ fun p=>rfl
  | false =>
   rw [cond_false]
   cases decide ((c.actsL.getD n Xc.zero).kind=14) with
   | true=>exact oB ih _ fun p=>by rw [editP];cases editB (c.actsL.getD n Xc.zero) p<;>rfl
   | false=>exact ih
theorem tn {P:List Xd} {l:List Xa} (h:(P.map Xd.can).Perm (l.flatMap postsV)):∀ p∈P,p.id.size≤1000000:=fun p hp=>by
 have h1:=h.mem_iff.1 (List.mem_map_of_mem hp)
 obtain ⟨c,hc,h2⟩:=List.mem_flatMap.1 h1
 have:=rG c _ _ h2
 have h3:p.id.size≤64:=this
 omega
theorem qm (d:Xf):(ofDecI d).can=ofDecI d.can:=rfl
def iH (W:List Xo) (O:List Xk) (Q:List Xp):Bool:=decide (W.length≤10)&&(decide (O.length≤8)&&decide (Q.length≤10))
theorem wO (h:CaseH) (W:List Xo) (O:List Xk) (Q:List Xp):Pu Tryz.prog 5 #[h.v] (X9 h W O Q) (.bool (iH W O Q)):=by
 refine aq Tryz.func5 Tryz.ntmps5 fun av bor w0=>?_
 refine aD (p:=h.sw.n=W.length∧h.so.n=O.length∧h.sp.n=Q.length) (fun w x=>⟨by simpa using Xe.len x.wi,by simpa using Xe.len x.od,by simpa using Xe.len x.pl⟩) fun ⟨h1,h2,h3⟩=>?_
 obtain ⟨b1,e1⟩:∃ b,decide (W.length≤10)=b:=⟨_,rfl⟩
 obtain ⟨b2,e2⟩:∃ b,decide (O.length≤8)=b:=⟨_,rfl⟩
 obtain ⟨b3,e3⟩:∃ b,decide (Q.length≤10)=b:=⟨_,rfl⟩
 rw [iH,e1,e2,e3]
 cases b1<;>cases b2<;>cases b3
 all_goals
  simp only [decide_eq_true_eq,decide_eq_false_iff_not] at e1 e2 e3
  repeat' (first|refine gs ?_|refine gs1 fun _=>?_|(refine gp ?_ ?_<;>intro hx_ this)|fail)
  all_goals first
   | exact ae (aj rfl rfl) rfl
   | (exfalso;omega)
   | exact ae (aj rfl rfl) (congrArg Value.bool (decide_eq_true (show (h.sp.n:Int)≤10 by omega)))
   | exact ae (aj rfl rfl) (congrArg Value.bool (decide_eq_false (show ¬ (h.sp.n:Int)≤10 by omega)))
end Go.Proofs.YtgffbiobmamobaaGreatDoor
namespace Go.Proofs.YtgffbiobmamobaaGreatDoor
open Go Go.Proofs Sy Go.RowKit Go.Deep Go.ChangeShapes
section
variable {H:Type} {enc:TypeId×Value→H} {w:World} {base:Nat} {spare:Nat→Bool} {held:Bool}
theorem tw {fuel:Nat} {cs:List Value} {x:DataW H×List MemPlace} (h:DataW.trod enc Tryz.prog w base spare held fuel 103 cs=some x):∃ b:Xo,cs=b.cells∧b.do_<9223372036854775808∧b.time<9223372036854775808:=by
 have hl:=m8 Tryz.underlying103 (k:=6) ai h
 obtain ⟨n0,y0,h0⟩:=cM (i:=0) (off:=0) (k:=1) (t':=3) Tryz.underlying103 h rfl rfl rfl ai
 obtain ⟨n1,y1,h1⟩:=cM (i:=1) (off:=1) (k:=1) (t':=3) Tryz.underlying103 h rfl rfl rfl ai
 obtain ⟨n2,y2,h2⟩:=cM (i:=2) (off:=2) (k:=1) (t':=3) Tryz.underlying103 h rfl rfl rfl ai
 obtain ⟨n3,y3,h3⟩:=cM (i:=3) (off:=3) (k:=1) (t':=3) Tryz.underlying103 h rfl rfl rfl ai
 obtain ⟨n4,y4,h4⟩:=cM (i:=4) (off:=4) (k:=1) (t':=9) Tryz.underlying103 h rfl rfl rfl ai
 obtain ⟨n5,y5,h5⟩:=cM (i:=5) (off:=5) (k:=1) (t':=3) Tryz.underlying103 h rfl rfl rfl ai
 match cs,hl with
 | [c0,c1,c2,c3,c4,c5],_ =>
  obtain ⟨s0,e0,_⟩:=bP h0
  obtain ⟨s1,e1,b1⟩:=bP h1
  obtain ⟨s2,e2,_⟩:=bP h2
  obtain ⟨s3,e3,_⟩:=bP h3
  obtain ⟨s4,e4,_⟩:=tz h4
  obtain ⟨s5,e5,b5⟩:=bP h5
  simp at e0 e1 e2 e3 e4 e5
  exact ⟨⟨s0,s1,s2,s3,s4,s5⟩,by rw [e0,e1,e2,e3,e4,e5];rfl,b1,b5⟩
theorem qj {fuel:Nat} {cs:List Value} {x:DataW H×List MemPlace} (h:DataW.trod enc Tryz.prog w base spare held fuel 50 cs=some x):∃ b:Xk,cs=b.cells∧b.do_<9223372036854775808:=by
 have hl:=m8 Tryz.underlying50 (k:=8) ai h
 obtain ⟨n0,y0,h0⟩:=cM (i:=0) (off:=0) (k:=1) (t':=3) Tryz.underlying50 h rfl rfl rfl ai
 obtain ⟨n1,y1,h1⟩:=cM (i:=1) (off:=1) (k:=1) (t':=3) Tryz.underlying50 h rfl rfl rfl ai
 obtain ⟨n2,y2,h2⟩:=cM (i:=2) (off:=2) (k:=1) (t':=3) Tryz.underlying50 h rfl rfl rfl ai
 obtain ⟨n3,y3,h3⟩:=cM (i:=3) (off:=3) (k:=1) (t':=3) Tryz.underlying50 h rfl rfl rfl ai
 obtain ⟨n4,y4,h4⟩:=cM (i:=4) (off:=4) (k:=1) (t':=3) Tryz.underlying50 h rfl rfl rfl ai
 obtain ⟨n5,y5,h5⟩:=cM (i:=5) (off:=5) (k:=1) (t':=3) Tryz.underlying50 h rfl rfl rfl ai
 obtain ⟨n6,y6,h6⟩:=cM (i:=6) (off:=6) (k:=1) (t':=3) Tryz.underlying50 h rfl rfl rfl ai
 obtain ⟨n7,y7,h7⟩:=cM (i:=7) (off:=7) (k:=1) (t':=3) Tryz.underlying50 h rfl rfl rfl ai
 match cs,hl with
 | [c0,c1,c2,c3,c4,c5,c6,c7],_ =>
  obtain ⟨s0,e0,_⟩:=bP h0
  obtain ⟨s1,e1,b1⟩:=bP h1
  obtain ⟨s2,e2,_⟩:=bP h2
  obtain ⟨s3,e3,_⟩:=bP h3
  obtain ⟨s4,e4,_⟩:=bP h4
  obtain ⟨s5,e5,_⟩:=bP h5
  obtain ⟨s6,e6,_⟩:=bP h6
  obtain ⟨s7,e7,_⟩:=bP h7
  simp at e0 e1 e2 e3 e4 e5 e6 e7
  exact ⟨⟨s0,s1,s2,s3,s4,s5,s6,s7⟩,by rw [e0,e1,e2,e3,e4,e5,e6,e7];rfl,b1⟩
theorem tA {fuel:Nat} {cs:List Value} {x:DataW H×List MemPlace} (h:DataW.trod enc Tryz.prog w base spare held fuel 52 cs=some x):∃ b:Xp,cs=b.cells∧True:=by
 have hl:=m8 Tryz.underlying52 (k:=4) ai h
 obtain ⟨n0,y0,h0⟩:=cM (i:=0) (off:=0) (k:=1) (t':=3) Tryz.underlying52 h rfl rfl rfl ai
 obtain ⟨n1,y1,h1⟩:=cM (i:=1) (off:=1) (k:=1) (t':=4) Tryz.underlying52 h rfl rfl rfl ai
 obtain ⟨n2,y2,h2⟩:=cM (i:=2) (off:=2) (k:=1) (t':=3) Tryz.underlying52 h rfl rfl rfl ai
 obtain ⟨n3,y3,h3⟩:=cM (i:=3) (off:=3) (k:=1) (t':=3) Tryz.underlying52 h rfl rfl rfl ai
 match cs,hl with
 | [c0,c1,c2,c3],_ =>
  obtain ⟨s0,e0,_⟩:=bP h0
  obtain ⟨s1,e1⟩:=qk h1
  obtain ⟨s2,e2,_⟩:=bP h2
  obtain ⟨s3,e3,_⟩:=bP h3
  simp at e0 e1 e2 e3
  exact ⟨⟨s0,s1,s2,s3⟩,by rw [e0,e1,e2,e3];rfl,trivial⟩
theorem tB {fuel:Nat} {cs:List Value} {x:DataW H×List MemPlace} (h:DataW.trod enc Tryz.prog w base spare held fuel 26 cs=some x) :
  ∃ (c:CaseH) (W:List Xo) (O:List Xk) (Q:List Xp),cs=c.cells∧Wishes w c.sw W∧Xe w 8 c.so (O.map Xk.cells)∧Xe w 4 c.sp (Q.map Xp.cells)∧(∀ b∈W,b.do_<9223372036854775808∧b.time<9223372036854775808)∧∀ b∈O,b.do_<9223372036854775808:=by
 haveI:Inhabited Xo:=⟨⟨0,0,0,0,⟨#[]⟩,0⟩⟩
 haveI:Inhabited Xk:=⟨⟨0,0,0,0,0,0,0,0⟩⟩
 haveI:Inhabited Xp:=⟨⟨0,false,0,0⟩⟩
 have hl:=m8 Tryz.underlying26 (k:=3) ai h
 obtain ⟨n0,y0,h0⟩:=cM (i:=0) (off:=0) (k:=1) (t':=22) Tryz.underlying26 h rfl rfl rfl ai
 obtain ⟨n1,y1,h1⟩:=cM (i:=1) (off:=1) (k:=1) (t':=23) Tryz.underlying26 h rfl rfl rfl ai
 obtain ⟨n2,y2,h2⟩:=cM (i:=2) (off:=2) (k:=1) (t':=24) Tryz.underlying26 h rfl rfl rfl ai
 match cs,hl with
 | [c0,c1,c2],_ =>
  obtain ⟨s0,W,e0,r0,b0⟩:=iX (α:=Xo) Tryz.underlying22 (size:=6) ai Xo.cells _ (fun n cs y hy=>tw hy) h0
  obtain ⟨s1,O,e1,r1,b1⟩:=iX (α:=Xk) Tryz.underlying23 (size:=8) ai Xk.cells _ (fun n cs y hy=>qj hy) h1
  obtain ⟨s2,Q,e2,r2,_⟩:=iX (α:=Xp) Tryz.underlying24 (size:=4) ai Xp.cells _ (fun n cs y hy=>tA hy) h2
  simp at e0 e1 e2
  exact ⟨⟨s0,s1,s2⟩,W,O,Q,by rw [e0,e1,e2];rfl,r0,r1,r2,b0,b1⟩
end
end Go.Proofs.YtgffbiobmamobaaGreatDoor
