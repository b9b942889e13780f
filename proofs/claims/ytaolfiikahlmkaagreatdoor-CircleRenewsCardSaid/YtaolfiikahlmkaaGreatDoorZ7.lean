/- Joined. -/
import Derived.Test.YtaolfiikahlmkaaGreatDoorZ6
set_option linter.unusedVariables false
set_option linter.unusedSimpArgs false
set_option maxHeartbeats 16000000
namespace Go.Proofs.YtaolfiikahlmkaaGreatDoor
open Go Go.Proofs Sy
structure BldH where
 ks:SlV
 ki:SlV
 id:ByteArray
 fork:Bool
 q1:Nat
 q2:Nat
 cl:ClaimD
 wn:Bool
def bldC (h:BldH) (sa sk:SlV) (prev:ByteArray) (gen:Int):List Value:=[h.ks.v,h.ki.v,.string h.id,.slice sa.p sa.n sa.c,.slice sk.p sk.n sk.c,.string prev,.int .i64 gen,.bool h.fork,.map (some h.q1),.map (some h.q2),.string h.cl.actor,.int .i64 h.cl.base,.string h.cl.prev,.int .i64 h.cl.gen,.int .i64 h.cl.home,.int .i64 h.cl.pub,.int .i64 h.cl.time,.int .i64 h.cl.e,.int .i64 h.cl.s,.bool h.wn]
def actR (s:SlV) (L:List ActD):Res:=orow 46 20 (.slice s.p s.n s.c) s.n (L.map ActD.cells).flatten
def keyR (s:SlV) (L:List KeyD):Res:=orow 133 3 (.slice s.p s.n s.c) s.n (L.map KeyD.cells).flatten
def bldR (b:Nat) (h:BldH) (sa sk:SlV) (st:ChS) (pl:List (ByteArray×Value)):List Res:=[cel b 126 (bldC h sa sk st.prev (st.gen:Nat)),actR sa st.acts,keyR sk st.keys,mapr h.q2 pl]
def PlOk (pl:List (ByteArray×Value)) (l:List ActD):Prop:=∀ d,mget pl d=(idxV l d).map fun (j:Nat)=>Value.int .i64 (j:Int)
structure BldOk (sa sk:SlV) (st:ChS) (pl:List (ByteArray×Value)):Prop where
 hn:sa.n=st.acts.length
 hk:sk.n=st.keys.length
 hp:PlOk pl st.acts
def BldAt (b:Nat) (h:BldH) (st:ChS) (v u:Value) (R:List Res):Prop:=u=v∧∃ (sa sk:SlV) (pl:List (ByteArray×Value)),BldOk sa sk st pl∧R=bldR b h sa sk st pl
theorem pJ (l:List ActD) (x:ActD) (d:ByteArray):idxV (l++[x]) d=(idxV l d).or (bif seqB (digV x) d then some l.length else none):=by
 rw [idxV,idxV,List.findIdx?_append]
 congr 1
 rw [List.findIdx?_singleton]
 cases seqB (digV x) d with
 | true=>simp
 | false=>simp
theorem Bs {pl:List (ByteArray×Value)} {l:List ActD} (h:PlOk pl l) {x:ActD} {j:Nat} (hj:idxV l (digV x)=some j):PlOk pl (l++[x]):=fun d=>by
 rw [pJ,h d]
 cases hs:seqB (digV x) d with
 | true =>
  obtain rfl:=seqB_iff.1 hs
  rw [hj]
  rfl
 | false=>cases idxV l d<;>rfl
theorem Bt {pl:List (ByteArray×Value)} {l:List ActD} (h:PlOk pl l) {x:ActD} (hj:idxV l (digV x)=none):PlOk (mput pl (digV x) (.int .i64 (l.length:Nat))) (l++[x]):=fun d=>by
 rw [nN,pJ,eqbB]
 cases hs:seqB d (digV x) with
 | true =>
  obtain rfl:=seqB_iff.1 hs
  rw [hj,hs]
  rfl
 | false =>
  rw [xZ (digV x) d,hs,h d]
  cases idxV l d<;>rfl
theorem CO (b:Nat) (h:BldH) (sa sk:SlV) (st:ChS) (pl:List (ByteArray×Value)) (ok:BldOk sa sk st pl) (a:ActD) (ha:a.Rng) (hs:a.Sm) (hl:st.acts.length≤1000000) (hl2:st.keys.length≤1000000) :
  Ct Tryz.prog 65 #[.pointer (some ⟨b,0,none⟩),a.v] (bldR b h sa sk st pl) (fun w=>a.at_ w∧Glob w) (fun u R _=>BldAt b h (addS st a) (.tuple #[]) u R):=by
 obtain ⟨hn,hk,hp⟩:=ok
 refine dN (args:=[_,_]) _ Tryz.func65 rfl Tryz.ntmps65 rfl fun av bor w0=>?_
 have hlk:=hp (digV a)
 unfold bldR actR keyR
 repeat' (first|refine gs ?_|refine gs1 fun _=>?_|(refine sy_nilX (hp:=rfl) (h:=?_))|(refine gp ?_ ?_<;>intro hx_ this)|fail)
 rename_i b1
 refine fX (ι:=Option Addr×Nat) (fun i=>⟨[(0,.pointer (some ⟨b,0,none⟩)),(3,.pointer (some ⟨b1,0,none⟩)),(4,.pointer (some ⟨b,2,none⟩)),(5,.int .i64 (sa.n:Nat))],[cel b1 46 a.cells,cel b 126 (bldC h ⟨i.1,sa.n+1,i.2⟩ sk st.prev (st.gen:Nat)),orow 46 20 (.slice i.1 (sa.n+1) i.2) (sa.n+1) ((st.acts.map ActD.cells).flatten++a.cells),orow 133 3 (.slice sk.p sk.n sk.c) sk.n (st.keys.map KeyD.cells).flatten,mapr h.q2 pl],fun w=>a.at_ w∧Glob w⟩) ?_ fun i=>?_
 · (refine aq ⟨[0,1,2,3,5],[(4,⟨[],[(6,⟨[],[(7,⟨[8,9],[(10,⟨[],[]⟩)]⟩)]⟩)]⟩),(6,⟨[],[(4,⟨[],[(7,⟨[8,9],[(10,⟨[],[]⟩)]⟩)]⟩)]⟩)]⟩ [cel b1 46 a.cells] (fun w=>a.at_ w∧Glob w) (h:=?_))
   all_goals repeat' (first|refine gdz ?_|refine az ?_ (h':=?_)|exact aA|refine du (size:=20) (vs:=[a.v]) (css:=a.cells) (hsz:=by rfl) (hcs:=by rfl) fun _=>?_|(refine ia ?_;refine aN (size:=20) (news:=a.cells) (q:=1) rfl rfl rfl rfl (fun _=>by (repeat (first|with_reducible exact At.here _|apply At.there))) (fun w G=>bX G bz rfl rfl 1) aa (by simp only [maxLen];omega) rfl ?_ rfl ?_;(first|with_reducible rfl|with_reducible assumption|with_reducible exact Zl|with_reducible exact Zn);intro A2 c2)|refine gs1 fun _=>?_|(refine gq ?_ ?_<;>intro hx_ this)|fail)
   all_goals exact ⟨(_,_),aj ao (Z2 _ (al _)) fun w h=>h⟩
 obtain ⟨A2,c2⟩:=i
 simp only
 repeat' (first|refine gs ?_|refine gs1 fun _=>?_|(refine gp ?_ ?_<;>intro hx_ this)|fail)
 refine bS (hc:=sR a ha hs) (hX:=fun w h=>h.1) fun v1 X1 h1=>?_
 obtain ⟨x',rfl,hdig,hr',hat⟩:=h1
 refine ab (hc:=pQ x' hr') (hX:=fun w h=>⟨hat w h.2,h.1.2⟩) ?_
 rw [hdig]
 generalize hD:digV a=D at hlk
 refine lj ?_
 refine bC ?_
 refine bx ?_
 apply bq
 apply QQ
 refine fX (ι:={ pl':List (ByteArray×Value) // PlOk pl' (st.acts++[a]) }) (fun i=>⟨[(3,.pointer (some ⟨b1,0,none⟩)),(4,.pointer (some ⟨b,2,none⟩)),(5,.int .i64 (sa.n:Nat))],[cel b1 46 a.cells,cel b 126 (bldC h ⟨A2,sa.n+1,c2⟩ sk D (st.gen:Nat)),orow 46 20 (.slice A2 (sa.n+1) c2) (sa.n+1) ((st.acts.map ActD.cells).flatten++a.cells),orow 133 3 (.slice sk.p sk.n sk.c) sk.n (st.keys.map KeyD.cells).flatten,mapr h.q2 i.1],fun w=>a.at_ w∧Glob w⟩) ?_ fun i=>?_
 · have hpn:=fun hj=>Bt hp (x:=a) hj
   have hpo:=fun j hj=>Bs hp (x:=a) (j:=j) hj
   rw [hD] at hpn hpo
   cases hj:idxV st.acts D with
   | none =>
    rw [hj] at hlk
    apply QQ
    (refine aq ⟨[0,1,2,3,4,5,6,7],[(8,⟨[9,10,11,12,13],[]⟩)]⟩ [cel b1 46 a.cells,cel b 126 (bldC h ⟨A2,sa.n+1,c2⟩ sk D (st.gen:Nat)),orow 46 20 (.slice A2 (sa.n+1) c2) (sa.n+1) ((st.acts.map ActD.cells).flatten++a.cells),orow 133 3 (.slice sk.p sk.n sk.c) sk.n (st.keys.map KeyD.cells).flatten,mapr h.q2 pl] (fun w=>(a.at_ w∧Glob w)∧X1 w) (h:=?_))
    all_goals repeat' (first|refine gdz ?_|refine az ?_ (h':=?_)|exact aA|(refine eR (κ:=ByteArray) (kk:=D) (b:=false) (v:=.int .i64 0) (hl:=wk bz) (ho:=hlk) ?_)|refine gs1 fun _=>?_|(refine gq ?_ ?_<;>intro hx_ this)|fail)
    all_goals
     repeat' (first|refine gs ?_|refine gs1 fun _=>?_|(refine gp ?_ ?_<;>intro hx_ this)|fail)
     (refine aq ⟨[0,1,2,3,4,5,6,7,8],[(9,⟨[],[]⟩)]⟩ [cel b1 46 a.cells,cel b 126 (bldC h ⟨A2,sa.n+1,c2⟩ sk D (st.gen:Nat)),orow 46 20 (.slice A2 (sa.n+1) c2) (sa.n+1) ((st.acts.map ActD.cells).flatten++a.cells),orow 133 3 (.slice sk.p sk.n sk.c) sk.n (st.keys.map KeyD.cells).flatten] (fun w=>(a.at_ w∧Glob w)∧X1 w) (h:=?_))
     all_goals repeat' (first|refine gdz ?_|refine az ?_ (h':=?_)|exact aA|(refine pb (κ:=ByteArray) (kk:=D) (v:=.int .i64 (sa.n:Nat)) ?_)|refine gs1 fun _=>?_|(refine gq ?_ ?_<;>intro hx_ this)|fail)
     all_goals exact ⟨⟨mput pl D (.int .i64 (sa.n:Nat)),by rw [hn];exact hpn hj⟩,aj ao (al _) fun w h=>h.1⟩
   | some j =>
    rw [hj] at hlk
    apply QQ
    (refine aq ⟨[0,1,2,3,4,5,6,7],[(8,⟨[9,10,11,12,13],[]⟩)]⟩ [cel b1 46 a.cells,cel b 126 (bldC h ⟨A2,sa.n+1,c2⟩ sk D (st.gen:Nat)),orow 46 20 (.slice A2 (sa.n+1) c2) (sa.n+1) ((st.acts.map ActD.cells).flatten++a.cells),orow 133 3 (.slice sk.p sk.n sk.c) sk.n (st.keys.map KeyD.cells).flatten,mapr h.q2 pl] (fun w=>(a.at_ w∧Glob w)∧X1 w) (h:=?_))
    all_goals repeat' (first|refine gdz ?_|refine az ?_ (h':=?_)|exact aA|(refine eR (κ:=ByteArray) (kk:=D) (b:=true) (v:=.int .i64 (j:Nat)) (hl:=wk bz) (ho:=hlk) ?_)|refine gs1 fun _=>?_|(refine gq ?_ ?_<;>intro hx_ this)|fail)
    all_goals
     repeat' (first|refine gs ?_|refine gs1 fun _=>?_|(refine gp ?_ ?_<;>intro hx_ this)|fail)
     exact ⟨⟨pl,hpo j hj⟩,aj ao (al _) fun w h=>h.1⟩
 obtain ⟨pl',hpl'⟩:=i
 simp only
 clear hp hlk hdig hr' hat
 have hfl:((st.acts++[a]).map ActD.cells).flatten=(st.acts.map ActD.cells).flatten++a.cells:=by simp
 by_cases hk18:a.kind=18
 · have hst:addS st a=⟨st.acts++[a],st.keys++[⟨((sa.n+1:Nat):Int),a.n,a.m⟩],D,st.gen⟩:=by rw [addS,hk18,hD,hn];rfl
   have hfk:((st.keys++[(⟨((sa.n+1:Nat):Int),a.n,a.m⟩:KeyD)]).map KeyD.cells).flatten=(st.keys.map KeyD.cells).flatten++KeyD.cells ⟨((sa.n+1:Nat):Int),a.n,a.m⟩:=by simp
   repeat' (first|refine aP (hab:=hk18) ?_|refine gs ?_|refine gs1 fun _=>?_|(refine gp ?_ ?_<;>intro hx_ this)|fail)
   (refine aq ⟨[0,1,2,3,5,6,7,8,9,10,11],[(4,⟨[],[(12,⟨[],[(13,⟨[14,15],[(16,⟨[],[]⟩)]⟩)]⟩)]⟩),(12,⟨[],[(4,⟨[],[(13,⟨[14,15],[(16,⟨[],[]⟩)]⟩)]⟩)]⟩)]⟩ [cel b1 46 a.cells] (fun w=>a.at_ w∧Glob w) (h:=?_))
   all_goals repeat' (first|refine gdz ?_|refine ay (hsub:=by exact aK) (hy:=by first|(apply ft (cs:=KeyD.cells ⟨((sa.n+1:Nat):Int),a.n,a.m⟩);rfl;rfl)) ?_|refine az ?_ (h':=?_)|exact aA|refine du (size:=3) (vs:=[KeyD.v ⟨((sa.n+1:Nat):Int),a.n,a.m⟩]) (css:=KeyD.cells ⟨((sa.n+1:Nat):Int),a.n,a.m⟩) (hsz:=by rfl) (hcs:=by rfl) fun _=>?_|(refine ia ?_;refine aN (size:=3) (news:=KeyD.cells ⟨((sa.n+1:Nat):Int),a.n,a.m⟩) (q:=1) rfl rfl rfl rfl (fun _=>by (repeat (first|with_reducible exact At.here _|apply At.there))) (fun w G=>bX G bz rfl rfl 1) aa (by simp only [maxLen];omega) rfl ?_ rfl ?_;(first|with_reducible rfl|with_reducible assumption|with_reducible exact Zl|with_reducible exact Zn);intro A3 c3)|refine gs1 fun _=>?_|(refine gq ?_ ?_<;>intro hx_ this)|fail)
   all_goals
    refine bK (bu rfl) ⟨_,Z2 _ (Z2 _ (al _)),rfl,⟨A2,sa.n+1,c2⟩,⟨A3,sk.n+1,c3⟩,pl',⟨?_,?_,?_⟩,?_⟩
    · rw [hst,ZA,hn];rfl
    · rw [hst,ZA,hk];rfl
    · rw [hst];exact hpl'
    · rw [hst]
      unfold bldR actR keyR
      rw [hfl,hfk]
      rfl
 · repeat' (first|refine aL (hab:=hk18) ?_|refine gs ?_|refine gs1 fun _=>?_|(refine gp ?_ ?_<;>intro hx_ this)|fail)
   have hst:addS st a=⟨st.acts++[a],st.keys,D,st.gen⟩:=by rw [addS,hD,Zc hk18];rfl
   refine bK (bu rfl) ⟨_,Z2 _ (al _),rfl,⟨A2,sa.n+1,c2⟩,sk,pl',⟨?_,?_,?_⟩,?_⟩
   · rw [hst,ZA,hn];rfl
   · rw [hst,hk]
   · rw [hst];exact hpl'
   · rw [hst]
     unfold bldR actR keyR
     rw [hfl]
end Go.Proofs.YtaolfiikahlmkaaGreatDoor
namespace Go.Proofs.YtaolfiikahlmkaaGreatDoor
open Go Go.Proofs Sy
def BldH.look (h:BldH) (o:Option ClaimD):BldH:={ h with cl:=o.getD ClaimD.zero,wn:=o.isSome }
def bldCel (b:Nat) (h:BldH) (sa sk:SlV) (st:ChS):Res:=cel b 126 (bldC h sa sk st.prev (st.gen:Nat))
theorem wo (b:Nat) (h:BldH) (sa sk:SlV) (st:ChS) (o:Option ClaimD) (Y:World→Prop)
  (hwon:Pu Tryz.prog 115 #[.agg #[h.ks.v,h.ki.v],.string h.id,.int .i64 (st.gen:Nat)] Y (.tuple #[(o.getD ClaimD.zero).v,.bool o.isSome])) :
  Ct Tryz.prog 66 #[.pointer (some ⟨b,0,none⟩)] [bldCel b h sa sk st] Y (fun u R _=>u=.tuple #[]∧R=[bldCel b (h.look o) sa sk st]):=by
 refine dN (args:=[_]) _ Tryz.func66 rfl Tryz.ntmps66 rfl fun av bor w0=>?_
 unfold bldCel
 generalize hc:o.getD ClaimD.zero=c at hwon
 generalize hi:o.isSome=i at hwon
 have hL:h.look o={ h with cl:=c,wn:=i }:=by rw [BldH.look,hc,hi]
 rw [hL]
 (refine aq ⟨[0,1,2,3,4,6,7,8,9,11,12,13,14],[(5,⟨[],[(10,⟨[],[(15,⟨[],[(16,⟨[17,18,19,20,21],[(22,⟨[23,24],[(25,⟨[],[]⟩)]⟩)]⟩)]⟩)]⟩),(15,⟨[],[(10,⟨[],[(16,⟨[17,18,19,20,21],[(22,⟨[23,24],[(25,⟨[],[]⟩)]⟩)]⟩)]⟩)]⟩)]⟩),(10,⟨[],[(5,⟨[],[(15,⟨[],[(16,⟨[17,18,19,20,21],[(22,⟨[23,24],[(25,⟨[],[]⟩)]⟩)]⟩)]⟩)]⟩),(15,⟨[],[(5,⟨[],[(16,⟨[17,18,19,20,21],[(22,⟨[23,24],[(25,⟨[],[]⟩)]⟩)]⟩)]⟩)]⟩)]⟩),(15,⟨[],[(5,⟨[],[(10,⟨[],[(16,⟨[17,18,19,20,21],[(22,⟨[23,24],[(25,⟨[],[]⟩)]⟩)]⟩)]⟩)]⟩),(10,⟨[],[(5,⟨[],[(16,⟨[17,18,19,20,21],[(22,⟨[23,24],[(25,⟨[],[]⟩)]⟩)]⟩)]⟩)]⟩)]⟩)]⟩ [] (fun w=>Y w) (h:=?_))
 all_goals repeat' (first|(refine ab (hc:=hwon) (hX:=fun w h=>h) ?_)|refine gd ?_|refine az ?_ (h':=?_)|exact aA|(refine aw (vs:=[h.ks.v,h.ki.v]) (hv:=rfl) ?_)|(refine dG (bldC { h with cl:=c } sa sk st.prev (st.gen:Nat)) (h:=?_))|(refine dG (bldC { h with cl:=c,wn:=i } sa sk st.prev (st.gen:Nat)) (h:=?_))|(refine gq ?_ ?_<;>intro hx_ this)|fail)
 all_goals exact bK (bu rfl) ⟨_,al _,rfl,rfl⟩
namespace Sy
section
variable {P:Program} {N:Nat} {av bor:List Nat} {w0:World} {st:St} {t:TypeId} {ty:TypeId} {x:Operand}
theorem gH {e size m i c j:Nat} [h:TyOne P t] {A:Option Addr} {xs:List (List Value)} {cs:List Value} {u:Value} (hx:ev st.env x=some (elP A (i*size+j))) (hm:orow e size (.slice A m c) m xs.flatten∈st.loc) (hn:m=xs.length) (hs:∀ r∈xs,r.length=size) (hi:xs[i]?=some cs) (hj:cs[j]?=some u) :
  Yields P N av bor w0 st (.load t x) ty u:=Sy.Yields.mk fun B w ok d pos af g=>by
 have hr:=ck (ok.gam.here _ hm).now hn hs
 obtain ⟨h1,hp,hc⟩:=RowsD.row hr i cs hi
 obtain ⟨a,rfl⟩:=QN.1 hp
 simp [execOp,ok.eval hx,elP,Instr.loadAt,Instr.sureAddr,loadVar,(cv h.out w).1,(hc j u hj).2 a rfl]
theorem ef [h:TyOne P t] {bl j:Nat} {v:Value} (hx:ev st.env x=some (.pointer (some ⟨bl,j,none⟩))) (hF:∀ w,st.ext w→w.cell? ⟨bl,j,none⟩=some v):Yields P N av bor w0 st (.load t x) ty v:=Sy.Yields.mk fun B w ok d pos af g=>by
 simp [execOp,ok.eval hx,Instr.loadAt,Instr.sureAddr,loadVar,(cv h.out w).1,hF w ok.gam.keep.now]
end
end Sy
def CelD (b:Nat) (cs:List Value) (w:World):Prop:=∀ j v,cs[j]?=some v→w.cell? ⟨b,j,none⟩=some v
theorem fC {b T:Nat} {cs:List Value} {w:World} (h:(cel b T cs).F w):CelD b cs w:=fun j v hj=>by
 have h1:w.heap[b]?=some (.cells cs.toArray T (0,0)):=h
 simp [World.cell?,h1,hj]
theorem Cz (b b1:Nat) (h:BldH) (sa sk:SlV) (st:ChS) (pl:List (ByteArray×Value)) (hp:PlOk pl st.acts) (d:ByteArray) :
  Pu Tryz.prog 118 #[.string d,.pointer (some ⟨b1,0,none⟩)] (fun w=>CelD b1 [.pointer (some ⟨b,0,none⟩)] w∧CelD b (bldC h sa sk st.prev (st.gen:Nat)) w∧MapAt w h.q2 pl) (idxP (idxV st.acts d)):=by
 refine ak (args:=[_,_]) _ Tryz.func118 rfl Tryz.ntmps118 rfl fun av bor w0=>?_
 have hlk:=hp d
 cases hj:idxV st.acts d with
 | none =>
  rw [hj] at hlk
  repeat' (first|refine gs ?_|(refine ai (ef rfl (fun w h=>h.1 0 _ rfl)) rfl rfl rfl ?_)|(refine ai (ef rfl (fun w h=>h.2.1 9 _ rfl)) rfl rfl rfl ?_)|(refine eR (κ:=ByteArray) (kk:=d) (b:=false) (v:=.int .i64 0) (hl:=mj fun w h=>h.2.2) (ho:=hlk) ?_)|(refine gp ?_ ?_<;>intro hx_ this)|fail)
  exact ad (dH rfl rfl rfl) rfl
 | some j =>
  rw [hj] at hlk
  repeat' (first|refine gs ?_|(refine ai (ef rfl (fun w h=>h.1 0 _ rfl)) rfl rfl rfl ?_)|(refine ai (ef rfl (fun w h=>h.2.1 9 _ rfl)) rfl rfl rfl ?_)|(refine eR (κ:=ByteArray) (kk:=d) (b:=true) (v:=.int .i64 (j:Nat)) (hl:=mj fun w h=>h.2.2) (ho:=hlk) ?_)|(refine gp ?_ ?_<;>intro hx_ this)|fail)
  exact ad (dH rfl rfl rfl) rfl
end Go.Proofs.YtaolfiikahlmkaaGreatDoor
namespace Go.Proofs.YtaolfiikahlmkaaGreatDoor
open Go Go.Proofs Sy
structure FndA where
 rank:Int
 dg:ByteArray
 a:ActD
def FndA.cells (f:FndA):List Value:=.int .i64 f.rank::.string f.dg::f.a.cells
def fndR (s:SlV) (P:List FndA):Res:=orow 243 22 (.slice s.p s.n s.c) s.n (P.map FndA.cells).flatten
theorem Et (P:List FndA):∀ r∈P.map FndA.cells,r.length=22:=fun r hr=>by
 obtain ⟨c,_,rfl⟩:=QI.1 hr
 rfl
def cmpA:Value:=.func (.func 184) #[] #[]
def PermA (s:SlV) (P:List FndA) (u:Value) (R:List Res) (X:World→Prop):Prop:=u=.tuple #[]∧∃ Q:List FndA,Q.Perm P∧R=[fndR s Q]
def SortA (n:Nat):Prop:=∀ (s:SlV) (P:List FndA),s.n=P.length→P.length≤n→Ct Tryz.prog 183 #[s.v,cmpA] [fndR s P] (fun _=>True) (PermA s P)
theorem df {P:Program} {fn:Func} {N t u u2 ty n:Nat} {s:St} {b T:Nat} {cs:List Value} {x y:Value} [hI:TyAgg P ty n] (hr:fn.results=#[.cell t ty,.tmp u,.tmp u2]) (h:Sy.look s.env t=some (.pointer (some ⟨b,0,none⟩))) (h':Sy.look s.env u=some x) (h2':Sy.look s.env u2=some y) (hm:cel b T cs∈s.loc) (hn:cs.length=n) :
  Res1 P fn N s (.tuple #[.agg cs.toArray,x,y]):=fun av bor w0 a w ok=>by
 obtain ⟨D,h1,h2,h3⟩:=cV hI.out
 have ht:=ok.env t _ h
 have hu:=ok.env u _ h'
 have hu2:=ok.env u2 _ h2'
 have:(loadVar ty ⟨b,0,none⟩).run P w=.ok (.agg cs.toArray) w:=by
  cases D<;>simp at h2
  · exact run_loadVar_row w b T ty cs.toArray (0,0) _ (eO ok hm) h1 rfl (by rw [h3];simp [hn])
  · exact run_loadVar_row w b T ty cs.toArray (0,0) _ (eO ok hm) h1 rfl (by rw [h3];simp [hn])
 simp [results,hr,ht,hu,hu2,asAddr,this]
def wantA (au:ByteArray) (it:ItemD):Bool:=decide (it.kind=0)&&seqB it.act.author au
theorem zK (bW:Nat) (au:ByteArray) (it:ItemD):Pu Tryz.prog 110 #[it.v,.pointer (some ⟨bW,0,none⟩)] (CelD bW [.string au]) (.tuple #[it.act.v,.int .i64 it.act.seq,.bool (wantA au it)]):=by
 refine ak (args:=[_,_]) _ Tryz.func110 rfl Tryz.ntmps110 rfl fun av bor w0=>?_
 repeat' (first|refine gs ?_|refine gs1 fun _=>?_|(refine gp ?_ ?_<;>intro hx_ this)|fail)
 rename_i b2 b3
 by_cases h0:it.kind=0
 · (refine aq ⟨[0,1,2,3,4,5,6,7,8,9,10,11,12,13,14],[(15,⟨[16,17],[]⟩)]⟩ [cel b2 60 it.cells] (CelD bW [.string au]) (h:=?_))
   all_goals repeat' (first|refine ay (hsub:=by exact aK) (hy:=by first|(apply dS true;rfl;rfl;exact Zd h0)) ?_|refine gdz ?_|refine ay (hsub:=by exact aK) (hy:=by first|(apply cC (vs:=it.act.cells);rfl;exact .head _;rfl;rfl)|(apply ef;rfl;exact (fun w h=>h 0 _ rfl))) ?_|refine az ?_ (h':=?_)|exact aA|refine gs1 fun _=>?_|(refine gq ?_ ?_<;>intro hx_ this)|fail)
   all_goals
    repeat' (first|refine gs ?_|refine gs1 fun _=>?_|(refine gp ?_ ?_<;>intro hx_ this)|fail)
    exact ad (df rfl rfl rfl rfl (.head _) rfl) (by rw [wantA,Zd h0];rfl)
 · (refine aq ⟨[0,1,2,3,4,5,6,7,8,9,10,11,12,13,14],[(15,⟨[16,17],[]⟩)]⟩ [cel b2 60 it.cells] (CelD bW [.string au]) (h:=?_))
   all_goals repeat' (first|refine ay (hsub:=by exact aK) (hy:=by first|(apply dS false;rfl;rfl;exact Zc h0)) ?_|refine gdz ?_|refine ay (hsub:=by exact aK) (hy:=by first|(apply cC (vs:=it.act.cells);rfl;exact .head _;rfl;rfl)|(apply ef;rfl;exact (fun w h=>h 0 _ rfl))) ?_|refine az ?_ (h':=?_)|exact aA|refine gs1 fun _=>?_|(refine gq ?_ ?_<;>intro hx_ this)|fail)
   all_goals
    repeat' (first|refine gs ?_|refine gs1 fun _=>?_|(refine gp ?_ ?_<;>intro hx_ this)|fail)
    exact ad (df rfl rfl rfl rfl (.head _) rfl) (by rw [wantA,Zc h0];rfl)
def fndOf (dI:ItemD→ByteArray) (it:ItemD):FndA:=⟨it.act.seq,dI it,it.act⟩
def selB (au:ByteArray) (rI:ItemD→Bool) (it:ItemD):Bool:=wantA au it&&rI it
def selF (au:ByteArray) (rI:ItemD→Bool) (dI:ItemD→ByteArray) (I:List ItemD):List FndA:=(I.filter (selB au rI)).map (fndOf dI)
def selA (au:ByteArray) (rI:ItemD→Bool) (I:List ItemD):List ActD:=(I.filter (selB au rI)).map ItemD.act
theorem FS (au:ByteArray) (rI:ItemD→Bool) (dI:ItemD→ByteArray) (I:List ItemD):(selF au rI dI I).map FndA.a=selA au rI I:=by rw [selF,selA,Z0];rfl
structure PikI (I:List ItemD) (au:ByteArray) (rI:ItemD→Bool) (dI:ItemD→ByteArray) where
 k:Nat
 hk:k≤I.length
 A:Option Addr
 c:Nat
 n:Nat
 hn:n=(selF au rI dI (I.take k)).length
 xs:List Value
 hxs:xs=((selF au rI dI (I.take k)).map FndA.cells).flatten
structure ValI (Q:List FndA) where
 k:Nat
 hk:k≤Q.length
 A:Option Addr
 c:Nat
 xs:List Value
 hxs:xs=((Q.take k).map fun f=>f.a.cells).flatten
def wantV (bW:Nat):Value:=.func (.func 110) #[] #[.pointer (some ⟨bW,0,none⟩)]
theorem Bu (ks ki:SlV) (I:List ItemD) (bW:Nat) (au:ByteArray) (rI:ItemD→Bool) (dI:ItemD→ByteArray)
  (hR:∀ it∈I,Pu Tryz.prog 73 #[it.v] (fun w=>it.at_ w) (.bool (rI it)))
  (hD:∀ it∈I,Pu Tryz.prog 18 #[it.v] (fun w=>it.at_ w∧Glob w) (.string (dI it)))
  (hI:I.length≤1000) (hsort:SortA I.length) :
  Mk Tryz.prog 109 #[.agg #[ks.v,ki.v],wantV bW] (fun w=>(Items w ki I∧CelD bW [.string au] w)∧Glob w)
   (fun u X'=>∃ (s:SlV) (L:List ActD),u=s.v∧L.Perm (selA au rI I)∧∀ w,X' w→Acts w s L):=by
 refine bZ (args:=[_,_]) _ Tryz.func109 rfl Tryz.ntmps109 rfl fun av bor w0=>?_
 refine aM (p:=ki.n=I.length∧ki.n≤maxLen∧(0<I.length→ki.p.isSome=true)) (fun w h=>⟨h.1.1.len_,h.1.1.max_,h.1.1.some_⟩) fun ⟨hkn,hkm,hkp⟩=>?_
 simp only [maxLen] at hkm
 repeat' (first|refine gs ?_|refine gs1 fun _=>?_|fail)
 rename_i b2
 refine cJ 243 22 ?_
 refine ar (ι:=PikI I au rI dI) (fun i=>⟨[(1,wantV bW),(5,.slice i.A i.n i.c),(15,ki.v),(16,.int .i64 (ki.n:Nat)),(17,.int .i64 (i.k:Nat))],[orow 243 22 (.slice i.A i.n i.c) i.n i.xs],fun w=>(Items w ki I∧CelD bW [.string au] w)∧Glob w⟩) (fun i=>I.length-i.k) ⟨0,Z4 _,none,0,0,rfl,[],rfl⟩ (aj ao (.cons_cons _ (Zu _)) fun _ h=>h) fun i=>?_
 obtain ⟨k,hk,A,c,n,hn,xs,hxs⟩:=i
 simp only
 repeat' (first|refine gs ?_|refine gs1 fun _=>?_|(refine gp ?_ ?_<;>intro hx_ this)|fail)
 · have hlt:k<I.length:=by omega
   have hkp':=hkp aa
   obtain ⟨it,hit⟩:∃ it,I[k]?=some it:=⟨_,Zb hlt⟩
   have him:=Z6 hit
   have hnl:n≤1000:=by
    rw [hn,selF,ZF]
    exact ZY (Qa _ _) (by rw [Qi];omega)
   repeat' (first|refine gs ?_|refine gs1 fun _=>?_|(refine aO (q:=k*49) ?_)|(refine ca (cs:=it.cells) (hF:=fun w h=>h.1.1.get hit) ?_)|(refine gp ?_ ?_<;>intro hx_ this)|fail)
   rename_i b7
   have hri:=hR it him
   have hdi:=hD it him
   have hwa:=zK bW au it
   have htk:selF au rI dI (I.take (k+1))=selF au rI dI (I.take k)++(bif selB au rI it then [fndOf dI it] else []):=by
    rw [selF,selF,Qg,hit,Qv,ZW,Qu]
    congr 1
    cases hb:selB au rI it with
    | true=>simp [hb]
    | false=>simp [hb]
   cases hwt:wantA au it with
   | false =>
    rw [hwt] at hwa
    have hno:selF au rI dI (I.take (k+1))=selF au rI dI (I.take k):=by rw [htk,selB,hwt];exact ZJ _
    refine fq (args:=[it.v]) (all:=[it.v,.pointer (some ⟨bW,0,none⟩)]) (first:=#[]) (caps:=#[.pointer (some ⟨bW,0,none⟩)]) (hx:=rfl) (ha:=rfl) (hall:=rfl) (hc:=hwa) (hX:=fun w h=>h.1.2) (h:=?_)
    repeat' (first|refine gs ?_|refine gs1 fun _=>?_|(refine gp ?_ ?_<;>intro hx_ this)|fail)
    exact ⟨(⟨k+1,hlt,A,c,n,by rw [hno];exact hn,xs,by rw [hno];exact hxs⟩:PikI I au rI dI),(by show I.length-(k+1)<I.length-k;omega),aj ao (.cons _ (.cons _ (al _))) fun _ h=>h⟩
   | true =>
    rw [hwt] at hwa
    cases hrt:rI it with
    | false =>
     rw [hrt] at hri
     have hno:selF au rI dI (I.take (k+1))=selF au rI dI (I.take k):=by rw [htk,selB,hwt,hrt];exact ZJ _
     refine fq (args:=[it.v]) (all:=[it.v,.pointer (some ⟨bW,0,none⟩)]) (first:=#[]) (caps:=#[.pointer (some ⟨bW,0,none⟩)]) (hx:=rfl) (ha:=rfl) (hall:=rfl) (hc:=hwa) (hX:=fun w h=>h.1.2) (h:=?_)
     repeat' (first|(refine ab (hc:=hri) (hX:=fun w h=>h.1.1.2 it him) ?_)|refine gs ?_|refine gs1 fun _=>?_|(refine gp ?_ ?_<;>intro hx_ this)|fail)
     exact ⟨(⟨k+1,hlt,A,c,n,by rw [hno];exact hn,xs,by rw [hno];exact hxs⟩:PikI I au rI dI),(by show I.length-(k+1)<I.length-k;omega),aj ao (.cons _ (.cons _ (al _))) fun _ h=>h⟩
    | true =>
     rw [hrt] at hri
     have hyes:selF au rI dI (I.take (k+1))=selF au rI dI (I.take k)++[fndOf dI it]:=by rw [htk,selB,hwt,hrt];rfl
     refine fq (args:=[it.v]) (all:=[it.v,.pointer (some ⟨bW,0,none⟩)]) (first:=#[]) (caps:=#[.pointer (some ⟨bW,0,none⟩)]) (hx:=rfl) (ha:=rfl) (hall:=rfl) (hc:=hwa) (hX:=fun w h=>h.1.2) (h:=?_)
     repeat' (first|(refine ab (hc:=hri) (hX:=fun w h=>h.1.1.2 it him) ?_)|refine gs ?_|refine gs1 fun _=>?_|(refine gp ?_ ?_<;>intro hx_ this)|fail)
     rename_i b8
     (refine aq ⟨[0,1,2,4],[(3,⟨[5],[(6,⟨[],[(7,⟨[8],[]⟩)]⟩)]⟩)]⟩ [cel b8 46 it.act.cells,cel b7 60 it.cells] (fun w=>(Items w ki I∧CelD bW [.string au] w)∧Glob w) (h:=?_))
     all_goals repeat' (first|(refine ab (hc:=hdi) (hX:=fun w h=>⟨h.1.1.2 it him,h.2⟩) ?_)|refine gdz ?_|refine ay (hsub:=by exact aK) (hy:=by first|(apply ft (cs:=(fndOf dI it).cells);rfl;rfl)) ?_|refine az ?_ (h':=?_)|exact aA|refine du (size:=22) (vs:=[.agg (fndOf dI it).cells.toArray]) (css:=(fndOf dI it).cells) (hsz:=by rfl) (hcs:=by rfl) fun _=>?_|(refine ia ?_;refine aN (size:=22) (news:=(fndOf dI it).cells) (q:=1) rfl rfl rfl rfl (fun _=>At.there _ (At.there _ (At.there _ (At.here _)))) (fun w G=>bX G ax rfl rfl 1) aa (by simp only [maxLen];omega) rfl ?_ rfl ?_;(first|with_reducible rfl|with_reducible assumption|with_reducible exact Zl|with_reducible exact Zn);intro A2 c2)|refine gs1 fun _=>?_|(refine gq ?_ ?_<;>intro hx_ this)|fail)
     all_goals
      repeat' (first|refine gs ?_|refine gs1 fun _=>?_|(refine gp ?_ ?_<;>intro hx_ this)|fail)
      exact ⟨(⟨k+1,hlt,A2,c2,n+1,by rw [hyes,ZA,←hn];rfl,xs++(fndOf dI it).cells,by rw [hyes,hxs];simp⟩:PikI I au rI dI),(by show I.length-(k+1)<I.length-k;omega),aj ao (.cons _ (.cons _ (.cons _ (al _)))) fun _ h=>h⟩
 have hkE:k=I.length:=by omega
 rw [hkE,Qh] at hn hxs
 obtain ⟨P,hP⟩:∃ P,selF au rI dI I=P:=⟨_,rfl⟩
 rw [hP] at hn hxs
 have hPl:P.length≤I.length:=by rw [←hP,selF,ZF];exact Qa _ _
 subst hxs
 refine cj (pre:=[fndR ⟨A,n,c⟩ P]) (fr:=[]) (first:=#[]) (caps:=#[]) (hc:=hsort ⟨A,n,c⟩ P hn hPl) (hX:=fun _ _=>trivial) (h:=?_)
 rintro v R X' ⟨rfl,Q,hQ,rfl⟩
 have hQl:Q.length=n:=hQ.length_eq.trans hn.symm
 have hnI:n≤1000:=by omega
 refine cD (X':=fun w=>(Items w ki I∧CelD bW [.string au] w)∧Glob w) (fun w h=>h.1) ?_
 repeat' (first|refine gs ?_|refine gs1 fun _=>?_|(refine iR (c:=n) (hm:=Nat.ble_eq_true_of_le aa) (hm2:=Nat.ble_eq_true_of_le aa) fun bv=>?_)|(refine gp ?_ ?_<;>intro hx_ this)|fail)
 refine cK (r:=fndR ⟨A,n,c⟩ Q) bz (p:=0<n→A.isSome=true) (fun w h h0=>cA h h0) fun hAp=>?_
 refine ar (ι:=ValI Q) (fun i=>⟨[(11,.slice i.A i.k i.c),(47,.slice A n c),(48,.int .i64 (n:Nat)),(49,.int .i64 (i.k:Nat))],[orow 46 20 (.slice i.A i.k i.c) i.k i.xs,fndR ⟨A,n,c⟩ Q],fun w=>(Items w ki I∧CelD bW [.string au] w)∧Glob w⟩) (fun i=>Q.length-i.k) ⟨0,Z4 _,_,_,[],rfl⟩ (aj ao (al _) fun _ h=>h) fun i=>?_
 obtain ⟨k2,hk2,A2,c2,xs2,hxs2⟩:=i
 simp only
 repeat' (first|refine gs ?_|refine gs1 fun _=>?_|(refine gp ?_ ?_<;>intro hx_ this)|fail)
 · have hlt:k2<Q.length:=by omega
   have hAp':=hAp aa
   obtain ⟨f,hf⟩:∃ f,Q[k2]?=some f:=⟨_,Zb hlt⟩
   repeat' (first|refine du (size:=20) (vs:=[f.a.v]) (css:=f.a.cells) (hsz:=by rfl) (hcs:=by rfl) fun _=>?_|refine gs ?_|refine gs1 fun _=>?_|(refine aO (q:=k2*22) ?_)|(refine ai (ib (size:=22) (m:=n) (i:=k2) (xs:=Q.map FndA.cells) (cs:=f.cells) rfl (.tail _ (.head _)) (by rw [ZF];exact hQl.symm) (Et Q) (by simp [hf])) rfl rfl rfl ?_)|(refine aw (vs:=f.a.cells) (hv:=rfl) ?_)|(refine gp ?_ ?_<;>intro hx_ this)|fail)
   refine aN (size:=20) (news:=f.a.cells) (q:=1) rfl rfl rfl rfl (fun _=>At.there _ (At.there _ (At.here _))) (fun w G=>bX G ax rfl rfl 1) aa (by simp only [maxLen];omega) rfl ?_ rfl ?_
   · (first|with_reducible rfl|with_reducible assumption|with_reducible exact Zl|with_reducible exact Zn)
   intro A3 c3
   repeat' (first|refine gs ?_|refine gs1 fun _=>?_|(refine gp ?_ ?_<;>intro hx_ this)|fail)
   exact ⟨(⟨k2+1,hlt,A3,c3,xs2++f.a.cells,by rw [Qg,hf,hxs2];simp⟩:ValI Q),(by show Q.length-(k2+1)<Q.length-k2;omega),aj ao (.cons _ (.cons _ (al _))) fun _ h=>h⟩
 have hk2E:k2=Q.length:=by omega
 rw [hk2E,Qh] at hxs2
 have hLp:(Q.map FndA.a).Perm (selA au rI I):=by rw [←FS au rI dI I,hP];exact hQ.map _
 refine ad (ag rfl rfl) ⟨⟨A2,k2,c2⟩,Q.map FndA.a,rfl,hLp,fun w h=>?_⟩
 have hr:=h.2 (orow 46 20 (.slice A2 k2 c2) k2 xs2) (.head _)
 refine eP (l:=Q.map FndA.a) (by rw [Z0];rw [hxs2] at hr;exact hr) (by rw [ZF];exact hk2E) fun a ha=>?_
 have ha2:=hLp.subset ha
 rw [selA] at ha2
 obtain ⟨it,hit,rfl⟩:=QI.1 ha2
 exact (h.1.1.1.2 it (QM.1 hit).1).1
theorem qL (ks ki:SlV) (I:List ItemD) (au:ByteArray) (rI:ItemD→Bool) (dI:ItemD→ByteArray)
  (hR:∀ it∈I,Pu Tryz.prog 73 #[it.v] (fun w=>it.at_ w) (.bool (rI it)))
  (hD:∀ it∈I,Pu Tryz.prog 18 #[it.v] (fun w=>it.at_ w∧Glob w) (.string (dI it)))
  (hI:I.length≤1000) (hsort:SortA I.length) :
  Mk Tryz.prog 62 #[.agg #[ks.v,ki.v],.string au] (fun w=>Items w ki I∧Glob w)
   (fun u X'=>∃ (s:SlV) (L:List ActD),u=s.v∧L.Perm (selA au rI I)∧∀ w,X' w→Acts w s L):=by
 refine bZ (args:=[_,_]) _ Tryz.func62 rfl Tryz.ntmps62 rfl fun av bor w0=>?_
 repeat' (first|refine gs ?_|refine gs1 fun _=>?_|(refine eB ?_)|(refine gp ?_ ?_<;>intro hx_ this)|fail)
 rename_i b2 b3
 refine bL ?_
 refine bS (hc:=Bu ks ki I b3 au rI dI hR hD hI hsort) (hX:=fun w h=>⟨⟨h.1.1,fC h.2⟩,h.1.2⟩) fun v X1 h1=>?_
 obtain ⟨s,L,rfl,hL,hw⟩:=h1
 repeat' (first|refine gs ?_|refine gs1 fun _=>?_|(refine gp ?_ ?_<;>intro hx_ this)|fail)
 exact ad (ag rfl rfl) ⟨s,L,rfl,hL,fun w h=>hw w h.1.2⟩
structure FndC where
 rank:Int
 dg:ByteArray
 a:ClaimD
def FndC.cells (f:FndC):List Value:=.int .i64 f.rank::.string f.dg::f.a.cells
theorem Cf (P:List FndC):∀ r∈P.map FndC.cells,r.length=11:=fun r hr=>by
 obtain ⟨c,_,rfl⟩:=QI.1 hr
 rfl
end Go.Proofs.YtaolfiikahlmkaaGreatDoor
namespace Go.Proofs.YtaolfiikahlmkaaGreatDoor
open Go Go.Proofs Sy SrG
namespace SrC
theorem cellsF (P:List FndC):∀ r∈P.map FndC.cells,r.length=11:=fun r hr=>by
 obtain ⟨c,_,rfl⟩:=QI.1 hr
 rfl
abbrev postR (s:SlV) (P:List FndC):Res:=orow 304 11 (.slice s.p s.n s.c) s.n (P.map FndC.cells).flatten
theorem dk:∀ (L:List FndC) (p:Nat) (x:FndC),p<L.length→(L.map FndC.cells).flatten.take (p*11)++x.cells++(L.map FndC.cells).flatten.drop (p*11+11)=((L.set p x).map FndC.cells).flatten
 | [],p,x,h=>absurd h (by simp)
 | c::L,0,x,h=>by
  have h6:c.cells.length=11:=rfl
  rw [List.set_cons_zero,Z1,Z1,Qb,Qb,Nat.zero_mul,ZU,List.take_zero,ZL,List.drop_append,h6,Qw (by omega)]
  rfl
 | c::L,p+1,x,h=>by
  have h6:c.cells.length=11:=rfl
  have ih:=dk L p x (by simpa using h)
  rw [List.set_cons_succ,Z1,Z1,Qb,Qb,←ih,List.take_append,List.drop_append,h6,Qf aa,Qw aa,
   show (p+1)*11-11=p*11 from by omega,show (p+1)*11+11-11=p*11+11 from by omega,ZL,ZC,ZC,ZC]
theorem eD {P:List FndC} {i j:Nat} {x y:FndC} (hi:P[i]?=some x) (hj:P[j]?=some y):((P.set i y).set j x).Perm P:=by
 obtain ⟨h1,rfl⟩:=QJ.1 hi
 obtain ⟨h2,rfl⟩:=QJ.1 hj
 exact List.set_set_perm h1 h2
section
variable {N:Nat} {av bor:List Nat} {w0:World} {st:St} {ty:TypeId} {x y:Operand} {E:Env} {loc:List Res} {X:World→Prop} {ops:Array Oper} {kk:St→Prop} {pos:String} {af:Array Edge} {g:Option (Nat×Bool)} {rest:List Oper} {bb want:Bool}
theorem ci {A:Option Addr} {m c i:Nat} {P:List FndC} {p:FndC} (hx:ev st.env x=some (elP A (i*11))) (hm:orow 304 11 (.slice A m c) m (P.map FndC.cells).flatten∈st.loc) (hn:m=P.length) (hi:P[i]?=some p) :
  Sy.Yields Tryz.prog N av bor w0 st (.load 304 x) ty (.agg p.cells.toArray):=ib (xs:=P.map FndC.cells) (cs:=p.cells) hx hm (by simp [hn]) (cellsF P) (by simp [hi])
theorem cQ {d:Option Tmp} {loc':List Res} {A:Option Addr} {m c i:Nat} {P:List FndC} {p:FndC} (hx:ev E x=some (elP A (i*11)):=by rfl) (hy:ev E y=some (.agg p.cells.toArray):=by rfl) (hi:i<m:=by omega) (hn:m=P.length)
  (hA:At (orow 304 11 (.slice A m c) m (P.map FndC.cells).flatten) (orow 304 11 (.slice A m c) m ((P.set i p).map FndC.cells).flatten) loc loc':=by (repeat (first|exact At.here _|apply At.there))) (hg:gdB ops E g=some (bb,want):=by rfl) (hb:bb=want:=by exact am) (hd:inB N d=true:=by rfl)
  (h:Sw Tryz.prog N av bor w0 ops rest ⟨putE E d undef,loc',X⟩ kk):Sw Tryz.prog N av bor w0 ops (⟨d,.store 304 x y,ty,pos,af,g⟩::rest) ⟨E,loc,X⟩ kk :=
 qg (i:=i) (size:=11) (vs:=p.cells) ae hx hy rfl rfl rfl hi (dk P i p aa) hA hg hb hd h
end
def PermAt (s:SlV) (P:List FndC) (u:Value) (R:List Res) (X:World→Prop):Prop:=u=.tuple #[]∧∃ Q:List FndC,Q.Perm P∧R=[postR s Q]
structure PermI (P:List FndC) (n:Nat) where
 k:Nat
 hk:k≤n
 Q:List FndC
 hQ:Q.Perm P
theorem cG (s:SlV) (P:List FndC) (a b n:Nat) (fv:Value) (hs:s.n=P.length) (hm:s.n≤1000000) (ha:a+n≤s.n) (hb:b+n≤s.n) :
  Ct Tryz.prog 322 #[s.v,.int .i64 (a:Nat),.int .i64 (b:Nat),.int .i64 (n:Nat),fv] [postR s P] (fun _=>True) (PermAt s P):=by
 refine bQ (args:=[_,_,_,_,_]) _ Tryz.func322 rfl Tryz.ntmps322 rfl fun av bor w0=>?_
 refine cK (r:=postR s P) ax (p:=0<s.n→s.p.isSome=true) (fun w h hn=>cA h hn) fun hp=>?_
 repeat' (first|refine gs ?_|fail)
 refine ar (ι:=PermI P n) (fun i=>⟨[(0,s.v),(1,.int .i64 (a:Nat)),(2,.int .i64 (b:Nat)),(3,.int .i64 (n:Nat)),(10,.int .i64 (i.k:Nat))],[postR s i.Q],fun _=>True⟩) (fun i=>n-i.k) ⟨0,Z4 _,P,Qn _⟩ (aj ao (al _) fun _ h=>h) fun i=>?_
 obtain ⟨k,hk,Q,hQ⟩:=i
 simp only
 have hl:=hQ.length_eq
 repeat' (first|refine gs ?_|(refine gp ?_ ?_<;>intro hx_ this)|fail)
 · have hlt:k<n:=by omega
   have hp':=hp aa
   obtain ⟨x,hx⟩:∃ x,Q[a+k]?=some x:=⟨_,Zb aa⟩
   obtain ⟨y,hy⟩:∃ y,Q[b+k]?=some y:=⟨_,Zb aa⟩
   (refine aq ⟨[0,1,2,3,4,5,6,7,8,9,10,11,12,14,15,16,17,18],[(13,⟨[],[(19,⟨[20],[(21,⟨[22],[(23,⟨[],[]⟩)]⟩)]⟩)]⟩),(19,⟨[],[(13,⟨[20],[(21,⟨[22],[(23,⟨[],[]⟩)]⟩)]⟩)]⟩)]⟩ [] (fun _=>True) (h:=?_))
   all_goals repeat' (first|refine gd ?_|refine ay (hy:=by first|(apply aC (q:=(a+k)*11);rfl;rfl;omega;omega;assumption;(first|rfl|omega))|(apply aC (q:=(b+k)*11);rfl;rfl;omega;omega;assumption;(first|rfl|omega))) ?_|refine az ?_ (h':=?_)|exact aA|(refine ai (ci (i:=a+k) (P:=Q) rfl ax aa hx) rfl rfl rfl ?_)|(refine ai (ci (i:=b+k) (P:=Q) rfl ax aa hy) rfl rfl rfl ?_)|((refine cQ (i:=a+k) (p:=y) rfl rfl aa (by first|omega|(simp only [Z9];omega)) (At.here _) rfl am rfl ?_))|((refine cQ (i:=b+k) (p:=x) rfl rfl aa (by first|omega|(simp only [Z9];omega)) (At.here _) rfl am rfl ?_))|(refine gq ?_ ?_<;>intro hx_ this)|fail)
   all_goals
    repeat' (first|refine gs ?_|(refine gp ?_ ?_<;>intro hx_ this)|fail)
    exact ⟨(⟨k+1,hlt,(Q.set (a+k) y).set (b+k) x,(eD hx hy).trans hQ⟩:PermI P n),(by show n-(k+1)<n-k;omega),aj ao (al _) fun _ h=>h⟩
 · exact bK (bu rfl) ⟨rfl,Q,hQ,rfl⟩
section
variable {N:Nat} {av bor:List Nat} {w0:World} {ops:Array Oper} {rest:List Oper} {k:St→Prop} {E:Env} {X:World→Prop} {d:Option Tmp} {ty:TypeId} {pos:String} {af:Array Edge} {g:Option (Nat×Bool)} {bb want:Bool}
theorem cS {x:Operand} {xs:List Operand} {ats:Array TypeId} {f:FuncId} {args:List Value} {s:SlV} {Q:List FndC}
  (hx:ev E x=some (.func (.func f) #[] #[]):=by rfl) (ha:evs E xs=some args:=by rfl) (hg:gdB ops E g=some (bb,want):=by rfl) (hb:bb=want:=by exact am) (hd:inB N d=true:=by rfl) (hf:FnBody Tryz.prog f:=by infer_instance)
  (hc:Ct Tryz.prog f args.toArray [postR s Q] (fun _=>True) (PermAt s Q))
  (h:∀ Q':List FndC,Q'.Perm Q→Sw Tryz.prog N av bor w0 ops rest ⟨putE E d (.tuple #[]),[postR s Q'],X⟩ k) :
  Sw Tryz.prog N av bor w0 ops (⟨d,.call ⟨.value x,xs.toArray,ats⟩,ty,pos,af,g⟩::rest) ⟨E,[postR s Q],X⟩ k :=
 cj (pre:=[postR s Q]) (fr:=[]) (first:=#[]) (caps:=#[]) (Post:=PermAt s Q) hx ha rfl hg hb hd hf (by simpa using hc) (fun _ _=>trivial) fun u R X' ⟨h1,Q',h2,h3⟩=>by
  subst h1
  subst h3
  refine jC (fun a w ok=>?_) (h Q' h2)
  exact ok.via fun M G=>G.imp fun _ h=>h.1
end
structure RotI (P:List FndC) (p q:Nat) where
 i:Nat
 j:Nat
 h1:1≤i
 h2:i≤p
 h3:1≤j
 h4:j≤q
 Q:List FndC
 hQ:Q.Perm P
theorem gz (s:SlV) (P:List FndC) (a m b:Nat) (fv:Value) (hs:s.n=P.length) (hm:s.n≤1000000) (ha:a<m) (hb:m<b) (hbs:b≤s.n) :
  Ct Tryz.prog 319 #[s.v,.int .i64 (a:Nat),.int .i64 (m:Nat),.int .i64 (b:Nat),fv] [postR s P] (fun _=>True) (PermAt s P):=by
 refine bQ (args:=[_,_,_,_,_]) _ Tryz.func319 rfl Tryz.ntmps319 rfl fun av bor w0=>?_
 repeat' (first|refine bp (hq:=by omega) ?_|refine gs ?_|(refine gp ?_ ?_<;>intro hx_ this)|fail)
 refine ar (ι:=RotI P (m-a) (b-m)) (fun r=>⟨[(0,s.v),(2,.int .i64 (m:Nat)),(4,fv),(10,.int .i64 (r.i:Nat)),(11,.int .i64 (r.j:Nat))],[postR s r.Q],fun _=>True⟩) (fun r=>r.i+r.j) ⟨m-a,b-m,by omega,by omega,by omega,by omega,P,Qn _⟩ (aj ao (al _) fun _ h=>h) fun r=>?_
 obtain ⟨i,j,h1,h2,h3,h4,Q,hQ⟩:=r
 simp only
 have hl:=hQ.length_eq
 by_cases hij:i=j
 · repeat' (first|refine gI (hab:=by omega) ?_|refine bp (hq:=by omega) ?_|refine gs ?_|(refine cS (hc:=cG s Q (m-i) m i fv aa hm aa aa) (h:=fun Q2 hQ2=>?_))|(refine gp ?_ ?_<;>intro hx_ this)|fail)
   exact bK (bu rfl) ⟨rfl,Q2,hQ2.trans hQ,rfl⟩
 · repeat' (first|refine bp (hq:=by omega) ?_|refine aV (hq:=by omega) ?_|refine gs ?_|(refine cS (hc:=cG s Q (m-i) m j fv aa hm aa aa) (h:=fun Q2 hQ2=>?_))|(refine cS (hc:=cG s Q (m-i) (m+j-i) i fv aa hm aa aa) (h:=fun Q2 hQ2=>?_))|(refine gp ?_ ?_<;>intro hx_ this)|fail)
   · exact ⟨(⟨i-j,j,by omega,by omega,h3,h4,Q2,hQ2.trans hQ⟩:RotI P (m-a) (b-m)),(by show i-j+j<i+j;omega),aj ao (al _) fun _ h=>h⟩
   · exact ⟨(⟨i,j-i,h1,h2,by omega,by omega,Q2,hQ2.trans hQ⟩:RotI P (m-a) (b-m)),(by show i+(j-i)<i+j;omega),aj ao (al _) fun _ h=>h⟩
   · have h9:(i:Int)=(j:Int):=by simpa using hx_
     exact absurd (show i=j by omega) hij
def cmpX (x y:FndC):Int:=cmp2 x.rank y.rank x.dg y.dg
theorem eN (x y:FndC):Pu Tryz.prog 285 #[.agg x.cells.toArray,.agg y.cells.toArray] (fun _=>True) (.int .i64 (cmpX x y)):=by
 refine ak (args:=[_,_]) _ Tryz.func285 rfl Tryz.ntmps285 rfl fun av bor w0=>?_
 have h1:=iG x.rank y.rank
 have h2:=g6 x.dg y.dg
 rw [cmpX,cmp2]
 generalize cmpI x.rank y.rank=k at *
 generalize SrG.cmpB_g x.dg y.dg=l at *
 have h3:=fun s=>uM s k l
 repeat' (first|refine gs ?_|refine gs1 fun _=>?_|(refine gp ?_ ?_<;>intro hx_ this)|fail)
 rename_i b2 b3
 (refine aq ⟨[0,1,2,3,5,6,7,8],[(4,⟨[],[(9,⟨[],[(10,⟨[],[(11,⟨[12],[]⟩)]⟩)]⟩)]⟩)]⟩ [cel b3 304 y.cells,cel b2 304 x.cells] (fun _=>True) (h:=?_))
 all_goals repeat' (first|(refine ab (hc:=h1) (hX:=fun _ _=>trivial) ?_)|(refine ab (hc:=h2) (hX:=fun _ _=>trivial) ?_)|(refine ab (hc:=h3 ⟨some ⟨bs,0,none⟩,2,2⟩) (hX:=fun w h=>bt (xs:=[[.int .i64 k],[.int .i64 l]]) h.2 rfl (by decide) (by simp)) ?_)|refine gdz ?_|refine az ?_ (h':=?_)|exact aA|((refine cR (len:=2) (vs:=[.int .i64 k,.int .i64 l]) fun bs=>?_;refine bL ?_))|refine gs1 fun _=>?_|(refine gq ?_ ?_<;>intro hx_ this)|fail)
 all_goals
  repeat' (first|refine gs ?_|refine gs1 fun _=>?_|(refine gp ?_ ?_<;>intro hx_ this)|fail)
  exact ad (ag rfl rfl) rfl
def cmpF:Value:=.func (.func 285) #[] #[]
def Srt (P:List FndC):Prop:=∀ (i j:Nat) (x y:FndC),i<j→P[i]?=some x→P[j]?=some y→¬ cmpX y x<0
def Rel (P Q:List FndC):Prop:=Q.Perm P∧(Srt P→Q=P)
theorem Rel.refl (P:List FndC):Rel P P:=⟨Qn _,fun _=>rfl⟩
theorem Rel.trans {P Q R:List FndC} (h:Rel P Q) (k:Rel Q R):Rel P R:=⟨k.1.trans h.1,fun hs=>by rw [k.2 (h.2 hs▸hs),h.2 hs]⟩
theorem Rel.swap {P Q:List FndC} (h:Rel P Q) {i j:Nat} {x y:FndC} (hi:Q[i]?=some x) (hj:Q[j]?=some y) (hno:Srt P→False):Rel P ((Q.set i y).set j x):=⟨(eD hi hj).trans h.1,fun hs=>(hno hs).elim⟩
theorem Rel.srt {P Q:List FndC} (h:Rel P Q) (hs:Srt P):Srt Q:=by rw [h.2 hs];exact hs
theorem Rel.perm {P Q Q':List FndC} (h:Rel P Q) (k:Q'.Perm Q) (hno:Srt P→False):Rel P Q':=⟨k.trans h.1,fun hs=>(hno hs).elim⟩
def RelAt (s:SlV) (P:List FndC) (u:Value) (R:List Res) (X:World→Prop):Prop:=u=.tuple #[]∧∃ Q:List FndC,Rel P Q∧R=[postR s Q]
end SrC
namespace SrC
structure InsI (P:List FndC) (a b:Nat) where
 k:Nat
 h1:a+1≤k
 h2:k≤b∨k=a+1
 Q:List FndC
 hQ:Rel P Q
structure InsJ (P:List FndC) (a k:Nat) where
 j:Nat
 h1:a≤j
 h2:j≤k
 Q:List FndC
 hQ:Rel P Q
theorem dj (s:SlV) (P:List FndC) (a b:Nat) (hs:s.n=P.length) (hm:s.n≤1000000) (ha:a≤s.n) (hb:b≤s.n) :
  Ct Tryz.prog 312 #[s.v,.int .i64 (a:Nat),.int .i64 (b:Nat),cmpF] [postR s P] (fun _=>True) (RelAt s P):=by
 refine bQ (args:=[_,_,_,_]) _ Tryz.func312 rfl Tryz.ntmps312 rfl fun av bor w0=>?_
 refine cK (r:=postR s P) ax (p:=0<s.n→s.p.isSome=true) (fun w h hn=>cA h hn) fun hp=>?_
 repeat' (first|refine aV (q:=1) (hq:=by omega) ?_|refine gs ?_|(refine gp ?_ ?_<;>intro hx_ this)|fail)
 refine ar (ι:=InsI P a b) (fun i=>⟨[(0,s.v),(1,.int .i64 (a:Nat)),(2,.int .i64 (b:Nat)),(3,cmpF),(8,.int .i64 (i.k:Nat))],[postR s i.Q],fun _=>True⟩) (fun i=>b-i.k) ⟨a+1,ZX _,.inr rfl,P,Rel.refl _⟩ (aj ao (al _) fun _ h=>h) fun i=>?_
 obtain ⟨k,h1,h2,Q,hQ⟩:=i
 simp only
 have hl:=hQ.1.length_eq
 repeat' (first|refine gs ?_|(refine gp ?_ ?_<;>intro hx_ this)|fail)
 · have hkb:k<b:=by omega
   refine ar (ι:=InsJ P a k) (fun i=>⟨[(0,s.v),(1,.int .i64 (a:Nat)),(2,.int .i64 (b:Nat)),(3,cmpF),(8,.int .i64 (k:Nat)),(9,.int .i64 (i.j:Nat))],[postR s i.Q],fun _=>True⟩) (fun i=>i.j) ⟨k,by omega,ZX _,Q,hQ⟩ (aj ao (al _) fun _ h=>h) fun i=>?_
   obtain ⟨j,h3,h4,Q2,hQ2⟩:=i
   simp only
   have hl2:=hQ2.1.length_eq
   have hp':=hp aa
   by_cases hja:a<j
   · obtain ⟨x,hx⟩:∃ x,Q2[j]?=some x:=⟨_,Zb aa⟩
     obtain ⟨y,hy⟩:∃ y,Q2[j-1]?=some y:=⟨_,Zb aa⟩
     have hcm:=eN x y
     have hsx:Srt P→¬ cmpX x y<0:=fun hs=>hQ2.srt hs (j-1) j y x aa hy hx
     generalize cmpX x y=z at *
     apply QQ
     apply QQ
     unfold cmpF
     (refine aq ⟨[0,1,2,3,4,5,6,7,9,10,11,12],[(8,⟨[],[(13,⟨[],[(14,⟨[15,16],[]⟩)]⟩)]⟩),(13,⟨[],[(8,⟨[],[(14,⟨[15,16],[]⟩)]⟩)]⟩)]⟩ [] (fun _=>True) (h:=?_))
     all_goals repeat' (first|refine ay (hy:=by first|(apply y_gtrT_g;rfl;rfl;omega)) ?_|(refine ab (hc:=hcm) (hX:=fun _ _=>trivial) ?_)|refine gd ?_|refine ay (hy:=by first|(apply aC (q:=j*11);rfl;rfl;omega;omega;assumption;(first|rfl|omega))|(apply aC (q:=(j-1)*11);rfl;rfl;omega;omega;assumption;(first|rfl|omega))) ?_|refine az ?_ (h':=?_)|exact aA|(refine ai (ci (i:=j) (P:=Q2) rfl ax aa hx) rfl rfl rfl ?_)|(refine ai (ci (i:=j-1) (P:=Q2) rfl ax aa hy) rfl rfl rfl ?_)|(refine gq ?_ ?_<;>intro hx_ this)|fail)
     all_goals
      repeat' (first|refine gs ?_|(refine gp ?_ ?_<;>intro hx_ this)|fail)
      · (refine aq ⟨[0,1,2,3,4,5,6,7,8,10,11,12],[(9,⟨[],[(13,⟨[14],[(15,⟨[16],[(17,⟨[],[]⟩)]⟩)]⟩)]⟩),(13,⟨[],[(9,⟨[14],[(15,⟨[16],[(17,⟨[],[]⟩)]⟩)]⟩)]⟩)]⟩ [] (fun _=>True) (h:=?_))
        all_goals repeat' (first|refine gd ?_|refine ay (hy:=by first|(apply aC (q:=j*11);rfl;rfl;omega;omega;assumption;(first|rfl|omega))|(apply aC (q:=(j-1)*11);rfl;rfl;omega;omega;assumption;(first|rfl|omega))) ?_|refine az ?_ (h':=?_)|exact aA|(refine ai (ci (i:=j) (P:=Q2) rfl ax aa hx) rfl rfl rfl ?_)|(refine ai (ci (i:=j-1) (P:=Q2) rfl ax aa hy) rfl rfl rfl ?_)|((refine cQ (i:=j) (p:=y) rfl rfl aa (by first|omega|(simp only [Z9];omega)) (At.here _) rfl am rfl ?_))|((refine cQ (i:=j-1) (p:=x) rfl rfl aa (by first|omega|(simp only [Z9];omega)) (At.here _) rfl am rfl ?_))|(refine gq ?_ ?_<;>intro hx_ this)|fail)
        all_goals
         repeat' (first|refine bp (q:=1) (hq:=by omega) ?_|refine gs ?_|(refine gp ?_ ?_<;>intro hx_ this)|fail)
         exact ⟨(⟨j-1,by omega,by omega,(Q2.set j y).set (j-1) x,hQ2.swap hx hy (fun hs=>hsx hs (by first|assumption|omega))⟩:InsJ P a k),(by show j-1<j;omega),aj ao (al _) fun _ h=>h⟩
      · repeat' (first|refine aV (q:=1) (hq:=by omega) ?_|refine gs ?_|(refine gp ?_ ?_<;>intro hx_ this)|fail)
        exact ⟨(⟨k+1,by omega,by omega,Q2,hQ2⟩:InsI P a b),(by show b-(k+1)<b-k;omega),aj ao (al _) fun _ h=>h⟩
   · apply QQ
     apply QQ
     unfold cmpF
     (refine aq ⟨[0,1,2,3,4,5,6,7,9,10,11,12],[(8,⟨[],[(13,⟨[],[(14,⟨[15,16],[]⟩)]⟩)]⟩),(13,⟨[],[(8,⟨[],[(14,⟨[15,16],[]⟩)]⟩)]⟩)]⟩ [] (fun _=>True) (h:=?_))
     all_goals repeat' (first|refine ay (hy:=by first|(apply y_gtrF_g;rfl;rfl;omega)) ?_|refine gd ?_|refine az ?_ (h':=?_)|exact aA|(refine gq ?_ ?_<;>intro hx_ this)|fail)
     all_goals
      repeat' (first|refine aV (q:=1) (hq:=by omega) ?_|refine gs ?_|(refine gp ?_ ?_<;>intro hx_ this)|fail)
      exact ⟨(⟨k+1,by omega,by omega,Q2,hQ2⟩:InsI P a b),(by show b-(k+1)<b-k;omega),aj ao (al _) fun _ h=>h⟩
 · exact bK (bu rfl) ⟨rfl,Q,hQ,rfl⟩
section
variable {N:Nat} {av bor:List Nat} {w0:World} {ops:Array Oper} {rest:List Oper} {k:St→Prop} {E:Env} {X:World→Prop} {d:Option Tmp} {ty:TypeId} {pos:String} {af:Array Edge} {g:Option (Nat×Bool)} {bb want:Bool}
theorem ig {x:Operand} {xs:List Operand} {ats:Array TypeId} {f:FuncId} {args:List Value} {s:SlV} {Q:List FndC}
  (hx:ev E x=some (.func (.func f) #[] #[]):=by rfl) (ha:evs E xs=some args:=by rfl) (hg:gdB ops E g=some (bb,want):=by rfl) (hb:bb=want:=by exact am) (hd:inB N d=true:=by rfl) (hf:FnBody Tryz.prog f:=by infer_instance)
  (hc:Ct Tryz.prog f args.toArray [postR s Q] (fun _=>True) (RelAt s Q))
  (h:∀ Q':List FndC,Rel Q Q'→Sw Tryz.prog N av bor w0 ops rest ⟨putE E d (.tuple #[]),[postR s Q'],X⟩ k) :
  Sw Tryz.prog N av bor w0 ops (⟨d,.call ⟨.value x,xs.toArray,ats⟩,ty,pos,af,g⟩::rest) ⟨E,[postR s Q],X⟩ k :=
 cj (pre:=[postR s Q]) (fr:=[]) (first:=#[]) (caps:=#[]) (Post:=RelAt s Q) hx ha rfl hg hb hd hf (by simpa using hc) (fun _ _=>trivial) fun u R X' ⟨h1,Q',h2,h3⟩=>by
  subst h1
  subst h3
  refine jC (fun a w ok=>?_) (h Q' h2)
  exact ok.via fun M G=>G.imp fun _ h=>h.1
theorem cH {x:Operand} {xs:List Operand} {ats:Array TypeId} {f:FuncId} {args:List Value} {s:SlV} {P Q:List FndC} (hQ:Rel P Q)
  (hx:ev E x=some (.func (.func f) #[] #[]):=by rfl) (ha:evs E xs=some args:=by rfl) (hg:gdB ops E g=some (bb,want):=by rfl) (hb:bb=want:=by exact am) (hd:inB N d=true:=by rfl) (hf:FnBody Tryz.prog f:=by infer_instance)
  (hc:∀ Q:List FndC,Rel P Q→Ct Tryz.prog f args.toArray [postR s Q] (fun _=>True) (RelAt s Q))
  (h:∀ Q':List FndC,Rel P Q'→Sw Tryz.prog N av bor w0 ops rest ⟨putE E d (.tuple #[]),[postR s Q'],X⟩ k) :
  Sw Tryz.prog N av bor w0 ops (⟨d,.call ⟨.value x,xs.toArray,ats⟩,ty,pos,af,g⟩::rest) ⟨E,[postR s Q],X⟩ k:=ig hx ha hg hb hd hf (hc Q hQ) fun Q' h1=>h Q' (hQ.trans h1)
theorem jD {x:Operand} {xs:List Operand} {ats:Array TypeId} {f:FuncId} {args:List Value} {s:SlV} {P Q:List FndC} (hQ:Rel P Q) (hno:Srt P→False)
  (hx:ev E x=some (.func (.func f) #[] #[]):=by rfl) (ha:evs E xs=some args:=by rfl) (hg:gdB ops E g=some (bb,want):=by rfl) (hb:bb=want:=by exact am) (hd:inB N d=true:=by rfl) (hf:FnBody Tryz.prog f:=by infer_instance)
  (hc:∀ Q:List FndC,Rel P Q→Ct Tryz.prog f args.toArray [postR s Q] (fun _=>True) (PermAt s Q))
  (h:∀ Q':List FndC,Rel P Q'→Sw Tryz.prog N av bor w0 ops rest ⟨putE E d (.tuple #[]),[postR s Q'],X⟩ k) :
  Sw Tryz.prog N av bor w0 ops (⟨d,.call ⟨.value x,xs.toArray,ats⟩,ty,pos,af,g⟩::rest) ⟨E,[postR s Q],X⟩ k:=cS hx ha hg hb hd hf (hc Q hQ) fun Q' h1=>h Q' (hQ.perm h1 hno)
end
structure BinL (P:List FndC) (lo hi:Nat) extends BinI_g lo hi where
 hs:Srt P→i=lo
structure BinR (P:List FndC) (lo hi:Nat) extends BinI_g lo hi where
 hs:Srt P→j=hi
structure MerO (P:List FndC) (a m b mid:Nat) extends MerI_g a m b mid where
 hs:Srt P→j=(if mid<m then mid else m)
structure UpI (P:List FndC) (a:Nat) where
 k:Nat
 h1:a≤k
 Q:List FndC
 hQ:Rel P Q
structure DownI (P:List FndC) (i m:Nat) where
 k:Nat
 h1:i≤k
 h2:k≤m
 Q:List FndC
 hQ:Rel P Q
set_option maxRecDepth 20000 in
theorem cN:∀ (d:Nat) (s:SlV) (P:List FndC) (a m b:Nat),b-a≤d→s.n=P.length→s.n≤1000000→a<m→m<b→b≤s.n →
  Ct Tryz.prog 313 #[s.v,.int .i64 (a:Nat),.int .i64 (m:Nat),.int .i64 (b:Nat),cmpF] [postR s P] (fun _=>True) (RelAt s P)
 | 0,s,P,a,m,b,hd,hs,hm,ha,hb,hbs=>absurd hd aa
 | d+1,s,P,a,m,b,hd,hs,hm,ha,hb,hbs=>by
  have ih:=cN d
  have hP:Rel P P:=Rel.refl P
  refine bQ (args:=[_,_,_,_,_]) _ Tryz.func313 rfl Tryz.ntmps313 rfl fun av bor w0=>?_
  refine cK (r:=postR s P) ax (p:=0<s.n→s.p.isSome=true) (fun w h hn=>cA h hn) fun hp=>?_
  have hp':=hp aa
  by_cases hA:m-a=1
  · repeat' (first|refine bp (hq:=by omega) ?_|refine aP (hab:=by omega) ?_|refine gs ?_|(refine gp ?_ ?_<;>intro hx_ this)|fail)
    refine ar (ι:=BinL P m b) (fun r=>⟨[(0,s.v),(1,.int .i64 (a:Nat)),(4,cmpF),(10,.int .i64 (r.i:Nat)),(11,.int .i64 (r.j:Nat))],[postR s P],fun _=>True⟩) (fun r=>r.j-r.i) ⟨⟨m,b,by omega,by omega,by omega⟩,fun _=>rfl⟩ (aj ao (al _) fun _ h=>h) fun r=>?_
    obtain ⟨⟨i,j,h1,h2,h3⟩,hso⟩:=r
    simp only at hso
    simp only
    repeat' (first|refine aV (hq:=by omega) ?_|refine sy_toU_g (hq:=by omega) ?_|refine da ?_|refine sy_toI_g (hq:=by omega) ?_|refine gs ?_|(refine gp ?_ ?_<;>intro hx_ this)|fail)
    · have hlt:i<j:=by omega
      obtain ⟨x,hx⟩:∃ x,P[(i+j)/2]?=some x:=⟨_,Zb aa⟩
      obtain ⟨y,hy⟩:∃ y,P[a]?=some y:=⟨_,Zb aa⟩
      have hcm:=eN x y
      have hsx:Srt P→¬ cmpX x y<0:=fun hs=>hs a ((i+j)/2) y x aa hy hx
      generalize cmpX x y=z at *
      unfold cmpF
      (refine aq ⟨[0,1,2,3,5,6,7],[(4,⟨[],[(8,⟨[],[(9,⟨[10],[]⟩)]⟩)]⟩),(8,⟨[],[(4,⟨[],[(9,⟨[10],[]⟩)]⟩)]⟩)]⟩ [] (fun _=>True) (h:=?_))
      all_goals repeat' (first|(refine ab (hc:=hcm) (hX:=fun _ _=>trivial) ?_)|refine gd ?_|refine ay (hy:=by first|(apply aC (q:=((i+j)/2)*11);rfl;rfl;omega;omega;assumption;(first|rfl|omega))|(apply aC (q:=(a)*11);rfl;rfl;omega;omega;assumption;(first|rfl|omega))) ?_|refine az ?_ (h':=?_)|exact aA|(refine ai (ci (i:=(i+j)/2) (P:=P) rfl ax aa hx) rfl rfl rfl ?_)|(refine ai (ci (i:=a) (P:=P) rfl ax aa hy) rfl rfl rfl ?_)|(refine gq ?_ ?_<;>intro hx_ this)|fail)
      all_goals
       repeat' (first|refine aV (q:=1) (hq:=by omega) ?_|refine gs ?_|(refine gp ?_ ?_<;>intro hx_ this)|fail)
       · exact ⟨(⟨⟨(i+j)/2+1,j,by omega,by omega,h3⟩,fun hs=>absurd (show z<0 by first|assumption|omega|(simp_all;done)) (hsx hs)⟩:BinL P m b),(by show j-((i+j)/2+1)<j-i;omega),aj ao (al _) fun _ h=>h⟩
       · exact ⟨(⟨⟨i,(i+j)/2,h1,by omega,by omega⟩,hso⟩:BinL P m b),(by show (i+j)/2-i<j-i;omega),aj ao (al _) fun _ h=>h⟩
    · refine ar (ι:=UpI P a) (fun r=>⟨[(0,s.v),(10,.int .i64 (i:Nat)),(13,.int .i64 (r.k:Nat))],[postR s r.Q],fun _=>True⟩) (fun r=>i-r.k) ⟨a,ZX _,P,hP⟩ (aj ao (al _) fun _ h=>h) fun r=>?_
      obtain ⟨k,h4,Q,hQ⟩:=r
      simp only
      have hl:=hQ.1.length_eq
      repeat' (first|refine bp (q:=1) (hq:=by omega) ?_|refine gs ?_|(refine gp ?_ ?_<;>intro hx_ this)|fail)
      · have hlt:k+1<i:=by omega
        obtain ⟨x,hx⟩:∃ x,Q[k]?=some x:=⟨_,Zb aa⟩
        obtain ⟨y,hy⟩:∃ y,Q[k+1]?=some y:=⟨_,Zb aa⟩
        (refine aq ⟨[0,1,2,3,4,5,6,7,8,10,11,12],[(9,⟨[],[(13,⟨[14],[(15,⟨[16],[(17,⟨[],[]⟩)]⟩)]⟩)]⟩),(13,⟨[],[(9,⟨[14],[(15,⟨[16],[(17,⟨[],[]⟩)]⟩)]⟩)]⟩)]⟩ [] (fun _=>True) (h:=?_))
        all_goals repeat' (first|refine gd ?_|refine ay (hy:=by first|(apply aC (q:=(k)*11);rfl;rfl;omega;omega;assumption;(first|rfl|omega))|(apply aC (q:=(k+1)*11);rfl;rfl;omega;omega;assumption;(first|rfl|omega))) ?_|refine az ?_ (h':=?_)|exact aA|(refine ai (ci (i:=k) (P:=Q) rfl ax aa hx) rfl rfl rfl ?_)|(refine ai (ci (i:=k+1) (P:=Q) rfl ax aa hy) rfl rfl rfl ?_)|((refine cQ (i:=k) (p:=y) rfl rfl aa (by first|omega|(simp only [Z9];omega)) (At.here _) rfl am rfl ?_))|((refine cQ (i:=k+1) (p:=x) rfl rfl aa (by first|omega|(simp only [Z9];omega)) (At.here _) rfl am rfl ?_))|(refine gq ?_ ?_<;>intro hx_ this)|fail)
        all_goals
         repeat' (first|refine aV (q:=1) (hq:=by omega) ?_|refine gs ?_|(refine gp ?_ ?_<;>intro hx_ this)|fail)
         exact ⟨(⟨k+1,by omega,(Q.set k y).set (k+1) x,hQ.swap hx hy (fun hs=>by have:=hso hs;omega)⟩:UpI P a),(by show i-(k+1)<i-k;omega),aj ao (al _) fun _ h=>h⟩
      · exact ad (bu rfl) ⟨rfl,Q,hQ,rfl⟩
  · by_cases hB:b-m=1
    · repeat' (first|refine bp (hq:=by omega) ?_|refine aP (hab:=by omega) ?_|refine aL (hab:=by omega) ?_|refine gs ?_|(refine gp ?_ ?_<;>intro hx_ this)|fail)
      refine ar (ι:=BinR P a m) (fun r=>⟨[(0,s.v),(2,.int .i64 (m:Nat)),(4,cmpF),(14,.int .i64 (r.i:Nat)),(15,.int .i64 (r.j:Nat))],[postR s P],fun _=>True⟩) (fun r=>r.j-r.i) ⟨⟨a,m,by omega,by omega,by omega⟩,fun _=>rfl⟩ (aj ao (al _) fun _ h=>h) fun r=>?_
      obtain ⟨⟨i,j,h1,h2,h3⟩,hso⟩:=r
      simp only at hso
      simp only
      repeat' (first|refine aV (hq:=by omega) ?_|refine sy_toU_g (hq:=by omega) ?_|refine da ?_|refine sy_toI_g (hq:=by omega) ?_|refine gs ?_|(refine gp ?_ ?_<;>intro hx_ this)|fail)
      · have hlt:i<j:=by omega
        obtain ⟨x,hx⟩:∃ x,P[m]?=some x:=⟨_,Zb aa⟩
        obtain ⟨y,hy⟩:∃ y,P[(i+j)/2]?=some y:=⟨_,Zb aa⟩
        have hcm:=eN x y
        have hsx:Srt P→¬ cmpX x y<0:=fun hs=>hs ((i+j)/2) m y x aa hy hx
        generalize cmpX x y=z at *
        unfold cmpF
        (refine aq ⟨[0,1,2,3,5,6,7],[(4,⟨[],[(8,⟨[],[(9,⟨[10,11],[]⟩)]⟩)]⟩),(8,⟨[],[(4,⟨[],[(9,⟨[10,11],[]⟩)]⟩)]⟩)]⟩ [] (fun _=>True) (h:=?_))
        all_goals repeat' (first|(refine ab (hc:=hcm) (hX:=fun _ _=>trivial) ?_)|refine gd ?_|refine ay (hy:=by first|(apply aC (q:=(m)*11);rfl;rfl;omega;omega;assumption;(first|rfl|omega))|(apply aC (q:=((i+j)/2)*11);rfl;rfl;omega;omega;assumption;(first|rfl|omega))) ?_|refine az ?_ (h':=?_)|exact aA|(refine ai (ci (i:=m) (P:=P) rfl ax aa hx) rfl rfl rfl ?_)|(refine ai (ci (i:=(i+j)/2) (P:=P) rfl ax aa hy) rfl rfl rfl ?_)|(refine gq ?_ ?_<;>intro hx_ this)|fail)
        all_goals
         repeat' (first|refine aV (q:=1) (hq:=by omega) ?_|refine gs ?_|(refine gp ?_ ?_<;>intro hx_ this)|fail)
         · exact ⟨(⟨⟨(i+j)/2+1,j,by omega,by omega,h3⟩,hso⟩:BinR P a m),(by show j-((i+j)/2+1)<j-i;omega),aj ao (al _) fun _ h=>h⟩
         · exact ⟨(⟨⟨i,(i+j)/2,h1,by omega,by omega⟩,fun hs=>absurd (show z<0 by first|assumption|omega|(simp_all;done)) (hsx hs)⟩:BinR P a m),(by show (i+j)/2-i<j-i;omega),aj ao (al _) fun _ h=>h⟩
      · refine ar (ι:=DownI P i m) (fun r=>⟨[(0,s.v),(14,.int .i64 (i:Nat)),(17,.int .i64 (r.k:Nat))],[postR s r.Q],fun _=>True⟩) (fun r=>r.k) ⟨m,by omega,ZX _,P,hP⟩ (aj ao (al _) fun _ h=>h) fun r=>?_
        obtain ⟨k,h4,h5,Q,hQ⟩:=r
        simp only
        have hl:=hQ.1.length_eq
        repeat' (first|refine gs ?_|(refine gp ?_ ?_<;>intro hx_ this)|fail)
        · have hlt:i<k:=by omega
          obtain ⟨x,hx⟩:∃ x,Q[k]?=some x:=⟨_,Zb aa⟩
          obtain ⟨y,hy⟩:∃ y,Q[k-1]?=some y:=⟨_,Zb aa⟩
          (refine aq ⟨[0,1,2,3,4,5,6,7,8,10,11,12],[(9,⟨[],[(13,⟨[14],[(15,⟨[16],[(17,⟨[],[]⟩)]⟩)]⟩)]⟩),(13,⟨[],[(9,⟨[14],[(15,⟨[16],[(17,⟨[],[]⟩)]⟩)]⟩)]⟩)]⟩ [] (fun _=>True) (h:=?_))
          all_goals repeat' (first|refine gd ?_|refine ay (hy:=by first|(apply aC (q:=(k)*11);rfl;rfl;omega;omega;assumption;(first|rfl|omega))|(apply aC (q:=(k-1)*11);rfl;rfl;omega;omega;assumption;(first|rfl|omega))) ?_|refine az ?_ (h':=?_)|exact aA|(refine ai (ci (i:=k) (P:=Q) rfl ax aa hx) rfl rfl rfl ?_)|(refine ai (ci (i:=k-1) (P:=Q) rfl ax aa hy) rfl rfl rfl ?_)|((refine cQ (i:=k) (p:=y) rfl rfl aa (by first|omega|(simp only [Z9];omega)) (At.here _) rfl am rfl ?_))|((refine cQ (i:=k-1) (p:=x) rfl rfl aa (by first|omega|(simp only [Z9];omega)) (At.here _) rfl am rfl ?_))|(refine gq ?_ ?_<;>intro hx_ this)|fail)
          all_goals
           repeat' (first|refine bp (q:=1) (hq:=by omega) ?_|refine gs ?_|(refine gp ?_ ?_<;>intro hx_ this)|fail)
           exact ⟨(⟨k-1,by omega,by omega,(Q.set k y).set (k-1) x,hQ.swap hx hy (fun hs=>by have:=hso hs;omega)⟩:DownI P i m),(by show k-1<k;omega),aj ao (al _) fun _ h=>h⟩
        · exact ad (bu rfl) ⟨rfl,Q,hQ,rfl⟩
    · obtain ⟨mid,hmid⟩:∃ mid,mid=(a+b)/2:=⟨_,rfl⟩
      have hm1:a<mid:=by omega
      have hm2:mid<b:=by omega
      have hm3:2*mid≤a+b:=by omega
      have hm4:a+b≤2*mid+1:=by omega
      by_cases hmm:mid<m
      all_goals
       repeat' (first|refine aL (hab:=by omega) ?_|refine fP (hab:=by omega) ?_|refine eY (hab:=by omega) ?_|refine bp (q:=1) (hq:=by omega) ?_|refine bp (hq:=by omega) ?_|refine aV (hq:=by omega) ?_|refine sy_toU_g (hq:=by omega) ?_|refine da ?_|refine sy_toI_g (hq:=by omega) ?_|refine gs ?_|(refine gp ?_ ?_<;>intro hx_ this)|fail)
       rw [←hmid]
       first
        | refine ar (ι:=MerO P a m b mid) (fun r=>⟨[(0,s.v),(1,.int .i64 (a:Nat)),(2,.int .i64 (m:Nat)),(3,.int .i64 (b:Nat)),(4,cmpF),(18,.int .i64 (mid:Nat)),(19,.int .i64 ((mid+m:Nat):Int)),(20,.int .i64 (r.i:Nat)),(21,.int .i64 (r.j:Nat)),(22,.int .i64 ((mid+m-1:Nat):Int))],[postR s P],fun _=>True⟩) (fun r=>r.j-r.i) ⟨⟨mid+m-b,mid,by omega,by omega,by omega⟩,fun _=>by rw [ZO (by assumption)]⟩ (aj ao (al _) fun _ h=>h) fun r=>?_
        | refine ar (ι:=MerO P a m b mid) (fun r=>⟨[(0,s.v),(1,.int .i64 (a:Nat)),(2,.int .i64 (m:Nat)),(3,.int .i64 (b:Nat)),(4,cmpF),(18,.int .i64 (mid:Nat)),(19,.int .i64 ((mid+m:Nat):Int)),(20,.int .i64 (r.i:Nat)),(21,.int .i64 (r.j:Nat)),(22,.int .i64 ((mid+m-1:Nat):Int))],[postR s P],fun _=>True⟩) (fun r=>r.j-r.i) ⟨⟨a,m,by omega,by omega,by omega⟩,fun _=>by rw [ZP (by assumption)]⟩ (aj ao (al _) fun _ h=>h) fun r=>?_
       obtain ⟨⟨i,j,h1,h2,h3⟩,hso⟩:=r
       simp only at hso
       simp only
       have hk1:a≤i:=by omega
       have hk2:j≤m:=by omega
       have hk3:i≤mid+m:=by omega
       by_cases hij:i<j
       · have hk4:(i+j)/2<j:=by omega
         have hk5:i≤(i+j)/2:=by omega
         have hk6:(i+j)/2≤mid+m-1:=by omega
         have hk7:mid+m-1-(i+j)/2<b:=by omega
         repeat' (first|refine sy_lssT_g (hab:=by omega) ?_|refine aV (hq:=by omega) ?_|refine sy_toU_g (hq:=by omega) ?_|refine da ?_|refine sy_toI_g (hq:=by omega) ?_|refine gs ?_|(refine gp ?_ ?_<;>intro hx_ this)|fail)
         obtain ⟨x,hx⟩:∃ x,P[mid+m-1-(i+j)/2]?=some x:=⟨_,Zb aa⟩
         obtain ⟨y,hy⟩:∃ y,P[(i+j)/2]?=some y:=⟨_,Zb aa⟩
         have hcm:=eN x y
         have hsx:Srt P→¬ cmpX x y<0:=fun hs=>hs ((i+j)/2) (mid+m-1-(i+j)/2) y x aa hy hx
         generalize cmpX x y=z at *
         unfold cmpF
         (refine aq ⟨[0,1,2,3,4,5,7,8,9],[(6,⟨[],[(10,⟨[],[(11,⟨[12,13],[]⟩)]⟩)]⟩),(10,⟨[],[(6,⟨[],[(11,⟨[12,13],[]⟩)]⟩)]⟩)]⟩ [] (fun _=>True) (h:=?_))
         all_goals repeat' (first|(refine ab (hc:=hcm) (hX:=fun _ _=>trivial) ?_)|refine gd ?_|refine ay (hy:=by first|(apply aC (q:=(mid+m-1-(i+j)/2)*11);rfl;rfl;omega;omega;assumption;(first|rfl|omega))|(apply aC (q:=((i+j)/2)*11);rfl;rfl;omega;omega;assumption;(first|rfl|omega))) ?_|refine az ?_ (h':=?_)|exact aA|(refine ai (ci (i:=mid+m-1-(i+j)/2) (P:=P) rfl ax aa hx) rfl rfl rfl ?_)|(refine ai (ci (i:=(i+j)/2) (P:=P) rfl ax aa hy) rfl rfl rfl ?_)|(refine gq ?_ ?_<;>intro hx_ this)|fail)
         all_goals
          repeat' (first|refine aV (q:=1) (hq:=by omega) ?_|refine gs ?_|(refine gp ?_ ?_<;>intro hx_ this)|fail)
          · exact ⟨(⟨⟨(i+j)/2+1,j,by omega,by omega,by omega⟩,hso⟩:MerO P a m b mid),(by show j-((i+j)/2+1)<j-i;omega),aj ao (al _) fun _ h=>h⟩
          · exact ⟨(⟨⟨i,(i+j)/2,by omega,by omega,by omega⟩,fun hs=>absurd (show z<0 by first|assumption|omega|(simp_all;done)) (hsx hs)⟩:MerO P a m b mid),(by show (i+j)/2-i<j-i;omega),aj ao (al _) fun _ h=>h⟩
       · have hk8:mid+m-i≤b:=by omega
         have hnl:¬ (i:Int)<(j:Int):=by omega
         repeat' (first|refine sy_lssF_g (hab:=by first|exact hnl|omega) ?_|refine sy_lssT_g (hab:=by omega) ?_|refine bp (hq:=by omega) ?_|refine gs ?_|(refine jD (P:=P) (hQ:=by assumption) (hno:=fun hs=>by have:=hso hs;split at this<;>omega) (hc:=fun Q hQ=>gz s Q i m (mid+m-i) cmpF (hs.trans hQ.1.length_eq.symm) hm aa aa aa) (h:=fun Q2 hQ2=>?_))|(refine cH (P:=P) (hQ:=by assumption) (hc:=fun Q hQ=>ih s Q a i mid aa (hs.trans hQ.1.length_eq.symm) hm aa aa aa) (h:=fun Q2 hQ2=>?_))|(refine cH (P:=P) (hQ:=by assumption) (hc:=fun Q hQ=>ih s Q mid (mid+m-i) b aa (hs.trans hQ.1.length_eq.symm) hm aa aa aa) (h:=fun Q2 hQ2=>?_))|(refine gp ?_ ?_<;>intro hx_ this)|fail)
         all_goals
          refine bK (bu rfl) ⟨rfl,_,?_,rfl⟩
          assumption
end SrC
namespace SrC
structure StaI (P:List FndC) (n w:Nat) where
 a:Nat
 b:Nat
 h1:a≤n
 h2:b=a+w
 Q:List FndC
 hQ:Rel P Q
structure StaO (P:List FndC) (n:Nat) where
 z:Nat
 h1:1≤z
 h2:z≤2*n+20
 Q:List FndC
 hQ:Rel P Q
set_option maxRecDepth 20000 in
theorem gu (s:SlV) (P:List FndC) (hs:s.n=P.length) (hm:s.n≤1000000):Ct Tryz.prog 296 #[s.v,.int .i64 (s.n:Nat),cmpF] [postR s P] (fun _=>True) (RelAt s P):=by
 have hP:Rel P P:=Rel.refl P
 refine bQ (args:=[_,_,_]) _ Tryz.func296 rfl Tryz.ntmps296 rfl fun av bor w0=>?_
 repeat' (first|refine gs ?_|fail)
 refine ar (ι:=StaI P s.n 20) (fun r=>⟨[(0,s.v),(1,.int .i64 (s.n:Nat)),(2,cmpF),(6,.int .i64 20),(7,.int .i64 (r.a:Nat)),(8,.int .i64 (r.b:Nat))],[postR s r.Q],fun _=>True⟩) (fun r=>s.n-r.a) ⟨0,20,Z4 _,rfl,P,hP⟩ (aj ao (al _) fun _ h=>h) fun r=>?_
 obtain ⟨a,b,h1,h2,Q,hQ⟩:=r
 simp only
 repeat' (first|refine aV (q:=20) (hq:=by omega) ?_|refine gs ?_|(refine cH (P:=P) (hQ:=by assumption) (hc:=fun Q hQ=>dj s Q a b (hs.trans hQ.1.length_eq.symm) hm aa aa) (h:=fun Q2 hQ2=>?_))|(refine cH (P:=P) (hQ:=by assumption) (hc:=fun Q hQ=>dj s Q a s.n (hs.trans hQ.1.length_eq.symm) hm aa aa) (h:=fun Q2 hQ2=>?_))|(refine gp ?_ ?_<;>intro hx_ this)|fail)
 · exact ⟨(⟨b,b+20,by omega,rfl,Q2,hQ2⟩:StaI P s.n 20),(by show s.n-b<s.n-a;omega),aj ao (al _) fun _ h=>h⟩
 · refine ar (ι:=StaO P s.n) (fun r=>⟨[(0,s.v),(1,.int .i64 (s.n:Nat)),(2,cmpF),(6,.int .i64 (r.z:Nat))],[postR s r.Q],fun _=>True⟩) (fun r=>s.n-r.z) ⟨20,by omega,by omega,Q2,hQ2⟩ (aj ao (al _) fun _ h=>h) fun r=>?_
   clear h1 h2 hQ hQ2
   obtain ⟨z,h1,h2,Q,hQ⟩:=r
   simp only
   repeat' (first|refine dZ (p:=2) (hq:=by omega) ?_|refine gs ?_|(refine gp ?_ ?_<;>intro hx_ this)|fail)
   · have hzn:z<s.n:=by omega
     refine ar (ι:=StaI P s.n (2*z)) (fun r=>⟨[(0,s.v),(1,.int .i64 (s.n:Nat)),(2,cmpF),(6,.int .i64 (z:Nat)),(7,.int .i64 (r.a:Nat)),(8,.int .i64 (r.b:Nat))],[postR s r.Q],fun _=>True⟩) (fun r=>s.n-r.a) ⟨0,2*z,Z4 _,(ZU _).symm,Q,hQ⟩ (aj ao (al _) fun _ h=>h) fun r=>?_
     obtain ⟨a,b,h3,h4,Q3,hQ3⟩:=r
     simp only
     repeat' (first|refine aV (hq:=by omega) ?_|refine dZ (p:=2) (hq:=by omega) ?_|refine dZ (q:=2) (hq:=by omega) ?_|refine gs ?_|(refine cH (P:=P) (hQ:=by assumption) (hc:=fun Q hQ=>cN (b-a) s Q a (a+z) b (ZX _) (hs.trans hQ.1.length_eq.symm) hm aa aa aa) (h:=fun Q2 hQ2=>?_))|(refine cH (P:=P) (hQ:=by assumption) (hc:=fun Q hQ=>cN (s.n-a) s Q a (a+z) s.n (ZX _) (hs.trans hQ.1.length_eq.symm) hm aa aa aa) (h:=fun Q2 hQ2=>?_))|(refine gp ?_ ?_<;>intro hx_ this)|fail)
     · exact ⟨(⟨b,b+2*z,by omega,rfl,Q2,hQ2⟩:StaI P s.n (2*z)),(by show s.n-b<s.n-a;omega),aj ao (al _) fun _ h=>h⟩
     all_goals
      refine ⟨(⟨z*2,by omega,by omega,_,?_⟩:StaO P s.n),(by show s.n-z*2<s.n-z;omega),aj ao (al _) fun _ h=>h⟩
      assumption
   · exact bK (bu rfl) ⟨rfl,Q,hQ,rfl⟩
theorem sortStable_ct (s:SlV) (P:List FndC) (hs:s.n=P.length) (hm:s.n≤1000000):Ct Tryz.prog 284 #[s.v,cmpF] [postR s P] (fun _=>True) (RelAt s P):=by
 have hP:Rel P P:=Rel.refl P
 refine bQ (args:=[_,_]) _ Tryz.func284 rfl Tryz.ntmps284 rfl fun av bor w0=>?_
 repeat' (first|refine gs ?_|(refine cH (P:=P) (hQ:=by assumption) (hc:=fun Q hQ=>gu s Q (hs.trans hQ.1.length_eq.symm) hm) (h:=fun Q2 hQ2=>?_))|(refine gp ?_ ?_<;>intro hx_ this)|fail)
 exact bK (bu rfl) ⟨rfl,Q2,hQ2,rfl⟩
end SrC
end Go.Proofs.YtaolfiikahlmkaaGreatDoor
namespace Go.Proofs.YtaolfiikahlmkaaGreatDoor
open Go Go.Proofs Sy
def Claims (w:World) (s:SlV) (l:List ClaimD):Prop:=RowsD w 9 s (l.map ClaimD.cells)
theorem tK (l:List ClaimD):∀ r∈l.map ClaimD.cells,r.length=9:=fun r hr=>by
 obtain ⟨c,_,rfl⟩:=QI.1 hr
 rfl
def wantC (au:ByteArray) (it:ItemD):Bool:=decide (it.kind=1)&&seqB it.claim.actor au
theorem zH (bW:Nat) (au:ByteArray) (it:ItemD):Pu Tryz.prog 253 #[it.v,.pointer (some ⟨bW,0,none⟩)] (CelD bW [.string au]) (.tuple #[it.claim.v,.int .i64 0,.bool (wantC au it)]):=by
 refine ak (args:=[_,_]) _ Tryz.func253 rfl Tryz.ntmps253 rfl fun av bor w0=>?_
 repeat' (first|refine gs ?_|refine gs1 fun _=>?_|(refine gp ?_ ?_<;>intro hx_ this)|fail)
 rename_i b2 b3
 by_cases h0:it.kind=1
 · (refine aq ⟨[0,1,2,3,4,5,6,7,8,9,10,11],[(12,⟨[13,14],[]⟩)]⟩ [cel b2 60 it.cells] (CelD bW [.string au]) (h:=?_))
   all_goals repeat' (first|refine ay (hsub:=by exact aK) (hy:=by first|(apply dS true;rfl;rfl;exact Zd h0)) ?_|refine gdz ?_|refine ay (hsub:=by exact aK) (hy:=by first|(apply cC (vs:=it.claim.cells);rfl;exact .head _;rfl;rfl)|(apply ef;rfl;exact (fun w h=>h 0 _ rfl))) ?_|refine az ?_ (h':=?_)|exact aA|refine gs1 fun _=>?_|(refine gq ?_ ?_<;>intro hx_ this)|fail)
   all_goals
    repeat' (first|refine gs ?_|refine gs1 fun _=>?_|(refine gp ?_ ?_<;>intro hx_ this)|fail)
    exact ad (df rfl rfl rfl rfl (.head _) rfl) (by rw [wantC,Zd h0];rfl)
 · (refine aq ⟨[0,1,2,3,4,5,6,7,8,9,10,11],[(12,⟨[13,14],[]⟩)]⟩ [cel b2 60 it.cells] (CelD bW [.string au]) (h:=?_))
   all_goals repeat' (first|refine ay (hsub:=by exact aK) (hy:=by first|(apply dS false;rfl;rfl;exact Zc h0)) ?_|refine gdz ?_|refine ay (hsub:=by exact aK) (hy:=by first|(apply cC (vs:=it.claim.cells);rfl;exact .head _;rfl;rfl)|(apply ef;rfl;exact (fun w h=>h 0 _ rfl))) ?_|refine az ?_ (h':=?_)|exact aA|refine gs1 fun _=>?_|(refine gq ?_ ?_<;>intro hx_ this)|fail)
   all_goals
    repeat' (first|refine gs ?_|refine gs1 fun _=>?_|(refine gp ?_ ?_<;>intro hx_ this)|fail)
    exact ad (df rfl rfl rfl rfl (.head _) rfl) (by rw [wantC,Zc h0];rfl)
def fndOfC (dI:ItemD→ByteArray) (it:ItemD):FndC:=⟨0,dI it,it.claim⟩
def selBC (au:ByteArray) (rI:ItemD→Bool) (it:ItemD):Bool:=wantC au it&&rI it
def selFC (au:ByteArray) (rI:ItemD→Bool) (dI:ItemD→ByteArray) (I:List ItemD):List FndC:=(I.filter (selBC au rI)).map (fndOfC dI)
def selC (au:ByteArray) (rI:ItemD→Bool) (I:List ItemD):List ClaimD:=(I.filter (selBC au rI)).map ItemD.claim
theorem DK (au:ByteArray) (rI:ItemD→Bool) (dI:ItemD→ByteArray) (I:List ItemD):(selFC au rI dI I).map FndC.a=selC au rI I:=by rw [selFC,selC,Z0];rfl
structure PikIC (I:List ItemD) (au:ByteArray) (rI:ItemD→Bool) (dI:ItemD→ByteArray) where
 k:Nat
 hk:k≤I.length
 A:Option Addr
 c:Nat
 n:Nat
 hn:n=(selFC au rI dI (I.take k)).length
 xs:List Value
 hxs:xs=((selFC au rI dI (I.take k)).map FndC.cells).flatten
structure ValIC (Q:List FndC) where
 k:Nat
 hk:k≤Q.length
 A:Option Addr
 c:Nat
 xs:List Value
 hxs:xs=((Q.take k).map fun f=>f.a.cells).flatten
def wantVC (bW:Nat):Value:=.func (.func 253) #[] #[.pointer (some ⟨bW,0,none⟩)]
theorem yq (ks ki:SlV) (I:List ItemD) (bW:Nat) (au:ByteArray) (rI:ItemD→Bool) (dI:ItemD→ByteArray)
  (hR:∀ it∈I,Pu Tryz.prog 73 #[it.v] (fun w=>it.at_ w) (.bool (rI it)))
  (hD:∀ it∈I,Pu Tryz.prog 18 #[it.v] (fun w=>it.at_ w∧Glob w) (.string (dI it)))
  (hI:I.length≤1000) (hasc:SrC.Srt (selFC au rI dI I)) :
  Mk Tryz.prog 252 #[.agg #[ks.v,ki.v],wantVC bW] (fun w=>(Items w ki I∧CelD bW [.string au] w)∧Glob w)
   (fun u X'=>∃ s:SlV,u=s.v∧∀ w,X' w→Claims w s (selC au rI I)):=by
 refine bZ (args:=[_,_]) _ Tryz.func252 rfl Tryz.ntmps252 rfl fun av bor w0=>?_
 refine aM (p:=ki.n=I.length∧ki.n≤maxLen∧(0<I.length→ki.p.isSome=true)) (fun w h=>⟨h.1.1.len_,h.1.1.max_,h.1.1.some_⟩) fun ⟨hkn,hkm,hkp⟩=>?_
 simp only [maxLen] at hkm
 repeat' (first|refine gs ?_|refine gs1 fun _=>?_|fail)
 rename_i b2
 refine cJ 304 11 ?_
 refine ar (ι:=PikIC I au rI dI) (fun i=>⟨[(1,wantVC bW),(5,.slice i.A i.n i.c),(15,ki.v),(16,.int .i64 (ki.n:Nat)),(17,.int .i64 (i.k:Nat))],[orow 304 11 (.slice i.A i.n i.c) i.n i.xs],fun w=>(Items w ki I∧CelD bW [.string au] w)∧Glob w⟩) (fun i=>I.length-i.k) ⟨0,Z4 _,none,0,0,rfl,[],rfl⟩ (aj ao (.cons_cons _ (Zu _)) fun _ h=>h) fun i=>?_
 obtain ⟨k,hk,A,c,n,hn,xs,hxs⟩:=i
 simp only
 repeat' (first|refine gs ?_|refine gs1 fun _=>?_|(refine gp ?_ ?_<;>intro hx_ this)|fail)
 · have hlt:k<I.length:=by omega
   have hkp':=hkp aa
   obtain ⟨it,hit⟩:∃ it,I[k]?=some it:=⟨_,Zb hlt⟩
   have him:=Z6 hit
   have hnl:n≤1000:=by
    rw [hn,selFC,ZF]
    exact ZY (Qa _ _) (by rw [Qi];omega)
   repeat' (first|refine gs ?_|refine gs1 fun _=>?_|(refine aO (q:=k*49) ?_)|(refine ca (cs:=it.cells) (hF:=fun w h=>h.1.1.get hit) ?_)|(refine gp ?_ ?_<;>intro hx_ this)|fail)
   rename_i b7
   have hri:=hR it him
   have hdi:=hD it him
   have hwa:=zH bW au it
   have htk:selFC au rI dI (I.take (k+1))=selFC au rI dI (I.take k)++(bif selBC au rI it then [fndOfC dI it] else []):=by
    rw [selFC,selFC,Qg,hit,Qv,ZW,Qu]
    congr 1
    cases hb:selBC au rI it with
    | true=>simp [hb]
    | false=>simp [hb]
   cases hwt:wantC au it with
   | false =>
    rw [hwt] at hwa
    have hno:selFC au rI dI (I.take (k+1))=selFC au rI dI (I.take k):=by rw [htk,selBC,hwt];exact ZJ _
    refine fq (args:=[it.v]) (all:=[it.v,.pointer (some ⟨bW,0,none⟩)]) (first:=#[]) (caps:=#[.pointer (some ⟨bW,0,none⟩)]) (hx:=rfl) (ha:=rfl) (hall:=rfl) (hc:=hwa) (hX:=fun w h=>h.1.2) (h:=?_)
    repeat' (first|refine gs ?_|refine gs1 fun _=>?_|(refine gp ?_ ?_<;>intro hx_ this)|fail)
    exact ⟨(⟨k+1,hlt,A,c,n,by rw [hno];exact hn,xs,by rw [hno];exact hxs⟩:PikIC I au rI dI),(by show I.length-(k+1)<I.length-k;omega),aj ao (.cons _ (.cons _ (al _))) fun _ h=>h⟩
   | true =>
    rw [hwt] at hwa
    cases hrt:rI it with
    | false =>
     rw [hrt] at hri
     have hno:selFC au rI dI (I.take (k+1))=selFC au rI dI (I.take k):=by rw [htk,selBC,hwt,hrt];exact ZJ _
     refine fq (args:=[it.v]) (all:=[it.v,.pointer (some ⟨bW,0,none⟩)]) (first:=#[]) (caps:=#[.pointer (some ⟨bW,0,none⟩)]) (hx:=rfl) (ha:=rfl) (hall:=rfl) (hc:=hwa) (hX:=fun w h=>h.1.2) (h:=?_)
     repeat' (first|(refine ab (hc:=hri) (hX:=fun w h=>h.1.1.2 it him) ?_)|refine gs ?_|refine gs1 fun _=>?_|(refine gp ?_ ?_<;>intro hx_ this)|fail)
     exact ⟨(⟨k+1,hlt,A,c,n,by rw [hno];exact hn,xs,by rw [hno];exact hxs⟩:PikIC I au rI dI),(by show I.length-(k+1)<I.length-k;omega),aj ao (.cons _ (.cons _ (al _))) fun _ h=>h⟩
    | true =>
     rw [hrt] at hri
     have hyes:selFC au rI dI (I.take (k+1))=selFC au rI dI (I.take k)++[fndOfC dI it]:=by rw [htk,selBC,hwt,hrt];rfl
     refine fq (args:=[it.v]) (all:=[it.v,.pointer (some ⟨bW,0,none⟩)]) (first:=#[]) (caps:=#[.pointer (some ⟨bW,0,none⟩)]) (hx:=rfl) (ha:=rfl) (hall:=rfl) (hc:=hwa) (hX:=fun w h=>h.1.2) (h:=?_)
     repeat' (first|(refine ab (hc:=hri) (hX:=fun w h=>h.1.1.2 it him) ?_)|refine gs ?_|refine gs1 fun _=>?_|(refine gp ?_ ?_<;>intro hx_ this)|fail)
     rename_i b8
     (refine aq ⟨[0,1,2,4],[(3,⟨[5],[(6,⟨[],[(7,⟨[8],[]⟩)]⟩)]⟩)]⟩ [cel b8 54 it.claim.cells,cel b7 60 it.cells] (fun w=>(Items w ki I∧CelD bW [.string au] w)∧Glob w) (h:=?_))
     all_goals repeat' (first|(refine ab (hc:=hdi) (hX:=fun w h=>⟨h.1.1.2 it him,h.2⟩) ?_)|refine gdz ?_|refine ay (hsub:=by exact aK) (hy:=by first|(apply ft (cs:=(fndOfC dI it).cells);rfl;rfl)) ?_|refine az ?_ (h':=?_)|exact aA|refine du (size:=11) (vs:=[.agg (fndOfC dI it).cells.toArray]) (css:=(fndOfC dI it).cells) (hsz:=by rfl) (hcs:=by rfl) fun _=>?_|(refine ia ?_;refine aN (size:=11) (news:=(fndOfC dI it).cells) (q:=1) rfl rfl rfl rfl (fun _=>At.there _ (At.there _ (At.there _ (At.here _)))) (fun w G=>bX G ax rfl rfl 1) aa (by simp only [maxLen];omega) rfl ?_ rfl ?_;(first|with_reducible rfl|with_reducible assumption|with_reducible exact Zl|with_reducible exact Zn);intro A2 c2)|refine gs1 fun _=>?_|(refine gq ?_ ?_<;>intro hx_ this)|fail)
     all_goals
      repeat' (first|refine gs ?_|refine gs1 fun _=>?_|(refine gp ?_ ?_<;>intro hx_ this)|fail)
      exact ⟨(⟨k+1,hlt,A2,c2,n+1,by rw [hyes,ZA,←hn];rfl,xs++(fndOfC dI it).cells,by rw [hyes,hxs];simp⟩:PikIC I au rI dI),(by show I.length-(k+1)<I.length-k;omega),aj ao (.cons _ (.cons _ (.cons _ (al _)))) fun _ h=>h⟩
 have hkE:k=I.length:=by omega
 rw [hkE,Qh] at hn hxs
 obtain ⟨P,hP⟩:∃ P,selFC au rI dI I=P:=⟨_,rfl⟩
 rw [hP] at hn hxs
 have hPl:P.length≤I.length:=by rw [←hP,selFC,ZF];exact Qa _ _
 subst hxs
 refine cj (pre:=[SrC.postR ⟨A,n,c⟩ P]) (fr:=[]) (first:=#[]) (caps:=#[]) (hc:=SrC.sortStable_ct ⟨A,n,c⟩ P hn (by show n≤1000000;omega)) (hX:=fun _ _=>trivial) (h:=?_)
 rintro v R X' ⟨rfl,Q,hQ,rfl⟩
 have hQP:Q=P:=hQ.2 (by rw [←hP];exact hasc)
 subst hQP
 have hQl:Q.length=n:=hn.symm
 have hnI:n≤1000:=by omega
 refine cD (X':=fun w=>(Items w ki I∧CelD bW [.string au] w)∧Glob w) (fun w h=>h.1) ?_
 repeat' (first|refine gs ?_|refine gs1 fun _=>?_|(refine iR (c:=n) (hm:=Nat.ble_eq_true_of_le aa) (hm2:=Nat.ble_eq_true_of_le aa) fun bv=>?_)|(refine gp ?_ ?_<;>intro hx_ this)|fail)
 refine cK (r:=SrC.postR ⟨A,n,c⟩ Q) bz (p:=0<n→A.isSome=true) (fun w h h0=>cA h h0) fun hAp=>?_
 refine ar (ι:=ValIC Q) (fun i=>⟨[(11,.slice i.A i.k i.c),(47,.slice A n c),(48,.int .i64 (n:Nat)),(49,.int .i64 (i.k:Nat))],[orow 54 9 (.slice i.A i.k i.c) i.k i.xs,SrC.postR ⟨A,n,c⟩ Q],fun w=>(Items w ki I∧CelD bW [.string au] w)∧Glob w⟩) (fun i=>Q.length-i.k) ⟨0,Z4 _,_,_,[],rfl⟩ (aj ao (al _) fun _ h=>h) fun i=>?_
 obtain ⟨k2,hk2,A2,c2,xs2,hxs2⟩:=i
 simp only
 repeat' (first|refine gs ?_|refine gs1 fun _=>?_|(refine gp ?_ ?_<;>intro hx_ this)|fail)
 · have hlt:k2<Q.length:=by omega
   have hAp':=hAp aa
   obtain ⟨f,hf⟩:∃ f,Q[k2]?=some f:=⟨_,Zb hlt⟩
   repeat' (first|refine du (size:=9) (vs:=[f.a.v]) (css:=f.a.cells) (hsz:=by rfl) (hcs:=by rfl) fun _=>?_|refine gs ?_|refine gs1 fun _=>?_|(refine aO (q:=k2*11) ?_)|(refine ai (ib (size:=11) (m:=n) (i:=k2) (xs:=Q.map FndC.cells) (cs:=f.cells) rfl (.tail _ (.head _)) (by rw [ZF];exact hQl.symm) (Cf Q) (by simp [hf])) rfl rfl rfl ?_)|(refine aw (vs:=f.a.cells) (hv:=rfl) ?_)|(refine gp ?_ ?_<;>intro hx_ this)|fail)
   refine aN (size:=9) (news:=f.a.cells) (q:=1) rfl rfl rfl rfl (fun _=>At.there _ (At.there _ (At.here _))) (fun w G=>bX G ax rfl rfl 1) aa (by simp only [maxLen];omega) rfl ?_ rfl ?_
   · (first|with_reducible rfl|with_reducible assumption|with_reducible exact Zl|with_reducible exact Zn)
   intro A3 c3
   repeat' (first|refine gs ?_|refine gs1 fun _=>?_|(refine gp ?_ ?_<;>intro hx_ this)|fail)
   exact ⟨(⟨k2+1,hlt,A3,c3,xs2++f.a.cells,by rw [Qg,hf,hxs2];simp⟩:ValIC Q),(by show Q.length-(k2+1)<Q.length-k2;omega),aj ao (.cons _ (.cons _ (al _))) fun _ h=>h⟩
 have hk2E:k2=Q.length:=by omega
 rw [hk2E,Qh] at hxs2
 have hLp:Q.map FndC.a=selC au rI I:=by rw [←DK au rI dI I,hP]
 refine ad (ag rfl rfl) ⟨⟨A2,k2,c2⟩,rfl,fun w h=>?_⟩
 rw [←hLp]
 have hr:=h.2 (orow 54 9 (.slice A2 k2 c2) k2 xs2) (.head _)
 exact ck (xs:=(Q.map FndC.a).map ClaimD.cells) (by rw [Z0];rw [hxs2] at hr;exact hr) (by rw [ZF,ZF];exact hk2E) (tK _)
theorem lX (ks ki:SlV) (I:List ItemD) (au:ByteArray) (rI:ItemD→Bool) (dI:ItemD→ByteArray)
  (hR:∀ it∈I,Pu Tryz.prog 73 #[it.v] (fun w=>it.at_ w) (.bool (rI it)))
  (hD:∀ it∈I,Pu Tryz.prog 18 #[it.v] (fun w=>it.at_ w∧Glob w) (.string (dI it)))
  (hI:I.length≤1000) (hasc:SrC.Srt (selFC au rI dI I)) :
  Mk Tryz.prog 190 #[.agg #[ks.v,ki.v],.string au] (fun w=>Items w ki I∧Glob w)
   (fun u X'=>∃ s:SlV,u=s.v∧∀ w,X' w→Claims w s (selC au rI I)):=by
 refine bZ (args:=[_,_]) _ Tryz.func190 rfl Tryz.ntmps190 rfl fun av bor w0=>?_
 repeat' (first|refine gs ?_|refine gs1 fun _=>?_|(refine eB ?_)|(refine gp ?_ ?_<;>intro hx_ this)|fail)
 rename_i b2 b3
 refine bL ?_
 refine bS (hc:=yq ks ki I b3 au rI dI hR hD hI hasc) (hX:=fun w h=>⟨⟨h.1.1,fC h.2⟩,h.1.2⟩) fun v X1 h1=>?_
 obtain ⟨s,rfl,hw⟩:=h1
 repeat' (first|refine gs ?_|refine gs1 fun _=>?_|(refine gp ?_ ?_<;>intro hx_ this)|fail)
 exact ad (ag rfl rfl) ⟨s,rfl,fun w h=>hw w h.1.2⟩
structure FndB where
 rank:Int
 dg:ByteArray
 a:BallotD
def FndB.cells (f:FndB):List Value:=.int .i64 f.rank::.string f.dg::f.a.cells
def Ballots (w:World) (s:SlV) (l:List BallotD):Prop:=RowsD w 7 s (l.map BallotD.cells)
theorem rc (l:List BallotD):∀ r∈l.map BallotD.cells,r.length=7:=fun r hr=>by
 obtain ⟨c,_,rfl⟩:=QI.1 hr
 rfl
def wantB (au:ByteArray) (gn:Int) (it:ItemD):Bool:=decide (it.kind=2)&&(seqB it.ballot.actor au&&decide (it.ballot.gen=gn))
theorem zJ (bW bG:Nat) (au:ByteArray) (gn:Int) (it:ItemD):Pu Tryz.prog 298 #[it.v,.pointer (some ⟨bW,0,none⟩),.pointer (some ⟨bG,0,none⟩)] (fun w=>CelD bW [.string au] w∧CelD bG [.int .i64 gn] w) (.tuple #[it.ballot.v,.int .i64 0,.bool (wantB au gn it)]):=by
 refine ak (args:=[_,_,_]) _ Tryz.func298 rfl Tryz.ntmps298 rfl fun av bor w0=>?_
 repeat' (first|refine gs ?_|refine gs1 fun _=>?_|(refine aw (vs:=it.ballot.cells) (hv:=rfl) ?_)|(refine gp ?_ ?_<;>intro hx_ this)|fail)
 rename_i b3 b4 b7
 cases h0:decide (it.kind=2) with
 | false =>
  (refine aq ⟨[0,1,2,3,4,5,6,7,8,9,10,11,12,13,14,15],[(16,⟨[17,18],[]⟩)]⟩ [cel b7 56 it.ballot.cells,cel b3 60 it.cells] (fun w=>CelD bW [.string au] w∧CelD bG [.int .i64 gn] w) (h:=?_))
  all_goals repeat' (first|refine ay (hsub:=by exact aK) (hy:=by first|(apply dS false;rfl;rfl;exact h0)) ?_|refine gdz ?_|refine ay (hsub:=by exact aK) (hy:=by first|(apply ef;rfl;exact (fun w h=>h.1 0 _ rfl))|(apply ef;rfl;exact (fun w h=>h.2 0 _ rfl))) ?_|refine az ?_ (h':=?_)|exact aA|refine gs1 fun _=>?_|(refine gq ?_ ?_<;>intro hx_ this)|fail)
  all_goals
   repeat' (first|refine gs ?_|refine gs1 fun _=>?_|(refine gp ?_ ?_<;>intro hx_ this)|fail)
   exact ad (df rfl rfl rfl rfl (.tail _ (.head _)) rfl) (by rw [wantB,h0];rfl)
 | true =>
  cases h1:seqB it.ballot.actor au with
  | false =>
   (refine aq ⟨[0,1,2,3,4,5,6,7,8,9,10,11,12,13,14,15],[(16,⟨[17,18],[]⟩)]⟩ [cel b7 56 it.ballot.cells,cel b3 60 it.cells] (fun w=>CelD bW [.string au] w∧CelD bG [.int .i64 gn] w) (h:=?_))
   all_goals repeat' (first|refine ay (hsub:=by exact aK) (hy:=by first|(apply dS true;rfl;rfl;exact h0)|(apply dA false;rfl;rfl;exact h1)) ?_|refine gdz ?_|refine ay (hsub:=by exact aK) (hy:=by first|(apply ef;rfl;exact (fun w h=>h.1 0 _ rfl))|(apply ef;rfl;exact (fun w h=>h.2 0 _ rfl))) ?_|refine az ?_ (h':=?_)|exact aA|refine gs1 fun _=>?_|(refine gq ?_ ?_<;>intro hx_ this)|fail)
   all_goals
    repeat' (first|refine gs ?_|refine gs1 fun _=>?_|(refine gp ?_ ?_<;>intro hx_ this)|fail)
    exact ad (df rfl rfl rfl rfl (.tail _ (.head _)) rfl) (by rw [wantB,h0,h1];rfl)
  | true =>
   cases h2:decide (it.ballot.gen=gn) with
   | false =>
    (refine aq ⟨[0,1,2,3,4,5,6,7,8,9,10,11,12,13,14,15],[(16,⟨[17,18],[]⟩)]⟩ [cel b7 56 it.ballot.cells,cel b3 60 it.cells] (fun w=>CelD bW [.string au] w∧CelD bG [.int .i64 gn] w) (h:=?_))
    all_goals repeat' (first|refine ay (hsub:=by exact aK) (hy:=by first|(apply dS true;rfl;rfl;exact h0)|(apply dA true;rfl;rfl;exact h1)|(apply dS false;rfl;rfl;exact h2)) ?_|refine gdz ?_|refine ay (hsub:=by exact aK) (hy:=by first|(apply ef;rfl;exact (fun w h=>h.1 0 _ rfl))|(apply ef;rfl;exact (fun w h=>h.2 0 _ rfl))) ?_|refine az ?_ (h':=?_)|exact aA|refine gs1 fun _=>?_|(refine gq ?_ ?_<;>intro hx_ this)|fail)
    all_goals
     repeat' (first|refine gs ?_|refine gs1 fun _=>?_|(refine gp ?_ ?_<;>intro hx_ this)|fail)
     exact ad (df rfl rfl rfl rfl (.tail _ (.head _)) rfl) (by rw [wantB,h0,h1,h2];rfl)
   | true =>
    (refine aq ⟨[0,1,2,3,4,5,6,7,8,9,10,11,12,13,14,15],[(16,⟨[17,18],[]⟩)]⟩ [cel b7 56 it.ballot.cells,cel b3 60 it.cells] (fun w=>CelD bW [.string au] w∧CelD bG [.int .i64 gn] w) (h:=?_))
    all_goals repeat' (first|refine ay (hsub:=by exact aK) (hy:=by first|(apply dS true;rfl;rfl;first|exact h0|exact h2)|(apply dA true;rfl;rfl;exact h1)) ?_|refine gdz ?_|refine ay (hsub:=by exact aK) (hy:=by first|(apply ef;rfl;exact (fun w h=>h.1 0 _ rfl))|(apply ef;rfl;exact (fun w h=>h.2 0 _ rfl))) ?_|refine az ?_ (h':=?_)|exact aA|refine gs1 fun _=>?_|(refine gq ?_ ?_<;>intro hx_ this)|fail)
    all_goals
     repeat' (first|refine gs ?_|refine gs1 fun _=>?_|(refine gp ?_ ?_<;>intro hx_ this)|fail)
     exact ad (df rfl rfl rfl rfl (.tail _ (.head _)) rfl) (by rw [wantB,h0,h1,h2];rfl)
end Go.Proofs.YtaolfiikahlmkaaGreatDoor
namespace Go.Proofs.YtaolfiikahlmkaaGreatDoor
open Go Go.Proofs Sy SrG
namespace SrB
theorem cellsF (P:List FndB):∀ r∈P.map FndB.cells,r.length=9:=fun r hr=>by
 obtain ⟨c,_,rfl⟩:=QI.1 hr
 rfl
abbrev postR (s:SlV) (P:List FndB):Res:=orow 329 9 (.slice s.p s.n s.c) s.n (P.map FndB.cells).flatten
theorem dk:∀ (L:List FndB) (p:Nat) (x:FndB),p<L.length→(L.map FndB.cells).flatten.take (p*9)++x.cells++(L.map FndB.cells).flatten.drop (p*9+9)=((L.set p x).map FndB.cells).flatten
 | [],p,x,h=>absurd h (by simp)
 | c::L,0,x,h=>by
  have h6:c.cells.length=9:=rfl
  rw [List.set_cons_zero,Z1,Z1,Qb,Qb,Nat.zero_mul,ZU,List.take_zero,ZL,List.drop_append,h6,Qw (by omega)]
  rfl
 | c::L,p+1,x,h=>by
  have h6:c.cells.length=9:=rfl
  have ih:=dk L p x (by simpa using h)
  rw [List.set_cons_succ,Z1,Z1,Qb,Qb,←ih,List.take_append,List.drop_append,h6,Qf aa,Qw aa,
   show (p+1)*9-9=p*9 from by omega,show (p+1)*9+9-9=p*9+9 from by omega,ZL,ZC,ZC,ZC]
theorem eD {P:List FndB} {i j:Nat} {x y:FndB} (hi:P[i]?=some x) (hj:P[j]?=some y):((P.set i y).set j x).Perm P:=by
 obtain ⟨h1,rfl⟩:=QJ.1 hi
 obtain ⟨h2,rfl⟩:=QJ.1 hj
 exact List.set_set_perm h1 h2
section
variable {N:Nat} {av bor:List Nat} {w0:World} {st:St} {ty:TypeId} {x y:Operand} {E:Env} {loc:List Res} {X:World→Prop} {ops:Array Oper} {kk:St→Prop} {pos:String} {af:Array Edge} {g:Option (Nat×Bool)} {rest:List Oper} {bb want:Bool}
theorem ci {A:Option Addr} {m c i:Nat} {P:List FndB} {p:FndB} (hx:ev st.env x=some (elP A (i*9))) (hm:orow 329 9 (.slice A m c) m (P.map FndB.cells).flatten∈st.loc) (hn:m=P.length) (hi:P[i]?=some p) :
  Sy.Yields Tryz.prog N av bor w0 st (.load 329 x) ty (.agg p.cells.toArray):=ib (xs:=P.map FndB.cells) (cs:=p.cells) hx hm (by simp [hn]) (cellsF P) (by simp [hi])
theorem cQ {d:Option Tmp} {loc':List Res} {A:Option Addr} {m c i:Nat} {P:List FndB} {p:FndB} (hx:ev E x=some (elP A (i*9)):=by rfl) (hy:ev E y=some (.agg p.cells.toArray):=by rfl) (hi:i<m:=by omega) (hn:m=P.length)
  (hA:At (orow 329 9 (.slice A m c) m (P.map FndB.cells).flatten) (orow 329 9 (.slice A m c) m ((P.set i p).map FndB.cells).flatten) loc loc':=by (repeat (first|exact At.here _|apply At.there))) (hg:gdB ops E g=some (bb,want):=by rfl) (hb:bb=want:=by exact am) (hd:inB N d=true:=by rfl)
  (h:Sw Tryz.prog N av bor w0 ops rest ⟨putE E d undef,loc',X⟩ kk):Sw Tryz.prog N av bor w0 ops (⟨d,.store 329 x y,ty,pos,af,g⟩::rest) ⟨E,loc,X⟩ kk :=
 qg (i:=i) (size:=9) (vs:=p.cells) ae hx hy rfl rfl rfl hi (dk P i p aa) hA hg hb hd h
end
def PermAt (s:SlV) (P:List FndB) (u:Value) (R:List Res) (X:World→Prop):Prop:=u=.tuple #[]∧∃ Q:List FndB,Q.Perm P∧R=[postR s Q]
structure PermI (P:List FndB) (n:Nat) where
 k:Nat
 hk:k≤n
 Q:List FndB
 hQ:Q.Perm P
theorem cG (s:SlV) (P:List FndB) (a b n:Nat) (fv:Value) (hs:s.n=P.length) (hm:s.n≤1000000) (ha:a+n≤s.n) (hb:b+n≤s.n) :
  Ct Tryz.prog 326 #[s.v,.int .i64 (a:Nat),.int .i64 (b:Nat),.int .i64 (n:Nat),fv] [postR s P] (fun _=>True) (PermAt s P):=by
 refine bQ (args:=[_,_,_,_,_]) _ Tryz.func326 rfl Tryz.ntmps326 rfl fun av bor w0=>?_
 refine cK (r:=postR s P) ax (p:=0<s.n→s.p.isSome=true) (fun w h hn=>cA h hn) fun hp=>?_
 repeat' (first|refine gs ?_|fail)
 refine ar (ι:=PermI P n) (fun i=>⟨[(0,s.v),(1,.int .i64 (a:Nat)),(2,.int .i64 (b:Nat)),(3,.int .i64 (n:Nat)),(10,.int .i64 (i.k:Nat))],[postR s i.Q],fun _=>True⟩) (fun i=>n-i.k) ⟨0,Z4 _,P,Qn _⟩ (aj ao (al _) fun _ h=>h) fun i=>?_
 obtain ⟨k,hk,Q,hQ⟩:=i
 simp only
 have hl:=hQ.length_eq
 repeat' (first|refine gs ?_|(refine gp ?_ ?_<;>intro hx_ this)|fail)
 · have hlt:k<n:=by omega
   have hp':=hp aa
   obtain ⟨x,hx⟩:∃ x,Q[a+k]?=some x:=⟨_,Zb aa⟩
   obtain ⟨y,hy⟩:∃ y,Q[b+k]?=some y:=⟨_,Zb aa⟩
   (refine aq ⟨[0,1,2,3,4,5,6,7,8,9,10,11,12,14,15,16,17,18],[(13,⟨[],[(19,⟨[20],[(21,⟨[22],[(23,⟨[],[]⟩)]⟩)]⟩)]⟩),(19,⟨[],[(13,⟨[20],[(21,⟨[22],[(23,⟨[],[]⟩)]⟩)]⟩)]⟩)]⟩ [] (fun _=>True) (h:=?_))
   all_goals repeat' (first|refine gd ?_|refine ay (hy:=by first|(apply aC (q:=(a+k)*9);rfl;rfl;omega;omega;assumption;(first|rfl|omega))|(apply aC (q:=(b+k)*9);rfl;rfl;omega;omega;assumption;(first|rfl|omega))) ?_|refine az ?_ (h':=?_)|exact aA|(refine ai (ci (i:=a+k) (P:=Q) rfl ax aa hx) rfl rfl rfl ?_)|(refine ai (ci (i:=b+k) (P:=Q) rfl ax aa hy) rfl rfl rfl ?_)|((refine cQ (i:=a+k) (p:=y) rfl rfl aa (by first|omega|(simp only [Z9];omega)) (At.here _) rfl am rfl ?_))|((refine cQ (i:=b+k) (p:=x) rfl rfl aa (by first|omega|(simp only [Z9];omega)) (At.here _) rfl am rfl ?_))|(refine gq ?_ ?_<;>intro hx_ this)|fail)
   all_goals
    repeat' (first|refine gs ?_|(refine gp ?_ ?_<;>intro hx_ this)|fail)
    exact ⟨(⟨k+1,hlt,(Q.set (a+k) y).set (b+k) x,(eD hx hy).trans hQ⟩:PermI P n),(by show n-(k+1)<n-k;omega),aj ao (al _) fun _ h=>h⟩
 · exact bK (bu rfl) ⟨rfl,Q,hQ,rfl⟩
section
variable {N:Nat} {av bor:List Nat} {w0:World} {ops:Array Oper} {rest:List Oper} {k:St→Prop} {E:Env} {X:World→Prop} {d:Option Tmp} {ty:TypeId} {pos:String} {af:Array Edge} {g:Option (Nat×Bool)} {bb want:Bool}
theorem cS {x:Operand} {xs:List Operand} {ats:Array TypeId} {f:FuncId} {args:List Value} {s:SlV} {Q:List FndB}
  (hx:ev E x=some (.func (.func f) #[] #[]):=by rfl) (ha:evs E xs=some args:=by rfl) (hg:gdB ops E g=some (bb,want):=by rfl) (hb:bb=want:=by exact am) (hd:inB N d=true:=by rfl) (hf:FnBody Tryz.prog f:=by infer_instance)
  (hc:Ct Tryz.prog f args.toArray [postR s Q] (fun _=>True) (PermAt s Q))
  (h:∀ Q':List FndB,Q'.Perm Q→Sw Tryz.prog N av bor w0 ops rest ⟨putE E d (.tuple #[]),[postR s Q'],X⟩ k) :
  Sw Tryz.prog N av bor w0 ops (⟨d,.call ⟨.value x,xs.toArray,ats⟩,ty,pos,af,g⟩::rest) ⟨E,[postR s Q],X⟩ k :=
 cj (pre:=[postR s Q]) (fr:=[]) (first:=#[]) (caps:=#[]) (Post:=PermAt s Q) hx ha rfl hg hb hd hf (by simpa using hc) (fun _ _=>trivial) fun u R X' ⟨h1,Q',h2,h3⟩=>by
  subst h1
  subst h3
  refine jC (fun a w ok=>?_) (h Q' h2)
  exact ok.via fun M G=>G.imp fun _ h=>h.1
end
structure RotI (P:List FndB) (p q:Nat) where
 i:Nat
 j:Nat
 h1:1≤i
 h2:i≤p
 h3:1≤j
 h4:j≤q
 Q:List FndB
 hQ:Q.Perm P
theorem gz (s:SlV) (P:List FndB) (a m b:Nat) (fv:Value) (hs:s.n=P.length) (hm:s.n≤1000000) (ha:a<m) (hb:m<b) (hbs:b≤s.n) :
  Ct Tryz.prog 325 #[s.v,.int .i64 (a:Nat),.int .i64 (m:Nat),.int .i64 (b:Nat),fv] [postR s P] (fun _=>True) (PermAt s P):=by
 refine bQ (args:=[_,_,_,_,_]) _ Tryz.func325 rfl Tryz.ntmps325 rfl fun av bor w0=>?_
 repeat' (first|refine bp (hq:=by omega) ?_|refine gs ?_|(refine gp ?_ ?_<;>intro hx_ this)|fail)
 refine ar (ι:=RotI P (m-a) (b-m)) (fun r=>⟨[(0,s.v),(2,.int .i64 (m:Nat)),(4,fv),(10,.int .i64 (r.i:Nat)),(11,.int .i64 (r.j:Nat))],[postR s r.Q],fun _=>True⟩) (fun r=>r.i+r.j) ⟨m-a,b-m,by omega,by omega,by omega,by omega,P,Qn _⟩ (aj ao (al _) fun _ h=>h) fun r=>?_
 obtain ⟨i,j,h1,h2,h3,h4,Q,hQ⟩:=r
 simp only
 have hl:=hQ.length_eq
 by_cases hij:i=j
 · repeat' (first|refine gI (hab:=by omega) ?_|refine bp (hq:=by omega) ?_|refine gs ?_|(refine cS (hc:=cG s Q (m-i) m i fv aa hm aa aa) (h:=fun Q2 hQ2=>?_))|(refine gp ?_ ?_<;>intro hx_ this)|fail)
   exact bK (bu rfl) ⟨rfl,Q2,hQ2.trans hQ,rfl⟩
 · repeat' (first|refine bp (hq:=by omega) ?_|refine aV (hq:=by omega) ?_|refine gs ?_|(refine cS (hc:=cG s Q (m-i) m j fv aa hm aa aa) (h:=fun Q2 hQ2=>?_))|(refine cS (hc:=cG s Q (m-i) (m+j-i) i fv aa hm aa aa) (h:=fun Q2 hQ2=>?_))|(refine gp ?_ ?_<;>intro hx_ this)|fail)
   · exact ⟨(⟨i-j,j,by omega,by omega,h3,h4,Q2,hQ2.trans hQ⟩:RotI P (m-a) (b-m)),(by show i-j+j<i+j;omega),aj ao (al _) fun _ h=>h⟩
   · exact ⟨(⟨i,j-i,h1,h2,by omega,by omega,Q2,hQ2.trans hQ⟩:RotI P (m-a) (b-m)),(by show i+(j-i)<i+j;omega),aj ao (al _) fun _ h=>h⟩
   · have h9:(i:Int)=(j:Int):=by simpa using hx_
     exact absurd (show i=j by omega) hij
def cmpX (x y:FndB):Int:=cmp2 x.rank y.rank x.dg y.dg
theorem eN (x y:FndB):Pu Tryz.prog 315 #[.agg x.cells.toArray,.agg y.cells.toArray] (fun _=>True) (.int .i64 (cmpX x y)):=by
 refine ak (args:=[_,_]) _ Tryz.func315 rfl Tryz.ntmps315 rfl fun av bor w0=>?_
 have h1:=iG x.rank y.rank
 have h2:=g6 x.dg y.dg
 rw [cmpX,cmp2]
 generalize cmpI x.rank y.rank=k at *
 generalize SrG.cmpB_g x.dg y.dg=l at *
 have h3:=fun s=>uM s k l
 repeat' (first|refine gs ?_|refine gs1 fun _=>?_|(refine gp ?_ ?_<;>intro hx_ this)|fail)
 rename_i b2 b3
 (refine aq ⟨[0,1,2,3,5,6,7,8],[(4,⟨[],[(9,⟨[],[(10,⟨[],[(11,⟨[12],[]⟩)]⟩)]⟩)]⟩)]⟩ [cel b3 329 y.cells,cel b2 329 x.cells] (fun _=>True) (h:=?_))
 all_goals repeat' (first|(refine ab (hc:=h1) (hX:=fun _ _=>trivial) ?_)|(refine ab (hc:=h2) (hX:=fun _ _=>trivial) ?_)|(refine ab (hc:=h3 ⟨some ⟨bs,0,none⟩,2,2⟩) (hX:=fun w h=>bt (xs:=[[.int .i64 k],[.int .i64 l]]) h.2 rfl (by decide) (by simp)) ?_)|refine gdz ?_|refine az ?_ (h':=?_)|exact aA|((refine cR (len:=2) (vs:=[.int .i64 k,.int .i64 l]) fun bs=>?_;refine bL ?_))|refine gs1 fun _=>?_|(refine gq ?_ ?_<;>intro hx_ this)|fail)
 all_goals
  repeat' (first|refine gs ?_|refine gs1 fun _=>?_|(refine gp ?_ ?_<;>intro hx_ this)|fail)
  exact ad (ag rfl rfl) rfl
def cmpF:Value:=.func (.func 315) #[] #[]
def Srt (P:List FndB):Prop:=∀ (i j:Nat) (x y:FndB),i<j→P[i]?=some x→P[j]?=some y→¬ cmpX y x<0
def Rel (P Q:List FndB):Prop:=Q.Perm P∧(Srt P→Q=P)
theorem Rel.refl (P:List FndB):Rel P P:=⟨Qn _,fun _=>rfl⟩
theorem Rel.trans {P Q R:List FndB} (h:Rel P Q) (k:Rel Q R):Rel P R:=⟨k.1.trans h.1,fun hs=>by rw [k.2 (h.2 hs▸hs),h.2 hs]⟩
theorem Rel.swap {P Q:List FndB} (h:Rel P Q) {i j:Nat} {x y:FndB} (hi:Q[i]?=some x) (hj:Q[j]?=some y) (hno:Srt P→False):Rel P ((Q.set i y).set j x):=⟨(eD hi hj).trans h.1,fun hs=>(hno hs).elim⟩
theorem Rel.srt {P Q:List FndB} (h:Rel P Q) (hs:Srt P):Srt Q:=by rw [h.2 hs];exact hs
theorem Rel.perm {P Q Q':List FndB} (h:Rel P Q) (k:Q'.Perm Q) (hno:Srt P→False):Rel P Q':=⟨k.trans h.1,fun hs=>(hno hs).elim⟩
def RelAt (s:SlV) (P:List FndB) (u:Value) (R:List Res) (X:World→Prop):Prop:=u=.tuple #[]∧∃ Q:List FndB,Rel P Q∧R=[postR s Q]
end SrB
end Go.Proofs.YtaolfiikahlmkaaGreatDoor
